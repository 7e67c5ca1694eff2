/- Lemmas for the statement: TreeH, TreeGo, Wrong, HandK, HandR, HandC, T4I, T5I, Full, TreeC, ApplyA, SnapPut, SnapD, WLaw, WLaw2, WLaw3, SnapL, SnapL2, SnapL3. -/
import Derived.Deep.DeepCutAuto
import Derived.Test.YtfoglgeiipafeaaDoorPt1
import Derived.Test.YtfoglgeiipafeaaDoorPt2
import Derived.Test.YtfoglgeiipafeaaDoorPt3
import Derived.Test.YtfoglgeiipafeaaDoorPt4
/- package tree: Good, of a tree with a bad head. -/
namespace Go.Proofs.YtfoglgeiipafeaaDoor
open Go.RowKit Go.ChangeShapes Go.WideShapes Go.ChangeAt
theorem good_nohead {t : Tr} (h : headB t = false) : goodTree t = false := by unfold goodTree; rw [h]; rfl
theorem head_no {z : Int} {n : Node} {r : List Node} {ss : List Int} (h : headB ⟨z, n :: r, ss⟩ = false) (h4 : (n :: r).length ≤ 400) (hp : n.path = slash) (ho : n.owner = 0) : ¬ Zx z := by
  intro hz
  unfold headB at h
  simp only at h
  rw [decide_eq_true h4, decide_eq_true (show 0 ≤ z ∧ z < 4611686018427387904 from hz), decide_eq_true hp, decide_eq_true ho] at h
  cases h
set_option maxRecDepth 100000 in
set_option maxHeartbeats 1000000 in
theorem trGood_nohead (z : Int) (v v2 : Value) (l : List Node) (ss : List Int) (w : World) (h : Sl cNode 9 w v l) (h2 : Sl cInt 1 w v2 ss) (hh : headB ⟨z, l, ss⟩ = false) :
    Calls Tryd.prog 10 #[.agg #[.int .i64 z, v, v2]] w fun e w' => e = .returned (.bool (goodTree ⟨z, l, ss⟩)) ∧ Below w.heap.size w w' := by
  rw [good_nohead hh]
  obtain ⟨A, c, rfl, h1, h1b⟩ := h.form
  obtain ⟨A2, c2, rfl, h3, h3b⟩ := h2.form
  cases l with
  | nil =>
    simp only [List.length_nil]
    clear h h2 hh
    go_enter Tryd.func10, Tryd.ntmps10
    go_wp2_with fail
    go_ret
    exact ⟨rfl, (by repeat (first | with_reducible exact Below.refl _ _ | with_reducible assumption | with_reducible exact below_d1 _ _ _ _ _ | with_reducible exact below_d2 _ _ _ _ _ _ _ _ | with_reducible exact below_d3 _ _ _ _ _ | with_reducible exact below_d4 _ _ _ _ _ _ _ _ | with_reducible exact below_d5 _ _ | with_reducible refine Below.drew ?_ | with_reducible refine Below.drewN' ?_ _ | with_reducible refine below_grow0 _ _ ?_ | with_reducible refine below_alloc0 _ ?_ | with_reducible refine Below.setCell ?_ ?_ _ | with_reducible refine Below.alloc ?_ ?_ _ | with_reducible refine Below.grow _ _ _ ?_ ?_ | omega | (simp; done) | (simp; omega)))⟩
  | cons n r =>
    obtain ⟨bk, off, rfl, hbw, n0, n1, n2, n3, n4, n5, n6, n7, n8⟩ := h.Node_at (i := 0) (x := n) rfl
    simp only [Nat.zero_mul, Nat.add_zero] at n0 n1 n2 n3 n4 n5 n6 n7 n8
    have HNO := Lib.hid (fun h4 hp ho => head_no hh h4 hp ho)
    have HG := Lib.hid (fun (W : World) (hz : ¬ Zx z) => zgood_no z W hz)
    have hm1 : 0 < (n :: r).length := Nat.succ_pos _
    generalize (n :: r).length = m at *
    have hm0 : ((m : Int) == 0) = false := beq_eq_false_iff_ne.2 (by omega)
    clear h h2 hh
    by_cases g1 : 400 < m
    · have hm4 : decide ((400 : Int) < (m : Int)) = true := decide_eq_true (by omega)
      clear HNO HG
      go_enter Tryd.func10, Tryd.ntmps10
      go_wp2_with fail
      go_ret
      exact ⟨rfl, (by repeat (first | with_reducible exact Below.refl _ _ | with_reducible assumption | with_reducible exact below_d1 _ _ _ _ _ | with_reducible exact below_d2 _ _ _ _ _ _ _ _ | with_reducible exact below_d3 _ _ _ _ _ | with_reducible exact below_d4 _ _ _ _ _ _ _ _ | with_reducible exact below_d5 _ _ | with_reducible refine Below.drew ?_ | with_reducible refine Below.drewN' ?_ _ | with_reducible refine below_grow0 _ _ ?_ | with_reducible refine below_alloc0 _ ?_ | with_reducible refine Below.setCell ?_ ?_ _ | with_reducible refine Below.alloc ?_ ?_ _ | with_reducible refine Below.grow _ _ _ ?_ ?_ | omega | (simp; done) | (simp; omega)))⟩
    · have hm4 : decide ((400 : Int) < (m : Int)) = false := decide_eq_false (by omega)
      by_cases g2 : n.path = slash
      · have hpp : (slash.toList == [47]) = true := by unfold slash; rw [ByteArray.toList_eq]; rfl
        rw [g2] at n0
        by_cases g3 : n.owner = 0
        · have hz := HNO.out (by omega) g2 g3
          rw [g3] at n7
          clear HNO g2 g3
          go_enter Tryd.func10, Tryd.ntmps10
          go_wp2_with ((go_at_call 19; refine (HG.out _ hz).mono ?_; rintro e w1 ⟨rfl, rfl⟩; skip))
          go_ret
          exact ⟨rfl, (by repeat (first | with_reducible exact Below.refl _ _ | with_reducible assumption | with_reducible exact below_d1 _ _ _ _ _ | with_reducible exact below_d2 _ _ _ _ _ _ _ _ | with_reducible exact below_d3 _ _ _ _ _ | with_reducible exact below_d4 _ _ _ _ _ _ _ _ | with_reducible exact below_d5 _ _ | with_reducible refine Below.drew ?_ | with_reducible refine Below.drewN' ?_ _ | with_reducible refine below_grow0 _ _ ?_ | with_reducible refine below_alloc0 _ ?_ | with_reducible refine Below.setCell ?_ ?_ _ | with_reducible refine Below.alloc ?_ ?_ _ | with_reducible refine Below.grow _ _ _ ?_ ?_ | omega | (simp; done) | (simp; omega)))⟩
        · have hno : (n.owner == 0) = false := beq_eq_false_iff_ne.2 g3
          generalize n.owner = no at *
          clear HNO HG g2
          go_enter Tryd.func10, Tryd.ntmps10
          go_wp2_with fail
          go_ret
          exact ⟨rfl, (by repeat (first | with_reducible exact Below.refl _ _ | with_reducible assumption | with_reducible exact below_d1 _ _ _ _ _ | with_reducible exact below_d2 _ _ _ _ _ _ _ _ | with_reducible exact below_d3 _ _ _ _ _ | with_reducible exact below_d4 _ _ _ _ _ _ _ _ | with_reducible exact below_d5 _ _ | with_reducible refine Below.drew ?_ | with_reducible refine Below.drewN' ?_ _ | with_reducible refine below_grow0 _ _ ?_ | with_reducible refine below_alloc0 _ ?_ | with_reducible refine Below.setCell ?_ ?_ _ | with_reducible refine Below.alloc ?_ ?_ _ | with_reducible refine Below.grow _ _ _ ?_ ?_ | omega | (simp; done) | (simp; omega)))⟩
      · have hpp := ne_slash g2
        clear HNO HG g2
        go_enter Tryd.func10, Tryd.ntmps10
        go_wp2_with fail
        go_ret
        exact ⟨rfl, (by repeat (first | with_reducible exact Below.refl _ _ | with_reducible assumption | with_reducible exact below_d1 _ _ _ _ _ | with_reducible exact below_d2 _ _ _ _ _ _ _ _ | with_reducible exact below_d3 _ _ _ _ _ | with_reducible exact below_d4 _ _ _ _ _ _ _ _ | with_reducible exact below_d5 _ _ | with_reducible refine Below.drew ?_ | with_reducible refine Below.drewN' ?_ _ | with_reducible refine below_grow0 _ _ ?_ | with_reducible refine below_alloc0 _ ?_ | with_reducible refine Below.setCell ?_ ?_ _ | with_reducible refine Below.alloc ?_ ?_ _ | with_reducible refine Below.grow _ _ _ ?_ ?_ | omega | (simp; done) | (simp; omega)))⟩
end Go.Proofs.YtfoglgeiipafeaaDoor

/- package tree: Good, at every tree. -/
namespace Go.Proofs.YtfoglgeiipafeaaDoor
open Go.RowKit Go.ChangeShapes Go.WideShapes Go.ChangeAt
theorem trGood (z : Int) (v v2 : Value) (l : List Node) (ss : List Int) (w : World) (h : Sl cNode 9 w v l) (h2 : Sl cInt 1 w v2 ss) (hn : ss.length ≤ 140737488355328) (hz : ∀ n ∈ l, n.path.size ≤ 9223372036854775807) :
    Calls Tryd.prog 10 #[.agg #[.int .i64 z, v, v2]] w fun e w' => e = .returned (.bool (goodTree ⟨z, l, ss⟩)) ∧ Below w.heap.size w w' := by
  cases hh : headB ⟨z, l, ss⟩ with
  | true => exact trGood_head z v v2 l ss w h h2 hn hh hz
  | false => exact trGood_nohead z v v2 l ss w h h2 hh
end Go.Proofs.YtfoglgeiipafeaaDoor

/- package tree: wrong. -/
namespace Go.Proofs.YtfoglgeiipafeaaDoor
open Go.RowKit Go.ChangeShapes Go.WideShapes Go.ChangeAt
end Go.Proofs.YtfoglgeiipafeaaDoor

/- package tree: hand.kid. -/
namespace Go.Proofs.YtfoglgeiipafeaaDoor
open Go.RowKit Go.ChangeShapes Go.WideShapes Go.ChangeAt
theorem kidN_no {l : List Node} {d : ByteArray} (h : hasN l d = false) (more z : Int) : kidN l d more z = l := by unfold kidN; rw [h]; rfl
theorem kidN_yes {l : List Node} {d : ByteArray} (h : hasN l d = true) {x : Node} (hx : l[posN l d]? = some x) (more z : Int) : kidN l d more z = l.set (posN l d) (bump x more z) := by
  unfold kidN
  rw [h, if_pos rfl, List.getD_eq_getElem?_getD, hx]
  rfl
end Go.Proofs.YtfoglgeiipafeaaDoor

/- package tree: hand.remove. -/
namespace Go.Proofs.YtfoglgeiipafeaaDoor
open Go.RowKit Go.ChangeShapes Go.WideShapes Go.ChangeAt
theorem own_same (A : Option Addr) (n c m d : Nat) : (Value.slice A n c).ownBlock = (Value.slice A m d).ownBlock := by
  cases A with
  | none => rfl
  | some a => rfl
theorem mem_delN {l : List Node} {p : ByteArray} {n : Node} (h : n ∈ delN l p) : n ∈ l := by
  unfold delN at h
  rcases List.mem_append.1 h with h | h
  · exact List.mem_of_mem_take h
  · exact List.mem_of_mem_drop h
theorem delN_len {l : List Node} {p : ByteArray} (h : posN l p < l.length) : (delN l p).length = l.length - 1 := by
  unfold delN
  rw [List.length_append, List.length_take, List.length_drop]
  omega
end Go.Proofs.YtfoglgeiipafeaaDoor

/- package tree: hand.create. -/
namespace Go.Proofs.YtfoglgeiipafeaaDoor
open Go.RowKit Go.ChangeShapes Go.WideShapes Go.ChangeAt
theorem Bk.new (w : World) (cs : Array Value) (t : TypeId) {g : Nat} (hg : g = w.heap.size) : Bk (w.alloc (.cells cs t)) g cs.toList t := by
  subst hg
  unfold Bk
  simp only [Array.toArray_toList]
  exact heap_alloc_new w _
theorem own_lt {α : Type} {f : α → List Value} {s : Nat} {e : TypeId} {w : World} {B : Nat} {v : Value} {l : List α} (h : Ow f s e w B v l) {g : Nat} (hg : w.heap.size ≤ g) : v.ownBlock ≠ some g := fun e => by have := h.lt g e; omega
end Go.Proofs.YtfoglgeiipafeaaDoor

/- made by geninst.py from XT4.src -/
namespace Go.Proofs.YtfoglgeiipafeaaDoor
open Go.RowKit
end Go.Proofs.YtfoglgeiipafeaaDoor

/- made by geninst.py from XT5.src -/
namespace Go.Proofs.YtfoglgeiipafeaaDoor
open Go.RowKit
end Go.Proofs.YtfoglgeiipafeaaDoor

/- package tree: Apply's test whether a node was changed too often (slices.ContainsFunc). -/
namespace Go.Proofs.YtfoglgeiipafeaaDoor
open Go.RowKit Go.ChangeShapes Go.WideShapes Go.ChangeAt
end Go.Proofs.YtfoglgeiipafeaaDoor

/- Trees: plain laws of the closing of a session, node by node. -/
namespace Go.Proofs.YtfoglgeiipafeaaDoor
open Go.RowKit
def closeP (l : List Node) (z : Int) (ps : List ByteArray) : List Node := ps.foldl (fun l p => goneN l p z) l
structure Cl (z : Int) (ss : List Int) (s : Int) (l : List Node) (ps : List ByteArray) : Prop where
  good : GoodW z l ss
  nd : ps.Nodup
  there : ∀ p ∈ ps, ∃ n ∈ l, n.path = p
  own : ∀ n ∈ l, n.owner = s ↔ n.path ∈ ps
theorem Cl.step {z : Int} {ss : List Int} {s : Int} (hs0 : s ≠ 0) {l : List Node} {p : ByteArray} {ps : List ByteArray} (h : Cl z ss s l (p :: ps)) : Cl z ss s (goneN l p z) ps ∧ ∀ C : Int, (∀ n ∈ l, n.cversion ≤ C) → ∀ n ∈ goneN l p z, n.cversion ≤ C + 1 := by
  obtain ⟨h, hnd, hp, ho⟩ := h
  obtain ⟨x, hx, hxp⟩ := hp p (by simp)
  have hxo := (ho x hx).2 (by rw [hxp]; simp)
  have hxk : x.kids = 0 := by
    rcases h.own x hx with h0 | h0
    · exact absurd (hxo.symm.trans h0) hs0
    · exact h0.2
  have hxs : x.path ≠ slash := fun e => hs0 (hxo.symm.trans (h.rootOf hx e))
  have hmem := mem_gone h.sorted hx z
  have hg := good_gone h hx hxs hxk
  rw [List.nodup_cons] at hnd
  rw [← hxp]
  refine ⟨⟨hg, hnd.2, ?_, ?_⟩, ?_⟩
  · intro q hq
    obtain ⟨n, hn, hnq⟩ := hp q (by simp [hq])
    refine ⟨_, (hmem _).2 ⟨n, hn, ?_, rfl⟩, by rw [bumpAt_path]; exact hnq⟩
    rw [hxp, hnq]
    exact fun e => hnd.1 (e ▸ hq)
  · intro n hn
    obtain ⟨m, hm, hmx, rfl⟩ := (hmem n).1 hn
    rw [bumpAt_own, bumpAt_path, ho m hm, List.mem_cons]
    constructor
    · rintro (e | e)
      · exact absurd (e.trans hxp.symm) hmx
      · exact e
    · exact .inr
  · intro C hC n hn
    obtain ⟨m, hm, hmx, rfl⟩ := (hmem n).1 hn
    have := hC m hm
    unfold bumpAt
    split
    · simp only [bump]
      omega
    · omega
theorem Cl.fold {z : Int} {ss : List Int} {s : Int} (hs0 : s ≠ 0) : ∀ (ps qs : List ByteArray) (l : List Node), Cl z ss s l (ps ++ qs) → Cl z ss s (closeP l z ps) qs ∧ ∀ C : Int, (∀ n ∈ l, n.cversion ≤ C) → ∀ n ∈ closeP l z ps, n.cversion ≤ C + ps.length
  | [], qs, l, h => ⟨h, fun C hC n hn => by have := hC n hn; simpa using this⟩
  | p :: ps, qs, l, h => by
    obtain ⟨h1, h2⟩ := h.step hs0
    obtain ⟨h3, h4⟩ := Cl.fold hs0 ps qs (goneN l p z) h1
    refine ⟨h3, fun C hC n hn => ?_⟩
    have := h4 (C + 1) (h2 C hC) n hn
    rw [List.length_cons]
    omega
theorem Cl.start {z : Int} {ss : List Int} {l : List Node} (h : GoodW z l ss) (s : Int) : Cl z ss s l (ownedL l s) :=
  ⟨h, owned_nodup h.sorted s, fun p hp => by
    obtain ⟨n, hn, _, e⟩ := mem_owned.1 hp
    exact ⟨n, hn, e⟩, fun n hn => by
    rw [mem_owned]
    constructor
    · intro e; exact ⟨n, hn, e, rfl⟩
    · rintro ⟨m, hm, e, hp⟩
      rw [← uniqN h.sorted hm hn hp]
      exact e⟩
theorem owned_take {l : List Node} {k : Nat} {x : Node} (hx : l[k]? = some x) (s : Int) : ownedL (l.take (k + 1)) s = ownedL (l.take k) s ++ (if x.owner = s then [x.path] else []) := by
  unfold ownedL
  rw [List.take_add_one, hx]
  simp only [Option.toList_some, List.filter_append, List.map_append]
  by_cases h : x.owner = s
  · rw [if_pos h, List.filter_cons_of_pos (by simpa using h)]; rfl
  · rw [if_neg h, List.filter_cons_of_neg (by simpa using h)]; rfl
theorem owned_split (l : List Node) (k : Nat) (s : Int) : ownedL l s = ownedL (l.take k) s ++ ownedL (l.drop k) s := by
  unfold ownedL
  rw [← List.map_append, ← List.filter_append, List.take_append_drop]
theorem owned_drop {l : List Node} {k : Nat} {x : Node} (hx : l[k]? = some x) {s : Int} (ho : x.owner = s) : ownedL (l.drop k) s = x.path :: ownedL (l.drop (k + 1)) s := by
  have h1 : l.drop k = x :: l.drop (k + 1) := by
    obtain ⟨hk, rfl⟩ := List.getElem?_eq_some_iff.1 hx
    exact (List.getElem_cons_drop hk).symm
  unfold ownedL
  rw [h1, List.filter_cons_of_pos (by simpa using ho), List.map_cons]
theorem owned_le (l : List Node) (s : Int) : (ownedL l s).length ≤ l.length := by
  unfold ownedL
  rw [List.length_map]
  exact List.length_filter_le _ _
/-- where the closing stands at the k-th node of the tree as it was -/
theorem close_at {z : Int} {ss : List Int} {l : List Node} (h : GoodW z l ss) {s : Int} (hs0 : s ≠ 0) (hc : ∀ n ∈ l, n.cversion ≤ 2147483647) {k : Nat} {x : Node} (hx : l[k]? = some x) (ho : x.owner = s) :
    GoodW z (closeP l z (ownedL (l.take k) s)) ss ∧ hasN (closeP l z (ownedL (l.take k) s)) x.path = true ∧ (∀ n ∈ closeP l z (ownedL (l.take k) s), -4000000000 ≤ n.kids ∧ n.kids ≤ 4000000000 ∧ -4000000000 ≤ n.cversion ∧ n.cversion ≤ 4000000000) := by
  have h0 := Cl.start h s
  rw [owned_split l k s, owned_drop hx ho] at h0
  obtain ⟨h1, h2⟩ := h0.fold hs0
  have h3 := h2 2147483647 hc
  have hlen : (ownedL (l.take k) s).length ≤ 400 := Nat.le_trans (owned_le _ _) (by have := h.len; rw [List.length_take]; omega)
  refine ⟨h1.good, (has_iff h1.good.sorted).2 (h1.there x.path (by simp)), fun n hn => ?_⟩
  have a := h1.good.kids n hn
  have b := h1.good.stat n hn
  have c := h3 n hn
  have d : (closeP l z (ownedL (l.take k) s)).countP (kidB n.path) ≤ 400 := Nat.le_trans List.countP_le_length h1.good.len
  omega
theorem closeP_all (l : List Node) (z s : Int) : closeP l z (ownedL l s) = closeN l s z := rfl
theorem closeP_snoc (l : List Node) (z : Int) (ps : List ByteArray) (p : ByteArray) : closeP l z (ps ++ [p]) = goneN (closeP l z ps) p z := by
  unfold closeP
  rw [List.foldl_append]
  rfl
end Go.Proofs.YtfoglgeiipafeaaDoor

/- package tree: Apply: what it answers; a transaction that does not fit. -/
namespace Go.Proofs.YtfoglgeiipafeaaDoor
open Go.RowKit Go.ChangeShapes Go.WideShapes Go.ChangeAt
theorem own_types {α β : Type} {f : α → List Value} {f' : β → List Value} {s s' : Nat} {e e' : TypeId} {w : World} {B B' : Nat} {v v' : Value} {l : List α} {l' : List β} (h : Ow f s e w B v l) (h' : Ow f' s' e' w B' v' l') (hne : e ≠ e') : ∀ q, v.ownBlock = some q → v'.ownBlock ≠ some q := by
  intro q hq hq'
  rcases h.1.2 with ⟨rfl, _⟩ | ⟨g, cap, cur, rfl, hb, hg, _⟩
  · cases hq
  · rcases h'.1.2 with ⟨rfl, _⟩ | ⟨g', cap', cur', rfl, hb', hg', _⟩
    · cases hq'
    · have e1 : g = q := by simpa [Value.ownBlock] using hq
      have e2 : g' = q := by simpa [Value.ownBlock] using hq'
      subst e1
      subst e2
      rw [hg] at hg'
      injection hg' with hg'
      injection hg' with _ hg' _
      exact hne hg'
theorem gen_e {F : Exit → Act → World → Prop} {e : Exit} {a : Act} {w : World} (h : ∀ W, Hid (W = w) → F e a W) : F e a w := h w (Lib.hid rfl)
theorem set3_cells {W : World} {g : Nat} {u0 u1 u2 v0 v1 v2 : Value} (c0 : W.cell? ⟨g, 0, none⟩ = some u0) (c1 : W.cell? ⟨g, 1, none⟩ = some u1) (c2 : W.cell? ⟨g, 2, none⟩ = some u2) :
    (((W.setCell ⟨g, 0, none⟩ v0).setCell ⟨g, 1, none⟩ v1).setCell ⟨g, 2, none⟩ v2).cell? ⟨g, 0, none⟩ = some v0 ∧ (((W.setCell ⟨g, 0, none⟩ v0).setCell ⟨g, 1, none⟩ v1).setCell ⟨g, 2, none⟩ v2).cell? ⟨g, 1, none⟩ = some v1 ∧ (((W.setCell ⟨g, 0, none⟩ v0).setCell ⟨g, 1, none⟩ v1).setCell ⟨g, 2, none⟩ v2).cell? ⟨g, 2, none⟩ = some v2 := by
  have n20 : (⟨g, 2, none⟩ : Addr) ≠ ⟨g, 0, none⟩ := by simp
  have n21 : (⟨g, 2, none⟩ : Addr) ≠ ⟨g, 1, none⟩ := by simp
  have n10 : (⟨g, 1, none⟩ : Addr) ≠ ⟨g, 0, none⟩ := by simp
  have n01 : (⟨g, 0, none⟩ : Addr) ≠ ⟨g, 1, none⟩ := by simp
  have n02 : (⟨g, 0, none⟩ : Addr) ≠ ⟨g, 2, none⟩ := by simp
  have n12 : (⟨g, 1, none⟩ : Addr) ≠ ⟨g, 2, none⟩ := by simp
  exact ⟨(World.cell?_setCell_other _ _ _ _ n20).trans ((World.cell?_setCell_other _ _ _ _ n10).trans (World.cell?_setCell_same _ _ _ c0)),
    (World.cell?_setCell_other _ _ _ _ n21).trans (World.cell?_setCell_same _ _ _ ((World.cell?_setCell_other _ _ _ _ n01).trans c1)),
    World.cell?_setCell_same _ _ _ ((World.cell?_setCell_other _ _ _ _ n12).trans ((World.cell?_setCell_other _ _ _ _ n02).trans c2))⟩
theorem grow_at {W : World} {ext : Array Obj} {d : Nat} {p : Addr} {v : Value} (h : W.cell? p = some v) : (grow W ext d).cell? p = some v := (cell_grow_some W ext d p (by rw [h]; rfl)).trans h
theorem Ow.set_low {α : Type} {f : α → List Value} {s : Nat} {e : TypeId} {W : World} {B : Nat} {v : Value} {l : List α} (h : Ow f s e W B v l) {g : Nat} (hg : g < B) (v0 v1 v2 : Value) : Ow f s e (((W.setCell ⟨g, 0, none⟩ v0).setCell ⟨g, 1, none⟩ v1).setCell ⟨g, 2, none⟩ v2) B v l := ((h.setBelow hg v0).setBelow hg v1).setBelow hg v2
end Go.Proofs.YtfoglgeiipafeaaDoor

/- package snap: put, numbers. -/
namespace Go.Proofs.YtfoglgeiipafeaaDoor
open Go.RowKit Go.ChangeShapes Go.WideShapes Go.ChangeAt
theorem grown_below {w w' : World} {row : Option Nat} (h : Below w.heap.size w w') : w.grownBy w' row := ⟨h.os, h.tape, h.output, h.size, fun k hk _ => h.block k hk⟩
theorem grown_trans {w w1 w2 : World} {r r' : Option Nat} (h : w.grownBy w1 r) (h2 : w1.grownBy w2 r') (hr : r' = r ∨ ∃ q, r' = some q ∧ w.heap.size ≤ q) : w.grownBy w2 r := by
  obtain ⟨a1, a2, a3, a4, a5⟩ := h
  obtain ⟨b1, b2, b3, b4, b5⟩ := h2
  refine ⟨b1.trans a1, b2.trans a2, b3.trans a3, Nat.le_trans a4 b4, fun k hk hne => ?_⟩
  refine (b5 k (Nat.lt_of_lt_of_le hk a4) ?_).trans (a5 k hk hne)
  rcases hr with rfl | ⟨q, rfl, hq⟩
  · exact hne
  · intro e
    injection e with e
    omega
/-- a row behind which bytes were put -/
def PutRes (B : Nat) (v : Value) (l m : List UInt8) (w : World) (e : Ending) (w' : World) : Prop :=
  ∃ A c, e = .returned (.slice A (l ++ m).length c) ∧ Ow cByte 1 5 w' B (.slice A (l ++ m).length c) (l ++ m) ∧ w.grownBy w' v.ownBlock ∧ ((Value.slice A (l ++ m).length c).ownBlock = v.ownBlock ∨ ∃ q, (Value.slice A (l ++ m).length c).ownBlock = some q ∧ w.heap.size ≤ q)
set_option maxHeartbeats 1000000 in
theorem sput_any (B : Nat) (v : Value) (l : List UInt8) (x n : Nat) (w : World) (h : Ow cByte 1 5 w B v l) (hB : B ≤ w.heap.size) (_hx : x < 9223372036854775808) (hn : n ≤ 8) (hl : l.length ≤ 100000000000) :
    Calls Tryd.prog 15 #[v, .int .i64 x, .int .i64 n] w (PutRes B v l (be n x) w) := by
  obtain ⟨A, c, rfl, _⟩ := h.form
  have HO := Lib.hid h
  have HL := Lib.hid (be_length n x)
  clear h
  obtain ⟨ob, hob⟩ : ∃ ob, ob = (Value.slice A l.length c).ownBlock := ⟨_, rfl⟩
  unfold PutRes
  rw [← hob]
  have HOB := Lib.hid hob
  clear hob
  go_enter Tryd.func15, Tryd.ntmps15
  go_wp2_with fail
  go_loopw [0, 7] (fun bv k wr => ∃ (m : Nat) (pre : List UInt8) (A : Option Addr) (c : Nat), m ≤ n ∧ k = .int .i64 ((m : Int) - 1) ∧ bv = .slice A pre.length c ∧ Hid (w.grownBy wr ob) ∧ Hid ((Value.slice A pre.length c).ownBlock = ob ∨ ∃ q, (Value.slice A pre.length c).ownBlock = some q ∧ w.heap.size ≤ q) ∧ Hid (pre ++ be m x = l ++ be n x) ∧ Hid (Ow cByte 1 5 wr B (.slice A pre.length c) pre)) (fun _ k _ => (intOf k + 1).toNat)
  case atStart => exact ⟨n, l, A, c, Nat.le_refl _, rfl, rfl, Lib.hid (World.grownBy.refl _ _), Lib.hid (.inl HOB.out.symm), Lib.hid rfl, HO⟩
  case round =>
    obtain ⟨m, pre, A, c, hm, rfl, rfl, hgr, hat, hpre, ho⟩ := hrel
    have hpl : pre.length + m = l.length + n := by
      have := congrArg List.length hpre.out
      simpa [be_length] using this
    have hws := hgr.out.size
    cases m with
    | zero =>
      have hpre2 := hpre.out
      simp only [be, List.append_nil] at hpre2
      subst hpre2
      go_wp2_with fail
      refine bodyPost_ret (v := .slice A (l ++ be n x).length c) (by simp [results, Tryd.results15, go_sem]) rfl ⟨A, c, rfl, ho.out, hgr.out, hat.out⟩
    | succ m =>
      have hbe : pre ++ be (m + 1) x = (pre ++ [UInt8.ofNat (x / 256 ^ m)]) ++ be m x := by simp [be]
      have hpre2 := Lib.hid (hbe.symm.trans hpre.out)
      have hbv : (x : Int) / 2 ^ (8 * m) % 256 = ((UInt8.ofNat (x / 256 ^ m)).toNat : Int) := by
        have h1 : (2 : Int) ^ (8 * m) = ((256 ^ m : Nat) : Int) := by rw [Int.pow_mul]; simp
        rw [h1, UInt8.toNat_ofNat']
        simp
      generalize UInt8.ofNat (x / 256 ^ m) = cc at *
      clear hbe hpre
      go_wp2_with (at_builtin; refine wpList_app _ rfl (.tmp 14) (.tmp 21) _ rfl elByte (B := B) (l := pre) (m := [cc]) (v := .slice A pre.length c) rfl rfl (by exact ho.out.alloc _) (by exact Sl.one_at cByte 1 _ _ _ rfl _ rfl (by omega) (by simp)) cByte_ones (by simp [maxLen] <;> omega) (by simp <;> omega) (by simp <;> omega) ?_; intro v5 w5 hown5 hg5 hat5; obtain ⟨A5, k5, rfl, _⟩ := hown5.form; have HO5 := Lib.hid hown5; have HG5 := Lib.hid hg5; have HA5 := Lib.hid hat5; clear hown5 hg5 hat5)
      have hgr5 : Hid (w.grownBy w5 ob) := Lib.hid (grown_trans (grown_trans hgr.out (r' := ob) (grown_below ((by repeat (first | with_reducible exact Below.refl _ _ | with_reducible assumption | with_reducible exact below_d1 _ _ _ _ _ | with_reducible exact below_d2 _ _ _ _ _ _ _ _ | with_reducible exact below_d3 _ _ _ _ _ | with_reducible exact below_d4 _ _ _ _ _ _ _ _ | with_reducible exact below_d5 _ _ | with_reducible refine Below.drew ?_ | with_reducible refine Below.drewN' ?_ _ | with_reducible refine below_grow0 _ _ ?_ | with_reducible refine below_alloc0 _ ?_ | with_reducible refine Below.setCell ?_ ?_ _ | with_reducible refine Below.alloc ?_ ?_ _ | with_reducible refine Below.grow _ _ _ ?_ ?_ | omega | (simp; done) | (simp; omega))))) (.inl rfl)) HG5.out hat.out)
      have hat5 : Hid ((Value.slice A5 (pre ++ [cc]).length k5).ownBlock = ob ∨ ∃ q, (Value.slice A5 (pre ++ [cc]).length k5).ownBlock = some q ∧ w.heap.size ≤ q) := by
        refine Lib.hid ?_
        rcases HA5.out with e | e
        · exact e ▸ hat.out
        · exact .inr ⟨_, e, Nat.le_trans hgr.out.size (Nat.le_trans (Nat.le_succ _) (Nat.le_of_eq (Array.size_push _).symm))⟩
      go_roundw
      case rel => exact ⟨m, pre ++ [cc], A5, k5, by omega, rfl, (by simp), hgr5, hat5, hpre2, HO5⟩
      case measure => simp [intOf] <;> omega
def ptrs (b o : Nat) : List Value := [.pointer (some ⟨b, o, none⟩), .pointer (some ⟨b, o + 1, none⟩), .pointer (some ⟨b, o + 2, none⟩), .pointer (some ⟨b, o + 3, none⟩), .pointer (some ⟨b, o + 4, none⟩), .pointer (some ⟨b, o + 5, none⟩), .pointer (some ⟨b, o + 6, none⟩)]
set_option maxHeartbeats 1000000 in
theorem numbers_is (b o : Nat) (w : World) :
    Calls Tryd.prog 16 #[.pointer (some ⟨b, o, none⟩)] w fun e w' => ∃ g, e = .returned (.slice (some ⟨g, 0, none⟩) 7 7) ∧ w.heap.size ≤ g ∧ Bk w' g (ptrs b o) 49 ∧ Below w.heap.size w w' := by
  go_enter Tryd.func16, Tryd.ntmps16
  go_upto_region 1 with fail
  refine wp_region_noPanic ?_
  refine wp_region_W (by kernel_rfl) (fun W hW => ?_)
  have hWr : Below w.heap.size w W := by rw [hW.out]; exact (by repeat (first | with_reducible exact Below.refl _ _ | with_reducible assumption | with_reducible exact below_d1 _ _ _ _ _ | with_reducible exact below_d2 _ _ _ _ _ _ _ _ | with_reducible exact below_d3 _ _ _ _ _ | with_reducible exact below_d4 _ _ _ _ _ _ _ _ | with_reducible exact below_d5 _ _ | with_reducible refine Below.drew ?_ | with_reducible refine Below.drewN' ?_ _ | with_reducible refine below_grow0 _ _ ?_ | with_reducible refine below_alloc0 _ ?_ | with_reducible refine Below.setCell ?_ ?_ _ | with_reducible refine Below.alloc ?_ ?_ _ | with_reducible refine Below.grow _ _ _ ?_ ?_ | omega | (simp; done) | (simp; omega)))
  have hWs : W.heap.size = w.heap.size := hW.out ▸ rfl
  refine wpAny_S (fun w' => True) (fun i => false) (by (try dsimp only); all_goals trivial) (fun hHeld => ?_)
  (refine wpE_takeP (i := 0) (v := ?gV1_1) (by simp only [List.getElem?_toArray]; rfl) (by kernel_rfl) (by kernel_rfl) (by kernel_rfl) (by rfl) (fun _ _ _ h => h) (Or.inl ⟨by rfl, ?gY1_1⟩) (by assumption) ?gR1_1; case gY1_1 => (intro w hSw; (try dsimp only at hSw); go_simp <;> with_reducible rfl))
  try simp only [Act.put, List.setIfInBounds_toArray, List.set_cons_zero, List.set_cons_succ]
  (refine wpE_takeP (i := 1) (v := ?gV1_2) (by simp only [List.getElem?_toArray]; rfl) (by kernel_rfl) (by kernel_rfl) (by kernel_rfl) (by rfl) (fun _ _ _ h => h) (Or.inl ⟨by rfl, ?gY1_2⟩) (by assumption) ?gR1_2; case gY1_2 => (intro w hSw; (try dsimp only at hSw); go_simp <;> with_reducible rfl))
  try simp only [Act.put, List.setIfInBounds_toArray, List.set_cons_zero, List.set_cons_succ]
  (refine wpE_takeP (i := 2) (v := ?gV1_3) (by simp only [List.getElem?_toArray]; rfl) (by kernel_rfl) (by kernel_rfl) (by kernel_rfl) (by rfl) (fun _ _ _ h => h) (Or.inl ⟨by rfl, ?gY1_3⟩) (by assumption) ?gR1_3; case gY1_3 => (intro w hSw; (try dsimp only at hSw); go_simp <;> with_reducible rfl))
  try simp only [Act.put, List.setIfInBounds_toArray, List.set_cons_zero, List.set_cons_succ]
  (refine wpE_takeP (i := 3) (v := ?gV1_4) (by simp only [List.getElem?_toArray]; rfl) (by kernel_rfl) (by kernel_rfl) (by kernel_rfl) (by rfl) (fun _ _ _ h => h) (Or.inl ⟨by rfl, ?gY1_4⟩) (by assumption) ?gR1_4; case gY1_4 => (intro w hSw; (try dsimp only at hSw); go_simp <;> with_reducible rfl))
  try simp only [Act.put, List.setIfInBounds_toArray, List.set_cons_zero, List.set_cons_succ]
  (refine wpE_takeP (i := 4) (v := ?gV1_5) (by simp only [List.getElem?_toArray]; rfl) (by kernel_rfl) (by kernel_rfl) (by kernel_rfl) (by rfl) (fun _ _ _ h => h) (Or.inl ⟨by rfl, ?gY1_5⟩) (by assumption) ?gR1_5; case gY1_5 => (intro w hSw; (try dsimp only at hSw); go_simp <;> with_reducible rfl))
  try simp only [Act.put, List.setIfInBounds_toArray, List.set_cons_zero, List.set_cons_succ]
  (refine wpE_takeP (i := 5) (v := ?gV1_6) (by simp only [List.getElem?_toArray]; rfl) (by kernel_rfl) (by kernel_rfl) (by kernel_rfl) (by rfl) (fun _ _ _ h => h) (Or.inl ⟨by rfl, ?gY1_6⟩) (by assumption) ?gR1_6; case gY1_6 => (intro w hSw; (try dsimp only at hSw); go_simp <;> with_reducible rfl))
  try simp only [Act.put, List.setIfInBounds_toArray, List.set_cons_zero, List.set_cons_succ]
  (refine wpE_takeP (i := 6) (v := ?gV1_7) (by simp only [List.getElem?_toArray]; rfl) (by kernel_rfl) (by kernel_rfl) (by kernel_rfl) (by rfl) (fun _ _ _ h => h) (Or.inl ⟨by rfl, ?gY1_7⟩) (by assumption) ?gR1_7; case gY1_7 => (intro w hSw; (try dsimp only at hSw); go_simp <;> with_reducible rfl))
  try simp only [Act.put, List.setIfInBounds_toArray, List.set_cons_zero, List.set_cons_succ]
  (refine wpE_takeP (i := 7) (v := ?gV1_8) (by simp only [List.getElem?_toArray]; rfl) (by kernel_rfl) (by kernel_rfl) (by kernel_rfl) (by rfl) (fun _ _ _ h => h) (Or.inl ⟨by rfl, ?gY1_8⟩) (by assumption) ?gR1_8; case gY1_8 => (intro w hSw; (try dsimp only at hSw); go_simp <;> with_reducible rfl))
  try simp only [Act.put, List.setIfInBounds_toArray, List.set_cons_zero, List.set_cons_succ]
  (refine wpE_takeP (i := 8) (v := ?gV1_9) (by simp only [List.getElem?_toArray]; rfl) (by kernel_rfl) (by kernel_rfl) (by kernel_rfl) (by rfl) (fun _ _ _ h => h) (Or.inl ⟨by rfl, ?gY1_9⟩) (by assumption) ?gR1_9; case gY1_9 => (intro w hSw; (try dsimp only at hSw); go_simp <;> with_reducible rfl))
  try simp only [Act.put, List.setIfInBounds_toArray, List.set_cons_zero, List.set_cons_succ]
  (refine wpE_takeP (i := 9) (v := ?gV1_10) (by simp only [List.getElem?_toArray]; rfl) (by kernel_rfl) (by kernel_rfl) (by kernel_rfl) (by rfl) (fun _ _ _ h => h) (Or.inl ⟨by rfl, ?gY1_10⟩) (by assumption) ?gR1_10; case gY1_10 => (intro w hSw; (try dsimp only at hSw); go_simp <;> with_reducible rfl))
  try simp only [Act.put, List.setIfInBounds_toArray, List.set_cons_zero, List.set_cons_succ]
  (refine wpE_takeP (i := 10) (v := ?gV1_11) (by simp only [List.getElem?_toArray]; rfl) (by kernel_rfl) (by kernel_rfl) (by kernel_rfl) (by rfl) (fun _ _ _ h => h) (Or.inl ⟨by rfl, ?gY1_11⟩) (by assumption) ?gR1_11; case gY1_11 => (intro w hSw; (try dsimp only at hSw); go_simp <;> with_reducible rfl))
  try simp only [Act.put, List.setIfInBounds_toArray, List.set_cons_zero, List.set_cons_succ]
  (refine wpE_takeP (i := 11) (v := ?gV1_12) (by simp only [List.getElem?_toArray]; rfl) (by kernel_rfl) (by kernel_rfl) (by kernel_rfl) (by rfl) (fun _ _ _ h => h) (Or.inl ⟨by rfl, ?gY1_12⟩) (by assumption) ?gR1_12; case gY1_12 => (intro w hSw; (try dsimp only at hSw); go_simp <;> with_reducible rfl))
  try simp only [Act.put, List.setIfInBounds_toArray, List.set_cons_zero, List.set_cons_succ]
  (refine wpE_takeP (i := 12) (v := ?gV1_13) (by simp only [List.getElem?_toArray]; rfl) (by kernel_rfl) (by kernel_rfl) (by kernel_rfl) (by rfl) (fun _ _ _ h => h) (Or.inl ⟨by rfl, ?gY1_13⟩) (by assumption) ?gR1_13; case gY1_13 => (intro w hSw; (try dsimp only at hSw); go_simp <;> with_reducible rfl))
  try simp only [Act.put, List.setIfInBounds_toArray, List.set_cons_zero, List.set_cons_succ]
  (refine wpE_takeP (i := 13) (v := ?gV1_14) (by simp only [List.getElem?_toArray]; rfl) (by kernel_rfl) (by kernel_rfl) (by kernel_rfl) (by rfl) (fun _ _ _ h => h) (Or.inl ⟨by rfl, ?gY1_14⟩) (by assumption) ?gR1_14; case gY1_14 => (intro w hSw; (try dsimp only at hSw); go_simp <;> with_reducible rfl))
  try simp only [Act.put, List.setIfInBounds_toArray, List.set_cons_zero, List.set_cons_succ]
  (refine wpE_takeP (i := 14) (v := ?gV1_15) (by simp only [List.getElem?_toArray]; rfl) (by kernel_rfl) (by kernel_rfl) (by kernel_rfl) (by rfl) (fun _ _ _ h => h) (Or.inl ⟨by rfl, ?gY1_15⟩) (by assumption) ?gR1_15; case gY1_15 => (intro w hSw; (try dsimp only at hSw); go_simp <;> with_reducible rfl))
  try simp only [Act.put, List.setIfInBounds_toArray, List.set_cons_zero, List.set_cons_succ]
  (refine wpE_takeP (i := 15) (v := ?gV1_16) (by simp only [List.getElem?_toArray]; rfl) (by kernel_rfl) (by kernel_rfl) (by kernel_rfl) (by rfl) (fun _ _ _ h => h) (Or.inl ⟨by rfl, ?gY1_16⟩) (by assumption) ?gR1_16; case gY1_16 => (intro w hSw; (try dsimp only at hSw); go_simp <;> with_reducible rfl))
  try simp only [Act.put, List.setIfInBounds_toArray, List.set_cons_zero, List.set_cons_succ]
  (refine wpE_takeP (i := 16) (v := ?gV1_17) (by simp only [List.getElem?_toArray]; rfl) (by kernel_rfl) (by kernel_rfl) (by kernel_rfl) (by rfl) (fun _ _ _ h => h) (Or.inl ⟨by rfl, ?gY1_17⟩) (by assumption) ?gR1_17; case gY1_17 => (intro w hSw; (try dsimp only at hSw); go_simp <;> with_reducible rfl))
  try simp only [Act.put, List.setIfInBounds_toArray, List.set_cons_zero, List.set_cons_succ]
  (refine wpE_takeP (i := 17) (v := ?gV1_18) (by simp only [List.getElem?_toArray]; rfl) (by kernel_rfl) (by kernel_rfl) (by kernel_rfl) (by rfl) (fun _ _ _ h => h) (Or.inl ⟨by rfl, ?gY1_18⟩) (by assumption) ?gR1_18; case gY1_18 => (intro w hSw; (try dsimp only at hSw); go_simp <;> with_reducible rfl))
  try simp only [Act.put, List.setIfInBounds_toArray, List.set_cons_zero, List.set_cons_succ]
  (refine wpE_takeP (i := 18) (v := ?gV1_19) (by simp only [List.getElem?_toArray]; rfl) (by kernel_rfl) (by kernel_rfl) (by kernel_rfl) (by rfl) (fun _ _ _ h => h) (Or.inl ⟨by rfl, ?gY1_19⟩) (by assumption) ?gR1_19; case gY1_19 => (intro w hSw; (try dsimp only at hSw); go_simp <;> with_reducible rfl))
  try simp only [Act.put, List.setIfInBounds_toArray, List.set_cons_zero, List.set_cons_succ]
  (refine wpE_takeP (i := 19) (v := ?gV1_20) (by simp only [List.getElem?_toArray]; rfl) (by kernel_rfl) (by kernel_rfl) (by kernel_rfl) (by rfl) (fun _ _ _ h => h) (Or.inl ⟨by rfl, ?gY1_20⟩) (by assumption) ?gR1_20; case gY1_20 => (intro w hSw; (try dsimp only at hSw); go_simp <;> with_reducible rfl))
  try simp only [Act.put, List.setIfInBounds_toArray, List.set_cons_zero, List.set_cons_succ]
  (refine wpE_takeP (i := 20) (v := ?gV1_21) (by simp only [List.getElem?_toArray]; rfl) (by kernel_rfl) (by kernel_rfl) (by kernel_rfl) (by rfl) (fun _ _ _ h => h) (Or.inl ⟨by rfl, ?gY1_21⟩) (by assumption) ?gR1_21; case gY1_21 => (intro w hSw; (try dsimp only at hSw); go_simp <;> with_reducible rfl))
  try simp only [Act.put, List.setIfInBounds_toArray, List.set_cons_zero, List.set_cons_succ]
  refine wpE_ready (rs := [21]) (by kernel_rfl) (by simp) ?_
  refine AllE.cons (by simp only [List.getElem?_toArray]; rfl) (fun K hK => ?_) AllE.nil
  go_simp
  refine hK.out _ _ ?gT1_22 (fun hHeld => ?_)
  case gT1_22 => ((try dsimp only); all_goals trivial)
  clear hK K
  try simp only [Act.put, List.setIfInBounds_toArray, List.set_cons_zero, List.set_cons_succ]
  (refine wpE_takeP (i := 22) (v := ?gV1_23) (by simp only [List.getElem?_toArray]; rfl) (by kernel_rfl) (by kernel_rfl) (by kernel_rfl) (by rfl) (fun _ _ _ h => h) (Or.inl ⟨by rfl, ?gY1_23⟩) (by assumption) ?gR1_23; case gY1_23 => (intro w hSw; (try dsimp only at hSw); go_simp <;> with_reducible rfl))
  try simp only [Act.put, List.setIfInBounds_toArray, List.set_cons_zero, List.set_cons_succ]
  refine wpE_done (by kernel_rfl) ?_ _
  refine NoPanic.normal ?_
  go_wp2_with fail
  refine bodyPost_ret (v := .slice (some ⟨w.heap.size, 0, none⟩) 7 7) (by simp [results, Tryd.results16, go_sem]) rfl ⟨w.heap.size, rfl, Nat.le_refl _, Bk.new _ _ _ hWs.symm, (by repeat (first | with_reducible exact Below.refl _ _ | with_reducible assumption | with_reducible exact below_d1 _ _ _ _ _ | with_reducible exact below_d2 _ _ _ _ _ _ _ _ | with_reducible exact below_d3 _ _ _ _ _ | with_reducible exact below_d4 _ _ _ _ _ _ _ _ | with_reducible exact below_d5 _ _ | with_reducible refine Below.drew ?_ | with_reducible refine Below.drewN' ?_ _ | with_reducible refine below_grow0 _ _ ?_ | with_reducible refine below_alloc0 _ ?_ | with_reducible refine Below.setCell ?_ ?_ _ | with_reducible refine Below.alloc ?_ ?_ _ | with_reducible refine Below.grow _ _ _ ?_ ?_ | omega | (simp; done) | (simp; omega)))⟩
end Go.Proofs.YtfoglgeiipafeaaDoor

/- package snap: what Read holds while it reads. -/
namespace Go.Proofs.YtfoglgeiipafeaaDoor
open Go.RowKit Go.ChangeShapes Go.WideShapes Go.ChangeAt
theorem ow_type {α : Type} {f : α → List Value} {s0 : Nat} {e t : TypeId} {w : World} {B g : Nat} {v : Value} {L : List α} {pp : List Value} (ho : Ow f s0 e w B v L) (hb : Bk w g pp t) (ht : t ≠ e) : v.ownBlock ≠ some g := by
  intro hq
  rcases ho.1.2 with ⟨rfl, _⟩ | ⟨k, cap, cur, rfl, hb2, hg, _⟩
  · cases hq
  · have e1 : k = g := by simpa [Value.ownBlock] using hq
    subst e1
    unfold Bk at hb
    rw [hg] at hb
    injection hb with hb
    injection hb with _ hb _
    exact ht hb.symm
theorem bk_type {w : World} {g g2 : Nat} {p1 p2 : List Value} {t1 t2 : TypeId} (h : Bk w g p1 t1) (h2 : Bk w g2 p2 t2) (ht : t1 ≠ t2) : g ≠ g2 := by
  rintro rfl
  unfold Bk at h h2
  rw [h] at h2
  injection h2 with hb
  injection hb with _ hb _
  exact ht hb
theorem ow_ow {α β : Type} {f : α → List Value} {f2 : β → List Value} {s1 s2 : Nat} {e e2 : TypeId} {w : World} {B B2 : Nat} {v v2 : Value} {L : List α} {L2 : List β} (ho : Ow f s1 e w B v L) (h2 : Ow f2 s2 e2 w B2 v2 L2) (ht : e ≠ e2) : v.ownBlock = none ∨ v.ownBlock ≠ v2.ownBlock := by
  rcases ho.1.2 with ⟨rfl, _⟩ | ⟨k, cap, cur, rfl, hb2, hg, _⟩
  · exact .inl rfl
  · refine .inr ?_
    intro hq
    rcases h2.1.2 with ⟨rfl, _⟩ | ⟨k2, cap2, cur2, rfl, hb3, hg2, _⟩
    · cases hq
    · have e1 : k = k2 := by simpa [Value.ownBlock] using hq
      subst e1
      rw [hg] at hg2
      injection hg2 with hb
      injection hb with _ hb _
      exact ht hb
/-- the result's box gr, the reader g, the tree's box gt -/
structure Rd (W1 : World) (gr g gt : Nat) (z : Int) (w : World) (s : ByteArray) (b : Bool) (vn vs : Value) (ns : List Node) (ss : List Int) : Prop where
  o1 : W1.heap.size ≤ gr
  o2 : W1.heap.size ≤ g
  o3 : W1.heap.size ≤ gt
  o4 : gr ≠ gt
  bel : Below W1.heap.size W1 w
  res : Bk w gr [.int .i64 0, .slice none 0 0, .slice none 0 0] 25
  rd : Rdr w g s b
  box : Bk w gt [.int .i64 z, vn, vs] 25
  nod : Ow cNode 9 45 w W1.heap.size vn ns
  ses : Ow cInt 1 3 w W1.heap.size vs ss
section
variable {W1 : World} {gr g gt : Nat} {z : Int} {w w' : World} {s : ByteArray} {b : Bool} {vn vs : Value} {ns : List Node} {ss : List Int}
theorem Rd.below (h : Rd W1 gr g gt z w s b vn vs ns ss) (hb : Below w.heap.size w w') : Rd W1 gr g gt z w' s b vn vs ns ss :=
  ⟨h.o1, h.o2, h.o3, h.o4, h.bel.trans (hb.mono h.bel.size), h.res.below hb, h.rd.below hb, h.box.below hb, h.nod.below hb, h.ses.below hb⟩
theorem Rd.rdr {s' : ByteArray} {b' : Bool} (h : Rd W1 gr g gt z w s b vn vs ns ss) (hr : Rdr w' g s' b') (hg : w.grownBy w' (some g)) : Rd W1 gr g gt z w' s' b' vn vs ns ss :=
  ⟨h.o1, h.o2, h.o3, h.o4, h.bel.grown hg h.bel.size (fun k hk => by injection hk with hk; exact hk ▸ h.o2), h.res.grown hg (by simpa using bk_type h.res h.rd (by decide)), hr, h.box.grown hg (by simpa using bk_type h.box h.rd (by decide)), h.nod.kept hg (.inr (ow_type h.nod h.rd (by decide))), h.ses.kept hg (.inr (ow_type h.ses h.rd (by decide)))⟩
theorem Rd.pushS {vs' : Value} {ss' : List Int} (h : Rd W1 gr g gt z w s b vn vs ns ss) (hg : w.grownBy w' vs.ownBlock) (ho : Ow cInt 1 3 w' W1.heap.size vs' ss') : Rd W1 gr g gt z (w'.setCell ⟨gt, 2, none⟩ vs') s b vn vs' ns ss' := by
  have hbel := h.bel.grown hg h.bel.size (fun k hk => (h.ses.own_in hk).1)
  have hres := h.res.grown hg (fun e => ow_type h.ses h.res (by decide) e.symm)
  have hrd : Rdr w' g s b := Bk.grown h.rd hg (fun e => ow_type h.ses h.rd (by decide) e.symm)
  have hbox := h.box.grown hg (fun e => ow_type h.ses h.box (by decide) e.symm)
  have hnod := h.nod.kept hg (ow_ow h.nod h.ses (by decide))
  exact ⟨h.o1, h.o2, h.o3, h.o4, hbel.grown (grownBy_setCell _ _ _ _) hbel.size (fun k hk => by injection hk with hk; exact hk ▸ h.o3), hres.far h.o4, Bk.far hrd (bk_type hrd hbox (by decide)), hbox.put 2 vs', hnod.far2 (ow_type hnod hbox (by decide)), ho.far2 (ow_type ho hbox (by decide))⟩
theorem Rd.pushN {vn' : Value} {ns' : List Node} (h : Rd W1 gr g gt z w s b vn vs ns ss) (hg : w.grownBy w' vn.ownBlock) (ho : Ow cNode 9 45 w' W1.heap.size vn' ns') : Rd W1 gr g gt z (w'.setCell ⟨gt, 1, none⟩ vn') s b vn' vs ns' ss := by
  have hbel := h.bel.grown hg h.bel.size (fun k hk => (h.nod.own_in hk).1)
  have hres := h.res.grown hg (fun e => ow_type h.nod h.res (by decide) e.symm)
  have hrd : Rdr w' g s b := Bk.grown h.rd hg (fun e => ow_type h.nod h.rd (by decide) e.symm)
  have hbox := h.box.grown hg (fun e => ow_type h.nod h.box (by decide) e.symm)
  have hses := h.ses.kept hg (ow_ow h.ses h.nod (by decide))
  exact ⟨h.o1, h.o2, h.o3, h.o4, hbel.grown (grownBy_setCell _ _ _ _) hbel.size (fun k hk => by injection hk with hk; exact hk ▸ h.o3), hres.far h.o4, Bk.far hrd (bk_type hrd hbox (by decide)), hbox.put 1 vn', ho.far2 (ow_type ho hbox (by decide)), hses.far2 (ow_type hses hbox (by decide))⟩
theorem Rd.boxN (h : Rd W1 gr g gt z w s b vn vs ns ss) (hg : w.grownBy w' vn.ownBlock) : Bk w' gt [.int .i64 z, vn, vs] 25 := h.box.grown hg (fun e => ow_type h.nod h.box (by decide) e.symm)
theorem Rd.done (h : Rd W1 gr g gt z w s b vn vs ns ss) : Bk (((w.setCell ⟨gr, 0, none⟩ (.int .i64 z)).setCell ⟨gr, 1, none⟩ vn).setCell ⟨gr, 2, none⟩ vs) gr [.int .i64 z, vn, vs] 25 ∧ Sl cNode 9 (((w.setCell ⟨gr, 0, none⟩ (.int .i64 z)).setCell ⟨gr, 1, none⟩ vn).setCell ⟨gr, 2, none⟩ vs) vn ns ∧ Sl cInt 1 (((w.setCell ⟨gr, 0, none⟩ (.int .i64 z)).setCell ⟨gr, 1, none⟩ vn).setCell ⟨gr, 2, none⟩ vs) vs ss ∧ Below W1.heap.size W1 (((w.setCell ⟨gr, 0, none⟩ (.int .i64 z)).setCell ⟨gr, 1, none⟩ vn).setCell ⟨gr, 2, none⟩ vs) := by
  have k1 := ow_type h.nod h.res (by decide)
  have k2 := ow_type h.ses h.res (by decide)
  have f : ∀ (x : World) (j : Nat) (u : Value), Below W1.heap.size W1 x → Below W1.heap.size W1 (x.setCell ⟨gr, j, none⟩ u) := fun x j u hb => hb.grown (grownBy_setCell x gr j u) hb.size (fun k hk => by injection hk with hk; exact hk ▸ h.o1)
  exact ⟨((h.res.put 0 (.int .i64 z)).put 1 vn).put 2 vs, (((h.nod.far2 k1).far2 k1).far2 k1).sl, (((h.ses.far2 k2).far2 k2).far2 k2).sl, f _ _ _ (f _ _ _ (f _ _ _ h.bel))⟩
theorem Rd.far {gx j : Nat} {u : Value} {px : List Value} (h : Rd W1 gr g gt z w s b vn vs ns ss) (hx : Bk w gx px 45) (h1 : W1.heap.size ≤ gx) (h2 : vn.ownBlock ≠ some gx) : Rd W1 gr g gt z (w.setCell ⟨gx, j, none⟩ u) s b vn vs ns ss :=
  ⟨h.o1, h.o2, h.o3, h.o4, h.bel.grown (grownBy_setCell _ _ _ _) h.bel.size (fun k hk => by injection hk with hk; exact hk ▸ h1), h.res.far (bk_type h.res hx (by decide)), Bk.far h.rd (bk_type h.rd hx (by decide)), h.box.far (bk_type h.box hx (by decide)), h.nod.far2 h2, h.ses.far2 (ow_type h.ses hx (by decide))⟩
end
/-- and the node's box gx, the pointers' block gp -/
structure RdX (W1 : World) (gr g gt : Nat) (z : Int) (gx : Nat) (px : List Value) (w : World) (s : ByteArray) (b : Bool) (vn vs : Value) (ns : List Node) (ss : List Int) : Prop where
  rdd : Rd W1 gr g gt z w s b vn vs ns ss
  x1 : W1.heap.size ≤ gx
  x2 : vn.ownBlock ≠ some gx
  xb : Bk w gx px 45
section
variable {W1 : World} {gr g gt gx gp : Nat} {z : Int} {px pp : List Value} {w w' : World} {s : ByteArray} {b : Bool} {vn vs : Value} {ns : List Node} {ss : List Int}
theorem RdX.below (h : RdX W1 gr g gt z gx px w s b vn vs ns ss) (hb : Below w.heap.size w w') : RdX W1 gr g gt z gx px w' s b vn vs ns ss := ⟨h.rdd.below hb, h.x1, h.x2, h.xb.below hb⟩
theorem RdX.rdr {s' : ByteArray} {b' : Bool} (h : RdX W1 gr g gt z gx px w s b vn vs ns ss) (hr : Rdr w' g s' b') (hg : w.grownBy w' (some g)) : RdX W1 gr g gt z gx px w' s' b' vn vs ns ss :=
  ⟨h.rdd.rdr hr hg, h.x1, h.x2, h.xb.grown hg (by simpa using bk_type h.xb h.rdd.rd (by decide))⟩
theorem RdX.put (h : RdX W1 gr g gt z gx px w s b vn vs ns ss) (j : Nat) (u : Value) : RdX W1 gr g gt z gx (px.set j u) (w.setCell ⟨gx, j, none⟩ u) s b vn vs ns ss := ⟨h.rdd.far h.xb h.x1 h.x2, h.x1, h.x2, h.xb.put j u⟩
theorem ptr_rdr {s' : ByteArray} {b' : Bool} (h : Bk w gp pp 49) (hr : Rdr w g s' b') (hg : w.grownBy w' (some g)) : Bk w' gp pp 49 := h.grown hg (by simpa using bk_type h hr (by decide))
end
def boxL (p d : ByteArray) (l : List Int) : List Value := .string p :: .string d :: (l.map (fun y => Value.int .i64 y) ++ List.replicate (7 - l.length) (.int .i64 0))
theorem boxL_set {p d : ByteArray} {l : List Int} (y : Int) {j : Nat} (h : l.length = j) (hj : j < 7) : (boxL p d l).set (2 + j) (.int .i64 y) = boxL p d (l ++ [y]) := by
  subst h
  unfold boxL
  rw [Nat.add_comm 2, List.set_cons_succ, List.set_cons_succ]
  have e : 7 - l.length = (7 - (l ++ [y]).length) + 1 := by simp; omega
  rw [e, List.replicate_succ, List.set_append_right _ _ (by simp)]
  simp
theorem boxL_at {p d : ByteArray} {l : List Int} {j : Nat} (h : l.length = j) (hj : j < 7) : (boxL p d l)[2 + j]? = some (.int .i64 0) := by
  subst h
  unfold boxL
  rw [Nat.add_comm 2, List.getElem?_cons_succ, List.getElem?_cons_succ, List.getElem?_append_right (by simp), List.length_map, Nat.sub_self]
  obtain ⟨n, hn⟩ : ∃ n, 7 - l.length = n + 1 := ⟨6 - l.length, by omega⟩
  rw [hn]
  rfl
theorem ptrs_at2 (b o j : Nat) (h : j < 7) : (ptrs b o)[j]? = some (.pointer (some ⟨b, o + j, none⟩)) := by
  obtain rfl | rfl | rfl | rfl | rfl | rfl | rfl : j = 0 ∨ j = 1 ∨ j = 2 ∨ j = 3 ∨ j = 4 ∨ j = 5 ∨ j = 6 := by omega
  all_goals rfl
theorem seven {l : List Int} (h : l.length = 7) : ∃ a b c d e f g, l = [a, b, c, d, e, f, g] := by
  match l, h with
  | [a, b, c, d, e, f, g], _ => exact ⟨a, b, c, d, e, f, g, rfl⟩
end Go.Proofs.YtfoglgeiipafeaaDoor

/- The plain law of wire's records: what is written is read, and what is read was written so. -/
namespace Go.Proofs.YtfoglgeiipafeaaDoor
open Go.RowKit
abbrev bS (l : List UInt8) : ByteArray := ⟨l.toArray⟩
theorem bs_bS (l : List UInt8) : bs (bS l) = l := rfl
theorem bS_bs (s : ByteArray) : bS (bs s) = s := by
  apply ByteArray.ext
  simp [bs]
theorem bS_add (l : List UInt8) (m : ByteArray) : bS l ++ m = bS (l ++ bs m) := by
  apply ByteArray.ext
  simp [bs]
theorem bS_size (l : List UInt8) : (bS l).size = l.length := by show l.toArray.size = _; simp
theorem valN_cons (c : UInt8) (l : List UInt8) : valN (c :: l) = c.toNat * 256 ^ l.length + valN l := by
  refine list_snoc_rec (P := fun l => valN (c :: l) = c.toNat * 256 ^ l.length + valN l) ?_ ?_ l
  · show 0 * 256 + c.toNat = c.toNat * 1 + 0
    omega
  · intro l d ih
    rw [← List.cons_append, valN_snoc, ih, valN_snoc, List.length_append, List.length_singleton, Nat.pow_succ, Nat.add_mul, ← Nat.mul_assoc]
    omega
theorem valN_be : ∀ (n x : Nat), valN (be n x) = x % 256 ^ n
  | 0, x => by rw [Nat.pow_zero, Nat.mod_one]; rfl
  | n + 1, x => by
    have h : be (n + 1) x = UInt8.ofNat (x / 256 ^ n) :: be n x := rfl
    rw [h, valN_cons, valN_be n x, be_length, Nat.mod_pow_succ, Nat.mul_comm, Nat.add_comm]
    congr 2
theorem be_add : ∀ (n a v : Nat), be n (a * 256 ^ n + v) = be n v
  | 0, _, _ => rfl
  | n + 1, a, v => by
    have e : a * 256 ^ (n + 1) + v = (a * 256) * 256 ^ n + v := by rw [Nat.pow_succ, Nat.mul_comm (256 ^ n), Nat.mul_assoc]
    rw [e]
    show UInt8.ofNat (((a * 256) * 256 ^ n + v) / 256 ^ n) :: be n ((a * 256) * 256 ^ n + v) = UInt8.ofNat (v / 256 ^ n) :: be n v
    rw [be_add n (a * 256) v, Nat.add_comm, Nat.add_mul_div_right _ _ (Nat.pow_pos (by decide))]
    congr 1
    apply UInt8.toNat_inj.1
    simp
theorem be_valN : ∀ (l : List UInt8), be l.length (valN l) = l
  | [] => rfl
  | c :: l => by
    have h : valN (c :: l) = c.toNat * 256 ^ l.length + valN l := valN_cons c l
    have hl := valN_lt l
    rw [h]
    show UInt8.ofNat ((c.toNat * 256 ^ l.length + valN l) / 256 ^ l.length) :: be l.length (c.toNat * 256 ^ l.length + valN l) = _
    rw [be_add, be_valN l, Nat.add_comm, Nat.add_mul_div_right _ _ (Nat.pow_pos (by decide)), Nat.div_eq_of_lt hl]
    congr 1
    apply UInt8.toNat_inj.1
    simp
theorem valI_wrap (l : List UInt8) : valI l = wrap64 (valN l : Int) := by
  refine list_snoc_rec (P := fun l => valI l = wrap64 (valN l : Int)) ?_ ?_ l
  · show (0 : Int) = wrap64 0
    unfold wrap64
    omega
  · intro l c ih
    rw [valI_snoc, ih, valN_snoc]
    unfold wrap64
    omega
theorem be_one (x : Nat) : be 1 x = [UInt8.ofNat x] := by
  show [UInt8.ofNat (x / 256 ^ 0)] = _
  rw [Nat.pow_zero, Nat.div_one]
theorem eat {x y : List UInt8} {n : Nat} (h : x.length = n) : badT (bS (x ++ y)) false n = false ∧ takeT (bS (x ++ y)) false n = bS x ∧ restT (bS (x ++ y)) false n = bS y := by
  have hb : badT (bS (x ++ y)) false n = false := by
    unfold badT
    rw [Bool.false_or, bS_size, List.length_append]
    exact decide_eq_false (by omega)
  obtain ⟨_, h2, h3, _⟩ := tk_ok hb
  refine ⟨hb, bs_inj ?_, bs_inj ?_⟩
  · rw [h2, bs_bS, bs_bS, ← h, List.take_left]
  · rw [h3, bs_bS, bs_bS, ← h, List.drop_left]
theorem dec_shape (B C more : List UInt8) (n : Nat) (hn : n ≤ 1024) (hB : B.length = n) (hC : C.length = 4) :
    decR (bS ([84] ++ (be 2 n ++ (B ++ (C ++ more))))) = bif ((sumN ([84] ++ be 2 n ++ B) : Nat) : Int) != (valN C : Int) then (txn0, 0, 5) else dB1 n (bS B) false := by
  have e1 := eat (x := [84]) (y := be 2 n ++ (B ++ (C ++ more))) (n := 1) rfl
  have e2 := eat (x := be 2 n) (y := B ++ (C ++ more)) (n := 2) (be_length _ _)
  have e3 := eat (x := B) (y := C ++ more) (n := n) hB
  have e4 := eat (x := C) (y := more) (n := 4) hC
  have hv : valI (bs (bS (be 2 n))) = (n : Int) := by
    rw [bs_bS, valI_nat _ (by rw [be_length]; decide), valN_be, Nat.mod_eq_of_lt (by omega)]
  have hx : bs ((bS ([84] ++ (be 2 n ++ (B ++ (C ++ more))))).extract 0 (3 + n)) = [84] ++ be 2 n ++ B := by
    rw [bs_extractTD, List.drop_zero, bs_bS]
    have : [84] ++ (be 2 n ++ (B ++ (C ++ more))) = ([84] ++ be 2 n ++ B) ++ (C ++ more) := by simp only [List.append_assoc]
    rw [this, List.take_left' (by simp [be_length]; omega)]
  unfold decR
  rw [e1.1, e1.2.1, e1.2.2]
  have h0 : (!((bS [84]).toList == [84])) = false := by rw [ByteArray.toList_eq]; rfl
  rw [dec1_ok h0 (n := n) (by rw [e2.2.1]; exact hv), e2.1, e2.2.2, dec2_ok (by decide) (by omega), e3.1, e3.2.1, e3.2.2]
  unfold dec3
  rw [e4.1, e4.2.1, bs_bS, valI_nat _ (by omega)]
  unfold dec4
  rw [hx]
  rfl
theorem dB1_eval (n : Int) (z o s v ow : Nat) (p d : List UInt8) (hz : z < 4611686018427387904) (ho : o < 256) (hs : s < 4294967296) (hv : v < 4294967296) (how : ow < 4294967296) (hp : p.length < 256) (hd : d.length < 65536) :
    dB1 n (bS (bodyL z o s v ow p d)) false = dB10 n z o s v ow (bS p) (bS d) (bS []) false := by
  have hb : bodyL z o s v ow p d = be 8 z ++ (be 1 o ++ (be 4 s ++ (be 4 v ++ (be 4 ow ++ (be 1 p.length ++ (p ++ (be 2 d.length ++ (d ++ [])))))))) := by
    unfold bodyL
    simp only [List.append_assoc, be_one, List.append_nil]
  have f8 : valI (bs (bS (be 8 z))) = (z : Int) := by
    rw [bs_bS, valI_wrap, valN_be, Nat.mod_eq_of_lt (by omega)]
    unfold wrap64
    omega
  have fk : ∀ (k x : Nat), k ≤ 7 → x < 256 ^ k → valI (bs (bS (be k x))) = (x : Int) := by
    intro k x hk hx
    rw [bs_bS, valI_nat _ (by rw [be_length]; exact hk), valN_be, Nat.mod_eq_of_lt hx]
  rw [hb]
  unfold dB1
  have e := eat (x := be 8 z) (y := be 1 o ++ (be 4 s ++ (be 4 v ++ (be 4 ow ++ (be 1 p.length ++ (p ++ (be 2 d.length ++ (d ++ [])))))))) (n := 8) (be_length _ _)
  rw [e.1, e.2.1, e.2.2, f8]
  unfold dB2
  have e := eat (x := be 1 o) (y := be 4 s ++ (be 4 v ++ (be 4 ow ++ (be 1 p.length ++ (p ++ (be 2 d.length ++ (d ++ []))))))) (n := 1) (be_length _ _)
  rw [e.1, e.2.1, e.2.2, fk 1 o (by decide) (by omega)]
  unfold dB3
  have e := eat (x := be 4 s) (y := be 4 v ++ (be 4 ow ++ (be 1 p.length ++ (p ++ (be 2 d.length ++ (d ++ [])))))) (n := 4) (be_length _ _)
  rw [e.1, e.2.1, e.2.2, fk 4 s (by decide) (by omega)]
  unfold dB4
  have e := eat (x := be 4 v) (y := be 4 ow ++ (be 1 p.length ++ (p ++ (be 2 d.length ++ (d ++ []))))) (n := 4) (be_length _ _)
  rw [e.1, e.2.1, e.2.2, fk 4 v (by decide) (by omega)]
  unfold dB5
  have e := eat (x := be 4 ow) (y := be 1 p.length ++ (p ++ (be 2 d.length ++ (d ++ [])))) (n := 4) (be_length _ _)
  rw [e.1, e.2.1, e.2.2, fk 4 ow (by decide) (by omega)]
  unfold dB6
  have e := eat (x := be 1 p.length) (y := p ++ (be 2 d.length ++ (d ++ []))) (n := 1) (be_length _ _)
  rw [e.1, e.2.1, e.2.2, fk 1 p.length (by decide) (by omega), Int.toNat_natCast]
  unfold dB7
  have e := eat (x := p) (y := be 2 d.length ++ (d ++ [])) (n := p.length) rfl
  rw [e.1, e.2.1, e.2.2]
  unfold dB8
  have e := eat (x := be 2 d.length) (y := d ++ []) (n := 2) (be_length _ _)
  rw [e.1, e.2.1, e.2.2, fk 2 d.length (by decide) (by omega), Int.toNat_natCast]
  unfold dB9
  have e := eat (x := d) (y := []) (n := d.length) rfl
  rw [e.1, e.2.1, e.2.2]
end Go.Proofs.YtfoglgeiipafeaaDoor

/- The plain laws of wire's records, together. -/
namespace Go.Proofs.YtfoglgeiipafeaaDoor
open Go.RowKit
theorem goodT_mk {z o s v ow : Int} {p d : ByteArray} (h : goodT ⟨z, o, s, p, d, v, ow⟩ = 0) : GoodF ⟨z, o, s, p, d, v, ow⟩ := goodT_facts _ h
theorem recT_length (t : Txn) : (recT t).length = (bodyL t.zxid.toNat t.op.toNat t.session.toNat t.version.toNat t.owner.toNat (bs t.path) (bs t.data)).length + 7 := by
  unfold recT recL headL
  simp [be_length]
  omega
theorem body_small (t : Txn) (h : goodT t = 0) : (bodyL t.zxid.toNat t.op.toNat t.session.toNat t.version.toNat t.owner.toNat (bs t.path) (bs t.data)).length ≤ 1024 := by
  have f := goodT_facts t h
  have := f.d1
  have := f.p1
  rw [bodyL_length, length_bs, length_bs]
  omega
theorem body_eval (t : Txn) (h : goodT t = 0) (n : Int) : dB1 n (bS (bodyL t.zxid.toNat t.op.toNat t.session.toNat t.version.toNat t.owner.toNat (bs t.path) (bs t.data))) false = (t, n + 7, 0) := by
  have f := goodT_facts t h
  have f1 := f.d1
  have f2 := f.p1
  have f3 := f.z0
  have f4 := f.z1
  have f5 := f.o0
  have f6 := f.o1
  have f7 := f.s0
  have f8 := f.s1
  have f9 := f.v0
  have f10 := f.v1
  have f11 := f.w0
  have f12 := f.w1
  rw [dB1_eval n _ _ _ _ _ _ _ (by omega) (by omega) (by omega) (by omega) (by omega) (by rw [length_bs]; omega) (by rw [length_bs]; omega)]
  rw [Int.toNat_of_nonneg f3, Int.toNat_of_nonneg (show 0 ≤ t.op by omega), Int.toNat_of_nonneg (show 0 ≤ t.session by omega), Int.toNat_of_nonneg f9, Int.toNat_of_nonneg f11, bS_bs, bS_bs]
  exact dB10_ok (by decide) (by rw [ByteArray.toList_eq]; rfl) (by show (goodT t != 0) = false; rw [h]; rfl)
theorem dec_back (t : Txn) (h : goodT t = 0) (more : List UInt8) : decR (bS (recT t ++ more)) = (t, ((recT t).length : Int), 0) := by
  have hB := body_small t h
  have hl := recT_length t
  have he := fun n => body_eval t h n
  rw [hl]
  unfold recT
  generalize bodyL t.zxid.toNat t.op.toNat t.session.toNat t.version.toNat t.owner.toNat (bs t.path) (bs t.data) = B at *
  have e : recL B ++ more = [84] ++ (be 2 B.length ++ (B ++ (be 4 (sumN (headL B)) ++ more))) := by
    unfold recL headL
    simp only [List.append_assoc]
  rw [e, dec_shape B _ more B.length hB rfl (be_length _ _), valN_be, Nat.mod_eq_of_lt (show sumN (headL B) < 256 ^ 4 from sumN_lt _)]
  have e2 : (((sumN ([84] ++ be 2 B.length ++ B) : Nat) : Int) != ((sumN (headL B) : Nat) : Int)) = false := by unfold headL; simp
  rw [e2, he]
  simp
theorem badT_true (s : ByteArray) (n : Nat) : badT s true n = true := rfl
theorem badT_short {l : List UInt8} {n : Nat} (h : l.length < n) : badT (bS l) false n = true := by
  unfold badT
  rw [bS_size, decide_eq_true h]
  rfl
theorem takeT_bad {s : ByteArray} {b : Bool} {n : Nat} (h : badT s b n = true) : takeT s b n = ⟨#[]⟩ := by unfold takeT; rw [h]; rfl
theorem dec_none : decR (bS []) = (txn0, 0, 2) := by
  unfold decR
  have h := badT_short (l := []) (n := 1) (by decide)
  rw [h, takeT_bad h]
  exact dec1_bad (by rw [ByteArray.toList_eq]; rfl)
theorem wdec_len {y : List UInt8} (h : y.length < 2) : decR (bS ([84] ++ y)) = (txn0, 0, 2) := by
  have e1 := eat (x := [84]) (y := y) (n := 1) rfl
  have hb := badT_short (l := y) (n := 2) h
  unfold decR
  rw [e1.1, e1.2.1, e1.2.2]
  have h0 : (!((bS [84]).toList == [84])) = false := by rw [ByteArray.toList_eq]; rfl
  rw [dec1_ok h0 (n := 0) (by rw [takeT_bad hb]; rfl), hb]
  exact dec2_bad rfl
theorem dec_short {y : List UInt8} {n : Nat} (hn : n ≤ 1024) (h : y.length < n + 4) : decR (bS ([84] ++ (be 2 n ++ y))) = (txn0, 0, 2) := by
  have e1 := eat (x := [84]) (y := be 2 n ++ y) (n := 1) rfl
  have e2 := eat (x := be 2 n) (y := y) (n := 2) (be_length _ _)
  have hv : valI (bs (bS (be 2 n))) = (n : Int) := by
    rw [bs_bS, valI_nat _ (by rw [be_length]; decide), valN_be, Nat.mod_eq_of_lt (by omega)]
  unfold decR
  rw [e1.1, e1.2.1, e1.2.2]
  have h0 : (!((bS [84]).toList == [84])) = false := by rw [ByteArray.toList_eq]; rfl
  rw [dec1_ok h0 (n := n) (by rw [e2.2.1]; exact hv), e2.1, e2.2.2, dec2_ok (by decide) (by omega)]
  unfold dec3
  refine dec4_bad ?_
  by_cases hy : y.length < n
  · rw [badT_short hy, badT_true]
  · have e3 := eat (x := y.take n) (y := y.drop n) (n := n) (by rw [List.length_take]; omega)
    rw [List.take_append_drop] at e3
    rw [e3.1, e3.2.2]
    exact badT_short (by rw [List.length_drop]; omega)
theorem dec_cut (t : Txn) (h : goodT t = 0) (k : Nat) (hk : k < (recT t).length) : decR (bS ((recT t).take k)) = (txn0, 0, 2) := by
  have hB := body_small t h
  rw [recT_length t] at hk
  unfold recT
  generalize bodyL t.zxid.toNat t.op.toNat t.session.toNat t.version.toNat t.owner.toNat (bs t.path) (bs t.data) = B at *
  have e : recL B = [84] ++ (be 2 B.length ++ (B ++ be 4 (sumN (headL B)))) := by
    unfold recL headL
    simp only [List.append_assoc]
  rw [e]
  match k, hk with
  | 0, _ => exact dec_none
  | 1, _ => exact wdec_len (y := []) (by decide)
  | 2, _ =>
    rw [List.take_append, List.take_of_length_le (show ([84] : List UInt8).length ≤ 2 by decide)]
    exact wdec_len (by rw [List.length_take]; show min 1 _ < 2; omega)
  | k + 3, hk =>
    rw [List.take_append, List.take_of_length_le (show ([84] : List UInt8).length ≤ k + 3 by simp), List.take_append, List.take_of_length_le (show (be 2 B.length).length ≤ _ by rw [be_length]; simp)]
    refine dec_short hB ?_
    rw [List.length_take, be_length]
    simp
    omega
theorem xor_can {a b p : Nat} (h : a ^^^ p = b ^^^ p) : a = b := by
  have h2 := congrArg (· ^^^ p) h
  simpa [Nat.xor_assoc] using h2
theorem xor_top {a : Nat} (h : a < 2147483648) : 2147483648 ≤ a ^^^ 3988292384 := by
  refine Nat.ge_two_pow_of_testBit (i := 31) ?_
  rw [Nat.testBit_xor, Nat.testBit_lt_two_pow (show a < 2 ^ 31 from h)]
  decide
theorem rnd_inj {a b : Nat} (ha : a < 4294967296) (hb : b < 4294967296) (h : rnd a = rnd b) : a = b := by
  unfold rnd at h
  have t1 := xor_top (a := a / 2) (by omega)
  have t2 := xor_top (a := b / 2) (by omega)
  split at h
  · split at h
    · have := xor_can h
      omega
    · omega
  · split at h
    · omega
    · omega
theorem rndN_inj {a b : Nat} (ha : a < 4294967296) (hb : b < 4294967296) : ∀ n, rndN n a = rndN n b → a = b
  | 0, h => h
  | n + 1, h => rndN_inj ha hb n (rnd_inj (rndN_lt ha n) (rndN_lt hb n) h)
theorem sumK_inj : ∀ (l : List UInt8) {a b : Nat}, a < 4294967296 → b < 4294967296 → sumK l a = sumK l b → a = b
  | [], _, _, _, _, h => h
  | x :: r, a, b, ha, hb, h => by
    have hx : x.toNat < 256 := x.toNat_lt
    have h1 := sumK_inj r (rndN_lt (xor_lt ha (by omega)) 8) (rndN_lt (xor_lt hb (by omega)) 8) h
    exact xor_can (rndN_inj (xor_lt ha (by omega)) (xor_lt hb (by omega)) 8 h1)
theorem sumK_app (l m : List UInt8) (c : Nat) : sumK (l ++ m) c = sumK m (sumK l c) := by unfold sumK; rw [List.foldl_append]
theorem sumN_diff (l m : List UInt8) (x y : UInt8) (h : x ≠ y) : sumN (l ++ x :: m) ≠ sumN (l ++ y :: m) := by
  intro e
  have h1 := sumK_lt (l ++ x :: m) (c := 4294967295) (by decide)
  have h2 := sumK_lt (l ++ y :: m) (c := 4294967295) (by decide)
  have h3 : sumK (l ++ x :: m) 4294967295 = sumK (l ++ y :: m) 4294967295 := by unfold sumN at e; omega
  rw [sumK_app, sumK_app] at h3
  have hl := sumK_lt l (c := 4294967295) (by decide)
  have hx : x.toNat < 256 := x.toNat_lt
  have hy : y.toNat < 256 := y.toNat_lt
  have h4 := sumK_inj m (rndN_lt (xor_lt hl (show x.toNat < 4294967296 by omega)) 8) (rndN_lt (xor_lt hl (show y.toNat < 4294967296 by omega)) 8) h3
  have h5 := rndN_inj (xor_lt hl (by omega)) (xor_lt hl (by omega)) 8 h4
  rw [Nat.xor_comm, Nat.xor_comm _ y.toNat] at h5
  exact h (UInt8.toNat_inj.1 (xor_can h5))
end Go.Proofs.YtfoglgeiipafeaaDoor

/- The plain laws of wire's records: a byte that is changed, and what is read at all. -/
namespace Go.Proofs.YtfoglgeiipafeaaDoor
open Go.RowKit
theorem list_at {l : List UInt8} {i : Nat} {c : UInt8} (h : l[i]? = some c) : l = l.take i ++ c :: l.drop (i + 1) := by
  obtain ⟨hlt, hc⟩ := List.getElem?_eq_some_iff.1 h
  have := List.take_append_drop i l
  rw [List.drop_eq_getElem_cons hlt, hc] at this
  exact this.symm
theorem valN_inj {a b : List UInt8} (hl : a.length = b.length) (h : valN a = valN b) : a = b := by
  rw [← be_valN a, ← be_valN b, h, hl]
theorem turned_shape (B C : List UInt8) (hB : B.length ≤ 1024) (hC : C.length = 4) (hs : sumN ([84] ++ be 2 B.length ++ B) = valN C) (i : Nat) (c c' : UInt8) (hc : (B ++ C)[i]? = some c) (hne : c' ≠ c) :
    decR (bS ([84] ++ (be 2 B.length ++ ((B ++ C).take i ++ c' :: (B ++ C).drop (i + 1))))) = (txn0, 0, 5) := by
  by_cases hi : i < B.length
  · have hcB : B[i]? = some c := by rw [List.getElem?_append_left hi] at hc; exact hc
    have eB := list_at hcB
    have e1 : (B ++ C).take i ++ c' :: (B ++ C).drop (i + 1) = (B.take i ++ c' :: B.drop (i + 1)) ++ (C ++ []) := by
      rw [List.take_append_of_le_length (by omega), List.drop_append_of_le_length (by omega)]
      simp
    have hl : (B.take i ++ c' :: B.drop (i + 1)).length = B.length := by
      simp
      omega
    rw [e1, dec_shape _ C [] B.length hB hl hC, ← hs]
    have hd : sumN ([84] ++ be 2 B.length ++ (B.take i ++ c' :: B.drop (i + 1))) ≠ sumN ([84] ++ be 2 B.length ++ B) := by
      have := sumN_diff ([84] ++ be 2 B.length ++ B.take i) (B.drop (i + 1)) c' c hne
      rw [List.append_assoc, List.append_assoc ([84] ++ be 2 B.length), ← eB] at this
      exact this
    rw [show (((sumN ([84] ++ be 2 B.length ++ (B.take i ++ c' :: B.drop (i + 1))) : Nat) : Int) != ((sumN ([84] ++ be 2 B.length ++ B) : Nat) : Int)) = true from bne_iff_ne.2 (fun e => hd (by omega))]
    rfl
  · have hj : (B ++ C)[i]? = C[i - B.length]? := List.getElem?_append_right (by omega)
    rw [hj] at hc
    have eC := list_at hc
    have e1 : (B ++ C).take i ++ c' :: (B ++ C).drop (i + 1) = B ++ ((C.take (i - B.length) ++ c' :: C.drop (i - B.length + 1)) ++ []) := by
      rw [List.take_append, List.take_of_length_le (by omega), List.drop_append, List.drop_of_length_le (by omega), show i + 1 - B.length = i - B.length + 1 by omega]
      simp
    obtain ⟨hlt, _⟩ := List.getElem?_eq_some_iff.1 hc
    have hl : (C.take (i - B.length) ++ c' :: C.drop (i - B.length + 1)).length = 4 := by
      simp
      omega
    rw [e1, dec_shape B _ [] B.length hB rfl hl, hs]
    have hd : valN C ≠ valN (C.take (i - B.length) ++ c' :: C.drop (i - B.length + 1)) := by
      intro e
      have e2 := valN_inj (by rw [hl, hC]) e
      have e3 := congrArg (fun l => l[i - B.length]?) e2
      rw [hc, List.getElem?_append_right (by rw [List.length_take]; omega), List.length_take, Nat.min_eq_left (by omega), Nat.sub_self] at e3
      simp at e3
      exact hne e3.symm
    rw [show (((valN C : Nat) : Int) != ((valN (C.take (i - B.length) ++ c' :: C.drop (i - B.length + 1)) : Nat) : Int)) = true from bne_iff_ne.2 (fun e => hd (by omega))]
    rfl
theorem dec_turned (t : Txn) (h : goodT t = 0) (i : Nat) (c c' : UInt8) (hc : (recT t)[i + 3]? = some c) (hne : c' ≠ c) :
    decR (bS ((recT t).take (i + 3) ++ c' :: (recT t).drop (i + 4))) = (txn0, 0, 5) := by
  have hB := body_small t h
  unfold recT at *
  generalize bodyL t.zxid.toNat t.op.toNat t.session.toNat t.version.toNat t.owner.toNat (bs t.path) (bs t.data) = B at *
  have e : recL B = ([84] ++ be 2 B.length) ++ (B ++ be 4 (sumN (headL B))) := by
    unfold recL headL
    simp only [List.append_assoc]
  have h3 : ([84] ++ be 2 B.length).length = 3 := by simp [be_length]
  rw [e, List.getElem?_append_right (by omega), h3, Nat.add_sub_cancel] at hc
  have hv : sumN ([84] ++ be 2 B.length ++ B) = valN (be 4 (sumN (headL B))) := by
    rw [valN_be, Nat.mod_eq_of_lt (show sumN (headL B) < 256 ^ 4 from sumN_lt _)]
    rfl
  have e2 := turned_shape B (be 4 (sumN (headL B))) hB (be_length _ _) hv i c c' hc hne
  have e3 : (recL B).take (i + 3) ++ c' :: (recL B).drop (i + 4) = [84] ++ (be 2 B.length ++ ((B ++ be 4 (sumN (headL B))).take i ++ c' :: (B ++ be 4 (sumN (headL B))).drop (i + 1))) := by
    rw [e, List.take_append, List.take_of_length_le (by omega), List.drop_append, List.drop_of_length_le (by omega), h3, Nat.add_sub_cancel, show i + 4 - 3 = i + 1 by omega]
    simp only [List.append_assoc, List.nil_append]
  rw [e3]
  exact e2
theorem tk_two {s : ByteArray} {b : Bool} {n : Nat} (h : badT s b n = false) : b = false ∧ bs s = bs (takeT s b n) ++ bs (restT s b n) ∧ (bs (takeT s b n)).length = n := by
  obtain ⟨h1, h2, h3, h4⟩ := tk_ok h
  refine ⟨h1, ?_, ?_⟩
  · rw [h2, h3, List.take_append_drop]
  · rw [h2, List.length_take, length_bs]
    omega
theorem val7 {l : List UInt8} {n : Nat} (h : l.length = n) (hn : n ≤ 7) : be n (valI l).toNat = l := by
  rw [valI_nat l (by omega), Int.toNat_natCast, ← h, be_valN]
theorem val8 {l : List UInt8} (h : l.length = 8) (h0 : 0 ≤ valI l) : be 8 (valI l).toNat = l := by
  have hl := valN_lt l
  rw [h] at hl
  have e : (valI l).toNat = valN l := by
    rw [valI_wrap] at *
    unfold wrap64 at *
    omega
  rw [e, ← h, be_valN]
theorem dB1_inv (n : Int) (B : ByteArray) : (∃ t, goodT t = 0 ∧ bs B = bodyL t.zxid.toNat t.op.toNat t.session.toNat t.version.toNat t.owner.toNat (bs t.path) (bs t.data) ∧ dB1 n B false = (t, n + 7, 0)) ∨ ∃ e, e ≠ 0 ∧ dB1 n B false = (txn0, 0, e) := by
  unfold dB1 dB2 dB3 dB4 dB5 dB6 dB7 dB8 dB9
  generalize hu1 : restT B false 8 = u1
  generalize hc1 : badT B false 8 = c1
  generalize hu2 : restT u1 c1 1 = u2
  generalize hc2 : badT u1 c1 1 = c2
  generalize hu3 : restT u2 c2 4 = u3
  generalize hc3 : badT u2 c2 4 = c3
  generalize hu4 : restT u3 c3 4 = u4
  generalize hc4 : badT u3 c3 4 = c4
  generalize hu5 : restT u4 c4 4 = u5
  generalize hc5 : badT u4 c4 4 = c5
  generalize hu6 : restT u5 c5 1 = u6
  generalize hc6 : badT u5 c5 1 = c6
  generalize hpl : (valI (bs (takeT u5 c5 1))).toNat = pl
  generalize hu7 : restT u6 c6 pl = u7
  generalize hc7 : badT u6 c6 pl = c7
  generalize hu8 : restT u7 c7 2 = u8
  generalize hc8 : badT u7 c7 2 = c8
  generalize hdl : (valI (bs (takeT u7 c7 2))).toNat = dl
  generalize hu9 : restT u8 c8 dl = u9
  generalize hc9 : badT u8 c8 dl = c9
  cases hb : c9 with
  | true => exact .inr ⟨2, by decide, dB10_bad rfl⟩
  | false =>
    cases hm : !u9.toList.isEmpty with
    | true => exact .inr ⟨2, by decide, dB10_more hm⟩
    | false =>
      cases hg : goodT ⟨valI (bs (takeT B false 8)), valI (bs (takeT u1 c1 1)), valI (bs (takeT u2 c2 4)), takeT u6 c6 pl, takeT u8 c8 dl, valI (bs (takeT u3 c3 4)), valI (bs (takeT u4 c4 4))⟩ != 0 with
      | true => exact .inr ⟨_, bne_iff_ne.1 hg, dB10_not (by decide) hm hg⟩
      | false =>
        have hg0 : goodT ⟨valI (bs (takeT B false 8)), valI (bs (takeT u1 c1 1)), valI (bs (takeT u2 c2 4)), takeT u6 c6 pl, takeT u8 c8 dl, valI (bs (takeT u3 c3 4)), valI (bs (takeT u4 c4 4))⟩ = 0 := by simpa using hg
        refine .inl ⟨_, hg0, ?_, dB10_ok (by decide) hm hg⟩
        have f := goodT_facts _ hg0
        have f0 := f.z0
        dsimp only at f0 ⊢
        have k9 := tk_two (hc9.trans hb)
        have k8 := tk_two (hc8.trans k9.1)
        have k7 := tk_two (hc7.trans k8.1)
        have k6 := tk_two (hc6.trans k7.1)
        have k5 := tk_two (hc5.trans k6.1)
        have k4 := tk_two (hc4.trans k5.1)
        have k3 := tk_two (hc3.trans k4.1)
        have k2 := tk_two (hc2.trans k3.1)
        have k1 := tk_two (hc1.trans k2.1)
        have h9 : bs u9 = [] := by
          rw [ByteArray.toList_eq] at hm
          unfold bs
          simpa using hm
        have v1 := val8 k1.2.2 f0
        have v2 := val7 k2.2.2 (by decide)
        have v3 := val7 k3.2.2 (by decide)
        have v4 := val7 k4.2.2 (by decide)
        have v5 := val7 k5.2.2 (by decide)
        have v6 := val7 k6.2.2 (by decide)
        have v8 := val7 k8.2.2 (by decide)
        rw [hpl] at v6
        rw [hdl] at v8
        rw [k1.2.1, hu1, k2.2.1, hu2, k3.2.1, hu3, k4.2.1, hu4, k5.2.1, hu5, k6.2.1, hu6, k7.2.1, hu7, k8.2.1, hu8, k9.2.1, hu9, h9]
        unfold bodyL
        rw [v1, ← be_one, v2, v3, v4, v5, k7.2.2, ← be_one, v6, k9.2.2, v8]
        simp only [List.append_assoc, List.append_nil]
theorem dec_inv (s : ByteArray) : (∃ t rest, goodT t = 0 ∧ bs s = recT t ++ rest ∧ decR s = (t, ((recT t).length : Int), 0)) ∨ ∃ e, e ≠ 0 ∧ decR s = (txn0, 0, e) := by
  unfold decR
  generalize hu1 : restT s false 1 = s1
  generalize hc1 : badT s false 1 = b1
  cases h1 : !((takeT s false 1).toList == [84]) with
  | true => exact .inr ⟨2, by decide, dec1_bad h1⟩
  | false =>
    obtain ⟨n, hn, _⟩ := valT s1 b1 2 (by decide)
    rw [dec1_ok h1 hn]
    generalize hu2 : restT s1 b1 2 = s2
    generalize hc2 : badT s1 b1 2 = b2
    cases hb2 : b2 with
    | true => exact .inr ⟨2, by decide, dec2_bad rfl⟩
    | false =>
      by_cases hbig : 1024 < (n : Int)
      · exact .inr ⟨2, by decide, dec2_big hbig⟩
      · rw [dec2_ok (by decide) (by omega)]
        unfold dec3
        rw [← hb2]
        generalize hu3 : restT s2 b2 n = s3
        generalize hc3 : badT s2 b2 n = b3
        generalize hc4 : badT s3 b3 4 = b4
        cases hb4 : b4 with
        | true => exact .inr ⟨2, by decide, dec4_bad rfl⟩
        | false =>
          cases hs : ((sumN (bs (s.extract 0 (3 + n))) : Nat) : Int) != valI (bs (takeT s3 b3 4)) with
          | true => exact .inr ⟨5, by decide, dec4_sum rfl hs⟩
          | false =>
            rw [dec4_ok rfl hs]
            rcases dB1_inv n (takeT s2 b2 n) with ⟨t, hg, hB, hd⟩ | h
            · have k4 := tk_two (hc4.trans hb4)
              have k3 := tk_two (hc3.trans k4.1)
              have k2 := tk_two (hc2.trans hb2)
              have k1 := tk_two (hc1.trans k2.1)
              have ht : bs (takeT s false 1) = [84] := by
                rw [ByteArray.toList_eq] at h1
                unfold bs
                simpa using h1
              have hn2 := val7 k2.2.2 (by decide)
              rw [hn, Int.toNat_natCast] at hn2
              have hv4 := val7 k4.2.2 (by decide)
              have es : bs s = [84] ++ (be 2 n ++ (bs (takeT s2 b2 n) ++ (bs (takeT s3 b3 4) ++ bs (restT s3 b3 4)))) := by
                rw [k1.2.1, hu1, ht, k2.2.1, hu2, ← hn2, k3.2.1, hu3, k4.2.1]
              have hlen := k3.2.2
              generalize bs (takeT s2 b2 n) = B at *
              have hx : bs (s.extract 0 (3 + n)) = [84] ++ be 2 n ++ B := by
                rw [bs_extractTD, List.drop_zero, es]
                have : [84] ++ (be 2 n ++ (B ++ (bs (takeT s3 b3 4) ++ bs (restT s3 b3 4)))) = ([84] ++ be 2 n ++ B) ++ (bs (takeT s3 b3 4) ++ bs (restT s3 b3 4)) := by simp only [List.append_assoc]
                rw [this, List.take_left' (by simp [be_length]; omega)]
              rw [hx] at hs
              have hs2 : ((sumN ([84] ++ be 2 n ++ B) : Nat) : Int) = valI (bs (takeT s3 b3 4)) := by simpa using hs
              rw [← hs2, Int.toNat_natCast] at hv4
              have er : recT t = [84] ++ (be 2 n ++ (B ++ bs (takeT s3 b3 4))) := by
                unfold recT recL headL
                rw [← hB, hlen, hv4]
                simp only [List.append_assoc]
              refine .inl ⟨t, bs (restT s3 b3 4), hg, ?_, ?_⟩
              · rw [es, er]
                simp only [List.append_assoc]
              · rw [hd, er]
                simp [be_length, hlen, k4.2.2]
                omega
            · exact .inr h
end Go.Proofs.YtfoglgeiipafeaaDoor

/- The plain law of a tree's bytes: what is written is read, and what is read was written so. -/
namespace Go.Proofs.YtfoglgeiipafeaaDoor
open Go.RowKit
theorem f_be8 (z : Int) (h0 : 0 ≤ z) (h1 : z < 9223372036854775808) : valI (bs (bS (be 8 z.toNat))) = z := by
  rw [bs_bS, valI_wrap, valN_be, Nat.mod_eq_of_lt (by omega)]
  unfold wrap64
  omega
theorem f_be (k x : Nat) (hk : k ≤ 7) (hx : x < 256 ^ k) : valI (bs (bS (be k x))) = (x : Int) := by
  rw [bs_bS, valI_nat _ (by rw [be_length]; exact hk), valN_be, Nat.mod_eq_of_lt hx]
def restBy (t : Tr) : List UInt8 := be 8 t.zxid.toNat ++ (be 4 t.sess.length ++ (sessBy t.sess ++ (be 4 t.nodes.length ++ t.nodes.flatMap nodeBy)))
theorem body_rest (t : Tr) : bodyBy t = [83] ++ restBy t := by
  unfold bodyBy restBy
  simp only [List.append_assoc]
theorem sess_fwd : ∀ (ss : List Int) (y : List UInt8), (∀ s ∈ ss, 0 ≤ s ∧ s < 4294967296) → sessS ss.length (bS (sessBy ss ++ y)) false = ss ∧ sessR ss.length (bS (sessBy ss ++ y)) false = (bS y, false)
  | [], y, _ => ⟨rfl, rfl⟩
  | s :: ss, y, h => by
    have hs := h s (by simp)
    have ih := sess_fwd ss y (fun x hx => h x (by simp [hx]))
    have e : sessBy (s :: ss) ++ y = be 4 s.toNat ++ (sessBy ss ++ y) := by unfold sessBy; simp
    have k := eat (x := be 4 s.toNat) (y := sessBy ss ++ y) (n := 4) (be_length _ _)
    rw [e, List.length_cons]
    unfold sessS sessR
    rw [k.1, k.2.1, k.2.2, ih.1, ih.2, f_be 4 s.toNat (by decide) (by omega), Int.toNat_of_nonneg hs.1]
    exact ⟨rfl, rfl⟩
theorem nums_fwd : ∀ (l : List Int) (y : List UInt8), (∀ x ∈ l, 0 ≤ x ∧ x < 9223372036854775808) → numsS l.length (bS (l.flatMap (fun s => be 8 s.toNat) ++ y)) false = l ∧ numsR l.length (bS (l.flatMap (fun s => be 8 s.toNat) ++ y)) false = (bS y, false)
  | [], y, _ => ⟨rfl, rfl⟩
  | s :: ss, y, h => by
    have hs := h s (by simp)
    have ih := nums_fwd ss y (fun x hx => h x (by simp [hx]))
    have e : (s :: ss).flatMap (fun s => be 8 s.toNat) ++ y = be 8 s.toNat ++ (ss.flatMap (fun s => be 8 s.toNat) ++ y) := by simp
    have k := eat (x := be 8 s.toNat) (y := ss.flatMap (fun s => be 8 s.toNat) ++ y) (n := 8) (be_length _ _)
    rw [e, List.length_cons]
    unfold numsS numsR
    rw [k.1, k.2.1, k.2.2, ih.1, ih.2, f_be8 s hs.1 hs.2]
    exact ⟨rfl, rfl⟩
theorem txt_fwd (m : Nat) (hm : m ≤ 7) (p : ByteArray) (hp : p.size < 256 ^ m) (y : List UInt8) : txtS m (bS (be m p.size ++ (bs p ++ y))) false = p ∧ txtR m (bS (be m p.size ++ (bs p ++ y))) false = (bS y, false) := by
  have k := eat (x := be m p.size) (y := bs p ++ y) (n := m) (be_length _ _)
  have k2 := eat (x := bs p) (y := y) (n := p.size) (length_bs p)
  unfold txtS txtR
  rw [k.1, k.2.1, k.2.2, f_be m p.size hm hp, Int.toNat_natCast, k2.1, k2.2.1, k2.2.2, bS_bs]
  exact ⟨rfl, rfl⟩
def numL (n : Node) : List Int := [n.czxid, n.mzxid, n.pzxid, n.version, n.cversion, n.owner, n.kids]
theorem statBy_num (n : Node) : statBy n = (numL n).flatMap (fun s => be 8 s.toNat) := by
  unfold statBy numL
  simp [List.append_assoc]
theorem nodeBy_form (n : Node) (y : List UInt8) : nodeBy n ++ y = be 1 n.path.size ++ (bs n.path ++ (be 2 n.data.size ++ (bs n.data ++ ((numL n).flatMap (fun s => be 8 s.toNat) ++ y)))) := by
  unfold nodeBy
  rw [be_one, statBy_num]
  simp only [List.append_assoc]
theorem node_fwd (n : Node) (y : List UInt8) (hp : n.path.size < 256) (hd : n.data.size < 65536) (hn : ∀ x ∈ numL n, 0 ≤ x ∧ x < 9223372036854775808) : nodeS (bS (nodeBy n ++ y)) false = n ∧ nodeR (bS (nodeBy n ++ y)) false = (bS y, false) := by
  have k1 := txt_fwd 1 (by decide) n.path (by omega) (be 2 n.data.size ++ (bs n.data ++ ((numL n).flatMap (fun s => be 8 s.toNat) ++ y)))
  have k2 := txt_fwd 2 (by decide) n.data (by omega) ((numL n).flatMap (fun s => be 8 s.toNat) ++ y)
  have k3 := nums_fwd (numL n) y hn
  rw [show (numL n).length = 7 from rfl] at k3
  rw [nodeBy_form]
  unfold nodeS nodeR headR
  rw [k1.1, k1.2, k2.1, k2.2, k3.1, k3.2]
  exact ⟨rfl, rfl⟩
theorem nodes_fwd : ∀ (l : List Node) (y : List UInt8), (∀ n ∈ l, n.path.size < 256 ∧ n.data.size < 65536 ∧ ∀ x ∈ numL n, 0 ≤ x ∧ x < 9223372036854775808) → nodesS l.length (bS (l.flatMap nodeBy ++ y)) false = l ∧ nodesR l.length (bS (l.flatMap nodeBy ++ y)) false = (bS y, false)
  | [], y, _ => ⟨rfl, rfl⟩
  | n :: l, y, h => by
    have hn := h n (by simp)
    have ih := nodes_fwd l y (fun x hx => h x (by simp [hx]))
    have e : (n :: l).flatMap nodeBy ++ y = nodeBy n ++ (l.flatMap nodeBy ++ y) := by simp
    have k := node_fwd n (l.flatMap nodeBy ++ y) hn.1 hn.2.1 hn.2.2
    rw [e, List.length_cons]
    unfold nodesS nodesR
    rw [k.1, k.2, ih.1, ih.2]
    exact ⟨rfl, rfl⟩
/-- all that is read -/
def partsS (S : ByteArray) : Int × List Int × List Node × (ByteArray × Bool) :=
  let z := valI (bs (takeT S false 8))
  let n1 := (valI (bs (takeT (restT S false 8) (badT S false 8) 4))).toNat
  let s2 := restT (restT S false 8) (badT S false 8) 4
  let b2 := badT (restT S false 8) (badT S false 8) 4
  let e3 := sessR n1 s2 b2
  let n2 := (valI (bs (takeT e3.1 e3.2 4))).toNat
  (z, sessS n1 s2 b2, nodesS n2 (restT e3.1 e3.2 4) (badT e3.1 e3.2 4), nodesR n2 (restT e3.1 e3.2 4) (badT e3.1 e3.2 4))
theorem read0_parts (S : ByteArray) : read0 S = read5 (partsS S).1 (partsS S).2.1 (partsS S).2.2.1 (partsS S).2.2.2 := rfl
theorem snap_nums {t : Tr} (h : SnapOk t) : ∀ n ∈ t.nodes, n.path.size < 256 ∧ n.data.size < 65536 ∧ ∀ x ∈ numL n, 0 ≤ x ∧ x < 9223372036854775808 := by
  intro n hn
  have k := h.n n hn
  refine ⟨by omega, by omega, fun x hx => ?_⟩
  unfold numL at hx
  simp only [List.mem_cons, List.not_mem_nil, or_false] at hx
  rcases hx with rfl | rfl | rfl | rfl | rfl | rfl | rfl <;> omega
theorem parts_fwd (t : Tr) (h : SnapOk t) (y : List UInt8) : partsS (bS (restBy t ++ y)) = (t.zxid, t.sess, t.nodes, (bS y, false)) := by
  have hz := h.z
  have hs := h.ns
  have hn := h.nn
  have e : restBy t ++ y = be 8 t.zxid.toNat ++ (be 4 t.sess.length ++ (sessBy t.sess ++ (be 4 t.nodes.length ++ (t.nodes.flatMap nodeBy ++ y)))) := by
    unfold restBy
    simp only [List.append_assoc]
  have k1 := eat (x := be 8 t.zxid.toNat) (y := be 4 t.sess.length ++ (sessBy t.sess ++ (be 4 t.nodes.length ++ (t.nodes.flatMap nodeBy ++ y)))) (n := 8) (be_length _ _)
  have k2 := eat (x := be 4 t.sess.length) (y := sessBy t.sess ++ (be 4 t.nodes.length ++ (t.nodes.flatMap nodeBy ++ y))) (n := 4) (be_length _ _)
  have k3 := sess_fwd t.sess (be 4 t.nodes.length ++ (t.nodes.flatMap nodeBy ++ y)) (fun s hs => by have := h.s s hs; omega)
  have k4 := eat (x := be 4 t.nodes.length) (y := t.nodes.flatMap nodeBy ++ y) (n := 4) (be_length _ _)
  have k5 := nodes_fwd t.nodes y (snap_nums h)
  unfold partsS
  rw [e]
  simp only [k1.1, k1.2.1, k1.2.2, k2.1, k2.2.1, k2.2.2, f_be 4 t.sess.length (by decide) (by omega), Int.toNat_natCast, k3.1, k3.2, k4.1, k4.2.1, k4.2.2, f_be 4 t.nodes.length (by decide) (by omega), k5.1, k5.2, f_be8 t.zxid hz.1 (by omega)]
end Go.Proofs.YtfoglgeiipafeaaDoor

/- The plain law of a tree's bytes: the other way; a changed byte; a beginning. -/
namespace Go.Proofs.YtfoglgeiipafeaaDoor
open Go.RowKit
theorem sess_bwd : ∀ (k : Nat) (s : ByteArray) (b : Bool) (E : ByteArray), sessR k s b = (E, false) → b = false ∧ (sessS k s b).length = k ∧ bs s = sessBy (sessS k s b) ++ bs E
  | 0, s, b, E, h => by
    injection h with h1 h2
    subst h1
    exact ⟨h2, rfl, rfl⟩
  | k + 1, s, true, E, h => by injection h with h1 h2; cases h2
  | k + 1, s, false, E, h => by
    have h' : sessR k (restT s false 4) (badT s false 4) = (E, false) := h
    obtain ⟨h1, h2, h3⟩ := sess_bwd k _ _ E h'
    obtain ⟨_, h4, h5⟩ := tk_two h1
    have e : sessS (k + 1) s false = valI (bs (takeT s false 4)) :: sessS k (restT s false 4) (badT s false 4) := rfl
    refine ⟨rfl, by rw [e, List.length_cons, h2], ?_⟩
    have e2 : sessBy (sessS (k + 1) s false) = be 4 (valI (bs (takeT s false 4))).toNat ++ sessBy (sessS k (restT s false 4) (badT s false 4)) := by rw [e]; unfold sessBy; simp
    rw [h4, h3, e2, val7 h5 (by decide), List.append_assoc]
theorem nums_bwd : ∀ (k : Nat) (s : ByteArray) (b : Bool) (E : ByteArray), numsR k s b = (E, false) → (∀ x ∈ numsS k s b, 0 ≤ x) → b = false ∧ (numsS k s b).length = k ∧ bs s = (numsS k s b).flatMap (fun s => be 8 s.toNat) ++ bs E
  | 0, s, b, E, h, _ => by
    injection h with h1 h2
    subst h1
    exact ⟨h2, rfl, rfl⟩
  | k + 1, s, b, E, h, hx => by
    have h' : numsR k (restT s b 8) (badT s b 8) = (E, false) := h
    have e : numsS (k + 1) s b = valI (bs (takeT s b 8)) :: numsS k (restT s b 8) (badT s b 8) := rfl
    rw [e] at hx
    obtain ⟨h1, h2, h3⟩ := nums_bwd k _ _ E h' (fun x hh => hx x (by simp [hh]))
    obtain ⟨h0, h4, h5⟩ := tk_two h1
    refine ⟨h0, by rw [e, List.length_cons, h2], ?_⟩
    rw [e, List.flatMap_cons, val8 h5 (hx _ (by simp)), h4, h3, List.append_assoc]
theorem txt_bwd {m : Nat} (hm : m ≤ 7) {s : ByteArray} {b : Bool} {E : ByteArray} (h : txtR m s b = (E, false)) : b = false ∧ bs s = be m (txtS m s b).size ++ (bs (txtS m s b) ++ bs E) := by
  unfold txtR at h
  injection h with h1 h2
  obtain ⟨k1, k2, k3⟩ := tk_two h2
  obtain ⟨k4, k5, k6⟩ := tk_two k1
  refine ⟨k4, ?_⟩
  unfold txtS
  rw [h1] at k2
  rw [length_bs] at k3
  rw [k3, val7 k6 hm, ← k2, ← k5]
theorem node_bwd {s : ByteArray} {b : Bool} {E : ByteArray} (h : nodeR s b = (E, false)) (hx : ∀ x ∈ numL (nodeS s b), 0 ≤ x) : b = false ∧ bs s = nodeBy (nodeS s b) ++ bs E := by
  unfold nodeR at h
  obtain ⟨h7, e7⟩ : ∃ l, l = numsS 7 (headR s b).1 (headR s b).2 := ⟨_, rfl⟩
  have h8 : h7.length = 7 := by
    rw [e7]
    exact (fun a => rfl : ∀ a : Unit, (numsS 7 (headR s b).1 (headR s b).2).length = 7) ()
  have hn : numL (nodeS s b) = h7 := by
    obtain ⟨a, b', c, d, e, f, g, hl⟩ := seven h8
    unfold nodeS node7
    rw [← e7, hl]
    rfl
  rw [hn, e7] at hx
  obtain ⟨k1, _, k3⟩ := nums_bwd 7 _ _ E h hx
  have hh : txtR 2 (txtR 1 s b).1 (txtR 1 s b).2 = ((headR s b).1, false) := by
    have : txtR 2 (txtR 1 s b).1 (txtR 1 s b).2 = ((headR s b).1, (headR s b).2) := rfl
    rw [this, k1]
  obtain ⟨k4, k5⟩ := txt_bwd (by decide) hh
  have hh2 : txtR 1 s b = ((txtR 1 s b).1, false) := by
    have : txtR 1 s b = ((txtR 1 s b).1, (txtR 1 s b).2) := rfl
    rw [this, k4]
  obtain ⟨k6, k7⟩ := txt_bwd (by decide) hh2
  refine ⟨k6, ?_⟩
  rw [nodeBy_form, hn, e7, ← k3]
  show bs s = be 1 (txtS 1 s b).size ++ (bs (txtS 1 s b) ++ (be 2 (txtS 2 (txtR 1 s b).1 (txtR 1 s b).2).size ++ (bs (txtS 2 (txtR 1 s b).1 (txtR 1 s b).2) ++ bs (headR s b).1)))
  rw [← k5]
  exact k7
theorem nodes_bwd : ∀ (k : Nat) (s : ByteArray) (b : Bool) (E : ByteArray), nodesR k s b = (E, false) → (∀ n ∈ nodesS k s b, ∀ x ∈ numL n, 0 ≤ x) → b = false ∧ (nodesS k s b).length = k ∧ bs s = (nodesS k s b).flatMap nodeBy ++ bs E
  | 0, s, b, E, h, _ => by
    injection h with h1 h2
    subst h1
    exact ⟨h2, rfl, rfl⟩
  | k + 1, s, true, E, h, _ => by injection h with h1 h2; cases h2
  | k + 1, s, false, E, h, hx => by
    have h' : nodesR k (nodeR s false).1 (nodeR s false).2 = (E, false) := h
    have e : nodesS (k + 1) s false = nodeS s false :: nodesS k (nodeR s false).1 (nodeR s false).2 := rfl
    rw [e] at hx
    obtain ⟨h1, h2, h3⟩ := nodes_bwd k _ _ E h' (fun x hh => hx x (by simp [hh]))
    have hh : nodeR s false = ((nodeR s false).1, false) := by
      have : nodeR s false = ((nodeR s false).1, (nodeR s false).2) := rfl
      rw [this, h1]
    obtain ⟨_, h4⟩ := node_bwd hh (hx _ (by simp))
    refine ⟨rfl, by rw [e, List.length_cons, h2], ?_⟩
    rw [e, List.flatMap_cons, h4, h3, List.append_assoc]
theorem snap_nonneg {t : Tr} (h : SnapOk t) : 0 ≤ t.zxid ∧ ∀ n ∈ t.nodes, ∀ x ∈ numL n, 0 ≤ x := ⟨h.z.1, fun n hn x hx => ((snap_nums h n hn).2.2 x hx).1⟩
theorem parts_bwd (S E : ByteArray) (h : (partsS S).2.2.2 = (E, false)) (hz : 0 ≤ (partsS S).1) (hx : ∀ n ∈ (partsS S).2.2.1, ∀ x ∈ numL n, 0 ≤ x) : bs S = restBy ⟨(partsS S).1, (partsS S).2.2.1, (partsS S).2.1⟩ ++ bs E := by
  unfold partsS at *
  dsimp only at *
  generalize hs1 : restT S false 8 = s1 at *
  generalize hb1 : badT S false 8 = b1 at *
  generalize hs2 : restT s1 b1 4 = s2 at *
  generalize hb2 : badT s1 b1 4 = b2 at *
  generalize hn1 : (valI (bs (takeT s1 b1 4))).toNat = n1 at *
  generalize he3 : sessR n1 s2 b2 = e3 at *
  obtain ⟨s3, b3⟩ := e3
  dsimp only at *
  generalize hs4 : restT s3 b3 4 = s4 at *
  generalize hb4 : badT s3 b3 4 = b4 at *
  generalize hn2 : (valI (bs (takeT s3 b3 4))).toNat = n2 at *
  obtain ⟨k1, k2, k3⟩ := nodes_bwd n2 s4 b4 E h hx
  subst k1
  obtain ⟨k4, k5, k6⟩ := tk_two hb4
  subst k4
  obtain ⟨k7, k8, k9⟩ := sess_bwd n1 s2 b2 s3 he3
  subst k7
  obtain ⟨k10, k11, k12⟩ := tk_two hb2
  subst k10
  obtain ⟨_, k13, k14⟩ := tk_two hb1
  unfold restBy
  dsimp only
  rw [k2, k8, val8 k14 hz, ← hn1, val7 k12 (by decide), ← hn2, val7 k6 (by decide)]
  rw [hn1, hn2]
  simp only [List.append_assoc]
  rw [← k3, ← hs4, ← k5, ← k9, ← hs2, ← k11, ← hs1, ← k13]
theorem read_shape (B C : List UInt8) (hC : C.length = 4) : readS (bS ([83] ++ (B ++ C))) = bif ((sumN ([83] ++ B) : Nat) : Int) != (valN C : Int) then (tr0, 5) else read0 (bS B) := by
  have hl : (bS ([83] ++ (B ++ C))).size = 1 + B.length + 4 := by rw [bS_size]; simp [hC]; omega
  have hm : (bS ([83] ++ (B ++ C))).size - 4 = ([83] ++ B).length := by rw [hl]; simp; omega
  have e1 : bs ((bS ([83] ++ (B ++ C))).extract 0 ((bS ([83] ++ (B ++ C))).size - 4)) = [83] ++ B := by
    rw [bs_extractTD, List.drop_zero, bs_bS, hm, ← List.append_assoc, List.take_left]
  have e2 : bs ((bS ([83] ++ (B ++ C))).extract ((bS ([83] ++ (B ++ C))).size - 4) (bS ([83] ++ (B ++ C))).size) = C := by
    rw [bs_extractTD, bs_bS, hm, List.take_of_length_le (by rw [bS_size]; exact Nat.le_refl _), ← List.append_assoc, List.drop_left]
  have e3 : ((bS ([83] ++ (B ++ C))).extract 0 ((bS ([83] ++ (B ++ C))).size - 4)).extract 1 ((bS ([83] ++ (B ++ C))).size - 4) = bS B := by
    apply bs_inj
    rw [bs_extractTD, e1, bs_bS, hm, List.take_of_length_le (Nat.le_refl _)]
    rfl
  have e4 : (bS ([83] ++ (B ++ C))).extract ((bS ([83] ++ (B ++ C))).size - 4) (bS ([83] ++ (B ++ C))).size = bS (C ++ []) := by
    apply bs_inj
    rw [e2, bs_bS, List.append_nil]
  have k := eat (x := C) (y := []) (n := 4) hC
  unfold readS
  have hi : decide ((bS ([83] ++ (B ++ C))).size < 5) = false := decide_eq_false (by omega)
  rw [hi, e1, e3, e4, k.2.1, bs_bS, bs_bS, valI_nat _ (by omega)]
  rfl
end Go.Proofs.YtfoglgeiipafeaaDoor

/- The plain laws of a tree's bytes. -/
namespace Go.Proofs.YtfoglgeiipafeaaDoor
open Go.RowKit
theorem snap_form (t : Tr) : snapBy t = [83] ++ (restBy t ++ be 4 (sumN ([83] ++ restBy t))) := by
  unfold snapBy
  rw [body_rest, List.append_assoc]
theorem sum_tail (B : List UInt8) : (valN (be 4 (sumN B)) : Int) = ((sumN B : Nat) : Int) := by
  rw [valN_be, Nat.mod_eq_of_lt (show sumN B < 256 ^ 4 from sumN_lt _)]
theorem read5_ok {z : Int} {ss : List Int} {ns : List Node} (h : goodTree ⟨z, ns, ss⟩ = true) : read5 z ss ns (bS [], false) = (⟨z, ns, ss⟩, 0) := by
  unfold read5
  rw [h]
  have : (!(bS []).toList.isEmpty) = false := by rw [ByteArray.toList_eq]; rfl
  rw [this]
  rfl
theorem read_of_snap (t : Tr) (h : goodTree t = true) : readS (bS (snapBy t)) = (t, 0) := by
  rw [snap_form, read_shape _ _ (be_length _ _), sum_tail]
  have k := parts_fwd t (snap_ok h) []
  rw [List.append_nil] at k
  rw [bne_self_eq_false, cond_false, read0_parts, k]
  show read5 t.zxid t.sess t.nodes (bS [], false) = (t, 0)
  exact read5_ok (z := t.zxid) (ss := t.sess) (ns := t.nodes) h
theorem read5_inv (z : Int) (ss : List Int) (ns : List Node) (e : ByteArray × Bool) : (goodTree ⟨z, ns, ss⟩ = true ∧ e = (bS [], false) ∧ read5 z ss ns e = (⟨z, ns, ss⟩, 0)) ∨ ∃ x, x ≠ 0 ∧ read5 z ss ns e = (tr0, x) := by
  obtain ⟨E, b⟩ := e
  unfold read5
  dsimp only
  cases b with
  | true => exact .inr ⟨2, by decide, rfl⟩
  | false =>
    cases hm : (!E.toList.isEmpty) with
    | true => exact .inr ⟨2, by decide, rfl⟩
    | false =>
      cases hg : goodTree ⟨z, ns, ss⟩ with
      | false => exact .inr ⟨3, by decide, rfl⟩
      | true =>
        refine .inl ⟨rfl, ?_, rfl⟩
        have h9 : bs E = [] := by
          rw [ByteArray.toList_eq] at hm
          unfold bs
          simpa using hm
        rw [← bS_bs E, h9]
theorem read_inv (s : ByteArray) : (∃ t, goodTree t = true ∧ readS s = (t, 0) ∧ bs s = snapBy t) ∨ ∃ x, x ≠ 0 ∧ readS s = (tr0, x) := by
  by_cases h5 : s.size < 5
  · refine .inr ⟨2, by decide, ?_⟩
    unfold readS
    rw [decide_eq_true h5]
    rfl
  · by_cases hh : (bs s).head? = some 83
    · obtain ⟨r, hr⟩ : ∃ r, bs s = 83 :: r := by
        cases hb : bs s with
        | nil => rw [hb] at hh; cases hh
        | cons a r => rw [hb] at hh; injection hh with hh; exact ⟨r, by rw [hh]⟩
      have hl : r.length + 1 = s.size := by rw [← length_bs, hr, List.length_cons]
      obtain ⟨B, C, hBC, hC⟩ : ∃ B C, r = B ++ C ∧ C.length = 4 := ⟨r.take (r.length - 4), r.drop (r.length - 4), (List.take_append_drop _ _).symm, by rw [List.length_drop]; omega⟩
      have es : s = bS ([83] ++ (B ++ C)) := by rw [← bS_bs s, hr, hBC]; rfl
      rw [es, read_shape B C hC]
      cases hq : (((sumN ([83] ++ B) : Nat) : Int) != (valN C : Int)) with
      | true => exact .inr ⟨5, by decide, rfl⟩
      | false =>
        show (∃ t, goodTree t = true ∧ read0 (bS B) = (t, 0) ∧ bs (bS ([83] ++ (B ++ C))) = snapBy t) ∨ ∃ x, x ≠ 0 ∧ read0 (bS B) = (tr0, x)
        rw [read0_parts]
        rcases read5_inv (partsS (bS B)).1 (partsS (bS B)).2.1 (partsS (bS B)).2.2.1 (partsS (bS B)).2.2.2 with ⟨hg, he, hr5⟩ | ⟨x, hx, hr5⟩
        · refine .inl ⟨_, hg, hr5, ?_⟩
          have hn := snap_nonneg (snap_ok hg)
          have k := parts_bwd (bS B) (bS []) he hn.1 hn.2
          rw [bs_bS, bs_bS, List.append_nil] at k
          have hs : sumN ([83] ++ B) = valN C := Int.natCast_inj.mp (bne_eq_false_iff_eq.mp hq)
          rw [snap_form, ← k, hs, bs_bS, ← hC, be_valN]
        · exact .inr ⟨x, hx, hr5⟩
    · refine .inr ⟨2, by decide, ?_⟩
      unfold readS
      have : ((bs s).head? != some 83) = true := bne_iff_ne.2 hh
      rw [this, Bool.or_true]
      rfl
theorem read_turned (t : Tr) (i : Nat) (c c' : UInt8) (hc : (snapBy t)[i + 1]? = some c) (hne : c' ≠ c) :
    readS (bS ((snapBy t).take (i + 1) ++ c' :: (snapBy t).drop (i + 2))) = (tr0, 5) := by
  rw [snap_form] at *
  have hC := be_length 4 (sumN ([83] ++ restBy t))
  have hs := sum_tail ([83] ++ restBy t)
  generalize be 4 (sumN ([83] ++ restBy t)) = C at *
  generalize restBy t = B at *
  have e0 : ([83] ++ (B ++ C)).take (i + 1) ++ c' :: ([83] ++ (B ++ C)).drop (i + 2) = [83] ++ ((B ++ C).take i ++ c' :: (B ++ C).drop (i + 1)) := rfl
  have hc : (B ++ C)[i]? = some c := hc
  rw [e0]
  by_cases hi : i < B.length
  · have hcB : B[i]? = some c := by rw [List.getElem?_append_left hi] at hc; exact hc
    have eB := list_at hcB
    have e1 : (B ++ C).take i ++ c' :: (B ++ C).drop (i + 1) = (B.take i ++ c' :: B.drop (i + 1)) ++ C := by
      rw [List.take_append_of_le_length (by omega), List.drop_append_of_le_length (by omega)]
      simp
    rw [e1, read_shape _ C hC, hs]
    have hd : sumN ([83] ++ (B.take i ++ c' :: B.drop (i + 1))) ≠ sumN ([83] ++ B) := by
      have := sumN_diff ([83] ++ B.take i) (B.drop (i + 1)) c' c hne
      rw [List.append_assoc, List.append_assoc, ← eB] at this
      exact this
    rw [show (((sumN ([83] ++ (B.take i ++ c' :: B.drop (i + 1))) : Nat) : Int) != ((sumN ([83] ++ B) : Nat) : Int)) = true from bne_iff_ne.2 (fun e => hd (by omega))]
    rfl
  · have hj : (B ++ C)[i]? = C[i - B.length]? := List.getElem?_append_right (by omega)
    rw [hj] at hc
    have e1 : (B ++ C).take i ++ c' :: (B ++ C).drop (i + 1) = B ++ (C.take (i - B.length) ++ c' :: C.drop (i - B.length + 1)) := by
      rw [List.take_append, List.take_of_length_le (by omega), List.drop_append, List.drop_of_length_le (by omega), show i + 1 - B.length = i - B.length + 1 by omega]
      simp
    obtain ⟨hlt, _⟩ := List.getElem?_eq_some_iff.1 hc
    have hl : (C.take (i - B.length) ++ c' :: C.drop (i - B.length + 1)).length = 4 := by
      simp
      omega
    rw [e1, read_shape B _ hl, ← hs]
    have hd : valN C ≠ valN (C.take (i - B.length) ++ c' :: C.drop (i - B.length + 1)) := by
      intro e
      have e2 := valN_inj (by rw [hl, hC]) e
      have e3 := congrArg (fun l => l[i - B.length]?) e2
      rw [hc, List.getElem?_append_right (by rw [List.length_take]; omega), List.length_take, Nat.min_eq_left (by omega), Nat.sub_self] at e3
      simp at e3
      exact hne e3.symm
    rw [show (((valN C : Nat) : Int) != ((valN (C.take (i - B.length) ++ c' :: C.drop (i - B.length + 1)) : Nat) : Int)) = true from bne_iff_ne.2 (fun e => hd (by omega))]
    rfl
theorem read_cut (t : Tr) (h : goodTree t = true) (k : Nat) (hk : k < (snapBy t).length) : ∃ x, x ≠ 0 ∧ readS (bS ((snapBy t).take k)) = (tr0, x) := by
  rcases read_inv (bS ((snapBy t).take k)) with ⟨t', hg, _, hb⟩ | h'
  · exfalso
    rw [bs_bS] at hb
    have e := List.take_append_drop k (snapBy t)
    rw [hb] at e
    rw [snap_form t', snap_form t, List.append_assoc, List.append_assoc] at e
    have e1 := List.append_cancel_left e
    have p1 := parts_fwd t' (snap_ok hg) (be 4 (sumN ([83] ++ restBy t')) ++ List.drop k ([83] ++ (restBy t ++ be 4 (sumN ([83] ++ restBy t)))))
    have p2 := parts_fwd t (snap_ok h) (be 4 (sumN ([83] ++ restBy t)))
    rw [← snap_form t] at e1 p1
    rw [e1, p2] at p1
    injection p1 with _ p1
    injection p1 with _ p1
    injection p1 with _ p1
    injection p1 with p1 _
    have p3 := congrArg (fun s => (bs s).length) p1
    rw [bs_bS, bs_bS, List.length_append, be_length, be_length, List.length_drop] at p3
    omega
  · exact h'
end Go.Proofs.YtfoglgeiipafeaaDoor
