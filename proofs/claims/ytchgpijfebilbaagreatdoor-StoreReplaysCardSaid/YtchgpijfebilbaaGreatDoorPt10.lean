/- Lemmas for the statement: Full, TreeC, ApplyA, ApplyB, Apply1, Apply2, Apply3. -/
import Derived.Test.YtchgpijfebilbaaGreatDoorPt1
import Derived.Test.YtchgpijfebilbaaGreatDoorPt2
import Derived.Test.YtchgpijfebilbaaGreatDoorPt3
import Derived.Test.YtchgpijfebilbaaGreatDoorPt4
import Derived.Test.YtchgpijfebilbaaGreatDoorPt5
import Derived.Test.YtchgpijfebilbaaGreatDoorPt6
import Derived.Test.YtchgpijfebilbaaGreatDoorPt7
import Derived.Test.YtchgpijfebilbaaGreatDoorPt8
import Derived.Test.YtchgpijfebilbaaGreatDoorPt9
/- package tree: Apply's test whether a node was changed too often (slices.ContainsFunc). -/
namespace Go.Proofs.YtchgpijfebilbaaGreatDoor
open Go.RowKit Go.ChangeShapes Go.WideShapes Go.ChangeAt
theorem fullClosure (x : Node) (w : World) :
    Calls Tryz.prog 28 #[vNode x] w fun e w' => e = .returned (.bool (decide (2147483647 < x.cversion))) ∧ Below w.heap.size w w' := by
  obtain ⟨xp, xd, xz, xm, xq, xv, xc, xo, xk⟩ := x
  go_enter Tryz.func28, Tryz.ntmps28
  go_wp2_with fail
  go_ret
  exact ⟨rfl, (by repeat (first | with_reducible (first | exact bA .. | assumption | exact bJ .. | exact bK .. | exact bL .. | exact bM .. | exact bN .. | refine bB ?_ | refine bC ?_ _ | refine bD _ _ ?_ | refine bE _ ?_ | refine bF ?_ ?_ _ | refine bG ?_ ?_ _ | refine bH _ _ _ ?_ ?_) | omega | (simp; done) | (simp; omega)))⟩
set_option maxHeartbeats 1000000 in
theorem indexFull (v : Value) (l : List Node) (w : World) (h : Sl cNode 9 w v l) (hm : l.length ≤ 140737488355328) :
    Calls Tryz.prog 58 #[v, .func (.func 28) #[] #[]] w fun e w' => (∃ i : Int, e = .returned (.int .i64 i) ∧ decide (0 ≤ i) = fullB l ∧ -1 ≤ i) ∧ Below w.heap.size w w' := by
  obtain ⟨A, c, rfl, h1, h1b⟩ := h.form
  have H := Lib.hid h
  clear h
  go_enter Tryz.func58, Tryz.ntmps58
  go_wp2_with fail
  go_loopw [8] (fun i wr => ∃ (k : Nat), k ≤ l.length ∧ i = .int .i64 k ∧ Hid (∀ x ∈ l.take k, x.cversion ≤ 2147483647) ∧ Below w.heap.size w wr) (fun i _ => l.length - (intOf i).toNat)
  case atStart => exact ⟨0, Nat.zero_le _, rfl, Lib.hid (by simp), Below.refl _ _⟩
  case round =>
    obtain ⟨k, hk, rfl, hno, hb⟩ := hrel
    by_cases hlt : k < l.length
    · have hx : l[k]? = some (l[k]'hlt) := List.getElem?_eq_getElem _
      obtain ⟨bk, off, rfl, hbw, c0, c1, c2, c3, c4, c5, c6, c7, c8⟩ := (H.out.below hb).Node_at hx
      have HC := Lib.hid (fun (W : World) => fullClosure (l[k]'hlt) W)
      have HX := Lib.hid hx
      generalize l[k]'hlt = x at *
      obtain ⟨xp, xd, xz, xm, xq, xv, xc, xo, xk⟩ := x
      simp only at *
      clear hx
      by_cases hf : 2147483647 < xc
      · rw [decide_eq_true hf] at HC
        go_wp2_with ((go_at_call 28; refine (HC.out _).mono ?_; rintro e w1 ⟨rfl, hb1⟩; obtain ⟨ext1, d1, rfl⟩ := Below.grown_eq _ hb1; clear hb1))
        go_ret
        refine ⟨⟨_, rfl, ?_, by omega⟩, (by repeat (first | with_reducible (first | exact bA .. | assumption | exact bJ .. | exact bK .. | exact bL .. | exact bM .. | exact bN .. | refine bB ?_ | refine bC ?_ _ | refine bD _ _ ?_ | refine bE _ ?_ | refine bF ?_ ?_ _ | refine bG ?_ ?_ _ | refine bH _ _ _ ?_ ?_) | omega | (simp; done) | (simp; omega)))⟩
        rw [decide_eq_true (by omega)]
        unfold fullB
        symm
        rw [List.any_eq_true]
        exact ⟨_, List.mem_of_getElem? HX.out, decide_eq_true hf⟩
      · have hle : xc ≤ 2147483647 := by omega
        rw [decide_eq_false hf] at HC
        clear hf
        go_wp2_with ((go_at_call 28; refine (HC.out _).mono ?_; rintro e w1 ⟨rfl, hb1⟩; obtain ⟨ext1, d1, rfl⟩ := Below.grown_eq _ hb1; clear hb1))
        go_roundw
        case rel => exact ⟨k + 1, by omega, by go_num, Lib.hid (fun y hy => by
          rw [List.take_add_one, HX.out, List.mem_append] at hy
          rcases hy with hy | hy
          · exact hno.out y hy
          · obtain rfl := List.mem_singleton.1 hy
            exact hle), (by repeat (first | with_reducible (first | exact bA .. | assumption | exact bJ .. | exact bK .. | exact bL .. | exact bM .. | exact bN .. | refine bB ?_ | refine bC ?_ _ | refine bD _ _ ?_ | refine bE _ ?_ | refine bF ?_ ?_ _ | refine bG ?_ ?_ _ | refine bH _ _ _ ?_ ?_) | omega | (simp; done) | (simp; omega)))⟩
        case measure => simp [intOf]; omega
    · have hk' : k = l.length := by omega
      subst hk'
      go_wp2_with fail
      go_ret
      refine ⟨⟨_, rfl, ?_, by omega⟩, (by repeat (first | with_reducible (first | exact bA .. | assumption | exact bJ .. | exact bK .. | exact bL .. | exact bM .. | exact bN .. | refine bB ?_ | refine bC ?_ _ | refine bD _ _ ?_ | refine bE _ ?_ | refine bF ?_ ?_ _ | refine bG ?_ ?_ _ | refine bH _ _ _ ?_ ?_) | omega | (simp; done) | (simp; omega)))⟩
      rw [decide_eq_false (by omega)]
      symm
      unfold fullB
      rw [List.any_eq_false]
      intro y hy
      have := hno.out y (by rw [List.take_length]; exact hy)
      simp
      omega
theorem trFull (v : Value) (l : List Node) (w : World) (h : Sl cNode 9 w v l) (hm : l.length ≤ 140737488355328) :
    Calls Tryz.prog 27 #[v, .func (.func 28) #[] #[]] w fun e w' => e = .returned (.bool (fullB l)) ∧ Below w.heap.size w w' := by
  have H := Lib.hid h
  obtain ⟨A, c, rfl, h1, h1b⟩ := h.form
  clear h
  go_enter Tryz.func27, Tryz.ntmps27
  go_wp2_with ((go_at_call 58; refine (indexFull _ _ _ H.out hm).mono ?_; rintro e w1 ⟨⟨i, rfl, hi, hi1⟩, hb1⟩; obtain ⟨ext1, d1, rfl⟩ := Below.grown_eq _ hb1; clear hb1))
  go_ret
  refine ⟨?_, (by repeat (first | with_reducible (first | exact bA .. | assumption | exact bJ .. | exact bK .. | exact bL .. | exact bM .. | exact bN .. | refine bB ?_ | refine bC ?_ _ | refine bD _ _ ?_ | refine bE _ ?_ | refine bF ?_ ?_ _ | refine bG ?_ ?_ _ | refine bH _ _ _ ?_ ?_) | omega | (simp; done) | (simp; omega)))⟩
  rw [← hi]
  rfl
end Go.Proofs.YtchgpijfebilbaaGreatDoor

/- Trees: plain laws of the closing of a session, node by node. -/
namespace Go.Proofs.YtchgpijfebilbaaGreatDoor
open Go.RowKit
def closeP (l : List Node) (z : Int) (ps : List ByteArray) : List Node := ps.foldl (fun l p => goneN l p z) l
structure Cl (z : Int) (ss : List Int) (s : Int) (l : List Node) (ps : List ByteArray) : Prop where
  good : GoodW z l ss
  nd : ps.Nodup
  there : ∀ p ∈ ps, ∃ n ∈ l, n.path = p
  own : ∀ n ∈ l, n.owner = s ↔ n.path ∈ ps
theorem Cl.step {z : Int} {ss : List Int} {s : Int} (hs0 : s ≠ 0) {l : List Node} {p : ByteArray} {ps : List ByteArray} (h : Cl z ss s l (p :: ps)) : Cl z ss s (goneN l p z) ps ∧ ∀ C : Int, (∀ n ∈ l, n.cversion ≤ C) → ∀ n ∈ goneN l p z, n.cversion ≤ C + 1 := by
  obtain ⟨h, hnd, hp, ho⟩ := h
  obtain ⟨x, hx, hxp⟩ := hp p (by simp)
  have hxo := (ho x hx).2 (by rw [hxp]; simp)
  have hxk : x.kids = 0 := by
    rcases h.own x hx with h0 | h0
    · exact absurd (hxo.symm.trans h0) hs0
    · exact h0.2
  have hxs : x.path ≠ slash := fun e => hs0 (hxo.symm.trans (h.rootOf hx e))
  have hmem := mem_gone h.sorted hx z
  have hg := good_gone h hx hxs hxk
  rw [List.nodup_cons] at hnd
  rw [← hxp]
  refine ⟨⟨hg, hnd.2, ?_, ?_⟩, ?_⟩
  · intro q hq
    obtain ⟨n, hn, hnq⟩ := hp q (by simp [hq])
    refine ⟨_, (hmem _).2 ⟨n, hn, ?_, rfl⟩, by rw [bumpAt_path]; exact hnq⟩
    rw [hxp, hnq]
    exact fun e => hnd.1 (e ▸ hq)
  · intro n hn
    obtain ⟨m, hm, hmx, rfl⟩ := (hmem n).1 hn
    rw [bumpAt_own, bumpAt_path, ho m hm, List.mem_cons]
    constructor
    · rintro (e | e)
      · exact absurd (e.trans hxp.symm) hmx
      · exact e
    · exact .inr
  · intro C hC n hn
    obtain ⟨m, hm, hmx, rfl⟩ := (hmem n).1 hn
    have := hC m hm
    unfold bumpAt
    split
    · simp only [bump]
      omega
    · omega
theorem Cl.fold {z : Int} {ss : List Int} {s : Int} (hs0 : s ≠ 0) : ∀ (ps qs : List ByteArray) (l : List Node), Cl z ss s l (ps ++ qs) → Cl z ss s (closeP l z ps) qs ∧ ∀ C : Int, (∀ n ∈ l, n.cversion ≤ C) → ∀ n ∈ closeP l z ps, n.cversion ≤ C + ps.length
  | [], qs, l, h => ⟨h, fun C hC n hn => by have := hC n hn; simpa using this⟩
  | p :: ps, qs, l, h => by
    obtain ⟨h1, h2⟩ := h.step hs0
    obtain ⟨h3, h4⟩ := Cl.fold hs0 ps qs (goneN l p z) h1
    refine ⟨h3, fun C hC n hn => ?_⟩
    have := h4 (C + 1) (h2 C hC) n hn
    rw [List.length_cons]
    omega
theorem Cl.start {z : Int} {ss : List Int} {l : List Node} (h : GoodW z l ss) (s : Int) : Cl z ss s l (ownedL l s) :=
  ⟨h, owned_nodup h.sorted s, fun p hp => by
    obtain ⟨n, hn, _, e⟩ := mem_owned.1 hp
    exact ⟨n, hn, e⟩, fun n hn => by
    rw [mem_owned]
    constructor
    · intro e; exact ⟨n, hn, e, rfl⟩
    · rintro ⟨m, hm, e, hp⟩
      rw [← uniqN h.sorted hm hn hp]
      exact e⟩
theorem owned_take {l : List Node} {k : Nat} {x : Node} (hx : l[k]? = some x) (s : Int) : ownedL (l.take (k + 1)) s = ownedL (l.take k) s ++ (if x.owner = s then [x.path] else []) := by
  unfold ownedL
  rw [List.take_add_one, hx]
  simp only [Option.toList_some, List.filter_append, List.map_append]
  by_cases h : x.owner = s
  · rw [if_pos h, List.filter_cons_of_pos (by simpa using h)]; rfl
  · rw [if_neg h, List.filter_cons_of_neg (by simpa using h)]; rfl
theorem owned_split (l : List Node) (k : Nat) (s : Int) : ownedL l s = ownedL (l.take k) s ++ ownedL (l.drop k) s := by
  unfold ownedL
  rw [← List.map_append, ← List.filter_append, List.take_append_drop]
theorem owned_drop {l : List Node} {k : Nat} {x : Node} (hx : l[k]? = some x) {s : Int} (ho : x.owner = s) : ownedL (l.drop k) s = x.path :: ownedL (l.drop (k + 1)) s := by
  have h1 : l.drop k = x :: l.drop (k + 1) := by
    obtain ⟨hk, rfl⟩ := List.getElem?_eq_some_iff.1 hx
    exact (List.getElem_cons_drop hk).symm
  unfold ownedL
  rw [h1, List.filter_cons_of_pos (by simpa using ho), List.map_cons]
theorem owned_le (l : List Node) (s : Int) : (ownedL l s).length ≤ l.length := by
  unfold ownedL
  rw [List.length_map]
  exact List.length_filter_le _ _
theorem close_at {z : Int} {ss : List Int} {l : List Node} (h : GoodW z l ss) {s : Int} (hs0 : s ≠ 0) (hc : ∀ n ∈ l, n.cversion ≤ 2147483647) {k : Nat} {x : Node} (hx : l[k]? = some x) (ho : x.owner = s) :
    GoodW z (closeP l z (ownedL (l.take k) s)) ss ∧ hasN (closeP l z (ownedL (l.take k) s)) x.path = true ∧ (∀ n ∈ closeP l z (ownedL (l.take k) s), -4000000000 ≤ n.kids ∧ n.kids ≤ 4000000000 ∧ -4000000000 ≤ n.cversion ∧ n.cversion ≤ 4000000000) := by
  have h0 := Cl.start h s
  rw [owned_split l k s, owned_drop hx ho] at h0
  obtain ⟨h1, h2⟩ := h0.fold hs0
  have h3 := h2 2147483647 hc
  have hlen : (ownedL (l.take k) s).length ≤ 400 := Nat.le_trans (owned_le _ _) (by have := h.len; rw [List.length_take]; omega)
  refine ⟨h1.good, (has_iff h1.good.sorted).2 (h1.there x.path (by simp)), fun n hn => ?_⟩
  have a := h1.good.kids n hn
  have b := h1.good.stat n hn
  have c := h3 n hn
  have d : (closeP l z (ownedL (l.take k) s)).countP (kidB n.path) ≤ 400 := Nat.le_trans List.countP_le_length h1.good.len
  omega
theorem closeP_all (l : List Node) (z s : Int) : closeP l z (ownedL l s) = closeN l s z := rfl
theorem closeP_snoc (l : List Node) (z : Int) (ps : List ByteArray) (p : ByteArray) : closeP l z (ps ++ [p]) = goneN (closeP l z ps) p z := by
  unfold closeP
  rw [List.foldl_append]
  rfl
end Go.Proofs.YtchgpijfebilbaaGreatDoor

/- package tree: Apply: what it answers; a transaction that does not fit. -/
namespace Go.Proofs.YtchgpijfebilbaaGreatDoor
open Go.RowKit Go.ChangeShapes Go.WideShapes Go.ChangeAt
theorem own_types {α β : Type} {f : α → List Value} {f' : β → List Value} {s s' : Nat} {e e' : TypeId} {w : World} {B B' : Nat} {v v' : Value} {l : List α} {l' : List β} (h : Ow f s e w B v l) (h' : Ow f' s' e' w B' v' l') (hne : e ≠ e') : ∀ q, v.ownBlock = some q → v'.ownBlock ≠ some q := by
  intro q hq hq'
  rcases h.1.2 with ⟨rfl, _⟩ | ⟨g, cap, cur, rfl, hb, hg, _⟩
  · cases hq
  · rcases h'.1.2 with ⟨rfl, _⟩ | ⟨g', cap', cur', rfl, hb', hg', _⟩
    · cases hq'
    · have e1 : g = q := by simpa [Value.ownBlock] using hq
      have e2 : g' = q := by simpa [Value.ownBlock] using hq'
      subst e1
      subst e2
      rw [hg] at hg'
      injection hg' with hg'
      injection hg' with _ hg' _
      exact hne hg'
theorem Hand.number {w : World} {B b : Nat} {z z' : Int} {l : List Node} {ss : List Int} {ev : List Event} {nv sv vv : Value} (h : Hand w B b ⟨z, l, ss⟩ ev nv sv vv) : Hand (w.setCell ⟨b, 0, none⟩ (.int .i64 z')) B b ⟨z', l, ss⟩ ev nv sv vv :=
  ⟨by simpa using h.bk.put 0 (.int .i64 z'), h.nodes.far2 h.nb, h.sess.far2 h.sb, h.evs.far2 h.vb, h.nb, h.sb, h.vb, h.ns, h.nv, h.sv, h.base⟩
theorem gen_e {F : Exit → Act → World → Prop} {e : Exit} {a : Act} {w : World} (h : ∀ W, Hid (W = w) → F e a W) : F e a w := h w (Lib.hid rfl)
theorem set3_cells {W : World} {g : Nat} {u0 u1 u2 v0 v1 v2 : Value} (c0 : W.cell? ⟨g, 0, none⟩ = some u0) (c1 : W.cell? ⟨g, 1, none⟩ = some u1) (c2 : W.cell? ⟨g, 2, none⟩ = some u2) :
    (((W.setCell ⟨g, 0, none⟩ v0).setCell ⟨g, 1, none⟩ v1).setCell ⟨g, 2, none⟩ v2).cell? ⟨g, 0, none⟩ = some v0 ∧ (((W.setCell ⟨g, 0, none⟩ v0).setCell ⟨g, 1, none⟩ v1).setCell ⟨g, 2, none⟩ v2).cell? ⟨g, 1, none⟩ = some v1 ∧ (((W.setCell ⟨g, 0, none⟩ v0).setCell ⟨g, 1, none⟩ v1).setCell ⟨g, 2, none⟩ v2).cell? ⟨g, 2, none⟩ = some v2 := by
  have n20 : (⟨g, 2, none⟩ : Addr) ≠ ⟨g, 0, none⟩ := by simp
  have n21 : (⟨g, 2, none⟩ : Addr) ≠ ⟨g, 1, none⟩ := by simp
  have n10 : (⟨g, 1, none⟩ : Addr) ≠ ⟨g, 0, none⟩ := by simp
  have n01 : (⟨g, 0, none⟩ : Addr) ≠ ⟨g, 1, none⟩ := by simp
  have n02 : (⟨g, 0, none⟩ : Addr) ≠ ⟨g, 2, none⟩ := by simp
  have n12 : (⟨g, 1, none⟩ : Addr) ≠ ⟨g, 2, none⟩ := by simp
  exact ⟨(World.cell?_setCell_other _ _ _ _ n20).trans ((World.cell?_setCell_other _ _ _ _ n10).trans (World.cell?_setCell_same _ _ _ c0)),
    (World.cell?_setCell_other _ _ _ _ n21).trans (World.cell?_setCell_same _ _ _ ((World.cell?_setCell_other _ _ _ _ n01).trans c1)),
    World.cell?_setCell_same _ _ _ ((World.cell?_setCell_other _ _ _ _ n12).trans ((World.cell?_setCell_other _ _ _ _ n02).trans c2))⟩
theorem grow_at {W : World} {ext : Array Obj} {d : Nat} {p : Addr} {v : Value} (h : W.cell? p = some v) : (grow W ext d).cell? p = some v := (cell_grow_some W ext d p (by rw [h]; rfl)).trans h
theorem Ow.set_low {α : Type} {f : α → List Value} {s : Nat} {e : TypeId} {W : World} {B : Nat} {v : Value} {l : List α} (h : Ow f s e W B v l) {g : Nat} (hg : g < B) (v0 v1 v2 : Value) : Ow f s e (((W.setCell ⟨g, 0, none⟩ v0).setCell ⟨g, 1, none⟩ v1).setCell ⟨g, 2, none⟩ v2) B v l := ((h.setBelow hg v0).setBelow hg v1).setBelow hg v2
def ApplyRes (t : Tr) (x : Txn) (w : World) (e : Ending) (w' : World) : Prop := ∃ nv sv vv, e = .returned (.tuple #[.agg #[.int .i64 (applyT t x).zxid, nv, sv], vv, .int .i64 (applyE t x)]) ∧ Ow cNode 9 68 w' w.heap.size nv (applyT t x).nodes ∧ Ow cInt 1 3 w' w.heap.size sv (applyT t x).sess ∧ Ow cEvent 2 84 w' w.heap.size vv (applyV t x) ∧ Below w.heap.size w w'
theorem applyRes_no {t : Tr} {x : Txn} {w w' : World} {c : Int} (hc : applyE t x = c) (h0 : c ≠ 0) (hb : Below w.heap.size w w') : ApplyRes t x w (.returned (.tuple #[.agg #[.int .i64 0, .slice none 0 0, .slice none 0 0], .slice none 0 0, .int .i64 c])) w' := by
  subst hc
  have hT : applyT t x = noTr := by unfold applyT; rw [if_neg h0]
  have hV : applyV t x = [] := by unfold applyV; rw [if_neg h0]
  refine ⟨.slice none 0 0, .slice none 0 0, .slice none 0 0, ?_, ?_, ?_, ?_, hb⟩
  · rw [hT]; rfl
  · rw [hT]; exact Ow.nil _ _ _ _ _
  · rw [hT]; exact Ow.nil _ _ _ _ _
  · rw [hV]; exact Ow.nil _ _ _ _ _
set_option maxRecDepth 100000 in
set_option maxHeartbeats 4000000 in
theorem trApply_wrong (z : Int) (v v2 : Value) (l : List Node) (ss : List Int) (x : Txn) (w : World) (h : Sl cNode 9 w v l) (h2 : Sl cInt 1 w v2 ss) (hn : l.length ≤ 140737488355328) (hn2 : ss.length ≤ 140737488355328) (hz : ∀ n ∈ l, n.path.size ≤ 9223372036854775807) (hp : x.path.size ≤ 9223372036854775807)
    (hw : wrongE ⟨z, l, ss⟩ x ≠ 0) : Calls Tryz.prog 13 #[.agg #[.int .i64 z, v, v2], txnV x] w (ApplyRes ⟨z, l, ss⟩ x w) := by
  obtain ⟨A, c, rfl, h1, h1b⟩ := h.form
  obtain ⟨A2, c2, rfl, h3, h3b⟩ := h2.form
  have HV := Lib.hid h
  have HS := Lib.hid h2
  have HWR := Lib.hid (fun (W : World) (h : Sl cNode 9 W (.slice A l.length c) l) (h2 : Sl cInt 1 W (.slice A2 ss.length c2) ss) => trWrong z (.slice A l.length c) (.slice A2 ss.length c2) l ss x W h h2 hn hn2 hz hp)
  have HE := Lib.hid (show applyE ⟨z, l, ss⟩ x = wrongE ⟨z, l, ss⟩ x by unfold applyE; rw [if_neg hw])
  clear h h2
  generalize wrongE ⟨z, l, ss⟩ x = e at *
  have he : (e == 0) = false := beq_eq_false_iff_ne.2 hw
  have he2 : (e != 0) = true := bne_iff_ne.2 hw
  obtain ⟨xz, xo, xs, xp, xd, xv, xw⟩ := x
  simp only at *
  go_enter Tryz.func13, Tryz.ntmps13
  go_wp2_with ((go_at_call 19; refine (HWR.out _ (HV.out.below (by repeat (first | with_reducible (first | exact bA .. | assumption | exact bJ .. | exact bK .. | exact bL .. | exact bM .. | exact bN .. | refine bB ?_ | refine bC ?_ _ | refine bD _ _ ?_ | refine bE _ ?_ | refine bF ?_ ?_ _ | refine bG ?_ ?_ _ | refine bH _ _ _ ?_ ?_) | omega | (simp; done) | (simp; omega)))) (HS.out.below (by repeat (first | with_reducible (first | exact bA .. | assumption | exact bJ .. | exact bK .. | exact bL .. | exact bM .. | exact bN .. | refine bB ?_ | refine bC ?_ _ | refine bD _ _ ?_ | refine bE _ ?_ | refine bF ?_ ?_ _ | refine bG ?_ ?_ _ | refine bH _ _ _ ?_ ?_) | omega | (simp; done) | (simp; omega))))).mono ?_; rintro e w1 ⟨rfl, hb⟩; obtain ⟨ext1, d1, rfl⟩ := Below.grown_eq _ hb; clear hb))
  refine bodyPost_ret (v := .tuple #[.agg #[.int .i64 0, .slice none 0 0, .slice none 0 0], .slice none 0 0, .int .i64 e]) (by simp [results, Tryz.results13, go_sem]) rfl (applyRes_no HE.out hw (by repeat (first | with_reducible (first | exact bA .. | assumption | exact bJ .. | exact bK .. | exact bL .. | exact bM .. | exact bN .. | refine bB ?_ | refine bC ?_ _ | refine bD _ _ ?_ | refine bE _ ?_ | refine bF ?_ ?_ _ | refine bG ?_ ?_ _ | refine bH _ _ _ ?_ ?_) | omega | (simp; done) | (simp; omega))))
end Go.Proofs.YtchgpijfebilbaaGreatDoor

/- package tree: Apply, at a deletion. -/
namespace Go.Proofs.YtchgpijfebilbaaGreatDoor
open Go.RowKit Go.ChangeShapes Go.WideShapes Go.ChangeAt
theorem applyRes_yes {t : Tr} {x : Txn} {w W w' : World} {b : Nat} {L : List Node} {S : List Int} {V : List Event} {nv sv vv : Value} {B : Nat} (hw : wrongE t x = 0) (hf : fullB L = false) (hL : doN t x = L) (hS : doS t x = S) (hV : doV t x = V) (h : Hand W B b ⟨x.zxid, L, S⟩ V nv sv vv) (hB : w.heap.size ≤ B)
    (hn : Ow cNode 9 68 w' B nv L) (hs : Ow cInt 1 3 w' B sv S) (hv : Ow cEvent 2 84 w' B vv V) (hb : Below w.heap.size w w') :
    ApplyRes t x w (.returned (.tuple #[.agg #[.int .i64 x.zxid, nv, sv], vv, .int .i64 0])) w' := by
  subst hL
  subst hS
  subst hV
  have hE : applyE t x = 0 := by unfold applyE; rw [if_pos hw, hf]; rfl
  obtain ⟨h1, h2⟩ := applyT_0 hE
  refine ⟨nv, sv, vv, by rw [h1, hE], ?_, ?_, ?_, hb⟩
  · rw [h1]; exact hn.mono hB
  · rw [h1]; exact hs.mono hB
  · rw [h2]; exact hv.mono hB
theorem full_err {t : Tr} {x : Txn} (hw : wrongE t x = 0) (hf : fullB (doN t x) = true) : applyE t x = 6 := by
  unfold applyE
  rw [if_pos hw, hf]
  rfl
theorem exHand {w : World} {B b : Nat} {t : Tr} {ev : List Event} {nv sv vv : Value} (h : Hid (Hand w B b t ev nv sv vv)) : ∃ nv sv vv, Hid (Hand w B b t ev nv sv vv) := ⟨_, _, _, h⟩
theorem packW {P : World → Prop} {w : World} (h : P w) : ∃ X, Hid (X = w) ∧ P X := ⟨w, Lib.hid rfl, h⟩
set_option maxRecDepth 100000 in
set_option maxHeartbeats 10000000 in
theorem trApply_4 (z : Int) (v v2 : Value) (l : List Node) (ss : List Int) (x : Txn) (w : World) (h : Sl cNode 9 w v l) (h2 : Sl cInt 1 w v2 ss) (hn : l.length * 88 ≤ 140737488355328) (hn2 : (ss.length + 1) * 8 ≤ 140737488355328) (hz : ∀ n ∈ l, n.path.size ≤ 9223372036854775807) (hp : x.path.size ≤ 9223372036854775807)
    (hw : wrongE ⟨z, l, ss⟩ x = 0) (hop : x.op = 4) : Calls Tryz.prog 13 #[.agg #[.int .i64 z, v, v2], txnV x] w (ApplyRes ⟨z, l, ss⟩ x w) := by
  obtain ⟨A, c, rfl, h1, h1b⟩ := h.form
  obtain ⟨A2, c2, rfl, h3, h3b⟩ := h2.form
  have HV := Lib.hid h
  have HS := Lib.hid h2
  have HWR := Lib.hid (fun (W : World) (h : Sl cNode 9 W (.slice A l.length c) l) (h2 : Sl cInt 1 W (.slice A2 ss.length c2) ss) => trWrong z (.slice A l.length c) (.slice A2 ss.length c2) l ss x W h h2 (by omega) (by omega) hz hp)
  rw [hw] at HWR
  have HCP := Lib.hid (fun (W : World) (h : Sl cNode 9 W (.slice A l.length c) l) (h2 : Sl cInt 1 W (.slice A2 ss.length c2) ss) => trCopied ⟨z, l, ss⟩ (.slice A l.length c) (.slice A2 ss.length c2) W h h2 hn (by simp only; omega))
  obtain ⟨hgt, hgx, hzx, wi1, wi2, wi3, wi4, wi5⟩ := wrong_inv hw
  obtain ⟨hgw, hgf⟩ := good_parts hgt
  have HGW := Lib.hid hgw
  have HGF := Lib.hid (full_no.1 hgf)
  have hl4 : l.length ≤ 400 := hgw.len
  have HLEN := Lib.hid (apply_goodW hw).len
  have HYES := Lib.hid (fun (W w' : World) (b : Nat) (L : List Node) (S : List Int) (V : List Event) (nv sv vv : Value) (B : Nat) (hf : fullB L = false) (hL : doN ⟨z, l, ss⟩ x = L) (hS : doS ⟨z, l, ss⟩ x = S) (hV : doV ⟨z, l, ss⟩ x = V) (h : Hand W B b ⟨x.zxid, L, S⟩ V nv sv vv) (hB : w.heap.size ≤ B) (hn : Ow cNode 9 68 w' B nv L) (hs : Ow cInt 1 3 w' B sv S) (hv : Ow cEvent 2 84 w' B vv V) (hb : Below w.heap.size w w') => applyRes_yes hw hf hL hS hV h hB hn hs hv hb)
  have HNO := Lib.hid (fun (w' : World) (hf : fullB (doN ⟨z, l, ss⟩ x) = true) (hb : Below w.heap.size w w') => applyRes_no (full_err hw hf) (by decide) hb)
  clear h h2 hgt hgw hgf
  obtain ⟨xz, xo, xs, xp, xd, xv, xw⟩ := x
  simp only at *
  subst hop
  go_enter Tryz.func13, Tryz.ntmps13
  go_upto_region 5 with (first | (go_at_call 19; refine (HWR.out _ (HV.out.below (by repeat (first | with_reducible (first | exact bA .. | assumption | exact bJ .. | exact bK .. | exact bL .. | exact bM .. | exact bN .. | refine bB ?_ | refine bC ?_ _ | refine bD _ _ ?_ | refine bE _ ?_ | refine bF ?_ ?_ _ | refine bG ?_ ?_ _ | refine bH _ _ _ ?_ ?_) | omega | (simp; done) | (simp; omega)))) (HS.out.below (by repeat (first | with_reducible (first | exact bA .. | assumption | exact bJ .. | exact bK .. | exact bL .. | exact bM .. | exact bN .. | refine bB ?_ | refine bC ?_ _ | refine bD _ _ ?_ | refine bE _ ?_ | refine bF ?_ ?_ _ | refine bG ?_ ?_ _ | refine bH _ _ _ ?_ ?_) | omega | (simp; done) | (simp; omega))))).mono ?_; rintro e w1 ⟨rfl, hb⟩; obtain ⟨ext1, d1, rfl⟩ := Below.grown_eq _ hb; clear hb) | (go_at_call 20; refine (HCP.out _ (HV.out.below (by repeat (first | with_reducible (first | exact bA .. | assumption | exact bJ .. | exact bK .. | exact bL .. | exact bM .. | exact bN .. | refine bB ?_ | refine bC ?_ _ | refine bD _ _ ?_ | refine bE _ ?_ | refine bF ?_ ?_ _ | refine bG ?_ ?_ _ | refine bH _ _ _ ?_ ?_) | omega | (simp; done) | (simp; omega)))) (HS.out.below (by repeat (first | with_reducible (first | exact bA .. | assumption | exact bJ .. | exact bK .. | exact bL .. | exact bM .. | exact bN .. | refine bB ?_ | refine bC ?_ _ | refine bD _ _ ?_ | refine bE _ ?_ | refine bF ?_ ?_ _ | refine bG ?_ ?_ _ | refine bH _ _ _ ?_ ?_) | omega | (simp; done) | (simp; omega))))).mono ?_; rintro e w2 hT; obtain ⟨X0, hX0, A5, c5, A6, c6, rfl, ho5, ho6, hb⟩ := packW (P := fun X => TrIs ⟨z, l, ss⟩ X e w2) hT; have HO5 := Lib.hid ho5; have HO6 := Lib.hid ho6; clear ho5 ho6 hT; have HB2 := Lib.hid hb; clear hb))
  have hwX : Below w.heap.size w X0 := by rw [hX0.out]; exact (by repeat (first | with_reducible (first | exact bA .. | assumption | exact bJ .. | exact bK .. | exact bL .. | exact bM .. | exact bN .. | refine bB ?_ | refine bC ?_ _ | refine bD _ _ ?_ | refine bE _ ?_ | refine bF ?_ ?_ _ | refine bG ?_ ?_ _ | refine bH _ _ _ ?_ ?_) | omega | (simp; done) | (simp; omega)))
  have hXs : w.heap.size + 1 + 1 < X0.heap.size := by rw [hX0.out]; simp; omega
  have q21 : X0.cell? ⟨w.heap.size, 1, none⟩ = some (.slice A l.length c) := by rw [hX0.out]; go_simp
  have q30 : X0.cell? ⟨w.heap.size + 1, 0, none⟩ = some (.int .i64 xz) := by rw [hX0.out]; go_simp
  have q31 : X0.cell? ⟨w.heap.size + 1, 1, none⟩ = some (.int .i64 4) := by rw [hX0.out]; go_simp
  have q32 : X0.cell? ⟨w.heap.size + 1, 2, none⟩ = some (.int .i64 xs) := by rw [hX0.out]; go_simp
  have q33 : X0.cell? ⟨w.heap.size + 1, 3, none⟩ = some (.string xp) := by rw [hX0.out]; go_simp
  have q34 : X0.cell? ⟨w.heap.size + 1, 4, none⟩ = some (.string xd) := by rw [hX0.out]; go_simp
  have q35 : X0.cell? ⟨w.heap.size + 1, 5, none⟩ = some (.int .i64 xv) := by rw [hX0.out]; go_simp
  have q36 : X0.cell? ⟨w.heap.size + 1, 6, none⟩ = some (.int .i64 xw) := by rw [hX0.out]; go_simp
  have q40 : X0.cell? ⟨w.heap.size + 1 + 1, 0, none⟩ = some (.int .i64 0) := by rw [hX0.out]; go_simp
  have q41 : X0.cell? ⟨w.heap.size + 1 + 1, 1, none⟩ = some (.slice none 0 0) := by rw [hX0.out]; go_simp
  have q42 : X0.cell? ⟨w.heap.size + 1 + 1, 2, none⟩ = some (.slice none 0 0) := by rw [hX0.out]; go_simp
  have r40 : X0.frozen? ⟨w.heap.size + 1 + 1, 0, none⟩ = false := by rw [hX0.out]; go_simp
  have r41 : X0.frozen? ⟨w.heap.size + 1 + 1, 1, none⟩ = false := by rw [hX0.out]; go_simp
  have r42 : X0.frozen? ⟨w.heap.size + 1 + 1, 2, none⟩ = false := by rw [hX0.out]; go_simp
  refine gen_w (fun W1 hW1 => ?_)
  have hb1 : Below X0.heap.size X0 W1 := by rw [hW1.out]; exact below_alloc0 _ HB2.out
  have H1 := Lib.hid (show Hand W1 X0.heap.size w2.heap.size ⟨z, l, ss⟩ [] (.slice A5 l.length c5) (.slice A6 ss.length c6) (.slice none 0 0) by
    rw [hW1.out]
    exact ⟨Bk.new w2 _ _ rfl, HO5.out.alloc _, HO6.out.alloc _, Ow.nil _ _ _ _ _, own_lt HO5.out (Nat.le_refl _), own_lt HO6.out (Nat.le_refl _), (by simp [Value.ownBlock]), own_types HO5.out HO6.out (by decide), (fun _ _ => by simp [Value.ownBlock]), (fun _ _ => by simp [Value.ownBlock]), HB2.out.size⟩)
  clear hW1 HO5 HO6 HB2 hX0 HWR HCP
  generalize w2.heap.size = b at *
  clear w2
  obtain ⟨b0, b1, b2, b3, bf1, bf2, bf3, bf0, blt⟩ := H1.out.cells
  have y0 := (hb1.cell (p := ⟨w.heap.size + 1, 0, none⟩) (by simp only; omega)).trans q30
  go_upto_region 6 with fail
  refine gen_w (fun W3 hW3 => ?_)
  have hb3 : Below X0.heap.size X0 W3 := by rw [hW3.out]; exact Below.set_up hb1 H1.out.base
  have H3 := Lib.hid (show Hand W3 X0.heap.size b ⟨xz, l, ss⟩ [] _ _ _ from hW3.out ▸ H1.out.number)
  clear hW3 H1 hb1 y0 b0 b1 b2 b3 bf1 bf2 bf3 bf0 blt
  have y0 := (hb3.cell (p := ⟨w.heap.size + 1, 0, none⟩) (by simp only; omega)).trans q30
  have y1 := (hb3.cell (p := ⟨w.heap.size + 1, 1, none⟩) (by simp only; omega)).trans q31
  have y2 := (hb3.cell (p := ⟨w.heap.size + 1, 2, none⟩) (by simp only; omega)).trans q32
  have y3 := (hb3.cell (p := ⟨w.heap.size + 1, 3, none⟩) (by simp only; omega)).trans q33
  have y4 := (hb3.cell (p := ⟨w.heap.size + 1, 4, none⟩) (by simp only; omega)).trans q34
  have y5 := (hb3.cell (p := ⟨w.heap.size + 1, 5, none⟩) (by simp only; omega)).trans q35
  have y6 := (hb3.cell (p := ⟨w.heap.size + 1, 6, none⟩) (by simp only; omega)).trans q36
  have hBW : X0.heap.size ≤ W3.heap.size := hb3.size
  obtain ⟨hk, hk0⟩ := wi4 trivial
  have hbd : ∀ n ∈ l, -4000000000 ≤ n.kids ∧ n.kids ≤ 4000000000 ∧ -4000000000 ≤ n.cversion ∧ n.cversion ≤ 4000000000 := fun n hn => by
    have a := HGW.out.kids n hn
    have b := HGW.out.stat n hn
    have c := HGF.out n hn
    have d : l.countP (kidB n.path) ≤ 400 := Nat.le_trans List.countP_le_length hl4
    omega
  go_upto_region 28 with (go_at_call 24; (with_reducible refine (handRemove xz l ss [] xp xz _ _ _ W3 X0.heap.size b H3.out hBW hk hp (by omega) (by simp) hbd).mono ?_); rintro e w4 ⟨nv4, sv4, vv4, rfl, hh4, hb4⟩; have HH4 := Lib.hid hh4; clear hh4; rw [List.nil_append] at HH4)
  refine gen_w (fun W5 hW5 => ?_)
  have hb5 : Below X0.heap.size X0 W5 := by rw [hW5.out]; exact hb3.trans hb4
  have H5 := HH4
  rw [← hW5.out] at H5
  clear hW5 HH4 hb4 hb3 H3 y0 y1 y2 y3 y4 y5 y6 hbd
  obtain ⟨d1, d2, d3⟩ := doN_4 (t := ⟨z, l, ss⟩) (x := ⟨xz, 4, xs, xp, xd, xv, xw⟩) rfl
  simp only at d1 d2 d3
  obtain ⟨L, hLL⟩ : ∃ L, L = goneN l xp xz := ⟨_, rfl⟩
  obtain ⟨S, hSS⟩ : ∃ S, S = ss := ⟨_, rfl⟩
  obtain ⟨V, hVV⟩ : ∃ V, V = goneV xp := ⟨_, rfl⟩
  have HL := Lib.hid (d1.trans hLL.symm)
  have HS7 := Lib.hid (d2.trans hSS.symm)
  have HV7 := Lib.hid (d3.trans hVV.symm)
  have HNO1 := HNO
  clear HNO
  have HNO := Lib.hid (fun (w' : World) (hf : fullB L = true) (hb : Below w.heap.size w w') => HNO1.out w' (by rw [HL.out]; exact hf) hb)
  have hL7 : L.length ≤ 140737488355328 := by rw [← HL.out]; exact Nat.le_trans HLEN.out (by decide)
  rw [← hLL, ← hSS, ← hVV] at H5
  clear hLL hSS hVV d1 d2 d3 HNO1
  obtain ⟨nv5, sv5, vv5, H5⟩ := exHand H5
  obtain ⟨A7, c7, rfl, h7, h7b, _⟩ := H5.out.nodes.form
  obtain ⟨A8, c8, rfl, h8, h8b, _⟩ := H5.out.sess.form
  obtain ⟨A9, c9, rfl, h9, h9b, _⟩ := H5.out.evs.form
  have y40 := (hb5.cell (p := ⟨w.heap.size + 1 + 1, 0, none⟩) (by simp only; omega)).trans q40
  have y41 := (hb5.cell (p := ⟨w.heap.size + 1 + 1, 1, none⟩) (by simp only; omega)).trans q41
  have y42 := (hb5.cell (p := ⟨w.heap.size + 1 + 1, 2, none⟩) (by simp only; omega)).trans q42
  have z40 := (hb5.frozen (p := ⟨w.heap.size + 1 + 1, 0, none⟩) (by simp only; omega)).trans r40
  have z41 := (hb5.frozen (p := ⟨w.heap.size + 1 + 1, 1, none⟩) (by simp only; omega)).trans r41
  have z42 := (hb5.frozen (p := ⟨w.heap.size + 1 + 1, 2, none⟩) (by simp only; omega)).trans r42
  obtain ⟨b0, b1, b2, b3, bf1, bf2, bf3, bf0, blt⟩ := H5.out.cells
  have hwb : w.heap.size + 1 + 1 < b := Nat.lt_of_lt_of_le hXs H5.out.base
  have hw5 : w.heap.size + 1 + 1 < W5.heap.size := by omega
  have hwW : Below w.heap.size w W5 := hwX.trans (hb5.mono (by omega))
  have HFU := Lib.hid (fun (W : World) (h : Below W5.heap.size W5 W) => trFull _ _ W (H5.out.nodes.sl.below h) hL7)
  cases hf : fullB L with
  | true =>
    rw [hf] at HFU
    have HNO2 := Lib.hid (fun (w' : World) (hb : Below w.heap.size w w') => HNO.out w' hf hb)
    clear hf HYES
    go_wp2_with ((go_at_call 27; refine (HFU.out _ (by repeat (first | with_reducible (first | exact bA .. | assumption | exact bJ .. | exact bK .. | exact bL .. | exact bM .. | exact bN .. | refine bB ?_ | refine bC ?_ _ | refine bD _ _ ?_ | refine bE _ ?_ | refine bF ?_ ?_ _ | refine bG ?_ ?_ _ | refine bH _ _ _ ?_ ?_) | omega | (simp; done) | (simp; omega)))).mono ?_; rintro e w1 ⟨rfl, hb⟩; obtain ⟨ext1, d1, rfl⟩ := Below.grown_eq _ hb; clear hb))
    refine gen_e (fun WF hWF => ?_)
    have hBF : Below w.heap.size w WF := by rw [hWF.out]; exact (by repeat (first | with_reducible (first | exact bA .. | assumption | exact bJ .. | exact bK .. | exact bL .. | exact bM .. | exact bN .. | refine bB ?_ | refine bC ?_ _ | refine bD _ _ ?_ | refine bE _ ?_ | refine bF ?_ ?_ _ | refine bG ?_ ?_ _ | refine bH _ _ _ ?_ ?_) | omega | (simp; done) | (simp; omega)))
    obtain ⟨s0, s1, s2⟩ := set3_cells y40 y41 y42 (v0 := .int .i64 0) (v1 := .slice none 0 0) (v2 := .slice none 0 0)
    have f0 : WF.cell? ⟨w.heap.size + 1 + 1, 0, none⟩ = some (.int .i64 0) := by rw [hWF.out]; exact grow_at s0
    have f1 : WF.cell? ⟨w.heap.size + 1 + 1, 1, none⟩ = some (.slice none 0 0) := by rw [hWF.out]; exact grow_at s1
    have f2 : WF.cell? ⟨w.heap.size + 1 + 1, 2, none⟩ = some (.slice none 0 0) := by rw [hWF.out]; exact grow_at s2
    clear hWF s0 s1 s2
    refine bodyPost_ret (v := .tuple #[.agg #[.int .i64 0, .slice none 0 0, .slice none 0 0], .slice none 0 0, .int .i64 6]) (by simp [results, Tryz.results13, go_sem, f0, f1, f2]) rfl (HNO2.out _ hBF)
  | false =>
    rw [hf] at HFU
    have HYES2 := Lib.hid (fun (w' : World) (hn : Ow cNode 9 68 w' X0.heap.size (.slice A7 (L).length c7) (L)) (hs : Ow cInt 1 3 w' X0.heap.size (.slice A8 (S).length c8) (S)) (hv : Ow cEvent 2 84 w' X0.heap.size (.slice A9 (V).length c9) (V)) (hb : Below w.heap.size w w') => HYES.out W5 w' b _ _ _ _ _ _ _ hf HL.out HS7.out HV7.out H5.out (by omega) hn hs hv hb)
    clear hf HYES HNO
    go_upto_region 30 with ((go_at_call 27; refine (HFU.out _ (by repeat (first | with_reducible (first | exact bA .. | assumption | exact bJ .. | exact bK .. | exact bL .. | exact bM .. | exact bN .. | refine bB ?_ | refine bC ?_ _ | refine bD _ _ ?_ | refine bE _ ?_ | refine bF ?_ ?_ _ | refine bG ?_ ?_ _ | refine bH _ _ _ ?_ ?_) | omega | (simp; done) | (simp; omega)))).mono ?_; rintro e w1 ⟨rfl, hb⟩; obtain ⟨ext1, d1, rfl⟩ := Below.grown_eq _ hb; clear hb))
    refine wp_region_noPanic ?_
    refine wp_region_W (by kernel_rfl) (fun W hW => ?_)
    have cl0 : W.cell? ⟨b, 0, none⟩ = some (.int .i64 xz) := by rw [hW.out]; go_simp
    have cl1 : W.cell? ⟨b, 1, none⟩ = some (.slice A7 L.length c7) := by rw [hW.out]; go_simp
    have cl2 : W.cell? ⟨b, 2, none⟩ = some (.slice A8 S.length c8) := by rw [hW.out]; go_simp
    have cl3 : W.cell? ⟨b, 3, none⟩ = some (.slice A9 V.length c9) := by rw [hW.out]; go_simp
    have fz0 : W.frozen? ⟨w.heap.size + 1 + 1, 0, none⟩ = false := by rw [hW.out]; go_simp
    have fz1 : W.frozen? ⟨w.heap.size + 1 + 1, 1, none⟩ = false := by rw [hW.out]; go_simp
    have fz2 : W.frozen? ⟨w.heap.size + 1 + 1, 2, none⟩ = false := by rw [hW.out]; go_simp
    have g40 : W.cell? ⟨w.heap.size + 1 + 1, 0, none⟩ = some (.int .i64 0) := by rw [hW.out]; go_simp
    have g41 : W.cell? ⟨w.heap.size + 1 + 1, 1, none⟩ = some (.slice none 0 0) := by rw [hW.out]; go_simp
    have g42 : W.cell? ⟨w.heap.size + 1 + 1, 2, none⟩ = some (.slice none 0 0) := by rw [hW.out]; go_simp
    have hWs : w.heap.size + 1 + 1 < W.heap.size := by rw [hW.out]; simp; omega
    have hWW5 : Below W5.heap.size W5 W := by rw [hW.out]; exact (by repeat (first | with_reducible (first | exact bA .. | assumption | exact bJ .. | exact bK .. | exact bL .. | exact bM .. | exact bN .. | refine bB ?_ | refine bC ?_ _ | refine bD _ _ ?_ | refine bE _ ?_ | refine bF ?_ ?_ _ | refine bG ?_ ?_ _ | refine bH _ _ _ ?_ ?_) | omega | (simp; done) | (simp; omega)))
    refine wpAny_S (fun w' => w'.cell? ⟨b, 0, none⟩ = some (.int .i64 xz) ∧ w'.cell? ⟨b, 1, none⟩ = some (.slice A7 L.length c7) ∧ w'.cell? ⟨b, 2, none⟩ = some (.slice A8 S.length c8) ∧ w'.cell? ⟨b, 3, none⟩ = some (.slice A9 V.length c9)) (fun i => false) (by (try dsimp only); (refine ⟨?_, ?_, ?_, ?_⟩ <;> go_simp)) (fun hHeld => ?_)
    (refine wpE_takeP (i := 0) (v := ?gV1_1) (by simp only [zD]; rfl) (by kernel_rfl) (by kernel_rfl) (by kernel_rfl) (by rfl) (fun _ _ _ h => h) (Or.inl ⟨by rfl, ?gY1_1⟩) (by assumption) ?gR1_1; case gY1_1 => (intro w hSw; (try dsimp only at hSw); go_simp <;> with_reducible rfl))
    try simp only [Act.put, zA, zB, zC]
    (refine wpE_takeP (i := 1) (v := ?gV1_2) (by simp only [zD]; rfl) (by kernel_rfl) (by kernel_rfl) (by kernel_rfl) (by rfl) (fun _ _ _ h => h) (Or.inl ⟨by rfl, ?gY1_2⟩) (by assumption) ?gR1_2; case gY1_2 => (intro w hSw; (try dsimp only at hSw); go_simp <;> with_reducible rfl))
    try simp only [Act.put, zA, zB, zC]
    (refine wpE_takeP (i := 2) (v := ?gV1_3) (by simp only [zD]; rfl) (by kernel_rfl) (by kernel_rfl) (by kernel_rfl) (by rfl) (fun _ _ _ h => h) (Or.inl ⟨by rfl, ?gY1_3⟩) (by assumption) ?gR1_3; case gY1_3 => (intro w hSw; (try dsimp only at hSw); go_simp <;> with_reducible rfl))
    try simp only [Act.put, zA, zB, zC]
    (refine wpE_take (i := 3) (v := ?gV1_4) (by simp only [zD]; rfl) (by kernel_rfl) (by kernel_rfl) (by kernel_rfl) (by kernel_rfl) (by kernel_rfl) (by rfl) (fun _ _ _ h => h) (Or.inl ⟨by rfl, ?gY1_4⟩) (by assumption) ?gR1_4; case gY1_4 => (intro w hSw; (try dsimp only at hSw); go_simp <;> with_reducible rfl))
    try simp only [Act.put, zA, zB, zC]
    (refine wpE_takeP (i := 4) (v := ?gV1_5) (by simp only [zD]; rfl) (by kernel_rfl) (by kernel_rfl) (by kernel_rfl) (by rfl) (fun _ _ _ h => h) (Or.inl ⟨by rfl, ?gY1_5⟩) (by assumption) ?gR1_5; case gY1_5 => (intro w hSw; (try dsimp only at hSw); go_simp <;> with_reducible rfl))
    try simp only [Act.put, zA, zB, zC]
    (refine wpE_takeP (i := 5) (v := ?gV1_6) (by simp only [zD]; rfl) (by kernel_rfl) (by kernel_rfl) (by kernel_rfl) (by rfl) (fun _ _ _ h => h) (Or.inl ⟨by rfl, ?gY1_6⟩) (by assumption) ?gR1_6; case gY1_6 => (intro w hSw; (try dsimp only at hSw); go_simp <;> with_reducible rfl))
    try simp only [Act.put, zA, zB, zC]
    (refine wpE_takeP (i := 6) (v := ?gV1_7) (by simp only [zD]; rfl) (by kernel_rfl) (by kernel_rfl) (by kernel_rfl) (by rfl) (fun _ _ _ h => h) (Or.inl ⟨by rfl, ?gY1_7⟩) (by assumption) ?gR1_7; case gY1_7 => (intro w hSw; (try dsimp only at hSw); go_simp <;> with_reducible rfl))
    try simp only [Act.put, zA, zB, zC]
    (refine wpE_take (i := 7) (v := ?gV1_8) (by simp only [zD]; rfl) (by kernel_rfl) (by kernel_rfl) (by kernel_rfl) (by kernel_rfl) (by kernel_rfl) (by rfl) (fun _ _ _ h => h) (Or.inl ⟨by rfl, ?gY1_8⟩) (by assumption) ?gR1_8; case gY1_8 => (intro w hSw; (try dsimp only at hSw); go_simp <;> with_reducible rfl))
    try simp only [Act.put, zA, zB, zC]
    refine wpE_ready (rs := [8]) (by kernel_rfl) (by simp) ?_
    refine AllE.cons (by simp only [zD]; rfl) (fun K hK => ?_) AllE.nil
    go_simp
    refine hK.out _ _ ?gT1_9 (fun hHeld => ?_)
    case gT1_9 => ((try dsimp only); (refine ⟨?_, ?_, ?_, ?_⟩ <;> go_simp))
    clear hK K
    try simp only [Act.put, zA, zB, zC]
    (refine wpE_takeP (i := 9) (v := ?gV1_10) (by simp only [zD]; rfl) (by kernel_rfl) (by kernel_rfl) (by kernel_rfl) (by rfl) (fun _ _ _ h => h) (Or.inl ⟨by rfl, ?gY1_10⟩) (by assumption) ?gR1_10; case gY1_10 => (intro w hSw; (try dsimp only at hSw); go_simp <;> with_reducible rfl))
    try simp only [Act.put, zA, zB, zC]
    (refine wpE_takeP (i := 10) (v := ?gV1_11) (by simp only [zD]; rfl) (by kernel_rfl) (by kernel_rfl) (by kernel_rfl) (by rfl) (fun _ _ _ h => h) (Or.inl ⟨by rfl, ?gY1_11⟩) (by assumption) ?gR1_11; case gY1_11 => (intro w hSw; (try dsimp only at hSw); go_simp <;> with_reducible rfl))
    try simp only [Act.put, zA, zB, zC]
    refine wpE_done (by kernel_rfl) ?_ _
    refine NoPanic.normal ?_
    refine gen_e (fun WF hWF => ?_)
    obtain ⟨s0, s1, s2⟩ := set3_cells g40 g41 g42 (v0 := .int .i64 xz) (v1 := .slice A7 L.length c7) (v2 := .slice A8 S.length c8)
    have f0 : WF.cell? ⟨w.heap.size + 1 + 1, 0, none⟩ = some (.int .i64 xz) := by rw [hWF.out]; exact s0
    have f1 : WF.cell? ⟨w.heap.size + 1 + 1, 1, none⟩ = some (.slice A7 L.length c7) := by rw [hWF.out]; exact s1
    have f2 : WF.cell? ⟨w.heap.size + 1 + 1, 2, none⟩ = some (.slice A8 S.length c8) := by rw [hWF.out]; exact s2
    have hBF : Below w.heap.size w WF := by rw [hWF.out]; exact (((Below.own hwW hWW5).setCell (by simp only; omega) _).setCell (by simp only; omega) _).setCell (by simp only; omega) _
    have HNF : Hid (Ow cNode 9 68 WF X0.heap.size (.slice A7 L.length c7) L) := Lib.hid (by rw [hWF.out]; exact (H5.out.nodes.below hWW5).set_low hXs _ _ _)
    have HSF : Hid (Ow cInt 1 3 WF X0.heap.size (.slice A8 S.length c8) S) := Lib.hid (by rw [hWF.out]; exact (H5.out.sess.below hWW5).set_low hXs _ _ _)
    have HVF : Hid (Ow cEvent 2 84 WF X0.heap.size (.slice A9 V.length c9) V) := Lib.hid (by rw [hWF.out]; exact (H5.out.evs.below hWW5).set_low hXs _ _ _)
    clear hWF s0 s1 s2
    go_wp2_with fail
    refine bodyPost_ret (v := .tuple #[.agg #[.int .i64 xz, .slice A7 L.length c7, .slice A8 S.length c8], .slice A9 V.length c9, .int .i64 0]) (by simp [results, Tryz.results13, go_sem, f0, f1, f2]) rfl (HYES2.out _ HNF.out HSF.out HVF.out hBF)
end Go.Proofs.YtchgpijfebilbaaGreatDoor

/- package tree: Apply, at an opening. -/
namespace Go.Proofs.YtchgpijfebilbaaGreatDoor
open Go.RowKit Go.ChangeShapes Go.WideShapes Go.ChangeAt
set_option maxRecDepth 100000 in
set_option maxHeartbeats 10000000 in
theorem trApply_1 (z : Int) (v v2 : Value) (l : List Node) (ss : List Int) (x : Txn) (w : World) (h : Sl cNode 9 w v l) (h2 : Sl cInt 1 w v2 ss) (hn : l.length * 88 ≤ 140737488355328) (hn2 : (ss.length + 1) * 8 ≤ 140737488355328) (hz : ∀ n ∈ l, n.path.size ≤ 9223372036854775807) (hp : x.path.size ≤ 9223372036854775807)
    (hw : wrongE ⟨z, l, ss⟩ x = 0) (hop : x.op = 1) : Calls Tryz.prog 13 #[.agg #[.int .i64 z, v, v2], txnV x] w (ApplyRes ⟨z, l, ss⟩ x w) := by
  obtain ⟨A, c, rfl, h1, h1b⟩ := h.form
  obtain ⟨A2, c2, rfl, h3, h3b⟩ := h2.form
  have HV := Lib.hid h
  have HS := Lib.hid h2
  have HWR := Lib.hid (fun (W : World) (h : Sl cNode 9 W (.slice A l.length c) l) (h2 : Sl cInt 1 W (.slice A2 ss.length c2) ss) => trWrong z (.slice A l.length c) (.slice A2 ss.length c2) l ss x W h h2 (by omega) (by omega) hz hp)
  rw [hw] at HWR
  have HCP := Lib.hid (fun (W : World) (h : Sl cNode 9 W (.slice A l.length c) l) (h2 : Sl cInt 1 W (.slice A2 ss.length c2) ss) => trCopied ⟨z, l, ss⟩ (.slice A l.length c) (.slice A2 ss.length c2) W h h2 hn (by simp only; omega))
  obtain ⟨hgt, hgx, hzx, wi1, wi2, wi3, wi4, wi5⟩ := wrong_inv hw
  obtain ⟨hgw, hgf⟩ := good_parts hgt
  have HGW := Lib.hid hgw
  have HGF := Lib.hid (full_no.1 hgf)
  have hl4 : l.length ≤ 400 := hgw.len
  have HLEN := Lib.hid (apply_goodW hw).len
  have HYES := Lib.hid (fun (W w' : World) (b : Nat) (L : List Node) (S : List Int) (V : List Event) (nv sv vv : Value) (B : Nat) (hf : fullB L = false) (hL : doN ⟨z, l, ss⟩ x = L) (hS : doS ⟨z, l, ss⟩ x = S) (hV : doV ⟨z, l, ss⟩ x = V) (h : Hand W B b ⟨x.zxid, L, S⟩ V nv sv vv) (hB : w.heap.size ≤ B) (hn : Ow cNode 9 68 w' B nv L) (hs : Ow cInt 1 3 w' B sv S) (hv : Ow cEvent 2 84 w' B vv V) (hb : Below w.heap.size w w') => applyRes_yes hw hf hL hS hV h hB hn hs hv hb)
  have HNO := Lib.hid (fun (w' : World) (hf : fullB (doN ⟨z, l, ss⟩ x) = true) (hb : Below w.heap.size w w') => applyRes_no (full_err hw hf) (by decide) hb)
  clear h h2 hgt hgw hgf
  obtain ⟨xz, xo, xs, xp, xd, xv, xw⟩ := x
  simp only at *
  subst hop
  go_enter Tryz.func13, Tryz.ntmps13
  go_upto_region 5 with (first | (go_at_call 19; refine (HWR.out _ (HV.out.below (by repeat (first | with_reducible (first | exact bA .. | assumption | exact bJ .. | exact bK .. | exact bL .. | exact bM .. | exact bN .. | refine bB ?_ | refine bC ?_ _ | refine bD _ _ ?_ | refine bE _ ?_ | refine bF ?_ ?_ _ | refine bG ?_ ?_ _ | refine bH _ _ _ ?_ ?_) | omega | (simp; done) | (simp; omega)))) (HS.out.below (by repeat (first | with_reducible (first | exact bA .. | assumption | exact bJ .. | exact bK .. | exact bL .. | exact bM .. | exact bN .. | refine bB ?_ | refine bC ?_ _ | refine bD _ _ ?_ | refine bE _ ?_ | refine bF ?_ ?_ _ | refine bG ?_ ?_ _ | refine bH _ _ _ ?_ ?_) | omega | (simp; done) | (simp; omega))))).mono ?_; rintro e w1 ⟨rfl, hb⟩; obtain ⟨ext1, d1, rfl⟩ := Below.grown_eq _ hb; clear hb) | (go_at_call 20; refine (HCP.out _ (HV.out.below (by repeat (first | with_reducible (first | exact bA .. | assumption | exact bJ .. | exact bK .. | exact bL .. | exact bM .. | exact bN .. | refine bB ?_ | refine bC ?_ _ | refine bD _ _ ?_ | refine bE _ ?_ | refine bF ?_ ?_ _ | refine bG ?_ ?_ _ | refine bH _ _ _ ?_ ?_) | omega | (simp; done) | (simp; omega)))) (HS.out.below (by repeat (first | with_reducible (first | exact bA .. | assumption | exact bJ .. | exact bK .. | exact bL .. | exact bM .. | exact bN .. | refine bB ?_ | refine bC ?_ _ | refine bD _ _ ?_ | refine bE _ ?_ | refine bF ?_ ?_ _ | refine bG ?_ ?_ _ | refine bH _ _ _ ?_ ?_) | omega | (simp; done) | (simp; omega))))).mono ?_; rintro e w2 hT; obtain ⟨X0, hX0, A5, c5, A6, c6, rfl, ho5, ho6, hb⟩ := packW (P := fun X => TrIs ⟨z, l, ss⟩ X e w2) hT; have HO5 := Lib.hid ho5; have HO6 := Lib.hid ho6; clear ho5 ho6 hT; have HB2 := Lib.hid hb; clear hb))
  have hwX : Below w.heap.size w X0 := by rw [hX0.out]; exact (by repeat (first | with_reducible (first | exact bA .. | assumption | exact bJ .. | exact bK .. | exact bL .. | exact bM .. | exact bN .. | refine bB ?_ | refine bC ?_ _ | refine bD _ _ ?_ | refine bE _ ?_ | refine bF ?_ ?_ _ | refine bG ?_ ?_ _ | refine bH _ _ _ ?_ ?_) | omega | (simp; done) | (simp; omega)))
  have hXs : w.heap.size + 1 + 1 < X0.heap.size := by rw [hX0.out]; simp; omega
  have q21 : X0.cell? ⟨w.heap.size, 1, none⟩ = some (.slice A l.length c) := by rw [hX0.out]; go_simp
  have q30 : X0.cell? ⟨w.heap.size + 1, 0, none⟩ = some (.int .i64 xz) := by rw [hX0.out]; go_simp
  have q31 : X0.cell? ⟨w.heap.size + 1, 1, none⟩ = some (.int .i64 1) := by rw [hX0.out]; go_simp
  have q32 : X0.cell? ⟨w.heap.size + 1, 2, none⟩ = some (.int .i64 xs) := by rw [hX0.out]; go_simp
  have q33 : X0.cell? ⟨w.heap.size + 1, 3, none⟩ = some (.string xp) := by rw [hX0.out]; go_simp
  have q34 : X0.cell? ⟨w.heap.size + 1, 4, none⟩ = some (.string xd) := by rw [hX0.out]; go_simp
  have q35 : X0.cell? ⟨w.heap.size + 1, 5, none⟩ = some (.int .i64 xv) := by rw [hX0.out]; go_simp
  have q36 : X0.cell? ⟨w.heap.size + 1, 6, none⟩ = some (.int .i64 xw) := by rw [hX0.out]; go_simp
  have q40 : X0.cell? ⟨w.heap.size + 1 + 1, 0, none⟩ = some (.int .i64 0) := by rw [hX0.out]; go_simp
  have q41 : X0.cell? ⟨w.heap.size + 1 + 1, 1, none⟩ = some (.slice none 0 0) := by rw [hX0.out]; go_simp
  have q42 : X0.cell? ⟨w.heap.size + 1 + 1, 2, none⟩ = some (.slice none 0 0) := by rw [hX0.out]; go_simp
  have r40 : X0.frozen? ⟨w.heap.size + 1 + 1, 0, none⟩ = false := by rw [hX0.out]; go_simp
  have r41 : X0.frozen? ⟨w.heap.size + 1 + 1, 1, none⟩ = false := by rw [hX0.out]; go_simp
  have r42 : X0.frozen? ⟨w.heap.size + 1 + 1, 2, none⟩ = false := by rw [hX0.out]; go_simp
  refine gen_w (fun W1 hW1 => ?_)
  have hb1 : Below X0.heap.size X0 W1 := by rw [hW1.out]; exact below_alloc0 _ HB2.out
  have H1 := Lib.hid (show Hand W1 X0.heap.size w2.heap.size ⟨z, l, ss⟩ [] (.slice A5 l.length c5) (.slice A6 ss.length c6) (.slice none 0 0) by
    rw [hW1.out]
    exact ⟨Bk.new w2 _ _ rfl, HO5.out.alloc _, HO6.out.alloc _, Ow.nil _ _ _ _ _, own_lt HO5.out (Nat.le_refl _), own_lt HO6.out (Nat.le_refl _), (by simp [Value.ownBlock]), own_types HO5.out HO6.out (by decide), (fun _ _ => by simp [Value.ownBlock]), (fun _ _ => by simp [Value.ownBlock]), HB2.out.size⟩)
  clear hW1 HO5 HO6 HB2 hX0 HWR HCP
  generalize w2.heap.size = b at *
  clear w2
  obtain ⟨b0, b1, b2, b3, bf1, bf2, bf3, bf0, blt⟩ := H1.out.cells
  have y0 := (hb1.cell (p := ⟨w.heap.size + 1, 0, none⟩) (by simp only; omega)).trans q30
  go_upto_region 6 with fail
  refine gen_w (fun W3 hW3 => ?_)
  have hb3 : Below X0.heap.size X0 W3 := by rw [hW3.out]; exact Below.set_up hb1 H1.out.base
  have H3 := Lib.hid (show Hand W3 X0.heap.size b ⟨xz, l, ss⟩ [] _ _ _ from hW3.out ▸ H1.out.number)
  clear hW3 H1 hb1 y0 b0 b1 b2 b3 bf1 bf2 bf3 bf0 blt
  have y0 := (hb3.cell (p := ⟨w.heap.size + 1, 0, none⟩) (by simp only; omega)).trans q30
  have y1 := (hb3.cell (p := ⟨w.heap.size + 1, 1, none⟩) (by simp only; omega)).trans q31
  have y2 := (hb3.cell (p := ⟨w.heap.size + 1, 2, none⟩) (by simp only; omega)).trans q32
  have y3 := (hb3.cell (p := ⟨w.heap.size + 1, 3, none⟩) (by simp only; omega)).trans q33
  have y4 := (hb3.cell (p := ⟨w.heap.size + 1, 4, none⟩) (by simp only; omega)).trans q34
  have y5 := (hb3.cell (p := ⟨w.heap.size + 1, 5, none⟩) (by simp only; omega)).trans q35
  have y6 := (hb3.cell (p := ⟨w.heap.size + 1, 6, none⟩) (by simp only; omega)).trans q36
  have hBW : X0.heap.size ≤ W3.heap.size := hb3.size
  have HBI := Lib.hid (fun (W : World) (h : Sl cInt 1 W (.slice A6 ss.length c6) ss) => bsI (.slice A6 ss.length c6) ss xs W h (by omega))
  have hno := wi1 trivial
  rw [hno] at HBI
  have hql : posI ss xs ≤ ss.length := posI_le ss xs
  have hdd : insS ss xs = ss.take (posI ss xs) ++ xs :: ss.drop (posI ss xs) := rfl
  have hSl : (insS ss xs).length = ss.length + 1 := by
    rw [hdd, List.length_append, List.length_cons, List.length_take, List.length_drop]
    omega
  obtain ⟨S1, hS1⟩ : ∃ S1, S1 = insS ss xs := ⟨_, rfl⟩
  rw [← hS1] at hdd hSl
  have HS1 := Lib.hid hS1
  generalize posI ss xs = q at *
  clear hS1 hno
  obtain ⟨b0, b1, b2, b3, bf1, bf2, bf3, bf0, blt⟩ := H3.out.cells
  go_upto_region 8 with fail
  refine wp_region_grow (by kernel_rfl) (by kernel_rfl) ?_
  try simp only [List.append]
  repeat' (first | go_big_quiet_skip | (go_big_quiet_want; go_big_quiet_op; first | go_big_quiet_on | (apply Exists.intro; refine ⟨fun _ => ?hqg1, ?hqg2⟩; (case hqg1 => (go_at_call 21; refine Calls.grow_of (HBI.out _ (H3.out.sess.sl.below (by repeat (first | with_reducible (first | exact bA .. | assumption | exact bJ .. | exact bK .. | exact bL .. | exact bM .. | exact bN .. | refine bB ?_ | refine bC ?_ _ | refine bD _ _ ?_ | refine bE _ ?_ | refine bF ?_ ?_ _ | refine bG ?_ ?_ _ | refine bH _ _ _ ?_ ?_) | omega | (simp; done) | (simp; omega))))))); go_big_quiet_on)))
  all_goals refine wpQuiet_nil ?_
  all_goals rintro _ ⟨⟨extq, dq⟩, rfl⟩
  all_goals dsimp only
  go_upto_region 9 with fail
  refine gen_w (fun W4 hW4 => ?_)
  have hbW : Below W3.heap.size W3 W4 := by rw [hW4.out]; exact (by repeat (first | with_reducible (first | exact bA .. | assumption | exact bJ .. | exact bK .. | exact bL .. | exact bM .. | exact bN .. | refine bB ?_ | refine bC ?_ _ | refine bD _ _ ?_ | refine bE _ ?_ | refine bF ?_ ?_ _ | refine bG ?_ ?_ _ | refine bH _ _ _ ?_ ?_) | omega | (simp; done) | (simp; omega)))
  have hb4 : Below X0.heap.size X0 W4 := hb3.trans (hbW.mono hBW)
  have H4 := Lib.hid (H3.out.below hbW)
  have hBW4 : X0.heap.size ≤ W4.heap.size := hb4.size
  clear hW4 hbW H3 hb3 hBW b0 b1 b2 b3 bf1 bf2 bf3 bf0 blt y0 y1 y2 y3 y4 y5 y6 HBI
  obtain ⟨b0, b1, b2, b3, bf1, bf2, bf3, bf0, blt⟩ := H4.out.cells
  have y2 := (hb4.cell (p := ⟨w.heap.size + 1, 2, none⟩) (by simp only; omega)).trans q32
  refine wp_region_noPanic ?_
  refine wp_region_W (by kernel_rfl) (fun W hW => ?_)
  have cl0 : W.cell? ⟨b, 2, none⟩ = some (.slice A6 ss.length c6) := by rw [hW.out]; go_simp
  have cl1 : W.cell? ⟨w.heap.size + 1, 2, none⟩ = some (.int .i64 xs) := by rw [hW.out]; go_simp
  refine wpAny_S (fun w' => w'.cell? ⟨b, 2, none⟩ = some (.slice A6 ss.length c6) ∧ w'.cell? ⟨w.heap.size + 1, 2, none⟩ = some (.int .i64 xs)) (fun i => i == 14) (by (try dsimp only); (refine ⟨?_, ?_⟩ <;> go_simp)) (fun hHeld => ?_)
  (refine wpE_takeP (i := 0) (v := ?gV1_1) (by simp only [zD]; rfl) (by kernel_rfl) (by kernel_rfl) (by kernel_rfl) (by rfl) (fun _ _ _ h => h) (Or.inl ⟨by rfl, ?gY1_1⟩) (by assumption) ?gR1_1; case gY1_1 => (intro w hSw; (try dsimp only at hSw); go_simp <;> with_reducible rfl))
  try simp only [Act.put, zA, zB, zC]
  (refine wpE_takeP (i := 1) (v := ?gV1_2) (by simp only [zD]; rfl) (by kernel_rfl) (by kernel_rfl) (by kernel_rfl) (by rfl) (fun _ _ _ h => h) (Or.inl ⟨by rfl, ?gY1_2⟩) (by assumption) ?gR1_2; case gY1_2 => (intro w hSw; (try dsimp only at hSw); go_simp <;> with_reducible rfl))
  try simp only [Act.put, zA, zB, zC]
  (refine wpE_takeP (i := 2) (v := ?gV1_3) (by simp only [zD]; rfl) (by kernel_rfl) (by kernel_rfl) (by kernel_rfl) (by rfl) (fun _ _ _ h => h) (Or.inl ⟨by rfl, ?gY1_3⟩) (by assumption) ?gR1_3; case gY1_3 => (intro w hSw; (try dsimp only at hSw); go_simp <;> with_reducible rfl))
  try simp only [Act.put, zA, zB, zC]
  (refine wpE_takeP (i := 3) (v := ?gV1_4) (by simp only [zD]; rfl) (by kernel_rfl) (by kernel_rfl) (by kernel_rfl) (by rfl) (fun _ _ _ h => h) (Or.inl ⟨by rfl, ?gY1_4⟩) (by assumption) ?gR1_4; case gY1_4 => (intro w hSw; (try dsimp only at hSw); go_simp <;> with_reducible rfl))
  try simp only [Act.put, zA, zB, zC]
  (refine wpE_takeP (i := 4) (v := ?gV1_5) (by simp only [zD]; rfl) (by kernel_rfl) (by kernel_rfl) (by kernel_rfl) (by rfl) (fun _ _ _ h => h) (Or.inl ⟨by rfl, ?gY1_5⟩) (by assumption) ?gR1_5; case gY1_5 => (intro w hSw; (try dsimp only at hSw); go_simp <;> with_reducible rfl))
  try simp only [Act.put, zA, zB, zC]
  (refine wpE_take (i := 5) (v := ?gV1_6) (by simp only [zD]; rfl) (by kernel_rfl) (by kernel_rfl) (by kernel_rfl) (by kernel_rfl) (by kernel_rfl) (by rfl) (fun _ _ _ h => h) (Or.inl ⟨by rfl, ?gY1_6⟩) (by assumption) ?gR1_6; case gY1_6 => (intro w hSw; (try dsimp only at hSw); go_simp <;> with_reducible rfl))
  try simp only [Act.put, zA, zB, zC]
  (refine wpE_takeP (i := 6) (v := ?gV1_7) (by simp only [zD]; rfl) (by kernel_rfl) (by kernel_rfl) (by kernel_rfl) (by rfl) (fun _ _ _ h => h) (Or.inl ⟨by rfl, ?gY1_7⟩) (by assumption) ?gR1_7; case gY1_7 => (intro w hSw; (try dsimp only at hSw); go_simp <;> with_reducible rfl))
  try simp only [Act.put, zA, zB, zC]
  (refine wpE_takeP (i := 7) (v := ?gV1_8) (by simp only [zD]; rfl) (by kernel_rfl) (by kernel_rfl) (by kernel_rfl) (by rfl) (fun _ _ _ h => h) (Or.inl ⟨by rfl, ?gY1_8⟩) (by assumption) ?gR1_8; case gY1_8 => (intro w hSw; (try dsimp only at hSw); go_simp <;> with_reducible rfl))
  try simp only [Act.put, zA, zB, zC]
  (refine wpE_take (i := 8) (v := ?gV1_9) (by simp only [zD]; rfl) (by kernel_rfl) (by kernel_rfl) (by kernel_rfl) (by kernel_rfl) (by kernel_rfl) (by rfl) (fun _ _ _ h => h) (Or.inl ⟨by rfl, ?gY1_9⟩) (by assumption) ?gR1_9; case gY1_9 => (intro w hSw; (try dsimp only at hSw); go_simp <;> with_reducible rfl))
  try simp only [Act.put, zA, zB, zC]
  refine wpE_ready (rs := [9]) (by kernel_rfl) (by simp) ?_
  refine AllE.cons (by simp only [zD]; rfl) (fun K hK => ?_) AllE.nil
  go_simp
  refine hK.out _ _ ?gT1_10 (fun hHeld => ?_)
  case gT1_10 => ((try dsimp only); (refine ⟨?_, ?_⟩ <;> go_simp))
  clear hK K
  try simp only [Act.put, zA, zB, zC]
  refine wpE_ready (rs := [10]) (by kernel_rfl) (by simp) ?_
  refine AllE.cons (by simp only [zD]; rfl) (fun K hK => ?_) AllE.nil
  go_simp
  (go_at_call 22; (with_reducible refine (insInt _ q ss xs _ X0.heap.size W.heap.size (H4.out.sess.below (by rw [hW.out]; exact (by repeat (first | with_reducible (first | exact bA .. | assumption | exact bJ .. | exact bK .. | exact bL .. | exact bM .. | exact bN .. | refine bB ?_ | refine bC ?_ _ | refine bD _ _ ?_ | refine bE _ ?_ | refine bF ?_ ?_ _ | refine bG ?_ ?_ _ | refine bH _ _ _ ?_ ?_) | omega | (simp; done) | (simp; omega))))) hql (show Bk (W.alloc (.cells #[.int .i64 xs] 3)) W.heap.size (cInt xs) 3 from Bk.new W #[.int .i64 xs] _ rfl) (own_lt H4.out.sess (by rw [hW.out]; simp)) (by rw [hW.out]; simp; omega) (by omega)).mono ?_); rintro e w2 ⟨A9, c9, rfl, hown5, hg5, hat5⟩; rw [← hdd] at hown5; have HX := Lib.hid (hand_sess (w := X0) (ss' := S1) H4.out hb4 (by rw [hW.out]; exact (by repeat (first | with_reducible (first | exact bA .. | assumption | exact bJ .. | exact bK .. | exact bL .. | exact bM .. | exact bN .. | refine bB ?_ | refine bC ?_ _ | refine bD _ _ ?_ | refine bE _ ?_ | refine bF ?_ ?_ _ | refine bG ?_ ?_ _ | refine bH _ _ _ ?_ ?_) | omega | (simp; done) | (simp; omega)))) hown5 hg5 hat5); have y22 : w2.cell? ⟨w.heap.size + 1, 2, none⟩ = some (.int .i64 xs) := ((World.cell?_setCell_other _ _ _ _ (show (⟨b, 2, none⟩ : Addr) ≠ ⟨w.heap.size + 1, 2, none⟩ by have := H4.out.base; simp <;> omega)).symm.trans ((HX.out.2.1.cell (p := ⟨w.heap.size + 1, 2, none⟩) (by simp only; omega)).trans q32)); obtain ⟨_, _, hs3, hf3, hl3⟩ := HX.out; clear hown5 hg5 hat5)
  refine hK.out _ _ ?gT1_11 (fun hHeld => ?_)
  case gT1_11 => ((try dsimp only); (refine ⟨?_, ?_⟩ <;> go_simp))
  clear hK K
  try simp only [Act.put, zA, zB, zC]
  (refine wpE_takeP (i := 11) (v := ?gV1_12) (by simp only [zD]; rfl) (by kernel_rfl) (by kernel_rfl) (by kernel_rfl) (by rfl) (fun _ _ _ h => h) (Or.inl ⟨by rfl, ?gY1_12⟩) (by assumption) ?gR1_12; case gY1_12 => (intro w hSw; (try dsimp only at hSw); go_simp <;> with_reducible rfl))
  try simp only [Act.put, zA, zB, zC]
  (refine wpE_takeP (i := 12) (v := ?gV1_13) (by simp only [zD]; rfl) (by kernel_rfl) (by kernel_rfl) (by kernel_rfl) (by rfl) (fun _ _ _ h => h) (Or.inl ⟨by rfl, ?gY1_13⟩) (by assumption) ?gR1_13; case gY1_13 => (intro w hSw; (try dsimp only at hSw); go_simp <;> with_reducible rfl))
  try simp only [Act.put, zA, zB, zC]
  (refine wpE_takeP (i := 13) (v := ?gV1_14) (by simp only [zD]; rfl) (by kernel_rfl) (by kernel_rfl) (by kernel_rfl) (by rfl) (fun _ _ _ h => h) (Or.inl ⟨by rfl, ?gY1_14⟩) (by assumption) ?gR1_14; case gY1_14 => (intro w hSw; (try dsimp only at hSw); go_simp <;> with_reducible rfl))
  try simp only [Act.put, zA, zB, zC]
  refine wpE_ready (rs := [14]) (by kernel_rfl) (by simp) ?_
  refine AllE.last (by simp only [zD]; rfl) (by kernel_rfl) (fun K hK => ?_) AllE.nil
  go_simp
  refine hK.out _ _ ?_
  clear hK K
  try simp only [Act.put, zA, zB, zC]
  refine wpE_done (by kernel_rfl) ?_ _
  refine NoPanic.normal ?_
  go_upto_region 28 with fail
  refine gen_w (fun W5 hW5 => ?_)
  rw [← hW5.out, ← hSl] at HX
  have H5 := Lib.hid HX.out.1
  have hb5 : Below X0.heap.size X0 W5 := HX.out.2.1
  rw [HS1.out] at H5
  clear hW5 HX hs3 hf3 hl3 H4 b0 b1 b2 b3 bf1 bf2 bf3 bf0 blt hW cl0 cl1 hHeld y2 hb4 hdd hSl HS1
  obtain ⟨d1, d2, d3⟩ := doN_1 (t := ⟨z, l, ss⟩) (x := ⟨xz, 1, xs, xp, xd, xv, xw⟩) rfl
  simp only at d1 d2 d3
  obtain ⟨L, hLL⟩ : ∃ L, L = l := ⟨_, rfl⟩
  obtain ⟨S, hSS⟩ : ∃ S, S = insS ss xs := ⟨_, rfl⟩
  obtain ⟨V, hVV⟩ : ∃ V, V = ([] : List Event) := ⟨_, rfl⟩
  have HL := Lib.hid (d1.trans hLL.symm)
  have HS7 := Lib.hid (d2.trans hSS.symm)
  have HV7 := Lib.hid (d3.trans hVV.symm)
  have HNO1 := HNO
  clear HNO
  have HNO := Lib.hid (fun (w' : World) (hf : fullB L = true) (hb : Below w.heap.size w w') => HNO1.out w' (by rw [HL.out]; exact hf) hb)
  have hL7 : L.length ≤ 140737488355328 := by rw [← HL.out]; exact Nat.le_trans HLEN.out (by decide)
  rw [← hLL, ← hSS, ← hVV] at H5
  clear hLL hSS hVV d1 d2 d3 HNO1
  obtain ⟨nv5, sv5, vv5, H5⟩ := exHand H5
  obtain ⟨A7, c7, rfl, h7, h7b, _⟩ := H5.out.nodes.form
  obtain ⟨A8, c8, rfl, h8, h8b, _⟩ := H5.out.sess.form
  obtain ⟨A9, c9, rfl, h9, h9b, _⟩ := H5.out.evs.form
  have y40 := (hb5.cell (p := ⟨w.heap.size + 1 + 1, 0, none⟩) (by simp only; omega)).trans q40
  have y41 := (hb5.cell (p := ⟨w.heap.size + 1 + 1, 1, none⟩) (by simp only; omega)).trans q41
  have y42 := (hb5.cell (p := ⟨w.heap.size + 1 + 1, 2, none⟩) (by simp only; omega)).trans q42
  have z40 := (hb5.frozen (p := ⟨w.heap.size + 1 + 1, 0, none⟩) (by simp only; omega)).trans r40
  have z41 := (hb5.frozen (p := ⟨w.heap.size + 1 + 1, 1, none⟩) (by simp only; omega)).trans r41
  have z42 := (hb5.frozen (p := ⟨w.heap.size + 1 + 1, 2, none⟩) (by simp only; omega)).trans r42
  obtain ⟨b0, b1, b2, b3, bf1, bf2, bf3, bf0, blt⟩ := H5.out.cells
  have hwb : w.heap.size + 1 + 1 < b := Nat.lt_of_lt_of_le hXs H5.out.base
  have hw5 : w.heap.size + 1 + 1 < W5.heap.size := by omega
  have hwW : Below w.heap.size w W5 := hwX.trans (hb5.mono (by omega))
  have HFU := Lib.hid (fun (W : World) (h : Below W5.heap.size W5 W) => trFull _ _ W (H5.out.nodes.sl.below h) hL7)
  cases hf : fullB L with
  | true =>
    rw [hf] at HFU
    have HNO2 := Lib.hid (fun (w' : World) (hb : Below w.heap.size w w') => HNO.out w' hf hb)
    clear hf HYES
    go_wp2_with ((go_at_call 27; refine (HFU.out _ (by repeat (first | with_reducible (first | exact bA .. | assumption | exact bJ .. | exact bK .. | exact bL .. | exact bM .. | exact bN .. | refine bB ?_ | refine bC ?_ _ | refine bD _ _ ?_ | refine bE _ ?_ | refine bF ?_ ?_ _ | refine bG ?_ ?_ _ | refine bH _ _ _ ?_ ?_) | omega | (simp; done) | (simp; omega)))).mono ?_; rintro e w1 ⟨rfl, hb⟩; obtain ⟨ext1, d1, rfl⟩ := Below.grown_eq _ hb; clear hb))
    refine gen_e (fun WF hWF => ?_)
    have hBF : Below w.heap.size w WF := by rw [hWF.out]; exact (by repeat (first | with_reducible (first | exact bA .. | assumption | exact bJ .. | exact bK .. | exact bL .. | exact bM .. | exact bN .. | refine bB ?_ | refine bC ?_ _ | refine bD _ _ ?_ | refine bE _ ?_ | refine bF ?_ ?_ _ | refine bG ?_ ?_ _ | refine bH _ _ _ ?_ ?_) | omega | (simp; done) | (simp; omega)))
    obtain ⟨s0, s1, s2⟩ := set3_cells y40 y41 y42 (v0 := .int .i64 0) (v1 := .slice none 0 0) (v2 := .slice none 0 0)
    have f0 : WF.cell? ⟨w.heap.size + 1 + 1, 0, none⟩ = some (.int .i64 0) := by rw [hWF.out]; exact grow_at s0
    have f1 : WF.cell? ⟨w.heap.size + 1 + 1, 1, none⟩ = some (.slice none 0 0) := by rw [hWF.out]; exact grow_at s1
    have f2 : WF.cell? ⟨w.heap.size + 1 + 1, 2, none⟩ = some (.slice none 0 0) := by rw [hWF.out]; exact grow_at s2
    clear hWF s0 s1 s2
    refine bodyPost_ret (v := .tuple #[.agg #[.int .i64 0, .slice none 0 0, .slice none 0 0], .slice none 0 0, .int .i64 6]) (by simp [results, Tryz.results13, go_sem, f0, f1, f2]) rfl (HNO2.out _ hBF)
  | false =>
    rw [hf] at HFU
    have HYES2 := Lib.hid (fun (w' : World) (hn : Ow cNode 9 68 w' X0.heap.size (.slice A7 (L).length c7) (L)) (hs : Ow cInt 1 3 w' X0.heap.size (.slice A8 (S).length c8) (S)) (hv : Ow cEvent 2 84 w' X0.heap.size (.slice A9 (V).length c9) (V)) (hb : Below w.heap.size w w') => HYES.out W5 w' b _ _ _ _ _ _ _ hf HL.out HS7.out HV7.out H5.out (by omega) hn hs hv hb)
    clear hf HYES HNO
    go_upto_region 30 with ((go_at_call 27; refine (HFU.out _ (by repeat (first | with_reducible (first | exact bA .. | assumption | exact bJ .. | exact bK .. | exact bL .. | exact bM .. | exact bN .. | refine bB ?_ | refine bC ?_ _ | refine bD _ _ ?_ | refine bE _ ?_ | refine bF ?_ ?_ _ | refine bG ?_ ?_ _ | refine bH _ _ _ ?_ ?_) | omega | (simp; done) | (simp; omega)))).mono ?_; rintro e w1 ⟨rfl, hb⟩; obtain ⟨ext1, d1, rfl⟩ := Below.grown_eq _ hb; clear hb))
    refine wp_region_noPanic ?_
    refine wp_region_W (by kernel_rfl) (fun W hW => ?_)
    have cl0 : W.cell? ⟨b, 0, none⟩ = some (.int .i64 xz) := by rw [hW.out]; go_simp
    have cl1 : W.cell? ⟨b, 1, none⟩ = some (.slice A7 L.length c7) := by rw [hW.out]; go_simp
    have cl2 : W.cell? ⟨b, 2, none⟩ = some (.slice A8 S.length c8) := by rw [hW.out]; go_simp
    have cl3 : W.cell? ⟨b, 3, none⟩ = some (.slice A9 V.length c9) := by rw [hW.out]; go_simp
    have fz0 : W.frozen? ⟨w.heap.size + 1 + 1, 0, none⟩ = false := by rw [hW.out]; go_simp
    have fz1 : W.frozen? ⟨w.heap.size + 1 + 1, 1, none⟩ = false := by rw [hW.out]; go_simp
    have fz2 : W.frozen? ⟨w.heap.size + 1 + 1, 2, none⟩ = false := by rw [hW.out]; go_simp
    have g40 : W.cell? ⟨w.heap.size + 1 + 1, 0, none⟩ = some (.int .i64 0) := by rw [hW.out]; go_simp
    have g41 : W.cell? ⟨w.heap.size + 1 + 1, 1, none⟩ = some (.slice none 0 0) := by rw [hW.out]; go_simp
    have g42 : W.cell? ⟨w.heap.size + 1 + 1, 2, none⟩ = some (.slice none 0 0) := by rw [hW.out]; go_simp
    have hWs : w.heap.size + 1 + 1 < W.heap.size := by rw [hW.out]; simp; omega
    have hWW5 : Below W5.heap.size W5 W := by rw [hW.out]; exact (by repeat (first | with_reducible (first | exact bA .. | assumption | exact bJ .. | exact bK .. | exact bL .. | exact bM .. | exact bN .. | refine bB ?_ | refine bC ?_ _ | refine bD _ _ ?_ | refine bE _ ?_ | refine bF ?_ ?_ _ | refine bG ?_ ?_ _ | refine bH _ _ _ ?_ ?_) | omega | (simp; done) | (simp; omega)))
    refine wpAny_S (fun w' => w'.cell? ⟨b, 0, none⟩ = some (.int .i64 xz) ∧ w'.cell? ⟨b, 1, none⟩ = some (.slice A7 L.length c7) ∧ w'.cell? ⟨b, 2, none⟩ = some (.slice A8 S.length c8) ∧ w'.cell? ⟨b, 3, none⟩ = some (.slice A9 V.length c9)) (fun i => false) (by (try dsimp only); (refine ⟨?_, ?_, ?_, ?_⟩ <;> go_simp)) (fun hHeld => ?_)
    (refine wpE_takeP (i := 0) (v := ?gV2_1) (by simp only [zD]; rfl) (by kernel_rfl) (by kernel_rfl) (by kernel_rfl) (by rfl) (fun _ _ _ h => h) (Or.inl ⟨by rfl, ?gY2_1⟩) (by assumption) ?gR2_1; case gY2_1 => (intro w hSw; (try dsimp only at hSw); go_simp <;> with_reducible rfl))
    try simp only [Act.put, zA, zB, zC]
    (refine wpE_takeP (i := 1) (v := ?gV2_2) (by simp only [zD]; rfl) (by kernel_rfl) (by kernel_rfl) (by kernel_rfl) (by rfl) (fun _ _ _ h => h) (Or.inl ⟨by rfl, ?gY2_2⟩) (by assumption) ?gR2_2; case gY2_2 => (intro w hSw; (try dsimp only at hSw); go_simp <;> with_reducible rfl))
    try simp only [Act.put, zA, zB, zC]
    (refine wpE_takeP (i := 2) (v := ?gV2_3) (by simp only [zD]; rfl) (by kernel_rfl) (by kernel_rfl) (by kernel_rfl) (by rfl) (fun _ _ _ h => h) (Or.inl ⟨by rfl, ?gY2_3⟩) (by assumption) ?gR2_3; case gY2_3 => (intro w hSw; (try dsimp only at hSw); go_simp <;> with_reducible rfl))
    try simp only [Act.put, zA, zB, zC]
    (refine wpE_take (i := 3) (v := ?gV2_4) (by simp only [zD]; rfl) (by kernel_rfl) (by kernel_rfl) (by kernel_rfl) (by kernel_rfl) (by kernel_rfl) (by rfl) (fun _ _ _ h => h) (Or.inl ⟨by rfl, ?gY2_4⟩) (by assumption) ?gR2_4; case gY2_4 => (intro w hSw; (try dsimp only at hSw); go_simp <;> with_reducible rfl))
    try simp only [Act.put, zA, zB, zC]
    (refine wpE_takeP (i := 4) (v := ?gV2_5) (by simp only [zD]; rfl) (by kernel_rfl) (by kernel_rfl) (by kernel_rfl) (by rfl) (fun _ _ _ h => h) (Or.inl ⟨by rfl, ?gY2_5⟩) (by assumption) ?gR2_5; case gY2_5 => (intro w hSw; (try dsimp only at hSw); go_simp <;> with_reducible rfl))
    try simp only [Act.put, zA, zB, zC]
    (refine wpE_takeP (i := 5) (v := ?gV2_6) (by simp only [zD]; rfl) (by kernel_rfl) (by kernel_rfl) (by kernel_rfl) (by rfl) (fun _ _ _ h => h) (Or.inl ⟨by rfl, ?gY2_6⟩) (by assumption) ?gR2_6; case gY2_6 => (intro w hSw; (try dsimp only at hSw); go_simp <;> with_reducible rfl))
    try simp only [Act.put, zA, zB, zC]
    (refine wpE_takeP (i := 6) (v := ?gV2_7) (by simp only [zD]; rfl) (by kernel_rfl) (by kernel_rfl) (by kernel_rfl) (by rfl) (fun _ _ _ h => h) (Or.inl ⟨by rfl, ?gY2_7⟩) (by assumption) ?gR2_7; case gY2_7 => (intro w hSw; (try dsimp only at hSw); go_simp <;> with_reducible rfl))
    try simp only [Act.put, zA, zB, zC]
    (refine wpE_take (i := 7) (v := ?gV2_8) (by simp only [zD]; rfl) (by kernel_rfl) (by kernel_rfl) (by kernel_rfl) (by kernel_rfl) (by kernel_rfl) (by rfl) (fun _ _ _ h => h) (Or.inl ⟨by rfl, ?gY2_8⟩) (by assumption) ?gR2_8; case gY2_8 => (intro w hSw; (try dsimp only at hSw); go_simp <;> with_reducible rfl))
    try simp only [Act.put, zA, zB, zC]
    refine wpE_ready (rs := [8]) (by kernel_rfl) (by simp) ?_
    refine AllE.cons (by simp only [zD]; rfl) (fun K hK => ?_) AllE.nil
    go_simp
    refine hK.out _ _ ?gT2_9 (fun hHeld => ?_)
    case gT2_9 => ((try dsimp only); (refine ⟨?_, ?_, ?_, ?_⟩ <;> go_simp))
    clear hK K
    try simp only [Act.put, zA, zB, zC]
    (refine wpE_takeP (i := 9) (v := ?gV2_10) (by simp only [zD]; rfl) (by kernel_rfl) (by kernel_rfl) (by kernel_rfl) (by rfl) (fun _ _ _ h => h) (Or.inl ⟨by rfl, ?gY2_10⟩) (by assumption) ?gR2_10; case gY2_10 => (intro w hSw; (try dsimp only at hSw); go_simp <;> with_reducible rfl))
    try simp only [Act.put, zA, zB, zC]
    (refine wpE_takeP (i := 10) (v := ?gV2_11) (by simp only [zD]; rfl) (by kernel_rfl) (by kernel_rfl) (by kernel_rfl) (by rfl) (fun _ _ _ h => h) (Or.inl ⟨by rfl, ?gY2_11⟩) (by assumption) ?gR2_11; case gY2_11 => (intro w hSw; (try dsimp only at hSw); go_simp <;> with_reducible rfl))
    try simp only [Act.put, zA, zB, zC]
    refine wpE_done (by kernel_rfl) ?_ _
    refine NoPanic.normal ?_
    refine gen_e (fun WF hWF => ?_)
    obtain ⟨s0, s1, s2⟩ := set3_cells g40 g41 g42 (v0 := .int .i64 xz) (v1 := .slice A7 L.length c7) (v2 := .slice A8 S.length c8)
    have f0 : WF.cell? ⟨w.heap.size + 1 + 1, 0, none⟩ = some (.int .i64 xz) := by rw [hWF.out]; exact s0
    have f1 : WF.cell? ⟨w.heap.size + 1 + 1, 1, none⟩ = some (.slice A7 L.length c7) := by rw [hWF.out]; exact s1
    have f2 : WF.cell? ⟨w.heap.size + 1 + 1, 2, none⟩ = some (.slice A8 S.length c8) := by rw [hWF.out]; exact s2
    have hBF : Below w.heap.size w WF := by rw [hWF.out]; exact (((Below.own hwW hWW5).setCell (by simp only; omega) _).setCell (by simp only; omega) _).setCell (by simp only; omega) _
    have HNF : Hid (Ow cNode 9 68 WF X0.heap.size (.slice A7 L.length c7) L) := Lib.hid (by rw [hWF.out]; exact (H5.out.nodes.below hWW5).set_low hXs _ _ _)
    have HSF : Hid (Ow cInt 1 3 WF X0.heap.size (.slice A8 S.length c8) S) := Lib.hid (by rw [hWF.out]; exact (H5.out.sess.below hWW5).set_low hXs _ _ _)
    have HVF : Hid (Ow cEvent 2 84 WF X0.heap.size (.slice A9 V.length c9) V) := Lib.hid (by rw [hWF.out]; exact (H5.out.evs.below hWW5).set_low hXs _ _ _)
    clear hWF s0 s1 s2
    go_wp2_with fail
    refine bodyPost_ret (v := .tuple #[.agg #[.int .i64 xz, .slice A7 L.length c7, .slice A8 S.length c8], .slice A9 V.length c9, .int .i64 0]) (by simp [results, Tryz.results13, go_sem, f0, f1, f2]) rfl (HYES2.out _ HNF.out HSF.out HVF.out hBF)
end Go.Proofs.YtchgpijfebilbaaGreatDoor

/- package tree: Apply, at a closing. -/
namespace Go.Proofs.YtchgpijfebilbaaGreatDoor
open Go.RowKit Go.ChangeShapes Go.WideShapes Go.ChangeAt
theorem goneV_len : ∀ ps : List ByteArray, (ps.flatMap goneV).length = ps.length * 2
  | [] => rfl
  | p :: ps => by
    rw [List.flatMap_cons, List.length_append, goneV_len ps, List.length_cons]
    show 2 + _ = _
    omega
set_option maxRecDepth 100000 in
set_option maxHeartbeats 10000000 in
theorem trApply_2 (z : Int) (v v2 : Value) (l : List Node) (ss : List Int) (x : Txn) (w : World) (h : Sl cNode 9 w v l) (h2 : Sl cInt 1 w v2 ss) (hn : l.length * 88 ≤ 140737488355328) (hn2 : (ss.length + 1) * 8 ≤ 140737488355328) (hz : ∀ n ∈ l, n.path.size ≤ 9223372036854775807) (hp : x.path.size ≤ 9223372036854775807)
    (hw : wrongE ⟨z, l, ss⟩ x = 0) (hop : x.op = 2) : Calls Tryz.prog 13 #[.agg #[.int .i64 z, v, v2], txnV x] w (ApplyRes ⟨z, l, ss⟩ x w) := by
  obtain ⟨A, c, rfl, h1, h1b⟩ := h.form
  obtain ⟨A2, c2, rfl, h3, h3b⟩ := h2.form
  have HV := Lib.hid h
  have HS := Lib.hid h2
  have HWR := Lib.hid (fun (W : World) (h : Sl cNode 9 W (.slice A l.length c) l) (h2 : Sl cInt 1 W (.slice A2 ss.length c2) ss) => trWrong z (.slice A l.length c) (.slice A2 ss.length c2) l ss x W h h2 (by omega) (by omega) hz hp)
  rw [hw] at HWR
  have HCP := Lib.hid (fun (W : World) (h : Sl cNode 9 W (.slice A l.length c) l) (h2 : Sl cInt 1 W (.slice A2 ss.length c2) ss) => trCopied ⟨z, l, ss⟩ (.slice A l.length c) (.slice A2 ss.length c2) W h h2 hn (by simp only; omega))
  obtain ⟨hgt, hgx, hzx, wi1, wi2, wi3, wi4, wi5⟩ := wrong_inv hw
  obtain ⟨hgw, hgf⟩ := good_parts hgt
  have HGW := Lib.hid hgw
  have HGF := Lib.hid (full_no.1 hgf)
  have hl4 : l.length ≤ 400 := hgw.len
  have HLEN := Lib.hid (apply_goodW hw).len
  have HYES := Lib.hid (fun (W w' : World) (b : Nat) (L : List Node) (S : List Int) (V : List Event) (nv sv vv : Value) (B : Nat) (hf : fullB L = false) (hL : doN ⟨z, l, ss⟩ x = L) (hS : doS ⟨z, l, ss⟩ x = S) (hV : doV ⟨z, l, ss⟩ x = V) (h : Hand W B b ⟨x.zxid, L, S⟩ V nv sv vv) (hB : w.heap.size ≤ B) (hn : Ow cNode 9 68 w' B nv L) (hs : Ow cInt 1 3 w' B sv S) (hv : Ow cEvent 2 84 w' B vv V) (hb : Below w.heap.size w w') => applyRes_yes hw hf hL hS hV h hB hn hs hv hb)
  have HNO := Lib.hid (fun (w' : World) (hf : fullB (doN ⟨z, l, ss⟩ x) = true) (hb : Below w.heap.size w w') => applyRes_no (full_err hw hf) (by decide) hb)
  clear h h2 hgt hgw hgf
  obtain ⟨xz, xo, xs, xp, xd, xv, xw⟩ := x
  simp only at *
  subst hop
  clear wi1 wi3 wi4 wi5
  have HWI := Lib.hid (wi2 (show (2 : Int) ≠ 1 by decide))
  clear wi2
  have HXS : Hid (1 ≤ xs) := Lib.hid (goodT_inv hgx).2.2.1.1
  go_enter Tryz.func13, Tryz.ntmps13
  go_upto_region 5 with (first | (go_at_call 19; refine (HWR.out _ (HV.out.below (by repeat (first | with_reducible (first | exact bA .. | assumption | exact bJ .. | exact bK .. | exact bL .. | exact bM .. | exact bN .. | refine bB ?_ | refine bC ?_ _ | refine bD _ _ ?_ | refine bE _ ?_ | refine bF ?_ ?_ _ | refine bG ?_ ?_ _ | refine bH _ _ _ ?_ ?_) | omega | (simp; done) | (simp; omega)))) (HS.out.below (by repeat (first | with_reducible (first | exact bA .. | assumption | exact bJ .. | exact bK .. | exact bL .. | exact bM .. | exact bN .. | refine bB ?_ | refine bC ?_ _ | refine bD _ _ ?_ | refine bE _ ?_ | refine bF ?_ ?_ _ | refine bG ?_ ?_ _ | refine bH _ _ _ ?_ ?_) | omega | (simp; done) | (simp; omega))))).mono ?_; rintro e w1 ⟨rfl, hb⟩; obtain ⟨ext1, d1, rfl⟩ := Below.grown_eq _ hb; clear hb) | (go_at_call 20; refine (HCP.out _ (HV.out.below (by repeat (first | with_reducible (first | exact bA .. | assumption | exact bJ .. | exact bK .. | exact bL .. | exact bM .. | exact bN .. | refine bB ?_ | refine bC ?_ _ | refine bD _ _ ?_ | refine bE _ ?_ | refine bF ?_ ?_ _ | refine bG ?_ ?_ _ | refine bH _ _ _ ?_ ?_) | omega | (simp; done) | (simp; omega)))) (HS.out.below (by repeat (first | with_reducible (first | exact bA .. | assumption | exact bJ .. | exact bK .. | exact bL .. | exact bM .. | exact bN .. | refine bB ?_ | refine bC ?_ _ | refine bD _ _ ?_ | refine bE _ ?_ | refine bF ?_ ?_ _ | refine bG ?_ ?_ _ | refine bH _ _ _ ?_ ?_) | omega | (simp; done) | (simp; omega))))).mono ?_; rintro e w2 hT; obtain ⟨X0, hX0, A5, c5, A6, c6, rfl, ho5, ho6, hb⟩ := packW (P := fun X => TrIs ⟨z, l, ss⟩ X e w2) hT; have HO5 := Lib.hid ho5; have HO6 := Lib.hid ho6; clear ho5 ho6 hT; have HB2 := Lib.hid hb; clear hb))
  have hwX : Below w.heap.size w X0 := by rw [hX0.out]; exact (by repeat (first | with_reducible (first | exact bA .. | assumption | exact bJ .. | exact bK .. | exact bL .. | exact bM .. | exact bN .. | refine bB ?_ | refine bC ?_ _ | refine bD _ _ ?_ | refine bE _ ?_ | refine bF ?_ ?_ _ | refine bG ?_ ?_ _ | refine bH _ _ _ ?_ ?_) | omega | (simp; done) | (simp; omega)))
  have hXs : w.heap.size + 1 + 1 < X0.heap.size := by rw [hX0.out]; simp; omega
  have q21 : X0.cell? ⟨w.heap.size, 1, none⟩ = some (.slice A l.length c) := by rw [hX0.out]; go_simp
  have q30 : X0.cell? ⟨w.heap.size + 1, 0, none⟩ = some (.int .i64 xz) := by rw [hX0.out]; go_simp
  have q31 : X0.cell? ⟨w.heap.size + 1, 1, none⟩ = some (.int .i64 2) := by rw [hX0.out]; go_simp
  have q32 : X0.cell? ⟨w.heap.size + 1, 2, none⟩ = some (.int .i64 xs) := by rw [hX0.out]; go_simp
  have q33 : X0.cell? ⟨w.heap.size + 1, 3, none⟩ = some (.string xp) := by rw [hX0.out]; go_simp
  have q34 : X0.cell? ⟨w.heap.size + 1, 4, none⟩ = some (.string xd) := by rw [hX0.out]; go_simp
  have q35 : X0.cell? ⟨w.heap.size + 1, 5, none⟩ = some (.int .i64 xv) := by rw [hX0.out]; go_simp
  have q36 : X0.cell? ⟨w.heap.size + 1, 6, none⟩ = some (.int .i64 xw) := by rw [hX0.out]; go_simp
  have q40 : X0.cell? ⟨w.heap.size + 1 + 1, 0, none⟩ = some (.int .i64 0) := by rw [hX0.out]; go_simp
  have q41 : X0.cell? ⟨w.heap.size + 1 + 1, 1, none⟩ = some (.slice none 0 0) := by rw [hX0.out]; go_simp
  have q42 : X0.cell? ⟨w.heap.size + 1 + 1, 2, none⟩ = some (.slice none 0 0) := by rw [hX0.out]; go_simp
  have r40 : X0.frozen? ⟨w.heap.size + 1 + 1, 0, none⟩ = false := by rw [hX0.out]; go_simp
  have r41 : X0.frozen? ⟨w.heap.size + 1 + 1, 1, none⟩ = false := by rw [hX0.out]; go_simp
  have r42 : X0.frozen? ⟨w.heap.size + 1 + 1, 2, none⟩ = false := by rw [hX0.out]; go_simp
  refine gen_w (fun W1 hW1 => ?_)
  have hb1 : Below X0.heap.size X0 W1 := by rw [hW1.out]; exact below_alloc0 _ HB2.out
  have H1 := Lib.hid (show Hand W1 X0.heap.size w2.heap.size ⟨z, l, ss⟩ [] (.slice A5 l.length c5) (.slice A6 ss.length c6) (.slice none 0 0) by
    rw [hW1.out]
    exact ⟨Bk.new w2 _ _ rfl, HO5.out.alloc _, HO6.out.alloc _, Ow.nil _ _ _ _ _, own_lt HO5.out (Nat.le_refl _), own_lt HO6.out (Nat.le_refl _), (by simp [Value.ownBlock]), own_types HO5.out HO6.out (by decide), (fun _ _ => by simp [Value.ownBlock]), (fun _ _ => by simp [Value.ownBlock]), HB2.out.size⟩)
  clear hW1 HO5 HO6 HB2 hX0 HWR HCP
  generalize w2.heap.size = b at *
  clear w2
  obtain ⟨b0, b1, b2, b3, bf1, bf2, bf3, bf0, blt⟩ := H1.out.cells
  have y0 := (hb1.cell (p := ⟨w.heap.size + 1, 0, none⟩) (by simp only; omega)).trans q30
  go_upto_region 6 with fail
  refine gen_w (fun W3 hW3 => ?_)
  have hb3 : Below X0.heap.size X0 W3 := by rw [hW3.out]; exact Below.set_up hb1 H1.out.base
  have H3 := Lib.hid (show Hand W3 X0.heap.size b ⟨xz, l, ss⟩ [] _ _ _ from hW3.out ▸ H1.out.number)
  clear hW3 H1 hb1 y0 b0 b1 b2 b3 bf1 bf2 bf3 bf0 blt
  have y0 := (hb3.cell (p := ⟨w.heap.size + 1, 0, none⟩) (by simp only; omega)).trans q30
  have y1 := (hb3.cell (p := ⟨w.heap.size + 1, 1, none⟩) (by simp only; omega)).trans q31
  have y2 := (hb3.cell (p := ⟨w.heap.size + 1, 2, none⟩) (by simp only; omega)).trans q32
  have y3 := (hb3.cell (p := ⟨w.heap.size + 1, 3, none⟩) (by simp only; omega)).trans q33
  have y4 := (hb3.cell (p := ⟨w.heap.size + 1, 4, none⟩) (by simp only; omega)).trans q34
  have y5 := (hb3.cell (p := ⟨w.heap.size + 1, 5, none⟩) (by simp only; omega)).trans q35
  have y6 := (hb3.cell (p := ⟨w.heap.size + 1, 6, none⟩) (by simp only; omega)).trans q36
  have hBW : X0.heap.size ≤ W3.heap.size := hb3.size
  have hin := HWI.out
  have HBI := Lib.hid (fun (W : World) (h : Sl cInt 1 W (.slice A6 ss.length c6) ss) => bsI (.slice A6 ss.length c6) ss xs W h (by omega))
  rw [hin] at HBI
  have hql : posI ss xs < ss.length := by
    have : ss[posI ss xs]? = some xs := by unfold isI at hin; simpa using hin
    exact (List.getElem?_eq_some_iff.1 this).1
  have hdd : delS ss xs = ss.take (posI ss xs) ++ ss.drop (posI ss xs + 1) := rfl
  have hSl : (delS ss xs).length = ss.length - 1 := by
    rw [hdd, List.length_append, List.length_take, List.length_drop]
    omega
  obtain ⟨S1, hS1⟩ : ∃ S1, S1 = delS ss xs := ⟨_, rfl⟩
  rw [← hS1] at hdd hSl
  have HS1 := Lib.hid hS1
  generalize posI ss xs = q at *
  clear hS1 hin HWI
  obtain ⟨b0, b1, b2, b3, bf1, bf2, bf3, bf0, blt⟩ := H3.out.cells
  go_upto_region 11 with fail
  refine wp_region_grow (by kernel_rfl) (by kernel_rfl) ?_
  try simp only [List.append]
  repeat' (first | go_big_quiet_skip | (go_big_quiet_want; go_big_quiet_op; first | go_big_quiet_on | (apply Exists.intro; refine ⟨fun _ => ?hqg1, ?hqg2⟩; (case hqg1 => (go_at_call 21; refine Calls.grow_of (HBI.out _ (H3.out.sess.sl.below (by repeat (first | with_reducible (first | exact bA .. | assumption | exact bJ .. | exact bK .. | exact bL .. | exact bM .. | exact bN .. | refine bB ?_ | refine bC ?_ _ | refine bD _ _ ?_ | refine bE _ ?_ | refine bF ?_ ?_ _ | refine bG ?_ ?_ _ | refine bH _ _ _ ?_ ?_) | omega | (simp; done) | (simp; omega))))))); go_big_quiet_on)))
  all_goals refine wpQuiet_nil ?_
  all_goals rintro _ ⟨⟨extq, dq⟩, rfl⟩
  all_goals dsimp only
  go_upto_region 12 with fail
  refine gen_w (fun W4 hW4 => ?_)
  have hbW : Below W3.heap.size W3 W4 := by rw [hW4.out]; exact (by repeat (first | with_reducible (first | exact bA .. | assumption | exact bJ .. | exact bK .. | exact bL .. | exact bM .. | exact bN .. | refine bB ?_ | refine bC ?_ _ | refine bD _ _ ?_ | refine bE _ ?_ | refine bF ?_ ?_ _ | refine bG ?_ ?_ _ | refine bH _ _ _ ?_ ?_) | omega | (simp; done) | (simp; omega)))
  have hb4 : Below X0.heap.size X0 W4 := hb3.trans (hbW.mono hBW)
  have H4 := Lib.hid (H3.out.below hbW)
  have hBW4 : X0.heap.size ≤ W4.heap.size := hb4.size
  clear hW4 hbW H3 hb3 hBW b0 b1 b2 b3 bf1 bf2 bf3 bf0 blt y0 y1 y2 y3 y4 y5 y6 HBI
  obtain ⟨b0, b1, b2, b3, bf1, bf2, bf3, bf0, blt⟩ := H4.out.cells
  have h3c : c6 ≤ 9223372036854775807 := by
    obtain ⟨_, _, e, _, hc, _⟩ := H4.out.sess.form
    injection e with _ _ e
    rw [e]
    simpa [maxLen] using hc
  go_upto_region 13 with (go_at_call 23; go_loud ((with_reducible refine (delInt _ _ _ _ ss _ X0.heap.size H4.out.sess hql h3c).mono ?_); rintro e w2 ⟨rfl, hd⟩; have HX := Lib.hid (hand_sess (w := X0) (v2 := .slice A6 (ss.length - 1) c6) H4.out hb4 (Below.refl _ _) hd.out.1 hd.out.2 (Or.inl (own_same A6 _ _ _ _))); obtain ⟨_, _, hs3, hf3, hl3⟩ := HX.out; clear hd))
  refine gen_w (fun W5 hW5 => ?_)
  rw [← hW5.out, ← hdd] at HX
  have H5 := Lib.hid HX.out.1
  have hb5 : Below X0.heap.size X0 W5 := HX.out.2.1
  clear hW5 HX hs3 hf3 hl3 H4 b0 b1 b2 b3 bf1 bf2 bf3 bf0 blt hb4 hdd hSl hBW4
  have HVX := Lib.hid (HV.out.below (w' := X0) hwX)
  have z21 := (hb5.cell (p := ⟨w.heap.size, 1, none⟩) (by simp only; omega)).trans q21
  have HG' : Hid (GoodW xz l ss) := Lib.hid (HGW.out.later (by omega) (goodT_inv hgx).2.1.2)
  have hs0 : xs ≠ 0 := by have := HXS.out; omega
  go_wp2_with fail
  go_loopw [92] (fun i wr => ∃ (k : Nat), k ≤ l.length ∧ i = .int .i64 k ∧ Hid (∃ nv sv vv, Hand wr X0.heap.size b ⟨xz, closeP l xz (ownedL (l.take k) xs), S1⟩ ((ownedL (l.take k) xs).flatMap goneV) nv sv vv) ∧ Below X0.heap.size X0 wr) (fun i _ => l.length - (intOf i).toNat)
  case atStart => exact ⟨0, Nat.zero_le _, rfl, Lib.hid ⟨_, _, _, H5.out⟩, hb5⟩
  case round =>
    obtain ⟨k, hk, rfl, HK, hbr⟩ := hrel
    obtain ⟨nv, sv, vv, hK⟩ := HK.out
    have H6 := Lib.hid hK
    clear hK HK
    have y0 := (hbr.cell (p := ⟨w.heap.size + 1, 0, none⟩) (by simp only; omega)).trans q30
    have y2 := (hbr.cell (p := ⟨w.heap.size + 1, 2, none⟩) (by simp only; omega)).trans q32
    have hrs : w.heap.size + 1 < wr.heap.size := by have := hbr.size; omega
    have hrX : X0.heap.size ≤ wr.heap.size := hbr.size
    by_cases hlt : k < l.length
    · have hx : l[k]? = some (l[k]'hlt) := List.getElem?_eq_getElem _
      obtain ⟨bk, off, rfl, hbw, c0, c1, c2', c3, c4, c5', c6', c7, c8⟩ := (HVX.out.below hbr).Node_at hx
      have hzp := hz _ (List.mem_of_getElem? hx)
      generalize l[k]'hlt = x at *
      obtain ⟨np, nd, n1, n2, n3, n4, n5, no, nk⟩ := x
      simp only at *
      by_cases ho : no = xs
      · have hown := owned_take hx xs
        obtain ⟨g1, g2, g3⟩ := close_at HG'.out hs0 HGF.out hx ho
        simp only at g2 hown
        rw [if_pos ho] at hown
        subst ho
        have hel : (ownedL (l.take k) no).length ≤ 400 := Nat.le_trans (owned_le _ _) (by rw [List.length_take]; omega)
        have hev : ((ownedL (l.take k) no).flatMap goneV).length = (ownedL (l.take k) no).length * 2 := goneV_len _
        have hcl : (closeP l xz (ownedL (l.take k) no)).length ≤ 400 := g1.len
        have HOW := Lib.hid hown
        clear hx hown
        go_wp2_with (go_at_call 24; go_loud ((with_reducible refine (handRemove xz _ S1 _ np xz _ _ _ _ X0.heap.size b (H6.out.below (by repeat (first | with_reducible (first | exact bA .. | assumption | exact bJ .. | exact bK .. | exact bL .. | exact bM .. | exact bN .. | refine bB ?_ | refine bC ?_ _ | refine bD _ _ ?_ | refine bE _ ?_ | refine bF ?_ ?_ _ | refine bG ?_ ?_ _ | refine bH _ _ _ ?_ ?_) | omega | (simp; done) | (simp; omega)))) (by simp; omega) g2 hzp (by omega) (by rw [hev]; omega) g3).mono ?_); rintro e w4 ⟨nv4, sv4, vv4, rfl, hh4, hb4⟩; have HH4 := Lib.hid hh4; have HB4 := Lib.hid hb4; clear hh4 hb4))
        go_roundw
        case rel => exact ⟨k + 1, by omega, by go_num, Lib.hid ⟨_, _, _, by rw [HOW.out, closeP_snoc, List.flatMap_append]; simpa using HH4.out⟩, (hbr.trans (Below.mono (show Below wr.heap.size wr _ from (by repeat (first | with_reducible (first | exact bA .. | assumption | exact bJ .. | exact bK .. | exact bL .. | exact bM .. | exact bN .. | refine bB ?_ | refine bC ?_ _ | refine bD _ _ ?_ | refine bE _ ?_ | refine bF ?_ ?_ _ | refine bG ?_ ?_ _ | refine bH _ _ _ ?_ ?_) | omega | (simp; done) | (simp; omega)))) hrX)).trans HB4.out⟩
        case measure => simp [intOf]; omega
      · have hown := owned_take hx xs
        simp only at hown
        rw [if_neg ho, List.append_nil] at hown
        have hno : (no == xs) = false := beq_eq_false_iff_ne.2 ho
        have HOW := Lib.hid hown
        clear hx hown
        go_wp2_with fail
        go_roundw
        case rel => exact ⟨k + 1, by omega, by go_num, Lib.hid ⟨_, _, _, by rw [HOW.out]; exact H6.out.below (by repeat (first | with_reducible (first | exact bA .. | assumption | exact bJ .. | exact bK .. | exact bL .. | exact bM .. | exact bN .. | refine bB ?_ | refine bC ?_ _ | refine bD _ _ ?_ | refine bE _ ?_ | refine bF ?_ ?_ _ | refine bG ?_ ?_ _ | refine bH _ _ _ ?_ ?_) | omega | (simp; done) | (simp; omega)))⟩, hbr.trans (Below.mono (show Below wr.heap.size wr _ from (by repeat (first | with_reducible (first | exact bA .. | assumption | exact bJ .. | exact bK .. | exact bL .. | exact bM .. | exact bN .. | refine bB ?_ | refine bC ?_ _ | refine bD _ _ ?_ | refine bE _ ?_ | refine bF ?_ ?_ _ | refine bG ?_ ?_ _ | refine bH _ _ _ ?_ ?_) | omega | (simp; done) | (simp; omega)))) hrX)⟩
        case measure => simp [intOf]; omega
    · have hkl : k = l.length := by omega
      subst hkl
      rw [List.take_length] at H6
      clear H5 hb5
      obtain ⟨W5, hW5⟩ : ∃ W5, W5 = wr := ⟨_, rfl⟩
      subst hW5
      have H5 := H6
      have hb5 := hbr
      rw [HS1.out, closeP_all] at H5
      clear H6 y0 y2 hbr HS1 HG' HVX z21
      obtain ⟨d1, d2, d3⟩ := doN_2 (t := ⟨z, l, ss⟩) (x := ⟨xz, 2, xs, xp, xd, xv, xw⟩) rfl
      simp only at d1 d2 d3
      obtain ⟨L, hLL⟩ : ∃ L, L = closeN l xs xz := ⟨_, rfl⟩
      obtain ⟨S, hSS⟩ : ∃ S, S = delS ss xs := ⟨_, rfl⟩
      obtain ⟨V, hVV⟩ : ∃ V, V = (ownedL l xs).flatMap goneV := ⟨_, rfl⟩
      have HL := Lib.hid (d1.trans hLL.symm)
      have HS7 := Lib.hid (d2.trans hSS.symm)
      have HV7 := Lib.hid (d3.trans hVV.symm)
      have HNO1 := HNO
      clear HNO
      have HNO := Lib.hid (fun (w' : World) (hf : fullB L = true) (hb : Below w.heap.size w w') => HNO1.out w' (by rw [HL.out]; exact hf) hb)
      have hL7 : L.length ≤ 140737488355328 := by rw [← HL.out]; exact Nat.le_trans HLEN.out (by decide)
      rw [← hLL, ← hSS, ← hVV] at H5
      clear hLL hSS hVV d1 d2 d3 HNO1
      obtain ⟨nv5, sv5, vv5, H5⟩ := exHand H5
      obtain ⟨A7, c7, rfl, h7, h7b, _⟩ := H5.out.nodes.form
      obtain ⟨A8, c8, rfl, h8, h8b, _⟩ := H5.out.sess.form
      obtain ⟨A9, c9, rfl, h9, h9b, _⟩ := H5.out.evs.form
      have y40 := (hb5.cell (p := ⟨w.heap.size + 1 + 1, 0, none⟩) (by simp only; omega)).trans q40
      have y41 := (hb5.cell (p := ⟨w.heap.size + 1 + 1, 1, none⟩) (by simp only; omega)).trans q41
      have y42 := (hb5.cell (p := ⟨w.heap.size + 1 + 1, 2, none⟩) (by simp only; omega)).trans q42
      have z40 := (hb5.frozen (p := ⟨w.heap.size + 1 + 1, 0, none⟩) (by simp only; omega)).trans r40
      have z41 := (hb5.frozen (p := ⟨w.heap.size + 1 + 1, 1, none⟩) (by simp only; omega)).trans r41
      have z42 := (hb5.frozen (p := ⟨w.heap.size + 1 + 1, 2, none⟩) (by simp only; omega)).trans r42
      obtain ⟨b0, b1, b2, b3, bf1, bf2, bf3, bf0, blt⟩ := H5.out.cells
      have hwb : w.heap.size + 1 + 1 < b := Nat.lt_of_lt_of_le hXs H5.out.base
      have hw5 : w.heap.size + 1 + 1 < W5.heap.size := by omega
      have hwW : Below w.heap.size w W5 := hwX.trans (hb5.mono (by omega))
      have HFU := Lib.hid (fun (W : World) (h : Below W5.heap.size W5 W) => trFull _ _ W (H5.out.nodes.sl.below h) hL7)
      cases hf : fullB L with
      | true =>
        rw [hf] at HFU
        have HNO2 := Lib.hid (fun (w' : World) (hb : Below w.heap.size w w') => HNO.out w' hf hb)
        clear hf HYES
        go_wp2_with ((go_at_call 27; refine (HFU.out _ (by repeat (first | with_reducible (first | exact bA .. | assumption | exact bJ .. | exact bK .. | exact bL .. | exact bM .. | exact bN .. | refine bB ?_ | refine bC ?_ _ | refine bD _ _ ?_ | refine bE _ ?_ | refine bF ?_ ?_ _ | refine bG ?_ ?_ _ | refine bH _ _ _ ?_ ?_) | omega | (simp; done) | (simp; omega)))).mono ?_; rintro e w1 ⟨rfl, hb⟩; obtain ⟨ext1, d1, rfl⟩ := Below.grown_eq _ hb; clear hb))
        refine gen_e (fun WF hWF => ?_)
        have hBF : Below w.heap.size w WF := by rw [hWF.out]; exact (by repeat (first | with_reducible (first | exact bA .. | assumption | exact bJ .. | exact bK .. | exact bL .. | exact bM .. | exact bN .. | refine bB ?_ | refine bC ?_ _ | refine bD _ _ ?_ | refine bE _ ?_ | refine bF ?_ ?_ _ | refine bG ?_ ?_ _ | refine bH _ _ _ ?_ ?_) | omega | (simp; done) | (simp; omega)))
        obtain ⟨s0, s1, s2⟩ := set3_cells y40 y41 y42 (v0 := .int .i64 0) (v1 := .slice none 0 0) (v2 := .slice none 0 0)
        have f0 : WF.cell? ⟨w.heap.size + 1 + 1, 0, none⟩ = some (.int .i64 0) := by rw [hWF.out]; exact grow_at s0
        have f1 : WF.cell? ⟨w.heap.size + 1 + 1, 1, none⟩ = some (.slice none 0 0) := by rw [hWF.out]; exact grow_at s1
        have f2 : WF.cell? ⟨w.heap.size + 1 + 1, 2, none⟩ = some (.slice none 0 0) := by rw [hWF.out]; exact grow_at s2
        clear hWF s0 s1 s2
        refine bodyPost_ret (v := .tuple #[.agg #[.int .i64 0, .slice none 0 0, .slice none 0 0], .slice none 0 0, .int .i64 6]) (by simp [results, Tryz.results13, go_sem, f0, f1, f2]) rfl (HNO2.out _ hBF)
      | false =>
        rw [hf] at HFU
        have HYES2 := Lib.hid (fun (w' : World) (hn : Ow cNode 9 68 w' X0.heap.size (.slice A7 (L).length c7) (L)) (hs : Ow cInt 1 3 w' X0.heap.size (.slice A8 (S).length c8) (S)) (hv : Ow cEvent 2 84 w' X0.heap.size (.slice A9 (V).length c9) (V)) (hb : Below w.heap.size w w') => HYES.out W5 w' b _ _ _ _ _ _ _ hf HL.out HS7.out HV7.out H5.out (by omega) hn hs hv hb)
        clear hf HYES HNO
        go_upto_region 30 with ((go_at_call 27; refine (HFU.out _ (by repeat (first | with_reducible (first | exact bA .. | assumption | exact bJ .. | exact bK .. | exact bL .. | exact bM .. | exact bN .. | refine bB ?_ | refine bC ?_ _ | refine bD _ _ ?_ | refine bE _ ?_ | refine bF ?_ ?_ _ | refine bG ?_ ?_ _ | refine bH _ _ _ ?_ ?_) | omega | (simp; done) | (simp; omega)))).mono ?_; rintro e w1 ⟨rfl, hb⟩; obtain ⟨ext1, d1, rfl⟩ := Below.grown_eq _ hb; clear hb))
        refine wp_region_noPanic ?_
        refine wp_region_W (by kernel_rfl) (fun W hW => ?_)
        have cl0 : W.cell? ⟨b, 0, none⟩ = some (.int .i64 xz) := by rw [hW.out]; go_simp
        have cl1 : W.cell? ⟨b, 1, none⟩ = some (.slice A7 L.length c7) := by rw [hW.out]; go_simp
        have cl2 : W.cell? ⟨b, 2, none⟩ = some (.slice A8 S.length c8) := by rw [hW.out]; go_simp
        have cl3 : W.cell? ⟨b, 3, none⟩ = some (.slice A9 V.length c9) := by rw [hW.out]; go_simp
        have fz0 : W.frozen? ⟨w.heap.size + 1 + 1, 0, none⟩ = false := by rw [hW.out]; go_simp
        have fz1 : W.frozen? ⟨w.heap.size + 1 + 1, 1, none⟩ = false := by rw [hW.out]; go_simp
        have fz2 : W.frozen? ⟨w.heap.size + 1 + 1, 2, none⟩ = false := by rw [hW.out]; go_simp
        have g40 : W.cell? ⟨w.heap.size + 1 + 1, 0, none⟩ = some (.int .i64 0) := by rw [hW.out]; go_simp
        have g41 : W.cell? ⟨w.heap.size + 1 + 1, 1, none⟩ = some (.slice none 0 0) := by rw [hW.out]; go_simp
        have g42 : W.cell? ⟨w.heap.size + 1 + 1, 2, none⟩ = some (.slice none 0 0) := by rw [hW.out]; go_simp
        have hWs : w.heap.size + 1 + 1 < W.heap.size := by rw [hW.out]; simp; omega
        have hWW5 : Below W5.heap.size W5 W := by rw [hW.out]; exact (by repeat (first | with_reducible (first | exact bA .. | assumption | exact bJ .. | exact bK .. | exact bL .. | exact bM .. | exact bN .. | refine bB ?_ | refine bC ?_ _ | refine bD _ _ ?_ | refine bE _ ?_ | refine bF ?_ ?_ _ | refine bG ?_ ?_ _ | refine bH _ _ _ ?_ ?_) | omega | (simp; done) | (simp; omega)))
        refine wpAny_S (fun w' => w'.cell? ⟨b, 0, none⟩ = some (.int .i64 xz) ∧ w'.cell? ⟨b, 1, none⟩ = some (.slice A7 L.length c7) ∧ w'.cell? ⟨b, 2, none⟩ = some (.slice A8 S.length c8) ∧ w'.cell? ⟨b, 3, none⟩ = some (.slice A9 V.length c9)) (fun i => false) (by (try dsimp only); (refine ⟨?_, ?_, ?_, ?_⟩ <;> go_simp)) (fun hHeld => ?_)
        (refine wpE_takeP (i := 0) (v := ?gV1_1) (by simp only [zD]; rfl) (by kernel_rfl) (by kernel_rfl) (by kernel_rfl) (by rfl) (fun _ _ _ h => h) (Or.inl ⟨by rfl, ?gY1_1⟩) (by assumption) ?gR1_1; case gY1_1 => (intro w hSw; (try dsimp only at hSw); go_simp <;> with_reducible rfl))
        try simp only [Act.put, zA, zB, zC]
        (refine wpE_takeP (i := 1) (v := ?gV1_2) (by simp only [zD]; rfl) (by kernel_rfl) (by kernel_rfl) (by kernel_rfl) (by rfl) (fun _ _ _ h => h) (Or.inl ⟨by rfl, ?gY1_2⟩) (by assumption) ?gR1_2; case gY1_2 => (intro w hSw; (try dsimp only at hSw); go_simp <;> with_reducible rfl))
        try simp only [Act.put, zA, zB, zC]
        (refine wpE_takeP (i := 2) (v := ?gV1_3) (by simp only [zD]; rfl) (by kernel_rfl) (by kernel_rfl) (by kernel_rfl) (by rfl) (fun _ _ _ h => h) (Or.inl ⟨by rfl, ?gY1_3⟩) (by assumption) ?gR1_3; case gY1_3 => (intro w hSw; (try dsimp only at hSw); go_simp <;> with_reducible rfl))
        try simp only [Act.put, zA, zB, zC]
        (refine wpE_take (i := 3) (v := ?gV1_4) (by simp only [zD]; rfl) (by kernel_rfl) (by kernel_rfl) (by kernel_rfl) (by kernel_rfl) (by kernel_rfl) (by rfl) (fun _ _ _ h => h) (Or.inl ⟨by rfl, ?gY1_4⟩) (by assumption) ?gR1_4; case gY1_4 => (intro w hSw; (try dsimp only at hSw); go_simp <;> with_reducible rfl))
        try simp only [Act.put, zA, zB, zC]
        (refine wpE_takeP (i := 4) (v := ?gV1_5) (by simp only [zD]; rfl) (by kernel_rfl) (by kernel_rfl) (by kernel_rfl) (by rfl) (fun _ _ _ h => h) (Or.inl ⟨by rfl, ?gY1_5⟩) (by assumption) ?gR1_5; case gY1_5 => (intro w hSw; (try dsimp only at hSw); go_simp <;> with_reducible rfl))
        try simp only [Act.put, zA, zB, zC]
        (refine wpE_takeP (i := 5) (v := ?gV1_6) (by simp only [zD]; rfl) (by kernel_rfl) (by kernel_rfl) (by kernel_rfl) (by rfl) (fun _ _ _ h => h) (Or.inl ⟨by rfl, ?gY1_6⟩) (by assumption) ?gR1_6; case gY1_6 => (intro w hSw; (try dsimp only at hSw); go_simp <;> with_reducible rfl))
        try simp only [Act.put, zA, zB, zC]
        (refine wpE_takeP (i := 6) (v := ?gV1_7) (by simp only [zD]; rfl) (by kernel_rfl) (by kernel_rfl) (by kernel_rfl) (by rfl) (fun _ _ _ h => h) (Or.inl ⟨by rfl, ?gY1_7⟩) (by assumption) ?gR1_7; case gY1_7 => (intro w hSw; (try dsimp only at hSw); go_simp <;> with_reducible rfl))
        try simp only [Act.put, zA, zB, zC]
        (refine wpE_take (i := 7) (v := ?gV1_8) (by simp only [zD]; rfl) (by kernel_rfl) (by kernel_rfl) (by kernel_rfl) (by kernel_rfl) (by kernel_rfl) (by rfl) (fun _ _ _ h => h) (Or.inl ⟨by rfl, ?gY1_8⟩) (by assumption) ?gR1_8; case gY1_8 => (intro w hSw; (try dsimp only at hSw); go_simp <;> with_reducible rfl))
        try simp only [Act.put, zA, zB, zC]
        refine wpE_ready (rs := [8]) (by kernel_rfl) (by simp) ?_
        refine AllE.cons (by simp only [zD]; rfl) (fun K hK => ?_) AllE.nil
        go_simp
        refine hK.out _ _ ?gT1_9 (fun hHeld => ?_)
        case gT1_9 => ((try dsimp only); (refine ⟨?_, ?_, ?_, ?_⟩ <;> go_simp))
        clear hK K
        try simp only [Act.put, zA, zB, zC]
        (refine wpE_takeP (i := 9) (v := ?gV1_10) (by simp only [zD]; rfl) (by kernel_rfl) (by kernel_rfl) (by kernel_rfl) (by rfl) (fun _ _ _ h => h) (Or.inl ⟨by rfl, ?gY1_10⟩) (by assumption) ?gR1_10; case gY1_10 => (intro w hSw; (try dsimp only at hSw); go_simp <;> with_reducible rfl))
        try simp only [Act.put, zA, zB, zC]
        (refine wpE_takeP (i := 10) (v := ?gV1_11) (by simp only [zD]; rfl) (by kernel_rfl) (by kernel_rfl) (by kernel_rfl) (by rfl) (fun _ _ _ h => h) (Or.inl ⟨by rfl, ?gY1_11⟩) (by assumption) ?gR1_11; case gY1_11 => (intro w hSw; (try dsimp only at hSw); go_simp <;> with_reducible rfl))
        try simp only [Act.put, zA, zB, zC]
        refine wpE_done (by kernel_rfl) ?_ _
        refine NoPanic.normal ?_
        refine gen_e (fun WF hWF => ?_)
        obtain ⟨s0, s1, s2⟩ := set3_cells g40 g41 g42 (v0 := .int .i64 xz) (v1 := .slice A7 L.length c7) (v2 := .slice A8 S.length c8)
        have f0 : WF.cell? ⟨w.heap.size + 1 + 1, 0, none⟩ = some (.int .i64 xz) := by rw [hWF.out]; exact s0
        have f1 : WF.cell? ⟨w.heap.size + 1 + 1, 1, none⟩ = some (.slice A7 L.length c7) := by rw [hWF.out]; exact s1
        have f2 : WF.cell? ⟨w.heap.size + 1 + 1, 2, none⟩ = some (.slice A8 S.length c8) := by rw [hWF.out]; exact s2
        have hBF : Below w.heap.size w WF := by rw [hWF.out]; exact (((Below.own hwW hWW5).setCell (by simp only; omega) _).setCell (by simp only; omega) _).setCell (by simp only; omega) _
        have HNF : Hid (Ow cNode 9 68 WF X0.heap.size (.slice A7 L.length c7) L) := Lib.hid (by rw [hWF.out]; exact (H5.out.nodes.below hWW5).set_low hXs _ _ _)
        have HSF : Hid (Ow cInt 1 3 WF X0.heap.size (.slice A8 S.length c8) S) := Lib.hid (by rw [hWF.out]; exact (H5.out.sess.below hWW5).set_low hXs _ _ _)
        have HVF : Hid (Ow cEvent 2 84 WF X0.heap.size (.slice A9 V.length c9) V) := Lib.hid (by rw [hWF.out]; exact (H5.out.evs.below hWW5).set_low hXs _ _ _)
        clear hWF s0 s1 s2
        go_wp2_with fail
        refine bodyPost_ret (v := .tuple #[.agg #[.int .i64 xz, .slice A7 L.length c7, .slice A8 S.length c8], .slice A9 V.length c9, .int .i64 0]) (by simp [results, Tryz.results13, go_sem, f0, f1, f2]) rfl (HYES2.out _ HNF.out HSF.out HVF.out hBF)
end Go.Proofs.YtchgpijfebilbaaGreatDoor

/- package tree: Apply, at a creation. -/
namespace Go.Proofs.YtchgpijfebilbaaGreatDoor
open Go.RowKit Go.ChangeShapes Go.WideShapes Go.ChangeAt
set_option maxRecDepth 100000 in
set_option maxHeartbeats 10000000 in
theorem trApply_3 (z : Int) (v v2 : Value) (l : List Node) (ss : List Int) (x : Txn) (w : World) (h : Sl cNode 9 w v l) (h2 : Sl cInt 1 w v2 ss) (hn : l.length * 88 ≤ 140737488355328) (hn2 : (ss.length + 1) * 8 ≤ 140737488355328) (hz : ∀ n ∈ l, n.path.size ≤ 9223372036854775807) (hp : x.path.size ≤ 9223372036854775807)
    (hw : wrongE ⟨z, l, ss⟩ x = 0) (hop : x.op = 3) : Calls Tryz.prog 13 #[.agg #[.int .i64 z, v, v2], txnV x] w (ApplyRes ⟨z, l, ss⟩ x w) := by
  obtain ⟨A, c, rfl, h1, h1b⟩ := h.form
  obtain ⟨A2, c2, rfl, h3, h3b⟩ := h2.form
  have HV := Lib.hid h
  have HS := Lib.hid h2
  have HWR := Lib.hid (fun (W : World) (h : Sl cNode 9 W (.slice A l.length c) l) (h2 : Sl cInt 1 W (.slice A2 ss.length c2) ss) => trWrong z (.slice A l.length c) (.slice A2 ss.length c2) l ss x W h h2 (by omega) (by omega) hz hp)
  rw [hw] at HWR
  have HCP := Lib.hid (fun (W : World) (h : Sl cNode 9 W (.slice A l.length c) l) (h2 : Sl cInt 1 W (.slice A2 ss.length c2) ss) => trCopied ⟨z, l, ss⟩ (.slice A l.length c) (.slice A2 ss.length c2) W h h2 hn (by simp only; omega))
  obtain ⟨hgt, hgx, hzx, wi1, wi2, wi3, wi4, wi5⟩ := wrong_inv hw
  obtain ⟨hgw, hgf⟩ := good_parts hgt
  have HGW := Lib.hid hgw
  have HGF := Lib.hid (full_no.1 hgf)
  have hl4 : l.length ≤ 400 := hgw.len
  have HLEN := Lib.hid (apply_goodW hw).len
  have HYES := Lib.hid (fun (W w' : World) (b : Nat) (L : List Node) (S : List Int) (V : List Event) (nv sv vv : Value) (B : Nat) (hf : fullB L = false) (hL : doN ⟨z, l, ss⟩ x = L) (hS : doS ⟨z, l, ss⟩ x = S) (hV : doV ⟨z, l, ss⟩ x = V) (h : Hand W B b ⟨x.zxid, L, S⟩ V nv sv vv) (hB : w.heap.size ≤ B) (hn : Ow cNode 9 68 w' B nv L) (hs : Ow cInt 1 3 w' B sv S) (hv : Ow cEvent 2 84 w' B vv V) (hb : Below w.heap.size w w') => applyRes_yes hw hf hL hS hV h hB hn hs hv hb)
  have HNO := Lib.hid (fun (w' : World) (hf : fullB (doN ⟨z, l, ss⟩ x) = true) (hb : Below w.heap.size w w') => applyRes_no (full_err hw hf) (by decide) hb)
  clear h h2 hgt hgw hgf
  obtain ⟨xz, xo, xs, xp, xd, xv, xw⟩ := x
  simp only at *
  subst hop
  go_enter Tryz.func13, Tryz.ntmps13
  go_upto_region 5 with (first | (go_at_call 19; refine (HWR.out _ (HV.out.below (by repeat (first | with_reducible (first | exact bA .. | assumption | exact bJ .. | exact bK .. | exact bL .. | exact bM .. | exact bN .. | refine bB ?_ | refine bC ?_ _ | refine bD _ _ ?_ | refine bE _ ?_ | refine bF ?_ ?_ _ | refine bG ?_ ?_ _ | refine bH _ _ _ ?_ ?_) | omega | (simp; done) | (simp; omega)))) (HS.out.below (by repeat (first | with_reducible (first | exact bA .. | assumption | exact bJ .. | exact bK .. | exact bL .. | exact bM .. | exact bN .. | refine bB ?_ | refine bC ?_ _ | refine bD _ _ ?_ | refine bE _ ?_ | refine bF ?_ ?_ _ | refine bG ?_ ?_ _ | refine bH _ _ _ ?_ ?_) | omega | (simp; done) | (simp; omega))))).mono ?_; rintro e w1 ⟨rfl, hb⟩; obtain ⟨ext1, d1, rfl⟩ := Below.grown_eq _ hb; clear hb) | (go_at_call 20; refine (HCP.out _ (HV.out.below (by repeat (first | with_reducible (first | exact bA .. | assumption | exact bJ .. | exact bK .. | exact bL .. | exact bM .. | exact bN .. | refine bB ?_ | refine bC ?_ _ | refine bD _ _ ?_ | refine bE _ ?_ | refine bF ?_ ?_ _ | refine bG ?_ ?_ _ | refine bH _ _ _ ?_ ?_) | omega | (simp; done) | (simp; omega)))) (HS.out.below (by repeat (first | with_reducible (first | exact bA .. | assumption | exact bJ .. | exact bK .. | exact bL .. | exact bM .. | exact bN .. | refine bB ?_ | refine bC ?_ _ | refine bD _ _ ?_ | refine bE _ ?_ | refine bF ?_ ?_ _ | refine bG ?_ ?_ _ | refine bH _ _ _ ?_ ?_) | omega | (simp; done) | (simp; omega))))).mono ?_; rintro e w2 hT; obtain ⟨X0, hX0, A5, c5, A6, c6, rfl, ho5, ho6, hb⟩ := packW (P := fun X => TrIs ⟨z, l, ss⟩ X e w2) hT; have HO5 := Lib.hid ho5; have HO6 := Lib.hid ho6; clear ho5 ho6 hT; have HB2 := Lib.hid hb; clear hb))
  have hwX : Below w.heap.size w X0 := by rw [hX0.out]; exact (by repeat (first | with_reducible (first | exact bA .. | assumption | exact bJ .. | exact bK .. | exact bL .. | exact bM .. | exact bN .. | refine bB ?_ | refine bC ?_ _ | refine bD _ _ ?_ | refine bE _ ?_ | refine bF ?_ ?_ _ | refine bG ?_ ?_ _ | refine bH _ _ _ ?_ ?_) | omega | (simp; done) | (simp; omega)))
  have hXs : w.heap.size + 1 + 1 < X0.heap.size := by rw [hX0.out]; simp; omega
  have q21 : X0.cell? ⟨w.heap.size, 1, none⟩ = some (.slice A l.length c) := by rw [hX0.out]; go_simp
  have q30 : X0.cell? ⟨w.heap.size + 1, 0, none⟩ = some (.int .i64 xz) := by rw [hX0.out]; go_simp
  have q31 : X0.cell? ⟨w.heap.size + 1, 1, none⟩ = some (.int .i64 3) := by rw [hX0.out]; go_simp
  have q32 : X0.cell? ⟨w.heap.size + 1, 2, none⟩ = some (.int .i64 xs) := by rw [hX0.out]; go_simp
  have q33 : X0.cell? ⟨w.heap.size + 1, 3, none⟩ = some (.string xp) := by rw [hX0.out]; go_simp
  have q34 : X0.cell? ⟨w.heap.size + 1, 4, none⟩ = some (.string xd) := by rw [hX0.out]; go_simp
  have q35 : X0.cell? ⟨w.heap.size + 1, 5, none⟩ = some (.int .i64 xv) := by rw [hX0.out]; go_simp
  have q36 : X0.cell? ⟨w.heap.size + 1, 6, none⟩ = some (.int .i64 xw) := by rw [hX0.out]; go_simp
  have q40 : X0.cell? ⟨w.heap.size + 1 + 1, 0, none⟩ = some (.int .i64 0) := by rw [hX0.out]; go_simp
  have q41 : X0.cell? ⟨w.heap.size + 1 + 1, 1, none⟩ = some (.slice none 0 0) := by rw [hX0.out]; go_simp
  have q42 : X0.cell? ⟨w.heap.size + 1 + 1, 2, none⟩ = some (.slice none 0 0) := by rw [hX0.out]; go_simp
  have r40 : X0.frozen? ⟨w.heap.size + 1 + 1, 0, none⟩ = false := by rw [hX0.out]; go_simp
  have r41 : X0.frozen? ⟨w.heap.size + 1 + 1, 1, none⟩ = false := by rw [hX0.out]; go_simp
  have r42 : X0.frozen? ⟨w.heap.size + 1 + 1, 2, none⟩ = false := by rw [hX0.out]; go_simp
  refine gen_w (fun W1 hW1 => ?_)
  have hb1 : Below X0.heap.size X0 W1 := by rw [hW1.out]; exact below_alloc0 _ HB2.out
  have H1 := Lib.hid (show Hand W1 X0.heap.size w2.heap.size ⟨z, l, ss⟩ [] (.slice A5 l.length c5) (.slice A6 ss.length c6) (.slice none 0 0) by
    rw [hW1.out]
    exact ⟨Bk.new w2 _ _ rfl, HO5.out.alloc _, HO6.out.alloc _, Ow.nil _ _ _ _ _, own_lt HO5.out (Nat.le_refl _), own_lt HO6.out (Nat.le_refl _), (by simp [Value.ownBlock]), own_types HO5.out HO6.out (by decide), (fun _ _ => by simp [Value.ownBlock]), (fun _ _ => by simp [Value.ownBlock]), HB2.out.size⟩)
  clear hW1 HO5 HO6 HB2 hX0 HWR HCP
  generalize w2.heap.size = b at *
  clear w2
  obtain ⟨b0, b1, b2, b3, bf1, bf2, bf3, bf0, blt⟩ := H1.out.cells
  have y0 := (hb1.cell (p := ⟨w.heap.size + 1, 0, none⟩) (by simp only; omega)).trans q30
  go_upto_region 6 with fail
  refine gen_w (fun W3 hW3 => ?_)
  have hb3 : Below X0.heap.size X0 W3 := by rw [hW3.out]; exact Below.set_up hb1 H1.out.base
  have H3 := Lib.hid (show Hand W3 X0.heap.size b ⟨xz, l, ss⟩ [] _ _ _ from hW3.out ▸ H1.out.number)
  clear hW3 H1 hb1 y0 b0 b1 b2 b3 bf1 bf2 bf3 bf0 blt
  have y0 := (hb3.cell (p := ⟨w.heap.size + 1, 0, none⟩) (by simp only; omega)).trans q30
  have y1 := (hb3.cell (p := ⟨w.heap.size + 1, 1, none⟩) (by simp only; omega)).trans q31
  have y2 := (hb3.cell (p := ⟨w.heap.size + 1, 2, none⟩) (by simp only; omega)).trans q32
  have y3 := (hb3.cell (p := ⟨w.heap.size + 1, 3, none⟩) (by simp only; omega)).trans q33
  have y4 := (hb3.cell (p := ⟨w.heap.size + 1, 4, none⟩) (by simp only; omega)).trans q34
  have y5 := (hb3.cell (p := ⟨w.heap.size + 1, 5, none⟩) (by simp only; omega)).trans q35
  have y6 := (hb3.cell (p := ⟨w.heap.size + 1, 6, none⟩) (by simp only; omega)).trans q36
  have hBW : X0.heap.size ≤ W3.heap.size := hb3.size
  obtain ⟨l1, l2, l3, l4, l5⟩ := lacks_inv (wi3 trivial)
  simp only at l1 l5
  have hbd : ∀ n ∈ l, -4000000000 ≤ n.kids ∧ n.kids ≤ 4000000000 ∧ -4000000000 ≤ n.cversion ∧ n.cversion ≤ 4000000000 := fun n hn => by
    have a := HGW.out.kids n hn
    have b := HGW.out.stat n hn
    have c := HGF.out n hn
    have d : l.countP (kidB n.path) ≤ 400 := Nat.le_trans List.countP_le_length hl4
    omega
  go_upto_region 28 with (go_at_call 25; (with_reducible refine (handCreate xz l ss [] ⟨xz, 3, xs, xp, xd, xv, xw⟩ _ _ _ W3 X0.heap.size b H3.out hBW l1 hp (by omega) (by simp) hbd).mono ?_); rintro e w4 ⟨nv4, sv4, vv4, rfl, hh4, hb4⟩; have HH4 := Lib.hid hh4; clear hh4; rw [List.nil_append] at HH4)
  refine gen_w (fun W5 hW5 => ?_)
  have hb5 : Below X0.heap.size X0 W5 := by rw [hW5.out]; exact hb3.trans hb4
  have H5 := HH4
  rw [← hW5.out] at H5
  clear hW5 HH4 hb4 hb3 H3 y0 y1 y2 y3 y4 y5 y6 hbd
  obtain ⟨d1, d2, d3⟩ := doN_3 (t := ⟨z, l, ss⟩) (x := ⟨xz, 3, xs, xp, xd, xv, xw⟩) rfl
  simp only at d1 d2 d3
  obtain ⟨L, hLL⟩ : ∃ L, L = makeN l ⟨xz, 3, xs, xp, xd, xv, xw⟩ := ⟨_, rfl⟩
  obtain ⟨S, hSS⟩ : ∃ S, S = ss := ⟨_, rfl⟩
  obtain ⟨V, hVV⟩ : ∃ V, V = makeV xp := ⟨_, rfl⟩
  have HL := Lib.hid (d1.trans hLL.symm)
  have HS7 := Lib.hid (d2.trans hSS.symm)
  have HV7 := Lib.hid (d3.trans hVV.symm)
  have HNO1 := HNO
  clear HNO
  have HNO := Lib.hid (fun (w' : World) (hf : fullB L = true) (hb : Below w.heap.size w w') => HNO1.out w' (by rw [HL.out]; exact hf) hb)
  have hL7 : L.length ≤ 140737488355328 := by rw [← HL.out]; exact Nat.le_trans HLEN.out (by decide)
  rw [← hLL, ← hSS, ← hVV] at H5
  clear hLL hSS hVV d1 d2 d3 HNO1
  obtain ⟨nv5, sv5, vv5, H5⟩ := exHand H5
  obtain ⟨A7, c7, rfl, h7, h7b, _⟩ := H5.out.nodes.form
  obtain ⟨A8, c8, rfl, h8, h8b, _⟩ := H5.out.sess.form
  obtain ⟨A9, c9, rfl, h9, h9b, _⟩ := H5.out.evs.form
  have y40 := (hb5.cell (p := ⟨w.heap.size + 1 + 1, 0, none⟩) (by simp only; omega)).trans q40
  have y41 := (hb5.cell (p := ⟨w.heap.size + 1 + 1, 1, none⟩) (by simp only; omega)).trans q41
  have y42 := (hb5.cell (p := ⟨w.heap.size + 1 + 1, 2, none⟩) (by simp only; omega)).trans q42
  have z40 := (hb5.frozen (p := ⟨w.heap.size + 1 + 1, 0, none⟩) (by simp only; omega)).trans r40
  have z41 := (hb5.frozen (p := ⟨w.heap.size + 1 + 1, 1, none⟩) (by simp only; omega)).trans r41
  have z42 := (hb5.frozen (p := ⟨w.heap.size + 1 + 1, 2, none⟩) (by simp only; omega)).trans r42
  obtain ⟨b0, b1, b2, b3, bf1, bf2, bf3, bf0, blt⟩ := H5.out.cells
  have hwb : w.heap.size + 1 + 1 < b := Nat.lt_of_lt_of_le hXs H5.out.base
  have hw5 : w.heap.size + 1 + 1 < W5.heap.size := by omega
  have hwW : Below w.heap.size w W5 := hwX.trans (hb5.mono (by omega))
  have HFU := Lib.hid (fun (W : World) (h : Below W5.heap.size W5 W) => trFull _ _ W (H5.out.nodes.sl.below h) hL7)
  cases hf : fullB L with
  | true =>
    rw [hf] at HFU
    have HNO2 := Lib.hid (fun (w' : World) (hb : Below w.heap.size w w') => HNO.out w' hf hb)
    clear hf HYES
    go_wp2_with ((go_at_call 27; refine (HFU.out _ (by repeat (first | with_reducible (first | exact bA .. | assumption | exact bJ .. | exact bK .. | exact bL .. | exact bM .. | exact bN .. | refine bB ?_ | refine bC ?_ _ | refine bD _ _ ?_ | refine bE _ ?_ | refine bF ?_ ?_ _ | refine bG ?_ ?_ _ | refine bH _ _ _ ?_ ?_) | omega | (simp; done) | (simp; omega)))).mono ?_; rintro e w1 ⟨rfl, hb⟩; obtain ⟨ext1, d1, rfl⟩ := Below.grown_eq _ hb; clear hb))
    refine gen_e (fun WF hWF => ?_)
    have hBF : Below w.heap.size w WF := by rw [hWF.out]; exact (by repeat (first | with_reducible (first | exact bA .. | assumption | exact bJ .. | exact bK .. | exact bL .. | exact bM .. | exact bN .. | refine bB ?_ | refine bC ?_ _ | refine bD _ _ ?_ | refine bE _ ?_ | refine bF ?_ ?_ _ | refine bG ?_ ?_ _ | refine bH _ _ _ ?_ ?_) | omega | (simp; done) | (simp; omega)))
    obtain ⟨s0, s1, s2⟩ := set3_cells y40 y41 y42 (v0 := .int .i64 0) (v1 := .slice none 0 0) (v2 := .slice none 0 0)
    have f0 : WF.cell? ⟨w.heap.size + 1 + 1, 0, none⟩ = some (.int .i64 0) := by rw [hWF.out]; exact grow_at s0
    have f1 : WF.cell? ⟨w.heap.size + 1 + 1, 1, none⟩ = some (.slice none 0 0) := by rw [hWF.out]; exact grow_at s1
    have f2 : WF.cell? ⟨w.heap.size + 1 + 1, 2, none⟩ = some (.slice none 0 0) := by rw [hWF.out]; exact grow_at s2
    clear hWF s0 s1 s2
    refine bodyPost_ret (v := .tuple #[.agg #[.int .i64 0, .slice none 0 0, .slice none 0 0], .slice none 0 0, .int .i64 6]) (by simp [results, Tryz.results13, go_sem, f0, f1, f2]) rfl (HNO2.out _ hBF)
  | false =>
    rw [hf] at HFU
    have HYES2 := Lib.hid (fun (w' : World) (hn : Ow cNode 9 68 w' X0.heap.size (.slice A7 (L).length c7) (L)) (hs : Ow cInt 1 3 w' X0.heap.size (.slice A8 (S).length c8) (S)) (hv : Ow cEvent 2 84 w' X0.heap.size (.slice A9 (V).length c9) (V)) (hb : Below w.heap.size w w') => HYES.out W5 w' b _ _ _ _ _ _ _ hf HL.out HS7.out HV7.out H5.out (by omega) hn hs hv hb)
    clear hf HYES HNO
    go_upto_region 30 with ((go_at_call 27; refine (HFU.out _ (by repeat (first | with_reducible (first | exact bA .. | assumption | exact bJ .. | exact bK .. | exact bL .. | exact bM .. | exact bN .. | refine bB ?_ | refine bC ?_ _ | refine bD _ _ ?_ | refine bE _ ?_ | refine bF ?_ ?_ _ | refine bG ?_ ?_ _ | refine bH _ _ _ ?_ ?_) | omega | (simp; done) | (simp; omega)))).mono ?_; rintro e w1 ⟨rfl, hb⟩; obtain ⟨ext1, d1, rfl⟩ := Below.grown_eq _ hb; clear hb))
    refine wp_region_noPanic ?_
    refine wp_region_W (by kernel_rfl) (fun W hW => ?_)
    have cl0 : W.cell? ⟨b, 0, none⟩ = some (.int .i64 xz) := by rw [hW.out]; go_simp
    have cl1 : W.cell? ⟨b, 1, none⟩ = some (.slice A7 L.length c7) := by rw [hW.out]; go_simp
    have cl2 : W.cell? ⟨b, 2, none⟩ = some (.slice A8 S.length c8) := by rw [hW.out]; go_simp
    have cl3 : W.cell? ⟨b, 3, none⟩ = some (.slice A9 V.length c9) := by rw [hW.out]; go_simp
    have fz0 : W.frozen? ⟨w.heap.size + 1 + 1, 0, none⟩ = false := by rw [hW.out]; go_simp
    have fz1 : W.frozen? ⟨w.heap.size + 1 + 1, 1, none⟩ = false := by rw [hW.out]; go_simp
    have fz2 : W.frozen? ⟨w.heap.size + 1 + 1, 2, none⟩ = false := by rw [hW.out]; go_simp
    have g40 : W.cell? ⟨w.heap.size + 1 + 1, 0, none⟩ = some (.int .i64 0) := by rw [hW.out]; go_simp
    have g41 : W.cell? ⟨w.heap.size + 1 + 1, 1, none⟩ = some (.slice none 0 0) := by rw [hW.out]; go_simp
    have g42 : W.cell? ⟨w.heap.size + 1 + 1, 2, none⟩ = some (.slice none 0 0) := by rw [hW.out]; go_simp
    have hWs : w.heap.size + 1 + 1 < W.heap.size := by rw [hW.out]; simp; omega
    have hWW5 : Below W5.heap.size W5 W := by rw [hW.out]; exact (by repeat (first | with_reducible (first | exact bA .. | assumption | exact bJ .. | exact bK .. | exact bL .. | exact bM .. | exact bN .. | refine bB ?_ | refine bC ?_ _ | refine bD _ _ ?_ | refine bE _ ?_ | refine bF ?_ ?_ _ | refine bG ?_ ?_ _ | refine bH _ _ _ ?_ ?_) | omega | (simp; done) | (simp; omega)))
    refine wpAny_S (fun w' => w'.cell? ⟨b, 0, none⟩ = some (.int .i64 xz) ∧ w'.cell? ⟨b, 1, none⟩ = some (.slice A7 L.length c7) ∧ w'.cell? ⟨b, 2, none⟩ = some (.slice A8 S.length c8) ∧ w'.cell? ⟨b, 3, none⟩ = some (.slice A9 V.length c9)) (fun i => false) (by (try dsimp only); (refine ⟨?_, ?_, ?_, ?_⟩ <;> go_simp)) (fun hHeld => ?_)
    (refine wpE_takeP (i := 0) (v := ?gV1_1) (by simp only [zD]; rfl) (by kernel_rfl) (by kernel_rfl) (by kernel_rfl) (by rfl) (fun _ _ _ h => h) (Or.inl ⟨by rfl, ?gY1_1⟩) (by assumption) ?gR1_1; case gY1_1 => (intro w hSw; (try dsimp only at hSw); go_simp <;> with_reducible rfl))
    try simp only [Act.put, zA, zB, zC]
    (refine wpE_takeP (i := 1) (v := ?gV1_2) (by simp only [zD]; rfl) (by kernel_rfl) (by kernel_rfl) (by kernel_rfl) (by rfl) (fun _ _ _ h => h) (Or.inl ⟨by rfl, ?gY1_2⟩) (by assumption) ?gR1_2; case gY1_2 => (intro w hSw; (try dsimp only at hSw); go_simp <;> with_reducible rfl))
    try simp only [Act.put, zA, zB, zC]
    (refine wpE_takeP (i := 2) (v := ?gV1_3) (by simp only [zD]; rfl) (by kernel_rfl) (by kernel_rfl) (by kernel_rfl) (by rfl) (fun _ _ _ h => h) (Or.inl ⟨by rfl, ?gY1_3⟩) (by assumption) ?gR1_3; case gY1_3 => (intro w hSw; (try dsimp only at hSw); go_simp <;> with_reducible rfl))
    try simp only [Act.put, zA, zB, zC]
    (refine wpE_take (i := 3) (v := ?gV1_4) (by simp only [zD]; rfl) (by kernel_rfl) (by kernel_rfl) (by kernel_rfl) (by kernel_rfl) (by kernel_rfl) (by rfl) (fun _ _ _ h => h) (Or.inl ⟨by rfl, ?gY1_4⟩) (by assumption) ?gR1_4; case gY1_4 => (intro w hSw; (try dsimp only at hSw); go_simp <;> with_reducible rfl))
    try simp only [Act.put, zA, zB, zC]
    (refine wpE_takeP (i := 4) (v := ?gV1_5) (by simp only [zD]; rfl) (by kernel_rfl) (by kernel_rfl) (by kernel_rfl) (by rfl) (fun _ _ _ h => h) (Or.inl ⟨by rfl, ?gY1_5⟩) (by assumption) ?gR1_5; case gY1_5 => (intro w hSw; (try dsimp only at hSw); go_simp <;> with_reducible rfl))
    try simp only [Act.put, zA, zB, zC]
    (refine wpE_takeP (i := 5) (v := ?gV1_6) (by simp only [zD]; rfl) (by kernel_rfl) (by kernel_rfl) (by kernel_rfl) (by rfl) (fun _ _ _ h => h) (Or.inl ⟨by rfl, ?gY1_6⟩) (by assumption) ?gR1_6; case gY1_6 => (intro w hSw; (try dsimp only at hSw); go_simp <;> with_reducible rfl))
    try simp only [Act.put, zA, zB, zC]
    (refine wpE_takeP (i := 6) (v := ?gV1_7) (by simp only [zD]; rfl) (by kernel_rfl) (by kernel_rfl) (by kernel_rfl) (by rfl) (fun _ _ _ h => h) (Or.inl ⟨by rfl, ?gY1_7⟩) (by assumption) ?gR1_7; case gY1_7 => (intro w hSw; (try dsimp only at hSw); go_simp <;> with_reducible rfl))
    try simp only [Act.put, zA, zB, zC]
    (refine wpE_take (i := 7) (v := ?gV1_8) (by simp only [zD]; rfl) (by kernel_rfl) (by kernel_rfl) (by kernel_rfl) (by kernel_rfl) (by kernel_rfl) (by rfl) (fun _ _ _ h => h) (Or.inl ⟨by rfl, ?gY1_8⟩) (by assumption) ?gR1_8; case gY1_8 => (intro w hSw; (try dsimp only at hSw); go_simp <;> with_reducible rfl))
    try simp only [Act.put, zA, zB, zC]
    refine wpE_ready (rs := [8]) (by kernel_rfl) (by simp) ?_
    refine AllE.cons (by simp only [zD]; rfl) (fun K hK => ?_) AllE.nil
    go_simp
    refine hK.out _ _ ?gT1_9 (fun hHeld => ?_)
    case gT1_9 => ((try dsimp only); (refine ⟨?_, ?_, ?_, ?_⟩ <;> go_simp))
    clear hK K
    try simp only [Act.put, zA, zB, zC]
    (refine wpE_takeP (i := 9) (v := ?gV1_10) (by simp only [zD]; rfl) (by kernel_rfl) (by kernel_rfl) (by kernel_rfl) (by rfl) (fun _ _ _ h => h) (Or.inl ⟨by rfl, ?gY1_10⟩) (by assumption) ?gR1_10; case gY1_10 => (intro w hSw; (try dsimp only at hSw); go_simp <;> with_reducible rfl))
    try simp only [Act.put, zA, zB, zC]
    (refine wpE_takeP (i := 10) (v := ?gV1_11) (by simp only [zD]; rfl) (by kernel_rfl) (by kernel_rfl) (by kernel_rfl) (by rfl) (fun _ _ _ h => h) (Or.inl ⟨by rfl, ?gY1_11⟩) (by assumption) ?gR1_11; case gY1_11 => (intro w hSw; (try dsimp only at hSw); go_simp <;> with_reducible rfl))
    try simp only [Act.put, zA, zB, zC]
    refine wpE_done (by kernel_rfl) ?_ _
    refine NoPanic.normal ?_
    refine gen_e (fun WF hWF => ?_)
    obtain ⟨s0, s1, s2⟩ := set3_cells g40 g41 g42 (v0 := .int .i64 xz) (v1 := .slice A7 L.length c7) (v2 := .slice A8 S.length c8)
    have f0 : WF.cell? ⟨w.heap.size + 1 + 1, 0, none⟩ = some (.int .i64 xz) := by rw [hWF.out]; exact s0
    have f1 : WF.cell? ⟨w.heap.size + 1 + 1, 1, none⟩ = some (.slice A7 L.length c7) := by rw [hWF.out]; exact s1
    have f2 : WF.cell? ⟨w.heap.size + 1 + 1, 2, none⟩ = some (.slice A8 S.length c8) := by rw [hWF.out]; exact s2
    have hBF : Below w.heap.size w WF := by rw [hWF.out]; exact (((Below.own hwW hWW5).setCell (by simp only; omega) _).setCell (by simp only; omega) _).setCell (by simp only; omega) _
    have HNF : Hid (Ow cNode 9 68 WF X0.heap.size (.slice A7 L.length c7) L) := Lib.hid (by rw [hWF.out]; exact (H5.out.nodes.below hWW5).set_low hXs _ _ _)
    have HSF : Hid (Ow cInt 1 3 WF X0.heap.size (.slice A8 S.length c8) S) := Lib.hid (by rw [hWF.out]; exact (H5.out.sess.below hWW5).set_low hXs _ _ _)
    have HVF : Hid (Ow cEvent 2 84 WF X0.heap.size (.slice A9 V.length c9) V) := Lib.hid (by rw [hWF.out]; exact (H5.out.evs.below hWW5).set_low hXs _ _ _)
    clear hWF s0 s1 s2
    go_wp2_with fail
    refine bodyPost_ret (v := .tuple #[.agg #[.int .i64 xz, .slice A7 L.length c7, .slice A8 S.length c8], .slice A9 V.length c9, .int .i64 0]) (by simp [results, Tryz.results13, go_sem, f0, f1, f2]) rfl (HYES2.out _ HNF.out HSF.out HVF.out hBF)
end Go.Proofs.YtchgpijfebilbaaGreatDoor
