/- Lemmas for the statement: Hand, Lacks, TreeK, BsI, Cnt, TreeG, TreeH, TreeGo. -/
import Derived.Maps.OwnOps
import Derived.Maps.OwnSet
import Derived.Maps.Views
import Derived.StringKeys
import Derived.Deep.CutRange
import Derived.Test.YtchgpijfebilbaaGreatDoorPt1
import Derived.Test.YtchgpijfebilbaaGreatDoorPt2
import Derived.Test.YtchgpijfebilbaaGreatDoorPt3
import Derived.Test.YtchgpijfebilbaaGreatDoorPt4
import Derived.Test.YtchgpijfebilbaaGreatDoorPt5
import Derived.Test.YtchgpijfebilbaaGreatDoorPt6
import Derived.Test.YtchgpijfebilbaaGreatDoorPt7
/- The hand of package tree: a tree that is its own, in a block, and its rows. -/
namespace Go.Proofs.YtchgpijfebilbaaGreatDoor
open Go.RowKit Go.ChangeShapes Go.WideShapes Go.ChangeAt
theorem Bk.far {w : World} {g g2 j : Nat} {cs : List Value} {t : TypeId} {v : Value} (h : Bk w g cs t) (hne : g ≠ g2) : Bk (w.setCell ⟨g2, j, none⟩ v) g cs t := h.grown (grownBy_setCell w g2 j v) (by simpa using hne)
section
variable {α : Type} {f : α → List Value} {s : Nat} {e : TypeId} {w : World} {B : Nat} {v : Value} {l : List α}
theorem Ow.far2 (h : Ow f s e w B v l) {g j : Nat} {u : Value} (hne : v.ownBlock ≠ some g) : Ow f s e (w.setCell ⟨g, j, none⟩ u) B v l := h.kept (grownBy_setCell w g j u) (.inr hne)
theorem flatMap_set1 {x x' : α} {j : Nat} {u : Value} (J : List Value) (hj : j < s) (hx' : f x' = (f x).set j u) : ∀ (l : List α) (k : Nat), (∀ x ∈ l, (f x).length = s) → l[k]? = some x → (l.flatMap f ++ J).set (k * s + j) u = (l.set k x').flatMap f ++ J
  | [], k, _, h => by simp at h
  | y :: l, 0, hf, h => by
    simp at h
    subst h
    have hy := hf y (by simp)
    rw [Nat.zero_mul, Nat.zero_add, List.flatMap_cons, List.append_assoc, List.set_append_left _ _ (by omega), List.set_cons_zero, List.flatMap_cons, hx', List.append_assoc]
  | y :: l, k + 1, hf, h => by
    have hy := hf y (by simp)
    have ih := flatMap_set1 J hj hx' l k (fun x hx => hf x (by simp [hx])) (by simpa using h)
    rw [List.flatMap_cons, List.append_assoc, List.set_append_right _ _ (by rw [hy, Nat.succ_mul]; omega), hy, show (k + 1) * s + j - s = k * s + j from by rw [Nat.succ_mul]; omega, ih, List.set_cons_succ, List.flatMap_cons, List.append_assoc]
theorem Ow.cell1 {g n c : Nat} (h : Ow f s e w B (.slice (some ⟨g, 0, none⟩) n c) l) {k j o : Nat} {x x' : α} {u : Value} (hx : l[k]? = some x) (hj : j < s) (ho : o = k * s + j) (hx' : f x' = (f x).set j u) :
    Ow f s e (w.setCell ⟨g, o, none⟩ u) B (.slice (some ⟨g, 0, none⟩) n c) (l.set k x') := by
  subst ho
  have hk := (List.getElem?_eq_some_iff.1 hx).1
  have hnl : n = l.length := by obtain ⟨_, _, h, _⟩ := h.form; injection h
  obtain ⟨g', J, hg, hB, hb, hl, hn, hc, _⟩ := h.blk (by omega)
  injection hg with hg
  injection hg with hg
  subst hg
  have hset := flatMap_set1 J hj hx' l k h.2 hx
  have hlen : (l.set k x').length = n := by rw [List.length_set, hnl]
  have hff : ∀ y ∈ l.set k x', (f y).length = s := by
    intro y hy
    rcases List.mem_or_eq_of_mem_set hy with h' | rfl
    · exact h.2 y h'
    · rw [hx', List.length_set]
      exact h.2 x (List.mem_of_getElem? hx)
  have := Ow.of_blk (J := J) hff hB (hb.put (k * s + j) u) hset (by rw [List.length_set]; exact hl) (by omega) hc
  rw [hlen] at this
  exact this
end
theorem Ow.at_cell {α : Type} {f : α → List Value} {s : Nat} {e : TypeId} {w : World} {B g n c : Nat} {l : List α} (h : Ow f s e w B (.slice (some ⟨g, 0, none⟩) n c) l) {k j o : Nat} {x : α} {u : Value} (hx : l[k]? = some x) (hu : (f x)[j]? = some u) (ho : o = k * s + j) : w.cell? ⟨g, o, none⟩ = some u ∧ w.frozen? ⟨g, o, none⟩ = false := by
  subst ho
  have hk := (List.getElem?_eq_some_iff.1 hx).1
  have hnl : n = l.length := by obtain ⟨_, _, h, _⟩ := h.form; injection h
  obtain ⟨g', J, hg, hB, hb, hl, hn, hc, _⟩ := h.blk (by omega)
  injection hg with hg
  injection hg with hg
  subst hg
  refine ⟨?_, hb.frozen _⟩
  rw [hb.cell]
  have h1 := flatMap_get h.2 hx hu
  rw [List.getElem?_append_left (List.getElem?_eq_some_iff.1 h1).1]
  exact h1
abbrev txnV (t : Txn) : Value := .agg #[.int .i64 t.zxid, .int .i64 t.op, .int .i64 t.session, .string t.path, .string t.data, .int .i64 t.version, .int .i64 t.owner]
structure Hand (w : World) (B b : Nat) (t : Tr) (ev : List Event) (nv sv vv : Value) : Prop where
  bk : Bk w b [.int .i64 t.zxid, nv, sv, vv] 75
  nodes : Ow cNode 9 68 w B nv t.nodes
  sess : Ow cInt 1 3 w B sv t.sess
  evs : Ow cEvent 2 84 w B vv ev
  nb : nv.ownBlock ≠ some b
  sb : sv.ownBlock ≠ some b
  vb : vv.ownBlock ≠ some b
  ns : ∀ q, nv.ownBlock = some q → sv.ownBlock ≠ some q
  nv : ∀ q, nv.ownBlock = some q → vv.ownBlock ≠ some q
  sv : ∀ q, sv.ownBlock = some q → vv.ownBlock ≠ some q
  base : B ≤ b
theorem Hand.below {w w' : World} {B b : Nat} {t : Tr} {ev : List Event} {nv sv vv : Value} (h : Hand w B b t ev nv sv vv) (hb : Below w.heap.size w w') : Hand w' B b t ev nv sv vv :=
  ⟨h.bk.below hb, h.nodes.below hb, h.sess.below hb, h.evs.below hb, h.nb, h.sb, h.vb, h.ns, h.nv, h.sv, h.base⟩
theorem Hand.cells {w : World} {B b : Nat} {t : Tr} {ev : List Event} {nv sv vv : Value} (h : Hand w B b t ev nv sv vv) :
    w.cell? ⟨b, 0, none⟩ = some (.int .i64 t.zxid) ∧ w.cell? ⟨b, 1, none⟩ = some nv ∧ w.cell? ⟨b, 2, none⟩ = some sv ∧ w.cell? ⟨b, 3, none⟩ = some vv ∧ w.frozen? ⟨b, 1, none⟩ = false ∧ w.frozen? ⟨b, 2, none⟩ = false ∧ w.frozen? ⟨b, 3, none⟩ = false ∧ w.frozen? ⟨b, 0, none⟩ = false ∧ b < w.heap.size :=
  ⟨h.bk.cell 0, h.bk.cell 1, h.bk.cell 2, h.bk.cell 3, h.bk.frozen 1, h.bk.frozen 2, h.bk.frozen 3, h.bk.frozen 0, h.bk.lt⟩
theorem Hand.put {w : World} {B b g n c : Nat} {z : Int} {l : List Node} {ss : List Int} {ev : List Event} {sv vv : Value} (h : Hand w B b ⟨z, l, ss⟩ ev (.slice (some ⟨g, 0, none⟩) n c) sv vv) {k j o : Nat} {x x' : Node} {u : Value} (hx : l[k]? = some x) (hj : j < 9) (ho : o = k * 9 + j) (hx' : cNode x' = (cNode x).set j u) :
    Hand (w.setCell ⟨g, o, none⟩ u) B b ⟨z, l.set k x', ss⟩ ev (.slice (some ⟨g, 0, none⟩) n c) sv vv := by
  have hg : (Value.slice (some ⟨g, 0, none⟩) n c).ownBlock = some g := rfl
  exact ⟨h.bk.far (fun e => h.nb (by rw [hg, e])), h.nodes.cell1 hx hj ho hx', h.sess.far2 (h.ns g hg), h.evs.far2 (h.nv g hg), h.nb, h.sb, h.vb, h.ns, h.nv, h.sv, h.base⟩
theorem Hand.events {w w1 : World} {B b : Nat} {t : Tr} {ev ev' : List Event} {nv sv vv vv' : Value} (h : Hand w B b t ev nv sv vv) (hg : w.grownBy w1 vv.ownBlock) (ho : Ow cEvent 2 84 w1 B vv' ev') (ha : vv'.ownBlock = vv.ownBlock ∨ ∃ q, vv'.ownBlock = some q ∧ w.heap.size ≤ q) :
    Hand (w1.setCell ⟨b, 3, none⟩ vv') B b t ev' nv sv vv' := by
  have hb1 : Bk w1 b [.int .i64 t.zxid, nv, sv, vv] 75 := h.bk.grown hg (fun e => h.vb e.symm)
  have hlt := h.bk.lt
  have hvb : vv'.ownBlock ≠ some b := by
    rcases ha with e | ⟨q, e, hq⟩
    · rw [e]; exact h.vb
    · rw [e]; intro e2; injection e2 with e2; omega
  refine ⟨by simpa using hb1.put 3 vv', (h.nodes.kept hg ?_).far2 h.nb, (h.sess.kept hg ?_).far2 h.sb, ho.far2 hvb, h.nb, h.sb, hvb, h.ns, fun q hq => ?_, fun q hq => ?_, h.base⟩
  · cases hn : nv.ownBlock with
    | none => exact .inl rfl
    | some q => exact .inr (fun e => h.nv q hn e.symm)
  · cases hn : sv.ownBlock with
    | none => exact .inl rfl
    | some q => exact .inr (fun e => h.sv q hn e.symm)
  · rcases ha with e | ⟨r, e, hr⟩
    · rw [e]; exact h.nv q hq
    · have := (h.nodes.lt q hq)
      rw [e]; intro e2; injection e2 with e2; omega
  · rcases ha with e | ⟨r, e, hr⟩
    · rw [e]; exact h.sv q hq
    · have := (h.sess.lt q hq)
      rw [e]; intro e2; injection e2 with e2; omega
theorem Hand.rows {w w1 : World} {B b : Nat} {z : Int} {l l' : List Node} {ss : List Int} {ev : List Event} {nv sv vv nv' : Value} (h : Hand w B b ⟨z, l, ss⟩ ev nv sv vv) (hg : w.grownBy w1 nv.ownBlock) (ho : Ow cNode 9 68 w1 B nv' l') (ha : nv'.ownBlock = nv.ownBlock ∨ ∃ q, nv'.ownBlock = some q ∧ w.heap.size ≤ q) :
    Hand (w1.setCell ⟨b, 1, none⟩ nv') B b ⟨z, l', ss⟩ ev nv' sv vv := by
  have hb1 : Bk w1 b [.int .i64 z, nv, sv, vv] 75 := h.bk.grown hg (fun e => h.nb e.symm)
  have hlt := h.bk.lt
  have hvb : nv'.ownBlock ≠ some b := by
    rcases ha with e | ⟨q, e, hq⟩
    · rw [e]; exact h.nb
    · rw [e]; intro e2; injection e2 with e2; omega
  refine ⟨by simpa using hb1.put 1 nv', ho.far2 hvb, (h.sess.kept hg ?_).far2 h.sb, (h.evs.kept hg ?_).far2 h.vb, hvb, h.sb, h.vb, fun q hq => ?_, fun q hq => ?_, h.sv, h.base⟩
  · cases hn : sv.ownBlock with
    | none => exact .inl rfl
    | some q => exact .inr (fun e => h.ns q e.symm hn)
  · cases hn : vv.ownBlock with
    | none => exact .inl rfl
    | some q => exact .inr (fun e => h.nv q e.symm hn)
  · rcases ha with e | ⟨r, e, hr⟩
    · rw [e] at hq; exact h.ns q hq
    · intro e2
      have := (h.sess.lt q e2)
      rw [e] at hq; injection hq with hq; omega
  · rcases ha with e | ⟨r, e, hr⟩
    · rw [e] at hq; exact h.nv q hq
    · intro e2
      have := (h.evs.lt q e2)
      rw [e] at hq; injection hq with hq; omega
theorem Hand.sessions {w w1 : World} {B b : Nat} {z : Int} {l : List Node} {ss ss' : List Int} {ev : List Event} {nv sv vv sv' : Value} (h : Hand w B b ⟨z, l, ss⟩ ev nv sv vv) (hg : w.grownBy w1 sv.ownBlock) (ho : Ow cInt 1 3 w1 B sv' ss') (ha : sv'.ownBlock = sv.ownBlock ∨ ∃ q, sv'.ownBlock = some q ∧ w.heap.size ≤ q) :
    Hand (w1.setCell ⟨b, 2, none⟩ sv') B b ⟨z, l, ss'⟩ ev nv sv' vv := by
  have hb1 : Bk w1 b [.int .i64 z, nv, sv, vv] 75 := h.bk.grown hg (fun e => h.sb e.symm)
  have hlt := h.bk.lt
  have hvb : sv'.ownBlock ≠ some b := by
    rcases ha with e | ⟨q, e, hq⟩
    · rw [e]; exact h.sb
    · rw [e]; intro e2; injection e2 with e2; omega
  refine ⟨by simpa using hb1.put 2 sv', (h.nodes.kept hg ?_).far2 h.nb, ho.far2 hvb, (h.evs.kept hg ?_).far2 h.vb, h.nb, hvb, h.vb, fun q hq => ?_, h.nv, fun q hq => ?_, h.base⟩
  · cases hn : nv.ownBlock with
    | none => exact .inl rfl
    | some q => exact .inr (fun e => h.ns q hn e.symm)
  · cases hn : vv.ownBlock with
    | none => exact .inl rfl
    | some q => exact .inr (fun e => h.sv q e.symm hn)
  · rcases ha with e | ⟨r, e, hr⟩
    · rw [e]; exact h.ns q hq
    · have := (h.nodes.lt q hq)
      rw [e]; intro e2; injection e2 with e2; omega
  · rcases ha with e | ⟨r, e, hr⟩
    · rw [e] at hq; exact h.sv q hq
    · intro e2
      have := (h.evs.lt q e2)
      rw [e] at hq; injection hq with hq; omega
theorem Below.set_up {B : Nat} {w w1 : World} {g o : Nat} {v : Value} (h : Below B w w1) (hg : B ≤ g) : Below B w (w1.setCell ⟨g, o, none⟩ v) := h.setCell hg v
theorem Below.grown_up {B : Nat} {w w1 w2 : World} {row : Option Nat} (h : Below B w w1) (hB : B ≤ w1.heap.size) (hg : w1.grownBy w2 row) (hr : ∀ q, row = some q → B ≤ q) : Below B w w2 := by
  obtain ⟨g1, g2, g3, g4, g5⟩ := hg
  refine h.trans ⟨g1, g2, g3, g4, fun k hk => g5 k (by omega) ?_⟩
  cases row with
  | none => simp
  | some q => have := hr q rfl; simp; omega
theorem hand_push {w W X w2 : World} {B b : Nat} {t : Tr} {ev ev' : List Event} {nv sv vv v2 : Value} (HH : Hand W B b t ev nv sv vv) (HB : Below B w W) (hX : Below W.heap.size W X) (hown2 : Ow cEvent 2 84 w2 B v2 ev') (hg2 : X.grownBy w2 vv.ownBlock) (ha : v2.ownBlock = vv.ownBlock ∨ v2.ownBlock = some X.heap.size) :
    Hand (w2.setCell ⟨b, 3, none⟩ v2) B b t ev' nv sv v2 ∧ Below B w (w2.setCell ⟨b, 3, none⟩ v2) ∧ w2.cell? ⟨b, 3, none⟩ = some vv ∧ w2.frozen? ⟨b, 3, none⟩ = false ∧ b < w2.heap.size := by
  have hbl := HH.bk.lt
  have hbB := HH.base
  have hXs := hX.size
  have hk : Bk w2 b [.int .i64 t.zxid, nv, sv, vv] 75 := (HH.bk.below hX).grown hg2 (fun e => HH.vb e.symm)
  refine ⟨(HH.below hX).events hg2 hown2 (ha.imp id (fun e => ⟨_, e, Nat.le_refl _⟩)), ?_, hk.cell 3, hk.frozen 3, hk.lt⟩
  exact Below.set_up (Below.grown_up (HB.trans (hX.mono (by omega))) (by omega) hg2 (fun q hq => ((HH.evs.below hX).own_in hq).1)) hbB
theorem hand_rows {w W X w2 : World} {B b : Nat} {z : Int} {l l' : List Node} {ss : List Int} {ev : List Event} {nv sv vv v2 : Value} (HH : Hand W B b ⟨z, l, ss⟩ ev nv sv vv) (HB : Below B w W) (hX : Below W.heap.size W X) (hown2 : Ow cNode 9 68 w2 B v2 l') (hg2 : X.grownBy w2 nv.ownBlock) (ha : v2.ownBlock = nv.ownBlock ∨ v2.ownBlock = some X.heap.size) :
    Hand (w2.setCell ⟨b, 1, none⟩ v2) B b ⟨z, l', ss⟩ ev v2 sv vv ∧ Below B w (w2.setCell ⟨b, 1, none⟩ v2) ∧ w2.cell? ⟨b, 1, none⟩ = some nv ∧ w2.frozen? ⟨b, 1, none⟩ = false ∧ b < w2.heap.size := by
  have hbl := HH.bk.lt
  have hbB := HH.base
  have hXs := hX.size
  have hk : Bk w2 b [.int .i64 z, nv, sv, vv] 75 := (HH.bk.below hX).grown hg2 (fun e => HH.nb e.symm)
  refine ⟨(HH.below hX).rows hg2 hown2 (ha.imp id (fun e => ⟨_, e, Nat.le_refl _⟩)), ?_, hk.cell 1, hk.frozen 1, hk.lt⟩
  exact Below.set_up (Below.grown_up (HB.trans (hX.mono (by omega))) (by omega) hg2 (fun q hq => ((HH.nodes.below hX).own_in hq).1)) hbB
theorem hand_sess {w W X w2 : World} {B b : Nat} {z : Int} {l : List Node} {ss ss' : List Int} {ev : List Event} {nv sv vv v2 : Value} (HH : Hand W B b ⟨z, l, ss⟩ ev nv sv vv) (HB : Below B w W) (hX : Below W.heap.size W X) (hown2 : Ow cInt 1 3 w2 B v2 ss') (hg2 : X.grownBy w2 sv.ownBlock) (ha : v2.ownBlock = sv.ownBlock ∨ v2.ownBlock = some X.heap.size) :
    Hand (w2.setCell ⟨b, 2, none⟩ v2) B b ⟨z, l, ss'⟩ ev nv v2 vv ∧ Below B w (w2.setCell ⟨b, 2, none⟩ v2) ∧ w2.cell? ⟨b, 2, none⟩ = some sv ∧ w2.frozen? ⟨b, 2, none⟩ = false ∧ b < w2.heap.size := by
  have hbl := HH.bk.lt
  have hbB := HH.base
  have hXs := hX.size
  have hk : Bk w2 b [.int .i64 z, nv, sv, vv] 75 := (HH.bk.below hX).grown hg2 (fun e => HH.sb e.symm)
  refine ⟨(HH.below hX).sessions hg2 hown2 (ha.imp id (fun e => ⟨_, e, Nat.le_refl _⟩)), ?_, hk.cell 2, hk.frozen 2, hk.lt⟩
  exact Below.set_up (Below.grown_up (HB.trans (hX.mono (by omega))) (by omega) hg2 (fun q hq => ((HH.sess.below hX).own_in hq).1)) hbB
end Go.Proofs.YtchgpijfebilbaaGreatDoor

/- package tree: lacks. -/
namespace Go.Proofs.YtchgpijfebilbaaGreatDoor
open Go.RowKit Go.ChangeShapes Go.WideShapes Go.ChangeAt
def lacksX (l : List Node) (x : Txn) (th : Int) : Int := if th = 0 then 8 else if hasN l (parent x.path) then (if (getN l (parent x.path)).owner ≠ 0 then 11 else if x.owner ≠ 0 ∧ x.owner ≠ x.session then 12 else if 400 ≤ l.length then 6 else 0) else 7
theorem lacks_is (t : Tr) (x : Txn) : lacksX t.nodes x (getE t.nodes x.path) = lacksE t x := by
  unfold lacksX lacksE getE
  cases hasN t.nodes x.path <;> rfl
set_option maxRecDepth 100000 in
set_option maxHeartbeats 4000000 in
theorem trLacks (z : Int) (v v2 : Value) (l : List Node) (ss : List Int) (x : Txn) (th : Int) (w : World) (h : Sl cNode 9 w v l) (h2 : Sl cInt 1 w v2 ss) (hn : l.length ≤ 140737488355328) (hp : x.path.size ≤ 9223372036854775807) :
    Calls Tryz.prog 45 #[.agg #[.int .i64 z, v, v2], txnV x, .int .i64 th] w fun e w' => e = .returned (.int .i64 (lacksX l x th)) ∧ Below w.heap.size w w' := by
  obtain ⟨A, c, rfl, h1, h1b⟩ := h.form
  obtain ⟨A2, c2, rfl, h3, h3b⟩ := h2.form
  have HV := Lib.hid h
  have HSP := Lib.hid (fun (W : World) => split_any x.path W hp)
  have HGT := Lib.hid (fun (W : World) (h : Sl cNode 9 W (.slice A l.length c) l) => trGet z (.slice A l.length c) A2 ss.length c2 l (splitR x.path).1 W h hn)
  unfold lacksX parent
  obtain ⟨xz, xo, xs, xp, xd, xv, xw⟩ := x
  simp only at *
  generalize splitR xp = sp at *
  obtain ⟨sd, st, se⟩ := sp
  simp only at *
  clear h h2
  unfold getE at HGT
  generalize getN l sd = g at *
  obtain ⟨gp, gd, g1, g2, g3, g4, g5, go, gk⟩ := g
  simp only at *
  by_cases a1 : th = 0
  · rw [if_pos a1]
    subst a1
    cases hk : hasN l sd
    all_goals rw [hk] at HGT
    all_goals simp only [if_true, Bool.false_eq_true, if_false] at HGT
    all_goals clear hk
    case false =>
      go_enter Tryz.func45, Tryz.ntmps45
      go_wp2_with (first | (go_at_call 60; refine (HSP.out _).mono ?_; rintro e w1 ⟨rfl, hb⟩; obtain ⟨ext1, d1, rfl⟩ := Below.grown_eq _ hb; clear hb) | (go_at_call 44; refine (HGT.out _ (HV.out.below (by repeat (first | with_reducible (first | exact bA .. | assumption | exact bJ .. | exact bK .. | exact bL .. | exact bM .. | exact bN .. | refine bB ?_ | refine bC ?_ _ | refine bD _ _ ?_ | refine bE _ ?_ | refine bF ?_ ?_ _ | refine bG ?_ ?_ _ | refine bH _ _ _ ?_ ?_) | omega | (simp; done) | (simp; omega))))).mono ?_; rintro e w1 ⟨rfl, hb⟩; obtain ⟨ext2, d2, rfl⟩ := Below.grown_eq _ hb; clear hb))
      go_ret
      exact ⟨rfl, (by repeat (first | with_reducible (first | exact bA .. | assumption | exact bJ .. | exact bK .. | exact bL .. | exact bM .. | exact bN .. | refine bB ?_ | refine bC ?_ _ | refine bD _ _ ?_ | refine bE _ ?_ | refine bF ?_ ?_ _ | refine bG ?_ ?_ _ | refine bH _ _ _ ?_ ?_) | omega | (simp; done) | (simp; omega)))⟩
    case true =>
      go_enter Tryz.func45, Tryz.ntmps45
      go_wp2_with (first | (go_at_call 60; refine (HSP.out _).mono ?_; rintro e w1 ⟨rfl, hb⟩; obtain ⟨ext1, d1, rfl⟩ := Below.grown_eq _ hb; clear hb) | (go_at_call 44; refine (HGT.out _ (HV.out.below (by repeat (first | with_reducible (first | exact bA .. | assumption | exact bJ .. | exact bK .. | exact bL .. | exact bM .. | exact bN .. | refine bB ?_ | refine bC ?_ _ | refine bD _ _ ?_ | refine bE _ ?_ | refine bF ?_ ?_ _ | refine bG ?_ ?_ _ | refine bH _ _ _ ?_ ?_) | omega | (simp; done) | (simp; omega))))).mono ?_; rintro e w1 ⟨rfl, hb⟩; obtain ⟨ext2, d2, rfl⟩ := Below.grown_eq _ hb; clear hb))
      go_ret
      exact ⟨rfl, (by repeat (first | with_reducible (first | exact bA .. | assumption | exact bJ .. | exact bK .. | exact bL .. | exact bM .. | exact bN .. | refine bB ?_ | refine bC ?_ _ | refine bD _ _ ?_ | refine bE _ ?_ | refine bF ?_ ?_ _ | refine bG ?_ ?_ _ | refine bH _ _ _ ?_ ?_) | omega | (simp; done) | (simp; omega)))⟩
  · rw [if_neg a1]
    have q1 : (th == 0) = false := beq_eq_false_iff_ne.2 a1
    cases hk : hasN l sd with
    | false =>
      rw [hk] at HGT
      simp only [Bool.false_eq_true, if_false] at HGT ⊢
      clear hk
      go_enter Tryz.func45, Tryz.ntmps45
      go_wp2_with (first | (go_at_call 60; refine (HSP.out _).mono ?_; rintro e w1 ⟨rfl, hb⟩; obtain ⟨ext1, d1, rfl⟩ := Below.grown_eq _ hb; clear hb) | (go_at_call 44; refine (HGT.out _ (HV.out.below (by repeat (first | with_reducible (first | exact bA .. | assumption | exact bJ .. | exact bK .. | exact bL .. | exact bM .. | exact bN .. | refine bB ?_ | refine bC ?_ _ | refine bD _ _ ?_ | refine bE _ ?_ | refine bF ?_ ?_ _ | refine bG ?_ ?_ _ | refine bH _ _ _ ?_ ?_) | omega | (simp; done) | (simp; omega))))).mono ?_; rintro e w1 ⟨rfl, hb⟩; obtain ⟨ext2, d2, rfl⟩ := Below.grown_eq _ hb; clear hb))
      go_ret
      exact ⟨rfl, (by repeat (first | with_reducible (first | exact bA .. | assumption | exact bJ .. | exact bK .. | exact bL .. | exact bM .. | exact bN .. | refine bB ?_ | refine bC ?_ _ | refine bD _ _ ?_ | refine bE _ ?_ | refine bF ?_ ?_ _ | refine bG ?_ ?_ _ | refine bH _ _ _ ?_ ?_) | omega | (simp; done) | (simp; omega)))⟩
    | true =>
      rw [hk] at HGT
      simp only [if_true] at HGT ⊢
      clear hk
      by_cases a2 : go = 0
      · subst a2
        rw [if_neg (by simp)]
        by_cases a3 : xw = 0
        · subst a3
          rw [if_neg (by simp)]
          by_cases a4 : 400 ≤ l.length
          · rw [if_pos a4]
            have q4 : decide ((400 : Int) ≤ (l.length : Int)) = true := decide_eq_true (by omega)
            go_enter Tryz.func45, Tryz.ntmps45
            go_wp2_with (first | (go_at_call 60; refine (HSP.out _).mono ?_; rintro e w1 ⟨rfl, hb⟩; obtain ⟨ext1, d1, rfl⟩ := Below.grown_eq _ hb; clear hb) | (go_at_call 44; refine (HGT.out _ (HV.out.below (by repeat (first | with_reducible (first | exact bA .. | assumption | exact bJ .. | exact bK .. | exact bL .. | exact bM .. | exact bN .. | refine bB ?_ | refine bC ?_ _ | refine bD _ _ ?_ | refine bE _ ?_ | refine bF ?_ ?_ _ | refine bG ?_ ?_ _ | refine bH _ _ _ ?_ ?_) | omega | (simp; done) | (simp; omega))))).mono ?_; rintro e w1 ⟨rfl, hb⟩; obtain ⟨ext2, d2, rfl⟩ := Below.grown_eq _ hb; clear hb))
            go_ret
            exact ⟨rfl, (by repeat (first | with_reducible (first | exact bA .. | assumption | exact bJ .. | exact bK .. | exact bL .. | exact bM .. | exact bN .. | refine bB ?_ | refine bC ?_ _ | refine bD _ _ ?_ | refine bE _ ?_ | refine bF ?_ ?_ _ | refine bG ?_ ?_ _ | refine bH _ _ _ ?_ ?_) | omega | (simp; done) | (simp; omega)))⟩
          · rw [if_neg a4]
            have q4 : decide ((400 : Int) ≤ (l.length : Int)) = false := decide_eq_false (by omega)
            go_enter Tryz.func45, Tryz.ntmps45
            go_wp2_with (first | (go_at_call 60; refine (HSP.out _).mono ?_; rintro e w1 ⟨rfl, hb⟩; obtain ⟨ext1, d1, rfl⟩ := Below.grown_eq _ hb; clear hb) | (go_at_call 44; refine (HGT.out _ (HV.out.below (by repeat (first | with_reducible (first | exact bA .. | assumption | exact bJ .. | exact bK .. | exact bL .. | exact bM .. | exact bN .. | refine bB ?_ | refine bC ?_ _ | refine bD _ _ ?_ | refine bE _ ?_ | refine bF ?_ ?_ _ | refine bG ?_ ?_ _ | refine bH _ _ _ ?_ ?_) | omega | (simp; done) | (simp; omega))))).mono ?_; rintro e w1 ⟨rfl, hb⟩; obtain ⟨ext2, d2, rfl⟩ := Below.grown_eq _ hb; clear hb))
            go_ret
            exact ⟨rfl, (by repeat (first | with_reducible (first | exact bA .. | assumption | exact bJ .. | exact bK .. | exact bL .. | exact bM .. | exact bN .. | refine bB ?_ | refine bC ?_ _ | refine bD _ _ ?_ | refine bE _ ?_ | refine bF ?_ ?_ _ | refine bG ?_ ?_ _ | refine bH _ _ _ ?_ ?_) | omega | (simp; done) | (simp; omega)))⟩
        · have q3 : (xw == 0) = false := beq_eq_false_iff_ne.2 a3
          by_cases a5 : xw = xs
          · subst a5
            rw [if_neg (by simp)]
            by_cases a4 : 400 ≤ l.length
            · rw [if_pos a4]
              have q4 : decide ((400 : Int) ≤ (l.length : Int)) = true := decide_eq_true (by omega)
              go_enter Tryz.func45, Tryz.ntmps45
              go_wp2_with (first | (go_at_call 60; refine (HSP.out _).mono ?_; rintro e w1 ⟨rfl, hb⟩; obtain ⟨ext1, d1, rfl⟩ := Below.grown_eq _ hb; clear hb) | (go_at_call 44; refine (HGT.out _ (HV.out.below (by repeat (first | with_reducible (first | exact bA .. | assumption | exact bJ .. | exact bK .. | exact bL .. | exact bM .. | exact bN .. | refine bB ?_ | refine bC ?_ _ | refine bD _ _ ?_ | refine bE _ ?_ | refine bF ?_ ?_ _ | refine bG ?_ ?_ _ | refine bH _ _ _ ?_ ?_) | omega | (simp; done) | (simp; omega))))).mono ?_; rintro e w1 ⟨rfl, hb⟩; obtain ⟨ext2, d2, rfl⟩ := Below.grown_eq _ hb; clear hb))
              go_ret
              exact ⟨rfl, (by repeat (first | with_reducible (first | exact bA .. | assumption | exact bJ .. | exact bK .. | exact bL .. | exact bM .. | exact bN .. | refine bB ?_ | refine bC ?_ _ | refine bD _ _ ?_ | refine bE _ ?_ | refine bF ?_ ?_ _ | refine bG ?_ ?_ _ | refine bH _ _ _ ?_ ?_) | omega | (simp; done) | (simp; omega)))⟩
            · rw [if_neg a4]
              have q4 : decide ((400 : Int) ≤ (l.length : Int)) = false := decide_eq_false (by omega)
              go_enter Tryz.func45, Tryz.ntmps45
              go_wp2_with (first | (go_at_call 60; refine (HSP.out _).mono ?_; rintro e w1 ⟨rfl, hb⟩; obtain ⟨ext1, d1, rfl⟩ := Below.grown_eq _ hb; clear hb) | (go_at_call 44; refine (HGT.out _ (HV.out.below (by repeat (first | with_reducible (first | exact bA .. | assumption | exact bJ .. | exact bK .. | exact bL .. | exact bM .. | exact bN .. | refine bB ?_ | refine bC ?_ _ | refine bD _ _ ?_ | refine bE _ ?_ | refine bF ?_ ?_ _ | refine bG ?_ ?_ _ | refine bH _ _ _ ?_ ?_) | omega | (simp; done) | (simp; omega))))).mono ?_; rintro e w1 ⟨rfl, hb⟩; obtain ⟨ext2, d2, rfl⟩ := Below.grown_eq _ hb; clear hb))
              go_ret
              exact ⟨rfl, (by repeat (first | with_reducible (first | exact bA .. | assumption | exact bJ .. | exact bK .. | exact bL .. | exact bM .. | exact bN .. | refine bB ?_ | refine bC ?_ _ | refine bD _ _ ?_ | refine bE _ ?_ | refine bF ?_ ?_ _ | refine bG ?_ ?_ _ | refine bH _ _ _ ?_ ?_) | omega | (simp; done) | (simp; omega)))⟩
          · have q5 : (xw == xs) = false := beq_eq_false_iff_ne.2 a5
            rw [if_pos ⟨a3, a5⟩]
            have q3b : (xw != 0) = true := bne_iff_ne.2 a3
            have q5b : (xw != xs) = true := bne_iff_ne.2 a5
            go_enter Tryz.func45, Tryz.ntmps45
            go_wp2_with (first | (go_at_call 60; refine (HSP.out _).mono ?_; rintro e w1 ⟨rfl, hb⟩; obtain ⟨ext1, d1, rfl⟩ := Below.grown_eq _ hb; clear hb) | (go_at_call 44; refine (HGT.out _ (HV.out.below (by repeat (first | with_reducible (first | exact bA .. | assumption | exact bJ .. | exact bK .. | exact bL .. | exact bM .. | exact bN .. | refine bB ?_ | refine bC ?_ _ | refine bD _ _ ?_ | refine bE _ ?_ | refine bF ?_ ?_ _ | refine bG ?_ ?_ _ | refine bH _ _ _ ?_ ?_) | omega | (simp; done) | (simp; omega))))).mono ?_; rintro e w1 ⟨rfl, hb⟩; obtain ⟨ext2, d2, rfl⟩ := Below.grown_eq _ hb; clear hb))
            go_ret
            exact ⟨rfl, (by repeat (first | with_reducible (first | exact bA .. | assumption | exact bJ .. | exact bK .. | exact bL .. | exact bM .. | exact bN .. | refine bB ?_ | refine bC ?_ _ | refine bD _ _ ?_ | refine bE _ ?_ | refine bF ?_ ?_ _ | refine bG ?_ ?_ _ | refine bH _ _ _ ?_ ?_) | omega | (simp; done) | (simp; omega)))⟩
      · rw [if_pos a2]
        have q2 : (go == 0) = false := beq_eq_false_iff_ne.2 a2
        go_enter Tryz.func45, Tryz.ntmps45
        go_wp2_with (first | (go_at_call 60; refine (HSP.out _).mono ?_; rintro e w1 ⟨rfl, hb⟩; obtain ⟨ext1, d1, rfl⟩ := Below.grown_eq _ hb; clear hb) | (go_at_call 44; refine (HGT.out _ (HV.out.below (by repeat (first | with_reducible (first | exact bA .. | assumption | exact bJ .. | exact bK .. | exact bL .. | exact bM .. | exact bN .. | refine bB ?_ | refine bC ?_ _ | refine bD _ _ ?_ | refine bE _ ?_ | refine bF ?_ ?_ _ | refine bG ?_ ?_ _ | refine bH _ _ _ ?_ ?_) | omega | (simp; done) | (simp; omega))))).mono ?_; rintro e w1 ⟨rfl, hb⟩; obtain ⟨ext2, d2, rfl⟩ := Below.grown_eq _ hb; clear hb))
        go_ret
        exact ⟨rfl, (by repeat (first | with_reducible (first | exact bA .. | assumption | exact bJ .. | exact bK .. | exact bL .. | exact bM .. | exact bN .. | refine bB ?_ | refine bC ?_ _ | refine bD _ _ ?_ | refine bE _ ?_ | refine bF ?_ ?_ _ | refine bG ?_ ?_ _ | refine bH _ _ _ ?_ ?_) | omega | (simp; done) | (simp; omega)))⟩
end Go.Proofs.YtchgpijfebilbaaGreatDoor

/- package tree: Kids. -/
namespace Go.Proofs.YtchgpijfebilbaaGreatDoor
open Go.RowKit Go.ChangeShapes Go.WideShapes Go.ChangeAt
end Go.Proofs.YtchgpijfebilbaaGreatDoor

/- slices.BinarySearch at []int. -/
namespace Go.Proofs.YtchgpijfebilbaaGreatDoor
open Go.RowKit
theorem Sl.Int_at {w : World} {A : Option Addr} {n c : Nat} {l : List Int} (h : Sl cInt 1 w (.slice A n c) l) {i : Nat} {x : Int} (hx : l[i]? = some x) : ∃ b off, A = some ⟨b, off, none⟩ ∧ b < w.heap.size ∧ w.cell? ⟨b, off + i, none⟩ = some (.int .i64 x) := by
  obtain ⟨b, off, hA, hb, hc⟩ := h.at_ hx
  have := hc 0 (.int .i64 x) rfl
  rw [show off + i * 1 + 0 = off + i from by omega] at this
  exact ⟨b, off, hA, hb, this⟩
set_option maxHeartbeats 1000000 in
theorem bsI (v : Value) (l : List Int) (s : Int) (w : World) (h : Sl cInt 1 w v l) (hn : l.length ≤ 140737488355328) :
    Calls Tryz.prog 21 #[v, .int .i64 s] w fun e w' => e = .returned (.tuple #[.int .i64 (posI l s), .bool (isI l s)]) ∧ Below w.heap.size w w' := by
  obtain ⟨A, c, rfl, hc1, hc2⟩ := h.form
  have H := Lib.hid h
  clear h
  go_enter Tryz.func21, Tryz.ntmps21
  go_wp2
  go_loopw [7, 8] (fun i j wr => ∃ (a b : Nat), a ≤ b ∧ b ≤ l.length ∧ i = .int .i64 a ∧ j = .int .i64 b ∧ Hid (bsr (ltI l s) a b = posI l s) ∧ Below w.heap.size w wr) (fun i j _ => (intOf j - intOf i).toNat)
  case atStart => exact ⟨0, l.length, Nat.zero_le _, Nat.le_refl _, rfl, rfl, (rfl : bsr (ltI l s) 0 l.length = posI l s), Below.refl _ _⟩
  case round =>
    obtain ⟨a, b, hab, hbl, rfl, rfl, hr, hb⟩ := hrel
    by_cases hlt : a < b
    · have hx : l[(a + b) / 2]? = some (l[(a + b) / 2]'(by omega)) := List.getElem?_eq_getElem _
      obtain ⟨bk, off, rfl, hbw, c0⟩ := (H.out.below hb).Int_at hx
      generalize hxe : l[(a + b) / 2]'(by omega) = x at hx c0
      have HX := Lib.hid hx
      clear hx hxe
      by_cases hlt2 : x < s
      · have hd : decide (x < s) = true := decide_eq_true hlt2
        go_wp2_with (go_at_call 48; refine (Tryz.cmp_Less_int2 _ _ _).mono ?_; rintro e w1 ⟨rfl, rfl⟩; skip)
        have hcmp := ltI_of HX.out s
        go_roundw
        case rel => exact ⟨(a + b) / 2 + 1, b, by omega, by omega, by go_num, rfl, Eq.trans (bsr_up _ _ _ hlt (by rw [hcmp]; exact hd)).symm hr.out, (by repeat (first | exact bA .. | assumption | refine bB ?_ | refine bC ?_ _ | refine bD _ _ ?_ | refine bE _ ?_ | refine bG ?_ (by first | omega | (simp; done) | (simp; omega)) _ | refine Below.setCell ?_ (by first | omega | (simp; done) | (simp; omega)) _ | refine Below.grow _ _ _ ?_ (by first | omega | (simp; done) | (simp; omega))))⟩
        case measure => simp [intOf]; omega
      · have hd : decide (x < s) = false := decide_eq_false hlt2
        go_wp2_with (go_at_call 48; refine (Tryz.cmp_Less_int2 _ _ _).mono ?_; rintro e w1 ⟨rfl, rfl⟩; skip)
        have hcmp := ltI_of HX.out s
        go_roundw
        case rel => exact ⟨a, (a + b) / 2, by omega, by omega, rfl, by go_num, Eq.trans (bsr_down _ _ _ hlt (by rw [hcmp]; exact hd)).symm hr.out, (by repeat (first | exact bA .. | assumption | refine bB ?_ | refine bC ?_ _ | refine bD _ _ ?_ | refine bE _ ?_ | refine bG ?_ (by first | omega | (simp; done) | (simp; omega)) _ | refine Below.setCell ?_ (by first | omega | (simp; done) | (simp; omega)) _ | refine Below.grow _ _ _ ?_ (by first | omega | (simp; done) | (simp; omega))))⟩
        case measure => simp [intOf]; omega
    · obtain rfl : a = b := by omega
      have hpos : posI l s = a := by rw [← hr.out]; exact bsr_end _ _ _ hlt
      have HP := Lib.hid hpos
      clear hpos hr
      by_cases han : a < l.length
      · have hx : l[a]? = some (l[a]'(by omega)) := List.getElem?_eq_getElem _
        obtain ⟨bk, off, rfl, hbw, c0⟩ := (H.out.below hb).Int_at hx
        generalize hxe : l[a]'(by omega) = x at hx c0
        have HX := Lib.hid hx
        clear hx hxe
        by_cases he : x = s
        · subst he
          go_wp2_with (go_at_call 49; refine (Tryz.slices_isNaN_int2 _ _).mono ?_; rintro e w1 ⟨rfl, rfl⟩; skip)
          go_ret2
          refine ⟨?_, (by repeat (first | exact bA .. | assumption | refine bB ?_ | refine bC ?_ _ | refine bD _ _ ?_ | refine bE _ ?_ | refine bG ?_ (by first | omega | (simp; done) | (simp; omega)) _ | refine Below.setCell ?_ (by first | omega | (simp; done) | (simp; omega)) _ | refine Below.grow _ _ _ ?_ (by first | omega | (simp; done) | (simp; omega))))⟩
          rw [isI_in HP.out HX.out, HP.out]
          simp
        · have hne : (x == s) = false := beq_eq_false_iff_ne.2 he
          go_wp2_with (go_at_call 49; refine (Tryz.slices_isNaN_int2 _ _).mono ?_; rintro e w1 ⟨rfl, rfl⟩; skip)
          go_ret2
          refine ⟨?_, (by repeat (first | exact bA .. | assumption | refine bB ?_ | refine bC ?_ _ | refine bD _ _ ?_ | refine bE _ ?_ | refine bG ?_ (by first | omega | (simp; done) | (simp; omega)) _ | refine Below.setCell ?_ (by first | omega | (simp; done) | (simp; omega)) _ | refine Below.grow _ _ _ ?_ (by first | omega | (simp; done) | (simp; omega))))⟩
          rw [isI_in HP.out HX.out, HP.out, decide_eq_false he]
          rfl
      · go_wp2
        go_ret2
        refine ⟨?_, (by repeat (first | exact bA .. | assumption | refine bB ?_ | refine bC ?_ _ | refine bD _ _ ?_ | refine bE _ ?_ | refine bG ?_ (by first | omega | (simp; done) | (simp; omega)) _ | refine Below.setCell ?_ (by first | omega | (simp; done) | (simp; omega)) _ | refine Below.grow _ _ _ ?_ (by first | omega | (simp; done) | (simp; omega))))⟩
        rw [isI_out HP.out han, HP.out]
        rfl
theorem trOpen (z : Int) (v2 : Value) (na : Option Addr) (nn nc : Nat) (l : List Int) (s : Int) (w : World) (h : Sl cInt 1 w v2 l) (hn : l.length ≤ 140737488355328) :
    Calls Tryz.prog 43 #[.agg #[.int .i64 z, .slice na nn nc, v2], .int .i64 s] w fun e w' => e = .returned (.bool (isI l s)) ∧ Below w.heap.size w w' := by
  obtain ⟨A, c, rfl, h1, h2⟩ := h.form
  have H := Lib.hid h
  clear h
  go_enter Tryz.func43, Tryz.ntmps43
  go_wp2_with (go_at_call 21; refine (bsI _ _ _ _ (H.out.alloc _) hn).mono ?_; rintro e w1 ⟨rfl, hb⟩; obtain ⟨ext, d, rfl⟩ := Below.grown_eq _ hb)
  go_ret
  exact ⟨rfl, (by repeat (first | exact bA .. | assumption | refine bB ?_ | refine bC ?_ _ | refine bD _ _ ?_ | refine bE _ ?_ | refine bG ?_ (by first | omega | (simp; done) | (simp; omega)) _ | refine Below.setCell ?_ (by first | omega | (simp; done) | (simp; omega)) _ | refine Below.grow _ _ _ ?_ (by first | omega | (simp; done) | (simp; omega))))⟩
end Go.Proofs.YtchgpijfebilbaaGreatDoor

/- A map of counts, that is the function's own. -/
namespace Go.Proofs.YtchgpijfebilbaaGreatDoor
open Go.RowKit Go.Maps
def Cnt (w : World) (b n : Nat) (c : ByteArray → Int) : Prop := ∃ D : DataW Unit, w.ownsMap Tryz.prog 9 (plainElem Tryz.prog 3) b n D ∧ ∀ s : ByteArray, D.atKey (.string s.data.toList) (.lit (.int .i64 0)) = .lit (.int .i64 (c s))
theorem Cnt.made (w : World) : Cnt (w.alloc (.map #[] 0)) w.heap.size 0 (fun _ => 0) := ⟨.map [], World.ownsMap_made _ _ _ _, fun _ => rfl⟩
theorem Cnt.below {w w' : World} {b n : Nat} {c : ByteArray → Int} (h : Cnt w b n c) (hb : Below w.heap.size w w') : Cnt w' b n c := by
  obtain ⟨D, h, hc⟩ := h
  have hlt := h.lt
  obtain ⟨es, clock, h1, F, hs, hD⟩ := h
  exact ⟨D, ⟨es, clock, (hb.block b hlt).trans h1, F, hs, hD⟩, hc⟩
theorem wpList_cntget {w : World} {ops : Array Oper} {rest : List Oper} {o : Oper} {a : Act} {Q : Exit → Act → World → Prop} (hg : o.guard = none) (m x : Operand) (hop : o.op = Op.lookup 122 m x false) {b n : Nat} {c : ByteArray → Int}
    (hm : a.eval m = .map (some b)) (h : Cnt w b n c) (s : ByteArray) (hx : a.eval x = .string s) (hs : s.size ≤ maxLen) (hK : wpList Tryz.prog ops Q rest (a.put o.dst (.int .i64 (c s))) w) : wpList Tryz.prog ops Q (o :: rest) a w := by
  obtain ⟨D, ho, hc⟩ := h
  refine wpList_lookup_own_int w hg m x _ hop 9 3 .i64 (string_keyed Tryz.underlying9) Tryz.underlying122 Tryz.underlying3 (by kernel_rfl) b n D hm ho _ _ hx (Go.WideMaps.keyOf_string_mk Tryz.underlying9 hs) ?_
  intro q hq _
  have e := hq.symm.trans (hc s)
  injection e with e
  injection e with _ e
  subst e
  exact hK
theorem wpList_cntput {w : World} {ops : Array Oper} {rest : List Oper} {o : Oper} {a : Act} {Q : Exit → Act → World → Prop} (hg : o.guard = none) (m x v : Operand) (hop : o.op = Op.mapUpdate 122 m x v) {b n : Nat} {c : ByteArray → Int}
    (hm : a.eval m = .map (some b)) (h : Cnt w b n c) (hn : n < maxLen) (s : ByteArray) (hx : a.eval x = .string s) (hs : s.size ≤ maxLen) (q : Int) (hv : a.eval v = .int .i64 q) (hq : (Lit.int .i64 q).wf = true)
    (hK : ∀ w', Cnt w' b (n + 1) (fun z => if z = s then q else c z) → w.grownBy w' (some b) → wpList Tryz.prog ops Q rest (a.put o.dst undef) w') : wpList Tryz.prog ops Q (o :: rest) a w := by
  obtain ⟨D, ho, hc⟩ := h
  refine wpList_mapUpdate_own w hg m x v _ hop 9 3 (string_keyed Tryz.underlying9) Tryz.underlying122 _ b n D hm ho hn _ _ _ hx hv (Go.WideMaps.keyOf_string_mk Tryz.underlying9 hs) _ [] (plainElem_int Tryz.underlying3 hq) ?_
  intro w' ho' hg'
  refine hK w' ⟨_, ho', fun z => ?_⟩ hg'
  show (D.put (.string s.data.toList) (.lit (.int .i64 q))).atKey (.string z.data.toList) (.lit (.int .i64 0)) = .lit (.int .i64 (if z = s then q else c z))
  by_cases hz : z = s
  · subst hz
    rw [if_pos rfl, atKey_put_same ho.isMap (by trivial)]
  · rw [if_neg hz, atKey_put_other (by intro e; injection e with e; exact hz (ByteArray.ext (Array.toList_inj.1 e)))]
    exact hc z
end Go.Proofs.YtchgpijfebilbaaGreatDoor

/- package tree: Good. -/
namespace Go.Proofs.YtchgpijfebilbaaGreatDoor
open Go.RowKit Go.ChangeShapes Go.WideShapes Go.ChangeAt
abbrev sessB (t : Tr) : Bool := (List.range t.sess.length).all (okS t.sess)
abbrev nodesB (t : Tr) : Bool := (List.range t.nodes.length).all (okN t)
abbrev kidsB (t : Tr) : Bool := t.nodes.all (fun n => decide (n.kids = ((t.nodes.countP (kidB n.path) : Nat) : Int)))
theorem good_sess {t : Tr} (h : sessB t = false) : goodTree t = false := by unfold goodTree; rw [show (List.range t.sess.length).all (okS t.sess) = false from h, Bool.false_and, Bool.and_false]
theorem good_nodes {t : Tr} (h : nodesB t = false) : goodTree t = false := by unfold goodTree; rw [show (List.range t.nodes.length).all (okN t) = false from h, Bool.false_and, Bool.and_false, Bool.and_false]
theorem good_kids {t : Tr} (h : kidsB t = false) : goodTree t = false := by unfold goodTree; rw [show t.nodes.all (fun n => decide (n.kids = ((t.nodes.countP (kidB n.path) : Nat) : Int))) = false from h, Bool.and_false, Bool.and_false, Bool.and_false]
theorem good_all {t : Tr} (h1 : headB t = true) (h2 : sessB t = true) (h3 : nodesB t = true) (h4 : kidsB t = true) : goodTree t = true := by
  unfold goodTree
  rw [h1, show (List.range t.sess.length).all (okS t.sess) = true from h2, show (List.range t.nodes.length).all (okN t) = true from h3, show t.nodes.all (fun n => decide (n.kids = ((t.nodes.countP (kidB n.path) : Nat) : Int))) = true from h4]
  rfl
theorem all_no {n : Nat} {f : Nat → Bool} {k : Nat} (hk : k < n) (h : f k = false) : (List.range n).all f = false := by
  rw [Bool.eq_false_iff]
  intro ha
  rw [List.all_eq_true] at ha
  rw [ha k (List.mem_range.2 hk)] at h
  cases h
theorem all_yes {n : Nat} {f : Nat → Bool} (h : ∀ k, k < n → f k = true) : (List.range n).all f = true := List.all_eq_true.2 fun k hk => h k (List.mem_range.1 hk)
theorem countP_step {l : List Node} {k : Nat} {x : Node} (h : l[k]? = some x) (q : ByteArray) : (l.take (k + 1)).countP (kidB q) = (l.take k).countP (kidB q) + (if kidB q x then 1 else 0) := by
  rw [List.take_add_one, h]
  simp [List.countP_append, List.countP_cons]
theorem Cnt.mono {w : World} {b n m : Nat} {c : ByteArray → Int} (h : Cnt w b n c) (hn : n ≤ m) : Cnt w b m c := by
  obtain ⟨D, h, hc⟩ := h
  exact ⟨D, h.mono hn, hc⟩
theorem Cnt.lt {w : World} {b n : Nat} {c : ByteArray → Int} (h : Cnt w b n c) : b < w.heap.size := by
  obtain ⟨D, h, _⟩ := h
  exact h.lt
theorem Cnt.same {w : World} {b n : Nat} {c c' : ByteArray → Int} (h : Cnt w b n c) (hc : ∀ q, c' q = c q) : Cnt w b n c' := by
  rw [funext hc]
  exact h
theorem less_is (y : Node) (p : ByteArray) : Op.bytesLess y.path.toList p.toList = decide (cmpB y.path p < 0) := by
  rw [ByteArray.toList_eq, ByteArray.toList_eq, less_of_cb]
  rfl
theorem statB_q (z : Int) (xp xd : ByteArray) (xz xm xq xv xc xo xk : Int) : statB z ⟨xp, xd, xz, xm, xq, xv, xc, xo, xk⟩ =
    !(decide (xv < 0) || (decide (2147483647 < xv) || (decide (xc < 0) || (decide (2147483647 < xc) || (decide (xz < 0) || (decide (xm < xz) || (decide (xq < xz) || (decide (z < xm) || decide (z < xq))))))))) := by
  rw [Bool.eq_iff_iff]
  unfold statB
  simp only [decide_eq_true_eq, Bool.not_eq_true', Bool.or_eq_false_iff, decide_eq_false_iff_not]
  omega
theorem size_q (d : ByteArray) : decide (d.size ≤ 256) = !decide ((256 : Int) < (d.size : Int)) := by
  rw [Bool.eq_iff_iff]
  simp only [decide_eq_true_eq, Bool.not_eq_true', decide_eq_false_iff_not]
  omega
theorem ownB_q (ss : List Int) (xp xd : ByteArray) (xz xm xq xv xc xo xk : Int) : ownB ss ⟨xp, xd, xz, xm, xq, xv, xc, xo, xk⟩ = ((xo == 0) || (isI ss xo && (xk == 0))) := by
  unfold ownB
  rw [Bool.eq_iff_iff]
  simp
theorem gen_k {K : Act → World → Prop} {a : Act} {w : World} (h : ∀ W, Hid (W = w) → K a W) : K a w := h w (Lib.hid rfl)
theorem below_put {B b : Nat} {a X w2 : World} (h : Below B a X) (hB : B ≤ X.heap.size) (hb : B ≤ b) (hg : X.grownBy w2 (some b)) : Below B a w2 := by
  obtain ⟨g1, g2, g3, g4, g5⟩ := hg
  exact h.trans ⟨g1, g2, g3, g4, fun k hk => g5 k (by omega) (by simp; omega)⟩
theorem split_size (s : ByteArray) : (splitR s).1.size ≤ 200 := by
  unfold splitR
  by_cases h : goodP s = true
  · rw [if_pos h]
    have := (goodP_size h).2
    by_cases h2 : s = slash
    · rw [if_pos h2]
      show (0 : Nat) ≤ 200
      omega
    · rw [if_neg h2]
      by_cases h3 : lastP s = 0
      · rw [if_pos h3]
        show (1 : Nat) ≤ 200
        omega
      · rw [if_neg h3]
        show (s.extract 0 (lastP s)).size ≤ 200
        rw [ByteArray.size_extract]
        omega
  · rw [if_neg h]
    show (0 : Nat) ≤ 200
    omega
set_option maxRecDepth 100000 in
set_option maxHeartbeats 10000000 in
theorem trGood_head (z : Int) (v v2 : Value) (l : List Node) (ss : List Int) (w : World) (h : Sl cNode 9 w v l) (h2 : Sl cInt 1 w v2 ss) (hn : ss.length ≤ 140737488355328) (hh : headB ⟨z, l, ss⟩ = true) (hz : ∀ n ∈ l, n.path.size ≤ 9223372036854775807) :
    Calls Tryz.prog 29 #[.agg #[.int .i64 z, v, v2]] w fun e w' => e = .returned (.bool (goodTree ⟨z, l, ss⟩)) ∧ Below w.heap.size w w' := by
  obtain ⟨A, c, rfl, h1, h1b⟩ := h.form
  obtain ⟨A2, c2, rfl, h3, h3b⟩ := h2.form
  have H := Lib.hid h
  have H2 := Lib.hid h2
  have HG := Lib.hid (fun (W : World) (hz : Zx z) => zgood_yes z W hz)
  obtain ⟨hl4, hzx, n, hn0, hp, ho⟩ := head_inv hh
  have HF1 := Lib.hid (fun k (hk : k < ss.length) (h : okS ss k = false) => good_sess (t := ⟨z, l, ss⟩) (all_no hk h))
  have HF2 := Lib.hid (fun k (hk : k < l.length) (h : okN ⟨z, l, ss⟩ k = false) => good_nodes (t := ⟨z, l, ss⟩) (all_no hk h))
  have HF3 := Lib.hid (fun (h : kidsB ⟨z, l, ss⟩ = false) => good_kids (t := ⟨z, l, ss⟩) h)
  have HF4 := Lib.hid (fun (hs : ∀ k, k < ss.length → okS ss k = true) (hn : ∀ k, k < l.length → okN ⟨z, l, ss⟩ k = true) (hk : kidsB ⟨z, l, ss⟩ = true) => good_all hh (all_yes hs) (all_yes hn) hk)
  obtain ⟨bk, off, rfl, hbw, n0, n1, n2, n3, n4, n5, n6, n7, n8⟩ := h.Node_at hn0
  simp only [Nat.zero_mul, Nat.add_zero] at n0 n1 n2 n3 n4 n5 n6 n7 n8
  rw [hp] at n0
  rw [ho] at n7
  have hpp : (slash.toList == [47]) = true := by unfold slash; rw [ByteArray.toList_eq]; rfl
  have hm1 : 0 < l.length := (List.getElem?_eq_some_iff.1 hn0).1
  have hm0 : ((l.length : Int) == 0) = false := beq_eq_false_iff_ne.2 (by omega)
  have hm4 : decide ((400 : Int) < (l.length : Int)) = false := decide_eq_false (by omega)
  generalize goodTree ⟨z, l, ss⟩ = gt at *
  clear h h2 hh hn0 hp ho
  go_enter Tryz.func29, Tryz.ntmps29
  go_upto_region 3 with ((go_at_call 30; refine (HG.out _ hzx).mono ?_; rintro e w1 ⟨rfl, rfl⟩; skip))
  clear n0 n1 n2 n3 n4 n5 n6 n7 n8 HG
  go_wp2_with fail
  go_loopw [52] (fun i wr => ∃ k : Nat, k ≤ ss.length ∧ i = .int .i64 k ∧ Hid (∀ i, i < k → okS ss i = true) ∧ wr = w.alloc (.cells #[.int .i64 z, .slice (some ⟨bk, off, none⟩) l.length c, .slice A2 ss.length c2] 34)) (fun i _ => ss.length - (intOf i).toNat)
  case atStart => exact ⟨0, Nat.zero_le _, rfl, Lib.hid (fun i hi => absurd hi (Nat.not_lt_zero _)), rfl⟩
  case round =>
    obtain ⟨k, hk, rfl, hall, rfl⟩ := hrel
    by_cases hlt : k < ss.length
    · as_aux_lemma =>
      have hx : ss[k]? = some (ss[k]'hlt) := List.getElem?_eq_getElem _
      obtain ⟨b, o, rfl, hb, s0⟩ := (H2.out.below (w' := w.alloc (.cells #[.int .i64 z, .slice (some ⟨bk, off, none⟩) l.length c, .slice A2 ss.length c2] 34)) (by repeat (first | with_reducible (first | exact bA .. | assumption | exact bJ .. | exact bK .. | exact bL .. | exact bM .. | exact bN .. | refine bB ?_ | refine bC ?_ _ | refine bD _ _ ?_ | refine bE _ ?_ | refine bF ?_ ?_ _ | refine bG ?_ ?_ _ | refine bH _ _ _ ?_ ?_) | omega | (simp; done) | (simp; omega)))).Int_at hx
      generalize ss[k]'hlt = s at *
      by_cases g1 : s < 1
      · have hbad : gt = false := HF1.out k hlt (by
          cases k with
          | zero => rw [okS_0 hx, decide_eq_false (by omega)]; rfl
          | succ j => rw [okS_s hx (List.getElem?_eq_getElem (by omega)), decide_eq_false (by omega)]; rfl)
        have hd : decide (s < 1) = true := decide_eq_true g1
        subst hbad
        clear hx g1
        go_wp2_with fail
        go_ret
        exact ⟨rfl, (by repeat (first | with_reducible (first | exact bA .. | assumption | exact bJ .. | exact bK .. | exact bL .. | exact bM .. | exact bN .. | refine bB ?_ | refine bC ?_ _ | refine bD _ _ ?_ | refine bE _ ?_ | refine bF ?_ ?_ _ | refine bG ?_ ?_ _ | refine bH _ _ _ ?_ ?_) | omega | (simp; done) | (simp; omega)))⟩
      · have hd1 : decide (s < 1) = false := decide_eq_false g1
        by_cases g2 : 2147483647 < s
        · have hbad : gt = false := HF1.out k hlt (by
            cases k with
            | zero => rw [okS_0 hx, decide_eq_true (by omega), decide_eq_false (by omega)]; rfl
            | succ j => rw [okS_s hx (List.getElem?_eq_getElem (by omega)), decide_eq_true (by omega), decide_eq_false (by omega)]; rfl)
          have hd : decide (2147483647 < s) = true := decide_eq_true g2
          subst hbad
          clear hx g1 g2
          go_wp2_with fail
          go_ret
          exact ⟨rfl, (by repeat (first | with_reducible (first | exact bA .. | assumption | exact bJ .. | exact bK .. | exact bL .. | exact bM .. | exact bN .. | refine bB ?_ | refine bC ?_ _ | refine bD _ _ ?_ | refine bE _ ?_ | refine bF ?_ ?_ _ | refine bG ?_ ?_ _ | refine bH _ _ _ ?_ ?_) | omega | (simp; done) | (simp; omega)))⟩
        · have hd2 : decide (2147483647 < s) = false := decide_eq_false g2
          cases k with
          | zero =>
            have hok := okS_0 hx
            rw [decide_eq_true (by omega), decide_eq_true (by omega)] at hok
            have HOK := Lib.hid hok
            simp only [Nat.add_zero] at s0
            clear hx g1 g2 hok
            go_wp2_with fail
            go_roundw
            case rel => exact ⟨1, by omega, by go_num, Lib.hid (fun i hi => (by omega : i = 0) ▸ HOK.out), by first | rfl | trivial⟩
            case measure => simp [intOf]; omega
          | succ j =>
            have hy : ss[j]? = some (ss[j]'(by omega)) := List.getElem?_eq_getElem _
            obtain ⟨b', o', hA', _, s1⟩ := (H2.out.below (w' := w.alloc (.cells #[.int .i64 z, .slice (some ⟨bk, off, none⟩) l.length c, .slice (some ⟨b, o, none⟩) ss.length c2] 34)) (by repeat (first | with_reducible (first | exact bA .. | assumption | exact bJ .. | exact bK .. | exact bL .. | exact bM .. | exact bN .. | refine bB ?_ | refine bC ?_ _ | refine bD _ _ ?_ | refine bE _ ?_ | refine bF ?_ ?_ _ | refine bG ?_ ?_ _ | refine bH _ _ _ ?_ ?_) | omega | (simp; done) | (simp; omega)))).Int_at hy
            cases hA'
            generalize ss[j]'(by omega) = y at *
            have hok := okS_s hx hy
            rw [decide_eq_true (show 1 ≤ s by omega), decide_eq_true (show s ≤ 2147483647 by omega)] at hok
            have hwj : IntKind.i64.wrap ((j : Int) + 1 - 1) = (j : Int) := by unfold IntKind.wrap; simp [IntKind.signed, IntKind.bits]; omega
            have hjc : j < c2 := by omega
            have hj0 : decide (0 < (j : Int) + 1) = true := decide_eq_true (by omega)
            by_cases g3 : s ≤ y
            · have hbad : gt = false := HF1.out (j + 1) hlt (by rw [hok, decide_eq_false (by omega)]; rfl)
              have hd : decide (s ≤ y) = true := decide_eq_true g3
              subst hbad
              clear hx hy hok g1 g2 g3
              go_wp2_with fail
              go_ret
              exact ⟨rfl, (by repeat (first | with_reducible (first | exact bA .. | assumption | exact bJ .. | exact bK .. | exact bL .. | exact bM .. | exact bN .. | refine bB ?_ | refine bC ?_ _ | refine bD _ _ ?_ | refine bE _ ?_ | refine bF ?_ ?_ _ | refine bG ?_ ?_ _ | refine bH _ _ _ ?_ ?_) | omega | (simp; done) | (simp; omega)))⟩
            · have hd : decide (s ≤ y) = false := decide_eq_false g3
              rw [decide_eq_true (show y < s by omega)] at hok
              have HOK := Lib.hid hok
              clear hx hy hok g1 g2 g3
              go_wp2_with fail
              go_roundw
              case rel => exact ⟨j + 1 + 1, by omega, by go_num, Lib.hid (fun i hi => by
                rcases Nat.lt_or_ge i (j + 1) with h | h
                · exact hall.out i h
                · obtain rfl : i = j + 1 := by omega
                  rw [HOK.out]; rfl), by first | rfl | trivial⟩
              case measure => simp [intOf]; omega
    · have hkl : k = ss.length := by omega
      subst hkl
      clear hk hlt
      have hmm := @run_makeMap Tryz.prog
      go_upto_region 10 with fail
      refine gen_w (fun W1 hW1 => ?_)
      have hb1 : Below w.heap.size w W1 := by rw [hW1.out]; exact (by repeat (first | with_reducible (first | exact bA .. | assumption | exact bJ .. | exact bK .. | exact bL .. | exact bM .. | exact bN .. | refine bB ?_ | refine bC ?_ _ | refine bD _ _ ?_ | refine bE _ ?_ | refine bF ?_ ?_ _ | refine bG ?_ ?_ _ | refine bH _ _ _ ?_ ?_) | omega | (simp; done) | (simp; omega)))
      have kb0 : W1.cell? ⟨w.heap.size, 0, none⟩ = some (.int .i64 z) := by rw [hW1.out]; go_simp
      have kb1 : W1.cell? ⟨w.heap.size, 1, none⟩ = some (.slice (some ⟨bk, off, none⟩) l.length c) := by rw [hW1.out]; go_simp
      have kb2 : W1.cell? ⟨w.heap.size, 2, none⟩ = some (.slice A2 ss.length c2) := by rw [hW1.out]; go_simp
      have hsz1 : W1.heap.size = w.heap.size + 1 + 1 := by rw [hW1.out]; simp
      have HC1 : Hid (Cnt W1 (w.heap.size + 1) 0 (fun q => (((l.take 0).countP (kidB q) : Nat) : Int))) := Lib.hid (by rw [hW1.out]; have hq := Cnt.made (w.alloc (.cells #[.int .i64 z, .slice (some ⟨bk, off, none⟩) l.length c, .slice A2 ss.length c2] 34)); simpa using hq)
      clear hW1 hmm HF1
      go_wp2_with fail
      go_loopw [82] (fun i wr => ∃ k : Nat, k ≤ l.length ∧ i = .int .i64 k ∧ Hid (∀ i, i < k → okN ⟨z, l, ss⟩ i = true) ∧ Hid (Cnt wr (w.heap.size + 1) k (fun q => (((l.take k).countP (kidB q) : Nat) : Int))) ∧ Below (w.heap.size + 1) W1 wr) (fun i _ => l.length - (intOf i).toNat)
      case atStart => exact ⟨0, Nat.zero_le _, rfl, Lib.hid (fun i hi => absurd hi (Nat.not_lt_zero _)), HC1, Below.refl _ _⟩
      case round =>
        obtain ⟨k, hk, rfl, halln, hcn, hbx⟩ := hrel
        have hbwr : Below w.heap.size w wr := hb1.trans (hbx.mono (by omega))
        have kk0 := (hbx.cell (p := ⟨w.heap.size, 0, none⟩) (Nat.lt_succ_self _)).trans kb0
        have kk1 := (hbx.cell (p := ⟨w.heap.size, 1, none⟩) (Nat.lt_succ_self _)).trans kb1
        have kk2 := (hbx.cell (p := ⟨w.heap.size, 2, none⟩) (Nat.lt_succ_self _)).trans kb2
        have hmb := Cnt.lt hcn.out
        by_cases hlt : k < l.length
        · have hx : l[k]? = some (l[k]'hlt) := List.getElem?_eq_getElem _
          obtain ⟨bk', off', hA, _, c0, c1, c2', c3, c4, c5, c6, c7, c8⟩ := (H.out.below hbwr).Node_at hx
          cases hA
          have hmem := List.mem_of_getElem? hx
          have HPG := Lib.hid (fun (W : World) => good_any (l[k]'hlt).path W (hz _ hmem))
          have HSP := Lib.hid (fun (W : World) => split_any (l[k]'hlt).path W (hz _ hmem))
          have HOP := Lib.hid (fun (W : World) (h : Sl cInt 1 W (.slice A2 ss.length c2) ss) => trOpen z (.slice A2 ss.length c2) (some ⟨bk, off, none⟩) l.length c ss (l[k]'hlt).owner W h hn)
          have HFD := Lib.hid (fun (W : World) (h : Sl cNode 9 W (.slice (some ⟨bk, off, none⟩) l.length c) l) => trFind z (.slice (some ⟨bk, off, none⟩) l.length c) A2 ss.length c2 l (splitR (l[k]'hlt).path).1 W h (by omega))
          have hokk := okN_at (z := z) (ss := ss) hx
          have hcs := countP_step hx
          have hpsz := hz _ hmem
          generalize l[k]'hlt = x at *
          obtain ⟨xp, xd, xz, xm, xq, xv, xc, xo, xk⟩ := x
          simp only at *
          rw [size_q, statB_q, ownB_q] at hokk
          have HCS := Lib.hid hcs
          have HX := Lib.hid hx
          clear hx hmem hcs
          go_upto_region 14 with fail
          obtain ⟨okb, hokb⟩ : ∃ b, b = (goodP xp && (!decide ((256 : Int) < (xd.size : Int)) && (lessB l k ⟨xp, xd, xz, xm, xq, xv, xc, xo, xk⟩ && !(decide (xv < 0) || (decide (2147483647 < xv) || (decide (xc < 0) || (decide (2147483647 < xc) || (decide (xz < 0) || (decide (xm < xz) || (decide (xq < xz) || (decide (z < xm) || decide (z < xq)))))))))))) := ⟨_, rfl⟩
          have HOKK := Lib.hid (show okN ⟨z, l, ss⟩ k = (okb && (((xo == 0) || (isI ss xo && (xk == 0))) && (decide ((splitR xp).2.2 ≠ 0) || hasN l (splitR xp).1))) by rw [hokk, hokb]; simp only [Bool.and_assoc]; rfl)
          have HCQ := Lib.hid (fun q => show (l.take (k + 1)).countP (kidB q) = (l.take k).countP (kidB q) + (if (decide ((splitR xp).2.2 = 0) && decide ((splitR xp).1 = q)) = true then 1 else 0) from HCS.out q)
          have hsd := split_size xp
          obtain ⟨nb, hnb⟩ : ∃ b, b = !okb := ⟨_, rfl⟩
          clear hokk HCS
          go_cut [167] from 83 to 204 (fun s167 wx => s167 = .bool nb ∧ ∃ ext d, wx = grow ((wr.alloc (.cells #[.string xp, .string xd, .int .i64 xz, .int .i64 xm, .int .i64 xq, .int .i64 xv, .int .i64 xc, .int .i64 xo, .int .i64 xk] 68)).alloc (.cells #[.int .i64 xz, .int .i64 xm, .int .i64 xq, .int .i64 xv, .int .i64 xc, .int .i64 xo, .int .i64 xk] 66)) ext d)
          case first =>
            clear HOKK HCQ hsd HSP HOP HFD HF2 HF3 HF4 halln hcn HC1
            obtain ⟨gd, hgd⟩ : ∃ b, decide ((256 : Int) < (xd.size : Int)) = b := ⟨_, rfl⟩
            obtain ⟨q0, hq0⟩ : ∃ b, decide (xv < 0) = b := ⟨_, rfl⟩
            obtain ⟨q1, hq1⟩ : ∃ b, decide (2147483647 < xv) = b := ⟨_, rfl⟩
            obtain ⟨q2, hq2⟩ : ∃ b, decide (xc < 0) = b := ⟨_, rfl⟩
            obtain ⟨q3, hq3⟩ : ∃ b, decide (2147483647 < xc) = b := ⟨_, rfl⟩
            obtain ⟨q4, hq4⟩ : ∃ b, decide (xz < 0) = b := ⟨_, rfl⟩
            obtain ⟨q5, hq5⟩ : ∃ b, decide (xm < xz) = b := ⟨_, rfl⟩
            obtain ⟨q6, hq6⟩ : ∃ b, decide (xq < xz) = b := ⟨_, rfl⟩
            obtain ⟨q7, hq7⟩ : ∃ b, decide (z < xm) = b := ⟨_, rfl⟩
            obtain ⟨q8, hq8⟩ : ∃ b, decide (z < xq) = b := ⟨_, rfl⟩
            rw [hgd, hq0, hq1, hq2, hq3, hq4, hq5, hq6, hq7, hq8] at hokb
            obtain ⟨ng, hng⟩ : ∃ b, (!goodP xp) = b := ⟨_, rfl⟩
            rw [show goodP xp = !ng by rw [← hng, Bool.not_not]] at hokb
            have HOB := Lib.hid hokb
            have HNB := Lib.hid hnb
            clear hokb hnb
            -- REGION 14
            refine wp_region_grow (by as_aux_lemma => kernel_rfl) (by as_aux_lemma => kernel_rfl) ?_
            simp only [List.append]
            refine wpQuiet_cut 10 89 9 (ng || gd) ?hs0 ?hr0
            case hs0 =>
              as_aux_lemma =>
              simp only [List.take]
              repeat' (first | go_big_quiet_skip | (go_big_quiet_want; go_big_quiet_op; first | go_big_quiet_on | (apply Exists.intro; refine ⟨fun _ => ?hqg1, ?hqg2⟩; (case hqg1 => (go_at_call 59; refine Calls.grow_of (HPG.out _))); go_big_quiet_on)) | cases ng)
              all_goals exact wpQuiet_nil ⟨rfl, by kernel_rfl, by kernel_rfl, by kernel_rfl⟩
            intro m1 b1 hb1
            simp only [List.take, List.drop, junk, List.cons_append, List.nil_append, Nat.reduceAdd]
            refine wpQuiet_cut 16 89 25 (b1 || !lessB l k ⟨xp, xd, xz, xm, xq, xv, xc, xo, xk⟩) ?hs1 ?hr1
            case hs1 =>
              as_aux_lemma =>
              simp only [List.take]
              cases k with
              | zero =>
                simp only [Nat.zero_mul, Nat.add_zero] at c0 c1 c2' c3 c4 c5 c6 c7 c8
                repeat' (first | go_big_quiet_skip | (go_big_quiet_want; go_big_quiet_op; first | go_big_quiet_on | (apply Exists.intro; refine ⟨fun _ => ?hqg1, ?hqg2⟩; (case hqg1 => (go_at_call 59; refine Calls.grow_of (HPG.out _))); go_big_quiet_on)) | cases b1)
                all_goals exact wpQuiet_nil ⟨rfl, by kernel_rfl, by kernel_rfl, by kernel_rfl⟩
              | succ j =>
                have hy : l[j]? = some (l[j]'(by omega)) := List.getElem?_eq_getElem _
                obtain ⟨bk2, off2, hA2, _, y0, _⟩ := (H.out.below hbwr).Node_at hy
                cases hA2
                have hlb0 := lessB_s hy ⟨xp, xd, xz, xm, xq, xv, xc, xo, xk⟩
                generalize l[j]'(by omega) = y at *
                simp only at hlb0
                rw [← less_is] at hlb0
                rw [hlb0]
                have hwj : IntKind.i64.wrap ((j : Int) + 1 - 1) = (j : Int) := by unfold IntKind.wrap; simp [IntKind.signed, IntKind.bits]; omega
                have hj0 : decide (0 < (j : Int) + 1) = true := decide_eq_true (by omega)
                have hjc : j < l.length := by omega
                obtain ⟨ls, hls⟩ : ∃ b, (!Op.bytesLess y.path.toList xp.toList) = b := ⟨_, rfl⟩
                rw [hls]
                clear hlb0 hy HX
                repeat' (first | go_big_quiet_skip | (go_big_quiet_want; go_big_quiet_op; first | go_big_quiet_on | (apply Exists.intro; refine ⟨fun _ => ?hqg1, ?hqg2⟩; (case hqg1 => (go_at_call 59; refine Calls.grow_of (HPG.out _))); go_big_quiet_on)) | cases b1)
                all_goals exact wpQuiet_nil ⟨rfl, by kernel_rfl, by kernel_rfl, by kernel_rfl⟩
            intro m2 b2 hb2
            simp only [List.take, List.drop, junk, List.cons_append, List.nil_append, Nat.reduceAdd]
            refine wpQuiet_cut 5 89 30 (b2 || q0) ?hs2 ?hr2
            case hs2 =>
              as_aux_lemma =>
              simp only [List.take]
              repeat' (first | go_big_quiet_skip | (go_big_quiet_want; go_big_quiet_op; first | go_big_quiet_on | (apply Exists.intro; refine ⟨fun _ => ?hqg1, ?hqg2⟩; (case hqg1 => (go_at_call 59; refine Calls.grow_of (HPG.out _))); go_big_quiet_on)) | cases b2)
              all_goals exact wpQuiet_nil ⟨rfl, by kernel_rfl, by kernel_rfl, by kernel_rfl⟩
            intro m3 b3 hb3
            simp only [List.take, List.drop, junk, List.cons_append, List.nil_append, Nat.reduceAdd]
            refine wpQuiet_cut 5 89 35 (b3 || q1) ?hs3 ?hr3
            case hs3 =>
              as_aux_lemma =>
              simp only [List.take]
              repeat' (first | go_big_quiet_skip | (go_big_quiet_want; go_big_quiet_op; first | go_big_quiet_on | (apply Exists.intro; refine ⟨fun _ => ?hqg1, ?hqg2⟩; (case hqg1 => (go_at_call 59; refine Calls.grow_of (HPG.out _))); go_big_quiet_on)) | cases b3)
              all_goals exact wpQuiet_nil ⟨rfl, by kernel_rfl, by kernel_rfl, by kernel_rfl⟩
            intro m4 b4 hb4
            simp only [List.take, List.drop, junk, List.cons_append, List.nil_append, Nat.reduceAdd]
            refine wpQuiet_cut 5 89 40 (b4 || q2) ?hs4 ?hr4
            case hs4 =>
              as_aux_lemma =>
              simp only [List.take]
              repeat' (first | go_big_quiet_skip | (go_big_quiet_want; go_big_quiet_op; first | go_big_quiet_on | (apply Exists.intro; refine ⟨fun _ => ?hqg1, ?hqg2⟩; (case hqg1 => (go_at_call 59; refine Calls.grow_of (HPG.out _))); go_big_quiet_on)) | cases b4)
              all_goals exact wpQuiet_nil ⟨rfl, by kernel_rfl, by kernel_rfl, by kernel_rfl⟩
            intro m5 b5 hb5
            simp only [List.take, List.drop, junk, List.cons_append, List.nil_append, Nat.reduceAdd]
            refine wpQuiet_cut 5 89 45 (b5 || q3) ?hs5 ?hr5
            case hs5 =>
              as_aux_lemma =>
              simp only [List.take]
              repeat' (first | go_big_quiet_skip | (go_big_quiet_want; go_big_quiet_op; first | go_big_quiet_on | (apply Exists.intro; refine ⟨fun _ => ?hqg1, ?hqg2⟩; (case hqg1 => (go_at_call 59; refine Calls.grow_of (HPG.out _))); go_big_quiet_on)) | cases b5)
              all_goals exact wpQuiet_nil ⟨rfl, by kernel_rfl, by kernel_rfl, by kernel_rfl⟩
            intro m6 b6 hb6
            simp only [List.take, List.drop, junk, List.cons_append, List.nil_append, Nat.reduceAdd]
            refine wpQuiet_cut 5 89 50 (b6 || q4) ?hs6 ?hr6
            case hs6 =>
              as_aux_lemma =>
              simp only [List.take]
              repeat' (first | go_big_quiet_skip | (go_big_quiet_want; go_big_quiet_op; first | go_big_quiet_on | (apply Exists.intro; refine ⟨fun _ => ?hqg1, ?hqg2⟩; (case hqg1 => (go_at_call 59; refine Calls.grow_of (HPG.out _))); go_big_quiet_on)) | cases b6)
              all_goals exact wpQuiet_nil ⟨rfl, by kernel_rfl, by kernel_rfl, by kernel_rfl⟩
            intro m7 b7 hb7
            simp only [List.take, List.drop, junk, List.cons_append, List.nil_append, Nat.reduceAdd]
            refine wpQuiet_cut 7 89 57 (b7 || q5) ?hs7 ?hr7
            case hs7 =>
              as_aux_lemma =>
              simp only [List.take]
              repeat' (first | go_big_quiet_skip | (go_big_quiet_want; go_big_quiet_op; first | go_big_quiet_on | (apply Exists.intro; refine ⟨fun _ => ?hqg1, ?hqg2⟩; (case hqg1 => (go_at_call 59; refine Calls.grow_of (HPG.out _))); go_big_quiet_on)) | cases b7)
              all_goals exact wpQuiet_nil ⟨rfl, by kernel_rfl, by kernel_rfl, by kernel_rfl⟩
            intro m8 b8 hb8
            simp only [List.take, List.drop, junk, List.cons_append, List.nil_append, Nat.reduceAdd]
            refine wpQuiet_cut 7 89 64 (b8 || q6) ?hs8 ?hr8
            case hs8 =>
              as_aux_lemma =>
              simp only [List.take]
              repeat' (first | go_big_quiet_skip | (go_big_quiet_want; go_big_quiet_op; first | go_big_quiet_on | (apply Exists.intro; refine ⟨fun _ => ?hqg1, ?hqg2⟩; (case hqg1 => (go_at_call 59; refine Calls.grow_of (HPG.out _))); go_big_quiet_on)) | cases b8)
              all_goals exact wpQuiet_nil ⟨rfl, by kernel_rfl, by kernel_rfl, by kernel_rfl⟩
            intro m9 b9 hb9
            simp only [List.take, List.drop, junk, List.cons_append, List.nil_append, Nat.reduceAdd]
            refine wpQuiet_cut 7 89 71 (b9 || q7) ?hs9 ?hr9
            case hs9 =>
              as_aux_lemma =>
              simp only [List.take]
              repeat' (first | go_big_quiet_skip | (go_big_quiet_want; go_big_quiet_op; first | go_big_quiet_on | (apply Exists.intro; refine ⟨fun _ => ?hqg1, ?hqg2⟩; (case hqg1 => (go_at_call 59; refine Calls.grow_of (HPG.out _))); go_big_quiet_on)) | cases b9)
              all_goals exact wpQuiet_nil ⟨rfl, by kernel_rfl, by kernel_rfl, by kernel_rfl⟩
            intro m10 b10 hb10
            simp only [List.take, List.drop, junk, List.cons_append, List.nil_append, Nat.reduceAdd]
            refine wpQuiet_cut 7 89 78 (b10 || q8) ?hs10 ?hr10
            case hs10 =>
              as_aux_lemma =>
              simp only [List.take]
              repeat' (first | go_big_quiet_skip | (go_big_quiet_want; go_big_quiet_op; first | go_big_quiet_on | (apply Exists.intro; refine ⟨fun _ => ?hqg1, ?hqg2⟩; (case hqg1 => (go_at_call 59; refine Calls.grow_of (HPG.out _))); go_big_quiet_on)) | cases b10)
              all_goals exact wpQuiet_nil ⟨rfl, by kernel_rfl, by kernel_rfl, by kernel_rfl⟩
            intro m11 b11 hb11
            simp only [List.take, List.drop, junk, List.cons_append, List.nil_append, Nat.reduceAdd]
            refine wpQuiet_nil ?_
            rintro _ ⟨⟨extq, dq⟩, rfl⟩
            dsimp only
            go_wp2_with fail
            go_meet
            refine ⟨congrArg Value.bool ?_, _, _, rfl⟩
            rw [HNB.out, HOB.out, ← hb11.out, ← hb10.out, ← hb9.out, ← hb8.out, ← hb7.out, ← hb6.out, ← hb5.out, ← hb4.out, ← hb3.out, ← hb2.out, ← hb1.out]
            simp only [Bool.not_and, Bool.not_not, Bool.or_assoc]
            -- END 14
          case rest =>
            obtain ⟨rfl, ext0, d0, rfl⟩ := hcut
            refine gen_k (fun W2 hW2 => ?_)
            have hb2 : Below wr.heap.size wr W2 := by rw [hW2.out]; exact (by repeat (first | with_reducible (first | exact bA .. | assumption | exact bJ .. | exact bK .. | exact bL .. | exact bM .. | exact bN .. | refine bB ?_ | refine bC ?_ _ | refine bD _ _ ?_ | refine bE _ ?_ | refine bF ?_ ?_ _ | refine bG ?_ ?_ _ | refine bH _ _ _ ?_ ?_) | omega | (simp; done) | (simp; omega)))
            have hs2 : wr.heap.size + 1 + 1 ≤ W2.heap.size := by rw [hW2.out]; simp
            have e0 : W2.cell? ⟨wr.heap.size, 0, none⟩ = some (.string xp) := by rw [hW2.out]; go_simp
            have e5 : W2.cell? ⟨wr.heap.size + 1, 5, none⟩ = some (.int .i64 xo) := by rw [hW2.out]; go_simp
            have e6 : W2.cell? ⟨wr.heap.size + 1, 6, none⟩ = some (.int .i64 xk) := by rw [hW2.out]; go_simp
            have t0 := (hb2.cell (p := ⟨w.heap.size, 0, none⟩) (Nat.lt_of_succ_lt hmb)).trans kk0
            have t1 := (hb2.cell (p := ⟨w.heap.size, 1, none⟩) (Nat.lt_of_succ_lt hmb)).trans kk1
            have t2 := (hb2.cell (p := ⟨w.heap.size, 2, none⟩) (Nat.lt_of_succ_lt hmb)).trans kk2
            have HC2 := Lib.hid (hcn.out.below hb2)
            have hbw2 : Below w.heap.size w W2 := Below.tr hbwr (by omega) hb2
            have hbx2 : Below (w.heap.size + 1) W1 W2 := hbx.trans (hb2.mono (by omega))
            have hs3 : w.heap.size + 1 < W2.heap.size := by omega
            clear hW2 c0 c1 c2' c3 c4 c5 c6 c7 c8 HPG kk0 kk1 kk2 hcn hokb hbwr hbx HC1
            cases nb with
            | true =>
              as_aux_lemma =>
              have hbad : gt = false := HF2.out k hlt (by rw [HOKK.out, show okb = false by simpa using hnb.symm]; rfl)
              subst hbad
              clear hnb
              go_wp2_with fail
              go_ret
              exact ⟨rfl, (by repeat (first | with_reducible (first | exact bA .. | assumption | exact bJ .. | exact bK .. | exact bL .. | exact bM .. | exact bN .. | refine bB ?_ | refine bC ?_ _ | refine bD _ _ ?_ | refine bE _ ?_ | refine bF ?_ ?_ _ | refine bG ?_ ?_ _ | refine bH _ _ _ ?_ ?_) | omega | (simp; done) | (simp; omega)))⟩
            | false =>
              obtain rfl : okb = true := by simpa using hnb.symm
              clear hnb
              obtain ⟨p0, hp0⟩ : ∃ b, (xo == 0) = b := ⟨_, rfl⟩
              obtain ⟨p1, hp1⟩ : ∃ b, isI ss xo = b := ⟨_, rfl⟩
              obtain ⟨p2, hp2⟩ : ∃ b, (xk == 0) = b := ⟨_, rfl⟩
              obtain ⟨nw, hnw⟩ : ∃ b, b = (!p0 && (!p1 || !p2)) := ⟨_, rfl⟩
              rw [hp1] at HOP
              have HOK3 := Lib.hid (show okN ⟨z, l, ss⟩ k = (!nw && (decide ((splitR xp).2.2 ≠ 0) || hasN l (splitR xp).1)) by
                rw [HOKK.out, hnw, hp0, hp1, hp2]
                cases p0 <;> cases p1 <;> cases p2 <;> rfl)
              have HNW := Lib.hid hnw
              clear hnw HOKK
              go_upto_region 16 with fail
              go_cut [182] from 83 to 204 (fun s182 wx => s182 = .bool nw ∧ ∃ ext d, wx = grow W2 ext d)
              case first =>
                as_aux_lemma =>
                clear HOK3 HCQ hsd HSP HFD HF2 HF3 HF4 halln HC2
                by_cases hx0 : xo = 0
                · subst hx0
                  obtain rfl : p0 = true := by rw [← hp0]; rfl
                  go_wp2_with ((go_at_call 43; refine (HOP.out _ (H2.out.below (by repeat (first | with_reducible (first | exact bA .. | assumption | exact bJ .. | exact bK .. | exact bL .. | exact bM .. | exact bN .. | refine bB ?_ | refine bC ?_ _ | refine bD _ _ ?_ | refine bE _ ?_ | refine bF ?_ ?_ _ | refine bG ?_ ?_ _ | refine bH _ _ _ ?_ ?_) | omega | (simp; done) | (simp; omega))))).mono ?_; rintro e w1 ⟨rfl, hb⟩; obtain ⟨ext1, d1, rfl⟩ := Below.grown_eq _ hb; clear hb))
                  go_meet
                  exact ⟨congrArg Value.bool (by rw [HNW.out]; rfl), _, _, grown_of (by repeat (first | with_reducible (first | exact bA .. | assumption | exact bJ .. | exact bK .. | exact bL .. | exact bM .. | exact bN .. | refine bB ?_ | refine bC ?_ _ | refine bD _ _ ?_ | refine bE _ ?_ | refine bF ?_ ?_ _ | refine bG ?_ ?_ _ | refine bH _ _ _ ?_ ?_) | omega | (simp; done) | (simp; omega)))⟩
                · obtain rfl : p0 = false := by rw [← hp0]; exact beq_eq_false_iff_ne.2 hx0
                  cases p1 with
                  | false =>
                    go_wp2_with ((go_at_call 43; refine (HOP.out _ (H2.out.below (by repeat (first | with_reducible (first | exact bA .. | assumption | exact bJ .. | exact bK .. | exact bL .. | exact bM .. | exact bN .. | refine bB ?_ | refine bC ?_ _ | refine bD _ _ ?_ | refine bE _ ?_ | refine bF ?_ ?_ _ | refine bG ?_ ?_ _ | refine bH _ _ _ ?_ ?_) | omega | (simp; done) | (simp; omega))))).mono ?_; rintro e w1 ⟨rfl, hb⟩; obtain ⟨ext1, d1, rfl⟩ := Below.grown_eq _ hb; clear hb))
                    go_meet
                    exact ⟨congrArg Value.bool (by rw [HNW.out]; simp [hx0]), _, _, grown_of (by repeat (first | with_reducible (first | exact bA .. | assumption | exact bJ .. | exact bK .. | exact bL .. | exact bM .. | exact bN .. | refine bB ?_ | refine bC ?_ _ | refine bD _ _ ?_ | refine bE _ ?_ | refine bF ?_ ?_ _ | refine bG ?_ ?_ _ | refine bH _ _ _ ?_ ?_) | omega | (simp; done) | (simp; omega)))⟩
                  | true =>
                    by_cases hx1 : xk = 0
                    · subst hx1
                      obtain rfl : p2 = true := by rw [← hp2]; rfl
                      go_wp2_with ((go_at_call 43; refine (HOP.out _ (H2.out.below (by repeat (first | with_reducible (first | exact bA .. | assumption | exact bJ .. | exact bK .. | exact bL .. | exact bM .. | exact bN .. | refine bB ?_ | refine bC ?_ _ | refine bD _ _ ?_ | refine bE _ ?_ | refine bF ?_ ?_ _ | refine bG ?_ ?_ _ | refine bH _ _ _ ?_ ?_) | omega | (simp; done) | (simp; omega))))).mono ?_; rintro e w1 ⟨rfl, hb⟩; obtain ⟨ext1, d1, rfl⟩ := Below.grown_eq _ hb; clear hb))
                      go_meet
                      exact ⟨congrArg Value.bool (by rw [HNW.out]; simp), _, _, grown_of (by repeat (first | with_reducible (first | exact bA .. | assumption | exact bJ .. | exact bK .. | exact bL .. | exact bM .. | exact bN .. | refine bB ?_ | refine bC ?_ _ | refine bD _ _ ?_ | refine bE _ ?_ | refine bF ?_ ?_ _ | refine bG ?_ ?_ _ | refine bH _ _ _ ?_ ?_) | omega | (simp; done) | (simp; omega)))⟩
                    · obtain rfl : p2 = false := by rw [← hp2]; exact beq_eq_false_iff_ne.2 hx1
                      go_wp2_with ((go_at_call 43; refine (HOP.out _ (H2.out.below (by repeat (first | with_reducible (first | exact bA .. | assumption | exact bJ .. | exact bK .. | exact bL .. | exact bM .. | exact bN .. | refine bB ?_ | refine bC ?_ _ | refine bD _ _ ?_ | refine bE _ ?_ | refine bF ?_ ?_ _ | refine bG ?_ ?_ _ | refine bH _ _ _ ?_ ?_) | omega | (simp; done) | (simp; omega))))).mono ?_; rintro e w1 ⟨rfl, hb⟩; obtain ⟨ext1, d1, rfl⟩ := Below.grown_eq _ hb; clear hb))
                      go_meet
                      exact ⟨congrArg Value.bool (by rw [HNW.out]; simp [hx0, hx1]), _, _, grown_of (by repeat (first | with_reducible (first | exact bA .. | assumption | exact bJ .. | exact bK .. | exact bL .. | exact bM .. | exact bN .. | refine bB ?_ | refine bC ?_ _ | refine bD _ _ ?_ | refine bE _ ?_ | refine bF ?_ ?_ _ | refine bG ?_ ?_ _ | refine bH _ _ _ ?_ ?_) | omega | (simp; done) | (simp; omega)))⟩
              case rest =>
                obtain ⟨rfl, ext3, d3, rfl⟩ := hcut
                clear e5 e6 hp0 hp1 hp2 HOP HNW
                cases nw with
                | true =>
                  as_aux_lemma =>
                  have hbad : gt = false := HF2.out k hlt (by rw [HOK3.out]; rfl)
                  subst hbad
                  go_wp2_with fail
                  go_ret
                  exact ⟨rfl, (by repeat (first | with_reducible (first | exact bA .. | assumption | exact bJ .. | exact bK .. | exact bL .. | exact bM .. | exact bN .. | refine bB ?_ | refine bC ?_ _ | refine bD _ _ ?_ | refine bE _ ?_ | refine bF ?_ ?_ _ | refine bG ?_ ?_ _ | refine bH _ _ _ ?_ ?_) | omega | (simp; done) | (simp; omega)))⟩
                | false =>
                  generalize splitR xp = sp at *
                  obtain ⟨sd, st, se⟩ := sp
                  simp only at *
                  by_cases hse : se = 0
                  · as_aux_lemma =>
                    subst hse
                    have HCQ2 := Lib.hid (fun q => show (l.take (k + 1)).countP (kidB q) = (l.take k).countP (kidB q) + (if sd = q then 1 else 0) by rw [HCQ.out q]; simp)
                    have HOK4 := Lib.hid (show okN ⟨z, l, ss⟩ k = hasN l sd by rw [HOK3.out]; rfl)
                    have hcl : (l.take k).countP (kidB sd) ≤ k := Nat.le_trans List.countP_le_length (by rw [List.length_take]; omega)
                    clear HOK3 HCQ
                    cases hhn : hasN l sd with
                    | false =>
                      rw [hhn] at HFD HOK4
                      have hbad : gt = false := HF2.out k hlt HOK4.out
                      subst hbad
                      clear hhn
                      go_wp2_with (first | (go_at_call 60; refine (HSP.out _).mono ?_; rintro e w1 ⟨rfl, hb⟩; obtain ⟨ext4, d4, rfl⟩ := Below.grown_eq _ hb; clear hb) | (go_at_call 26; refine (HFD.out _ (H.out.below (by repeat (first | with_reducible (first | exact bA .. | assumption | exact bJ .. | exact bK .. | exact bL .. | exact bM .. | exact bN .. | refine bB ?_ | refine bC ?_ _ | refine bD _ _ ?_ | refine bE _ ?_ | refine bF ?_ ?_ _ | refine bG ?_ ?_ _ | refine bH _ _ _ ?_ ?_) | omega | (simp; done) | (simp; omega))))).mono ?_; rintro e w1 ⟨rfl, hb⟩; obtain ⟨ext5, d5, rfl⟩ := Below.grown_eq _ hb; clear hb))
                      go_ret
                      exact ⟨rfl, (by repeat (first | with_reducible (first | exact bA .. | assumption | exact bJ .. | exact bK .. | exact bL .. | exact bM .. | exact bN .. | refine bB ?_ | refine bC ?_ _ | refine bD _ _ ?_ | refine bE _ ?_ | refine bF ?_ ?_ _ | refine bG ?_ ?_ _ | refine bH _ _ _ ?_ ?_) | omega | (simp; done) | (simp; omega)))⟩
                    | true =>
                      rw [hhn] at HFD HOK4
                      clear hhn
                      have HFN : Hid (∀ i, i < k + 1 → okN ⟨z, l, ss⟩ i = true) := Lib.hid (fun i hi => by
                        rcases Nat.lt_or_ge i k with h | h
                        · exact halln.out i h
                        · obtain rfl : i = k := by omega
                          exact HOK4.out)
                      have HGC : ∀ W, Below W2.heap.size W2 W → Hid (Cnt W (w.heap.size + 1) k (fun q => (((l.take k).countP (kidB q) : Nat) : Int))) := fun W hW => Lib.hid (HC2.out.below hW)
                      have HPC : Hid (∀ q, (((l.take (k + 1)).countP (kidB q) : Nat) : Int) = (if q = sd then (((l.take k).countP (kidB sd) : Nat) : Int) + 1 else (((l.take k).countP (kidB q) : Nat) : Int))) := Lib.hid (fun q => by
                        rw [HCQ2.out q]
                        by_cases hq : q = sd
                        · subst hq; simp
                        · rw [if_neg hq, if_neg (fun e => hq e.symm)]; rfl)
                      clear HOK4 halln HC2 HCQ2
                      go_wp2_with (first | (go_at_call 60; refine (HSP.out _).mono ?_; rintro e w1 ⟨rfl, hb⟩; obtain ⟨ext4, d4, rfl⟩ := Below.grown_eq _ hb; clear hb) | (go_at_call 26; refine (HFD.out _ (H.out.below (by repeat (first | with_reducible (first | exact bA .. | assumption | exact bJ .. | exact bK .. | exact bL .. | exact bM .. | exact bN .. | refine bB ?_ | refine bC ?_ _ | refine bD _ _ ?_ | refine bE _ ?_ | refine bF ?_ ?_ _ | refine bG ?_ ?_ _ | refine bH _ _ _ ?_ ?_) | omega | (simp; done) | (simp; omega))))).mono ?_; rintro e w1 ⟨rfl, hb⟩; obtain ⟨ext5, d5, rfl⟩ := Below.grown_eq _ hb; clear hb) | (at_lookup; refine wpList_cntget rfl (.tmp 200) (.tmp 201) rfl rfl (HGC _ (by repeat (first | with_reducible (first | exact bA .. | assumption | exact bJ .. | exact bK .. | exact bL .. | exact bM .. | exact bN .. | refine bB ?_ | refine bC ?_ _ | refine bD _ _ ?_ | refine bE _ ?_ | refine bF ?_ ?_ _ | refine bG ?_ ?_ _ | refine bH _ _ _ ?_ ?_) | omega | (simp; done) | (simp; omega)))).out sd rfl (by simp [maxLen]; omega) ?_; (try dsimp only)) | (at_mapUpdate; refine wpList_cntput rfl (.tmp 200) (.tmp 201) (.tmp 203) rfl rfl (HGC _ (by repeat (first | with_reducible (first | exact bA .. | assumption | exact bJ .. | exact bK .. | exact bL .. | exact bM .. | exact bN .. | refine bB ?_ | refine bC ?_ _ | refine bD _ _ ?_ | refine bE _ ?_ | refine bF ?_ ?_ _ | refine bG ?_ ?_ _ | refine bH _ _ _ ?_ ?_) | omega | (simp; done) | (simp; omega)))).out (by simp [maxLen]; omega) sd rfl (by simp [maxLen]; omega) _ rfl (by simp [Lit.wf, IntKind.min, IntKind.max, IntKind.signed, IntKind.bits]; omega) ?_; intro w2 hC hg; have HCC := Lib.hid hC; have HGG := Lib.hid hg; clear hC hg))
                      have hbw' := below_put (B := w.heap.size + 1) (show Below (w.heap.size + 1) W1 _ from hbx2.trans (Below.mono (show Below W2.heap.size W2 _ from (by repeat (first | with_reducible (first | exact bA .. | assumption | exact bJ .. | exact bK .. | exact bL .. | exact bM .. | exact bN .. | refine bB ?_ | refine bC ?_ _ | refine bD _ _ ?_ | refine bE _ ?_ | refine bF ?_ ?_ _ | refine bG ?_ ?_ _ | refine bH _ _ _ ?_ ?_) | omega | (simp; done) | (simp; omega)))) (by omega))) (by simp; omega) (Nat.le_refl _) HGG.out
                      go_roundw
                      case rel => exact ⟨k + 1, by omega, by go_num, HFN, Lib.hid (HCC.out.same (fun q => HPC.out q)), hbw'⟩
                      case measure => simp [intOf]; omega
                  · as_aux_lemma =>
                    have hne : (se == 0) = false := beq_eq_false_iff_ne.2 hse
                    have HFN : Hid (∀ i, i < k + 1 → okN ⟨z, l, ss⟩ i = true) := Lib.hid (fun i hi => by
                      rcases Nat.lt_or_ge i k with h | h
                      · exact halln.out i h
                      · obtain rfl : i = k := by omega
                        rw [HOK3.out, decide_eq_true hse]; rfl)
                    have HC3 : ∀ W, Below W2.heap.size W2 W → Hid (Cnt W (w.heap.size + 1) (k + 1) (fun q => (((l.take (k + 1)).countP (kidB q) : Nat) : Int))) := fun W hW => Lib.hid ((((HC2.out.below hW).mono (Nat.le_succ k))).same (fun q => by rw [HCQ.out q, decide_eq_false hse]; simp))
                    clear HOK3 halln HCQ HC2 hse
                    go_wp2_with ((go_at_call 60; refine (HSP.out _).mono ?_; rintro e w1 ⟨rfl, hb⟩; obtain ⟨ext4, d4, rfl⟩ := Below.grown_eq _ hb; clear hb))
                    go_roundw
                    case rel => exact ⟨k + 1, by omega, by go_num, HFN, HC3 _ (by repeat (first | with_reducible (first | exact bA .. | assumption | exact bJ .. | exact bK .. | exact bL .. | exact bM .. | exact bN .. | refine bB ?_ | refine bC ?_ _ | refine bD _ _ ?_ | refine bE _ ?_ | refine bF ?_ ?_ _ | refine bG ?_ ?_ _ | refine bH _ _ _ ?_ ?_) | omega | (simp; done) | (simp; omega))), hbx2.trans (Below.mono (show Below W2.heap.size W2 _ from (by repeat (first | with_reducible (first | exact bA .. | assumption | exact bJ .. | exact bK .. | exact bL .. | exact bM .. | exact bN .. | refine bB ?_ | refine bC ?_ _ | refine bD _ _ ?_ | refine bE _ ?_ | refine bF ?_ ?_ _ | refine bG ?_ ?_ _ | refine bH _ _ _ ?_ ?_) | omega | (simp; done) | (simp; omega)))) (by omega))⟩
                    case measure => simp [intOf]; omega
        · as_aux_lemma =>
          have hkl : k = l.length := by omega
          subst hkl
          rw [List.take_length] at hcn
          clear hk hlt HC1
          obtain ⟨wk, hwk⟩ : ∃ x : World, x = wr := ⟨wr, rfl⟩
          subst hwk
          go_wp2_with fail
          go_loopw [208] (fun i wr => ∃ j : Nat, j ≤ l.length ∧ i = .int .i64 j ∧ Hid (∀ i x, i < j → l[i]? = some x → x.kids = ((l.countP (kidB x.path) : Nat) : Int)) ∧ Below wk.heap.size wk wr) (fun i _ => l.length - (intOf i).toNat)
          case atStart => exact ⟨0, Nat.zero_le _, rfl, Lib.hid (fun i x hi => absurd hi (Nat.not_lt_zero _)), Below.refl _ _⟩
          case round =>
            obtain ⟨j, hj, rfl, hall3, hbs⟩ := hrel
            have hbws : Below w.heap.size w wr := Below.tr hbwr (by omega) hbs
            have s0 := (hbs.cell (p := ⟨w.heap.size, 0, none⟩) (Nat.lt_of_succ_lt hmb)).trans kk0
            have s1 := (hbs.cell (p := ⟨w.heap.size, 1, none⟩) (Nat.lt_of_succ_lt hmb)).trans kk1
            have s2 := (hbs.cell (p := ⟨w.heap.size, 2, none⟩) (Nat.lt_of_succ_lt hmb)).trans kk2
            have HCW := Lib.hid (hcn.out.below hbs)
            clear kk0 kk1 kk2
            by_cases hlt3 : j < l.length
            · have hx : l[j]? = some (l[j]'hlt3) := List.getElem?_eq_getElem _
              obtain ⟨bk', off', hA, _, c0, c1, c2', c3, c4, c5, c6, c7, c8⟩ := (H.out.below hbws).Node_at hx
              cases hA
              have hpsz := hz _ (List.mem_of_getElem? hx)
              have hcl : l.countP (kidB (l[j]'hlt3).path) ≤ l.length := List.countP_le_length
              have HGC : ∀ W, Below wr.heap.size wr W → Hid (Cnt W (w.heap.size + 1) l.length (fun q => ((l.countP (kidB q) : Nat) : Int))) := fun W hW => Lib.hid (HCW.out.below hW)
              have HX := Lib.hid hx
              generalize l[j]'hlt3 = x at *
              obtain ⟨xp, xd, xz, xm, xq, xv, xc, xo, xk⟩ := x
              simp only at *
              by_cases hkk : xk = ((l.countP (kidB xp) : Nat) : Int)
              · have hke : (xk == ((l.countP (kidB xp) : Nat) : Int)) = true := by rw [hkk]; simp
                have HA3 : Hid (∀ i x, i < j + 1 → l[i]? = some x → x.kids = ((l.countP (kidB x.path) : Nat) : Int)) := Lib.hid (fun i u hi hu => by
                  rcases Nat.lt_or_ge i j with h | h
                  · exact hall3.out i u h hu
                  · obtain rfl : i = j := by omega
                    rw [Option.some.inj (hu.symm.trans HX.out)]
                    exact hkk)
                clear hx hall3
                go_wp2_with (at_lookup; refine wpList_cntget rfl (.tmp 215) (.tmp 217) rfl rfl (HGC _ (by repeat (first | with_reducible (first | exact bA .. | assumption | exact bJ .. | exact bK .. | exact bL .. | exact bM .. | exact bN .. | refine bB ?_ | refine bC ?_ _ | refine bD _ _ ?_ | refine bE _ ?_ | refine bF ?_ ?_ _ | refine bG ?_ ?_ _ | refine bH _ _ _ ?_ ?_) | omega | (simp; done) | (simp; omega)))).out xp rfl (by simp [maxLen]; omega) ?_; (try dsimp only))
                go_roundw
                case rel => exact ⟨j + 1, by omega, by go_num, HA3, (by repeat (first | with_reducible (first | exact bA .. | assumption | exact bJ .. | exact bK .. | exact bL .. | exact bM .. | exact bN .. | refine bB ?_ | refine bC ?_ _ | refine bD _ _ ?_ | refine bE _ ?_ | refine bF ?_ ?_ _ | refine bG ?_ ?_ _ | refine bH _ _ _ ?_ ?_) | omega | (simp; done) | (simp; omega)))⟩
                case measure => simp [intOf]; omega
              · have hke : (xk == ((l.countP (kidB xp) : Nat) : Int)) = false := beq_eq_false_iff_ne.2 hkk
                have hbad : gt = false := HF3.out (by
                  unfold kidsB
                  rw [List.all_eq_false]
                  exact ⟨_, List.mem_of_getElem? HX.out, by simpa using hkk⟩)
                subst hbad
                clear hx hall3
                go_wp2_with (at_lookup; refine wpList_cntget rfl (.tmp 215) (.tmp 217) rfl rfl (HGC _ (by repeat (first | with_reducible (first | exact bA .. | assumption | exact bJ .. | exact bK .. | exact bL .. | exact bM .. | exact bN .. | refine bB ?_ | refine bC ?_ _ | refine bD _ _ ?_ | refine bE _ ?_ | refine bF ?_ ?_ _ | refine bG ?_ ?_ _ | refine bH _ _ _ ?_ ?_) | omega | (simp; done) | (simp; omega)))).out xp rfl (by simp [maxLen]; omega) ?_; (try dsimp only))
                go_ret
                exact ⟨rfl, (by repeat (first | with_reducible (first | exact bA .. | assumption | exact bJ .. | exact bK .. | exact bL .. | exact bM .. | exact bN .. | refine bB ?_ | refine bC ?_ _ | refine bD _ _ ?_ | refine bE _ ?_ | refine bF ?_ ?_ _ | refine bG ?_ ?_ _ | refine bH _ _ _ ?_ ?_) | omega | (simp; done) | (simp; omega)))⟩
            · have hjl : j = l.length := by omega
              subst hjl
              obtain rfl : gt = true := HF4.out hall.out halln.out (by
                unfold kidsB
                rw [List.all_eq_true]
                intro x hx
                obtain ⟨i, hi⟩ := List.mem_iff_getElem?.1 hx
                exact decide_eq_true (hall3.out i x (List.getElem?_eq_some_iff.1 hi).1 hi))
              go_wp2_with fail
              go_ret
              exact ⟨rfl, (by repeat (first | with_reducible (first | exact bA .. | assumption | exact bJ .. | exact bK .. | exact bL .. | exact bM .. | exact bN .. | refine bB ?_ | refine bC ?_ _ | refine bD _ _ ?_ | refine bE _ ?_ | refine bF ?_ ?_ _ | refine bG ?_ ?_ _ | refine bH _ _ _ ?_ ?_) | omega | (simp; done) | (simp; omega)))⟩
end Go.Proofs.YtchgpijfebilbaaGreatDoor

/- package tree: Good, of a tree with a bad head. -/
namespace Go.Proofs.YtchgpijfebilbaaGreatDoor
open Go.RowKit Go.ChangeShapes Go.WideShapes Go.ChangeAt
theorem good_nohead {t : Tr} (h : headB t = false) : goodTree t = false := by unfold goodTree; rw [h]; rfl
theorem head_no {z : Int} {n : Node} {r : List Node} {ss : List Int} (h : headB ⟨z, n :: r, ss⟩ = false) (h4 : (n :: r).length ≤ 400) (hp : n.path = slash) (ho : n.owner = 0) : ¬ Zx z := by
  intro hz
  unfold headB at h
  simp only at h
  rw [decide_eq_true h4, decide_eq_true (show 0 ≤ z ∧ z < 4611686018427387904 from hz), decide_eq_true hp, decide_eq_true ho] at h
  cases h
set_option maxRecDepth 100000 in
set_option maxHeartbeats 1000000 in
theorem trGood_nohead (z : Int) (v v2 : Value) (l : List Node) (ss : List Int) (w : World) (h : Sl cNode 9 w v l) (h2 : Sl cInt 1 w v2 ss) (hh : headB ⟨z, l, ss⟩ = false) :
    Calls Tryz.prog 29 #[.agg #[.int .i64 z, v, v2]] w fun e w' => e = .returned (.bool (goodTree ⟨z, l, ss⟩)) ∧ Below w.heap.size w w' := by
  rw [good_nohead hh]
  obtain ⟨A, c, rfl, h1, h1b⟩ := h.form
  obtain ⟨A2, c2, rfl, h3, h3b⟩ := h2.form
  cases l with
  | nil =>
    simp only [List.length_nil]
    clear h h2 hh
    go_enter Tryz.func29, Tryz.ntmps29
    go_wp2_with fail
    go_ret
    exact ⟨rfl, (by repeat (first | with_reducible (first | exact bA .. | assumption | exact bJ .. | exact bK .. | exact bL .. | exact bM .. | exact bN .. | refine bB ?_ | refine bC ?_ _ | refine bD _ _ ?_ | refine bE _ ?_ | refine bF ?_ ?_ _ | refine bG ?_ ?_ _ | refine bH _ _ _ ?_ ?_) | omega | (simp; done) | (simp; omega)))⟩
  | cons n r =>
    obtain ⟨bk, off, rfl, hbw, n0, n1, n2, n3, n4, n5, n6, n7, n8⟩ := h.Node_at (i := 0) (x := n) rfl
    simp only [Nat.zero_mul, Nat.add_zero] at n0 n1 n2 n3 n4 n5 n6 n7 n8
    have HNO := Lib.hid (fun h4 hp ho => head_no hh h4 hp ho)
    have HG := Lib.hid (fun (W : World) (hz : ¬ Zx z) => zgood_no z W hz)
    have hm1 : 0 < (n :: r).length := Nat.succ_pos _
    generalize (n :: r).length = m at *
    have hm0 : ((m : Int) == 0) = false := beq_eq_false_iff_ne.2 (by omega)
    clear h h2 hh
    by_cases g1 : 400 < m
    · have hm4 : decide ((400 : Int) < (m : Int)) = true := decide_eq_true (by omega)
      clear HNO HG
      go_enter Tryz.func29, Tryz.ntmps29
      go_wp2_with fail
      go_ret
      exact ⟨rfl, (by repeat (first | with_reducible (first | exact bA .. | assumption | exact bJ .. | exact bK .. | exact bL .. | exact bM .. | exact bN .. | refine bB ?_ | refine bC ?_ _ | refine bD _ _ ?_ | refine bE _ ?_ | refine bF ?_ ?_ _ | refine bG ?_ ?_ _ | refine bH _ _ _ ?_ ?_) | omega | (simp; done) | (simp; omega)))⟩
    · have hm4 : decide ((400 : Int) < (m : Int)) = false := decide_eq_false (by omega)
      by_cases g2 : n.path = slash
      · have hpp : (slash.toList == [47]) = true := by unfold slash; rw [ByteArray.toList_eq]; rfl
        rw [g2] at n0
        by_cases g3 : n.owner = 0
        · have hz := HNO.out (by omega) g2 g3
          rw [g3] at n7
          clear HNO g2 g3
          go_enter Tryz.func29, Tryz.ntmps29
          go_wp2_with ((go_at_call 30; refine (HG.out _ hz).mono ?_; rintro e w1 ⟨rfl, rfl⟩; skip))
          go_ret
          exact ⟨rfl, (by repeat (first | with_reducible (first | exact bA .. | assumption | exact bJ .. | exact bK .. | exact bL .. | exact bM .. | exact bN .. | refine bB ?_ | refine bC ?_ _ | refine bD _ _ ?_ | refine bE _ ?_ | refine bF ?_ ?_ _ | refine bG ?_ ?_ _ | refine bH _ _ _ ?_ ?_) | omega | (simp; done) | (simp; omega)))⟩
        · have hno : (n.owner == 0) = false := beq_eq_false_iff_ne.2 g3
          generalize n.owner = no at *
          clear HNO HG g2
          go_enter Tryz.func29, Tryz.ntmps29
          go_wp2_with fail
          go_ret
          exact ⟨rfl, (by repeat (first | with_reducible (first | exact bA .. | assumption | exact bJ .. | exact bK .. | exact bL .. | exact bM .. | exact bN .. | refine bB ?_ | refine bC ?_ _ | refine bD _ _ ?_ | refine bE _ ?_ | refine bF ?_ ?_ _ | refine bG ?_ ?_ _ | refine bH _ _ _ ?_ ?_) | omega | (simp; done) | (simp; omega)))⟩
      · have hpp := ne_slash g2
        clear HNO HG g2
        go_enter Tryz.func29, Tryz.ntmps29
        go_wp2_with fail
        go_ret
        exact ⟨rfl, (by repeat (first | with_reducible (first | exact bA .. | assumption | exact bJ .. | exact bK .. | exact bL .. | exact bM .. | exact bN .. | refine bB ?_ | refine bC ?_ _ | refine bD _ _ ?_ | refine bE _ ?_ | refine bF ?_ ?_ _ | refine bG ?_ ?_ _ | refine bH _ _ _ ?_ ?_) | omega | (simp; done) | (simp; omega)))⟩
end Go.Proofs.YtchgpijfebilbaaGreatDoor

/- package tree: Good, at every tree. -/
namespace Go.Proofs.YtchgpijfebilbaaGreatDoor
open Go.RowKit Go.ChangeShapes Go.WideShapes Go.ChangeAt
theorem trGood (z : Int) (v v2 : Value) (l : List Node) (ss : List Int) (w : World) (h : Sl cNode 9 w v l) (h2 : Sl cInt 1 w v2 ss) (hn : ss.length ≤ 140737488355328) (hz : ∀ n ∈ l, n.path.size ≤ 9223372036854775807) :
    Calls Tryz.prog 29 #[.agg #[.int .i64 z, v, v2]] w fun e w' => e = .returned (.bool (goodTree ⟨z, l, ss⟩)) ∧ Below w.heap.size w w' := by
  cases hh : headB ⟨z, l, ss⟩ with
  | true => exact trGood_head z v v2 l ss w h h2 hn hh hz
  | false => exact trGood_nohead z v v2 l ss w h h2 hh
end Go.Proofs.YtchgpijfebilbaaGreatDoor
