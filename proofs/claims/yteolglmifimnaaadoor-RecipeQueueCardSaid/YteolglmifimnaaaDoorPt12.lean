/- Lemmas for the statement: QueD, QueE, StrAt, RecS, RecL, RecH, FenceF, Pick. -/
import Derived.Test.YteolglmifimnaaaDoorPt1
import Derived.Test.YteolglmifimnaaaDoorPt2
import Derived.Test.YteolglmifimnaaaDoorPt3
import Derived.Test.YteolglmifimnaaaDoorPt4
import Derived.Test.YteolglmifimnaaaDoorPt5
import Derived.Test.YteolglmifimnaaaDoorPt6
import Derived.Test.YteolglmifimnaaaDoorPt7
import Derived.Test.YteolglmifimnaaaDoorPt8
import Derived.Test.YteolglmifimnaaaDoorPt9
import Derived.Test.YteolglmifimnaaaDoorPt10
import Derived.Test.YteolglmifimnaaaDoorPt11
/- The line of five sessions: what its helper does. -/
namespace Go.Proofs.YteolglmifimnaaaDoor
open Go.RowKit Go.ChangeShapes Go.WideShapes Go.ChangeAt
theorem trAsk (s : Int) (w : World) : Calls Tryd.prog 35 #[.int .i64 s, .string lP, .string qN] w fun e w' => e = .returned (reqV (askQ s)) ∧ Below w.heap.size w w' := by
  unfold lP qN
  go_enter Tryd.func35, Tryd.ntmps35
  go_wp2_with fail
  refine bodyPost_ret (v := reqV (askQ s)) (by simp [results, Tryd.results35, go_sem, reqV, askQ, qB]; try rfl) rfl ⟨rfl, (by repeat (first | with_reducible exact Below.refl _ _ | with_reducible assumption | with_reducible exact below_d1 _ _ _ _ _ | with_reducible exact below_d2 _ _ _ _ _ _ _ _ | with_reducible exact below_d3 _ _ _ _ _ | with_reducible exact below_d4 _ _ _ _ _ _ _ _ | with_reducible exact below_d5 _ _ | with_reducible refine Below.drew ?_ | with_reducible refine Below.drewN' ?_ _ | with_reducible refine below_grow0 _ _ ?_ | with_reducible refine below_alloc0 _ ?_ | with_reducible refine Below.setCell ?_ ?_ _ | with_reducible refine Below.alloc ?_ ?_ _ | with_reducible refine Below.grow _ _ _ ?_ ?_ | omega | (simp; done) | (simp; omega)))⟩
/-- a tree in a box, its rows of its own -/
structure Boxed (w : World) (B bz bt : Nat) (zv : Int) (T : Tr) (A : Option Addr) (c : Nat) (A2 : Option Addr) (c2 : Nat) : Prop where
  zb : Bk w bz [.int .i64 zv] 3
  tb : Bk w bt [.int .i64 T.zxid, .slice A T.nodes.length c, .slice A2 T.sess.length c2] 25
  nodes : Ow cNode 9 40 w B (.slice A T.nodes.length c) T.nodes
  sess : Ow cInt 1 3 w B (.slice A2 T.sess.length c2) T.sess
  nz : (Value.slice A T.nodes.length c).ownBlock ≠ some bz
  nt : (Value.slice A T.nodes.length c).ownBlock ≠ some bt
  sz : (Value.slice A2 T.sess.length c2).ownBlock ≠ some bz
  st : (Value.slice A2 T.sess.length c2).ownBlock ≠ some bt
theorem own_not {α : Type} {f : α → List Value} {s : Nat} {e : TypeId} {w : World} {B g : Nat} {v : Value} {l : List α} (h : Ow f s e w B v l) (hg : g < B) : v.ownBlock ≠ some g := by
  intro e
  have := (h.own_in e).1
  omega
theorem Boxed.below {w w' : World} {B bz bt : Nat} {zv : Int} {T : Tr} {A : Option Addr} {c : Nat} {A2 : Option Addr} {c2 : Nat} (h : Boxed w B bz bt zv T A c A2 c2) (hb : Below w.heap.size w w') : Boxed w' B bz bt zv T A c A2 c2 :=
  ⟨h.zb.below hb, h.tb.below hb, h.nodes.below hb, h.sess.below hb, h.nz, h.nt, h.sz, h.st⟩
/-- the two boxes are written, and memory grows -/
def Chain (bz bt : Nat) (W w' : World) : Prop := ∃ W1 W2 W3, W.grownBy W1 (some bz) ∧ Below W1.heap.size W1 W2 ∧ W2.grownBy W3 (some bt) ∧ Below W3.heap.size W3 w'
theorem Chain.size {bz bt : Nat} {W w' : World} (h : Chain bz bt W w') : W.heap.size ≤ w'.heap.size := by
  obtain ⟨W1, W2, W3, g1, b2, g3, b4⟩ := h
  exact Nat.le_trans (Nat.le_trans g1.size b2.size) (Nat.le_trans g3.size b4.size)
theorem Chain.below {bz bt B : Nat} {w W w' : World} (h : Chain bz bt W w') (hb : Below B w W) (hB : B ≤ W.heap.size) (h1 : B ≤ bz) (h2 : B ≤ bt) : Below B w w' := by
  obtain ⟨W1, W2, W3, g1, b2, g3, b4⟩ := h
  have s1 : W.heap.size ≤ W1.heap.size := g1.size
  have s2 := b2.size
  have s3 : W2.heap.size ≤ W3.heap.size := g3.size
  have e1 : Below B w W1 := Below.grown_up hb hB g1 (fun q hq => by injection hq with hq; omega)
  have e2 : Below B w W2 := e1.trans (b2.mono (by omega))
  have e3 : Below B w W3 := Below.grown_up e2 (by omega) g3 (fun q hq => by injection hq with hq; omega)
  exact e3.trans (b4.mono (by omega))
theorem Chain.ow {α : Type} {f : α → List Value} {s : Nat} {e : TypeId} {bz bt B : Nat} {W w' : World} {v : Value} {l : List α} (h : Chain bz bt W w') (ho : Ow f s e W B v l) (h1 : v.ownBlock ≠ some bz) (h2 : v.ownBlock ≠ some bt) : Ow f s e w' B v l := by
  obtain ⟨W1, W2, W3, g1, b2, g3, b4⟩ := h
  exact (((ho.kept g1 (.inr h1)).below b2).kept g3 (.inr h2)).below b4
def DoRes (B bz bt : Nat) (zv : Int) (T : Tr) (W : World) (e : Ending) (w' : World) : Prop :=
  e = .returned (.bool true) ∧ Chain bz bt W w' ∧ ∃ A c A2 c2, Boxed w' B bz bt (zv + 1) T A c A2 c2 ∧ (∀ q, (Value.slice A T.nodes.length c).ownBlock = some q → W.heap.size ≤ q) ∧ (∀ q, (Value.slice A2 T.sess.length c2).ownBlock = some q → W.heap.size ≤ q)
set_option maxRecDepth 100000 in
set_option maxHeartbeats 2000000 in
theorem trDo (T : Tr) (zv : Int) (r : Request) (B bz bt : Nat) (A : Option Addr) (c : Nat) (A2 : Option Addr) (c2 : Nat) (w : World) (h : Boxed w B bz bt zv T A c A2 c2) (hbt : bz ≠ bt) (hzv : 0 ≤ zv ∧ zv ≤ 1000) (hg : goodTree T = true) (hs : T.sess.length ≤ 5) (hr : r.path.size ≤ 100) (hp : prepE T (zv + 1) r = 0) (hBs : B ≤ w.heap.size) :
    Calls Tryd.prog 34 #[reqV r, .pointer (some ⟨bz, 0, none⟩), .pointer (some ⟨bt, 0, none⟩)] w (DoRes B bz bt zv (applyT T (prepX T (zv + 1) r)) w) := by
  have HH := Lib.hid h
  have g := (good_parts hg).1
  have hgl : T.nodes.length ≤ 400 := g.len
  have hgz : ∀ n ∈ T.nodes, n.path.size ≤ 9223372036854775807 := fun n hn => Nat.le_trans (goodP_size (g.path n hn).1).2 (by decide)
  have HPR := Lib.hid (fun (W : World) (v v2 : Value) (h : Sl cNode 9 W v T.nodes) (h2 : Sl cInt 1 W v2 T.sess) => trPrepare T.zxid v v2 T.nodes T.sess (zv + 1) r W h h2 (by omega) (by omega) hgz (by omega))
  unfold PrepIs at HPR
  obtain ⟨p1, p2, p3, p4, p5, p6, p7⟩ := prep_fits hp
  have hap := p1
  rw [show (⟨T.zxid, T.nodes, T.sess⟩ : Tr) = T from rfl, hp] at HPR
  generalize prepX T (zv + 1) r = X at *
  have hxp : X.path.size ≤ 9223372036854775807 := by
    obtain ⟨x1, x2, x3, x4, x5, x6, x7, x8, x9, x10, x11, x12⟩ := goodT_inv p6
    by_cases h2 : X.op ≤ 2
    · rw [(x7 h2).1]
      exact Nat.zero_le _
    · exact Nat.le_trans (goodP_size (x8 (by omega))).2 (by decide)
  have HAP := Lib.hid (fun (W : World) (v v2 : Value) (h : Sl cNode 9 W v T.nodes) (h2 : Sl cInt 1 W v2 T.sess) => trApply T.zxid v v2 T.nodes T.sess X W h h2 (by omega) (by omega) hgz hxp)
  unfold ApplyRes at HAP
  rw [show (⟨T.zxid, T.nodes, T.sess⟩ : Tr) = T from rfl, hap] at HAP
  generalize applyT T X = T' at *
  generalize applyV T X = V at *
  obtain ⟨ro, rs, rp, rd, rv, rf⟩ := r
  obtain ⟨xz, xo, xs, xp, xd, xv, xw⟩ := X
  have z0 : w.cell? ⟨bz, 0, none⟩ = some (.int .i64 zv) := h.zb.cell 0
  have zf : w.frozen? ⟨bz, 0, none⟩ = false := h.zb.frozen 0
  have hbz2 : bz < w.heap.size := h.zb.lt
  have hbt2 : bt < w.heap.size := h.tb.lt
  have t0 : w.cell? ⟨bt, 0, none⟩ = some (.int .i64 T.zxid) := h.tb.cell 0
  have t1 : w.cell? ⟨bt, 1, none⟩ = some (.slice A T.nodes.length c) := h.tb.cell 1
  have t2 : w.cell? ⟨bt, 2, none⟩ = some (.slice A2 T.sess.length c2) := h.tb.cell 2
  clear h p1 p2 p3 p4 p5 p6 p7 hap hp hg g hxp hgz hr
  go_enter Tryd.func34, Tryd.ntmps34
  go_upto_region 2 with fail
  refine gen_w (fun wa hwa => ?_)
  have hP1 : Below (w.setCell ⟨bz, 0, none⟩ (.int .i64 (zv + 1))).heap.size (w.setCell ⟨bz, 0, none⟩ (.int .i64 (zv + 1))) wa := by rw [hwa.out]; exact (by repeat (first | with_reducible exact Below.refl _ _ | with_reducible assumption | with_reducible exact below_d1 _ _ _ _ _ | with_reducible exact below_d2 _ _ _ _ _ _ _ _ | with_reducible exact below_d3 _ _ _ _ _ | with_reducible exact below_d4 _ _ _ _ _ _ _ _ | with_reducible exact below_d5 _ _ | with_reducible refine Below.drew ?_ | with_reducible refine Below.drewN' ?_ _ | with_reducible refine below_grow0 _ _ ?_ | with_reducible refine below_alloc0 _ ?_ | with_reducible refine Below.setCell ?_ ?_ _ | with_reducible refine Below.alloc ?_ ?_ _ | with_reducible refine Below.grow _ _ _ ?_ ?_ | omega | (simp; done) | (simp; omega)))
  have hs0 : (w.setCell ⟨bz, 0, none⟩ (.int .i64 (zv + 1))).heap.size = w.heap.size := by simp
  have HG1 := Lib.hid (grownBy_setCell w bz 0 (.int .i64 (zv + 1)))
  have HZ := Lib.hid ((HH.out.zb.put 0 (.int .i64 (zv + 1))).below hP1)
  have HT := Lib.hid (Bk.below (HH.out.tb.far (g2 := bz) (j := 0) (v := .int .i64 (zv + 1)) (fun e => hbt e.symm)) hP1)
  have HN := Lib.hid ((HH.out.nodes.far2 (g := bz) (j := 0) (u := .int .i64 (zv + 1)) HH.out.nz).below hP1)
  have HS := Lib.hid ((HH.out.sess.far2 (g := bz) (j := 0) (u := .int .i64 (zv + 1)) HH.out.sz).below hP1)
  have hr5 : w.heap.size < wa.heap.size := by rw [hwa.out]; simp
  have r0 : wa.cell? ⟨w.heap.size, 0, none⟩ = some (.int .i64 ro) := by rw [hwa.out]; exact newCell (by simp) rfl
  have r1 : wa.cell? ⟨w.heap.size, 1, none⟩ = some (.int .i64 rs) := by rw [hwa.out]; exact newCell (by simp) rfl
  have r2 : wa.cell? ⟨w.heap.size, 2, none⟩ = some (.string rp) := by rw [hwa.out]; exact newCell (by simp) rfl
  have r3 : wa.cell? ⟨w.heap.size, 3, none⟩ = some (.string rd) := by rw [hwa.out]; exact newCell (by simp) rfl
  have r4 : wa.cell? ⟨w.heap.size, 4, none⟩ = some (.int .i64 rv) := by rw [hwa.out]; exact newCell (by simp) rfl
  have r5 : wa.cell? ⟨w.heap.size, 5, none⟩ = some (.int .i64 rf) := by rw [hwa.out]; exact newCell (by simp) rfl
  have HP1 := Lib.hid hP1
  clear hwa z0 zf t0 t1 t2 hP1 HH
  have z0 : wa.cell? ⟨bz, 0, none⟩ = some (.int .i64 (zv + 1)) := HZ.out.cell 0
  have t0 : wa.cell? ⟨bt, 0, none⟩ = some (.int .i64 T.zxid) := HT.out.cell 0
  have t1 : wa.cell? ⟨bt, 1, none⟩ = some (.slice A T.nodes.length c) := HT.out.cell 1
  have t2 : wa.cell? ⟨bt, 2, none⟩ = some (.slice A2 T.sess.length c2) := HT.out.cell 2
  have hbz3 : bz < wa.heap.size := HZ.out.lt
  have hbt3 : bt < wa.heap.size := HT.out.lt
  go_upto_region 5 with (go_at_call 29; refine (HPR.out _ _ _ (HN.out.sl.below (by repeat (first | with_reducible exact Below.refl _ _ | with_reducible assumption | with_reducible exact below_d1 _ _ _ _ _ | with_reducible exact below_d2 _ _ _ _ _ _ _ _ | with_reducible exact below_d3 _ _ _ _ _ | with_reducible exact below_d4 _ _ _ _ _ _ _ _ | with_reducible exact below_d5 _ _ | with_reducible refine Below.drew ?_ | with_reducible refine Below.drewN' ?_ _ | with_reducible refine below_grow0 _ _ ?_ | with_reducible refine below_alloc0 _ ?_ | with_reducible refine Below.setCell ?_ ?_ _ | with_reducible refine Below.alloc ?_ ?_ _ | with_reducible refine Below.grow _ _ _ ?_ ?_ | omega | (simp; done) | (simp; omega)))) (HS.out.sl.below (by repeat (first | with_reducible exact Below.refl _ _ | with_reducible assumption | with_reducible exact below_d1 _ _ _ _ _ | with_reducible exact below_d2 _ _ _ _ _ _ _ _ | with_reducible exact below_d3 _ _ _ _ _ | with_reducible exact below_d4 _ _ _ _ _ _ _ _ | with_reducible exact below_d5 _ _ | with_reducible refine Below.drew ?_ | with_reducible refine Below.drewN' ?_ _ | with_reducible refine below_grow0 _ _ ?_ | with_reducible refine below_alloc0 _ ?_ | with_reducible refine Below.setCell ?_ ?_ _ | with_reducible refine Below.alloc ?_ ?_ _ | with_reducible refine Below.grow _ _ _ ?_ ?_ | omega | (simp; done) | (simp; omega))))).mono ?_; rintro e w1 ⟨rfl, hb⟩; obtain ⟨ext1, d1, rfl⟩ := Below.grown_eq _ hb; clear hb)
  refine gen_w (fun wb hwb => ?_)
  have hbb : Below wa.heap.size wa wb := by rw [hwb.out]; exact (by repeat (first | with_reducible exact Below.refl _ _ | with_reducible assumption | with_reducible exact below_d1 _ _ _ _ _ | with_reducible exact below_d2 _ _ _ _ _ _ _ _ | with_reducible exact below_d3 _ _ _ _ _ | with_reducible exact below_d4 _ _ _ _ _ _ _ _ | with_reducible exact below_d5 _ _ | with_reducible refine Below.drew ?_ | with_reducible refine Below.drewN' ?_ _ | with_reducible refine below_grow0 _ _ ?_ | with_reducible refine below_alloc0 _ ?_ | with_reducible refine Below.setCell ?_ ?_ _ | with_reducible refine Below.alloc ?_ ?_ _ | with_reducible refine Below.grow _ _ _ ?_ ?_ | omega | (simp; done) | (simp; omega)))
  have hlx : wa.heap.size + ext1.size < wb.heap.size := by rw [hwb.out]; simp
  have x0 : wb.cell? ⟨wa.heap.size + ext1.size, 0, none⟩ = some (.int .i64 xz) := by rw [hwb.out]; exact newCell (by simp) rfl
  have x1 : wb.cell? ⟨wa.heap.size + ext1.size, 1, none⟩ = some (.int .i64 xo) := by rw [hwb.out]; exact newCell (by simp) rfl
  have x2 : wb.cell? ⟨wa.heap.size + ext1.size, 2, none⟩ = some (.int .i64 xs) := by rw [hwb.out]; exact newCell (by simp) rfl
  have x3 : wb.cell? ⟨wa.heap.size + ext1.size, 3, none⟩ = some (.string xp) := by rw [hwb.out]; exact newCell (by simp) rfl
  have x4 : wb.cell? ⟨wa.heap.size + ext1.size, 4, none⟩ = some (.string xd) := by rw [hwb.out]; exact newCell (by simp) rfl
  have x5 : wb.cell? ⟨wa.heap.size + ext1.size, 5, none⟩ = some (.int .i64 xv) := by rw [hwb.out]; exact newCell (by simp) rfl
  have x6 : wb.cell? ⟨wa.heap.size + ext1.size, 6, none⟩ = some (.int .i64 xw) := by rw [hwb.out]; exact newCell (by simp) rfl
  generalize wa.heap.size + ext1.size = bx at *
  have HZ2 := Lib.hid (HZ.out.below hbb)
  have HT2 := Lib.hid (HT.out.below hbb)
  have HN2 := Lib.hid (HN.out.below hbb)
  have HS2 := Lib.hid (HS.out.below hbb)
  have HBB := Lib.hid hbb
  have hbs := hbb.size
  clear hwb hbb HZ HT HN HS z0 t0 t1 t2 r0 r1 r2 r3 r4 r5 HPR
  have t0 : wb.cell? ⟨bt, 0, none⟩ = some (.int .i64 T.zxid) := HT2.out.cell 0
  have t1 : wb.cell? ⟨bt, 1, none⟩ = some (.slice A T.nodes.length c) := HT2.out.cell 1
  have t2 : wb.cell? ⟨bt, 2, none⟩ = some (.slice A2 T.sess.length c2) := HT2.out.cell 2
  have f0 : wb.frozen? ⟨bt, 0, none⟩ = false := HT2.out.frozen 0
  have f1 : wb.frozen? ⟨bt, 1, none⟩ = false := HT2.out.frozen 1
  have f2 : wb.frozen? ⟨bt, 2, none⟩ = false := HT2.out.frozen 2
  have hbt4 : bt < wb.heap.size := HT2.out.lt
  have hbz4 : bz < wb.heap.size := HZ2.out.lt
  go_upto_region 6 with (go_at_call 23; (with_reducible refine (HAP.out _ _ _ (HN2.out.sl.below (by repeat (first | with_reducible exact Below.refl _ _ | with_reducible assumption | with_reducible exact below_d1 _ _ _ _ _ | with_reducible exact below_d2 _ _ _ _ _ _ _ _ | with_reducible exact below_d3 _ _ _ _ _ | with_reducible exact below_d4 _ _ _ _ _ _ _ _ | with_reducible exact below_d5 _ _ | with_reducible refine Below.drew ?_ | with_reducible refine Below.drewN' ?_ _ | with_reducible refine below_grow0 _ _ ?_ | with_reducible refine below_alloc0 _ ?_ | with_reducible refine Below.setCell ?_ ?_ _ | with_reducible refine Below.alloc ?_ ?_ _ | with_reducible refine Below.grow _ _ _ ?_ ?_ | omega | (simp; done) | (simp; omega)))) (HS2.out.sl.below (by repeat (first | with_reducible exact Below.refl _ _ | with_reducible assumption | with_reducible exact below_d1 _ _ _ _ _ | with_reducible exact below_d2 _ _ _ _ _ _ _ _ | with_reducible exact below_d3 _ _ _ _ _ | with_reducible exact below_d4 _ _ _ _ _ _ _ _ | with_reducible exact below_d5 _ _ | with_reducible refine Below.drew ?_ | with_reducible refine Below.drewN' ?_ _ | with_reducible refine below_grow0 _ _ ?_ | with_reducible refine below_alloc0 _ ?_ | with_reducible refine Below.setCell ?_ ?_ _ | with_reducible refine Below.alloc ?_ ?_ _ | with_reducible refine Below.grow _ _ _ ?_ ?_ | omega | (simp; done) | (simp; omega))))).mono ?_); rintro e w3 ⟨nv, sv, vv, rfl, hn3, hs3, hv3, hb3⟩; obtain ⟨A7, c7, rfl, _⟩ := hn3.form; obtain ⟨A8, c8, rfl, _⟩ := hs3.form; obtain ⟨A9, c9, rfl, _⟩ := hv3.form; obtain ⟨ext3, d3, rfl⟩ := Below.grown_eq _ hb3; have HN3 := Lib.hid hn3; have HS3 := Lib.hid hs3; clear hn3 hs3 hv3 hb3)
  refine gen_w (fun wd hwd => ?_)
  obtain ⟨W3, hW3⟩ : ∃ W3, W3 = ((wb.setCell ⟨bt, 0, none⟩ (.int .i64 T'.zxid)).setCell ⟨bt, 1, none⟩ (.slice A7 T'.nodes.length c7)).setCell ⟨bt, 2, none⟩ (.slice A8 T'.sess.length c8) := ⟨_, rfl⟩
  have hW3s : W3.heap.size = wb.heap.size := by rw [hW3]; simp
  have hwd3 : wd = grow W3 ext3 d3 := by rw [hwd.out, hW3]
  have HG3 := Lib.hid (show wb.grownBy W3 (some bt) by rw [hW3]; exact ((grownBy_setCell wb bt 0 _).trans (grownBy_setCell _ bt 1 _)).trans (grownBy_setCell _ bt 2 _))
  have hP3 : Below W3.heap.size W3 wd := by rw [hwd3]; exact (by repeat (first | with_reducible exact Below.refl _ _ | with_reducible assumption | with_reducible exact below_d1 _ _ _ _ _ | with_reducible exact below_d2 _ _ _ _ _ _ _ _ | with_reducible exact below_d3 _ _ _ _ _ | with_reducible exact below_d4 _ _ _ _ _ _ _ _ | with_reducible exact below_d5 _ _ | with_reducible refine Below.drew ?_ | with_reducible refine Below.drewN' ?_ _ | with_reducible refine below_grow0 _ _ ?_ | with_reducible refine below_alloc0 _ ?_ | with_reducible refine Below.setCell ?_ ?_ _ | with_reducible refine Below.alloc ?_ ?_ _ | with_reducible refine Below.grow _ _ _ ?_ ?_ | omega | (simp; done) | (simp; omega)))
  have HT3 := Lib.hid (show Bk wd bt [.int .i64 T'.zxid, .slice A7 T'.nodes.length c7, .slice A8 T'.sess.length c8] 25 from Bk.below (hW3 ▸ (((HT2.out.put 0 (.int .i64 T'.zxid)).put 1 (.slice A7 T'.nodes.length c7)).put 2 (.slice A8 T'.sess.length c8))) hP3)
  have HZ3 := Lib.hid (show Bk wd bz [.int .i64 (zv + 1)] 3 from Bk.below (hW3 ▸ (((HZ2.out.far (g2 := bt) (j := 0) (v := .int .i64 T'.zxid) hbt).far (g2 := bt) (j := 1) (v := .slice A7 T'.nodes.length c7) hbt).far (g2 := bt) (j := 2) (v := .slice A8 T'.sess.length c8) hbt)) hP3)
  have HN4 := Lib.hid (show Ow cNode 9 40 wd wb.heap.size (.slice A7 T'.nodes.length c7) T'.nodes from by
    refine Ow.moved (W' := W3) (d' := d3) HN3.out (Nat.le_refl _) ?_ hW3s
    rw [hwd3]
    exact Below.refl _ _)
  have HS4 := Lib.hid (show Ow cInt 1 3 wd wb.heap.size (.slice A8 T'.sess.length c8) T'.sess from by
    refine Ow.moved (W' := W3) (d' := d3) HS3.out (Nat.le_refl _) ?_ hW3s
    rw [hwd3]
    exact Below.refl _ _)
  have HP3 := Lib.hid hP3
  have hww : w.heap.size ≤ wb.heap.size := by have := HP1.out.size; omega
  have hBw : B ≤ wb.heap.size := Nat.le_trans hBs hww
  clear hwd hwd3 hW3 hP3 t0 t1 t2 f0 f1 f2 x0 x1 x2 x3 x4 x5 x6 HAP
  go_wp2_with fail
  go_ret
  exact ⟨rfl, ⟨_, wb, W3, HG1.out, HP1.out.trans (HBB.out.mono HP1.out.size), HG3.out, HP3.out⟩, A7, c7, A8, c8, ⟨HZ3.out, HT3.out, HN4.out.mono hBw, HS4.out.mono hBw, own_not HN4.out hbz4, own_not HN4.out hbt4, own_not HS4.out hbz4, own_not HS4.out hbt4⟩, fun q hq => Nat.le_trans hww (HN4.out.own_in hq).1, fun q hq => Nat.le_trans hww (HS4.out.own_in hq).1⟩
end Go.Proofs.YteolglmifimnaaaDoor

/- The line of five sessions: what holds in each round. -/
namespace Go.Proofs.YteolglmifimnaaaDoor
open Go.RowKit Go.ChangeShapes Go.WideShapes Go.ChangeAt
theorem Boxed.kept {w w' : World} {B bz bt : Nat} {zv : Int} {T : Tr} {A : Option Addr} {c : Nat} {A2 : Option Addr} {c2 : Nat} {row : Option Nat} (h : Boxed w B bz bt zv T A c A2 c2) (hg : w.grownBy w' row) (h1 : row ≠ some bz) (h2 : row ≠ some bt)
    (h3 : ∀ q, row = some q → (Value.slice A T.nodes.length c).ownBlock ≠ some q) (h4 : ∀ q, row = some q → (Value.slice A2 T.sess.length c2).ownBlock ≠ some q) : Boxed w' B bz bt zv T A c A2 c2 := by
  refine ⟨h.zb.grown hg (fun e => h1 e.symm), h.tb.grown hg (fun e => h2 e.symm), h.nodes.kept hg ?_, h.sess.kept hg ?_, h.nz, h.nt, h.sz, h.st⟩
  · cases hn : (Value.slice A T.nodes.length c).ownBlock with
    | none => exact .inl rfl
    | some q => exact .inr (fun e => h3 q e.symm hn)
  · cases hn : (Value.slice A2 T.sess.length c2).ownBlock with
    | none => exact .inl rfl
    | some q => exact .inr (fun e => h4 q e.symm hn)
structure LoopQ (wr : World) (B bz bt : Nat) (k : Nat) (zv lst : Int) (T : Tr) (A1 : Option Addr) (c1 : Nat) (A2 : Option Addr) (c2 : Nat) (Al : Option Addr) (cl : Nat) : Prop where
  qu : Qu T zv k
  low : lst ≤ zv ∧ ∀ n ∈ ownL T.nodes, lst ≤ n.czxid
  bx : Boxed wr B bz bt zv T A1 c1 A2 c2
  row : Ow cInt 1 3 wr B (.slice Al (ownL T.nodes).length cl) ((ownL T.nodes).map Node.owner)
  lz : (Value.slice Al (ownL T.nodes).length cl).ownBlock ≠ some bz
  lt : (Value.slice Al (ownL T.nodes).length cl).ownBlock ≠ some bt
  dn : ∀ q, (Value.slice Al (ownL T.nodes).length cl).ownBlock = some q → (Value.slice A1 T.nodes.length c1).ownBlock ≠ some q
  ds : ∀ q, (Value.slice Al (ownL T.nodes).length cl).ownBlock = some q → (Value.slice A2 T.sess.length c2).ownBlock ≠ some q
section
variable {wr X1 w3 X w2 : World} {B bz bt k : Nat} {zv lst s : Int} {T T' : Tr} {A1 A2 A3 A4 Al Al' : Option Addr} {c1 c2 c3 c4 cl cl' : Nat} {x : Node}
theorem LoopQ.below (h : LoopQ wr B bz bt k zv lst T A1 c1 A2 c2 Al cl) (hb : Below wr.heap.size wr w2) : LoopQ w2 B bz bt k zv lst T A1 c1 A2 c2 Al cl :=
  ⟨h.qu, h.low, h.bx.below hb, h.row.below hb, h.lz, h.lt, h.dn, h.ds⟩
theorem LoopQ.ask_step (h : LoopQ wr B bz bt k zv lst T A1 c1 A2 c2 Al cl) (hX1 : Below wr.heap.size wr X1) (hch : Chain bz bt X1 w3) (hbx : Boxed w3 B bz bt (zv + 1) T' A3 c3 A4 c4)
    (f1 : ∀ q, (Value.slice A3 T'.nodes.length c3).ownBlock = some q → X1.heap.size ≤ q) (f2 : ∀ q, (Value.slice A4 T'.sess.length c4).ownBlock = some q → X1.heap.size ≤ q) (hX : Below w3.heap.size w3 X)
    (hown : Ow cInt 1 3 w2 B (.slice Al' ((ownL T.nodes).map Node.owner ++ [s]).length cl') ((ownL T.nodes).map Node.owner ++ [s])) (hg : X.grownBy w2 (Value.slice Al (ownL T.nodes).length cl).ownBlock)
    (hat : (Value.slice Al' ((ownL T.nodes).map Node.owner ++ [s]).length cl').ownBlock = (Value.slice Al (ownL T.nodes).length cl).ownBlock ∨ (Value.slice Al' ((ownL T.nodes).map Node.owner ++ [s]).length cl').ownBlock = some X.heap.size)
    (hqu : Qu T' (zv + 1) (k + 1)) (hx : ownL T'.nodes = ownL T.nodes ++ [x]) (hxo : x.owner = s) (hxz : x.czxid = zv + 1) : LoopQ w2 B bz bt (k + 1) (zv + 1) lst T' A3 c3 A4 c4 Al' cl' := by
  have hl : ((ownL T.nodes).map Node.owner ++ [s]).length = (ownL T'.nodes).length := by rw [hx]; simp
  have hm : (ownL T.nodes).map Node.owner ++ [s] = (ownL T'.nodes).map Node.owner := by rw [hx, List.map_append]; simp [hxo]
  rw [hl] at hown hat
  rw [hm] at hown
  have hbX := hbx.below hX
  have hlt1 : ∀ q, (Value.slice Al (ownL T.nodes).length cl).ownBlock = some q → q < wr.heap.size := fun q hq => h.row.lt q hq
  have hs1 := hX1.size
  have hs3 := hch.size
  have hsX := hX.size
  have hn3 : ∀ q, (Value.slice A3 T'.nodes.length c3).ownBlock = some q → q < w3.heap.size := fun q hq => hbx.nodes.lt q hq
  have hn4 : ∀ q, (Value.slice A4 T'.sess.length c4).ownBlock = some q → q < w3.heap.size := fun q hq => hbx.sess.lt q hq
  have hbk : Boxed w2 B bz bt (zv + 1) T' A3 c3 A4 c4 := by
    refine hbX.kept hg h.lz h.lt (fun q hq e => ?_) (fun q hq e => ?_)
    · have := hlt1 q hq
      have := f1 q e
      omega
    · have := hlt1 q hq
      have := f2 q e
      omega
  refine ⟨hqu, ⟨by have := h.low.1; omega, fun n hn => ?_⟩, hbk, hown, ?_, ?_, fun q hq e => ?_, fun q hq e => ?_⟩
  · rw [hx, List.mem_append, List.mem_singleton] at hn
    rcases hn with hn | rfl
    · exact h.low.2 n hn
    · have := h.low.1
      omega
  · rcases hat with e | e
    · rw [e]; exact h.lz
    · rw [e]; intro e2; injection e2 with e2
      have := hbX.zb.lt
      omega
  · rcases hat with e | e
    · rw [e]; exact h.lt
    · rw [e]; intro e2; injection e2 with e2
      have := hbX.tb.lt
      omega
  · rcases hat with e2 | e2
    · rw [e2] at hq
      have := hlt1 q hq
      have := f1 q e
      omega
    · rw [e2] at hq
      injection hq with hq
      have := hn3 q e
      omega
  · rcases hat with e2 | e2
    · rw [e2] at hq
      have := hlt1 q hq
      have := f2 q e
      omega
    · rw [e2] at hq
      injection hq with hq
      have := hn4 q e
      omega
theorem LoopQ.close_step {z' : Int} (h : LoopQ wr B bz bt k zv lst T A1 c1 A2 c2 Al cl) (hbx : Boxed w3 B bz bt z' T' A3 c3 A4 c4) (hX : Below w3.heap.size w3 w2) (hBs : B ≤ w3.heap.size)
    (hown : Ow cInt 1 3 w2 w3.heap.size (.slice Al' (((ownL T.nodes).map Node.owner).filter (fun o => decide (o ≠ s))).length cl') (((ownL T.nodes).map Node.owner).filter (fun o => decide (o ≠ s))))
    (hz : zv ≤ z') (hqu : Qu T' z' (k + 1)) (hx : ownL T'.nodes = (ownL T.nodes).filter (fun n => decide (n.owner ≠ s))) : LoopQ w2 B bz bt (k + 1) z' lst T' A3 c3 A4 c4 Al' cl' := by
  have hm : ((ownL T.nodes).map Node.owner).filter (fun o => decide (o ≠ s)) = (ownL T'.nodes).map Node.owner := by rw [hx, List.filter_map]; rfl
  have hl : (((ownL T.nodes).map Node.owner).filter (fun o => decide (o ≠ s))).length = (ownL T'.nodes).length := by rw [hm, List.length_map]
  rw [hl, hm] at hown
  refine ⟨hqu, ⟨by have := h.low.1; omega, fun n hn => ?_⟩, hbx.below hX, hown.mono hBs, own_not hown hbx.zb.lt, own_not hown hbx.tb.lt, fun q hq e => ?_, fun q hq e => ?_⟩
  · rw [hx, List.mem_filter] at hn
    exact h.low.2 n hn.1
  · have h1 := (hown.own_in hq).1
    have h2 := hbx.nodes.lt q e
    omega
  · have h1 := (hown.own_in hq).1
    have h2 := hbx.sess.lt q e
    omega
end
end Go.Proofs.YteolglmifimnaaaDoor

/- A slice of strings, as the walk reads it. -/
namespace Go.Proofs.YteolglmifimnaaaDoor
open Go.RowKit
theorem Sl.str_at {w : World} {A : Option Addr} {n c : Nat} {l : List ByteArray} (h : Sl cStr 1 w (.slice A n c) l) {i : Nat} {x : ByteArray} (hx : l[i]? = some x) : ∃ b off, A = some ⟨b, off, none⟩ ∧ b < w.heap.size ∧ w.cell? ⟨b, off + i, none⟩ = some (.string x) := by
  obtain ⟨b, off, rfl, hb, hc⟩ := h.at_ hx
  refine ⟨b, off, rfl, hb, ?_⟩
  have := hc 0 _ rfl
  simpa using this
end Go.Proofs.YteolglmifimnaaaDoor

/- package recipe: serial, slices.Index at []string. -/
namespace Go.Proofs.YteolglmifimnaaaDoor
open Go.RowKit Go.ChangeShapes Go.WideShapes Go.ChangeAt
def idxV (l : List ByteArray) (s : ByteArray) : Int := if firstAt l s < l.length then (firstAt l s : Nat) else -1
theorem first_is {l : List ByteArray} {s : ByteArray} {k : Nat} (h : l[k]? = some s) (hno : ∀ x ∈ l.take k, x ≠ s) : firstAt l s = k := by
  obtain ⟨hk, hx⟩ := List.getElem?_eq_some_iff.1 h
  unfold firstAt
  rw [List.findIdx_eq hk]
  refine ⟨decide_eq_true hx, fun j hj => decide_eq_false (fun e => ?_)⟩
  exact hno l[j] (List.mem_take_iff_getElem.2 ⟨j, by omega, rfl⟩) e
theorem first_none {l : List ByteArray} {s : ByteArray} (hno : ∀ x ∈ l, x ≠ s) : firstAt l s = l.length := by
  unfold firstAt
  rw [List.findIdx_eq_length]
  intro x hx
  exact decide_eq_false (hno x hx)
set_option maxHeartbeats 1000000 in
theorem idxStr (v : Value) (l : List ByteArray) (s : ByteArray) (w : World) (h : Sl cStr 1 w v l) (hn : l.length ≤ 140737488355328) :
    Calls Tryd.prog 41 #[v, .string s] w fun e w' => e = .returned (.int .i64 (idxV l s)) ∧ w' = w := by
  obtain ⟨A, c, rfl, h1, h2⟩ := h.form
  have H := Lib.hid h
  clear h
  go_enter Tryd.func41, Tryd.ntmps41
  go_wp2_with fail
  go_loopw [8] (fun i wr => ∃ k : Nat, k ≤ l.length ∧ i = .int .i64 k ∧ wr = w ∧ Hid (∀ x ∈ l.take k, x ≠ s)) (fun i _ => l.length - (intOf i).toNat)
  case atStart => exact ⟨0, Nat.zero_le _, rfl, rfl, Lib.hid (by simp)⟩
  case round =>
    obtain ⟨k, hk, rfl, rfl, hno⟩ := hrel
    by_cases hlt : k < l.length
    · have hx : l[k]? = some (l[k]'hlt) := List.getElem?_eq_getElem _
      have htk : l.take (k + 1) = l.take k ++ [l[k]'hlt] := by rw [List.take_add_one, hx]; rfl
      obtain ⟨bk, off, rfl, hbk, c0⟩ := H.out.str_at hx
      generalize l[k]'hlt = g at *
      by_cases hg : g = s
      · subst hg
        have hf := first_is hx hno.out
        have HF := Lib.hid (show idxV l g = (k : Nat) by unfold idxV; rw [hf, if_pos hlt])
        clear hx htk hf hno
        go_wp2_with fail
        go_ret
        exact ⟨by rw [HF.out]; rfl, rfl⟩
      · have HN := Lib.hid (show ∀ x ∈ l.take (k + 1), x ≠ s by
          intro x hx2
          rw [htk, List.mem_append, List.mem_singleton] at hx2
          rcases hx2 with h | rfl
          · exact hno.out x h
          · exact hg)
        have hne := ne_bytes hg
        have hne2 : (s.toList == g.toList) = false := ne_bytes (fun e => hg e.symm)
        clear hx htk hg hno
        go_wp2_with fail
        go_roundw
        case rel => exact ⟨k + 1, by omega, by go_num, by first | rfl | trivial, HN⟩
        case measure => simp [intOf]; omega
    · have hk' : k = l.length := by omega
      subst hk'
      have h9 := hno.out
      rw [List.take_length] at h9
      have HF := Lib.hid (show idxV l s = -1 by unfold idxV; rw [first_none h9, if_neg (Nat.lt_irrefl _)])
      clear h9 hno
      go_wp2_with fail
      go_ret
      exact ⟨by rw [HF.out]; rfl, rfl⟩
def SerIs (name s : ByteArray) (w : World) (e : Ending) (w' : World) : Prop := ∃ n : Int, e = .returned (.tuple #[.int .i64 n, .bool (serB name s)]) ∧ Below w.heap.size w w'
set_option maxHeartbeats 2000000 in
theorem trSer (s name : ByteArray) (w : World) (hs : s.size ≤ 140737488351232) :
    Calls Tryd.prog 40 #[.string s, .string name] w (SerIs name s w) := by
  have HCP := Lib.hid (fun (W : World) => Tryd.strings_CutPrefix s name W)
  unfold SerIs
  have hb : serB name s = (Lib.hasPrefix s.data.toList name.data.toList && (decide (s.size = name.size + 10) && ((bs s).drop name.size).all digit)) := rfl
  cases hpr : Lib.hasPrefix s.data.toList name.data.toList with
  | false =>
    rw [hpr, Bool.false_and] at hb
    rw [hb]
    rw [hpr] at HCP
    clear hb hpr
    generalize (⟨(Lib.trimPrefix s.data.toList name.data.toList).toArray⟩ : ByteArray) = t at *
    go_enter Tryd.func40, Tryd.ntmps40
    go_wp2_with (go_at_call 61; refine (HCP.out _).mono ?_; rintro e w1 ⟨rfl, hw⟩; obtain rfl := hw.symm; clear hw)
    go_ret2
    exact ⟨0, rfl, (by repeat (first | with_reducible exact Below.refl _ _ | with_reducible assumption | with_reducible exact below_d1 _ _ _ _ _ | with_reducible exact below_d2 _ _ _ _ _ _ _ _ | with_reducible exact below_d3 _ _ _ _ _ | with_reducible exact below_d4 _ _ _ _ _ _ _ _ | with_reducible exact below_d5 _ _ | with_reducible refine Below.drew ?_ | with_reducible refine Below.drewN' ?_ _ | with_reducible refine below_grow0 _ _ ?_ | with_reducible refine below_alloc0 _ ?_ | with_reducible refine Below.setCell ?_ ?_ _ | with_reducible refine Below.alloc ?_ ?_ _ | with_reducible refine Below.grow _ _ _ ?_ ?_ | omega | (simp; done) | (simp; omega)))⟩
  | true =>
    rw [hpr, Bool.true_and] at hb
    rw [hpr] at HCP
    have htb : bs ⟨(Lib.trimPrefix s.data.toList name.data.toList).toArray⟩ = (bs s).drop name.size := by
      show Lib.trimPrefix s.data.toList name.data.toList = _
      unfold Lib.trimPrefix
      rw [if_pos hpr, show name.data.toList.length = name.size from length_bs name]
      rfl
    have hle : name.size ≤ s.size := by
      have h9 := Lib.hasPrefix_of_take s.data.toList name.data.toList
      rw [hpr, Bool.and_eq_true, decide_eq_true_iff, show name.data.toList.length = name.size from length_bs name, show s.data.toList.length = s.size from length_bs s] at h9
      exact h9.1
    generalize (⟨(Lib.trimPrefix s.data.toList name.data.toList).toArray⟩ : ByteArray) = t at *
    have htz : t.size = s.size - name.size := by rw [size_bs, htb, List.length_drop, length_bs]
    rw [← htb] at hb
    by_cases h10 : t.size = 10
    · rw [decide_eq_true (by omega), Bool.true_and] at hb
      rw [hb]
      have h10i : ((t.size : Int) != 10) = false := bne_eq_false_iff_eq.2 (by omega)
      have hconv := fun (w : World) => run_bytes_of_string (P := Tryd.prog) w 9 111 5 t Tryd.underlying9 Tryd.underlying111 Tryd.underlying5
      have HC := Lib.hid (fun (w : World) (cap e : Nat) (f : Nat × Nat) (j : Nat) (c : UInt8) (h : (bs t)[j]? = some c) => row_cell w t cap e f j c h)
      clear hb htb hle hpr htz
      go_enter Tryd.func40, Tryd.ntmps40
      go_wp2_with (go_at_call 61; refine (HCP.out _).mono ?_; rintro e w1 ⟨rfl, hw⟩; obtain rfl := hw.symm; clear hw)
      have HC1 := Lib.hid (fun (j : Nat) (c : UInt8) (h : (bs t)[j]? = some c) => show ((w.alloc (.cells (bytesRow t (grownCap w 10 0 5)) 5 ((bytesRow t (grownCap w 10 0 5)).size, (bytesRow t (grownCap w 10 0 5)).size + 1))).drew).cell? ⟨w.heap.size, j, none⟩ = some (.int .u8 (c.toNat : Int)) from HC.out w _ _ _ j c h)
      have hB1 : Below w.heap.size w ((w.alloc (.cells (bytesRow t (grownCap w 10 0 5)) 5 ((bytesRow t (grownCap w 10 0 5)).size, (bytesRow t (grownCap w 10 0 5)).size + 1))).drew) := (by repeat (first | exact Below.refl _ _ | assumption | refine Below.drew ?_ | refine Below.drewN' ?_ _ | refine below_grow0 _ _ ?_ | refine below_alloc0 _ ?_ | refine Below.alloc ?_ (by first | omega | (simp; done) | (simp; omega)) _ | refine Below.setCell ?_ (by first | omega | (simp; done) | (simp; omega)) _ | refine Below.grow _ _ _ ?_ (by first | omega | (simp; done) | (simp; omega))))
      generalize ((w.alloc (.cells (bytesRow t (grownCap w 10 0 5)) 5 ((bytesRow t (grownCap w 10 0 5)).size, (bytesRow t (grownCap w 10 0 5)).size + 1))).drew) = W1 at *
      generalize grownCap w 10 0 5 = cap at *
      go_loopw [8, 27] (fun n i wr => ∃ k : Nat, k ≤ t.size ∧ n = .int .i64 (valD ((bs t).take k)) ∧ i = .int .i64 k ∧ wr = W1 ∧ Hid (((bs t).take k).all digit = true)) (fun _ i _ => t.size - (intOf i).toNat)
      case atStart => exact ⟨0, Nat.zero_le _, rfl, rfl, rfl, Lib.hid rfl⟩
      case round =>
        obtain ⟨k, hk, rfl, rfl, rfl, hd⟩ := hrel
        have hlen := length_bs t
        by_cases hlt : k < t.size
        · have hx : (bs t)[k]? = some ((bs t)[k]'(by omega)) := List.getElem?_eq_getElem _
          have hc := HC1.out k _ hx
          have htk : (bs t).take (k + 1) = (bs t).take k ++ [(bs t)[k]'(by omega)] := by rw [List.take_add_one, hx]; rfl
          have hmem : (bs t)[k]'(by omega) ∈ bs t := List.getElem_mem _
          generalize (bs t)[k]'(by omega) = c at *
          have hvl := valD_lt' (bs t) k hd.out (by omega)
          have hp : 10 ^ k ≤ 10 ^ 10 := Nat.pow_le_pow_right (by decide) (by omega)
          have hv9 : valD ((bs t).take k) < 10000000000 := Nat.lt_of_lt_of_le hvl hp
          have hc255 : c.toNat < 256 := c.toNat_lt
          cases hdc : digit c with
          | true =>
            have hcd : 48 ≤ c.toNat ∧ c.toNat ≤ 57 := by unfold digit at hdc; rwa [decide_eq_true_iff] at hdc
            have hval : ((valD ((bs t).take (k + 1)) : Nat) : Int) = (valD ((bs t).take k) : Int) * 10 + ((c.toNat : Int) - 48) := by rw [htk, valD_snoc]; omega
            have HV := Lib.hid hval
            have HD := Lib.hid (show ((bs t).take (k + 1)).all digit = true by rw [htk, List.all_append, hd.out]; simp [hdc])
            have hl1 : (decide ((c.toNat : Int) < 48)) = false := decide_eq_false (by omega)
            have hl2 : (decide ((57 : Int) < (c.toNat : Int))) = false := decide_eq_false (by omega)
            have hws : IntKind.u8.wrap ((c.toNat : Int) - 48) = (c.toNat : Int) - 48 := by unfold IntKind.wrap; simp [IntKind.signed, IntKind.bits]; omega
            generalize valD ((bs t).take k) = n at *
            clear hval htk hmem hx hvl hp
            go_wp2_with fail
            go_roundw
            case rel => exact ⟨k + 1, by omega, by rw [HV.out] <;> go_num, by go_num, by first | rfl | trivial, HD⟩
            case measure => simp [intOf]; omega
          | false =>
            have hno : (bs t).all digit = false := by rw [List.all_eq_false]; exact ⟨c, hmem, by simp [hdc]⟩
            have HNO := Lib.hid hno
            have hcd : c.toNat < 48 ∨ (48 ≤ c.toNat ∧ 57 < c.toNat) := by unfold digit at hdc; rw [decide_eq_false_iff_not] at hdc; omega
            generalize valD ((bs t).take k) = n at *
            clear htk hmem hx hvl hp hno
            rcases hcd with hcd | ⟨hcd1, hcd2⟩
            · have hl1 : (decide ((c.toNat : Int) < 48)) = true := decide_eq_true (by omega)
              go_wp2_with fail
              go_ret2
              exact ⟨0, by rw [HNO.out]; rfl, hB1⟩
            · have hl1 : (decide ((c.toNat : Int) < 48)) = false := decide_eq_false (by omega)
              have hl2 : (decide ((57 : Int) < (c.toNat : Int))) = true := decide_eq_true (by omega)
              go_wp2_with fail
              go_ret2
              exact ⟨0, by rw [HNO.out]; rfl, hB1⟩
        · have hk' : k = t.size := by omega
          subst hk'
          have hd1 := hd.out
          rw [List.take_of_length_le (by omega)] at hd1
          rw [List.take_of_length_le (by omega)]
          have HNO := Lib.hid hd1
          clear hd1 hd
          generalize valD (bs t) = n at *
          go_wp2_with fail
          go_ret2
          exact ⟨n, by rw [HNO.out]; rfl, hB1⟩
    · rw [decide_eq_false (by omega), Bool.false_and] at hb
      rw [hb]
      have h10i : ((t.size : Int) != 10) = true := bne_iff_ne.2 (by omega)
      clear hb htb htz hle hpr h10
      go_enter Tryd.func40, Tryd.ntmps40
      go_wp2_with (go_at_call 61; refine (HCP.out _).mono ?_; rintro e w1 ⟨rfl, hw⟩; obtain rfl := hw.symm; clear hw)
      go_ret2
      exact ⟨0, rfl, (by repeat (first | with_reducible exact Below.refl _ _ | with_reducible assumption | with_reducible exact below_d1 _ _ _ _ _ | with_reducible exact below_d2 _ _ _ _ _ _ _ _ | with_reducible exact below_d3 _ _ _ _ _ | with_reducible exact below_d4 _ _ _ _ _ _ _ _ | with_reducible exact below_d5 _ _ | with_reducible refine Below.drew ?_ | with_reducible refine Below.drewN' ?_ _ | with_reducible refine below_grow0 _ _ ?_ | with_reducible refine below_alloc0 _ ?_ | with_reducible refine Below.setCell ?_ ?_ _ | with_reducible refine Below.alloc ?_ ?_ _ | with_reducible refine Below.grow _ _ _ ?_ ?_ | omega | (simp; done) | (simp; omega)))⟩
end Go.Proofs.YteolglmifimnaaaDoor

/- package recipe: Line. -/
namespace Go.Proofs.YteolglmifimnaaaDoor
open Go.RowKit Go.ChangeShapes Go.WideShapes Go.ChangeAt
theorem split_ok' {p : ByteArray} (h : (splitR p).2.2 = 0) : goodP p = true ∧ p ≠ slash := by
  have hg : goodP p = true := by
    cases hg : goodP p with
    | true => rfl
    | false =>
      unfold splitR at h
      rw [hg] at h
      simp at h
  exact ⟨hg, (split_not hg).1 h⟩
theorem kid_size {l : List Node} {d s : ByteArray} (h : s ∈ kidsL l d) : s.size ≤ 40 := by
  unfold kidsL at h
  rw [List.mem_map] at h
  obtain ⟨n, hn, rfl⟩ := h
  have hk := (List.mem_filter.1 hn).2
  unfold kidB at hk
  rw [Bool.and_eq_true, decide_eq_true_iff] at hk
  obtain ⟨hg, hs⟩ := split_ok' hk.1
  have := (named_no (split_join hg hs).2.2.1).2.2
  rwa [length_bs] at this
def LineRes (t : Tr) (dir name : ByteArray) (w : World) (e : Ending) (w' : World) : Prop := ∃ A c, e = .returned (.tuple #[.slice A (lineL t dir name).length c, .int .i64 (lineE t dir name)]) ∧ Ow cStr 1 9 w' w.heap.size (.slice A (lineL t dir name).length c) (lineL t dir name) ∧ Below w.heap.size w w'
theorem filter_take {l : List ByteArray} {k : Nat} {x : ByteArray} (h : l[k]? = some x) (f : ByteArray → Bool) : (l.take (k + 1)).filter f = (l.take k).filter f ++ (if f x then [x] else []) := by
  rw [List.take_add_one, h, List.filter_append, Option.toList_some]
  cases hx : f x with
  | true => rw [if_pos rfl, List.filter_cons_of_pos hx]; rfl
  | false => rw [if_neg (by simp), List.filter_cons_of_neg (by simp [hx])]; rfl
set_option maxHeartbeats 2000000 in
theorem trLine (z : Int) (v v2 : Value) (l : List Node) (ss : List Int) (dir name : ByteArray) (w : World) (h : Sl cNode 9 w v l) (h2 : Sl cInt 1 w v2 ss) (hn : l.length * 16 ≤ 140737488355328) (hz : ∀ n ∈ l, n.path.size ≤ 200) (hnm : name.size ≤ 9223372036854775807) :
    Calls Tryd.prog 15 #[.agg #[.int .i64 z, v, v2], .string dir, .string name] w (LineRes ⟨z, l, ss⟩ dir name w) := by
  obtain ⟨A, c, rfl, h1, h1b⟩ := h.form
  obtain ⟨A2, c2, rfl, h3, h3b⟩ := h2.form
  have HV := Lib.hid h
  clear h h2
  have HKD := Lib.hid (fun (W : World) (h : Sl cNode 9 W (.slice A l.length c) l) => trKids z (.slice A l.length c) A2 ss.length c2 l dir W h (by omega) (fun n hn => Nat.le_trans (hz n hn) (by decide)))
  have HNM := Lib.hid (fun (W : World) => named_any name W hnm)
  have HKZ := Lib.hid (fun s (hs : s ∈ kidsL l dir) => kid_size hs)
  have hkl := kidsL_le l dir
  unfold KidsRes kidsR getE at HKD
  unfold LineRes lineL lineE
  simp only
  cases hh : hasN l dir with
  | false =>
    rw [hh] at HKD
    simp only [Bool.false_eq_true, if_false] at HKD ⊢
    clear hh HNM HKZ hkl
    go_enter Tryd.func15, Tryd.ntmps15
    go_wp2_with (go_at_call 26; (with_reducible refine (HKD.out _ (HV.out.below (by repeat (first | with_reducible exact Below.refl _ _ | with_reducible assumption | with_reducible exact below_d1 _ _ _ _ _ | with_reducible exact below_d2 _ _ _ _ _ _ _ _ | with_reducible exact below_d3 _ _ _ _ _ | with_reducible exact below_d4 _ _ _ _ _ _ _ _ | with_reducible exact below_d5 _ _ | with_reducible refine Below.drew ?_ | with_reducible refine Below.drewN' ?_ _ | with_reducible refine below_grow0 _ _ ?_ | with_reducible refine below_alloc0 _ ?_ | with_reducible refine Below.setCell ?_ ?_ _ | with_reducible refine Below.alloc ?_ ?_ _ | with_reducible refine Below.grow _ _ _ ?_ ?_ | omega | (simp; done) | (simp; omega))))).mono ?_); rintro e w3 ⟨A5, c5, rfl, hk3, hb3⟩; obtain ⟨ext3, d3, rfl⟩ := Below.grown_eq _ hb3; clear hb3 hk3)
    refine bodyPost_ret (v := .tuple #[.slice none 0 0, .int .i64 7]) (by simp [results, Tryd.results15, go_sem]) rfl ⟨none, 0, rfl, Ow.nil _ _ _ _ _, (by repeat (first | with_reducible exact Below.refl _ _ | with_reducible assumption | with_reducible exact below_d1 _ _ _ _ _ | with_reducible exact below_d2 _ _ _ _ _ _ _ _ | with_reducible exact below_d3 _ _ _ _ _ | with_reducible exact below_d4 _ _ _ _ _ _ _ _ | with_reducible exact below_d5 _ _ | with_reducible refine Below.drew ?_ | with_reducible refine Below.drewN' ?_ _ | with_reducible refine below_grow0 _ _ ?_ | with_reducible refine below_alloc0 _ ?_ | with_reducible refine Below.setCell ?_ ?_ _ | with_reducible refine Below.alloc ?_ ?_ _ | with_reducible refine Below.grow _ _ _ ?_ ?_ | omega | (simp; done) | (simp; omega)))⟩
  | true =>
    rw [hh] at HKD
    simp only [if_true] at HKD ⊢
    generalize kidsL l dir = K at *
    clear hh
    by_cases hne : name = ⟨#[]⟩
    · have hc : ¬ (name ≠ ⟨#[]⟩ ∧ named (bs name) = false) := fun e => e.1 hne
      simp only [if_neg hc, if_true]
      clear hc
      subst hne
      obtain ⟨name, hname⟩ : ∃ name : ByteArray, name = ⟨#[]⟩ := ⟨_, rfl⟩
      rw [← hname]
      have hnl : (name.toList == []) = true := by rw [hname, ByteArray.toList_eq]; rfl
      clear HNM hname
      go_enter Tryd.func15, Tryd.ntmps15
      go_upto_region 6 with (go_at_call 26; (with_reducible refine (HKD.out _ (HV.out.below (by repeat (first | with_reducible exact Below.refl _ _ | with_reducible assumption | with_reducible exact below_d1 _ _ _ _ _ | with_reducible exact below_d2 _ _ _ _ _ _ _ _ | with_reducible exact below_d3 _ _ _ _ _ | with_reducible exact below_d4 _ _ _ _ _ _ _ _ | with_reducible exact below_d5 _ _ | with_reducible refine Below.drew ?_ | with_reducible refine Below.drewN' ?_ _ | with_reducible refine below_grow0 _ _ ?_ | with_reducible refine below_alloc0 _ ?_ | with_reducible refine Below.setCell ?_ ?_ _ | with_reducible refine Below.alloc ?_ ?_ _ | with_reducible refine Below.grow _ _ _ ?_ ?_ | omega | (simp; done) | (simp; omega))))).mono ?_); rintro e w3 ⟨A5, c5, rfl, hk3, hb3⟩; have HKS := Lib.hid hk3.sl; obtain ⟨ext3, d3, rfl⟩ := Below.grown_eq _ hb3; clear hb3 hk3)
      refine gen_w (fun wa hwa => ?_)
      have hbwa : Below w.heap.size w wa := by rw [hwa.out]; exact (by repeat (first | with_reducible exact Below.refl _ _ | with_reducible assumption | with_reducible exact below_d1 _ _ _ _ _ | with_reducible exact below_d2 _ _ _ _ _ _ _ _ | with_reducible exact below_d3 _ _ _ _ _ | with_reducible exact below_d4 _ _ _ _ _ _ _ _ | with_reducible exact below_d5 _ _ | with_reducible refine Below.drew ?_ | with_reducible refine Below.drewN' ?_ _ | with_reducible refine below_grow0 _ _ ?_ | with_reducible refine below_alloc0 _ ?_ | with_reducible refine Below.setCell ?_ ?_ _ | with_reducible refine Below.alloc ?_ ?_ _ | with_reducible refine Below.grow _ _ _ ?_ ?_ | omega | (simp; done) | (simp; omega)))
      have HKW := Lib.hid (show Sl cStr 1 wa (.slice A5 K.length c5) K from by rw [hwa.out]; exact HKS.out.below (by repeat (first | with_reducible exact Below.refl _ _ | with_reducible assumption | with_reducible exact below_d1 _ _ _ _ _ | with_reducible exact below_d2 _ _ _ _ _ _ _ _ | with_reducible exact below_d3 _ _ _ _ _ | with_reducible exact below_d4 _ _ _ _ _ _ _ _ | with_reducible exact below_d5 _ _ | with_reducible refine Below.drew ?_ | with_reducible refine Below.drewN' ?_ _ | with_reducible refine below_grow0 _ _ ?_ | with_reducible refine below_alloc0 _ ?_ | with_reducible refine Below.setCell ?_ ?_ _ | with_reducible refine Below.alloc ?_ ?_ _ | with_reducible refine Below.grow _ _ _ ?_ ?_ | omega | (simp; done) | (simp; omega))))
      have hwa1 : w.heap.size ≤ wa.heap.size := hbwa.size
      clear hwa HKS
      go_wp2_with fail
      go_loopw [10, 33] (fun o i wr => ∃ (k : Nat) (A' : Option Addr) (c' : Nat) (ext : Array Obj) (d : Nat), k ≤ K.length ∧ i = .int .i64 k ∧ o = .slice A' ((K.take k).filter (serB name)).length c' ∧ wr = grow wa ext d ∧ Hid (Ow cStr 1 9 wr wa.heap.size (.slice A' ((K.take k).filter (serB name)).length c') ((K.take k).filter (serB name)))) (fun _ i _ => K.length - (intOf i).toNat)
      case atStart => exact ⟨0, none, 0, _, _, Nat.zero_le _, rfl, rfl, grown_of (by repeat (first | with_reducible exact Below.refl _ _ | with_reducible assumption | with_reducible exact below_d1 _ _ _ _ _ | with_reducible exact below_d2 _ _ _ _ _ _ _ _ | with_reducible exact below_d3 _ _ _ _ _ | with_reducible exact below_d4 _ _ _ _ _ _ _ _ | with_reducible exact below_d5 _ _ | with_reducible refine Below.drew ?_ | with_reducible refine Below.drewN' ?_ _ | with_reducible refine below_grow0 _ _ ?_ | with_reducible refine below_alloc0 _ ?_ | with_reducible refine Below.setCell ?_ ?_ _ | with_reducible refine Below.alloc ?_ ?_ _ | with_reducible refine Below.grow _ _ _ ?_ ?_ | omega | (simp; done) | (simp; omega))), Lib.hid (Ow.nil _ _ _ _ _)⟩
      case round =>
        obtain ⟨k, A', c', ext, d, hk, rfl, rfl, rfl, ho⟩ := hrel
        by_cases hlt : k < K.length
        · have hx : K[k]? = some (K[k]'hlt) := List.getElem?_eq_getElem _
          have hft := filter_take hx (serB name)
          have hfl : ((K.take k).filter (serB name)).length ≤ k := Nat.le_trans (List.length_filter_le _ _) (by rw [List.length_take]; omega)
          have hks := HKZ.out _ (List.mem_of_getElem? hx)
          obtain ⟨bk, off, rfl, hbk, c0⟩ := (HKW.out.below (w' := grow wa ext d) (by repeat (first | with_reducible exact Below.refl _ _ | with_reducible assumption | with_reducible exact below_d1 _ _ _ _ _ | with_reducible exact below_d2 _ _ _ _ _ _ _ _ | with_reducible exact below_d3 _ _ _ _ _ | with_reducible exact below_d4 _ _ _ _ _ _ _ _ | with_reducible exact below_d5 _ _ | with_reducible refine Below.drew ?_ | with_reducible refine Below.drewN' ?_ _ | with_reducible refine below_grow0 _ _ ?_ | with_reducible refine below_alloc0 _ ?_ | with_reducible refine Below.setCell ?_ ?_ _ | with_reducible refine Below.alloc ?_ ?_ _ | with_reducible refine Below.grow _ _ _ ?_ ?_ | omega | (simp; done) | (simp; omega)))).str_at hx
          generalize K[k]'hlt = g at *
          have HSR := Lib.hid (fun (W : World) => trSer g name W (by omega))
          have HFT := Lib.hid hft
          unfold SerIs at HSR
          clear hx hft hks
          generalize (K.take k).filter (serB name) = F at *
          cases hsb : serB name g with
          | true =>
            rw [hsb] at HSR HFT
            have HK1 := Lib.hid (show (K.take (k + 1)).filter (serB name) = F ++ [g] from HFT.out)
            clear HFT hsb
            go_wp2_with (first | (go_at_call 40; (with_reducible refine (HSR.out _).mono ?_); rintro e w3 ⟨n3, rfl, hb3⟩; obtain ⟨ext3, d3, rfl⟩ := Below.grown_eq _ hb3; clear hb3) | (at_builtin; refine wpList_app _ rfl (.tmp 44) (.tmp 46) _ rfl elStr (B := wa.heap.size) (l := F) (m := [g]) rfl rfl (ho.out.below (by repeat (first | with_reducible exact Below.refl _ _ | with_reducible assumption | with_reducible exact below_d1 _ _ _ _ _ | with_reducible exact below_d2 _ _ _ _ _ _ _ _ | with_reducible exact below_d3 _ _ _ _ _ | with_reducible exact below_d4 _ _ _ _ _ _ _ _ | with_reducible exact below_d5 _ _ | with_reducible refine Below.drew ?_ | with_reducible refine Below.drewN' ?_ _ | with_reducible refine below_grow0 _ _ ?_ | with_reducible refine below_alloc0 _ ?_ | with_reducible refine Below.setCell ?_ ?_ _ | with_reducible refine Below.alloc ?_ ?_ _ | with_reducible refine Below.grow _ _ _ ?_ ?_ | omega | (simp; done) | (simp; omega)))) (Sl.one_at cStr 1 _ _ _ rfl _ rfl (by omega) (by simp)) cStr_one (by simp [maxLen]; omega) (by simp; omega) (by simp <;> omega) ?_; intro v2 w2 hown2 hg2 hat2; obtain ⟨A2', c2', rfl, _⟩ := hown2.form; have HO2 := Lib.hid hown2; have HG2 : Hid (World.grownBy _ w2 (Value.slice A' F.length c').ownBlock) := Lib.hid hg2; clear hown2 hg2 hat2))
            have hwb : Below wa.heap.size wa w2 := Below.grown (by repeat (first | with_reducible exact Below.refl _ _ | with_reducible assumption | with_reducible exact below_d1 _ _ _ _ _ | with_reducible exact below_d2 _ _ _ _ _ _ _ _ | with_reducible exact below_d3 _ _ _ _ _ | with_reducible exact below_d4 _ _ _ _ _ _ _ _ | with_reducible exact below_d5 _ _ | with_reducible refine Below.drew ?_ | with_reducible refine Below.drewN' ?_ _ | with_reducible refine below_grow0 _ _ ?_ | with_reducible refine below_alloc0 _ ?_ | with_reducible refine Below.setCell ?_ ?_ _ | with_reducible refine Below.alloc ?_ ?_ _ | with_reducible refine Below.grow _ _ _ ?_ ?_ | omega | (simp; done) | (simp; omega))) HG2.out (by simp; omega) (fun g hg => (Ow.own_in ho.out hg).1)
            go_wp2_with fail
            go_roundw
            case rel => exact ⟨k + 1, A2', c2', _, _, by omega, by go_num, by rw [HK1.out]; simp, grown_of hwb, by rw [HK1.out]; exact HO2⟩
            case measure => simp [intOf]; omega
          | false =>
            rw [hsb] at HSR HFT
            have HK1 := Lib.hid (show (K.take (k + 1)).filter (serB name) = F from by have := HFT.out; simpa using this)
            clear HFT hsb
            go_wp2_with (go_at_call 40; (with_reducible refine (HSR.out _).mono ?_); rintro e w3 ⟨n3, rfl, hb3⟩; obtain ⟨ext3, d3, rfl⟩ := Below.grown_eq _ hb3; clear hb3)
            go_roundw
            case rel => exact ⟨k + 1, A', c', _, _, by omega, by go_num, by rw [HK1.out], grown_of (by repeat (first | with_reducible exact Below.refl _ _ | with_reducible assumption | with_reducible exact below_d1 _ _ _ _ _ | with_reducible exact below_d2 _ _ _ _ _ _ _ _ | with_reducible exact below_d3 _ _ _ _ _ | with_reducible exact below_d4 _ _ _ _ _ _ _ _ | with_reducible exact below_d5 _ _ | with_reducible refine Below.drew ?_ | with_reducible refine Below.drewN' ?_ _ | with_reducible refine below_grow0 _ _ ?_ | with_reducible refine below_alloc0 _ ?_ | with_reducible refine Below.setCell ?_ ?_ _ | with_reducible refine Below.alloc ?_ ?_ _ | with_reducible refine Below.grow _ _ _ ?_ ?_ | omega | (simp; done) | (simp; omega))), by rw [HK1.out]; exact Lib.hid (ho.out.below (by repeat (first | with_reducible exact Below.refl _ _ | with_reducible assumption | with_reducible exact below_d1 _ _ _ _ _ | with_reducible exact below_d2 _ _ _ _ _ _ _ _ | with_reducible exact below_d3 _ _ _ _ _ | with_reducible exact below_d4 _ _ _ _ _ _ _ _ | with_reducible exact below_d5 _ _ | with_reducible refine Below.drew ?_ | with_reducible refine Below.drewN' ?_ _ | with_reducible refine below_grow0 _ _ ?_ | with_reducible refine below_alloc0 _ ?_ | with_reducible refine Below.setCell ?_ ?_ _ | with_reducible refine Below.alloc ?_ ?_ _ | with_reducible refine Below.grow _ _ _ ?_ ?_ | omega | (simp; done) | (simp; omega))))⟩
            case measure => simp [intOf]; omega
        · have hkl : k = K.length := by omega
          subst hkl
          rw [List.take_length] at ho
          simp only [List.take_length]
          go_wp2_with fail
          refine bodyPost_ret (v := .tuple #[.slice A' (K.filter (serB name)).length c', .int .i64 0]) (by simp [results, Tryd.results15, go_sem]) rfl ⟨A', c', rfl, ho.out.mono hwa1, Below.own hbwa (by repeat (first | with_reducible exact Below.refl _ _ | with_reducible assumption | with_reducible exact below_d1 _ _ _ _ _ | with_reducible exact below_d2 _ _ _ _ _ _ _ _ | with_reducible exact below_d3 _ _ _ _ _ | with_reducible exact below_d4 _ _ _ _ _ _ _ _ | with_reducible exact below_d5 _ _ | with_reducible refine Below.drew ?_ | with_reducible refine Below.drewN' ?_ _ | with_reducible refine below_grow0 _ _ ?_ | with_reducible refine below_alloc0 _ ?_ | with_reducible refine Below.setCell ?_ ?_ _ | with_reducible refine Below.alloc ?_ ?_ _ | with_reducible refine Below.grow _ _ _ ?_ ?_ | omega | (simp; done) | (simp; omega)))⟩
    · have hnl : (name.toList == []) = false := beq_eq_false_iff_ne.2 (fun e => hne (eq_nil.1 e))
      by_cases hnt : named (bs name) = true
      · have hc : ¬ (name ≠ ⟨#[]⟩ ∧ named (bs name) = false) := fun e => by rw [hnt] at e; exact absurd e.2 (by decide)
        simp only [if_neg hc, if_true]
        rw [hnt] at HNM
        clear hne hnt hc
        go_enter Tryd.func15, Tryd.ntmps15
        go_upto_region 6 with (first | (go_at_call 26; (with_reducible refine (HKD.out _ (HV.out.below (by repeat (first | with_reducible exact Below.refl _ _ | with_reducible assumption | with_reducible exact below_d1 _ _ _ _ _ | with_reducible exact below_d2 _ _ _ _ _ _ _ _ | with_reducible exact below_d3 _ _ _ _ _ | with_reducible exact below_d4 _ _ _ _ _ _ _ _ | with_reducible exact below_d5 _ _ | with_reducible refine Below.drew ?_ | with_reducible refine Below.drewN' ?_ _ | with_reducible refine below_grow0 _ _ ?_ | with_reducible refine below_alloc0 _ ?_ | with_reducible refine Below.setCell ?_ ?_ _ | with_reducible refine Below.alloc ?_ ?_ _ | with_reducible refine Below.grow _ _ _ ?_ ?_ | omega | (simp; done) | (simp; omega))))).mono ?_); rintro e w3 ⟨A5, c5, rfl, hk3, hb3⟩; have HKS := Lib.hid hk3.sl; obtain ⟨ext3, d3, rfl⟩ := Below.grown_eq _ hb3; clear hb3 hk3) | (go_at_call 39; refine (HNM.out _).mono ?_; rintro e w1 ⟨rfl, rfl⟩; skip))
        refine gen_w (fun wa hwa => ?_)
        have hbwa : Below w.heap.size w wa := by rw [hwa.out]; exact (by repeat (first | with_reducible exact Below.refl _ _ | with_reducible assumption | with_reducible exact below_d1 _ _ _ _ _ | with_reducible exact below_d2 _ _ _ _ _ _ _ _ | with_reducible exact below_d3 _ _ _ _ _ | with_reducible exact below_d4 _ _ _ _ _ _ _ _ | with_reducible exact below_d5 _ _ | with_reducible refine Below.drew ?_ | with_reducible refine Below.drewN' ?_ _ | with_reducible refine below_grow0 _ _ ?_ | with_reducible refine below_alloc0 _ ?_ | with_reducible refine Below.setCell ?_ ?_ _ | with_reducible refine Below.alloc ?_ ?_ _ | with_reducible refine Below.grow _ _ _ ?_ ?_ | omega | (simp; done) | (simp; omega)))
        have HKW := Lib.hid (show Sl cStr 1 wa (.slice A5 K.length c5) K from by rw [hwa.out]; exact HKS.out.below (by repeat (first | with_reducible exact Below.refl _ _ | with_reducible assumption | with_reducible exact below_d1 _ _ _ _ _ | with_reducible exact below_d2 _ _ _ _ _ _ _ _ | with_reducible exact below_d3 _ _ _ _ _ | with_reducible exact below_d4 _ _ _ _ _ _ _ _ | with_reducible exact below_d5 _ _ | with_reducible refine Below.drew ?_ | with_reducible refine Below.drewN' ?_ _ | with_reducible refine below_grow0 _ _ ?_ | with_reducible refine below_alloc0 _ ?_ | with_reducible refine Below.setCell ?_ ?_ _ | with_reducible refine Below.alloc ?_ ?_ _ | with_reducible refine Below.grow _ _ _ ?_ ?_ | omega | (simp; done) | (simp; omega))))
        have hwa1 : w.heap.size ≤ wa.heap.size := hbwa.size
        clear hwa HKS
        go_wp2_with fail
        go_loopw [10, 33] (fun o i wr => ∃ (k : Nat) (A' : Option Addr) (c' : Nat) (ext : Array Obj) (d : Nat), k ≤ K.length ∧ i = .int .i64 k ∧ o = .slice A' ((K.take k).filter (serB name)).length c' ∧ wr = grow wa ext d ∧ Hid (Ow cStr 1 9 wr wa.heap.size (.slice A' ((K.take k).filter (serB name)).length c') ((K.take k).filter (serB name)))) (fun _ i _ => K.length - (intOf i).toNat)
        case atStart => exact ⟨0, none, 0, _, _, Nat.zero_le _, rfl, rfl, grown_of (by repeat (first | with_reducible exact Below.refl _ _ | with_reducible assumption | with_reducible exact below_d1 _ _ _ _ _ | with_reducible exact below_d2 _ _ _ _ _ _ _ _ | with_reducible exact below_d3 _ _ _ _ _ | with_reducible exact below_d4 _ _ _ _ _ _ _ _ | with_reducible exact below_d5 _ _ | with_reducible refine Below.drew ?_ | with_reducible refine Below.drewN' ?_ _ | with_reducible refine below_grow0 _ _ ?_ | with_reducible refine below_alloc0 _ ?_ | with_reducible refine Below.setCell ?_ ?_ _ | with_reducible refine Below.alloc ?_ ?_ _ | with_reducible refine Below.grow _ _ _ ?_ ?_ | omega | (simp; done) | (simp; omega))), Lib.hid (Ow.nil _ _ _ _ _)⟩
        case round =>
          obtain ⟨k, A', c', ext, d, hk, rfl, rfl, rfl, ho⟩ := hrel
          by_cases hlt : k < K.length
          · have hx : K[k]? = some (K[k]'hlt) := List.getElem?_eq_getElem _
            have hft := filter_take hx (serB name)
            have hfl : ((K.take k).filter (serB name)).length ≤ k := Nat.le_trans (List.length_filter_le _ _) (by rw [List.length_take]; omega)
            have hks := HKZ.out _ (List.mem_of_getElem? hx)
            obtain ⟨bk, off, rfl, hbk, c0⟩ := (HKW.out.below (w' := grow wa ext d) (by repeat (first | with_reducible exact Below.refl _ _ | with_reducible assumption | with_reducible exact below_d1 _ _ _ _ _ | with_reducible exact below_d2 _ _ _ _ _ _ _ _ | with_reducible exact below_d3 _ _ _ _ _ | with_reducible exact below_d4 _ _ _ _ _ _ _ _ | with_reducible exact below_d5 _ _ | with_reducible refine Below.drew ?_ | with_reducible refine Below.drewN' ?_ _ | with_reducible refine below_grow0 _ _ ?_ | with_reducible refine below_alloc0 _ ?_ | with_reducible refine Below.setCell ?_ ?_ _ | with_reducible refine Below.alloc ?_ ?_ _ | with_reducible refine Below.grow _ _ _ ?_ ?_ | omega | (simp; done) | (simp; omega)))).str_at hx
            generalize K[k]'hlt = g at *
            have HSR := Lib.hid (fun (W : World) => trSer g name W (by omega))
            have HFT := Lib.hid hft
            unfold SerIs at HSR
            clear hx hft hks
            generalize (K.take k).filter (serB name) = F at *
            cases hsb : serB name g with
            | true =>
              rw [hsb] at HSR HFT
              have HK1 := Lib.hid (show (K.take (k + 1)).filter (serB name) = F ++ [g] from HFT.out)
              clear HFT hsb
              go_wp2_with (first | (go_at_call 40; (with_reducible refine (HSR.out _).mono ?_); rintro e w3 ⟨n3, rfl, hb3⟩; obtain ⟨ext3, d3, rfl⟩ := Below.grown_eq _ hb3; clear hb3) | (at_builtin; refine wpList_app _ rfl (.tmp 44) (.tmp 46) _ rfl elStr (B := wa.heap.size) (l := F) (m := [g]) rfl rfl (ho.out.below (by repeat (first | with_reducible exact Below.refl _ _ | with_reducible assumption | with_reducible exact below_d1 _ _ _ _ _ | with_reducible exact below_d2 _ _ _ _ _ _ _ _ | with_reducible exact below_d3 _ _ _ _ _ | with_reducible exact below_d4 _ _ _ _ _ _ _ _ | with_reducible exact below_d5 _ _ | with_reducible refine Below.drew ?_ | with_reducible refine Below.drewN' ?_ _ | with_reducible refine below_grow0 _ _ ?_ | with_reducible refine below_alloc0 _ ?_ | with_reducible refine Below.setCell ?_ ?_ _ | with_reducible refine Below.alloc ?_ ?_ _ | with_reducible refine Below.grow _ _ _ ?_ ?_ | omega | (simp; done) | (simp; omega)))) (Sl.one_at cStr 1 _ _ _ rfl _ rfl (by omega) (by simp)) cStr_one (by simp [maxLen]; omega) (by simp; omega) (by simp <;> omega) ?_; intro v2 w2 hown2 hg2 hat2; obtain ⟨A2', c2', rfl, _⟩ := hown2.form; have HO2 := Lib.hid hown2; have HG2 : Hid (World.grownBy _ w2 (Value.slice A' F.length c').ownBlock) := Lib.hid hg2; clear hown2 hg2 hat2))
              have hwb : Below wa.heap.size wa w2 := Below.grown (by repeat (first | with_reducible exact Below.refl _ _ | with_reducible assumption | with_reducible exact below_d1 _ _ _ _ _ | with_reducible exact below_d2 _ _ _ _ _ _ _ _ | with_reducible exact below_d3 _ _ _ _ _ | with_reducible exact below_d4 _ _ _ _ _ _ _ _ | with_reducible exact below_d5 _ _ | with_reducible refine Below.drew ?_ | with_reducible refine Below.drewN' ?_ _ | with_reducible refine below_grow0 _ _ ?_ | with_reducible refine below_alloc0 _ ?_ | with_reducible refine Below.setCell ?_ ?_ _ | with_reducible refine Below.alloc ?_ ?_ _ | with_reducible refine Below.grow _ _ _ ?_ ?_ | omega | (simp; done) | (simp; omega))) HG2.out (by simp; omega) (fun g hg => (Ow.own_in ho.out hg).1)
              go_wp2_with fail
              go_roundw
              case rel => exact ⟨k + 1, A2', c2', _, _, by omega, by go_num, by rw [HK1.out]; simp, grown_of hwb, by rw [HK1.out]; exact HO2⟩
              case measure => simp [intOf]; omega
            | false =>
              rw [hsb] at HSR HFT
              have HK1 := Lib.hid (show (K.take (k + 1)).filter (serB name) = F from by have := HFT.out; simpa using this)
              clear HFT hsb
              go_wp2_with (go_at_call 40; (with_reducible refine (HSR.out _).mono ?_); rintro e w3 ⟨n3, rfl, hb3⟩; obtain ⟨ext3, d3, rfl⟩ := Below.grown_eq _ hb3; clear hb3)
              go_roundw
              case rel => exact ⟨k + 1, A', c', _, _, by omega, by go_num, by rw [HK1.out], grown_of (by repeat (first | with_reducible exact Below.refl _ _ | with_reducible assumption | with_reducible exact below_d1 _ _ _ _ _ | with_reducible exact below_d2 _ _ _ _ _ _ _ _ | with_reducible exact below_d3 _ _ _ _ _ | with_reducible exact below_d4 _ _ _ _ _ _ _ _ | with_reducible exact below_d5 _ _ | with_reducible refine Below.drew ?_ | with_reducible refine Below.drewN' ?_ _ | with_reducible refine below_grow0 _ _ ?_ | with_reducible refine below_alloc0 _ ?_ | with_reducible refine Below.setCell ?_ ?_ _ | with_reducible refine Below.alloc ?_ ?_ _ | with_reducible refine Below.grow _ _ _ ?_ ?_ | omega | (simp; done) | (simp; omega))), by rw [HK1.out]; exact Lib.hid (ho.out.below (by repeat (first | with_reducible exact Below.refl _ _ | with_reducible assumption | with_reducible exact below_d1 _ _ _ _ _ | with_reducible exact below_d2 _ _ _ _ _ _ _ _ | with_reducible exact below_d3 _ _ _ _ _ | with_reducible exact below_d4 _ _ _ _ _ _ _ _ | with_reducible exact below_d5 _ _ | with_reducible refine Below.drew ?_ | with_reducible refine Below.drewN' ?_ _ | with_reducible refine below_grow0 _ _ ?_ | with_reducible refine below_alloc0 _ ?_ | with_reducible refine Below.setCell ?_ ?_ _ | with_reducible refine Below.alloc ?_ ?_ _ | with_reducible refine Below.grow _ _ _ ?_ ?_ | omega | (simp; done) | (simp; omega))))⟩
              case measure => simp [intOf]; omega
          · have hkl : k = K.length := by omega
            subst hkl
            rw [List.take_length] at ho
            simp only [List.take_length]
            go_wp2_with fail
            refine bodyPost_ret (v := .tuple #[.slice A' (K.filter (serB name)).length c', .int .i64 0]) (by simp [results, Tryd.results15, go_sem]) rfl ⟨A', c', rfl, ho.out.mono hwa1, Below.own hbwa (by repeat (first | with_reducible exact Below.refl _ _ | with_reducible assumption | with_reducible exact below_d1 _ _ _ _ _ | with_reducible exact below_d2 _ _ _ _ _ _ _ _ | with_reducible exact below_d3 _ _ _ _ _ | with_reducible exact below_d4 _ _ _ _ _ _ _ _ | with_reducible exact below_d5 _ _ | with_reducible refine Below.drew ?_ | with_reducible refine Below.drewN' ?_ _ | with_reducible refine below_grow0 _ _ ?_ | with_reducible refine below_alloc0 _ ?_ | with_reducible refine Below.setCell ?_ ?_ _ | with_reducible refine Below.alloc ?_ ?_ _ | with_reducible refine Below.grow _ _ _ ?_ ?_ | omega | (simp; done) | (simp; omega)))⟩
      · have hnb : named (bs name) = false := by simpa using hnt
        have hc : name ≠ ⟨#[]⟩ ∧ named (bs name) = false := ⟨hne, hnb⟩
        simp only [if_pos hc, if_neg (show ¬ ((2 : Int) = 0) by decide)]
        rw [hnb] at HNM
        clear hne hnb hc hnt
        go_enter Tryd.func15, Tryd.ntmps15
        go_wp2_with (first | (go_at_call 26; (with_reducible refine (HKD.out _ (HV.out.below (by repeat (first | with_reducible exact Below.refl _ _ | with_reducible assumption | with_reducible exact below_d1 _ _ _ _ _ | with_reducible exact below_d2 _ _ _ _ _ _ _ _ | with_reducible exact below_d3 _ _ _ _ _ | with_reducible exact below_d4 _ _ _ _ _ _ _ _ | with_reducible exact below_d5 _ _ | with_reducible refine Below.drew ?_ | with_reducible refine Below.drewN' ?_ _ | with_reducible refine below_grow0 _ _ ?_ | with_reducible refine below_alloc0 _ ?_ | with_reducible refine Below.setCell ?_ ?_ _ | with_reducible refine Below.alloc ?_ ?_ _ | with_reducible refine Below.grow _ _ _ ?_ ?_ | omega | (simp; done) | (simp; omega))))).mono ?_); rintro e w3 ⟨A5, c5, rfl, hk3, hb3⟩; obtain ⟨ext3, d3, rfl⟩ := Below.grown_eq _ hb3; clear hb3 hk3) | (go_at_call 39; refine (HNM.out _).mono ?_; rintro e w1 ⟨rfl, rfl⟩; skip))
        refine bodyPost_ret (v := .tuple #[.slice none 0 0, .int .i64 2]) (by simp [results, Tryd.results15, go_sem]) rfl ⟨none, 0, rfl, Ow.nil _ _ _ _ _, (by repeat (first | with_reducible exact Below.refl _ _ | with_reducible assumption | with_reducible exact below_d1 _ _ _ _ _ | with_reducible exact below_d2 _ _ _ _ _ _ _ _ | with_reducible exact below_d3 _ _ _ _ _ | with_reducible exact below_d4 _ _ _ _ _ _ _ _ | with_reducible exact below_d5 _ _ | with_reducible refine Below.drew ?_ | with_reducible refine Below.drewN' ?_ _ | with_reducible refine below_grow0 _ _ ?_ | with_reducible refine below_alloc0 _ ?_ | with_reducible refine Below.setCell ?_ ?_ _ | with_reducible refine Below.alloc ?_ ?_ _ | with_reducible refine Below.grow _ _ _ ?_ ?_ | omega | (simp; done) | (simp; omega)))⟩
end Go.Proofs.YteolglmifimnaaaDoor

/- package recipe: Holder, Before, Ready. -/
namespace Go.Proofs.YteolglmifimnaaaDoor
open Go.RowKit Go.ChangeShapes Go.WideShapes Go.ChangeAt
def holdO (t : Tr) (dir : ByteArray) : List ByteArray → Int × Int
  | [] => (0, 0)
  | s :: _ => ((getN t.nodes (joinR dir s).1).owner, (getN t.nodes (joinR dir s).1).czxid)
def holdE (t : Tr) (dir name : ByteArray) : Int := if lineE t dir name = 0 then (match lineL t dir name with | [] => 0 | s :: _ => getE t.nodes (joinR dir s).1) else lineE t dir name
def HoldRes (t : Tr) (dir name : ByteArray) (w : World) (e : Ending) (w' : World) : Prop :=
  e = .returned (.tuple #[.int .i64 (if holdE t dir name = 0 then (holdO t dir (lineL t dir name)).1 else 0), .int .i64 (if holdE t dir name = 0 then (holdO t dir (lineL t dir name)).2 else 0), .int .i64 (holdE t dir name)]) ∧ Below w.heap.size w w'
set_option maxHeartbeats 2000000 in
theorem trHolder (z : Int) (v v2 : Value) (l : List Node) (ss : List Int) (dir name : ByteArray) (w : World) (h : Sl cNode 9 w v l) (h2 : Sl cInt 1 w v2 ss) (hn : l.length * 16 ≤ 140737488355328) (hz : ∀ n ∈ l, n.path.size ≤ 200) (hnm : name.size ≤ 9223372036854775807) (hd : dir.size ≤ 9223372036854775807) :
    Calls Tryd.prog 17 #[.agg #[.int .i64 z, v, v2], .string dir, .string name] w (HoldRes ⟨z, l, ss⟩ dir name w) := by
  obtain ⟨A, c, rfl, h1, h1b⟩ := h.form
  obtain ⟨A2, c2, rfl, h3, h3b⟩ := h2.form
  have HV := Lib.hid h
  have HS := Lib.hid h2
  clear h h2
  have HLN := Lib.hid (fun (W : World) (h : Sl cNode 9 W (.slice A l.length c) l) (h2 : Sl cInt 1 W (.slice A2 ss.length c2) ss) => trLine z (.slice A l.length c) (.slice A2 ss.length c2) l ss dir name W h h2 hn hz hnm)
  unfold LineRes at HLN
  unfold HoldRes holdE
  have HLZ := Lib.hid (fun s (hs : s ∈ lineL ⟨z, l, ss⟩ dir name) => kid_size (line_kids hs).1)
  by_cases hE : lineE ⟨z, l, ss⟩ dir name = 0
  · rw [if_pos hE]
    rw [hE] at HLN
    cases hL : lineL ⟨z, l, ss⟩ dir name with
    | nil =>
      rw [hL] at HLN
      simp only [holdO, if_true]
      clear hE hL HLZ
      go_enter Tryd.func17, Tryd.ntmps17
      go_wp2_with (go_at_call 15; (with_reducible refine (HLN.out _ (HV.out.below (by repeat (first | with_reducible exact Below.refl _ _ | with_reducible assumption | with_reducible exact below_d1 _ _ _ _ _ | with_reducible exact below_d2 _ _ _ _ _ _ _ _ | with_reducible exact below_d3 _ _ _ _ _ | with_reducible exact below_d4 _ _ _ _ _ _ _ _ | with_reducible exact below_d5 _ _ | with_reducible refine Below.drew ?_ | with_reducible refine Below.drewN' ?_ _ | with_reducible refine below_grow0 _ _ ?_ | with_reducible refine below_alloc0 _ ?_ | with_reducible refine Below.setCell ?_ ?_ _ | with_reducible refine Below.alloc ?_ ?_ _ | with_reducible refine Below.grow _ _ _ ?_ ?_ | omega | (simp; done) | (simp; omega)))) (HS.out.below (by repeat (first | with_reducible exact Below.refl _ _ | with_reducible assumption | with_reducible exact below_d1 _ _ _ _ _ | with_reducible exact below_d2 _ _ _ _ _ _ _ _ | with_reducible exact below_d3 _ _ _ _ _ | with_reducible exact below_d4 _ _ _ _ _ _ _ _ | with_reducible exact below_d5 _ _ | with_reducible refine Below.drew ?_ | with_reducible refine Below.drewN' ?_ _ | with_reducible refine below_grow0 _ _ ?_ | with_reducible refine below_alloc0 _ ?_ | with_reducible refine Below.setCell ?_ ?_ _ | with_reducible refine Below.alloc ?_ ?_ _ | with_reducible refine Below.grow _ _ _ ?_ ?_ | omega | (simp; done) | (simp; omega))))).mono ?_); rintro e w3 ⟨A5, c5, rfl, hk3, hb3⟩; have HLS := Lib.hid hk3.sl; obtain ⟨ext3, d3, rfl⟩ := Below.grown_eq _ hb3; clear hb3 hk3)
      refine bodyPost_ret (v := .tuple #[.int .i64 0, .int .i64 0, .int .i64 0]) (by simp [results, Tryd.results17, go_sem]) rfl ⟨rfl, (by repeat (first | with_reducible exact Below.refl _ _ | with_reducible assumption | with_reducible exact below_d1 _ _ _ _ _ | with_reducible exact below_d2 _ _ _ _ _ _ _ _ | with_reducible exact below_d3 _ _ _ _ _ | with_reducible exact below_d4 _ _ _ _ _ _ _ _ | with_reducible exact below_d5 _ _ | with_reducible refine Below.drew ?_ | with_reducible refine Below.drewN' ?_ _ | with_reducible refine below_grow0 _ _ ?_ | with_reducible refine below_alloc0 _ ?_ | with_reducible refine Below.setCell ?_ ?_ _ | with_reducible refine Below.alloc ?_ ?_ _ | with_reducible refine Below.grow _ _ _ ?_ ?_ | omega | (simp; done) | (simp; omega)))⟩
    | cons s r =>
      rw [hL] at HLN HLZ
      have hsz := HLZ.out s (by simp)
      have HJN := Lib.hid (fun (W : World) => join_any dir s W hd (by omega))
      have HGT := Lib.hid (fun (W : World) (h : Sl cNode 9 W (.slice A l.length c) l) => trGet z (.slice A l.length c) A2 ss.length c2 l (joinR dir s).1 W h (by omega))
      simp only [holdO]
      clear hE hL HLZ
      by_cases hg : getE l (joinR dir s).1 = 0
      · simp only [if_pos hg]
        rw [hg] at HGT
        rw [hg]
        clear hg
        generalize joinR dir s = jr at *
        obtain ⟨j1, j2⟩ := jr
        simp only at HJN HGT ⊢
        generalize getN l j1 = n at *
        obtain ⟨np, nd, n1, n2, n3, n4, n5, n6, n7⟩ := n
        simp only at HGT ⊢
        go_enter Tryd.func17, Tryd.ntmps17
        go_upto_region 4 with (go_at_call 15; (with_reducible refine (HLN.out _ (HV.out.below (by repeat (first | with_reducible exact Below.refl _ _ | with_reducible assumption | with_reducible exact below_d1 _ _ _ _ _ | with_reducible exact below_d2 _ _ _ _ _ _ _ _ | with_reducible exact below_d3 _ _ _ _ _ | with_reducible exact below_d4 _ _ _ _ _ _ _ _ | with_reducible exact below_d5 _ _ | with_reducible refine Below.drew ?_ | with_reducible refine Below.drewN' ?_ _ | with_reducible refine below_grow0 _ _ ?_ | with_reducible refine below_alloc0 _ ?_ | with_reducible refine Below.setCell ?_ ?_ _ | with_reducible refine Below.alloc ?_ ?_ _ | with_reducible refine Below.grow _ _ _ ?_ ?_ | omega | (simp; done) | (simp; omega)))) (HS.out.below (by repeat (first | with_reducible exact Below.refl _ _ | with_reducible assumption | with_reducible exact below_d1 _ _ _ _ _ | with_reducible exact below_d2 _ _ _ _ _ _ _ _ | with_reducible exact below_d3 _ _ _ _ _ | with_reducible exact below_d4 _ _ _ _ _ _ _ _ | with_reducible exact below_d5 _ _ | with_reducible refine Below.drew ?_ | with_reducible refine Below.drewN' ?_ _ | with_reducible refine below_grow0 _ _ ?_ | with_reducible refine below_alloc0 _ ?_ | with_reducible refine Below.setCell ?_ ?_ _ | with_reducible refine Below.alloc ?_ ?_ _ | with_reducible refine Below.grow _ _ _ ?_ ?_ | omega | (simp; done) | (simp; omega))))).mono ?_); rintro e w3 ⟨A5, c5, rfl, hk3, hb3⟩; have HLS := Lib.hid hk3.sl; obtain ⟨ext3, d3, rfl⟩ := Below.grown_eq _ hb3; clear hb3 hk3)
        obtain ⟨bk, off, rfl, hbk, c0⟩ := HLS.out.str_at (i := 0) (x := s) rfl
        simp only [Nat.add_zero] at c0
        go_upto_region 8 with (first | (go_at_call 18; refine (HJN.out _).mono ?_; rintro e w1 ⟨rfl, hb⟩; obtain ⟨ext4, d4, rfl⟩ := Below.grown_eq _ hb; clear hb) | (go_at_call 19; refine (HGT.out _ (HV.out.below (by repeat (first | with_reducible exact Below.refl _ _ | with_reducible assumption | with_reducible exact below_d1 _ _ _ _ _ | with_reducible exact below_d2 _ _ _ _ _ _ _ _ | with_reducible exact below_d3 _ _ _ _ _ | with_reducible exact below_d4 _ _ _ _ _ _ _ _ | with_reducible exact below_d5 _ _ | with_reducible refine Below.drew ?_ | with_reducible refine Below.drewN' ?_ _ | with_reducible refine below_grow0 _ _ ?_ | with_reducible refine below_alloc0 _ ?_ | with_reducible refine Below.setCell ?_ ?_ _ | with_reducible refine Below.alloc ?_ ?_ _ | with_reducible refine Below.grow _ _ _ ?_ ?_ | omega | (simp; done) | (simp; omega))))).mono ?_; rintro e w1 ⟨rfl, hb⟩; obtain ⟨ext5, d5, rfl⟩ := Below.grown_eq _ hb; clear hb))
        refine wp_region_grow (by kernel_rfl) (by kernel_rfl) ?_
        try simp only [List.append]
        repeat' (first | go_big_quiet_skip | (go_big_quiet_want; go_big_quiet_op; first | go_big_quiet_on | (apply Exists.intro; refine ⟨fun _ => ?hqg1, ?hqg2⟩; (case hqg1 => fail); go_big_quiet_on)))
        all_goals refine wpQuiet_nil ?_
        all_goals rintro _ ⟨⟨extq, dq⟩, rfl⟩
        all_goals dsimp only
        go_wp2_with fail
        refine bodyPost_ret (v := .tuple #[.int .i64 n6, .int .i64 n1, .int .i64 0]) (by simp [results, Tryd.results17, go_sem]) rfl ⟨rfl, (by repeat (first | with_reducible exact Below.refl _ _ | with_reducible assumption | with_reducible exact below_d1 _ _ _ _ _ | with_reducible exact below_d2 _ _ _ _ _ _ _ _ | with_reducible exact below_d3 _ _ _ _ _ | with_reducible exact below_d4 _ _ _ _ _ _ _ _ | with_reducible exact below_d5 _ _ | with_reducible refine Below.drew ?_ | with_reducible refine Below.drewN' ?_ _ | with_reducible refine below_grow0 _ _ ?_ | with_reducible refine below_alloc0 _ ?_ | with_reducible refine Below.setCell ?_ ?_ _ | with_reducible refine Below.alloc ?_ ?_ _ | with_reducible refine Below.grow _ _ _ ?_ ?_ | omega | (simp; done) | (simp; omega)))⟩
      · simp only [if_neg hg]
        generalize joinR dir s = jr at *
        obtain ⟨j1, j2⟩ := jr
        simp only at HJN HGT hg ⊢
        generalize getN l j1 = n at *
        obtain ⟨np, nd, n1, n2, n3, n4, n5, n6, n7⟩ := n
        generalize getE l j1 = ge at *
        have q1 : (ge == 0) = false := beq_eq_false_iff_ne.2 hg
        have q2 : (ge != 0) = true := bne_iff_ne.2 hg
        clear hg
        go_enter Tryd.func17, Tryd.ntmps17
        go_upto_region 4 with (go_at_call 15; (with_reducible refine (HLN.out _ (HV.out.below (by repeat (first | with_reducible exact Below.refl _ _ | with_reducible assumption | with_reducible exact below_d1 _ _ _ _ _ | with_reducible exact below_d2 _ _ _ _ _ _ _ _ | with_reducible exact below_d3 _ _ _ _ _ | with_reducible exact below_d4 _ _ _ _ _ _ _ _ | with_reducible exact below_d5 _ _ | with_reducible refine Below.drew ?_ | with_reducible refine Below.drewN' ?_ _ | with_reducible refine below_grow0 _ _ ?_ | with_reducible refine below_alloc0 _ ?_ | with_reducible refine Below.setCell ?_ ?_ _ | with_reducible refine Below.alloc ?_ ?_ _ | with_reducible refine Below.grow _ _ _ ?_ ?_ | omega | (simp; done) | (simp; omega)))) (HS.out.below (by repeat (first | with_reducible exact Below.refl _ _ | with_reducible assumption | with_reducible exact below_d1 _ _ _ _ _ | with_reducible exact below_d2 _ _ _ _ _ _ _ _ | with_reducible exact below_d3 _ _ _ _ _ | with_reducible exact below_d4 _ _ _ _ _ _ _ _ | with_reducible exact below_d5 _ _ | with_reducible refine Below.drew ?_ | with_reducible refine Below.drewN' ?_ _ | with_reducible refine below_grow0 _ _ ?_ | with_reducible refine below_alloc0 _ ?_ | with_reducible refine Below.setCell ?_ ?_ _ | with_reducible refine Below.alloc ?_ ?_ _ | with_reducible refine Below.grow _ _ _ ?_ ?_ | omega | (simp; done) | (simp; omega))))).mono ?_); rintro e w3 ⟨A5, c5, rfl, hk3, hb3⟩; have HLS := Lib.hid hk3.sl; obtain ⟨ext3, d3, rfl⟩ := Below.grown_eq _ hb3; clear hb3 hk3)
        obtain ⟨bk, off, rfl, hbk, c0⟩ := HLS.out.str_at (i := 0) (x := s) rfl
        simp only [Nat.add_zero] at c0
        go_wp2_with (first | (go_at_call 18; refine (HJN.out _).mono ?_; rintro e w1 ⟨rfl, hb⟩; obtain ⟨ext4, d4, rfl⟩ := Below.grown_eq _ hb; clear hb) | (go_at_call 19; refine (HGT.out _ (HV.out.below (by repeat (first | with_reducible exact Below.refl _ _ | with_reducible assumption | with_reducible exact below_d1 _ _ _ _ _ | with_reducible exact below_d2 _ _ _ _ _ _ _ _ | with_reducible exact below_d3 _ _ _ _ _ | with_reducible exact below_d4 _ _ _ _ _ _ _ _ | with_reducible exact below_d5 _ _ | with_reducible refine Below.drew ?_ | with_reducible refine Below.drewN' ?_ _ | with_reducible refine below_grow0 _ _ ?_ | with_reducible refine below_alloc0 _ ?_ | with_reducible refine Below.setCell ?_ ?_ _ | with_reducible refine Below.alloc ?_ ?_ _ | with_reducible refine Below.grow _ _ _ ?_ ?_ | omega | (simp; done) | (simp; omega))))).mono ?_; rintro e w1 ⟨rfl, hb⟩; obtain ⟨ext5, d5, rfl⟩ := Below.grown_eq _ hb; clear hb))
        refine bodyPost_ret (v := .tuple #[.int .i64 0, .int .i64 0, .int .i64 ge]) (by simp [results, Tryd.results17, go_sem]) rfl ⟨rfl, (by repeat (first | with_reducible exact Below.refl _ _ | with_reducible assumption | with_reducible exact below_d1 _ _ _ _ _ | with_reducible exact below_d2 _ _ _ _ _ _ _ _ | with_reducible exact below_d3 _ _ _ _ _ | with_reducible exact below_d4 _ _ _ _ _ _ _ _ | with_reducible exact below_d5 _ _ | with_reducible refine Below.drew ?_ | with_reducible refine Below.drewN' ?_ _ | with_reducible refine below_grow0 _ _ ?_ | with_reducible refine below_alloc0 _ ?_ | with_reducible refine Below.setCell ?_ ?_ _ | with_reducible refine Below.alloc ?_ ?_ _ | with_reducible refine Below.grow _ _ _ ?_ ?_ | omega | (simp; done) | (simp; omega)))⟩
  · have hL : lineL ⟨z, l, ss⟩ dir name = [] := by unfold lineL; rw [if_neg hE]
    rw [if_neg hE]
    rw [hL] at HLN ⊢
    have hE2 := hE
    generalize lineE ⟨z, l, ss⟩ dir name = E at *
    have q1 : (E == 0) = false := beq_eq_false_iff_ne.2 hE
    have q2 : (E != 0) = true := bne_iff_ne.2 hE
    simp only [if_neg hE]
    clear hE hL HLZ hE2
    go_enter Tryd.func17, Tryd.ntmps17
    go_wp2_with (go_at_call 15; (with_reducible refine (HLN.out _ (HV.out.below (by repeat (first | with_reducible exact Below.refl _ _ | with_reducible assumption | with_reducible exact below_d1 _ _ _ _ _ | with_reducible exact below_d2 _ _ _ _ _ _ _ _ | with_reducible exact below_d3 _ _ _ _ _ | with_reducible exact below_d4 _ _ _ _ _ _ _ _ | with_reducible exact below_d5 _ _ | with_reducible refine Below.drew ?_ | with_reducible refine Below.drewN' ?_ _ | with_reducible refine below_grow0 _ _ ?_ | with_reducible refine below_alloc0 _ ?_ | with_reducible refine Below.setCell ?_ ?_ _ | with_reducible refine Below.alloc ?_ ?_ _ | with_reducible refine Below.grow _ _ _ ?_ ?_ | omega | (simp; done) | (simp; omega)))) (HS.out.below (by repeat (first | with_reducible exact Below.refl _ _ | with_reducible assumption | with_reducible exact below_d1 _ _ _ _ _ | with_reducible exact below_d2 _ _ _ _ _ _ _ _ | with_reducible exact below_d3 _ _ _ _ _ | with_reducible exact below_d4 _ _ _ _ _ _ _ _ | with_reducible exact below_d5 _ _ | with_reducible refine Below.drew ?_ | with_reducible refine Below.drewN' ?_ _ | with_reducible refine below_grow0 _ _ ?_ | with_reducible refine below_alloc0 _ ?_ | with_reducible refine Below.setCell ?_ ?_ _ | with_reducible refine Below.alloc ?_ ?_ _ | with_reducible refine Below.grow _ _ _ ?_ ?_ | omega | (simp; done) | (simp; omega))))).mono ?_); rintro e w3 ⟨A5, c5, rfl, hk3, hb3⟩; have HLS := Lib.hid hk3.sl; obtain ⟨ext3, d3, rfl⟩ := Below.grown_eq _ hb3; clear hb3 hk3)
    refine bodyPost_ret (v := .tuple #[.int .i64 0, .int .i64 0, .int .i64 E]) (by simp [results, Tryd.results17, go_sem]) rfl ⟨rfl, (by repeat (first | with_reducible exact Below.refl _ _ | with_reducible assumption | with_reducible exact below_d1 _ _ _ _ _ | with_reducible exact below_d2 _ _ _ _ _ _ _ _ | with_reducible exact below_d3 _ _ _ _ _ | with_reducible exact below_d4 _ _ _ _ _ _ _ _ | with_reducible exact below_d5 _ _ | with_reducible refine Below.drew ?_ | with_reducible refine Below.drewN' ?_ _ | with_reducible refine below_grow0 _ _ ?_ | with_reducible refine below_alloc0 _ ?_ | with_reducible refine Below.setCell ?_ ?_ _ | with_reducible refine Below.alloc ?_ ?_ _ | with_reducible refine Below.grow _ _ _ ?_ ?_ | omega | (simp; done) | (simp; omega)))⟩
set_option maxHeartbeats 2000000 in
theorem trBefore (z : Int) (v v2 : Value) (l : List Node) (ss : List Int) (dir name st : ByteArray) (w : World) (h : Sl cNode 9 w v l) (h2 : Sl cInt 1 w v2 ss) (hn : l.length * 16 ≤ 140737488355328) (hz : ∀ n ∈ l, n.path.size ≤ 200) (hnm : name.size ≤ 9223372036854775807)
    (hE : lineE ⟨z, l, ss⟩ dir name = 0) {i : Nat} (hi : idxV (lineL ⟨z, l, ss⟩ dir name) st = (i : Nat)) (hil : i < (lineL ⟨z, l, ss⟩ dir name).length) :
    Calls Tryd.prog 20 #[.agg #[.int .i64 z, v, v2], .string dir, .string name, .string st] w fun e w' => e = .returned (.tuple #[.string (if 0 < i then (lineL ⟨z, l, ss⟩ dir name).getD (i - 1) ⟨#[]⟩ else ⟨#[]⟩), .bool (decide (0 < i))]) ∧ Below w.heap.size w w' := by
  obtain ⟨A, c, rfl, h1, h1b⟩ := h.form
  obtain ⟨A2, c2, rfl, h3, h3b⟩ := h2.form
  have HV := Lib.hid h
  have HS := Lib.hid h2
  clear h h2
  have HLN := Lib.hid (fun (W : World) (h : Sl cNode 9 W (.slice A l.length c) l) (h2 : Sl cInt 1 W (.slice A2 ss.length c2) ss) => trLine z (.slice A l.length c) (.slice A2 ss.length c2) l ss dir name W h h2 hn hz hnm)
  unfold LineRes at HLN
  rw [hE] at HLN
  have hll := Nat.le_trans (line_le ⟨z, l, ss⟩ dir name) (kidsL_le l dir)
  generalize lineL ⟨z, l, ss⟩ dir name = L at *
  have HIX := Lib.hid (fun (W : World) (v : Value) (h : Sl cStr 1 W v L) => idxStr v L st W h (by omega))
  rw [hi] at HIX
  clear hi hE
  by_cases h0 : 0 < i
  · obtain ⟨j, rfl⟩ : ∃ j, i = j + 1 := ⟨i - 1, by omega⟩
    have hx : L[j]? = some (L[j]'(by omega)) := List.getElem?_eq_getElem _
    rw [if_pos h0, decide_eq_true h0, List.getD_eq_getElem?_getD, Nat.add_sub_cancel, hx]
    have hl1 : decide (((j + 1 : Nat) : Int) < 1) = false := decide_eq_false (by omega)
    have hlj : j < L.length := by omega
    have HX := Lib.hid hx
    clear hx
    simp only [Option.getD_some]
    generalize L[j]'(by omega) = g at *
    go_enter Tryd.func20, Tryd.ntmps20
    go_upto_region 2 with (go_at_call 15; (with_reducible refine (HLN.out _ (HV.out.below (by repeat (first | with_reducible exact Below.refl _ _ | with_reducible assumption | with_reducible exact below_d1 _ _ _ _ _ | with_reducible exact below_d2 _ _ _ _ _ _ _ _ | with_reducible exact below_d3 _ _ _ _ _ | with_reducible exact below_d4 _ _ _ _ _ _ _ _ | with_reducible exact below_d5 _ _ | with_reducible refine Below.drew ?_ | with_reducible refine Below.drewN' ?_ _ | with_reducible refine below_grow0 _ _ ?_ | with_reducible refine below_alloc0 _ ?_ | with_reducible refine Below.setCell ?_ ?_ _ | with_reducible refine Below.alloc ?_ ?_ _ | with_reducible refine Below.grow _ _ _ ?_ ?_ | omega | (simp; done) | (simp; omega)))) (HS.out.below (by repeat (first | with_reducible exact Below.refl _ _ | with_reducible assumption | with_reducible exact below_d1 _ _ _ _ _ | with_reducible exact below_d2 _ _ _ _ _ _ _ _ | with_reducible exact below_d3 _ _ _ _ _ | with_reducible exact below_d4 _ _ _ _ _ _ _ _ | with_reducible exact below_d5 _ _ | with_reducible refine Below.drew ?_ | with_reducible refine Below.drewN' ?_ _ | with_reducible refine below_grow0 _ _ ?_ | with_reducible refine below_alloc0 _ ?_ | with_reducible refine Below.setCell ?_ ?_ _ | with_reducible refine Below.alloc ?_ ?_ _ | with_reducible refine Below.grow _ _ _ ?_ ?_ | omega | (simp; done) | (simp; omega))))).mono ?_); rintro e w3 ⟨A5, c5, rfl, hk3, hb3⟩; have HLS := Lib.hid hk3.sl; obtain ⟨ext3, d3, rfl⟩ := Below.grown_eq _ hb3; clear hb3 hk3)
    obtain ⟨bk, off, rfl, hbk, c0⟩ := HLS.out.str_at HX.out
    go_wp2_with (go_at_call 41; refine (HIX.out _ _ HLS.out).mono ?_; rintro e w1 ⟨rfl, hw⟩; obtain rfl := hw.symm; clear hw)
    refine bodyPost_ret (v := .tuple #[.string g, .bool true]) (by simp [results, Tryd.results20, go_sem]) rfl ⟨rfl, (by repeat (first | with_reducible exact Below.refl _ _ | with_reducible assumption | with_reducible exact below_d1 _ _ _ _ _ | with_reducible exact below_d2 _ _ _ _ _ _ _ _ | with_reducible exact below_d3 _ _ _ _ _ | with_reducible exact below_d4 _ _ _ _ _ _ _ _ | with_reducible exact below_d5 _ _ | with_reducible refine Below.drew ?_ | with_reducible refine Below.drewN' ?_ _ | with_reducible refine below_grow0 _ _ ?_ | with_reducible refine below_alloc0 _ ?_ | with_reducible refine Below.setCell ?_ ?_ _ | with_reducible refine Below.alloc ?_ ?_ _ | with_reducible refine Below.grow _ _ _ ?_ ?_ | omega | (simp; done) | (simp; omega)))⟩
  · obtain rfl : i = 0 := by omega
    rw [if_neg h0, decide_eq_false h0]
    clear h0
    go_enter Tryd.func20, Tryd.ntmps20
    go_wp2_with (first | (go_at_call 15; (with_reducible refine (HLN.out _ (HV.out.below (by repeat (first | with_reducible exact Below.refl _ _ | with_reducible assumption | with_reducible exact below_d1 _ _ _ _ _ | with_reducible exact below_d2 _ _ _ _ _ _ _ _ | with_reducible exact below_d3 _ _ _ _ _ | with_reducible exact below_d4 _ _ _ _ _ _ _ _ | with_reducible exact below_d5 _ _ | with_reducible refine Below.drew ?_ | with_reducible refine Below.drewN' ?_ _ | with_reducible refine below_grow0 _ _ ?_ | with_reducible refine below_alloc0 _ ?_ | with_reducible refine Below.setCell ?_ ?_ _ | with_reducible refine Below.alloc ?_ ?_ _ | with_reducible refine Below.grow _ _ _ ?_ ?_ | omega | (simp; done) | (simp; omega)))) (HS.out.below (by repeat (first | with_reducible exact Below.refl _ _ | with_reducible assumption | with_reducible exact below_d1 _ _ _ _ _ | with_reducible exact below_d2 _ _ _ _ _ _ _ _ | with_reducible exact below_d3 _ _ _ _ _ | with_reducible exact below_d4 _ _ _ _ _ _ _ _ | with_reducible exact below_d5 _ _ | with_reducible refine Below.drew ?_ | with_reducible refine Below.drewN' ?_ _ | with_reducible refine below_grow0 _ _ ?_ | with_reducible refine below_alloc0 _ ?_ | with_reducible refine Below.setCell ?_ ?_ _ | with_reducible refine Below.alloc ?_ ?_ _ | with_reducible refine Below.grow _ _ _ ?_ ?_ | omega | (simp; done) | (simp; omega))))).mono ?_); rintro e w3 ⟨A5, c5, rfl, hk3, hb3⟩; have HLS := Lib.hid hk3.sl; obtain ⟨ext3, d3, rfl⟩ := Below.grown_eq _ hb3; clear hb3 hk3) | (go_at_call 41; refine (HIX.out _ _ HLS.out).mono ?_; rintro e w1 ⟨rfl, hw⟩; obtain rfl := hw.symm; clear hw))
    refine bodyPost_ret (v := .tuple #[.string ⟨#[]⟩, .bool false]) (by simp [results, Tryd.results20, go_sem]) rfl ⟨rfl, (by repeat (first | with_reducible exact Below.refl _ _ | with_reducible assumption | with_reducible exact below_d1 _ _ _ _ _ | with_reducible exact below_d2 _ _ _ _ _ _ _ _ | with_reducible exact below_d3 _ _ _ _ _ | with_reducible exact below_d4 _ _ _ _ _ _ _ _ | with_reducible exact below_d5 _ _ | with_reducible refine Below.drew ?_ | with_reducible refine Below.drewN' ?_ _ | with_reducible refine below_grow0 _ _ ?_ | with_reducible refine below_alloc0 _ ?_ | with_reducible refine Below.setCell ?_ ?_ _ | with_reducible refine Below.alloc ?_ ?_ _ | with_reducible refine Below.grow _ _ _ ?_ ?_ | omega | (simp; done) | (simp; omega)))⟩
set_option maxHeartbeats 2000000 in
theorem trReady (z : Int) (v v2 : Value) (l : List Node) (ss : List Int) (dir : ByteArray) (many : Int) (w : World) (h : Sl cNode 9 w v l) (h2 : Sl cInt 1 w v2 ss) (hn : l.length * 16 ≤ 140737488355328) (hz : ∀ n ∈ l, n.path.size ≤ 200) (hm : 0 ≤ many ∧ many ≤ 64) (hd : hasN l dir = true) :
    Calls Tryd.prog 21 #[.agg #[.int .i64 z, v, v2], .string dir, .int .i64 many] w fun e w' => e = .returned (.tuple #[.bool (decide (many ≤ ((kidsL l dir).length : Int))), .int .i64 0]) ∧ Below w.heap.size w w' := by
  obtain ⟨A, c, rfl, h1, h1b⟩ := h.form
  obtain ⟨A2, c2, rfl, h3, h3b⟩ := h2.form
  have HV := Lib.hid h
  clear h h2
  have HKD := Lib.hid (fun (W : World) (h : Sl cNode 9 W (.slice A l.length c) l) => trKids z (.slice A l.length c) A2 ss.length c2 l dir W h (by omega) (fun n hn => Nat.le_trans (hz n hn) (by decide)))
  unfold KidsRes kidsR getE at HKD
  rw [hd, if_pos rfl, if_pos rfl] at HKD
  generalize kidsL l dir = K at *
  have e1 : decide (many < 0) = false := decide_eq_false (by omega)
  have e2 : decide (64 < many) = false := decide_eq_false (by omega)
  clear hd
  go_enter Tryd.func21, Tryd.ntmps21
  go_wp2_with (go_at_call 26; (with_reducible refine (HKD.out _ (HV.out.below (by repeat (first | with_reducible exact Below.refl _ _ | with_reducible assumption | with_reducible exact below_d1 _ _ _ _ _ | with_reducible exact below_d2 _ _ _ _ _ _ _ _ | with_reducible exact below_d3 _ _ _ _ _ | with_reducible exact below_d4 _ _ _ _ _ _ _ _ | with_reducible exact below_d5 _ _ | with_reducible refine Below.drew ?_ | with_reducible refine Below.drewN' ?_ _ | with_reducible refine below_grow0 _ _ ?_ | with_reducible refine below_alloc0 _ ?_ | with_reducible refine Below.setCell ?_ ?_ _ | with_reducible refine Below.alloc ?_ ?_ _ | with_reducible refine Below.grow _ _ _ ?_ ?_ | omega | (simp; done) | (simp; omega))))).mono ?_); rintro e w3 ⟨A5, c5, rfl, hk3, hb3⟩; obtain ⟨ext3, d3, rfl⟩ := Below.grown_eq _ hb3; clear hb3 hk3)
  refine bodyPost_ret (v := .tuple #[.bool (decide (many ≤ (K.length : Int))), .int .i64 0]) (by simp [results, Tryd.results21, go_sem]) rfl ⟨rfl, (by repeat (first | with_reducible exact Below.refl _ _ | with_reducible assumption | with_reducible exact below_d1 _ _ _ _ _ | with_reducible exact below_d2 _ _ _ _ _ _ _ _ | with_reducible exact below_d3 _ _ _ _ _ | with_reducible exact below_d4 _ _ _ _ _ _ _ _ | with_reducible exact below_d5 _ _ | with_reducible refine Below.drew ?_ | with_reducible refine Below.drewN' ?_ _ | with_reducible refine below_grow0 _ _ ?_ | with_reducible refine below_alloc0 _ ?_ | with_reducible refine Below.setCell ?_ ?_ _ | with_reducible refine Below.alloc ?_ ?_ _ | with_reducible refine Below.grow _ _ _ ?_ ?_ | omega | (simp; done) | (simp; omega)))⟩
end Go.Proofs.YteolglmifimnaaaDoor

/- recipe.Fence, and whether recipe answers at all. -/
namespace Go.Proofs.YteolglmifimnaaaDoor
open Go.ChangeShapes Go.WideShapes Go.ChangeAt Go.RowKit
theorem fence_less (a b : Int) (w : World) (h : b < a) :
    Calls Tryd.prog 36 #[.int .i64 a, .int .i64 b] w fun e w' => e = .returned (.tuple #[.int .i64 a, .bool false]) ∧ w = w' := by
  go_enter Tryd.func36, Tryd.ntmps36
  go_wp2
  go_ret2
  exact ⟨rfl, rfl⟩
theorem fence_not (a b : Int) (w : World) (h : ¬ b < a) :
    Calls Tryd.prog 36 #[.int .i64 a, .int .i64 b] w fun e w' => e = .returned (.tuple #[.int .i64 b, .bool true]) ∧ w = w' := by
  go_enter Tryd.func36, Tryd.ntmps36
  go_wp2
  go_ret2
  exact ⟨rfl, rfl⟩
theorem fences_is (w : World) :
    Calls Tryd.prog 14 #[] w fun e w' => e = .returned (.bool true) ∧ w = w' := by
  go_enter Tryd.func14, Tryd.ntmps14
  go_wp2_with (go_at_call 36; refine (fence_not _ _ _ (by omega)).mono ?_; rintro e w' ⟨rfl, rfl⟩)
  go_ret
  exact ⟨rfl, rfl⟩

end Go.Proofs.YteolglmifimnaaaDoor

/- aviarykeep: a number brought to 0 to n - 1. -/
namespace Go.Proofs.YteolglmifimnaaaDoor
open Go.RowKit Go.ChangeShapes Go.WideShapes Go.ChangeAt
def pickV (k : Int) (n : Nat) : Int := if k.tmod n < 0 then k.tmod n + n else k.tmod n
theorem pickV_range (k : Int) {n : Nat} (h0 : 0 < n) : 0 ≤ pickV k n ∧ pickV k n < n := by
  have ht1 : -(n : Int) < k.tmod n := by
    have := Int.tmod_lt_of_pos (-k) (show (0 : Int) < n by omega)
    rw [Int.neg_tmod] at this
    omega
  have ht2 : k.tmod n < (n : Int) := Int.tmod_lt_of_pos _ (by omega)
  unfold pickV
  split <;> omega
theorem pick_eq (k : Int) (n : Nat) (w : World) (h0 : 0 < n) (h1 : n ≤ 140737488355328) :
    Calls Tryd.prog 32 #[.int .i64 k, .int .i64 n] w fun e w' => e = .returned (.int .i64 (pickV k n)) ∧ w = w' := by
  have ht1 : -(n : Int) < k.tmod n := by
    have := Int.tmod_lt_of_pos (-k) (show (0 : Int) < n by omega)
    rw [Int.neg_tmod] at this
    omega
  have ht2 : k.tmod n < (n : Int) := Int.tmod_lt_of_pos _ (by omega)
  unfold pickV
  generalize hq : k.tmod n = q at *
  by_cases hn : q < 0
  · rw [if_pos hn]
    go_enter Tryd.func32, Tryd.ntmps32
    go_wp2
    go_ret
    exact ⟨rfl, rfl⟩
  · rw [if_neg hn]
    go_enter Tryd.func32, Tryd.ntmps32
    go_wp2
    go_ret
    exact ⟨rfl, rfl⟩
end Go.Proofs.YteolglmifimnaaaDoor
