/- The law TreeKeeps is true for every input; no conditions. -/
import Derived.Deep.DeepCutAuto
import Derived.Test.YteolglmifimnaaaDoorCards
import Derived.Test.YteolglmifimnaaaDoorTie
import Derived.Lay
import Derived.LaidMore
import Derived.SevenTiedAt
import Derived.Test.YteolglmifimnaaaDoorPt1
import Derived.Test.YteolglmifimnaaaDoorPt2
import Derived.Test.YteolglmifimnaaaDoorPt3
import Derived.Test.YteolglmifimnaaaDoorPt4
import Derived.Test.YteolglmifimnaaaDoorPt5
import Derived.Test.YteolglmifimnaaaDoorPt6
import Derived.Test.YteolglmifimnaaaDoorPt7
import Derived.Test.YteolglmifimnaaaDoorPt8
import Derived.Test.YteolglmifimnaaaDoorPt9
namespace Go.Proofs.YteolglmifimnaaaDoor
open Go.RowKit Go.ChangeShapes Go.WideShapes Go.ChangeAt
theorem applyE_again {t : Tr} {x : Txn} (h : applyE t x = 0) : applyE (applyT t x) x = 13 := by
  obtain ⟨g1, g2, g3⟩ := apply_good h
  have hx := (wrong_inv (applyE_0 h).1).2.1
  have hz : (applyT t x).zxid = x.zxid := by rw [(applyT_0 h).1]
  have hw : wrongE (applyT t x) x = 13 := by
    unfold wrongE
    rw [if_neg (by rw [g1]; simp), if_neg (by rw [hx]; simp), if_pos (by omega)]
  unfold applyE
  rw [hw, if_neg (by decide)]
theorem apply_len {t : Tr} {x : Txn} (h : applyE t x = 0) : (applyT t x).nodes.length ≤ 400 ∧ (∀ n ∈ (applyT t x).nodes, n.path.size ≤ 200) ∧ (applyT t x).sess.length ≤ t.sess.length + 1 := by
  have hw := (applyE_0 h).1
  obtain ⟨hg, hx, hz, w1, w2, w3, w4, w5⟩ := wrong_inv hw
  have hG := apply_goodW hw
  have hs := (good_parts hg).1.sess
  rw [(applyT_0 h).1]
  refine ⟨hG.len, fun n hn => (goodP_size (hG.path n hn).1).2, ?_⟩
  show (doS t x).length ≤ _
  unfold doS
  by_cases h1 : x.op = 1
  · rw [if_pos h1, (insS_spec hs ((isI_no hs).1 (w1 h1))).2.2]
    omega
  · rw [if_neg h1]
    by_cases h2 : x.op = 2
    · rw [if_pos h2]
      have := (delS_spec hs ((isI_iff hs).1 (w2 h1))).2.2
      omega
    · rw [if_neg h2]
      omega
/-- what 'a, events, e := tree.Apply(..)' leaves: the tree in a box of its own -/
def CutA (W : World) (T : Tr) (V : List Event) (E : Int) (s5 s6 s7 : Value) (wx : World) : Prop :=
  ∃ (b : Nat) (A : Option Addr) (c : Nat) (A2 : Option Addr) (c2 : Nat) (A3 : Option Addr) (c3 : Nat), s5 = .pointer (some ⟨b, 0, none⟩) ∧ s6 = .slice A3 V.length c3 ∧ s7 = .int .i64 E ∧ Below W.heap.size W wx ∧ W.heap.size ≤ b ∧ b < wx.heap.size ∧ wx.cell? ⟨b, 0, none⟩ = some (.int .i64 T.zxid) ∧
    wx.cell? ⟨b, 1, none⟩ = some (.slice A T.nodes.length c) ∧ wx.cell? ⟨b, 2, none⟩ = some (.slice A2 T.sess.length c2) ∧ Hid (Sl cNode 9 wx (.slice A T.nodes.length c) T.nodes) ∧ Hid (Sl cInt 1 wx (.slice A2 T.sess.length c2) T.sess)
theorem new_cell {X : World} {cs : Array Value} {ty : TypeId} {n i : Nat} {v : Value} (hn : n = X.heap.size) (h : cs.toList[i]? = some v) : (X.alloc (.cells cs ty)).cell? ⟨n, i, none⟩ = some v := ((Bk.new X cs ty hn).cell i).trans h
set_option maxRecDepth 100000 in
set_option maxHeartbeats 4000000 in
theorem treeKeeps_ok (z : Int) (v v2 : Value) (l : List Node) (ss : List Int) (x : Txn) (w : World) (h : Sl cNode 9 w v l) (h2 : Sl cInt 1 w v2 ss) (hn : l.length * 88 ≤ 140737488355328) (hn2 : ss.length * 8 ≤ 140737488351232) (hz : ∀ n ∈ l, n.path.size ≤ 9223372036854775807) (hp : x.path.size ≤ 9223372036854775807) :
    Calls Tryd.prog 4 #[.agg #[.int .i64 z, v, v2], txnV x] w fun e w' => e = .returned (.bool true) ∧ Below w.heap.size w w' := by
  obtain ⟨A, c, rfl, h1, h1b⟩ := h.form
  obtain ⟨A2, c2, rfl, h3, h3b⟩ := h2.form
  have HV := Lib.hid h
  have HS := Lib.hid h2
  have HAP := Lib.hid (fun (W : World) (v v2 : Value) (h : Sl cNode 9 W v l) (h2 : Sl cInt 1 W v2 ss) => trApply z v v2 l ss x W h h2 hn (by omega) hz hp)
  have HOW := Lib.hid (fun (W : World) (h : Sl cNode 9 W (.slice A l.length c) l) (h2 : Sl cInt 1 W (.slice A2 ss.length c2) ss) => lawOwn z (.slice A l.length c) (.slice A2 ss.length c2) l ss W h h2 hn (by omega))
  have HGR := Lib.hid (fun (W : World) => grows_is W)
  unfold ApplyRes at HAP
  obtain ⟨T, hT⟩ : ∃ T, T = applyT ⟨z, l, ss⟩ x := ⟨_, rfl⟩
  obtain ⟨V, hV⟩ : ∃ V, V = applyV ⟨z, l, ss⟩ x := ⟨_, rfl⟩
  obtain ⟨E, hE⟩ : ∃ E, E = applyE ⟨z, l, ss⟩ x := ⟨_, rfl⟩
  rw [← hT, ← hV, ← hE] at HAP
  have HT := Lib.hid hT
  have HV7 := Lib.hid hV
  have HE := Lib.hid hE
  clear h h2 hT hV hE
  obtain ⟨xz, xo, xs, xp, xd, xv, xw⟩ := x
  go_enter Tryd.func4, Tryd.ntmps4
  go_upto_region 3 with ((go_at_call 22; refine (HGR.out _).mono ?_; rintro e w1 ⟨rfl, hb⟩; obtain ⟨ext0, d0, rfl⟩ := Below.grown_eq _ hb; clear hb))
  refine gen_w (fun W1 hW1 => ?_)
  have hbW1 : Below w.heap.size w W1 := by rw [hW1.out]; exact (by repeat (first | with_reducible exact Below.refl _ _ | with_reducible assumption | with_reducible exact below_d1 _ _ _ _ _ | with_reducible exact below_d2 _ _ _ _ _ _ _ _ | with_reducible exact below_d3 _ _ _ _ _ | with_reducible exact below_d4 _ _ _ _ _ _ _ _ | with_reducible exact below_d5 _ _ | with_reducible refine Below.drew ?_ | with_reducible refine Below.drewN' ?_ _ | with_reducible refine below_grow0 _ _ ?_ | with_reducible refine below_alloc0 _ ?_ | with_reducible refine Below.setCell ?_ ?_ _ | with_reducible refine Below.alloc ?_ ?_ _ | with_reducible refine Below.grow _ _ _ ?_ ?_ | omega | (simp; done) | (simp; omega)))
  have hs1 : w.heap.size + 1 < W1.heap.size := by rw [hW1.out]; simp; omega
  have k0 : W1.cell? ⟨w.heap.size, 0, none⟩ = some (.int .i64 z) := by rw [hW1.out]; go_simp
  have k1 : W1.cell? ⟨w.heap.size, 1, none⟩ = some (.slice A l.length c) := by rw [hW1.out]; go_simp
  have k2 : W1.cell? ⟨w.heap.size, 2, none⟩ = some (.slice A2 ss.length c2) := by rw [hW1.out]; go_simp
  have x0 : W1.cell? ⟨w.heap.size + 1, 0, none⟩ = some (.int .i64 xz) := by rw [hW1.out]; go_simp
  have x1 : W1.cell? ⟨w.heap.size + 1, 1, none⟩ = some (.int .i64 xo) := by rw [hW1.out]; go_simp
  have x2 : W1.cell? ⟨w.heap.size + 1, 2, none⟩ = some (.int .i64 xs) := by rw [hW1.out]; go_simp
  have x3 : W1.cell? ⟨w.heap.size + 1, 3, none⟩ = some (.string xp) := by rw [hW1.out]; go_simp
  have x4 : W1.cell? ⟨w.heap.size + 1, 4, none⟩ = some (.string xd) := by rw [hW1.out]; go_simp
  have x5 : W1.cell? ⟨w.heap.size + 1, 5, none⟩ = some (.int .i64 xv) := by rw [hW1.out]; go_simp
  have x6 : W1.cell? ⟨w.heap.size + 1, 6, none⟩ = some (.int .i64 xw) := by rw [hW1.out]; go_simp
  clear hW1
  go_cut [5, 6, 7] (fun s5 s6 s7 wx => CutA W1 T V E s5 s6 s7 wx)
  case first =>
    refine wp_region_noPanic ?_
    refine wp_region_W (by kernel_rfl) (fun W hW => ?_)
    have cl0 : W.cell? ⟨w.heap.size, 0, none⟩ = some (.int .i64 z) := by rw [hW.out]; go_simp
    have cl1 : W.cell? ⟨w.heap.size, 1, none⟩ = some (.slice A l.length c) := by rw [hW.out]; go_simp
    have cl2 : W.cell? ⟨w.heap.size, 2, none⟩ = some (.slice A2 ss.length c2) := by rw [hW.out]; go_simp
    have cl3 : W.cell? ⟨w.heap.size + 1, 0, none⟩ = some (.int .i64 xz) := by rw [hW.out]; go_simp
    have cl4 : W.cell? ⟨w.heap.size + 1, 1, none⟩ = some (.int .i64 xo) := by rw [hW.out]; go_simp
    have cl5 : W.cell? ⟨w.heap.size + 1, 2, none⟩ = some (.int .i64 xs) := by rw [hW.out]; go_simp
    have cl6 : W.cell? ⟨w.heap.size + 1, 3, none⟩ = some (.string xp) := by rw [hW.out]; go_simp
    have cl7 : W.cell? ⟨w.heap.size + 1, 4, none⟩ = some (.string xd) := by rw [hW.out]; go_simp
    have cl8 : W.cell? ⟨w.heap.size + 1, 5, none⟩ = some (.int .i64 xv) := by rw [hW.out]; go_simp
    have cl9 : W.cell? ⟨w.heap.size + 1, 6, none⟩ = some (.int .i64 xw) := by rw [hW.out]; go_simp
    have HVW := Lib.hid (HV.out.below (w' := W) (by rw [hW.out]; exact hbW1.drew))
    have HSW := Lib.hid (HS.out.below (w' := W) (by rw [hW.out]; exact hbW1.drew))
    have hWs : w.heap.size + 1 < W.heap.size := by rw [hW.out]; simp; omega
    have hW1W : Below W1.heap.size W1 W := by rw [hW.out]; exact (by repeat (first | with_reducible exact Below.refl _ _ | with_reducible assumption | with_reducible exact below_d1 _ _ _ _ _ | with_reducible exact below_d2 _ _ _ _ _ _ _ _ | with_reducible exact below_d3 _ _ _ _ _ | with_reducible exact below_d4 _ _ _ _ _ _ _ _ | with_reducible exact below_d5 _ _ | with_reducible refine Below.drew ?_ | with_reducible refine Below.drewN' ?_ _ | with_reducible refine below_grow0 _ _ ?_ | with_reducible refine below_alloc0 _ ?_ | with_reducible refine Below.setCell ?_ ?_ _ | with_reducible refine Below.alloc ?_ ?_ _ | with_reducible refine Below.grow _ _ _ ?_ ?_ | omega | (simp; done) | (simp; omega)))
    have hWs1 : W.heap.size = W1.heap.size := by rw [hW.out]; simp
    refine wpAny_S (fun w' => w'.cell? ⟨w.heap.size, 0, none⟩ = some (.int .i64 z) ∧ w'.cell? ⟨w.heap.size, 1, none⟩ = some (.slice A l.length c) ∧ w'.cell? ⟨w.heap.size, 2, none⟩ = some (.slice A2 ss.length c2) ∧ w'.cell? ⟨w.heap.size + 1, 0, none⟩ = some (.int .i64 xz) ∧ w'.cell? ⟨w.heap.size + 1, 1, none⟩ = some (.int .i64 xo) ∧ w'.cell? ⟨w.heap.size + 1, 2, none⟩ = some (.int .i64 xs) ∧ w'.cell? ⟨w.heap.size + 1, 3, none⟩ = some (.string xp) ∧ w'.cell? ⟨w.heap.size + 1, 4, none⟩ = some (.string xd) ∧ w'.cell? ⟨w.heap.size + 1, 5, none⟩ = some (.int .i64 xv) ∧ w'.cell? ⟨w.heap.size + 1, 6, none⟩ = some (.int .i64 xw)) (fun i => false) (by (try dsimp only); (refine ⟨?_, ?_, ?_, ?_, ?_, ?_, ?_, ?_, ?_, ?_⟩ <;> go_simp)) (fun hHeld => ?_)
    (refine wpE_take (i := 0) (v := ?gV1_1) (by simp only [List.getElem?_toArray]; rfl) (by kernel_rfl) (by kernel_rfl) (by kernel_rfl) (by kernel_rfl) (by kernel_rfl) (by rfl) (fun _ _ _ h => h) (Or.inl ⟨by rfl, ?gY1_1⟩) (by assumption) ?gR1_1; case gY1_1 => (intro w hSw; (try dsimp only at hSw); go_simp <;> with_reducible rfl))
    try simp only [Act.put, List.setIfInBounds_toArray, List.set_cons_zero, List.set_cons_succ]
    (refine wpE_take (i := 2) (v := ?gV1_2) (by simp only [List.getElem?_toArray]; rfl) (by kernel_rfl) (by kernel_rfl) (by kernel_rfl) (by kernel_rfl) (by kernel_rfl) (by rfl) (fun _ _ _ h => h) (Or.inl ⟨by rfl, ?gY1_2⟩) (by assumption) ?gR1_2; case gY1_2 => (intro w hSw; (try dsimp only at hSw); go_simp <;> with_reducible rfl))
    try simp only [Act.put, List.setIfInBounds_toArray, List.set_cons_zero, List.set_cons_succ]
    refine wpE_ready (rs := [1, 8]) (by kernel_rfl) (by simp) ?_
    refine AllE.cons (by simp only [List.getElem?_toArray]; rfl) (fun K hK => ?gO1_3) ?gL1_3
    case gO1_3 =>
      go_simp
      (go_at_call 16; (with_reducible refine (HOW.out _ (HVW.out.below (by repeat (first | with_reducible exact Below.refl _ _ | with_reducible assumption | with_reducible exact below_d1 _ _ _ _ _ | with_reducible exact below_d2 _ _ _ _ _ _ _ _ | with_reducible exact below_d3 _ _ _ _ _ | with_reducible exact below_d4 _ _ _ _ _ _ _ _ | with_reducible exact below_d5 _ _ | with_reducible refine Below.drew ?_ | with_reducible refine Below.drewN' ?_ _ | with_reducible refine below_grow0 _ _ ?_ | with_reducible refine below_alloc0 _ ?_ | with_reducible refine Below.setCell ?_ ?_ _ | with_reducible refine Below.alloc ?_ ?_ _ | with_reducible refine Below.grow _ _ _ ?_ ?_ | omega | (simp; done) | (simp; omega)))) (HSW.out.below (by repeat (first | with_reducible exact Below.refl _ _ | with_reducible assumption | with_reducible exact below_d1 _ _ _ _ _ | with_reducible exact below_d2 _ _ _ _ _ _ _ _ | with_reducible exact below_d3 _ _ _ _ _ | with_reducible exact below_d4 _ _ _ _ _ _ _ _ | with_reducible exact below_d5 _ _ | with_reducible refine Below.drew ?_ | with_reducible refine Below.drewN' ?_ _ | with_reducible refine below_grow0 _ _ ?_ | with_reducible refine below_alloc0 _ ?_ | with_reducible refine Below.setCell ?_ ?_ _ | with_reducible refine Below.alloc ?_ ?_ _ | with_reducible refine Below.grow _ _ _ ?_ ?_ | omega | (simp; done) | (simp; omega))))).mono ?_); rintro e w1 ⟨A5, c5, A6, c6, rfl, ho1, ho2, hb1⟩; obtain ⟨ext1, d1, rfl⟩ := Below.grown_eq _ hb1; have HO1 := Lib.hid ho1.sl; have HO2 := Lib.hid ho2.sl; clear ho1 ho2 hb1)
      refine hK.out _ _ ?gT1_3 (fun hHeld => ?_)
      case gT1_3 => ((try dsimp only); (refine ⟨?_, ?_, ?_, ?_, ?_, ?_, ?_, ?_, ?_, ?_⟩ <;> go_simp))
      clear hK K
      try simp only [Act.put, List.setIfInBounds_toArray, List.set_cons_zero, List.set_cons_succ]
      refine wpE_ready (rs := [3, 8]) (by kernel_rfl) (by simp) ?_
      refine AllE.cons (by simp only [List.getElem?_toArray]; rfl) (fun K hK => ?gO1_4) ?gL1_4
      case gO1_4 =>
        go_simp
        (go_at_call 23; (with_reducible refine (HAP.out _ _ _ (HO1.out.below (by repeat (first | with_reducible exact Below.refl _ _ | with_reducible assumption | with_reducible exact below_d1 _ _ _ _ _ | with_reducible exact below_d2 _ _ _ _ _ _ _ _ | with_reducible exact below_d3 _ _ _ _ _ | with_reducible exact below_d4 _ _ _ _ _ _ _ _ | with_reducible exact below_d5 _ _ | with_reducible refine Below.drew ?_ | with_reducible refine Below.drewN' ?_ _ | with_reducible refine below_grow0 _ _ ?_ | with_reducible refine below_alloc0 _ ?_ | with_reducible refine Below.setCell ?_ ?_ _ | with_reducible refine Below.alloc ?_ ?_ _ | with_reducible refine Below.grow _ _ _ ?_ ?_ | omega | (simp; done) | (simp; omega)))) (HO2.out.below (by repeat (first | with_reducible exact Below.refl _ _ | with_reducible assumption | with_reducible exact below_d1 _ _ _ _ _ | with_reducible exact below_d2 _ _ _ _ _ _ _ _ | with_reducible exact below_d3 _ _ _ _ _ | with_reducible exact below_d4 _ _ _ _ _ _ _ _ | with_reducible exact below_d5 _ _ | with_reducible refine Below.drew ?_ | with_reducible refine Below.drewN' ?_ _ | with_reducible refine below_grow0 _ _ ?_ | with_reducible refine below_alloc0 _ ?_ | with_reducible refine Below.setCell ?_ ?_ _ | with_reducible refine Below.alloc ?_ ?_ _ | with_reducible refine Below.grow _ _ _ ?_ ?_ | omega | (simp; done) | (simp; omega))))).mono ?_); rintro e w3 ⟨nv, sv, vv, rfl, hn3, hs3, hv3, hb3⟩; obtain ⟨A7, c7, rfl, _⟩ := hn3.form; obtain ⟨A8, c8, rfl, _⟩ := hs3.form; obtain ⟨A9, c9, rfl, _⟩ := hv3.form; obtain ⟨ext3, d3, rfl⟩ := Below.grown_eq _ hb3; have HN3 := Lib.hid hn3; have HS3 := Lib.hid hs3; clear hn3 hs3 hv3 hb3)
        refine hK.out _ _ ?gT1_4 (fun hHeld => ?_)
        case gT1_4 => ((try dsimp only); (refine ⟨?_, ?_, ?_, ?_, ?_, ?_, ?_, ?_, ?_, ?_⟩ <;> go_simp))
        clear hK K
        try simp only [Act.put, List.setIfInBounds_toArray, List.set_cons_zero, List.set_cons_succ]
        (refine wpE_takeP (i := 4) (v := ?gV1_5) (by simp only [List.getElem?_toArray]; rfl) (by kernel_rfl) (by kernel_rfl) (by kernel_rfl) (by rfl) (fun _ _ _ h => h) (Or.inl ⟨by rfl, ?gY1_5⟩) (by assumption) ?gR1_5; case gY1_5 => (intro w hSw; (try dsimp only at hSw); go_simp <;> with_reducible rfl))
        try simp only [Act.put, List.setIfInBounds_toArray, List.set_cons_zero, List.set_cons_succ]
        (refine wpE_takeP (i := 5) (v := ?gV1_6) (by simp only [List.getElem?_toArray]; rfl) (by kernel_rfl) (by kernel_rfl) (by kernel_rfl) (by rfl) (fun _ _ _ h => h) (Or.inl ⟨by rfl, ?gY1_6⟩) (by assumption) ?gR1_6; case gY1_6 => (intro w hSw; (try dsimp only at hSw); go_simp <;> with_reducible rfl))
        try simp only [Act.put, List.setIfInBounds_toArray, List.set_cons_zero, List.set_cons_succ]
        (refine wpE_takeP (i := 6) (v := ?gV1_7) (by simp only [List.getElem?_toArray]; rfl) (by kernel_rfl) (by kernel_rfl) (by kernel_rfl) (by rfl) (fun _ _ _ h => h) (Or.inl ⟨by rfl, ?gY1_7⟩) (by assumption) ?gR1_7; case gY1_7 => (intro w hSw; (try dsimp only at hSw); go_simp <;> with_reducible rfl))
        try simp only [Act.put, List.setIfInBounds_toArray, List.set_cons_zero, List.set_cons_succ]
        (refine wpE_takeP (i := 7) (v := ?gV1_8) (by simp only [List.getElem?_toArray]; rfl) (by kernel_rfl) (by kernel_rfl) (by kernel_rfl) (by rfl) (fun _ _ _ h => h) (Or.inl ⟨by rfl, ?gY1_8⟩) (by assumption) ?gR1_8; case gY1_8 => (intro w hSw; (try dsimp only at hSw); go_simp <;> with_reducible rfl))
        try simp only [Act.put, List.setIfInBounds_toArray, List.set_cons_zero, List.set_cons_succ]
        refine wpE_ready (rs := [8]) (by kernel_rfl) (by simp) ?_
        refine AllE.cons (by simp only [List.getElem?_toArray]; rfl) (fun K hK => ?_) AllE.nil
        go_simp
        refine hK.out _ _ ?gT1_9 (fun hHeld => ?_)
        case gT1_9 => ((try dsimp only); (refine ⟨?_, ?_, ?_, ?_, ?_, ?_, ?_, ?_, ?_, ?_⟩ <;> go_simp))
        clear hK K
        try simp only [Act.put, List.setIfInBounds_toArray, List.set_cons_zero, List.set_cons_succ]
        refine wpE_ready (rs := [9]) (by kernel_rfl) (by simp) ?_
        refine AllE.cons (by simp only [List.getElem?_toArray]; rfl) (fun K hK => ?_) AllE.nil
        go_simp
        refine hK.out _ _ ?gT1_10 (fun hHeld => ?_)
        case gT1_10 => ((try dsimp only); (refine ⟨?_, ?_, ?_, ?_, ?_, ?_, ?_, ?_, ?_, ?_⟩ <;> go_simp))
        clear hK K
        try simp only [Act.put, List.setIfInBounds_toArray, List.set_cons_zero, List.set_cons_succ]
        (refine wpE_takeP (i := 10) (v := ?gV1_11) (by simp only [List.getElem?_toArray]; rfl) (by kernel_rfl) (by kernel_rfl) (by kernel_rfl) (by rfl) (fun _ _ _ h => h) (Or.inl ⟨by rfl, ?gY1_11⟩) (by assumption) ?gR1_11; case gY1_11 => (intro w hSw; (try dsimp only at hSw); go_simp <;> with_reducible rfl))
        try simp only [Act.put, List.setIfInBounds_toArray, List.set_cons_zero, List.set_cons_succ]
        (refine wpE_takeP (i := 11) (v := ?gV1_12) (by simp only [List.getElem?_toArray]; rfl) (by kernel_rfl) (by kernel_rfl) (by kernel_rfl) (by rfl) (fun _ _ _ h => h) (Or.inl ⟨by rfl, ?gY1_12⟩) (by assumption) ?gR1_12; case gY1_12 => (intro w hSw; (try dsimp only at hSw); go_simp <;> with_reducible rfl))
        try simp only [Act.put, List.setIfInBounds_toArray, List.set_cons_zero, List.set_cons_succ]
        refine wpE_done (by kernel_rfl) ?_ _
        refine NoPanic.normal ?_
        go_wp2_with fail
        go_meet
        refine ⟨_, A7, c7, A8, c8, A9, c9, rfl, rfl, rfl, ?_, ?_, ?_, ?_, ?_, ?_, Lib.hid ?n1_12, Lib.hid ?s1_12⟩
        · exact Below.own hW1W (by repeat (first | with_reducible exact Below.refl _ _ | with_reducible assumption | with_reducible exact below_d1 _ _ _ _ _ | with_reducible exact below_d2 _ _ _ _ _ _ _ _ | with_reducible exact below_d3 _ _ _ _ _ | with_reducible exact below_d4 _ _ _ _ _ _ _ _ | with_reducible exact below_d5 _ _ | with_reducible refine Below.drew ?_ | with_reducible refine Below.drewN' ?_ _ | with_reducible refine below_grow0 _ _ ?_ | with_reducible refine below_alloc0 _ ?_ | with_reducible refine Below.setCell ?_ ?_ _ | with_reducible refine Below.alloc ?_ ?_ _ | with_reducible refine Below.grow _ _ _ ?_ ?_ | omega | (simp; done) | (simp; omega)))
        · first | omega | (simp <;> omega)
        · first | omega | (simp <;> omega)
        · (first | exact new_cell (by simp [hWs1]) rfl | exact grow_at (new_cell (by simp [hWs1]) rfl) | exact grow_at (grow_at (new_cell (by simp [hWs1]) rfl)))
        · (first | exact new_cell (by simp [hWs1]) rfl | exact grow_at (new_cell (by simp [hWs1]) rfl) | exact grow_at (grow_at (new_cell (by simp [hWs1]) rfl)))
        · (first | exact new_cell (by simp [hWs1]) rfl | exact grow_at (new_cell (by simp [hWs1]) rfl) | exact grow_at (grow_at (new_cell (by simp [hWs1]) rfl)))
        case n1_12 =>
          refine (Ow.moved (W' := ?w91_12) (d' := ?x91_12) HN3.out (Nat.le_refl _) ?b91_12 ?z91_12).sl
          case b91_12 => exact (by repeat (first | with_reducible exact Below.refl _ _ | with_reducible assumption | with_reducible exact below_d1 _ _ _ _ _ | with_reducible exact below_d2 _ _ _ _ _ _ _ _ | with_reducible exact below_d3 _ _ _ _ _ | with_reducible exact below_d4 _ _ _ _ _ _ _ _ | with_reducible exact below_d5 _ _ | with_reducible refine Below.drew ?_ | with_reducible refine Below.drewN' ?_ _ | with_reducible refine below_grow0 _ _ ?_ | with_reducible refine below_alloc0 _ ?_ | with_reducible refine Below.setCell ?_ ?_ _ | with_reducible refine Below.alloc ?_ ?_ _ | with_reducible refine Below.grow _ _ _ ?_ ?_ | omega | (simp; done) | (simp; omega)))
          case z91_12 => simp
        case s1_12 =>
          refine (Ow.moved (W' := ?w81_12) (d' := ?x81_12) HS3.out (Nat.le_refl _) ?b81_12 ?z81_12).sl
          case b81_12 => exact (by repeat (first | with_reducible exact Below.refl _ _ | with_reducible assumption | with_reducible exact below_d1 _ _ _ _ _ | with_reducible exact below_d2 _ _ _ _ _ _ _ _ | with_reducible exact below_d3 _ _ _ _ _ | with_reducible exact below_d4 _ _ _ _ _ _ _ _ | with_reducible exact below_d5 _ _ | with_reducible refine Below.drew ?_ | with_reducible refine Below.drewN' ?_ _ | with_reducible refine below_grow0 _ _ ?_ | with_reducible refine below_alloc0 _ ?_ | with_reducible refine Below.setCell ?_ ?_ _ | with_reducible refine Below.alloc ?_ ?_ _ | with_reducible refine Below.grow _ _ _ ?_ ?_ | omega | (simp; done) | (simp; omega)))
          case z81_12 => simp
      refine AllE.cons (by simp only [List.getElem?_toArray]; rfl) (fun K hK => ?gO1_13) ?gL1_13
      case gO1_13 =>
        go_simp
        refine hK.out _ _ ?gT1_13 (fun hHeld => ?_)
        case gT1_13 => ((try dsimp only); (refine ⟨?_, ?_, ?_, ?_, ?_, ?_, ?_, ?_, ?_, ?_⟩ <;> go_simp))
        clear hK K
        try simp only [Act.put, List.setIfInBounds_toArray, List.set_cons_zero, List.set_cons_succ]
        refine wpE_ready (rs := [3]) (by kernel_rfl) (by simp) ?_
        refine AllE.cons (by simp only [List.getElem?_toArray]; rfl) (fun K hK => ?_) AllE.nil
        go_simp
        (go_at_call 23; (with_reducible refine (HAP.out _ _ _ (HO1.out.below (by repeat (first | with_reducible exact Below.refl _ _ | with_reducible assumption | with_reducible exact below_d1 _ _ _ _ _ | with_reducible exact below_d2 _ _ _ _ _ _ _ _ | with_reducible exact below_d3 _ _ _ _ _ | with_reducible exact below_d4 _ _ _ _ _ _ _ _ | with_reducible exact below_d5 _ _ | with_reducible refine Below.drew ?_ | with_reducible refine Below.drewN' ?_ _ | with_reducible refine below_grow0 _ _ ?_ | with_reducible refine below_alloc0 _ ?_ | with_reducible refine Below.setCell ?_ ?_ _ | with_reducible refine Below.alloc ?_ ?_ _ | with_reducible refine Below.grow _ _ _ ?_ ?_ | omega | (simp; done) | (simp; omega)))) (HO2.out.below (by repeat (first | with_reducible exact Below.refl _ _ | with_reducible assumption | with_reducible exact below_d1 _ _ _ _ _ | with_reducible exact below_d2 _ _ _ _ _ _ _ _ | with_reducible exact below_d3 _ _ _ _ _ | with_reducible exact below_d4 _ _ _ _ _ _ _ _ | with_reducible exact below_d5 _ _ | with_reducible refine Below.drew ?_ | with_reducible refine Below.drewN' ?_ _ | with_reducible refine below_grow0 _ _ ?_ | with_reducible refine below_alloc0 _ ?_ | with_reducible refine Below.setCell ?_ ?_ _ | with_reducible refine Below.alloc ?_ ?_ _ | with_reducible refine Below.grow _ _ _ ?_ ?_ | omega | (simp; done) | (simp; omega))))).mono ?_); rintro e w3 ⟨nv, sv, vv, rfl, hn3, hs3, hv3, hb3⟩; obtain ⟨A7, c7, rfl, _⟩ := hn3.form; obtain ⟨A8, c8, rfl, _⟩ := hs3.form; obtain ⟨A9, c9, rfl, _⟩ := hv3.form; obtain ⟨ext3, d3, rfl⟩ := Below.grown_eq _ hb3; have HN3 := Lib.hid hn3; have HS3 := Lib.hid hs3; clear hn3 hs3 hv3 hb3)
        refine hK.out _ _ ?gT1_14 (fun hHeld => ?_)
        case gT1_14 => ((try dsimp only); (refine ⟨?_, ?_, ?_, ?_, ?_, ?_, ?_, ?_, ?_, ?_⟩ <;> go_simp))
        clear hK K
        try simp only [Act.put, List.setIfInBounds_toArray, List.set_cons_zero, List.set_cons_succ]
        (refine wpE_takeP (i := 4) (v := ?gV1_15) (by simp only [List.getElem?_toArray]; rfl) (by kernel_rfl) (by kernel_rfl) (by kernel_rfl) (by rfl) (fun _ _ _ h => h) (Or.inl ⟨by rfl, ?gY1_15⟩) (by assumption) ?gR1_15; case gY1_15 => (intro w hSw; (try dsimp only at hSw); go_simp <;> with_reducible rfl))
        try simp only [Act.put, List.setIfInBounds_toArray, List.set_cons_zero, List.set_cons_succ]
        (refine wpE_takeP (i := 5) (v := ?gV1_16) (by simp only [List.getElem?_toArray]; rfl) (by kernel_rfl) (by kernel_rfl) (by kernel_rfl) (by rfl) (fun _ _ _ h => h) (Or.inl ⟨by rfl, ?gY1_16⟩) (by assumption) ?gR1_16; case gY1_16 => (intro w hSw; (try dsimp only at hSw); go_simp <;> with_reducible rfl))
        try simp only [Act.put, List.setIfInBounds_toArray, List.set_cons_zero, List.set_cons_succ]
        (refine wpE_takeP (i := 6) (v := ?gV1_17) (by simp only [List.getElem?_toArray]; rfl) (by kernel_rfl) (by kernel_rfl) (by kernel_rfl) (by rfl) (fun _ _ _ h => h) (Or.inl ⟨by rfl, ?gY1_17⟩) (by assumption) ?gR1_17; case gY1_17 => (intro w hSw; (try dsimp only at hSw); go_simp <;> with_reducible rfl))
        try simp only [Act.put, List.setIfInBounds_toArray, List.set_cons_zero, List.set_cons_succ]
        (refine wpE_takeP (i := 7) (v := ?gV1_18) (by simp only [List.getElem?_toArray]; rfl) (by kernel_rfl) (by kernel_rfl) (by kernel_rfl) (by rfl) (fun _ _ _ h => h) (Or.inl ⟨by rfl, ?gY1_18⟩) (by assumption) ?gR1_18; case gY1_18 => (intro w hSw; (try dsimp only at hSw); go_simp <;> with_reducible rfl))
        try simp only [Act.put, List.setIfInBounds_toArray, List.set_cons_zero, List.set_cons_succ]
        refine wpE_ready (rs := [9]) (by kernel_rfl) (by simp) ?_
        refine AllE.cons (by simp only [List.getElem?_toArray]; rfl) (fun K hK => ?_) AllE.nil
        go_simp
        refine hK.out _ _ ?gT1_19 (fun hHeld => ?_)
        case gT1_19 => ((try dsimp only); (refine ⟨?_, ?_, ?_, ?_, ?_, ?_, ?_, ?_, ?_, ?_⟩ <;> go_simp))
        clear hK K
        try simp only [Act.put, List.setIfInBounds_toArray, List.set_cons_zero, List.set_cons_succ]
        (refine wpE_takeP (i := 10) (v := ?gV1_20) (by simp only [List.getElem?_toArray]; rfl) (by kernel_rfl) (by kernel_rfl) (by kernel_rfl) (by rfl) (fun _ _ _ h => h) (Or.inl ⟨by rfl, ?gY1_20⟩) (by assumption) ?gR1_20; case gY1_20 => (intro w hSw; (try dsimp only at hSw); go_simp <;> with_reducible rfl))
        try simp only [Act.put, List.setIfInBounds_toArray, List.set_cons_zero, List.set_cons_succ]
        (refine wpE_takeP (i := 11) (v := ?gV1_21) (by simp only [List.getElem?_toArray]; rfl) (by kernel_rfl) (by kernel_rfl) (by kernel_rfl) (by rfl) (fun _ _ _ h => h) (Or.inl ⟨by rfl, ?gY1_21⟩) (by assumption) ?gR1_21; case gY1_21 => (intro w hSw; (try dsimp only at hSw); go_simp <;> with_reducible rfl))
        try simp only [Act.put, List.setIfInBounds_toArray, List.set_cons_zero, List.set_cons_succ]
        refine wpE_done (by kernel_rfl) ?_ _
        refine NoPanic.normal ?_
        go_wp2_with fail
        go_meet
        refine ⟨_, A7, c7, A8, c8, A9, c9, rfl, rfl, rfl, ?_, ?_, ?_, ?_, ?_, ?_, Lib.hid ?n1_21, Lib.hid ?s1_21⟩
        · exact Below.own hW1W (by repeat (first | with_reducible exact Below.refl _ _ | with_reducible assumption | with_reducible exact below_d1 _ _ _ _ _ | with_reducible exact below_d2 _ _ _ _ _ _ _ _ | with_reducible exact below_d3 _ _ _ _ _ | with_reducible exact below_d4 _ _ _ _ _ _ _ _ | with_reducible exact below_d5 _ _ | with_reducible refine Below.drew ?_ | with_reducible refine Below.drewN' ?_ _ | with_reducible refine below_grow0 _ _ ?_ | with_reducible refine below_alloc0 _ ?_ | with_reducible refine Below.setCell ?_ ?_ _ | with_reducible refine Below.alloc ?_ ?_ _ | with_reducible refine Below.grow _ _ _ ?_ ?_ | omega | (simp; done) | (simp; omega)))
        · first | omega | (simp <;> omega)
        · first | omega | (simp <;> omega)
        · (first | exact new_cell (by simp [hWs1]) rfl | exact grow_at (new_cell (by simp [hWs1]) rfl) | exact grow_at (grow_at (new_cell (by simp [hWs1]) rfl)))
        · (first | exact new_cell (by simp [hWs1]) rfl | exact grow_at (new_cell (by simp [hWs1]) rfl) | exact grow_at (grow_at (new_cell (by simp [hWs1]) rfl)))
        · (first | exact new_cell (by simp [hWs1]) rfl | exact grow_at (new_cell (by simp [hWs1]) rfl) | exact grow_at (grow_at (new_cell (by simp [hWs1]) rfl)))
        case n1_21 =>
          refine (Ow.moved (W' := ?w91_21) (d' := ?x91_21) HN3.out (Nat.le_refl _) ?b91_21 ?z91_21).sl
          case b91_21 => exact (by repeat (first | with_reducible exact Below.refl _ _ | with_reducible assumption | with_reducible exact below_d1 _ _ _ _ _ | with_reducible exact below_d2 _ _ _ _ _ _ _ _ | with_reducible exact below_d3 _ _ _ _ _ | with_reducible exact below_d4 _ _ _ _ _ _ _ _ | with_reducible exact below_d5 _ _ | with_reducible refine Below.drew ?_ | with_reducible refine Below.drewN' ?_ _ | with_reducible refine below_grow0 _ _ ?_ | with_reducible refine below_alloc0 _ ?_ | with_reducible refine Below.setCell ?_ ?_ _ | with_reducible refine Below.alloc ?_ ?_ _ | with_reducible refine Below.grow _ _ _ ?_ ?_ | omega | (simp; done) | (simp; omega)))
          case z91_21 => simp
        case s1_21 =>
          refine (Ow.moved (W' := ?w81_21) (d' := ?x81_21) HS3.out (Nat.le_refl _) ?b81_21 ?z81_21).sl
          case b81_21 => exact (by repeat (first | with_reducible exact Below.refl _ _ | with_reducible assumption | with_reducible exact below_d1 _ _ _ _ _ | with_reducible exact below_d2 _ _ _ _ _ _ _ _ | with_reducible exact below_d3 _ _ _ _ _ | with_reducible exact below_d4 _ _ _ _ _ _ _ _ | with_reducible exact below_d5 _ _ | with_reducible refine Below.drew ?_ | with_reducible refine Below.drewN' ?_ _ | with_reducible refine below_grow0 _ _ ?_ | with_reducible refine below_alloc0 _ ?_ | with_reducible refine Below.setCell ?_ ?_ _ | with_reducible refine Below.alloc ?_ ?_ _ | with_reducible refine Below.grow _ _ _ ?_ ?_ | omega | (simp; done) | (simp; omega)))
          case z81_21 => simp
      exact AllE.nil
    refine AllE.cons (by simp only [List.getElem?_toArray]; rfl) (fun K hK => ?gO1_22) ?gL1_22
    case gO1_22 =>
      go_simp
      refine hK.out _ _ ?gT1_22 (fun hHeld => ?_)
      case gT1_22 => ((try dsimp only); (refine ⟨?_, ?_, ?_, ?_, ?_, ?_, ?_, ?_, ?_, ?_⟩ <;> go_simp))
      clear hK K
      try simp only [Act.put, List.setIfInBounds_toArray, List.set_cons_zero, List.set_cons_succ]
      refine wpE_ready (rs := [1]) (by kernel_rfl) (by simp) ?_
      refine AllE.cons (by simp only [List.getElem?_toArray]; rfl) (fun K hK => ?_) AllE.nil
      go_simp
      (go_at_call 16; (with_reducible refine (HOW.out _ (HVW.out.below (by repeat (first | with_reducible exact Below.refl _ _ | with_reducible assumption | with_reducible exact below_d1 _ _ _ _ _ | with_reducible exact below_d2 _ _ _ _ _ _ _ _ | with_reducible exact below_d3 _ _ _ _ _ | with_reducible exact below_d4 _ _ _ _ _ _ _ _ | with_reducible exact below_d5 _ _ | with_reducible refine Below.drew ?_ | with_reducible refine Below.drewN' ?_ _ | with_reducible refine below_grow0 _ _ ?_ | with_reducible refine below_alloc0 _ ?_ | with_reducible refine Below.setCell ?_ ?_ _ | with_reducible refine Below.alloc ?_ ?_ _ | with_reducible refine Below.grow _ _ _ ?_ ?_ | omega | (simp; done) | (simp; omega)))) (HSW.out.below (by repeat (first | with_reducible exact Below.refl _ _ | with_reducible assumption | with_reducible exact below_d1 _ _ _ _ _ | with_reducible exact below_d2 _ _ _ _ _ _ _ _ | with_reducible exact below_d3 _ _ _ _ _ | with_reducible exact below_d4 _ _ _ _ _ _ _ _ | with_reducible exact below_d5 _ _ | with_reducible refine Below.drew ?_ | with_reducible refine Below.drewN' ?_ _ | with_reducible refine below_grow0 _ _ ?_ | with_reducible refine below_alloc0 _ ?_ | with_reducible refine Below.setCell ?_ ?_ _ | with_reducible refine Below.alloc ?_ ?_ _ | with_reducible refine Below.grow _ _ _ ?_ ?_ | omega | (simp; done) | (simp; omega))))).mono ?_); rintro e w1 ⟨A5, c5, A6, c6, rfl, ho1, ho2, hb1⟩; obtain ⟨ext1, d1, rfl⟩ := Below.grown_eq _ hb1; have HO1 := Lib.hid ho1.sl; have HO2 := Lib.hid ho2.sl; clear ho1 ho2 hb1)
      refine hK.out _ _ ?gT1_23 (fun hHeld => ?_)
      case gT1_23 => ((try dsimp only); (refine ⟨?_, ?_, ?_, ?_, ?_, ?_, ?_, ?_, ?_, ?_⟩ <;> go_simp))
      clear hK K
      try simp only [Act.put, List.setIfInBounds_toArray, List.set_cons_zero, List.set_cons_succ]
      refine wpE_ready (rs := [3]) (by kernel_rfl) (by simp) ?_
      refine AllE.cons (by simp only [List.getElem?_toArray]; rfl) (fun K hK => ?_) AllE.nil
      go_simp
      (go_at_call 23; (with_reducible refine (HAP.out _ _ _ (HO1.out.below (by repeat (first | with_reducible exact Below.refl _ _ | with_reducible assumption | with_reducible exact below_d1 _ _ _ _ _ | with_reducible exact below_d2 _ _ _ _ _ _ _ _ | with_reducible exact below_d3 _ _ _ _ _ | with_reducible exact below_d4 _ _ _ _ _ _ _ _ | with_reducible exact below_d5 _ _ | with_reducible refine Below.drew ?_ | with_reducible refine Below.drewN' ?_ _ | with_reducible refine below_grow0 _ _ ?_ | with_reducible refine below_alloc0 _ ?_ | with_reducible refine Below.setCell ?_ ?_ _ | with_reducible refine Below.alloc ?_ ?_ _ | with_reducible refine Below.grow _ _ _ ?_ ?_ | omega | (simp; done) | (simp; omega)))) (HO2.out.below (by repeat (first | with_reducible exact Below.refl _ _ | with_reducible assumption | with_reducible exact below_d1 _ _ _ _ _ | with_reducible exact below_d2 _ _ _ _ _ _ _ _ | with_reducible exact below_d3 _ _ _ _ _ | with_reducible exact below_d4 _ _ _ _ _ _ _ _ | with_reducible exact below_d5 _ _ | with_reducible refine Below.drew ?_ | with_reducible refine Below.drewN' ?_ _ | with_reducible refine below_grow0 _ _ ?_ | with_reducible refine below_alloc0 _ ?_ | with_reducible refine Below.setCell ?_ ?_ _ | with_reducible refine Below.alloc ?_ ?_ _ | with_reducible refine Below.grow _ _ _ ?_ ?_ | omega | (simp; done) | (simp; omega))))).mono ?_); rintro e w3 ⟨nv, sv, vv, rfl, hn3, hs3, hv3, hb3⟩; obtain ⟨A7, c7, rfl, _⟩ := hn3.form; obtain ⟨A8, c8, rfl, _⟩ := hs3.form; obtain ⟨A9, c9, rfl, _⟩ := hv3.form; obtain ⟨ext3, d3, rfl⟩ := Below.grown_eq _ hb3; have HN3 := Lib.hid hn3; have HS3 := Lib.hid hs3; clear hn3 hs3 hv3 hb3)
      refine hK.out _ _ ?gT1_24 (fun hHeld => ?_)
      case gT1_24 => ((try dsimp only); (refine ⟨?_, ?_, ?_, ?_, ?_, ?_, ?_, ?_, ?_, ?_⟩ <;> go_simp))
      clear hK K
      try simp only [Act.put, List.setIfInBounds_toArray, List.set_cons_zero, List.set_cons_succ]
      (refine wpE_takeP (i := 4) (v := ?gV1_25) (by simp only [List.getElem?_toArray]; rfl) (by kernel_rfl) (by kernel_rfl) (by kernel_rfl) (by rfl) (fun _ _ _ h => h) (Or.inl ⟨by rfl, ?gY1_25⟩) (by assumption) ?gR1_25; case gY1_25 => (intro w hSw; (try dsimp only at hSw); go_simp <;> with_reducible rfl))
      try simp only [Act.put, List.setIfInBounds_toArray, List.set_cons_zero, List.set_cons_succ]
      (refine wpE_takeP (i := 5) (v := ?gV1_26) (by simp only [List.getElem?_toArray]; rfl) (by kernel_rfl) (by kernel_rfl) (by kernel_rfl) (by rfl) (fun _ _ _ h => h) (Or.inl ⟨by rfl, ?gY1_26⟩) (by assumption) ?gR1_26; case gY1_26 => (intro w hSw; (try dsimp only at hSw); go_simp <;> with_reducible rfl))
      try simp only [Act.put, List.setIfInBounds_toArray, List.set_cons_zero, List.set_cons_succ]
      (refine wpE_takeP (i := 6) (v := ?gV1_27) (by simp only [List.getElem?_toArray]; rfl) (by kernel_rfl) (by kernel_rfl) (by kernel_rfl) (by rfl) (fun _ _ _ h => h) (Or.inl ⟨by rfl, ?gY1_27⟩) (by assumption) ?gR1_27; case gY1_27 => (intro w hSw; (try dsimp only at hSw); go_simp <;> with_reducible rfl))
      try simp only [Act.put, List.setIfInBounds_toArray, List.set_cons_zero, List.set_cons_succ]
      (refine wpE_takeP (i := 7) (v := ?gV1_28) (by simp only [List.getElem?_toArray]; rfl) (by kernel_rfl) (by kernel_rfl) (by kernel_rfl) (by rfl) (fun _ _ _ h => h) (Or.inl ⟨by rfl, ?gY1_28⟩) (by assumption) ?gR1_28; case gY1_28 => (intro w hSw; (try dsimp only at hSw); go_simp <;> with_reducible rfl))
      try simp only [Act.put, List.setIfInBounds_toArray, List.set_cons_zero, List.set_cons_succ]
      refine wpE_ready (rs := [9]) (by kernel_rfl) (by simp) ?_
      refine AllE.cons (by simp only [List.getElem?_toArray]; rfl) (fun K hK => ?_) AllE.nil
      go_simp
      refine hK.out _ _ ?gT1_29 (fun hHeld => ?_)
      case gT1_29 => ((try dsimp only); (refine ⟨?_, ?_, ?_, ?_, ?_, ?_, ?_, ?_, ?_, ?_⟩ <;> go_simp))
      clear hK K
      try simp only [Act.put, List.setIfInBounds_toArray, List.set_cons_zero, List.set_cons_succ]
      (refine wpE_takeP (i := 10) (v := ?gV1_30) (by simp only [List.getElem?_toArray]; rfl) (by kernel_rfl) (by kernel_rfl) (by kernel_rfl) (by rfl) (fun _ _ _ h => h) (Or.inl ⟨by rfl, ?gY1_30⟩) (by assumption) ?gR1_30; case gY1_30 => (intro w hSw; (try dsimp only at hSw); go_simp <;> with_reducible rfl))
      try simp only [Act.put, List.setIfInBounds_toArray, List.set_cons_zero, List.set_cons_succ]
      (refine wpE_takeP (i := 11) (v := ?gV1_31) (by simp only [List.getElem?_toArray]; rfl) (by kernel_rfl) (by kernel_rfl) (by kernel_rfl) (by rfl) (fun _ _ _ h => h) (Or.inl ⟨by rfl, ?gY1_31⟩) (by assumption) ?gR1_31; case gY1_31 => (intro w hSw; (try dsimp only at hSw); go_simp <;> with_reducible rfl))
      try simp only [Act.put, List.setIfInBounds_toArray, List.set_cons_zero, List.set_cons_succ]
      refine wpE_done (by kernel_rfl) ?_ _
      refine NoPanic.normal ?_
      go_wp2_with fail
      go_meet
      refine ⟨_, A7, c7, A8, c8, A9, c9, rfl, rfl, rfl, ?_, ?_, ?_, ?_, ?_, ?_, Lib.hid ?n1_31, Lib.hid ?s1_31⟩
      · exact Below.own hW1W (by repeat (first | with_reducible exact Below.refl _ _ | with_reducible assumption | with_reducible exact below_d1 _ _ _ _ _ | with_reducible exact below_d2 _ _ _ _ _ _ _ _ | with_reducible exact below_d3 _ _ _ _ _ | with_reducible exact below_d4 _ _ _ _ _ _ _ _ | with_reducible exact below_d5 _ _ | with_reducible refine Below.drew ?_ | with_reducible refine Below.drewN' ?_ _ | with_reducible refine below_grow0 _ _ ?_ | with_reducible refine below_alloc0 _ ?_ | with_reducible refine Below.setCell ?_ ?_ _ | with_reducible refine Below.alloc ?_ ?_ _ | with_reducible refine Below.grow _ _ _ ?_ ?_ | omega | (simp; done) | (simp; omega)))
      · first | omega | (simp <;> omega)
      · first | omega | (simp <;> omega)
      · (first | exact new_cell (by simp [hWs1]) rfl | exact grow_at (new_cell (by simp [hWs1]) rfl) | exact grow_at (grow_at (new_cell (by simp [hWs1]) rfl)))
      · (first | exact new_cell (by simp [hWs1]) rfl | exact grow_at (new_cell (by simp [hWs1]) rfl) | exact grow_at (grow_at (new_cell (by simp [hWs1]) rfl)))
      · (first | exact new_cell (by simp [hWs1]) rfl | exact grow_at (new_cell (by simp [hWs1]) rfl) | exact grow_at (grow_at (new_cell (by simp [hWs1]) rfl)))
      case n1_31 =>
        refine (Ow.moved (W' := ?w91_31) (d' := ?x91_31) HN3.out (Nat.le_refl _) ?b91_31 ?z91_31).sl
        case b91_31 => exact (by repeat (first | with_reducible exact Below.refl _ _ | with_reducible assumption | with_reducible exact below_d1 _ _ _ _ _ | with_reducible exact below_d2 _ _ _ _ _ _ _ _ | with_reducible exact below_d3 _ _ _ _ _ | with_reducible exact below_d4 _ _ _ _ _ _ _ _ | with_reducible exact below_d5 _ _ | with_reducible refine Below.drew ?_ | with_reducible refine Below.drewN' ?_ _ | with_reducible refine below_grow0 _ _ ?_ | with_reducible refine below_alloc0 _ ?_ | with_reducible refine Below.setCell ?_ ?_ _ | with_reducible refine Below.alloc ?_ ?_ _ | with_reducible refine Below.grow _ _ _ ?_ ?_ | omega | (simp; done) | (simp; omega)))
        case z91_31 => simp
      case s1_31 =>
        refine (Ow.moved (W' := ?w81_31) (d' := ?x81_31) HS3.out (Nat.le_refl _) ?b81_31 ?z81_31).sl
        case b81_31 => exact (by repeat (first | with_reducible exact Below.refl _ _ | with_reducible assumption | with_reducible exact below_d1 _ _ _ _ _ | with_reducible exact below_d2 _ _ _ _ _ _ _ _ | with_reducible exact below_d3 _ _ _ _ _ | with_reducible exact below_d4 _ _ _ _ _ _ _ _ | with_reducible exact below_d5 _ _ | with_reducible refine Below.drew ?_ | with_reducible refine Below.drewN' ?_ _ | with_reducible refine below_grow0 _ _ ?_ | with_reducible refine below_alloc0 _ ?_ | with_reducible refine Below.setCell ?_ ?_ _ | with_reducible refine Below.alloc ?_ ?_ _ | with_reducible refine Below.grow _ _ _ ?_ ?_ | omega | (simp; done) | (simp; omega)))
        case z81_31 => simp
    exact AllE.nil
  case rest =>
    obtain ⟨wa, rfl⟩ : ∃ wa : World, wa = wc := ⟨_, rfl⟩
    obtain ⟨b, A7, c7, A8, c8, A9, c9, rfl, rfl, rfl, hba, hb1, hb2, t0, t1, t2, HN, HM⟩ := hcut
    have hbwa : Below w.heap.size w wa := Below.own hbW1 hba
    have hwa : w.heap.size + 1 < wa.heap.size := Nat.lt_of_lt_of_le hs1 hba.size
    have hbne : w.heap.size + 1 < b := Nat.lt_of_lt_of_le hs1 hb1
    have j0 := (hba.cell (p := ⟨w.heap.size, 0, none⟩) (by simp only; omega)).trans k0
    have j1 := (hba.cell (p := ⟨w.heap.size, 1, none⟩) (by simp only; omega)).trans k1
    have j2 := (hba.cell (p := ⟨w.heap.size, 2, none⟩) (by simp only; omega)).trans k2
    have y0 := (hba.cell (p := ⟨w.heap.size + 1, 0, none⟩) (by simp only; omega)).trans x0
    have y1 := (hba.cell (p := ⟨w.heap.size + 1, 1, none⟩) (by simp only; omega)).trans x1
    have y2 := (hba.cell (p := ⟨w.heap.size + 1, 2, none⟩) (by simp only; omega)).trans x2
    have y3 := (hba.cell (p := ⟨w.heap.size + 1, 3, none⟩) (by simp only; omega)).trans x3
    have y4 := (hba.cell (p := ⟨w.heap.size + 1, 4, none⟩) (by simp only; omega)).trans x4
    have y5 := (hba.cell (p := ⟨w.heap.size + 1, 5, none⟩) (by simp only; omega)).trans x5
    have y6 := (hba.cell (p := ⟨w.heap.size + 1, 6, none⟩) (by simp only; omega)).trans x6
    clear k0 k1 k2 x0 x1 x2 x3 x4 x5 x6 HAP HOW HGR
    by_cases hE : E = 0
    · subst hE
      have hE0 := HE.out.symm
      obtain ⟨g1, g2, g3⟩ := apply_good hE0
      obtain ⟨l1, l2, l3⟩ := apply_len hE0
      have hag := applyE_again hE0
      have hzz : T.zxid = xz := by rw [HT.out, (applyT_0 hE0).1]
      rw [← HT.out] at g1 l1 l2 l3 hag
      simp only at g3 l3
      obtain ⟨tz, tl, ts⟩ := T
      simp only at *
      subst hzz
      have HAP2 := Lib.hid (fun (W : World) (v v2 : Value) (h : Sl cNode 9 W v tl) (h2 : Sl cInt 1 W v2 ts) => (trApply tz v v2 tl ts ⟨tz, xo, xs, xp, xd, xv, xw⟩ W h h2 (by omega) (by omega) (fun n hn => Nat.le_trans (l2 n hn) (by decide)) hp).mono (fun e w' hh => show (∃ (q : Int) (A : Option Addr) (n c : Nat) (A2 : Option Addr) (n2 c2 : Nat) (A3 : Option Addr) (n3 c3 : Nat), e = .returned (.tuple #[.agg #[.int .i64 q, .slice A n c, .slice A2 n2 c2], .slice A3 n3 c3, .int .i64 13])) ∧ Below W.heap.size W w' from by
        obtain ⟨nv, sv, vv, rfl, hn, hs, hv, hb⟩ := hh
        obtain ⟨_, _, rfl, _⟩ := hn.form
        obtain ⟨_, _, rfl, _⟩ := hs.form
        obtain ⟨_, _, rfl, _⟩ := hv.form
        rw [hag]
        exact ⟨⟨_, _, _, _, _, _, _, _, _, _, rfl⟩, hb⟩))
      have HOW2 := Lib.hid (fun (W : World) (h : Sl cNode 9 W (.slice A7 tl.length c7) tl) (h2 : Sl cInt 1 W (.slice A8 ts.length c8) ts) => lawOwn tz (.slice A7 tl.length c7) (.slice A8 ts.length c8) tl ts W h h2 (by omega) (by omega))
      have HG1 := Lib.hid (fun (W : World) (h : Sl cNode 9 W (.slice A l.length c) l) (h2 : Sl cInt 1 W (.slice A2 ss.length c2) ss) => trGood z (.slice A l.length c) (.slice A2 ss.length c2) l ss W h h2 (by omega) hz)
      have HG2 := Lib.hid (fun (W : World) (h : Sl cNode 9 W (.slice A7 tl.length c7) tl) (h2 : Sl cInt 1 W (.slice A8 ts.length c8) ts) => trGood tz (.slice A7 tl.length c7) (.slice A8 ts.length c8) tl ts W h h2 (by omega) (fun n hn => Nat.le_trans (l2 n hn) (by decide)))
      rw [g2] at HG1
      rw [g1] at HG2
      have hzd : decide (z < tz) = true := decide_eq_true g3
      clear g1 g2 hag hE0 HT HE HV7
      go_upto_region 6 with fail
      go_cut [10] (fun s10 wx => s10 = .int .i64 13 ∧ Below wa.heap.size wa wx)
      case first =>
        refine wp_region_noPanic ?_
        refine wp_region_W (by kernel_rfl) (fun W hW => ?_)
        have cl0 : W.cell? ⟨b, 0, none⟩ = some (.int .i64 tz) := by rw [hW.out]; go_simp
        have cl1 : W.cell? ⟨b, 1, none⟩ = some (.slice A7 tl.length c7) := by rw [hW.out]; go_simp
        have cl2 : W.cell? ⟨b, 2, none⟩ = some (.slice A8 ts.length c8) := by rw [hW.out]; go_simp
        have cl3 : W.cell? ⟨w.heap.size + 1, 0, none⟩ = some (.int .i64 tz) := by rw [hW.out]; go_simp
        have cl4 : W.cell? ⟨w.heap.size + 1, 1, none⟩ = some (.int .i64 xo) := by rw [hW.out]; go_simp
        have cl5 : W.cell? ⟨w.heap.size + 1, 2, none⟩ = some (.int .i64 xs) := by rw [hW.out]; go_simp
        have cl6 : W.cell? ⟨w.heap.size + 1, 3, none⟩ = some (.string xp) := by rw [hW.out]; go_simp
        have cl7 : W.cell? ⟨w.heap.size + 1, 4, none⟩ = some (.string xd) := by rw [hW.out]; go_simp
        have cl8 : W.cell? ⟨w.heap.size + 1, 5, none⟩ = some (.int .i64 xv) := by rw [hW.out]; go_simp
        have cl9 : W.cell? ⟨w.heap.size + 1, 6, none⟩ = some (.int .i64 xw) := by rw [hW.out]; go_simp
        have HVW := Lib.hid (HN.out.below (w' := W) (by rw [hW.out]; exact (by repeat (first | with_reducible exact Below.refl _ _ | with_reducible assumption | with_reducible exact below_d1 _ _ _ _ _ | with_reducible exact below_d2 _ _ _ _ _ _ _ _ | with_reducible exact below_d3 _ _ _ _ _ | with_reducible exact below_d4 _ _ _ _ _ _ _ _ | with_reducible exact below_d5 _ _ | with_reducible refine Below.drew ?_ | with_reducible refine Below.drewN' ?_ _ | with_reducible refine below_grow0 _ _ ?_ | with_reducible refine below_alloc0 _ ?_ | with_reducible refine Below.setCell ?_ ?_ _ | with_reducible refine Below.alloc ?_ ?_ _ | with_reducible refine Below.grow _ _ _ ?_ ?_ | omega | (simp; done) | (simp; omega)))))
        have HSW := Lib.hid (HM.out.below (w' := W) (by rw [hW.out]; exact (by repeat (first | with_reducible exact Below.refl _ _ | with_reducible assumption | with_reducible exact below_d1 _ _ _ _ _ | with_reducible exact below_d2 _ _ _ _ _ _ _ _ | with_reducible exact below_d3 _ _ _ _ _ | with_reducible exact below_d4 _ _ _ _ _ _ _ _ | with_reducible exact below_d5 _ _ | with_reducible refine Below.drew ?_ | with_reducible refine Below.drewN' ?_ _ | with_reducible refine below_grow0 _ _ ?_ | with_reducible refine below_alloc0 _ ?_ | with_reducible refine Below.setCell ?_ ?_ _ | with_reducible refine Below.alloc ?_ ?_ _ | with_reducible refine Below.grow _ _ _ ?_ ?_ | omega | (simp; done) | (simp; omega)))))
        have hWs : w.heap.size + 1 < W.heap.size := by rw [hW.out]; simp; omega
        have hWs2 : b < W.heap.size := by rw [hW.out]; simp; omega
        have hW1W : Below wa.heap.size wa W := by rw [hW.out]; exact (by repeat (first | with_reducible exact Below.refl _ _ | with_reducible assumption | with_reducible exact below_d1 _ _ _ _ _ | with_reducible exact below_d2 _ _ _ _ _ _ _ _ | with_reducible exact below_d3 _ _ _ _ _ | with_reducible exact below_d4 _ _ _ _ _ _ _ _ | with_reducible exact below_d5 _ _ | with_reducible refine Below.drew ?_ | with_reducible refine Below.drewN' ?_ _ | with_reducible refine below_grow0 _ _ ?_ | with_reducible refine below_alloc0 _ ?_ | with_reducible refine Below.setCell ?_ ?_ _ | with_reducible refine Below.alloc ?_ ?_ _ | with_reducible refine Below.grow _ _ _ ?_ ?_ | omega | (simp; done) | (simp; omega)))
        refine wpAny_S (fun w' => w'.cell? ⟨b, 0, none⟩ = some (.int .i64 tz) ∧ w'.cell? ⟨b, 1, none⟩ = some (.slice A7 tl.length c7) ∧ w'.cell? ⟨b, 2, none⟩ = some (.slice A8 ts.length c8) ∧ w'.cell? ⟨w.heap.size + 1, 0, none⟩ = some (.int .i64 tz) ∧ w'.cell? ⟨w.heap.size + 1, 1, none⟩ = some (.int .i64 xo) ∧ w'.cell? ⟨w.heap.size + 1, 2, none⟩ = some (.int .i64 xs) ∧ w'.cell? ⟨w.heap.size + 1, 3, none⟩ = some (.string xp) ∧ w'.cell? ⟨w.heap.size + 1, 4, none⟩ = some (.string xd) ∧ w'.cell? ⟨w.heap.size + 1, 5, none⟩ = some (.int .i64 xv) ∧ w'.cell? ⟨w.heap.size + 1, 6, none⟩ = some (.int .i64 xw)) (fun i => false) (by (try dsimp only); (refine ⟨?_, ?_, ?_, ?_, ?_, ?_, ?_, ?_, ?_, ?_⟩ <;> go_simp)) (fun hHeld => ?_)
        (refine wpE_take (i := 0) (v := ?gV2_1) (by simp only [List.getElem?_toArray]; rfl) (by kernel_rfl) (by kernel_rfl) (by kernel_rfl) (by kernel_rfl) (by kernel_rfl) (by rfl) (fun _ _ _ h => h) (Or.inl ⟨by rfl, ?gY2_1⟩) (by assumption) ?gR2_1; case gY2_1 => (intro w hSw; (try dsimp only at hSw); go_simp <;> with_reducible rfl))
        try simp only [Act.put, List.setIfInBounds_toArray, List.set_cons_zero, List.set_cons_succ]
        (refine wpE_take (i := 2) (v := ?gV2_2) (by simp only [List.getElem?_toArray]; rfl) (by kernel_rfl) (by kernel_rfl) (by kernel_rfl) (by kernel_rfl) (by kernel_rfl) (by rfl) (fun _ _ _ h => h) (Or.inl ⟨by rfl, ?gY2_2⟩) (by assumption) ?gR2_2; case gY2_2 => (intro w hSw; (try dsimp only at hSw); go_simp <;> with_reducible rfl))
        try simp only [Act.put, List.setIfInBounds_toArray, List.set_cons_zero, List.set_cons_succ]
        refine wpE_ready (rs := [1, 8]) (by kernel_rfl) (by simp) ?_
        refine AllE.cons (by simp only [List.getElem?_toArray]; rfl) (fun K hK => ?gO2_3) ?gL2_3
        case gO2_3 =>
          go_simp
          (go_at_call 16; (with_reducible refine (HOW2.out _ (HVW.out.below (by repeat (first | with_reducible exact Below.refl _ _ | with_reducible assumption | with_reducible exact below_d1 _ _ _ _ _ | with_reducible exact below_d2 _ _ _ _ _ _ _ _ | with_reducible exact below_d3 _ _ _ _ _ | with_reducible exact below_d4 _ _ _ _ _ _ _ _ | with_reducible exact below_d5 _ _ | with_reducible refine Below.drew ?_ | with_reducible refine Below.drewN' ?_ _ | with_reducible refine below_grow0 _ _ ?_ | with_reducible refine below_alloc0 _ ?_ | with_reducible refine Below.setCell ?_ ?_ _ | with_reducible refine Below.alloc ?_ ?_ _ | with_reducible refine Below.grow _ _ _ ?_ ?_ | omega | (simp; done) | (simp; omega)))) (HSW.out.below (by repeat (first | with_reducible exact Below.refl _ _ | with_reducible assumption | with_reducible exact below_d1 _ _ _ _ _ | with_reducible exact below_d2 _ _ _ _ _ _ _ _ | with_reducible exact below_d3 _ _ _ _ _ | with_reducible exact below_d4 _ _ _ _ _ _ _ _ | with_reducible exact below_d5 _ _ | with_reducible refine Below.drew ?_ | with_reducible refine Below.drewN' ?_ _ | with_reducible refine below_grow0 _ _ ?_ | with_reducible refine below_alloc0 _ ?_ | with_reducible refine Below.setCell ?_ ?_ _ | with_reducible refine Below.alloc ?_ ?_ _ | with_reducible refine Below.grow _ _ _ ?_ ?_ | omega | (simp; done) | (simp; omega))))).mono ?_); rintro e w1 ⟨A5, c5, A6, c6, rfl, ho1, ho2, hb1⟩; obtain ⟨ext1, d1, rfl⟩ := Below.grown_eq _ hb1; have HO1 := Lib.hid ho1.sl; have HO2 := Lib.hid ho2.sl; clear ho1 ho2 hb1)
          refine hK.out _ _ ?gT2_3 (fun hHeld => ?_)
          case gT2_3 => ((try dsimp only); (refine ⟨?_, ?_, ?_, ?_, ?_, ?_, ?_, ?_, ?_, ?_⟩ <;> go_simp))
          clear hK K
          try simp only [Act.put, List.setIfInBounds_toArray, List.set_cons_zero, List.set_cons_succ]
          refine wpE_ready (rs := [3, 8]) (by kernel_rfl) (by simp) ?_
          refine AllE.cons (by simp only [List.getElem?_toArray]; rfl) (fun K hK => ?gO2_4) ?gL2_4
          case gO2_4 =>
            go_simp
            (go_at_call 23; (with_reducible refine (HAP2.out _ _ _ (HO1.out.below (by repeat (first | with_reducible exact Below.refl _ _ | with_reducible assumption | with_reducible exact below_d1 _ _ _ _ _ | with_reducible exact below_d2 _ _ _ _ _ _ _ _ | with_reducible exact below_d3 _ _ _ _ _ | with_reducible exact below_d4 _ _ _ _ _ _ _ _ | with_reducible exact below_d5 _ _ | with_reducible refine Below.drew ?_ | with_reducible refine Below.drewN' ?_ _ | with_reducible refine below_grow0 _ _ ?_ | with_reducible refine below_alloc0 _ ?_ | with_reducible refine Below.setCell ?_ ?_ _ | with_reducible refine Below.alloc ?_ ?_ _ | with_reducible refine Below.grow _ _ _ ?_ ?_ | omega | (simp; done) | (simp; omega)))) (HO2.out.below (by repeat (first | with_reducible exact Below.refl _ _ | with_reducible assumption | with_reducible exact below_d1 _ _ _ _ _ | with_reducible exact below_d2 _ _ _ _ _ _ _ _ | with_reducible exact below_d3 _ _ _ _ _ | with_reducible exact below_d4 _ _ _ _ _ _ _ _ | with_reducible exact below_d5 _ _ | with_reducible refine Below.drew ?_ | with_reducible refine Below.drewN' ?_ _ | with_reducible refine below_grow0 _ _ ?_ | with_reducible refine below_alloc0 _ ?_ | with_reducible refine Below.setCell ?_ ?_ _ | with_reducible refine Below.alloc ?_ ?_ _ | with_reducible refine Below.grow _ _ _ ?_ ?_ | omega | (simp; done) | (simp; omega))))).mono ?_); rintro e w3 ⟨⟨q, A9', n9, c9', B9, m9, e9, D9, k9, f9, rfl⟩, hb3⟩; obtain ⟨ext3, d3, rfl⟩ := Below.grown_eq _ hb3; clear hb3)
            refine hK.out _ _ ?gT2_4 (fun hHeld => ?_)
            case gT2_4 => ((try dsimp only); (refine ⟨?_, ?_, ?_, ?_, ?_, ?_, ?_, ?_, ?_, ?_⟩ <;> go_simp))
            clear hK K
            try simp only [Act.put, List.setIfInBounds_toArray, List.set_cons_zero, List.set_cons_succ]
            (refine wpE_takeP (i := 4) (v := ?gV2_5) (by simp only [List.getElem?_toArray]; rfl) (by kernel_rfl) (by kernel_rfl) (by kernel_rfl) (by rfl) (fun _ _ _ h => h) (Or.inl ⟨by rfl, ?gY2_5⟩) (by assumption) ?gR2_5; case gY2_5 => (intro w hSw; (try dsimp only at hSw); go_simp <;> with_reducible rfl))
            try simp only [Act.put, List.setIfInBounds_toArray, List.set_cons_zero, List.set_cons_succ]
            (refine wpE_takeP (i := 5) (v := ?gV2_6) (by simp only [List.getElem?_toArray]; rfl) (by kernel_rfl) (by kernel_rfl) (by kernel_rfl) (by rfl) (fun _ _ _ h => h) (Or.inl ⟨by rfl, ?gY2_6⟩) (by assumption) ?gR2_6; case gY2_6 => (intro w hSw; (try dsimp only at hSw); go_simp <;> with_reducible rfl))
            try simp only [Act.put, List.setIfInBounds_toArray, List.set_cons_zero, List.set_cons_succ]
            (refine wpE_takeP (i := 6) (v := ?gV2_7) (by simp only [List.getElem?_toArray]; rfl) (by kernel_rfl) (by kernel_rfl) (by kernel_rfl) (by rfl) (fun _ _ _ h => h) (Or.inl ⟨by rfl, ?gY2_7⟩) (by assumption) ?gR2_7; case gY2_7 => (intro w hSw; (try dsimp only at hSw); go_simp <;> with_reducible rfl))
            try simp only [Act.put, List.setIfInBounds_toArray, List.set_cons_zero, List.set_cons_succ]
            (refine wpE_takeP (i := 7) (v := ?gV2_8) (by simp only [List.getElem?_toArray]; rfl) (by kernel_rfl) (by kernel_rfl) (by kernel_rfl) (by rfl) (fun _ _ _ h => h) (Or.inl ⟨by rfl, ?gY2_8⟩) (by assumption) ?gR2_8; case gY2_8 => (intro w hSw; (try dsimp only at hSw); go_simp <;> with_reducible rfl))
            try simp only [Act.put, List.setIfInBounds_toArray, List.set_cons_zero, List.set_cons_succ]
            refine wpE_ready (rs := [8]) (by kernel_rfl) (by simp) ?_
            refine AllE.cons (by simp only [List.getElem?_toArray]; rfl) (fun K hK => ?_) AllE.nil
            go_simp
            refine hK.out _ _ ?gT2_9 (fun hHeld => ?_)
            case gT2_9 => ((try dsimp only); (refine ⟨?_, ?_, ?_, ?_, ?_, ?_, ?_, ?_, ?_, ?_⟩ <;> go_simp))
            clear hK K
            try simp only [Act.put, List.setIfInBounds_toArray, List.set_cons_zero, List.set_cons_succ]
            refine wpE_ready (rs := [9]) (by kernel_rfl) (by simp) ?_
            refine AllE.cons (by simp only [List.getElem?_toArray]; rfl) (fun K hK => ?_) AllE.nil
            go_simp
            refine hK.out _ _ ?gT2_10 (fun hHeld => ?_)
            case gT2_10 => ((try dsimp only); (refine ⟨?_, ?_, ?_, ?_, ?_, ?_, ?_, ?_, ?_, ?_⟩ <;> go_simp))
            clear hK K
            try simp only [Act.put, List.setIfInBounds_toArray, List.set_cons_zero, List.set_cons_succ]
            (refine wpE_takeP (i := 10) (v := ?gV2_11) (by simp only [List.getElem?_toArray]; rfl) (by kernel_rfl) (by kernel_rfl) (by kernel_rfl) (by rfl) (fun _ _ _ h => h) (Or.inl ⟨by rfl, ?gY2_11⟩) (by assumption) ?gR2_11; case gY2_11 => (intro w hSw; (try dsimp only at hSw); go_simp <;> with_reducible rfl))
            try simp only [Act.put, List.setIfInBounds_toArray, List.set_cons_zero, List.set_cons_succ]
            (refine wpE_takeP (i := 11) (v := ?gV2_12) (by simp only [List.getElem?_toArray]; rfl) (by kernel_rfl) (by kernel_rfl) (by kernel_rfl) (by rfl) (fun _ _ _ h => h) (Or.inl ⟨by rfl, ?gY2_12⟩) (by assumption) ?gR2_12; case gY2_12 => (intro w hSw; (try dsimp only at hSw); go_simp <;> with_reducible rfl))
            try simp only [Act.put, List.setIfInBounds_toArray, List.set_cons_zero, List.set_cons_succ]
            refine wpE_done (by kernel_rfl) ?_ _
            refine NoPanic.normal ?_
            go_wp2_with fail
            go_meet
            exact ⟨rfl, Below.own hW1W (by repeat (first | with_reducible exact Below.refl _ _ | with_reducible assumption | with_reducible exact below_d1 _ _ _ _ _ | with_reducible exact below_d2 _ _ _ _ _ _ _ _ | with_reducible exact below_d3 _ _ _ _ _ | with_reducible exact below_d4 _ _ _ _ _ _ _ _ | with_reducible exact below_d5 _ _ | with_reducible refine Below.drew ?_ | with_reducible refine Below.drewN' ?_ _ | with_reducible refine below_grow0 _ _ ?_ | with_reducible refine below_alloc0 _ ?_ | with_reducible refine Below.setCell ?_ ?_ _ | with_reducible refine Below.alloc ?_ ?_ _ | with_reducible refine Below.grow _ _ _ ?_ ?_ | omega | (simp; done) | (simp; omega)))⟩
          refine AllE.cons (by simp only [List.getElem?_toArray]; rfl) (fun K hK => ?gO2_13) ?gL2_13
          case gO2_13 =>
            go_simp
            refine hK.out _ _ ?gT2_13 (fun hHeld => ?_)
            case gT2_13 => ((try dsimp only); (refine ⟨?_, ?_, ?_, ?_, ?_, ?_, ?_, ?_, ?_, ?_⟩ <;> go_simp))
            clear hK K
            try simp only [Act.put, List.setIfInBounds_toArray, List.set_cons_zero, List.set_cons_succ]
            refine wpE_ready (rs := [3]) (by kernel_rfl) (by simp) ?_
            refine AllE.cons (by simp only [List.getElem?_toArray]; rfl) (fun K hK => ?_) AllE.nil
            go_simp
            (go_at_call 23; (with_reducible refine (HAP2.out _ _ _ (HO1.out.below (by repeat (first | with_reducible exact Below.refl _ _ | with_reducible assumption | with_reducible exact below_d1 _ _ _ _ _ | with_reducible exact below_d2 _ _ _ _ _ _ _ _ | with_reducible exact below_d3 _ _ _ _ _ | with_reducible exact below_d4 _ _ _ _ _ _ _ _ | with_reducible exact below_d5 _ _ | with_reducible refine Below.drew ?_ | with_reducible refine Below.drewN' ?_ _ | with_reducible refine below_grow0 _ _ ?_ | with_reducible refine below_alloc0 _ ?_ | with_reducible refine Below.setCell ?_ ?_ _ | with_reducible refine Below.alloc ?_ ?_ _ | with_reducible refine Below.grow _ _ _ ?_ ?_ | omega | (simp; done) | (simp; omega)))) (HO2.out.below (by repeat (first | with_reducible exact Below.refl _ _ | with_reducible assumption | with_reducible exact below_d1 _ _ _ _ _ | with_reducible exact below_d2 _ _ _ _ _ _ _ _ | with_reducible exact below_d3 _ _ _ _ _ | with_reducible exact below_d4 _ _ _ _ _ _ _ _ | with_reducible exact below_d5 _ _ | with_reducible refine Below.drew ?_ | with_reducible refine Below.drewN' ?_ _ | with_reducible refine below_grow0 _ _ ?_ | with_reducible refine below_alloc0 _ ?_ | with_reducible refine Below.setCell ?_ ?_ _ | with_reducible refine Below.alloc ?_ ?_ _ | with_reducible refine Below.grow _ _ _ ?_ ?_ | omega | (simp; done) | (simp; omega))))).mono ?_); rintro e w3 ⟨⟨q, A9', n9, c9', B9, m9, e9, D9, k9, f9, rfl⟩, hb3⟩; obtain ⟨ext3, d3, rfl⟩ := Below.grown_eq _ hb3; clear hb3)
            refine hK.out _ _ ?gT2_14 (fun hHeld => ?_)
            case gT2_14 => ((try dsimp only); (refine ⟨?_, ?_, ?_, ?_, ?_, ?_, ?_, ?_, ?_, ?_⟩ <;> go_simp))
            clear hK K
            try simp only [Act.put, List.setIfInBounds_toArray, List.set_cons_zero, List.set_cons_succ]
            (refine wpE_takeP (i := 4) (v := ?gV2_15) (by simp only [List.getElem?_toArray]; rfl) (by kernel_rfl) (by kernel_rfl) (by kernel_rfl) (by rfl) (fun _ _ _ h => h) (Or.inl ⟨by rfl, ?gY2_15⟩) (by assumption) ?gR2_15; case gY2_15 => (intro w hSw; (try dsimp only at hSw); go_simp <;> with_reducible rfl))
            try simp only [Act.put, List.setIfInBounds_toArray, List.set_cons_zero, List.set_cons_succ]
            (refine wpE_takeP (i := 5) (v := ?gV2_16) (by simp only [List.getElem?_toArray]; rfl) (by kernel_rfl) (by kernel_rfl) (by kernel_rfl) (by rfl) (fun _ _ _ h => h) (Or.inl ⟨by rfl, ?gY2_16⟩) (by assumption) ?gR2_16; case gY2_16 => (intro w hSw; (try dsimp only at hSw); go_simp <;> with_reducible rfl))
            try simp only [Act.put, List.setIfInBounds_toArray, List.set_cons_zero, List.set_cons_succ]
            (refine wpE_takeP (i := 6) (v := ?gV2_17) (by simp only [List.getElem?_toArray]; rfl) (by kernel_rfl) (by kernel_rfl) (by kernel_rfl) (by rfl) (fun _ _ _ h => h) (Or.inl ⟨by rfl, ?gY2_17⟩) (by assumption) ?gR2_17; case gY2_17 => (intro w hSw; (try dsimp only at hSw); go_simp <;> with_reducible rfl))
            try simp only [Act.put, List.setIfInBounds_toArray, List.set_cons_zero, List.set_cons_succ]
            (refine wpE_takeP (i := 7) (v := ?gV2_18) (by simp only [List.getElem?_toArray]; rfl) (by kernel_rfl) (by kernel_rfl) (by kernel_rfl) (by rfl) (fun _ _ _ h => h) (Or.inl ⟨by rfl, ?gY2_18⟩) (by assumption) ?gR2_18; case gY2_18 => (intro w hSw; (try dsimp only at hSw); go_simp <;> with_reducible rfl))
            try simp only [Act.put, List.setIfInBounds_toArray, List.set_cons_zero, List.set_cons_succ]
            refine wpE_ready (rs := [9]) (by kernel_rfl) (by simp) ?_
            refine AllE.cons (by simp only [List.getElem?_toArray]; rfl) (fun K hK => ?_) AllE.nil
            go_simp
            refine hK.out _ _ ?gT2_19 (fun hHeld => ?_)
            case gT2_19 => ((try dsimp only); (refine ⟨?_, ?_, ?_, ?_, ?_, ?_, ?_, ?_, ?_, ?_⟩ <;> go_simp))
            clear hK K
            try simp only [Act.put, List.setIfInBounds_toArray, List.set_cons_zero, List.set_cons_succ]
            (refine wpE_takeP (i := 10) (v := ?gV2_20) (by simp only [List.getElem?_toArray]; rfl) (by kernel_rfl) (by kernel_rfl) (by kernel_rfl) (by rfl) (fun _ _ _ h => h) (Or.inl ⟨by rfl, ?gY2_20⟩) (by assumption) ?gR2_20; case gY2_20 => (intro w hSw; (try dsimp only at hSw); go_simp <;> with_reducible rfl))
            try simp only [Act.put, List.setIfInBounds_toArray, List.set_cons_zero, List.set_cons_succ]
            (refine wpE_takeP (i := 11) (v := ?gV2_21) (by simp only [List.getElem?_toArray]; rfl) (by kernel_rfl) (by kernel_rfl) (by kernel_rfl) (by rfl) (fun _ _ _ h => h) (Or.inl ⟨by rfl, ?gY2_21⟩) (by assumption) ?gR2_21; case gY2_21 => (intro w hSw; (try dsimp only at hSw); go_simp <;> with_reducible rfl))
            try simp only [Act.put, List.setIfInBounds_toArray, List.set_cons_zero, List.set_cons_succ]
            refine wpE_done (by kernel_rfl) ?_ _
            refine NoPanic.normal ?_
            go_wp2_with fail
            go_meet
            exact ⟨rfl, Below.own hW1W (by repeat (first | with_reducible exact Below.refl _ _ | with_reducible assumption | with_reducible exact below_d1 _ _ _ _ _ | with_reducible exact below_d2 _ _ _ _ _ _ _ _ | with_reducible exact below_d3 _ _ _ _ _ | with_reducible exact below_d4 _ _ _ _ _ _ _ _ | with_reducible exact below_d5 _ _ | with_reducible refine Below.drew ?_ | with_reducible refine Below.drewN' ?_ _ | with_reducible refine below_grow0 _ _ ?_ | with_reducible refine below_alloc0 _ ?_ | with_reducible refine Below.setCell ?_ ?_ _ | with_reducible refine Below.alloc ?_ ?_ _ | with_reducible refine Below.grow _ _ _ ?_ ?_ | omega | (simp; done) | (simp; omega)))⟩
          exact AllE.nil
        refine AllE.cons (by simp only [List.getElem?_toArray]; rfl) (fun K hK => ?gO2_22) ?gL2_22
        case gO2_22 =>
          go_simp
          refine hK.out _ _ ?gT2_22 (fun hHeld => ?_)
          case gT2_22 => ((try dsimp only); (refine ⟨?_, ?_, ?_, ?_, ?_, ?_, ?_, ?_, ?_, ?_⟩ <;> go_simp))
          clear hK K
          try simp only [Act.put, List.setIfInBounds_toArray, List.set_cons_zero, List.set_cons_succ]
          refine wpE_ready (rs := [1]) (by kernel_rfl) (by simp) ?_
          refine AllE.cons (by simp only [List.getElem?_toArray]; rfl) (fun K hK => ?_) AllE.nil
          go_simp
          (go_at_call 16; (with_reducible refine (HOW2.out _ (HVW.out.below (by repeat (first | with_reducible exact Below.refl _ _ | with_reducible assumption | with_reducible exact below_d1 _ _ _ _ _ | with_reducible exact below_d2 _ _ _ _ _ _ _ _ | with_reducible exact below_d3 _ _ _ _ _ | with_reducible exact below_d4 _ _ _ _ _ _ _ _ | with_reducible exact below_d5 _ _ | with_reducible refine Below.drew ?_ | with_reducible refine Below.drewN' ?_ _ | with_reducible refine below_grow0 _ _ ?_ | with_reducible refine below_alloc0 _ ?_ | with_reducible refine Below.setCell ?_ ?_ _ | with_reducible refine Below.alloc ?_ ?_ _ | with_reducible refine Below.grow _ _ _ ?_ ?_ | omega | (simp; done) | (simp; omega)))) (HSW.out.below (by repeat (first | with_reducible exact Below.refl _ _ | with_reducible assumption | with_reducible exact below_d1 _ _ _ _ _ | with_reducible exact below_d2 _ _ _ _ _ _ _ _ | with_reducible exact below_d3 _ _ _ _ _ | with_reducible exact below_d4 _ _ _ _ _ _ _ _ | with_reducible exact below_d5 _ _ | with_reducible refine Below.drew ?_ | with_reducible refine Below.drewN' ?_ _ | with_reducible refine below_grow0 _ _ ?_ | with_reducible refine below_alloc0 _ ?_ | with_reducible refine Below.setCell ?_ ?_ _ | with_reducible refine Below.alloc ?_ ?_ _ | with_reducible refine Below.grow _ _ _ ?_ ?_ | omega | (simp; done) | (simp; omega))))).mono ?_); rintro e w1 ⟨A5, c5, A6, c6, rfl, ho1, ho2, hb1⟩; obtain ⟨ext1, d1, rfl⟩ := Below.grown_eq _ hb1; have HO1 := Lib.hid ho1.sl; have HO2 := Lib.hid ho2.sl; clear ho1 ho2 hb1)
          refine hK.out _ _ ?gT2_23 (fun hHeld => ?_)
          case gT2_23 => ((try dsimp only); (refine ⟨?_, ?_, ?_, ?_, ?_, ?_, ?_, ?_, ?_, ?_⟩ <;> go_simp))
          clear hK K
          try simp only [Act.put, List.setIfInBounds_toArray, List.set_cons_zero, List.set_cons_succ]
          refine wpE_ready (rs := [3]) (by kernel_rfl) (by simp) ?_
          refine AllE.cons (by simp only [List.getElem?_toArray]; rfl) (fun K hK => ?_) AllE.nil
          go_simp
          (go_at_call 23; (with_reducible refine (HAP2.out _ _ _ (HO1.out.below (by repeat (first | with_reducible exact Below.refl _ _ | with_reducible assumption | with_reducible exact below_d1 _ _ _ _ _ | with_reducible exact below_d2 _ _ _ _ _ _ _ _ | with_reducible exact below_d3 _ _ _ _ _ | with_reducible exact below_d4 _ _ _ _ _ _ _ _ | with_reducible exact below_d5 _ _ | with_reducible refine Below.drew ?_ | with_reducible refine Below.drewN' ?_ _ | with_reducible refine below_grow0 _ _ ?_ | with_reducible refine below_alloc0 _ ?_ | with_reducible refine Below.setCell ?_ ?_ _ | with_reducible refine Below.alloc ?_ ?_ _ | with_reducible refine Below.grow _ _ _ ?_ ?_ | omega | (simp; done) | (simp; omega)))) (HO2.out.below (by repeat (first | with_reducible exact Below.refl _ _ | with_reducible assumption | with_reducible exact below_d1 _ _ _ _ _ | with_reducible exact below_d2 _ _ _ _ _ _ _ _ | with_reducible exact below_d3 _ _ _ _ _ | with_reducible exact below_d4 _ _ _ _ _ _ _ _ | with_reducible exact below_d5 _ _ | with_reducible refine Below.drew ?_ | with_reducible refine Below.drewN' ?_ _ | with_reducible refine below_grow0 _ _ ?_ | with_reducible refine below_alloc0 _ ?_ | with_reducible refine Below.setCell ?_ ?_ _ | with_reducible refine Below.alloc ?_ ?_ _ | with_reducible refine Below.grow _ _ _ ?_ ?_ | omega | (simp; done) | (simp; omega))))).mono ?_); rintro e w3 ⟨⟨q, A9', n9, c9', B9, m9, e9, D9, k9, f9, rfl⟩, hb3⟩; obtain ⟨ext3, d3, rfl⟩ := Below.grown_eq _ hb3; clear hb3)
          refine hK.out _ _ ?gT2_24 (fun hHeld => ?_)
          case gT2_24 => ((try dsimp only); (refine ⟨?_, ?_, ?_, ?_, ?_, ?_, ?_, ?_, ?_, ?_⟩ <;> go_simp))
          clear hK K
          try simp only [Act.put, List.setIfInBounds_toArray, List.set_cons_zero, List.set_cons_succ]
          (refine wpE_takeP (i := 4) (v := ?gV2_25) (by simp only [List.getElem?_toArray]; rfl) (by kernel_rfl) (by kernel_rfl) (by kernel_rfl) (by rfl) (fun _ _ _ h => h) (Or.inl ⟨by rfl, ?gY2_25⟩) (by assumption) ?gR2_25; case gY2_25 => (intro w hSw; (try dsimp only at hSw); go_simp <;> with_reducible rfl))
          try simp only [Act.put, List.setIfInBounds_toArray, List.set_cons_zero, List.set_cons_succ]
          (refine wpE_takeP (i := 5) (v := ?gV2_26) (by simp only [List.getElem?_toArray]; rfl) (by kernel_rfl) (by kernel_rfl) (by kernel_rfl) (by rfl) (fun _ _ _ h => h) (Or.inl ⟨by rfl, ?gY2_26⟩) (by assumption) ?gR2_26; case gY2_26 => (intro w hSw; (try dsimp only at hSw); go_simp <;> with_reducible rfl))
          try simp only [Act.put, List.setIfInBounds_toArray, List.set_cons_zero, List.set_cons_succ]
          (refine wpE_takeP (i := 6) (v := ?gV2_27) (by simp only [List.getElem?_toArray]; rfl) (by kernel_rfl) (by kernel_rfl) (by kernel_rfl) (by rfl) (fun _ _ _ h => h) (Or.inl ⟨by rfl, ?gY2_27⟩) (by assumption) ?gR2_27; case gY2_27 => (intro w hSw; (try dsimp only at hSw); go_simp <;> with_reducible rfl))
          try simp only [Act.put, List.setIfInBounds_toArray, List.set_cons_zero, List.set_cons_succ]
          (refine wpE_takeP (i := 7) (v := ?gV2_28) (by simp only [List.getElem?_toArray]; rfl) (by kernel_rfl) (by kernel_rfl) (by kernel_rfl) (by rfl) (fun _ _ _ h => h) (Or.inl ⟨by rfl, ?gY2_28⟩) (by assumption) ?gR2_28; case gY2_28 => (intro w hSw; (try dsimp only at hSw); go_simp <;> with_reducible rfl))
          try simp only [Act.put, List.setIfInBounds_toArray, List.set_cons_zero, List.set_cons_succ]
          refine wpE_ready (rs := [9]) (by kernel_rfl) (by simp) ?_
          refine AllE.cons (by simp only [List.getElem?_toArray]; rfl) (fun K hK => ?_) AllE.nil
          go_simp
          refine hK.out _ _ ?gT2_29 (fun hHeld => ?_)
          case gT2_29 => ((try dsimp only); (refine ⟨?_, ?_, ?_, ?_, ?_, ?_, ?_, ?_, ?_, ?_⟩ <;> go_simp))
          clear hK K
          try simp only [Act.put, List.setIfInBounds_toArray, List.set_cons_zero, List.set_cons_succ]
          (refine wpE_takeP (i := 10) (v := ?gV2_30) (by simp only [List.getElem?_toArray]; rfl) (by kernel_rfl) (by kernel_rfl) (by kernel_rfl) (by rfl) (fun _ _ _ h => h) (Or.inl ⟨by rfl, ?gY2_30⟩) (by assumption) ?gR2_30; case gY2_30 => (intro w hSw; (try dsimp only at hSw); go_simp <;> with_reducible rfl))
          try simp only [Act.put, List.setIfInBounds_toArray, List.set_cons_zero, List.set_cons_succ]
          (refine wpE_takeP (i := 11) (v := ?gV2_31) (by simp only [List.getElem?_toArray]; rfl) (by kernel_rfl) (by kernel_rfl) (by kernel_rfl) (by rfl) (fun _ _ _ h => h) (Or.inl ⟨by rfl, ?gY2_31⟩) (by assumption) ?gR2_31; case gY2_31 => (intro w hSw; (try dsimp only at hSw); go_simp <;> with_reducible rfl))
          try simp only [Act.put, List.setIfInBounds_toArray, List.set_cons_zero, List.set_cons_succ]
          refine wpE_done (by kernel_rfl) ?_ _
          refine NoPanic.normal ?_
          go_wp2_with fail
          go_meet
          exact ⟨rfl, Below.own hW1W (by repeat (first | with_reducible exact Below.refl _ _ | with_reducible assumption | with_reducible exact below_d1 _ _ _ _ _ | with_reducible exact below_d2 _ _ _ _ _ _ _ _ | with_reducible exact below_d3 _ _ _ _ _ | with_reducible exact below_d4 _ _ _ _ _ _ _ _ | with_reducible exact below_d5 _ _ | with_reducible refine Below.drew ?_ | with_reducible refine Below.drewN' ?_ _ | with_reducible refine below_grow0 _ _ ?_ | with_reducible refine below_alloc0 _ ?_ | with_reducible refine Below.setCell ?_ ?_ _ | with_reducible refine Below.alloc ?_ ?_ _ | with_reducible refine Below.grow _ _ _ ?_ ?_ | omega | (simp; done) | (simp; omega)))⟩
        exact AllE.nil
      case rest =>
        obtain ⟨wz, rfl⟩ : ∃ wz : World, wz = wc := ⟨_, rfl⟩
        obtain ⟨rfl, hbz⟩ := hcut
        have hbwz : Below w.heap.size w wz := Below.own hbwa hbz
        have hwz : w.heap.size + 1 < wz.heap.size := Nat.lt_of_lt_of_le hwa hbz.size
        have hbz1 : b < wz.heap.size := Nat.lt_of_lt_of_le hb2 hbz.size
        have j0' := keep2 hbz j0
        have j1' := keep2 hbz j1
        have j2' := keep2 hbz j2
        have y0' := keep2 hbz y0
        have t0' := keep2 hbz t0
        have t1' := keep2 hbz t1
        have t2' := keep2 hbz t2
        have HN2 := Lib.hid (HN.out.below hbz)
        have HM2 := Lib.hid (HM.out.below hbz)
        clear j0 j1 j2 y0 y1 y2 y3 y4 y5 y6 t0 t1 t2 HN HM HAP2 HOW2
        go_wp2_with (go_at_call 13; first | (refine (HG1.out _ (HV.out.below (by repeat (first | with_reducible exact Below.refl _ _ | with_reducible assumption | with_reducible exact below_d1 _ _ _ _ _ | with_reducible exact below_d2 _ _ _ _ _ _ _ _ | with_reducible exact below_d3 _ _ _ _ _ | with_reducible exact below_d4 _ _ _ _ _ _ _ _ | with_reducible exact below_d5 _ _ | with_reducible refine Below.drew ?_ | with_reducible refine Below.drewN' ?_ _ | with_reducible refine below_grow0 _ _ ?_ | with_reducible refine below_alloc0 _ ?_ | with_reducible refine Below.setCell ?_ ?_ _ | with_reducible refine Below.alloc ?_ ?_ _ | with_reducible refine Below.grow _ _ _ ?_ ?_ | omega | (simp; done) | (simp; omega)))) (HS.out.below (by repeat (first | with_reducible exact Below.refl _ _ | with_reducible assumption | with_reducible exact below_d1 _ _ _ _ _ | with_reducible exact below_d2 _ _ _ _ _ _ _ _ | with_reducible exact below_d3 _ _ _ _ _ | with_reducible exact below_d4 _ _ _ _ _ _ _ _ | with_reducible exact below_d5 _ _ | with_reducible refine Below.drew ?_ | with_reducible refine Below.drewN' ?_ _ | with_reducible refine below_grow0 _ _ ?_ | with_reducible refine below_alloc0 _ ?_ | with_reducible refine Below.setCell ?_ ?_ _ | with_reducible refine Below.alloc ?_ ?_ _ | with_reducible refine Below.grow _ _ _ ?_ ?_ | omega | (simp; done) | (simp; omega))))).mono ?_; rintro e w1 ⟨rfl, hb⟩; obtain ⟨ext1, d1, rfl⟩ := Below.grown_eq _ hb; clear hb HG1) | (refine (HG2.out _ (HN2.out.below (by repeat (first | with_reducible exact Below.refl _ _ | with_reducible assumption | with_reducible exact below_d1 _ _ _ _ _ | with_reducible exact below_d2 _ _ _ _ _ _ _ _ | with_reducible exact below_d3 _ _ _ _ _ | with_reducible exact below_d4 _ _ _ _ _ _ _ _ | with_reducible exact below_d5 _ _ | with_reducible refine Below.drew ?_ | with_reducible refine Below.drewN' ?_ _ | with_reducible refine below_grow0 _ _ ?_ | with_reducible refine below_alloc0 _ ?_ | with_reducible refine Below.setCell ?_ ?_ _ | with_reducible refine Below.alloc ?_ ?_ _ | with_reducible refine Below.grow _ _ _ ?_ ?_ | omega | (simp; done) | (simp; omega)))) (HM2.out.below (by repeat (first | with_reducible exact Below.refl _ _ | with_reducible assumption | with_reducible exact below_d1 _ _ _ _ _ | with_reducible exact below_d2 _ _ _ _ _ _ _ _ | with_reducible exact below_d3 _ _ _ _ _ | with_reducible exact below_d4 _ _ _ _ _ _ _ _ | with_reducible exact below_d5 _ _ | with_reducible refine Below.drew ?_ | with_reducible refine Below.drewN' ?_ _ | with_reducible refine below_grow0 _ _ ?_ | with_reducible refine below_alloc0 _ ?_ | with_reducible refine Below.setCell ?_ ?_ _ | with_reducible refine Below.alloc ?_ ?_ _ | with_reducible refine Below.grow _ _ _ ?_ ?_ | omega | (simp; done) | (simp; omega))))).mono ?_; rintro e w1 ⟨rfl, hb⟩; obtain ⟨ext2, d2, rfl⟩ := Below.grown_eq _ hb; clear hb))
        go_ret
        exact ⟨rfl, (by repeat (first | with_reducible exact Below.refl _ _ | with_reducible assumption | with_reducible exact below_d1 _ _ _ _ _ | with_reducible exact below_d2 _ _ _ _ _ _ _ _ | with_reducible exact below_d3 _ _ _ _ _ | with_reducible exact below_d4 _ _ _ _ _ _ _ _ | with_reducible exact below_d5 _ _ | with_reducible refine Below.drew ?_ | with_reducible refine Below.drewN' ?_ _ | with_reducible refine below_grow0 _ _ ?_ | with_reducible refine below_alloc0 _ ?_ | with_reducible refine Below.setCell ?_ ?_ _ | with_reducible refine Below.alloc ?_ ?_ _ | with_reducible refine Below.grow _ _ _ ?_ ?_ | omega | (simp; done) | (simp; omega)))⟩
    · have hno : T = noTr ∧ V = [] := by
        have : applyE ⟨z, l, ss⟩ ⟨xz, xo, xs, xp, xd, xv, xw⟩ ≠ 0 := by rw [← HE.out]; exact hE
        constructor
        · rw [HT.out]; unfold applyT; rw [if_neg this]
        · rw [HV7.out]; unfold applyV; rw [if_neg this]
      obtain ⟨rfl, rfl⟩ := hno
      have q1 : (E == 0) = false := beq_eq_false_iff_ne.2 hE
      have q2 : (E != 0) = true := bne_iff_ne.2 hE
      simp only [noTr, List.length_nil] at t0 t1 t2
      clear HT HV7 HE hE
      go_wp2_with fail
      go_ret
      exact ⟨rfl, (by repeat (first | with_reducible exact Below.refl _ _ | with_reducible assumption | with_reducible exact below_d1 _ _ _ _ _ | with_reducible exact below_d2 _ _ _ _ _ _ _ _ | with_reducible exact below_d3 _ _ _ _ _ | with_reducible exact below_d4 _ _ _ _ _ _ _ _ | with_reducible exact below_d5 _ _ | with_reducible refine Below.drew ?_ | with_reducible refine Below.drewN' ?_ _ | with_reducible refine below_grow0 _ _ ?_ | with_reducible refine below_alloc0 _ ?_ | with_reducible refine Below.setCell ?_ ?_ _ | with_reducible refine Below.alloc ?_ ?_ _ | with_reducible refine Below.grow _ _ _ ?_ ?_ | omega | (simp; done) | (simp; omega)))⟩

namespace treeKeeps
theorem own : ownKnob Tryd.prog.godebug = none := by kernel_rfl
theorem laidOut : laidOutB Tryd.prog = true := by kernel_rfl
set_option maxRecDepth 100000 in
set_option maxHeartbeats 1000000 in
theorem lifted (os : Os) (started : os.Started) (H : Type) (enc : TypeId × Value → H) :
    ReturnsInHanded {} Tryd.checked os 4 .any (fun w args => (Rows.treeKeepsSpec.pre enc Tryd.prog Tryd.f4 Rows.treeKeepsRow.domain false w args ∧ laidMetH Tryd.prog Rows.treeKeepsRow.laid w) ∧ sizedMet enc Tryd.prog Tryd.f4 (OpenSpec.ofChange Rows.treeKeepsSpec) false w args) (Rows.treeKeepsSpec.post enc Tryd.prog Tryd.f4 false true false false) := by
  refine returnsInHanded_of_change_and (C := Tryd.checked) (X := fun w _ => laidMetH Tryd.prog Rows.treeKeepsRow.laid w) (fun _ _ _ hh h => h.of_heap hh) own started (by kernel_rfl) Tryd.func4
    (ChangeSpec.witness_shaped (enc := enc) (C := Tryd.checked) (os := os) (X := fun w _ => laidMetH Tryd.prog Rows.treeKeepsRow.laid w) false (World.laidAll Tryd.prog os Rows.treeKeepsRow.laid) #[.agg #[.int .i64 0,.slice none 0 0,.slice none 0 0], .agg #[.int .i64 0, .int .i64 0, .int .i64 0, .string ByteArray.empty, .string ByteArray.empty, .int .i64 0, .int .i64 0]] 8 (World.laidAll_os _ _ _)
      (World.shaped_of_ZipB (by kernel_rfl) (by kernel_rfl)) (by kernel_rfl) (by kernel_rfl) (by kernel_rfl)
      (by rw [MakeChecks.laidMetH_plain _ _ _ (by kernel_rfl)]; exact laidMet_laidAll _ (by kernel_rfl) (by kernel_rfl))) ?_
  intro W base args ds gs before hval0 hW0 _ hsz0 hL _
  have hval : ∀ (j : Nat) t v, Tryd.f4.params[j]? = some t → args[j]? = some v → Value.okWide Tryd.prog W .any base t v := hval0
  have hW : DataW.Whole enc Tryd.prog Tryd.f4.params.toList Rows.treeKeepsSpec.vars false W args.toList ds gs before := hW0
  have hlt : ∀ p ∈ before, p.block < W.heap.size := fun p hp => hW.lt p hp
  have hW1 := hW
  obtain ⟨p, q, hA0, hV, rfl, hfz, hnd⟩ := hW1
  have hA : DataW.TrodAll enc Tryd.prog W 0 (fun _ => true) true Tryd.f4.params.toList args.toList ds p := hA0
  obtain ⟨rfl, rfl⟩ := trodVars_none hV
  rw [Tryd.params4] at hA hval
  obtain ⟨v0, vs0, d0, ds0, p0, q0, hargs, rfl, rfl, h0, r0⟩ := trodAll_cons hA
  obtain ⟨v1, vs1, d1, ds1, p1, q1, rfl, rfl, rfl, h1, r1⟩ := trodAll_cons r0
  obtain ⟨rfl, rfl, rfl⟩ := trodAll_nil r1
  obtain rfl : args = #[v0, v1] := by cases args; simp_all
  have hsz : (DataW.weightsEach Tryd.prog [25, 49] [d0, d1]).all (· ≤ reachBytes) = true := hsz0
  have close : ∀ e W', (e = Ending.returned (.bool true) ∧ Below W.heap.size W W') → ∃ v, e = .returned v ∧ Rows.treeKeepsSpec.post enc Tryd.prog Tryd.f4 false true false false W #[v0, v1] v W' :=
    fun e W' ⟨he, hb⟩ => ⟨_, he, law_post laidOut (of_decide_eq_true (by kernel_rfl)) rfl rfl Tryd.underlying4 hW rfl hb⟩
  clear hA0 hsz0 hval0 hW0 hA hV hW hfz hnd
  obtain ⟨cs1, rfl, hf1⟩ := open_flat (ks := [.i .i64, .i .i64, .i .i64, .s, .s, .i .i64, .i .i64]) 9 Tryd.underlying49 (by kernel_rfl) (hval 1 49 v1 rfl rfl) h1
  obtain ⟨cs, rfl, _⟩ := okWide_struct Tryd.underlying25 (hval 0 _ v0 rfl rfl)
  obtain ⟨z, v, v2, l, ss, hp, hN, hS, hz, hn, hn2⟩ := open_tree (n := 0) (open_deep 10 h0 (sized_arg hsz 0 rfl rfl))
  obtain rfl : cs = #[.int .i64 z, v, v2] := by simpa [Value.cells] using congrArg List.toArray hp
  obtain ⟨x, rfl, hxo⟩ := fitsTxn hf1
  exact (treeKeeps_ok z v v2 l ss x W hN hS hn hn2 hz (Nat.le_trans hxo.2.2.2.1 (by decide))).mono close
theorem proved : Rows.TreeKeepsSaid :=
  OpenClaim.holds_of_wide 4 Tryd.f4 rfl rfl rfl rfl rfl rfl rfl ⟨rfl, rfl, rfl, rfl, rfl⟩ rfl rfl rfl rfl rfl (by kernel_rfl) Tryd.func4 (by kernel_rfl)
    (of_decide_eq_true (by kernel_rfl)) (by unfold Func.isWrapper; first | (rw [if_pos (by decide +kernel)]; kernel_rfl) | (rw [if_neg (by decide +kernel)]; exact ⟨rfl, rfl⟩))
    (fun os started H enc _ => lifted os started H enc)
theorem card : Rows.TreeKeepsCardSaid :=
  Claim7.holds_tied_plain_at .later [] Rows.treeKeepsCard.laidKinds true Rows.treeKeepsCard.stood.harness false
    proved (fun _ h => by cases h) (by kernel_rfl) (fun _ h => by cases h) treeKeeps_row_tie rfl ⟨rfl, rfl⟩ (by kernel_rfl) rfl
    (fun f fn hf hfn => by
      obtain rfl : f = 4 := Option.some.inj ((show Tryd.prog.funcNamed "aviary/aviarykeep.TreeKeeps" = some 4 by kernel_rfl).symm.trans hf) |>.symm
      obtain rfl : fn = Tryd.f4 := (Option.some.inj (Tryd.func4.symm.trans hfn)).symm
      exact ⟨by kernel_rfl, fun j t ht => by
        rw [Tryd.params4] at ht
        have hm : t ∈ [25, 49] := by simpa using Array.mem_of_getElem? ht
        have hall : ([25, 49].all fun u => !Tryd.prog.wantsStandIn u) = true := by kernel_rfl
        exact (show Tryd.prog.wantsStandIn t = false by simpa using List.all_eq_true.1 hall t hm)⟩)
    (by kernel_rfl)
end treeKeeps
end Go.Proofs.YteolglmifimnaaaDoor
