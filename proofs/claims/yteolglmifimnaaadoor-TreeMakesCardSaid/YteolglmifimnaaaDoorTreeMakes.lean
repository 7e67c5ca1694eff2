/- The law TreeMakes is true for every input; no conditions. -/
import Derived.Test.YteolglmifimnaaaDoorCards
import Derived.Test.YteolglmifimnaaaDoorTie
import Derived.Lay
import Derived.LaidMore
import Derived.SevenTiedAt
import Derived.Test.YteolglmifimnaaaDoorPt1
import Derived.Test.YteolglmifimnaaaDoorPt2
import Derived.Test.YteolglmifimnaaaDoorPt3
import Derived.Test.YteolglmifimnaaaDoorPt4
import Derived.Test.YteolglmifimnaaaDoorPt5
import Derived.Test.YteolglmifimnaaaDoorPt6
import Derived.Test.YteolglmifimnaaaDoorPt7
import Derived.Test.YteolglmifimnaaaDoorPt8
import Derived.Test.YteolglmifimnaaaDoorPt9
namespace Go.Proofs.YteolglmifimnaaaDoor
open Go.RowKit Go.ChangeShapes Go.WideShapes Go.ChangeAt
theorem apply_size {t : Tr} {x : Txn} (h : applyE t x = 0) : (applyT t x).nodes.length ≤ 400 ∧ (∀ n ∈ (applyT t x).nodes, n.path.size ≤ 200) := by
  have hG := apply_goodW (applyE_0 h).1
  rw [(applyT_0 h).1]
  exact ⟨hG.len, fun n hn => (goodP_size (hG.path n hn).1).2⟩
theorem count_take_s {l : List ByteArray} {k : Nat} {x : ByteArray} (hx : l[k]? = some x) (s : ByteArray) : (l.take (k + 1)).countP (fun n => decide (n = s)) = (l.take k).countP (fun n => decide (n = s)) + (if x = s then 1 else 0) := by
  rw [List.take_add_one, hx, List.countP_append, Option.toList_some, List.countP_cons, List.countP_nil, Nat.zero_add]
  by_cases h : x = s
  · rw [if_pos h, if_pos (by simpa using h)]
  · rw [if_neg h, if_neg (by simpa using h)]
set_option maxRecDepth 100000 in
set_option maxHeartbeats 4000000 in
theorem treeMakes_ok (z : Int) (v v2 : Value) (l : List Node) (ss : List Int) (y : Txn) (zz : Int) (w : World) (h : Sl cNode 9 w v l) (h2 : Sl cInt 1 w v2 ss) (hn : l.length * 88 ≤ 140737488355328) (hn2 : ss.length * 8 ≤ 140737488351232) (hz : ∀ n ∈ l, n.path.size ≤ 9223372036854775807) (hp : y.path.size ≤ 9223372036854775807) :
    Calls Tryd.prog 7 #[.agg #[.int .i64 z, v, v2], txnV y, .int .i64 zz] w fun e w' => e = .returned (.bool true) ∧ Below w.heap.size w w' := by
  obtain ⟨x, hx⟩ : ∃ x : Txn, x = { y with op := 3 } := ⟨_, rfl⟩
  have hp : x.path.size ≤ 9223372036854775807 := by rw [hx]; exact hp
  obtain ⟨A, c, rfl, h1, h1b⟩ := h.form
  obtain ⟨A2, c2, rfl, h3, h3b⟩ := h2.form
  have HV := Lib.hid h
  have HS := Lib.hid h2
  have HAP := Lib.hid (fun (W : World) (v v2 : Value) (h : Sl cNode 9 W v l) (h2 : Sl cInt 1 W v2 ss) => trApply z v v2 l ss x W h h2 hn (by omega) hz hp)
  have HOW := Lib.hid (fun (W : World) (h : Sl cNode 9 W (.slice A l.length c) l) (h2 : Sl cInt 1 W (.slice A2 ss.length c2) ss) => lawOwn z (.slice A l.length c) (.slice A2 ss.length c2) l ss W h h2 hn (by omega))
  have HGR := Lib.hid (fun (W : World) => grows_is W)
  unfold ApplyRes at HAP
  obtain ⟨T, hT⟩ : ∃ T, T = applyT ⟨z, l, ss⟩ x := ⟨_, rfl⟩
  obtain ⟨V, hV⟩ : ∃ V, V = applyV ⟨z, l, ss⟩ x := ⟨_, rfl⟩
  obtain ⟨E, hE⟩ : ∃ E, E = applyE ⟨z, l, ss⟩ x := ⟨_, rfl⟩
  rw [← hT, ← hV, ← hE] at HAP
  have HX : Hid (E = 0 → _) := Lib.hid (fun (h0 : E = 0) => (⟨make_spec (x := x) (by rw [hx]) (hE.symm.trans h0), undo_spec (zz := zz) (x := x) (by rw [hx]) (hE.symm.trans h0), apply_size (hE.symm.trans h0)⟩ : _ ∧ _ ∧ _))
  rw [← hT, ← hV] at HX
  have HST := Lib.hid (fun (h0 : E = 0) => (good_parts (wrong_inv (applyE_0 (hE.symm.trans h0)).1).1).1.stat)
  simp only at HST
  clear h h2 hT hV hE
  obtain ⟨xz, xo, xs, xp, xd, xv, xw⟩ := y
  subst hx
  simp only at *
  go_enter Tryd.func7, Tryd.ntmps7
  go_upto_region 2 with fail
  refine gen_w (fun W1 hW1 => ?_)
  have hbW1 : Below w.heap.size w W1 := by rw [hW1.out]; exact (by repeat (first | with_reducible exact Below.refl _ _ | with_reducible assumption | with_reducible exact below_d1 _ _ _ _ _ | with_reducible exact below_d2 _ _ _ _ _ _ _ _ | with_reducible exact below_d3 _ _ _ _ _ | with_reducible exact below_d4 _ _ _ _ _ _ _ _ | with_reducible exact below_d5 _ _ | with_reducible refine Below.drew ?_ | with_reducible refine Below.drewN' ?_ _ | with_reducible refine below_grow0 _ _ ?_ | with_reducible refine below_alloc0 _ ?_ | with_reducible refine Below.setCell ?_ ?_ _ | with_reducible refine Below.alloc ?_ ?_ _ | with_reducible refine Below.grow _ _ _ ?_ ?_ | omega | (simp; done) | (simp; omega)))
  have hs1 : w.heap.size + 1 < W1.heap.size := by rw [hW1.out]; simp <;> omega
  have k0 : W1.cell? ⟨w.heap.size, 0, none⟩ = some (.int .i64 z) := by rw [hW1.out]; go_simp
  have k1 : W1.cell? ⟨w.heap.size, 1, none⟩ = some (.slice A l.length c) := by rw [hW1.out]; go_simp
  have k2 : W1.cell? ⟨w.heap.size, 2, none⟩ = some (.slice A2 ss.length c2) := by rw [hW1.out]; go_simp
  have x0 : W1.cell? ⟨w.heap.size + 1, 0, none⟩ = some (.int .i64 xz) := by rw [hW1.out]; go_simp
  have x1 : W1.cell? ⟨w.heap.size + 1, 1, none⟩ = some (.int .i64 3) := by rw [hW1.out]; go_simp
  have x2 : W1.cell? ⟨w.heap.size + 1, 2, none⟩ = some (.int .i64 xs) := by rw [hW1.out]; go_simp
  have x3 : W1.cell? ⟨w.heap.size + 1, 3, none⟩ = some (.string xp) := by rw [hW1.out]; go_simp
  have x4 : W1.cell? ⟨w.heap.size + 1, 4, none⟩ = some (.string xd) := by rw [hW1.out]; go_simp
  have x5 : W1.cell? ⟨w.heap.size + 1, 5, none⟩ = some (.int .i64 xv) := by rw [hW1.out]; go_simp
  have x6 : W1.cell? ⟨w.heap.size + 1, 6, none⟩ = some (.int .i64 xw) := by rw [hW1.out]; go_simp
  clear hW1
  go_cut [7, 8, 9] (fun s5 s6 s7 wx => CutE W1 T V E s5 s6 s7 wx)
  case first =>
    refine wp_region_noPanic ?_
    refine wp_region_W (by kernel_rfl) (fun W hW => ?_)
    have cl0 : W.cell? ⟨w.heap.size, 0, none⟩ = some (.int .i64 z) := by rw [hW.out]; go_simp
    have cl1 : W.cell? ⟨w.heap.size, 1, none⟩ = some (.slice A l.length c) := by rw [hW.out]; go_simp
    have cl2 : W.cell? ⟨w.heap.size, 2, none⟩ = some (.slice A2 ss.length c2) := by rw [hW.out]; go_simp
    have cl3 : W.cell? ⟨w.heap.size + 1, 0, none⟩ = some (.int .i64 xz) := by rw [hW.out]; go_simp
    have cl4 : W.cell? ⟨w.heap.size + 1, 1, none⟩ = some (.int .i64 3) := by rw [hW.out]; go_simp
    have cl5 : W.cell? ⟨w.heap.size + 1, 2, none⟩ = some (.int .i64 xs) := by rw [hW.out]; go_simp
    have cl6 : W.cell? ⟨w.heap.size + 1, 3, none⟩ = some (.string xp) := by rw [hW.out]; go_simp
    have cl7 : W.cell? ⟨w.heap.size + 1, 4, none⟩ = some (.string xd) := by rw [hW.out]; go_simp
    have cl8 : W.cell? ⟨w.heap.size + 1, 5, none⟩ = some (.int .i64 xv) := by rw [hW.out]; go_simp
    have cl9 : W.cell? ⟨w.heap.size + 1, 6, none⟩ = some (.int .i64 xw) := by rw [hW.out]; go_simp
    have HVW := Lib.hid (HV.out.below (w' := W) (by rw [hW.out]; exact hbW1.drew))
    have HSW := Lib.hid (HS.out.below (w' := W) (by rw [hW.out]; exact hbW1.drew))
    have hWs : w.heap.size + 1 < W.heap.size := by rw [hW.out]; simp; omega
    have hW1W : Below W1.heap.size W1 W := by rw [hW.out]; exact (by repeat (first | with_reducible exact Below.refl _ _ | with_reducible assumption | with_reducible exact below_d1 _ _ _ _ _ | with_reducible exact below_d2 _ _ _ _ _ _ _ _ | with_reducible exact below_d3 _ _ _ _ _ | with_reducible exact below_d4 _ _ _ _ _ _ _ _ | with_reducible exact below_d5 _ _ | with_reducible refine Below.drew ?_ | with_reducible refine Below.drewN' ?_ _ | with_reducible refine below_grow0 _ _ ?_ | with_reducible refine below_alloc0 _ ?_ | with_reducible refine Below.setCell ?_ ?_ _ | with_reducible refine Below.alloc ?_ ?_ _ | with_reducible refine Below.grow _ _ _ ?_ ?_ | omega | (simp; done) | (simp; omega)))
    have hWs1 : W.heap.size = W1.heap.size := by rw [hW.out]; simp
    refine wpAny_S (fun w' => w'.cell? ⟨w.heap.size, 0, none⟩ = some (.int .i64 z) ∧ w'.cell? ⟨w.heap.size, 1, none⟩ = some (.slice A l.length c) ∧ w'.cell? ⟨w.heap.size, 2, none⟩ = some (.slice A2 ss.length c2) ∧ w'.cell? ⟨w.heap.size + 1, 0, none⟩ = some (.int .i64 xz) ∧ w'.cell? ⟨w.heap.size + 1, 1, none⟩ = some (.int .i64 3) ∧ w'.cell? ⟨w.heap.size + 1, 2, none⟩ = some (.int .i64 xs) ∧ w'.cell? ⟨w.heap.size + 1, 3, none⟩ = some (.string xp) ∧ w'.cell? ⟨w.heap.size + 1, 4, none⟩ = some (.string xd) ∧ w'.cell? ⟨w.heap.size + 1, 5, none⟩ = some (.int .i64 xv) ∧ w'.cell? ⟨w.heap.size + 1, 6, none⟩ = some (.int .i64 xw)) (fun i => false) (by (try dsimp only); (refine ⟨?_, ?_, ?_, ?_, ?_, ?_, ?_, ?_, ?_, ?_⟩ <;> go_simp)) (fun hHeld => ?_)
    (refine wpE_take (i := 0) (v := ?gV1_1) (by simp only [List.getElem?_toArray]; rfl) (by kernel_rfl) (by kernel_rfl) (by kernel_rfl) (by kernel_rfl) (by kernel_rfl) (by rfl) (fun _ _ _ h => h) (Or.inl ⟨by rfl, ?gY1_1⟩) (by assumption) ?gR1_1; case gY1_1 => (intro w hSw; (try dsimp only at hSw); go_simp <;> with_reducible rfl))
    try simp only [Act.put, List.setIfInBounds_toArray, List.set_cons_zero, List.set_cons_succ]
    (refine wpE_take (i := 2) (v := ?gV1_2) (by simp only [List.getElem?_toArray]; rfl) (by kernel_rfl) (by kernel_rfl) (by kernel_rfl) (by kernel_rfl) (by kernel_rfl) (by rfl) (fun _ _ _ h => h) (Or.inl ⟨by rfl, ?gY1_2⟩) (by assumption) ?gR1_2; case gY1_2 => (intro w hSw; (try dsimp only at hSw); go_simp <;> with_reducible rfl))
    try simp only [Act.put, List.setIfInBounds_toArray, List.set_cons_zero, List.set_cons_succ]
    refine wpE_ready (rs := [1, 8]) (by kernel_rfl) (by simp) ?_
    refine AllE.cons (by simp only [List.getElem?_toArray]; rfl) (fun K hK => ?gO1_3) ?gL1_3
    case gO1_3 =>
      go_simp
      (go_at_call 16; (with_reducible refine (HOW.out _ (HVW.out.below (by repeat (first | with_reducible exact Below.refl _ _ | with_reducible assumption | with_reducible exact below_d1 _ _ _ _ _ | with_reducible exact below_d2 _ _ _ _ _ _ _ _ | with_reducible exact below_d3 _ _ _ _ _ | with_reducible exact below_d4 _ _ _ _ _ _ _ _ | with_reducible exact below_d5 _ _ | with_reducible refine Below.drew ?_ | with_reducible refine Below.drewN' ?_ _ | with_reducible refine below_grow0 _ _ ?_ | with_reducible refine below_alloc0 _ ?_ | with_reducible refine Below.setCell ?_ ?_ _ | with_reducible refine Below.alloc ?_ ?_ _ | with_reducible refine Below.grow _ _ _ ?_ ?_ | omega | (simp; done) | (simp; omega)))) (HSW.out.below (by repeat (first | with_reducible exact Below.refl _ _ | with_reducible assumption | with_reducible exact below_d1 _ _ _ _ _ | with_reducible exact below_d2 _ _ _ _ _ _ _ _ | with_reducible exact below_d3 _ _ _ _ _ | with_reducible exact below_d4 _ _ _ _ _ _ _ _ | with_reducible exact below_d5 _ _ | with_reducible refine Below.drew ?_ | with_reducible refine Below.drewN' ?_ _ | with_reducible refine below_grow0 _ _ ?_ | with_reducible refine below_alloc0 _ ?_ | with_reducible refine Below.setCell ?_ ?_ _ | with_reducible refine Below.alloc ?_ ?_ _ | with_reducible refine Below.grow _ _ _ ?_ ?_ | omega | (simp; done) | (simp; omega))))).mono ?_); rintro e w1 ⟨A5, c5, A6, c6, rfl, ho1, ho2, hb1⟩; obtain ⟨ext1, d1, rfl⟩ := Below.grown_eq _ hb1; have HO1 := Lib.hid ho1.sl; have HO2 := Lib.hid ho2.sl; clear ho1 ho2 hb1)
      refine hK.out _ _ ?gT1_3 (fun hHeld => ?_)
      case gT1_3 => ((try dsimp only); (refine ⟨?_, ?_, ?_, ?_, ?_, ?_, ?_, ?_, ?_, ?_⟩ <;> go_simp))
      clear hK K
      skip
      refine wpE_ready (rs := [3, 8]) (by kernel_rfl) (by simp) ?_
      refine AllE.cons (by simp only [List.getElem?_toArray]; rfl) (fun K hK => ?gO1_4) ?gL1_4
      case gO1_4 =>
        go_simp
        (go_at_call 23; (with_reducible refine (HAP.out _ _ _ (HO1.out.below (by repeat (first | with_reducible exact Below.refl _ _ | with_reducible assumption | with_reducible exact below_d1 _ _ _ _ _ | with_reducible exact below_d2 _ _ _ _ _ _ _ _ | with_reducible exact below_d3 _ _ _ _ _ | with_reducible exact below_d4 _ _ _ _ _ _ _ _ | with_reducible exact below_d5 _ _ | with_reducible refine Below.drew ?_ | with_reducible refine Below.drewN' ?_ _ | with_reducible refine below_grow0 _ _ ?_ | with_reducible refine below_alloc0 _ ?_ | with_reducible refine Below.setCell ?_ ?_ _ | with_reducible refine Below.alloc ?_ ?_ _ | with_reducible refine Below.grow _ _ _ ?_ ?_ | omega | (simp; done) | (simp; omega)))) (HO2.out.below (by repeat (first | with_reducible exact Below.refl _ _ | with_reducible assumption | with_reducible exact below_d1 _ _ _ _ _ | with_reducible exact below_d2 _ _ _ _ _ _ _ _ | with_reducible exact below_d3 _ _ _ _ _ | with_reducible exact below_d4 _ _ _ _ _ _ _ _ | with_reducible exact below_d5 _ _ | with_reducible refine Below.drew ?_ | with_reducible refine Below.drewN' ?_ _ | with_reducible refine below_grow0 _ _ ?_ | with_reducible refine below_alloc0 _ ?_ | with_reducible refine Below.setCell ?_ ?_ _ | with_reducible refine Below.alloc ?_ ?_ _ | with_reducible refine Below.grow _ _ _ ?_ ?_ | omega | (simp; done) | (simp; omega))))).mono ?_); rintro e w3 ⟨nv, sv, vv, rfl, hn3, hs3, hv3, hb3⟩; obtain ⟨A7, c7, rfl, _⟩ := hn3.form; obtain ⟨A8, c8, rfl, _⟩ := hs3.form; obtain ⟨A9, c9, rfl, _⟩ := hv3.form; obtain ⟨ext3, d3, rfl⟩ := Below.grown_eq _ hb3; have HN3 := Lib.hid hn3; have HS3 := Lib.hid hs3; have HV3 := Lib.hid hv3; clear hn3 hs3 hv3 hb3)
        refine hK.out _ _ ?gT1_4 (fun hHeld => ?_)
        case gT1_4 => ((try dsimp only); (refine ⟨?_, ?_, ?_, ?_, ?_, ?_, ?_, ?_, ?_, ?_⟩ <;> go_simp))
        clear hK K
        try simp only [Act.put, List.setIfInBounds_toArray, List.set_cons_zero, List.set_cons_succ]
        (refine wpE_takeP (i := 4) (v := ?gV1_5) (by simp only [List.getElem?_toArray]; rfl) (by kernel_rfl) (by kernel_rfl) (by kernel_rfl) (by rfl) (fun _ _ _ h => h) (Or.inl ⟨by rfl, ?gY1_5⟩) (by assumption) ?gR1_5; case gY1_5 => (intro w hSw; (try dsimp only at hSw); go_simp <;> with_reducible rfl))
        try simp only [Act.put, List.setIfInBounds_toArray, List.set_cons_zero, List.set_cons_succ]
        (refine wpE_takeP (i := 5) (v := ?gV1_6) (by simp only [List.getElem?_toArray]; rfl) (by kernel_rfl) (by kernel_rfl) (by kernel_rfl) (by rfl) (fun _ _ _ h => h) (Or.inl ⟨by rfl, ?gY1_6⟩) (by assumption) ?gR1_6; case gY1_6 => (intro w hSw; (try dsimp only at hSw); go_simp <;> with_reducible rfl))
        try simp only [Act.put, List.setIfInBounds_toArray, List.set_cons_zero, List.set_cons_succ]
        (refine wpE_takeP (i := 6) (v := ?gV1_7) (by simp only [List.getElem?_toArray]; rfl) (by kernel_rfl) (by kernel_rfl) (by kernel_rfl) (by rfl) (fun _ _ _ h => h) (Or.inl ⟨by rfl, ?gY1_7⟩) (by assumption) ?gR1_7; case gY1_7 => (intro w hSw; (try dsimp only at hSw); go_simp <;> with_reducible rfl))
        try simp only [Act.put, List.setIfInBounds_toArray, List.set_cons_zero, List.set_cons_succ]
        (refine wpE_takeP (i := 7) (v := ?gV1_8) (by simp only [List.getElem?_toArray]; rfl) (by kernel_rfl) (by kernel_rfl) (by kernel_rfl) (by rfl) (fun _ _ _ h => h) (Or.inl ⟨by rfl, ?gY1_8⟩) (by assumption) ?gR1_8; case gY1_8 => (intro w hSw; (try dsimp only at hSw); go_simp <;> with_reducible rfl))
        try simp only [Act.put, List.setIfInBounds_toArray, List.set_cons_zero, List.set_cons_succ]
        refine wpE_ready (rs := [8]) (by kernel_rfl) (by simp) ?_
        refine AllE.cons (by simp only [List.getElem?_toArray]; rfl) (fun K hK => ?_) AllE.nil
        go_simp
        refine hK.out _ _ ?gT1_9 (fun hHeld => ?_)
        case gT1_9 => ((try dsimp only); (refine ⟨?_, ?_, ?_, ?_, ?_, ?_, ?_, ?_, ?_, ?_⟩ <;> go_simp))
        clear hK K
        try simp only [Act.put, List.setIfInBounds_toArray, List.set_cons_zero, List.set_cons_succ]
        refine wpE_ready (rs := [9]) (by kernel_rfl) (by simp) ?_
        refine AllE.cons (by simp only [List.getElem?_toArray]; rfl) (fun K hK => ?_) AllE.nil
        go_simp
        refine hK.out _ _ ?gT1_10 (fun hHeld => ?_)
        case gT1_10 => ((try dsimp only); (refine ⟨?_, ?_, ?_, ?_, ?_, ?_, ?_, ?_, ?_, ?_⟩ <;> go_simp))
        clear hK K
        try simp only [Act.put, List.setIfInBounds_toArray, List.set_cons_zero, List.set_cons_succ]
        (refine wpE_takeP (i := 10) (v := ?gV1_11) (by simp only [List.getElem?_toArray]; rfl) (by kernel_rfl) (by kernel_rfl) (by kernel_rfl) (by rfl) (fun _ _ _ h => h) (Or.inl ⟨by rfl, ?gY1_11⟩) (by assumption) ?gR1_11; case gY1_11 => (intro w hSw; (try dsimp only at hSw); go_simp <;> with_reducible rfl))
        try simp only [Act.put, List.setIfInBounds_toArray, List.set_cons_zero, List.set_cons_succ]
        (refine wpE_takeP (i := 11) (v := ?gV1_12) (by simp only [List.getElem?_toArray]; rfl) (by kernel_rfl) (by kernel_rfl) (by kernel_rfl) (by rfl) (fun _ _ _ h => h) (Or.inl ⟨by rfl, ?gY1_12⟩) (by assumption) ?gR1_12; case gY1_12 => (intro w hSw; (try dsimp only at hSw); go_simp <;> with_reducible rfl))
        try simp only [Act.put, List.setIfInBounds_toArray, List.set_cons_zero, List.set_cons_succ]
        refine wpE_done (by kernel_rfl) ?_ _
        refine NoPanic.normal ?_
        go_wp2_with fail
        go_meet
        refine ⟨_, A7, c7, A8, c8, A9, c9, rfl, rfl, rfl, ?_, ?_, ?_, ?_, ?_, ?_, Lib.hid ?n1_12, Lib.hid ?s1_12, Lib.hid ?v1_12⟩
        · exact Below.own hW1W (by repeat (first | with_reducible exact Below.refl _ _ | with_reducible assumption | with_reducible exact below_d1 _ _ _ _ _ | with_reducible exact below_d2 _ _ _ _ _ _ _ _ | with_reducible exact below_d3 _ _ _ _ _ | with_reducible exact below_d4 _ _ _ _ _ _ _ _ | with_reducible exact below_d5 _ _ | with_reducible refine Below.drew ?_ | with_reducible refine Below.drewN' ?_ _ | with_reducible refine below_grow0 _ _ ?_ | with_reducible refine below_alloc0 _ ?_ | with_reducible refine Below.setCell ?_ ?_ _ | with_reducible refine Below.alloc ?_ ?_ _ | with_reducible refine Below.grow _ _ _ ?_ ?_ | omega | (simp; done) | (simp; omega)))
        · first | omega | (simp <;> omega)
        · first | omega | (simp <;> omega)
        · (first | exact newCell (by simp [hWs1]) rfl | exact grow_at (newCell (by simp [hWs1]) rfl) | exact grow_at (grow_at (newCell (by simp [hWs1]) rfl)))
        · (first | exact newCell (by simp [hWs1]) rfl | exact grow_at (newCell (by simp [hWs1]) rfl) | exact grow_at (grow_at (newCell (by simp [hWs1]) rfl)))
        · (first | exact newCell (by simp [hWs1]) rfl | exact grow_at (newCell (by simp [hWs1]) rfl) | exact grow_at (grow_at (newCell (by simp [hWs1]) rfl)))
        case n1_12 =>
          refine (Ow.moved (W' := ?w91_12) (d' := ?x91_12) HN3.out (Nat.le_refl _) ?b91_12 ?z91_12).sl
          case b91_12 => exact (by repeat (first | with_reducible exact Below.refl _ _ | with_reducible assumption | with_reducible exact below_d1 _ _ _ _ _ | with_reducible exact below_d2 _ _ _ _ _ _ _ _ | with_reducible exact below_d3 _ _ _ _ _ | with_reducible exact below_d4 _ _ _ _ _ _ _ _ | with_reducible exact below_d5 _ _ | with_reducible refine Below.drew ?_ | with_reducible refine Below.drewN' ?_ _ | with_reducible refine below_grow0 _ _ ?_ | with_reducible refine below_alloc0 _ ?_ | with_reducible refine Below.setCell ?_ ?_ _ | with_reducible refine Below.alloc ?_ ?_ _ | with_reducible refine Below.grow _ _ _ ?_ ?_ | omega | (simp; done) | (simp; omega)))
          case z91_12 => simp
        case s1_12 =>
          refine (Ow.moved (W' := ?w81_12) (d' := ?x81_12) HS3.out (Nat.le_refl _) ?b81_12 ?z81_12).sl
          case b81_12 => exact (by repeat (first | with_reducible exact Below.refl _ _ | with_reducible assumption | with_reducible exact below_d1 _ _ _ _ _ | with_reducible exact below_d2 _ _ _ _ _ _ _ _ | with_reducible exact below_d3 _ _ _ _ _ | with_reducible exact below_d4 _ _ _ _ _ _ _ _ | with_reducible exact below_d5 _ _ | with_reducible refine Below.drew ?_ | with_reducible refine Below.drewN' ?_ _ | with_reducible refine below_grow0 _ _ ?_ | with_reducible refine below_alloc0 _ ?_ | with_reducible refine Below.setCell ?_ ?_ _ | with_reducible refine Below.alloc ?_ ?_ _ | with_reducible refine Below.grow _ _ _ ?_ ?_ | omega | (simp; done) | (simp; omega)))
          case z81_12 => simp
        case v1_12 =>
          refine (Ow.moved (W' := ?w71_12) (d' := ?x71_12) HV3.out (Nat.le_refl _) ?b71_12 ?z71_12).sl
          case b71_12 => exact (by repeat (first | with_reducible exact Below.refl _ _ | with_reducible assumption | with_reducible exact below_d1 _ _ _ _ _ | with_reducible exact below_d2 _ _ _ _ _ _ _ _ | with_reducible exact below_d3 _ _ _ _ _ | with_reducible exact below_d4 _ _ _ _ _ _ _ _ | with_reducible exact below_d5 _ _ | with_reducible refine Below.drew ?_ | with_reducible refine Below.drewN' ?_ _ | with_reducible refine below_grow0 _ _ ?_ | with_reducible refine below_alloc0 _ ?_ | with_reducible refine Below.setCell ?_ ?_ _ | with_reducible refine Below.alloc ?_ ?_ _ | with_reducible refine Below.grow _ _ _ ?_ ?_ | omega | (simp; done) | (simp; omega)))
          case z71_12 => simp
      refine AllE.cons (by simp only [List.getElem?_toArray]; rfl) (fun K hK => ?gO1_13) ?gL1_13
      case gO1_13 =>
        go_simp
        refine hK.out _ _ ?gT1_13 (fun hHeld => ?_)
        case gT1_13 => ((try dsimp only); (refine ⟨?_, ?_, ?_, ?_, ?_, ?_, ?_, ?_, ?_, ?_⟩ <;> go_simp))
        clear hK K
        try simp only [Act.put, List.setIfInBounds_toArray, List.set_cons_zero, List.set_cons_succ]
        refine wpE_ready (rs := [3]) (by kernel_rfl) (by simp) ?_
        refine AllE.cons (by simp only [List.getElem?_toArray]; rfl) (fun K hK => ?_) AllE.nil
        go_simp
        (go_at_call 23; (with_reducible refine (HAP.out _ _ _ (HO1.out.below (by repeat (first | with_reducible exact Below.refl _ _ | with_reducible assumption | with_reducible exact below_d1 _ _ _ _ _ | with_reducible exact below_d2 _ _ _ _ _ _ _ _ | with_reducible exact below_d3 _ _ _ _ _ | with_reducible exact below_d4 _ _ _ _ _ _ _ _ | with_reducible exact below_d5 _ _ | with_reducible refine Below.drew ?_ | with_reducible refine Below.drewN' ?_ _ | with_reducible refine below_grow0 _ _ ?_ | with_reducible refine below_alloc0 _ ?_ | with_reducible refine Below.setCell ?_ ?_ _ | with_reducible refine Below.alloc ?_ ?_ _ | with_reducible refine Below.grow _ _ _ ?_ ?_ | omega | (simp; done) | (simp; omega)))) (HO2.out.below (by repeat (first | with_reducible exact Below.refl _ _ | with_reducible assumption | with_reducible exact below_d1 _ _ _ _ _ | with_reducible exact below_d2 _ _ _ _ _ _ _ _ | with_reducible exact below_d3 _ _ _ _ _ | with_reducible exact below_d4 _ _ _ _ _ _ _ _ | with_reducible exact below_d5 _ _ | with_reducible refine Below.drew ?_ | with_reducible refine Below.drewN' ?_ _ | with_reducible refine below_grow0 _ _ ?_ | with_reducible refine below_alloc0 _ ?_ | with_reducible refine Below.setCell ?_ ?_ _ | with_reducible refine Below.alloc ?_ ?_ _ | with_reducible refine Below.grow _ _ _ ?_ ?_ | omega | (simp; done) | (simp; omega))))).mono ?_); rintro e w3 ⟨nv, sv, vv, rfl, hn3, hs3, hv3, hb3⟩; obtain ⟨A7, c7, rfl, _⟩ := hn3.form; obtain ⟨A8, c8, rfl, _⟩ := hs3.form; obtain ⟨A9, c9, rfl, _⟩ := hv3.form; obtain ⟨ext3, d3, rfl⟩ := Below.grown_eq _ hb3; have HN3 := Lib.hid hn3; have HS3 := Lib.hid hs3; have HV3 := Lib.hid hv3; clear hn3 hs3 hv3 hb3)
        refine hK.out _ _ ?gT1_14 (fun hHeld => ?_)
        case gT1_14 => ((try dsimp only); (refine ⟨?_, ?_, ?_, ?_, ?_, ?_, ?_, ?_, ?_, ?_⟩ <;> go_simp))
        clear hK K
        try simp only [Act.put, List.setIfInBounds_toArray, List.set_cons_zero, List.set_cons_succ]
        (refine wpE_takeP (i := 4) (v := ?gV1_15) (by simp only [List.getElem?_toArray]; rfl) (by kernel_rfl) (by kernel_rfl) (by kernel_rfl) (by rfl) (fun _ _ _ h => h) (Or.inl ⟨by rfl, ?gY1_15⟩) (by assumption) ?gR1_15; case gY1_15 => (intro w hSw; (try dsimp only at hSw); go_simp <;> with_reducible rfl))
        try simp only [Act.put, List.setIfInBounds_toArray, List.set_cons_zero, List.set_cons_succ]
        (refine wpE_takeP (i := 5) (v := ?gV1_16) (by simp only [List.getElem?_toArray]; rfl) (by kernel_rfl) (by kernel_rfl) (by kernel_rfl) (by rfl) (fun _ _ _ h => h) (Or.inl ⟨by rfl, ?gY1_16⟩) (by assumption) ?gR1_16; case gY1_16 => (intro w hSw; (try dsimp only at hSw); go_simp <;> with_reducible rfl))
        try simp only [Act.put, List.setIfInBounds_toArray, List.set_cons_zero, List.set_cons_succ]
        (refine wpE_takeP (i := 6) (v := ?gV1_17) (by simp only [List.getElem?_toArray]; rfl) (by kernel_rfl) (by kernel_rfl) (by kernel_rfl) (by rfl) (fun _ _ _ h => h) (Or.inl ⟨by rfl, ?gY1_17⟩) (by assumption) ?gR1_17; case gY1_17 => (intro w hSw; (try dsimp only at hSw); go_simp <;> with_reducible rfl))
        try simp only [Act.put, List.setIfInBounds_toArray, List.set_cons_zero, List.set_cons_succ]
        (refine wpE_takeP (i := 7) (v := ?gV1_18) (by simp only [List.getElem?_toArray]; rfl) (by kernel_rfl) (by kernel_rfl) (by kernel_rfl) (by rfl) (fun _ _ _ h => h) (Or.inl ⟨by rfl, ?gY1_18⟩) (by assumption) ?gR1_18; case gY1_18 => (intro w hSw; (try dsimp only at hSw); go_simp <;> with_reducible rfl))
        try simp only [Act.put, List.setIfInBounds_toArray, List.set_cons_zero, List.set_cons_succ]
        refine wpE_ready (rs := [9]) (by kernel_rfl) (by simp) ?_
        refine AllE.cons (by simp only [List.getElem?_toArray]; rfl) (fun K hK => ?_) AllE.nil
        go_simp
        refine hK.out _ _ ?gT1_19 (fun hHeld => ?_)
        case gT1_19 => ((try dsimp only); (refine ⟨?_, ?_, ?_, ?_, ?_, ?_, ?_, ?_, ?_, ?_⟩ <;> go_simp))
        clear hK K
        try simp only [Act.put, List.setIfInBounds_toArray, List.set_cons_zero, List.set_cons_succ]
        (refine wpE_takeP (i := 10) (v := ?gV1_20) (by simp only [List.getElem?_toArray]; rfl) (by kernel_rfl) (by kernel_rfl) (by kernel_rfl) (by rfl) (fun _ _ _ h => h) (Or.inl ⟨by rfl, ?gY1_20⟩) (by assumption) ?gR1_20; case gY1_20 => (intro w hSw; (try dsimp only at hSw); go_simp <;> with_reducible rfl))
        try simp only [Act.put, List.setIfInBounds_toArray, List.set_cons_zero, List.set_cons_succ]
        (refine wpE_takeP (i := 11) (v := ?gV1_21) (by simp only [List.getElem?_toArray]; rfl) (by kernel_rfl) (by kernel_rfl) (by kernel_rfl) (by rfl) (fun _ _ _ h => h) (Or.inl ⟨by rfl, ?gY1_21⟩) (by assumption) ?gR1_21; case gY1_21 => (intro w hSw; (try dsimp only at hSw); go_simp <;> with_reducible rfl))
        try simp only [Act.put, List.setIfInBounds_toArray, List.set_cons_zero, List.set_cons_succ]
        refine wpE_done (by kernel_rfl) ?_ _
        refine NoPanic.normal ?_
        go_wp2_with fail
        go_meet
        refine ⟨_, A7, c7, A8, c8, A9, c9, rfl, rfl, rfl, ?_, ?_, ?_, ?_, ?_, ?_, Lib.hid ?n1_21, Lib.hid ?s1_21, Lib.hid ?v1_21⟩
        · exact Below.own hW1W (by repeat (first | with_reducible exact Below.refl _ _ | with_reducible assumption | with_reducible exact below_d1 _ _ _ _ _ | with_reducible exact below_d2 _ _ _ _ _ _ _ _ | with_reducible exact below_d3 _ _ _ _ _ | with_reducible exact below_d4 _ _ _ _ _ _ _ _ | with_reducible exact below_d5 _ _ | with_reducible refine Below.drew ?_ | with_reducible refine Below.drewN' ?_ _ | with_reducible refine below_grow0 _ _ ?_ | with_reducible refine below_alloc0 _ ?_ | with_reducible refine Below.setCell ?_ ?_ _ | with_reducible refine Below.alloc ?_ ?_ _ | with_reducible refine Below.grow _ _ _ ?_ ?_ | omega | (simp; done) | (simp; omega)))
        · first | omega | (simp <;> omega)
        · first | omega | (simp <;> omega)
        · (first | exact newCell (by simp [hWs1]) rfl | exact grow_at (newCell (by simp [hWs1]) rfl) | exact grow_at (grow_at (newCell (by simp [hWs1]) rfl)))
        · (first | exact newCell (by simp [hWs1]) rfl | exact grow_at (newCell (by simp [hWs1]) rfl) | exact grow_at (grow_at (newCell (by simp [hWs1]) rfl)))
        · (first | exact newCell (by simp [hWs1]) rfl | exact grow_at (newCell (by simp [hWs1]) rfl) | exact grow_at (grow_at (newCell (by simp [hWs1]) rfl)))
        case n1_21 =>
          refine (Ow.moved (W' := ?w91_21) (d' := ?x91_21) HN3.out (Nat.le_refl _) ?b91_21 ?z91_21).sl
          case b91_21 => exact (by repeat (first | with_reducible exact Below.refl _ _ | with_reducible assumption | with_reducible exact below_d1 _ _ _ _ _ | with_reducible exact below_d2 _ _ _ _ _ _ _ _ | with_reducible exact below_d3 _ _ _ _ _ | with_reducible exact below_d4 _ _ _ _ _ _ _ _ | with_reducible exact below_d5 _ _ | with_reducible refine Below.drew ?_ | with_reducible refine Below.drewN' ?_ _ | with_reducible refine below_grow0 _ _ ?_ | with_reducible refine below_alloc0 _ ?_ | with_reducible refine Below.setCell ?_ ?_ _ | with_reducible refine Below.alloc ?_ ?_ _ | with_reducible refine Below.grow _ _ _ ?_ ?_ | omega | (simp; done) | (simp; omega)))
          case z91_21 => simp
        case s1_21 =>
          refine (Ow.moved (W' := ?w81_21) (d' := ?x81_21) HS3.out (Nat.le_refl _) ?b81_21 ?z81_21).sl
          case b81_21 => exact (by repeat (first | with_reducible exact Below.refl _ _ | with_reducible assumption | with_reducible exact below_d1 _ _ _ _ _ | with_reducible exact below_d2 _ _ _ _ _ _ _ _ | with_reducible exact below_d3 _ _ _ _ _ | with_reducible exact below_d4 _ _ _ _ _ _ _ _ | with_reducible exact below_d5 _ _ | with_reducible refine Below.drew ?_ | with_reducible refine Below.drewN' ?_ _ | with_reducible refine below_grow0 _ _ ?_ | with_reducible refine below_alloc0 _ ?_ | with_reducible refine Below.setCell ?_ ?_ _ | with_reducible refine Below.alloc ?_ ?_ _ | with_reducible refine Below.grow _ _ _ ?_ ?_ | omega | (simp; done) | (simp; omega)))
          case z81_21 => simp
        case v1_21 =>
          refine (Ow.moved (W' := ?w71_21) (d' := ?x71_21) HV3.out (Nat.le_refl _) ?b71_21 ?z71_21).sl
          case b71_21 => exact (by repeat (first | with_reducible exact Below.refl _ _ | with_reducible assumption | with_reducible exact below_d1 _ _ _ _ _ | with_reducible exact below_d2 _ _ _ _ _ _ _ _ | with_reducible exact below_d3 _ _ _ _ _ | with_reducible exact below_d4 _ _ _ _ _ _ _ _ | with_reducible exact below_d5 _ _ | with_reducible refine Below.drew ?_ | with_reducible refine Below.drewN' ?_ _ | with_reducible refine below_grow0 _ _ ?_ | with_reducible refine below_alloc0 _ ?_ | with_reducible refine Below.setCell ?_ ?_ _ | with_reducible refine Below.alloc ?_ ?_ _ | with_reducible refine Below.grow _ _ _ ?_ ?_ | omega | (simp; done) | (simp; omega)))
          case z71_21 => simp
      exact AllE.nil
    refine AllE.cons (by simp only [List.getElem?_toArray]; rfl) (fun K hK => ?gO1_22) ?gL1_22
    case gO1_22 =>
      go_simp
      refine hK.out _ _ ?gT1_22 (fun hHeld => ?_)
      case gT1_22 => ((try dsimp only); (refine ⟨?_, ?_, ?_, ?_, ?_, ?_, ?_, ?_, ?_, ?_⟩ <;> go_simp))
      clear hK K
      try simp only [Act.put, List.setIfInBounds_toArray, List.set_cons_zero, List.set_cons_succ]
      refine wpE_ready (rs := [1]) (by kernel_rfl) (by simp) ?_
      refine AllE.cons (by simp only [List.getElem?_toArray]; rfl) (fun K hK => ?_) AllE.nil
      go_simp
      (go_at_call 16; (with_reducible refine (HOW.out _ (HVW.out.below (by repeat (first | with_reducible exact Below.refl _ _ | with_reducible assumption | with_reducible exact below_d1 _ _ _ _ _ | with_reducible exact below_d2 _ _ _ _ _ _ _ _ | with_reducible exact below_d3 _ _ _ _ _ | with_reducible exact below_d4 _ _ _ _ _ _ _ _ | with_reducible exact below_d5 _ _ | with_reducible refine Below.drew ?_ | with_reducible refine Below.drewN' ?_ _ | with_reducible refine below_grow0 _ _ ?_ | with_reducible refine below_alloc0 _ ?_ | with_reducible refine Below.setCell ?_ ?_ _ | with_reducible refine Below.alloc ?_ ?_ _ | with_reducible refine Below.grow _ _ _ ?_ ?_ | omega | (simp; done) | (simp; omega)))) (HSW.out.below (by repeat (first | with_reducible exact Below.refl _ _ | with_reducible assumption | with_reducible exact below_d1 _ _ _ _ _ | with_reducible exact below_d2 _ _ _ _ _ _ _ _ | with_reducible exact below_d3 _ _ _ _ _ | with_reducible exact below_d4 _ _ _ _ _ _ _ _ | with_reducible exact below_d5 _ _ | with_reducible refine Below.drew ?_ | with_reducible refine Below.drewN' ?_ _ | with_reducible refine below_grow0 _ _ ?_ | with_reducible refine below_alloc0 _ ?_ | with_reducible refine Below.setCell ?_ ?_ _ | with_reducible refine Below.alloc ?_ ?_ _ | with_reducible refine Below.grow _ _ _ ?_ ?_ | omega | (simp; done) | (simp; omega))))).mono ?_); rintro e w1 ⟨A5, c5, A6, c6, rfl, ho1, ho2, hb1⟩; obtain ⟨ext1, d1, rfl⟩ := Below.grown_eq _ hb1; have HO1 := Lib.hid ho1.sl; have HO2 := Lib.hid ho2.sl; clear ho1 ho2 hb1)
      refine hK.out _ _ ?gT1_23 (fun hHeld => ?_)
      case gT1_23 => ((try dsimp only); (refine ⟨?_, ?_, ?_, ?_, ?_, ?_, ?_, ?_, ?_, ?_⟩ <;> go_simp))
      clear hK K
      skip
      refine wpE_ready (rs := [3]) (by kernel_rfl) (by simp) ?_
      refine AllE.cons (by simp only [List.getElem?_toArray]; rfl) (fun K hK => ?_) AllE.nil
      go_simp
      (go_at_call 23; (with_reducible refine (HAP.out _ _ _ (HO1.out.below (by repeat (first | with_reducible exact Below.refl _ _ | with_reducible assumption | with_reducible exact below_d1 _ _ _ _ _ | with_reducible exact below_d2 _ _ _ _ _ _ _ _ | with_reducible exact below_d3 _ _ _ _ _ | with_reducible exact below_d4 _ _ _ _ _ _ _ _ | with_reducible exact below_d5 _ _ | with_reducible refine Below.drew ?_ | with_reducible refine Below.drewN' ?_ _ | with_reducible refine below_grow0 _ _ ?_ | with_reducible refine below_alloc0 _ ?_ | with_reducible refine Below.setCell ?_ ?_ _ | with_reducible refine Below.alloc ?_ ?_ _ | with_reducible refine Below.grow _ _ _ ?_ ?_ | omega | (simp; done) | (simp; omega)))) (HO2.out.below (by repeat (first | with_reducible exact Below.refl _ _ | with_reducible assumption | with_reducible exact below_d1 _ _ _ _ _ | with_reducible exact below_d2 _ _ _ _ _ _ _ _ | with_reducible exact below_d3 _ _ _ _ _ | with_reducible exact below_d4 _ _ _ _ _ _ _ _ | with_reducible exact below_d5 _ _ | with_reducible refine Below.drew ?_ | with_reducible refine Below.drewN' ?_ _ | with_reducible refine below_grow0 _ _ ?_ | with_reducible refine below_alloc0 _ ?_ | with_reducible refine Below.setCell ?_ ?_ _ | with_reducible refine Below.alloc ?_ ?_ _ | with_reducible refine Below.grow _ _ _ ?_ ?_ | omega | (simp; done) | (simp; omega))))).mono ?_); rintro e w3 ⟨nv, sv, vv, rfl, hn3, hs3, hv3, hb3⟩; obtain ⟨A7, c7, rfl, _⟩ := hn3.form; obtain ⟨A8, c8, rfl, _⟩ := hs3.form; obtain ⟨A9, c9, rfl, _⟩ := hv3.form; obtain ⟨ext3, d3, rfl⟩ := Below.grown_eq _ hb3; have HN3 := Lib.hid hn3; have HS3 := Lib.hid hs3; have HV3 := Lib.hid hv3; clear hn3 hs3 hv3 hb3)
      refine hK.out _ _ ?gT1_24 (fun hHeld => ?_)
      case gT1_24 => ((try dsimp only); (refine ⟨?_, ?_, ?_, ?_, ?_, ?_, ?_, ?_, ?_, ?_⟩ <;> go_simp))
      clear hK K
      try simp only [Act.put, List.setIfInBounds_toArray, List.set_cons_zero, List.set_cons_succ]
      (refine wpE_takeP (i := 4) (v := ?gV1_25) (by simp only [List.getElem?_toArray]; rfl) (by kernel_rfl) (by kernel_rfl) (by kernel_rfl) (by rfl) (fun _ _ _ h => h) (Or.inl ⟨by rfl, ?gY1_25⟩) (by assumption) ?gR1_25; case gY1_25 => (intro w hSw; (try dsimp only at hSw); go_simp <;> with_reducible rfl))
      try simp only [Act.put, List.setIfInBounds_toArray, List.set_cons_zero, List.set_cons_succ]
      (refine wpE_takeP (i := 5) (v := ?gV1_26) (by simp only [List.getElem?_toArray]; rfl) (by kernel_rfl) (by kernel_rfl) (by kernel_rfl) (by rfl) (fun _ _ _ h => h) (Or.inl ⟨by rfl, ?gY1_26⟩) (by assumption) ?gR1_26; case gY1_26 => (intro w hSw; (try dsimp only at hSw); go_simp <;> with_reducible rfl))
      try simp only [Act.put, List.setIfInBounds_toArray, List.set_cons_zero, List.set_cons_succ]
      (refine wpE_takeP (i := 6) (v := ?gV1_27) (by simp only [List.getElem?_toArray]; rfl) (by kernel_rfl) (by kernel_rfl) (by kernel_rfl) (by rfl) (fun _ _ _ h => h) (Or.inl ⟨by rfl, ?gY1_27⟩) (by assumption) ?gR1_27; case gY1_27 => (intro w hSw; (try dsimp only at hSw); go_simp <;> with_reducible rfl))
      try simp only [Act.put, List.setIfInBounds_toArray, List.set_cons_zero, List.set_cons_succ]
      (refine wpE_takeP (i := 7) (v := ?gV1_28) (by simp only [List.getElem?_toArray]; rfl) (by kernel_rfl) (by kernel_rfl) (by kernel_rfl) (by rfl) (fun _ _ _ h => h) (Or.inl ⟨by rfl, ?gY1_28⟩) (by assumption) ?gR1_28; case gY1_28 => (intro w hSw; (try dsimp only at hSw); go_simp <;> with_reducible rfl))
      try simp only [Act.put, List.setIfInBounds_toArray, List.set_cons_zero, List.set_cons_succ]
      refine wpE_ready (rs := [9]) (by kernel_rfl) (by simp) ?_
      refine AllE.cons (by simp only [List.getElem?_toArray]; rfl) (fun K hK => ?_) AllE.nil
      go_simp
      refine hK.out _ _ ?gT1_29 (fun hHeld => ?_)
      case gT1_29 => ((try dsimp only); (refine ⟨?_, ?_, ?_, ?_, ?_, ?_, ?_, ?_, ?_, ?_⟩ <;> go_simp))
      clear hK K
      try simp only [Act.put, List.setIfInBounds_toArray, List.set_cons_zero, List.set_cons_succ]
      (refine wpE_takeP (i := 10) (v := ?gV1_30) (by simp only [List.getElem?_toArray]; rfl) (by kernel_rfl) (by kernel_rfl) (by kernel_rfl) (by rfl) (fun _ _ _ h => h) (Or.inl ⟨by rfl, ?gY1_30⟩) (by assumption) ?gR1_30; case gY1_30 => (intro w hSw; (try dsimp only at hSw); go_simp <;> with_reducible rfl))
      try simp only [Act.put, List.setIfInBounds_toArray, List.set_cons_zero, List.set_cons_succ]
      (refine wpE_takeP (i := 11) (v := ?gV1_31) (by simp only [List.getElem?_toArray]; rfl) (by kernel_rfl) (by kernel_rfl) (by kernel_rfl) (by rfl) (fun _ _ _ h => h) (Or.inl ⟨by rfl, ?gY1_31⟩) (by assumption) ?gR1_31; case gY1_31 => (intro w hSw; (try dsimp only at hSw); go_simp <;> with_reducible rfl))
      try simp only [Act.put, List.setIfInBounds_toArray, List.set_cons_zero, List.set_cons_succ]
      refine wpE_done (by kernel_rfl) ?_ _
      refine NoPanic.normal ?_
      go_wp2_with fail
      go_meet
      refine ⟨_, A7, c7, A8, c8, A9, c9, rfl, rfl, rfl, ?_, ?_, ?_, ?_, ?_, ?_, Lib.hid ?n1_31, Lib.hid ?s1_31, Lib.hid ?v1_31⟩
      · exact Below.own hW1W (by repeat (first | with_reducible exact Below.refl _ _ | with_reducible assumption | with_reducible exact below_d1 _ _ _ _ _ | with_reducible exact below_d2 _ _ _ _ _ _ _ _ | with_reducible exact below_d3 _ _ _ _ _ | with_reducible exact below_d4 _ _ _ _ _ _ _ _ | with_reducible exact below_d5 _ _ | with_reducible refine Below.drew ?_ | with_reducible refine Below.drewN' ?_ _ | with_reducible refine below_grow0 _ _ ?_ | with_reducible refine below_alloc0 _ ?_ | with_reducible refine Below.setCell ?_ ?_ _ | with_reducible refine Below.alloc ?_ ?_ _ | with_reducible refine Below.grow _ _ _ ?_ ?_ | omega | (simp; done) | (simp; omega)))
      · first | omega | (simp <;> omega)
      · first | omega | (simp <;> omega)
      · (first | exact newCell (by simp [hWs1]) rfl | exact grow_at (newCell (by simp [hWs1]) rfl) | exact grow_at (grow_at (newCell (by simp [hWs1]) rfl)))
      · (first | exact newCell (by simp [hWs1]) rfl | exact grow_at (newCell (by simp [hWs1]) rfl) | exact grow_at (grow_at (newCell (by simp [hWs1]) rfl)))
      · (first | exact newCell (by simp [hWs1]) rfl | exact grow_at (newCell (by simp [hWs1]) rfl) | exact grow_at (grow_at (newCell (by simp [hWs1]) rfl)))
      case n1_31 =>
        refine (Ow.moved (W' := ?w91_31) (d' := ?x91_31) HN3.out (Nat.le_refl _) ?b91_31 ?z91_31).sl
        case b91_31 => exact (by repeat (first | with_reducible exact Below.refl _ _ | with_reducible assumption | with_reducible exact below_d1 _ _ _ _ _ | with_reducible exact below_d2 _ _ _ _ _ _ _ _ | with_reducible exact below_d3 _ _ _ _ _ | with_reducible exact below_d4 _ _ _ _ _ _ _ _ | with_reducible exact below_d5 _ _ | with_reducible refine Below.drew ?_ | with_reducible refine Below.drewN' ?_ _ | with_reducible refine below_grow0 _ _ ?_ | with_reducible refine below_alloc0 _ ?_ | with_reducible refine Below.setCell ?_ ?_ _ | with_reducible refine Below.alloc ?_ ?_ _ | with_reducible refine Below.grow _ _ _ ?_ ?_ | omega | (simp; done) | (simp; omega)))
        case z91_31 => simp
      case s1_31 =>
        refine (Ow.moved (W' := ?w81_31) (d' := ?x81_31) HS3.out (Nat.le_refl _) ?b81_31 ?z81_31).sl
        case b81_31 => exact (by repeat (first | with_reducible exact Below.refl _ _ | with_reducible assumption | with_reducible exact below_d1 _ _ _ _ _ | with_reducible exact below_d2 _ _ _ _ _ _ _ _ | with_reducible exact below_d3 _ _ _ _ _ | with_reducible exact below_d4 _ _ _ _ _ _ _ _ | with_reducible exact below_d5 _ _ | with_reducible refine Below.drew ?_ | with_reducible refine Below.drewN' ?_ _ | with_reducible refine below_grow0 _ _ ?_ | with_reducible refine below_alloc0 _ ?_ | with_reducible refine Below.setCell ?_ ?_ _ | with_reducible refine Below.alloc ?_ ?_ _ | with_reducible refine Below.grow _ _ _ ?_ ?_ | omega | (simp; done) | (simp; omega)))
        case z81_31 => simp
      case v1_31 =>
        refine (Ow.moved (W' := ?w71_31) (d' := ?x71_31) HV3.out (Nat.le_refl _) ?b71_31 ?z71_31).sl
        case b71_31 => exact (by repeat (first | with_reducible exact Below.refl _ _ | with_reducible assumption | with_reducible exact below_d1 _ _ _ _ _ | with_reducible exact below_d2 _ _ _ _ _ _ _ _ | with_reducible exact below_d3 _ _ _ _ _ | with_reducible exact below_d4 _ _ _ _ _ _ _ _ | with_reducible exact below_d5 _ _ | with_reducible refine Below.drew ?_ | with_reducible refine Below.drewN' ?_ _ | with_reducible refine below_grow0 _ _ ?_ | with_reducible refine below_alloc0 _ ?_ | with_reducible refine Below.setCell ?_ ?_ _ | with_reducible refine Below.alloc ?_ ?_ _ | with_reducible refine Below.grow _ _ _ ?_ ?_ | omega | (simp; done) | (simp; omega)))
        case z71_31 => simp
    exact AllE.nil
  case rest =>
    obtain ⟨wa, rfl⟩ : ∃ wa : World, wa = wc := ⟨_, rfl⟩
    obtain ⟨b, A7, c7, A8, c8, A9, c9, rfl, rfl, rfl, hba, hb1, hb2, t0, t1, t2, HN, HM, HEV⟩ := hcut
    have hbwa : Below w.heap.size w wa := Below.own hbW1 hba
    have hwa : w.heap.size + 1 < wa.heap.size := Nat.lt_of_lt_of_le hs1 hba.size
    have hbne : w.heap.size + 1 < b := Nat.lt_of_lt_of_le hs1 hb1
    have j0 := (hba.cell (p := ⟨w.heap.size, 0, none⟩) (by simp only; omega)).trans k0
    have j1 := (hba.cell (p := ⟨w.heap.size, 1, none⟩) (by simp only; omega)).trans k1
    have j2 := (hba.cell (p := ⟨w.heap.size, 2, none⟩) (by simp only; omega)).trans k2
    have y0 := (hba.cell (p := ⟨w.heap.size + 1, 0, none⟩) (by simp only; omega)).trans x0
    have y1 := (hba.cell (p := ⟨w.heap.size + 1, 1, none⟩) (by simp only; omega)).trans x1
    have y2 := (hba.cell (p := ⟨w.heap.size + 1, 2, none⟩) (by simp only; omega)).trans x2
    have y3 := (hba.cell (p := ⟨w.heap.size + 1, 3, none⟩) (by simp only; omega)).trans x3
    have y4 := (hba.cell (p := ⟨w.heap.size + 1, 4, none⟩) (by simp only; omega)).trans x4
    have y5 := (hba.cell (p := ⟨w.heap.size + 1, 5, none⟩) (by simp only; omega)).trans x5
    have y6 := (hba.cell (p := ⟨w.heap.size + 1, 6, none⟩) (by simp only; omega)).trans x6
    clear k0 k1 k2 x0 x1 x2 x3 x4 x5 x6 HAP HOW
    by_cases hE : E = 0
    · subst hE
      obtain ⟨⟨p1, p2, p3, p4, p5, p6, p7, p8, p9, p10, p11, p12⟩, ⟨u1, u2⟩, ⟨q1, q2⟩⟩ := HX.out rfl
      have HST2 := Lib.hid (HST.out rfl)
      clear HX HST
      obtain ⟨tz, tl, ts⟩ := T
      simp only at *
      subst p9 p10
      rw [p6]
      have HU1 := Lib.hid u1
      have HU2 := Lib.hid u2
      have HQ2 := Lib.hid q2
      have hsp := goodP_size p7
      have HGT := Lib.hid (fun (W : World) (h : Sl cNode 9 W (.slice A7 tl.length c7) tl) => trGet tz (.slice A7 tl.length c7) A8 ts.length c8 tl xp W h (by omega))
      have HKD := Lib.hid (fun (W : World) (h : Sl cNode 9 W (.slice A7 tl.length c7) tl) => trKids tz (.slice A7 tl.length c7) A8 ts.length c8 tl (splitR xp).1 W h (by omega) (fun n hn => Nat.le_trans (q2 n hn) (by decide)))
      have HSP := Lib.hid (fun (W : World) => split_any xp W hp)
      have HK4 := Lib.hid p4
      have hse : (splitR xp).2.2 = 0 := (split_not p7).2 p8
      unfold getE at HGT
      unfold KidsRes kidsR getE at HKD
      rw [p1, p2, if_pos rfl] at HGT
      unfold nodeOf at HGT
      simp only at HGT
      rw [p3, if_pos rfl, if_pos rfl] at HKD
      rw [hse] at HSP
      unfold parent at HK4 HU1
      generalize (splitR xp).2.1 = st at *
      generalize (splitR xp).1 = dir at *
      have hkl := kidsL_le tl dir
      generalize hK : kidsL tl dir = K at *
      have HP5 := Lib.hid p5
      clear p1 p2 p3 p4 p5 p6 p7 p8 p11 p12 hse hK u1 u2 q2 hp
      go_upto_region 9 with (first | (go_at_call 22; refine (HGR.out _).mono ?_; rintro e w1 ⟨rfl, hb⟩; obtain ⟨ext0, d0, rfl⟩ := Below.grown_eq _ hb; clear hb) | (go_at_call 19; refine (HGT.out _ (HN.out.below (by repeat (first | with_reducible exact Below.refl _ _ | with_reducible assumption | with_reducible exact below_d1 _ _ _ _ _ | with_reducible exact below_d2 _ _ _ _ _ _ _ _ | with_reducible exact below_d3 _ _ _ _ _ | with_reducible exact below_d4 _ _ _ _ _ _ _ _ | with_reducible exact below_d5 _ _ | with_reducible refine Below.drew ?_ | with_reducible refine Below.drewN' ?_ _ | with_reducible refine below_grow0 _ _ ?_ | with_reducible refine below_alloc0 _ ?_ | with_reducible refine Below.setCell ?_ ?_ _ | with_reducible refine Below.alloc ?_ ?_ _ | with_reducible refine Below.grow _ _ _ ?_ ?_ | omega | (simp; done) | (simp; omega))))).mono ?_; rintro e w1 ⟨rfl, hb⟩; obtain ⟨ext1, d1, rfl⟩ := Below.grown_eq _ hb; clear hb) | (go_at_call 25; refine (HSP.out _).mono ?_; rintro e w1 ⟨rfl, hb⟩; obtain ⟨ext2, d2, rfl⟩ := Below.grown_eq _ hb; clear hb) | (go_at_call 26; (with_reducible refine (HKD.out _ (HN.out.below (by repeat (first | with_reducible exact Below.refl _ _ | with_reducible assumption | with_reducible exact below_d1 _ _ _ _ _ | with_reducible exact below_d2 _ _ _ _ _ _ _ _ | with_reducible exact below_d3 _ _ _ _ _ | with_reducible exact below_d4 _ _ _ _ _ _ _ _ | with_reducible exact below_d5 _ _ | with_reducible refine Below.drew ?_ | with_reducible refine Below.drewN' ?_ _ | with_reducible refine below_grow0 _ _ ?_ | with_reducible refine below_alloc0 _ ?_ | with_reducible refine Below.setCell ?_ ?_ _ | with_reducible refine Below.alloc ?_ ?_ _ | with_reducible refine Below.grow _ _ _ ?_ ?_ | omega | (simp; done) | (simp; omega))))).mono ?_); rintro e w3 ⟨A5, c5, rfl, hk3, hb3⟩; have HKS := Lib.hid hk3.sl; obtain ⟨ext3, d3, rfl⟩ := Below.grown_eq _ hb3; clear hb3 hk3))
      refine gen_w (fun wb hwb => ?_)
      have hbwb : Below wa.heap.size wa wb := by rw [hwb.out]; exact (by repeat (first | with_reducible exact Below.refl _ _ | with_reducible assumption | with_reducible exact below_d1 _ _ _ _ _ | with_reducible exact below_d2 _ _ _ _ _ _ _ _ | with_reducible exact below_d3 _ _ _ _ _ | with_reducible exact below_d4 _ _ _ _ _ _ _ _ | with_reducible exact below_d5 _ _ | with_reducible refine Below.drew ?_ | with_reducible refine Below.drewN' ?_ _ | with_reducible refine below_grow0 _ _ ?_ | with_reducible refine below_alloc0 _ ?_ | with_reducible refine Below.setCell ?_ ?_ _ | with_reducible refine Below.alloc ?_ ?_ _ | with_reducible refine Below.grow _ _ _ ?_ ?_ | omega | (simp; done) | (simp; omega)))
      have hlb : wa.heap.size + ext0.size + ext1.size < wb.heap.size := by rw [hwb.out]; simp <;> omega
      have n0 : wb.cell? ⟨wa.heap.size + ext0.size + ext1.size, 0, none⟩ = some (.string xp) := by rw [hwb.out]; exact grow_at (grow_at (newCell (by simp) rfl))
      have n1 : wb.cell? ⟨wa.heap.size + ext0.size + ext1.size, 1, none⟩ = some (.string xd) := by rw [hwb.out]; exact grow_at (grow_at (newCell (by simp) rfl))
      have n2 : wb.cell? ⟨wa.heap.size + ext0.size + ext1.size, 2, none⟩ = some (.int .i64 tz) := by rw [hwb.out]; exact grow_at (grow_at (newCell (by simp) rfl))
      have n3 : wb.cell? ⟨wa.heap.size + ext0.size + ext1.size, 3, none⟩ = some (.int .i64 tz) := by rw [hwb.out]; exact grow_at (grow_at (newCell (by simp) rfl))
      have n4 : wb.cell? ⟨wa.heap.size + ext0.size + ext1.size, 4, none⟩ = some (.int .i64 tz) := by rw [hwb.out]; exact grow_at (grow_at (newCell (by simp) rfl))
      have n5 : wb.cell? ⟨wa.heap.size + ext0.size + ext1.size, 5, none⟩ = some (.int .i64 0) := by rw [hwb.out]; exact grow_at (grow_at (newCell (by simp) rfl))
      have n6 : wb.cell? ⟨wa.heap.size + ext0.size + ext1.size, 6, none⟩ = some (.int .i64 0) := by rw [hwb.out]; exact grow_at (grow_at (newCell (by simp) rfl))
      have n7 : wb.cell? ⟨wa.heap.size + ext0.size + ext1.size, 7, none⟩ = some (.int .i64 xw) := by rw [hwb.out]; exact grow_at (grow_at (newCell (by simp) rfl))
      have n8 : wb.cell? ⟨wa.heap.size + ext0.size + ext1.size, 8, none⟩ = some (.int .i64 0) := by rw [hwb.out]; exact grow_at (grow_at (newCell (by simp) rfl))
      have HKW := Lib.hid (show Sl cStr 1 wb (.slice A5 K.length c5) K from by rw [hwb.out]; exact HKS.out)
      generalize wa.heap.size + ext0.size + ext1.size = bn at *
      have j1' := keep2 hbwb j1
      have y0' := keep2 hbwb y0
      have y2' := keep2 hbwb y2
      have y3' := keep2 hbwb y3
      have y4' := keep2 hbwb y4
      have y6' := keep2 hbwb y6
      have t0' := keep2 hbwb t0
      have t1' := keep2 hbwb t1
      have t2' := keep2 hbwb t2
      have hbw2 : Below w.heap.size w wb := Below.own hbwa hbwb
      have hwb1 : w.heap.size + 1 < wb.heap.size := Nat.lt_of_lt_of_le hwa hbwb.size
      have hwb2 : b < wb.heap.size := Nat.lt_of_lt_of_le hb2 hbwb.size
      have HNb := Lib.hid (HN.out.below hbwb)
      have HMb := Lib.hid (HM.out.below hbwb)
      clear hwb HKS j0 j1 j2 y0 y1 y2 y3 y4 y5 y6 t0 t1 t2 HGR HGT HKD HSP HN HM HEV
      go_wp2_with fail
      go_loopw [17, 18] (fun g i wr => ∃ (k : Nat), k ≤ K.length ∧ i = .int .i64 k ∧ g = .int .i64 ((K.take k).countP (fun s => decide (s = st)) : Nat) ∧ wr = wb) (fun _ i _ => K.length - (intOf i).toNat)
      case atStart => exact ⟨0, Nat.zero_le _, rfl, rfl, rfl⟩
      case round =>
        obtain ⟨k, hk, rfl, rfl, rfl⟩ := hrel
        by_cases hlt : k < K.length
        · have hx : K[k]? = some (K[k]'hlt) := List.getElem?_eq_getElem _
          have hct := count_take_s hx st
          have hcl : (K.take k).countP (fun s => decide (s = st)) ≤ k := Nat.le_trans List.countP_le_length (by rw [List.length_take]; omega)
          obtain ⟨bk, off, rfl, hbk, c0⟩ := HKW.out.str_at hx
          generalize K[k]'hlt = g at *
          by_cases hg : g = st
          · subst hg
            have HC2 := Lib.hid (show (K.take (k + 1)).countP (fun s => decide (s = g)) = (K.take k).countP (fun s => decide (s = g)) + 1 by rw [hct, if_pos rfl])
            clear hct hx
            go_wp2_with fail
            go_roundw
            case rel => exact ⟨k + 1, by omega, by go_num, by rw [HC2.out]; go_num, trivial⟩
            case measure => simp [intOf]; omega
          · have HC2 := Lib.hid (show (K.take (k + 1)).countP (fun s => decide (s = st)) = (K.take k).countP (fun s => decide (s = st)) by rw [hct, if_neg hg]; rfl)
            have hne := ne_bytes hg
            clear hct hx hg
            go_wp2_with fail
            go_roundw
            case rel => exact ⟨k + 1, by omega, by go_num, by rw [HC2.out], trivial⟩
            case measure => simp [intOf]; omega
        · have hkl : k = K.length := by omega
          subst hkl
          rw [List.take_length, HK4.out]
          have hd1 : ((tl.length : Int) - (l.length : Int) != 1) = false := by have := HP5.out; exact bne_eq_false_iff_eq.2 (by omega)
          obtain ⟨T2, hT2⟩ : ∃ T2, T2 = applyT ⟨tz, tl, ts⟩ ⟨zz, 4, xs, xp, ⟨#[]⟩, 0, 0⟩ := ⟨_, rfl⟩
          obtain ⟨V2, hV2⟩ : ∃ V2, V2 = applyV ⟨tz, tl, ts⟩ ⟨zz, 4, xs, xp, ⟨#[]⟩, 0, 0⟩ := ⟨_, rfl⟩
          obtain ⟨E2, hE2⟩ : ∃ E2, E2 = applyE ⟨tz, tl, ts⟩ ⟨zz, 4, xs, xp, ⟨#[]⟩, 0, 0⟩ := ⟨_, rfl⟩
          have HAP2 := Lib.hid (fun (W : World) (v v2 : Value) (h : Sl cNode 9 W v tl) (h2 : Sl cInt 1 W v2 ts) => trApply tz v v2 tl ts ⟨zz, 4, xs, xp, ⟨#[]⟩, 0, 0⟩ W h h2 (by omega) (by omega) (fun n hn => Nat.le_trans (HQ2.out n hn) (by decide)) (Nat.le_trans hsp.2 (by decide)))
          unfold ApplyRes at HAP2
          rw [← hT2, ← hV2, ← hE2] at HAP2
          rw [← hT2, ← hE2] at HU1
          rw [← hE2] at HU2
          clear hT2 hV2 hE2 HK4
          go_upto_region 17 with (go_at_call 23; (with_reducible refine (HAP2.out _ _ _ (HNb.out.below (by repeat (first | with_reducible exact Below.refl _ _ | with_reducible assumption | with_reducible exact below_d1 _ _ _ _ _ | with_reducible exact below_d2 _ _ _ _ _ _ _ _ | with_reducible exact below_d3 _ _ _ _ _ | with_reducible exact below_d4 _ _ _ _ _ _ _ _ | with_reducible exact below_d5 _ _ | with_reducible refine Below.drew ?_ | with_reducible refine Below.drewN' ?_ _ | with_reducible refine below_grow0 _ _ ?_ | with_reducible refine below_alloc0 _ ?_ | with_reducible refine Below.setCell ?_ ?_ _ | with_reducible refine Below.alloc ?_ ?_ _ | with_reducible refine Below.grow _ _ _ ?_ ?_ | omega | (simp; done) | (simp; omega)))) (HMb.out.below (by repeat (first | with_reducible exact Below.refl _ _ | with_reducible assumption | with_reducible exact below_d1 _ _ _ _ _ | with_reducible exact below_d2 _ _ _ _ _ _ _ _ | with_reducible exact below_d3 _ _ _ _ _ | with_reducible exact below_d4 _ _ _ _ _ _ _ _ | with_reducible exact below_d5 _ _ | with_reducible refine Below.drew ?_ | with_reducible refine Below.drewN' ?_ _ | with_reducible refine below_grow0 _ _ ?_ | with_reducible refine below_alloc0 _ ?_ | with_reducible refine Below.setCell ?_ ?_ _ | with_reducible refine Below.alloc ?_ ?_ _ | with_reducible refine Below.grow _ _ _ ?_ ?_ | omega | (simp; done) | (simp; omega))))).mono ?_); rintro e w3 ⟨nv, sv, vv, rfl, hn3, hs3, hv3, hb3⟩; obtain ⟨A9, c9, rfl, _⟩ := hn3.form; obtain ⟨B9, e9, rfl, _⟩ := hs3.form; obtain ⟨D9, f9, rfl, _⟩ := hv3.form; have HN3 := Lib.hid hn3.sl; obtain ⟨ext3, d3, rfl⟩ := Below.grown_eq _ hb3; clear hn3 hs3 hv3 hb3)
          refine gen_w (fun wd hwd => ?_)
          have hbwd : Below wr.heap.size wr wd := by rw [hwd.out]; exact (by repeat (first | with_reducible exact Below.refl _ _ | with_reducible assumption | with_reducible exact below_d1 _ _ _ _ _ | with_reducible exact below_d2 _ _ _ _ _ _ _ _ | with_reducible exact below_d3 _ _ _ _ _ | with_reducible exact below_d4 _ _ _ _ _ _ _ _ | with_reducible exact below_d5 _ _ | with_reducible refine Below.drew ?_ | with_reducible refine Below.drewN' ?_ _ | with_reducible refine below_grow0 _ _ ?_ | with_reducible refine below_alloc0 _ ?_ | with_reducible refine Below.setCell ?_ ?_ _ | with_reducible refine Below.alloc ?_ ?_ _ | with_reducible refine Below.grow _ _ _ ?_ ?_ | omega | (simp; done) | (simp; omega)))
          have hld : wr.heap.size + ext3.size < wd.heap.size := by rw [hwd.out]; simp <;> omega
          have m0 : wd.cell? ⟨wr.heap.size + ext3.size, 0, none⟩ = some (.int .i64 T2.zxid) := by rw [hwd.out]; exact newCell (by simp) rfl
          have m1 : wd.cell? ⟨wr.heap.size + ext3.size, 1, none⟩ = some (.slice A9 T2.nodes.length c9) := by rw [hwd.out]; exact newCell (by simp) rfl
          have HNd := Lib.hid (HN3.out.below (w' := wd) (by rw [hwd.out]; exact (by repeat (first | with_reducible exact Below.refl _ _ | with_reducible assumption | with_reducible exact below_d1 _ _ _ _ _ | with_reducible exact below_d2 _ _ _ _ _ _ _ _ | with_reducible exact below_d3 _ _ _ _ _ | with_reducible exact below_d4 _ _ _ _ _ _ _ _ | with_reducible exact below_d5 _ _ | with_reducible refine Below.drew ?_ | with_reducible refine Below.drewN' ?_ _ | with_reducible refine below_grow0 _ _ ?_ | with_reducible refine below_alloc0 _ ?_ | with_reducible refine Below.setCell ?_ ?_ _ | with_reducible refine Below.alloc ?_ ?_ _ | with_reducible refine Below.grow _ _ _ ?_ ?_ | omega | (simp; done) | (simp; omega)))))
          generalize wr.heap.size + ext3.size = bd at *
          have j1'' := keep2 hbwd j1'
          have y0'' := keep2 hbwd y0'
          have hbwd2 : Below w.heap.size w wd := Below.own hbw2 hbwd
          have hwd1 : w.heap.size + 1 < wd.heap.size := Nat.lt_of_lt_of_le hwb1 hbwd.size
          clear hwd HN3 HKW j1' y0' y2' y3' y4' y6' t0' t1' t2' n0 n1 n2 n3 n4 n5 n6 n7 n8 HAP2 HNb HMb
          by_cases hE2 : E2 = 0
          · obtain ⟨r1, r2⟩ := HU1.out hE2
            subst hE2
            obtain ⟨t2z, t2l, t2s⟩ := T2
            simp only at *
            subst r1 r2
            clear HU1 HU2
            have hll : (l.map (twiceAt dir t2z)).length = l.length := List.length_map ..
            rw [hll] at m1 HNd ⊢
            go_wp2_with fail
            go_loopw [22] (fun i wr => ∃ (k : Nat), k ≤ l.length ∧ i = .int .i64 k ∧ Below wd.heap.size wd wr) (fun i _ => l.length - (intOf i).toNat)
            case atStart => exact ⟨0, Nat.zero_le _, rfl, (by repeat (first | with_reducible exact Below.refl _ _ | with_reducible assumption | with_reducible exact below_d1 _ _ _ _ _ | with_reducible exact below_d2 _ _ _ _ _ _ _ _ | with_reducible exact below_d3 _ _ _ _ _ | with_reducible exact below_d4 _ _ _ _ _ _ _ _ | with_reducible exact below_d5 _ _ | with_reducible refine Below.drew ?_ | with_reducible refine Below.drewN' ?_ _ | with_reducible refine below_grow0 _ _ ?_ | with_reducible refine below_alloc0 _ ?_ | with_reducible refine Below.setCell ?_ ?_ _ | with_reducible refine Below.alloc ?_ ?_ _ | with_reducible refine Below.grow _ _ _ ?_ ?_ | omega | (simp; done) | (simp; omega)))⟩
            case round =>
              obtain ⟨k, hk, rfl, hbr⟩ := hrel
              have q1 := keep2 hbr j1''
              have q2 := keep2 hbr m1
              have hwr : w.heap.size + 1 < wr.heap.size := Nat.lt_of_lt_of_le hwd1 hbr.size
              have hbr2 : bd < wr.heap.size := Nat.lt_of_lt_of_le hld hbr.size
              have hbwr : Below w.heap.size w wr := Below.own hbwd2 hbr
              have m1x := m1
              clear j1'' y0'' m0 m1
              by_cases hlt : k < l.length
              · have hx : l[k]? = some (l[k]'hlt) := List.getElem?_eq_getElem _
                have hx2 : (l.map (twiceAt dir t2z))[k]? = some (twiceAt dir t2z (l[k]'hlt)) := by rw [List.getElem?_map, hx]; rfl
                have hv := HST2.out _ (List.mem_of_getElem? hx)
                obtain ⟨bk, off, rfl, hbk, c0, c1, c2', c3, c4, c5, c6, c7', c8'⟩ := (HV.out.below hbwr).Node_at hx
                have HN' := HNd.out.below hbr
                rw [← hll] at HN'
                obtain ⟨bn, on, rfl, hbn, n0, n1, n2, n3, n4, n5, n6, n7, n8⟩ := HN'.Node_at hx2
                generalize l[k]'hlt = g at *
                obtain ⟨gp, gd, g1, g2, g3, g4, g5, g6, g7⟩ := g
                simp only at *
                obtain ⟨cv, hcv⟩ : ∃ cv, cv = if gp = dir then g5 + 1 + 1 else g5 := ⟨_, rfl⟩
                obtain ⟨pz, hpz⟩ : ∃ pz, pz = if gp = dir then t2z else g3 := ⟨_, rfl⟩
                have hput : twiceAt dir t2z ⟨gp, gd, g1, g2, g3, g4, g5, g6, g7⟩ = ⟨gp, gd, g1, g2, pz, g4, cv, g6, g7⟩ := by
                  rw [hcv, hpz]
                  unfold twiceAt
                  by_cases hd : gp = dir
                  · rw [if_pos hd, if_pos hd, if_pos hd]
                  · rw [if_neg hd, if_neg hd, if_neg hd]
                rw [hput] at n0 n1 n2 n3 n4 n5 n6 n7 n8
                simp only at n0 n1 n2 n3 n4 n5 n6 n7 n8
                have HCV := Lib.hid hcv
                have HPZ := Lib.hid hpz
                have HVV := Lib.hid hv
                clear hput hcv hpz hv hx hx2 HN' hll
                go_upto_region 24 with fail
                go_cut [23, 24] from 161 to 209 (fun s23 s24 wx => ∃ b1 b2, s23 = .pointer (some ⟨b1, 0, none⟩) ∧ s24 = .pointer (some ⟨b2, 0, none⟩) ∧ b1 ≠ b2 ∧ wr.heap.size ≤ b1 ∧ wr.heap.size ≤ b2 ∧ Below wr.heap.size wr wx ∧
                  Hid (Bk wx b1 [.string gp, .string gd, .int .i64 g1, .int .i64 g2, .int .i64 pz, .int .i64 g4, .int .i64 cv, .int .i64 g6, .int .i64 g7] 40) ∧ Hid (Bk wx b2 [.string gp, .string gd, .int .i64 g1, .int .i64 g2, .int .i64 g3, .int .i64 g4, .int .i64 g5, .int .i64 g6, .int .i64 g7] 40))
                case first =>
                  refine wp_region_noPanic ?_
                  refine wp_region_W (by kernel_rfl) (fun W hW => ?_)
                  have cl0 : W.cell? ⟨w.heap.size, 1, none⟩ = some (.slice (some ⟨bk, off, none⟩) l.length c) := by rw [hW.out]; go_simp
                  have cl1 : W.cell? ⟨bd, 1, none⟩ = some (.slice (some ⟨bn, on, none⟩) l.length c9) := by rw [hW.out]; go_simp
                  have cl2 : W.cell? ⟨bk, off + k * 9, none⟩ = some (.string gp) := by rw [hW.out]; go_simp
                  have cl3 : W.cell? ⟨bk, off + k * 9 + 1, none⟩ = some (.string gd) := by rw [hW.out]; go_simp
                  have cl4 : W.cell? ⟨bk, off + k * 9 + 2, none⟩ = some (.int .i64 g1) := by rw [hW.out]; go_simp
                  have cl5 : W.cell? ⟨bk, off + k * 9 + 3, none⟩ = some (.int .i64 g2) := by rw [hW.out]; go_simp
                  have cl6 : W.cell? ⟨bk, off + k * 9 + 4, none⟩ = some (.int .i64 g3) := by rw [hW.out]; go_simp
                  have cl7 : W.cell? ⟨bk, off + k * 9 + 5, none⟩ = some (.int .i64 g4) := by rw [hW.out]; go_simp
                  have cl8 : W.cell? ⟨bk, off + k * 9 + 6, none⟩ = some (.int .i64 g5) := by rw [hW.out]; go_simp
                  have cl9 : W.cell? ⟨bk, off + k * 9 + 7, none⟩ = some (.int .i64 g6) := by rw [hW.out]; go_simp
                  have cl10 : W.cell? ⟨bk, off + k * 9 + 8, none⟩ = some (.int .i64 g7) := by rw [hW.out]; go_simp
                  have cl11 : W.cell? ⟨bn, on + k * 9, none⟩ = some (.string gp) := by rw [hW.out]; go_simp
                  have cl12 : W.cell? ⟨bn, on + k * 9 + 1, none⟩ = some (.string gd) := by rw [hW.out]; go_simp
                  have cl13 : W.cell? ⟨bn, on + k * 9 + 2, none⟩ = some (.int .i64 g1) := by rw [hW.out]; go_simp
                  have cl14 : W.cell? ⟨bn, on + k * 9 + 3, none⟩ = some (.int .i64 g2) := by rw [hW.out]; go_simp
                  have cl15 : W.cell? ⟨bn, on + k * 9 + 4, none⟩ = some (.int .i64 pz) := by rw [hW.out]; go_simp
                  have cl16 : W.cell? ⟨bn, on + k * 9 + 5, none⟩ = some (.int .i64 g4) := by rw [hW.out]; go_simp
                  have cl17 : W.cell? ⟨bn, on + k * 9 + 6, none⟩ = some (.int .i64 cv) := by rw [hW.out]; go_simp
                  have cl18 : W.cell? ⟨bn, on + k * 9 + 7, none⟩ = some (.int .i64 g6) := by rw [hW.out]; go_simp
                  have cl19 : W.cell? ⟨bn, on + k * 9 + 8, none⟩ = some (.int .i64 g7) := by rw [hW.out]; go_simp
                  have hWr : Below wr.heap.size wr W := by rw [hW.out]; exact (by repeat (first | with_reducible exact Below.refl _ _ | with_reducible assumption | with_reducible exact below_d1 _ _ _ _ _ | with_reducible exact below_d2 _ _ _ _ _ _ _ _ | with_reducible exact below_d3 _ _ _ _ _ | with_reducible exact below_d4 _ _ _ _ _ _ _ _ | with_reducible exact below_d5 _ _ | with_reducible refine Below.drew ?_ | with_reducible refine Below.drewN' ?_ _ | with_reducible refine below_grow0 _ _ ?_ | with_reducible refine below_alloc0 _ ?_ | with_reducible refine Below.setCell ?_ ?_ _ | with_reducible refine Below.alloc ?_ ?_ _ | with_reducible refine Below.grow _ _ _ ?_ ?_ | omega | (simp; done) | (simp; omega)))
                  have hWs1 : W.heap.size = wr.heap.size := by rw [hW.out]; simp
                  refine wpAny_S (fun w' => w'.cell? ⟨w.heap.size, 1, none⟩ = some (.slice (some ⟨bk, off, none⟩) l.length c) ∧ w'.cell? ⟨bd, 1, none⟩ = some (.slice (some ⟨bn, on, none⟩) l.length c9) ∧ w'.cell? ⟨bk, off + k * 9, none⟩ = some (.string gp) ∧ w'.cell? ⟨bk, off + k * 9 + 1, none⟩ = some (.string gd) ∧ w'.cell? ⟨bk, off + k * 9 + 2, none⟩ = some (.int .i64 g1) ∧ w'.cell? ⟨bk, off + k * 9 + 3, none⟩ = some (.int .i64 g2) ∧ w'.cell? ⟨bk, off + k * 9 + 4, none⟩ = some (.int .i64 g3) ∧ w'.cell? ⟨bk, off + k * 9 + 5, none⟩ = some (.int .i64 g4) ∧ w'.cell? ⟨bk, off + k * 9 + 6, none⟩ = some (.int .i64 g5) ∧ w'.cell? ⟨bk, off + k * 9 + 7, none⟩ = some (.int .i64 g6) ∧ w'.cell? ⟨bk, off + k * 9 + 8, none⟩ = some (.int .i64 g7) ∧ w'.cell? ⟨bn, on + k * 9, none⟩ = some (.string gp) ∧ w'.cell? ⟨bn, on + k * 9 + 1, none⟩ = some (.string gd) ∧ w'.cell? ⟨bn, on + k * 9 + 2, none⟩ = some (.int .i64 g1) ∧ w'.cell? ⟨bn, on + k * 9 + 3, none⟩ = some (.int .i64 g2) ∧ w'.cell? ⟨bn, on + k * 9 + 4, none⟩ = some (.int .i64 pz) ∧ w'.cell? ⟨bn, on + k * 9 + 5, none⟩ = some (.int .i64 g4) ∧ w'.cell? ⟨bn, on + k * 9 + 6, none⟩ = some (.int .i64 cv) ∧ w'.cell? ⟨bn, on + k * 9 + 7, none⟩ = some (.int .i64 g6) ∧ w'.cell? ⟨bn, on + k * 9 + 8, none⟩ = some (.int .i64 g7)) (fun i => false) (by (try dsimp only); (refine ⟨?_, ?_, ?_, ?_, ?_, ?_, ?_, ?_, ?_, ?_, ?_, ?_, ?_, ?_, ?_, ?_, ?_, ?_, ?_, ?_⟩ <;> go_simp)) (fun hHeld => ?_)
                  (refine wpE_takeP (i := 0) (v := ?gV2_1) (by simp only [List.getElem?_toArray]; rfl) (by kernel_rfl) (by kernel_rfl) (by kernel_rfl) (by rfl) (fun _ _ _ h => h) (Or.inl ⟨by rfl, ?gY2_1⟩) (by assumption) ?gR2_1; case gY2_1 => (intro w hSw; (try dsimp only at hSw); go_simp <;> with_reducible rfl))
                  try simp only [Act.put, List.setIfInBounds_toArray, List.set_cons_zero, List.set_cons_succ]
                  (refine wpE_take (i := 1) (v := ?gV2_2) (by simp only [List.getElem?_toArray]; rfl) (by kernel_rfl) (by kernel_rfl) (by kernel_rfl) (by kernel_rfl) (by kernel_rfl) (by rfl) (fun _ _ _ h => h) (Or.inl ⟨by rfl, ?gY2_2⟩) (by assumption) ?gR2_2; case gY2_2 => (intro w hSw; (try dsimp only at hSw); go_simp <;> with_reducible rfl))
                  try simp only [Act.put, List.setIfInBounds_toArray, List.set_cons_zero, List.set_cons_succ]
                  (refine wpE_takeP (i := 2) (v := ?gV2_3) (by simp only [List.getElem?_toArray]; rfl) (by kernel_rfl) (by kernel_rfl) (by kernel_rfl) (by rfl) (fun _ _ _ h => h) (Or.inl ⟨by rfl, ?gY2_3⟩) (by assumption) ?gR2_3; case gY2_3 => (intro w hSw; (try dsimp only at hSw); go_simp <;> with_reducible rfl))
                  try simp only [Act.put, List.setIfInBounds_toArray, List.set_cons_zero, List.set_cons_succ]
                  (refine wpE_takeP (i := 3) (v := ?gV2_4) (by simp only [List.getElem?_toArray]; rfl) (by kernel_rfl) (by kernel_rfl) (by kernel_rfl) (by rfl) (fun _ _ _ h => h) (Or.inl ⟨by rfl, ?gY2_4⟩) (by assumption) ?gR2_4; case gY2_4 => (intro w hSw; (try dsimp only at hSw); go_simp <;> with_reducible rfl))
                  try simp only [Act.put, List.setIfInBounds_toArray, List.set_cons_zero, List.set_cons_succ]
                  (refine wpE_take (i := 4) (v := ?gV2_5) (by simp only [List.getElem?_toArray]; rfl) (by kernel_rfl) (by kernel_rfl) (by kernel_rfl) (by kernel_rfl) (by kernel_rfl) (by rfl) (fun _ _ _ h => h) (Or.inl ⟨by rfl, ?gY2_5⟩) (by assumption) ?gR2_5; case gY2_5 => (intro w hSw; (try dsimp only at hSw); go_simp <;> with_reducible rfl))
                  try simp only [Act.put, List.setIfInBounds_toArray, List.set_cons_zero, List.set_cons_succ]
                  (refine wpE_takeP (i := 5) (v := ?gV2_6) (by simp only [List.getElem?_toArray]; rfl) (by kernel_rfl) (by kernel_rfl) (by kernel_rfl) (by rfl) (fun _ _ _ h => h) (Or.inl ⟨by rfl, ?gY2_6⟩) (by assumption) ?gR2_6; case gY2_6 => (intro w hSw; (try dsimp only at hSw); go_simp <;> with_reducible rfl))
                  try simp only [Act.put, List.setIfInBounds_toArray, List.set_cons_zero, List.set_cons_succ]
                  (refine wpE_take (i := 6) (v := ?gV2_7) (by simp only [List.getElem?_toArray]; rfl) (by kernel_rfl) (by kernel_rfl) (by kernel_rfl) (by kernel_rfl) (by kernel_rfl) (by rfl) (fun _ _ _ h => h) (Or.inl ⟨by rfl, ?gY2_7⟩) (by assumption) ?gR2_7; case gY2_7 => (intro w hSw; (try dsimp only at hSw); go_simp <;> with_reducible rfl))
                  try simp only [Act.put, List.setIfInBounds_toArray, List.set_cons_zero, List.set_cons_succ]
                  (refine wpE_takeP (i := 7) (v := ?gV2_8) (by simp only [List.getElem?_toArray]; rfl) (by kernel_rfl) (by kernel_rfl) (by kernel_rfl) (by rfl) (fun _ _ _ h => h) (Or.inl ⟨by rfl, ?gY2_8⟩) (by assumption) ?gR2_8; case gY2_8 => (intro w hSw; (try dsimp only at hSw); go_simp <;> with_reducible rfl))
                  try simp only [Act.put, List.setIfInBounds_toArray, List.set_cons_zero, List.set_cons_succ]
                  (refine wpE_takeP (i := 8) (v := ?gV2_9) (by simp only [List.getElem?_toArray]; rfl) (by kernel_rfl) (by kernel_rfl) (by kernel_rfl) (by rfl) (fun _ _ _ h => h) (Or.inl ⟨by rfl, ?gY2_9⟩) (by assumption) ?gR2_9; case gY2_9 => (intro w hSw; (try dsimp only at hSw); go_simp <;> with_reducible rfl))
                  try simp only [Act.put, List.setIfInBounds_toArray, List.set_cons_zero, List.set_cons_succ]
                  (refine wpE_take (i := 9) (v := ?gV2_10) (by simp only [List.getElem?_toArray]; rfl) (by kernel_rfl) (by kernel_rfl) (by kernel_rfl) (by kernel_rfl) (by kernel_rfl) (by rfl) (fun _ _ _ h => h) (Or.inl ⟨by rfl, ?gY2_10⟩) (by assumption) ?gR2_10; case gY2_10 => (intro w hSw; (try dsimp only at hSw); go_simp <;> with_reducible rfl))
                  try simp only [Act.put, List.setIfInBounds_toArray, List.set_cons_zero, List.set_cons_succ]
                  refine wpE_ready (rs := [10, 11]) (by kernel_rfl) (by simp) ?_
                  refine AllE.cons (by simp only [List.getElem?_toArray]; rfl) (fun K hK => ?gO2_11) ?gL2_11
                  case gO2_11 =>
                    go_simp
                    refine hK.out _ _ ?gT2_11 (fun hHeld => ?_)
                    case gT2_11 => ((try dsimp only); (refine ⟨?_, ?_, ?_, ?_, ?_, ?_, ?_, ?_, ?_, ?_, ?_, ?_, ?_, ?_, ?_, ?_, ?_, ?_, ?_, ?_⟩ <;> go_simp))
                    clear hK K
                    try simp only [Act.put, List.setIfInBounds_toArray, List.set_cons_zero, List.set_cons_succ]
                    refine wpE_ready (rs := [11]) (by kernel_rfl) (by simp) ?_
                    refine AllE.cons (by simp only [List.getElem?_toArray]; rfl) (fun K hK => ?_) AllE.nil
                    go_simp
                    refine hK.out _ _ ?gT2_12 (fun hHeld => ?_)
                    case gT2_12 => ((try dsimp only); (refine ⟨?_, ?_, ?_, ?_, ?_, ?_, ?_, ?_, ?_, ?_, ?_, ?_, ?_, ?_, ?_, ?_, ?_, ?_, ?_, ?_⟩ <;> go_simp))
                    clear hK K
                    try simp only [Act.put, List.setIfInBounds_toArray, List.set_cons_zero, List.set_cons_succ]
                    refine wpE_ready (rs := [12]) (by kernel_rfl) (by simp) ?_
                    refine AllE.cons (by simp only [List.getElem?_toArray]; rfl) (fun K hK => ?_) AllE.nil
                    go_simp
                    refine hK.out _ _ ?gT2_13 (fun hHeld => ?_)
                    case gT2_13 => ((try dsimp only); (refine ⟨?_, ?_, ?_, ?_, ?_, ?_, ?_, ?_, ?_, ?_, ?_, ?_, ?_, ?_, ?_, ?_, ?_, ?_, ?_, ?_⟩ <;> go_simp))
                    clear hK K
                    try simp only [Act.put, List.setIfInBounds_toArray, List.set_cons_zero, List.set_cons_succ]
                    refine wpE_ready (rs := [13]) (by kernel_rfl) (by simp) ?_
                    refine AllE.cons (by simp only [List.getElem?_toArray]; rfl) (fun K hK => ?_) AllE.nil
                    go_simp
                    refine hK.out _ _ ?gT2_14 (fun hHeld => ?_)
                    case gT2_14 => ((try dsimp only); (refine ⟨?_, ?_, ?_, ?_, ?_, ?_, ?_, ?_, ?_, ?_, ?_, ?_, ?_, ?_, ?_, ?_, ?_, ?_, ?_, ?_⟩ <;> go_simp))
                    clear hK K
                    try simp only [Act.put, List.setIfInBounds_toArray, List.set_cons_zero, List.set_cons_succ]
                    refine wpE_done (by kernel_rfl) ?_ _
                    refine NoPanic.normal ?_
                    go_wp2_with fail
                    go_meet
                    refine ⟨_, _, rfl, rfl, ?_, ?_, ?_, ?_, Lib.hid ?p2_14, Lib.hid ?q2_14⟩
                    · omega
                    · omega
                    · omega
                    · exact (by repeat (first | with_reducible exact Below.refl _ _ | with_reducible assumption | with_reducible exact below_d1 _ _ _ _ _ | with_reducible exact below_d2 _ _ _ _ _ _ _ _ | with_reducible exact below_d3 _ _ _ _ _ | with_reducible exact below_d4 _ _ _ _ _ _ _ _ | with_reducible exact below_d5 _ _ | with_reducible refine Below.drew ?_ | with_reducible refine Below.drewN' ?_ _ | with_reducible refine below_grow0 _ _ ?_ | with_reducible refine below_alloc0 _ ?_ | with_reducible refine Below.setCell ?_ ?_ _ | with_reducible refine Below.alloc ?_ ?_ _ | with_reducible refine Below.grow _ _ _ ?_ ?_ | omega | (simp; done) | (simp; omega)))
                    case p2_14 => first | exact Bk.new _ _ _ (by simp [hWs1]) | exact (Bk.new _ _ _ hWs1.symm).below (by repeat (first | with_reducible exact Below.refl _ _ | with_reducible assumption | with_reducible exact below_d1 _ _ _ _ _ | with_reducible exact below_d2 _ _ _ _ _ _ _ _ | with_reducible exact below_d3 _ _ _ _ _ | with_reducible exact below_d4 _ _ _ _ _ _ _ _ | with_reducible exact below_d5 _ _ | with_reducible refine Below.drew ?_ | with_reducible refine Below.drewN' ?_ _ | with_reducible refine below_grow0 _ _ ?_ | with_reducible refine below_alloc0 _ ?_ | with_reducible refine Below.setCell ?_ ?_ _ | with_reducible refine Below.alloc ?_ ?_ _ | with_reducible refine Below.grow _ _ _ ?_ ?_ | omega | (simp; done) | (simp; omega)))
                    case q2_14 => first | exact Bk.new _ _ _ (by simp [hWs1]) | exact (Bk.new _ _ _ hWs1.symm).below (by repeat (first | with_reducible exact Below.refl _ _ | with_reducible assumption | with_reducible exact below_d1 _ _ _ _ _ | with_reducible exact below_d2 _ _ _ _ _ _ _ _ | with_reducible exact below_d3 _ _ _ _ _ | with_reducible exact below_d4 _ _ _ _ _ _ _ _ | with_reducible exact below_d5 _ _ | with_reducible refine Below.drew ?_ | with_reducible refine Below.drewN' ?_ _ | with_reducible refine below_grow0 _ _ ?_ | with_reducible refine below_alloc0 _ ?_ | with_reducible refine Below.setCell ?_ ?_ _ | with_reducible refine Below.alloc ?_ ?_ _ | with_reducible refine Below.grow _ _ _ ?_ ?_ | omega | (simp; done) | (simp; omega)))
                  refine AllE.cons (by simp only [List.getElem?_toArray]; rfl) (fun K hK => ?gO2_15) ?gL2_15
                  case gO2_15 =>
                    go_simp
                    refine hK.out _ _ ?gT2_15 (fun hHeld => ?_)
                    case gT2_15 => ((try dsimp only); (refine ⟨?_, ?_, ?_, ?_, ?_, ?_, ?_, ?_, ?_, ?_, ?_, ?_, ?_, ?_, ?_, ?_, ?_, ?_, ?_, ?_⟩ <;> go_simp))
                    clear hK K
                    try simp only [Act.put, List.setIfInBounds_toArray, List.set_cons_zero, List.set_cons_succ]
                    refine wpE_ready (rs := [10]) (by kernel_rfl) (by simp) ?_
                    refine AllE.cons (by simp only [List.getElem?_toArray]; rfl) (fun K hK => ?_) AllE.nil
                    go_simp
                    refine hK.out _ _ ?gT2_16 (fun hHeld => ?_)
                    case gT2_16 => ((try dsimp only); (refine ⟨?_, ?_, ?_, ?_, ?_, ?_, ?_, ?_, ?_, ?_, ?_, ?_, ?_, ?_, ?_, ?_, ?_, ?_, ?_, ?_⟩ <;> go_simp))
                    clear hK K
                    try simp only [Act.put, List.setIfInBounds_toArray, List.set_cons_zero, List.set_cons_succ]
                    refine wpE_ready (rs := [12]) (by kernel_rfl) (by simp) ?_
                    refine AllE.cons (by simp only [List.getElem?_toArray]; rfl) (fun K hK => ?_) AllE.nil
                    go_simp
                    refine hK.out _ _ ?gT2_17 (fun hHeld => ?_)
                    case gT2_17 => ((try dsimp only); (refine ⟨?_, ?_, ?_, ?_, ?_, ?_, ?_, ?_, ?_, ?_, ?_, ?_, ?_, ?_, ?_, ?_, ?_, ?_, ?_, ?_⟩ <;> go_simp))
                    clear hK K
                    try simp only [Act.put, List.setIfInBounds_toArray, List.set_cons_zero, List.set_cons_succ]
                    refine wpE_ready (rs := [13]) (by kernel_rfl) (by simp) ?_
                    refine AllE.cons (by simp only [List.getElem?_toArray]; rfl) (fun K hK => ?_) AllE.nil
                    go_simp
                    refine hK.out _ _ ?gT2_18 (fun hHeld => ?_)
                    case gT2_18 => ((try dsimp only); (refine ⟨?_, ?_, ?_, ?_, ?_, ?_, ?_, ?_, ?_, ?_, ?_, ?_, ?_, ?_, ?_, ?_, ?_, ?_, ?_, ?_⟩ <;> go_simp))
                    clear hK K
                    try simp only [Act.put, List.setIfInBounds_toArray, List.set_cons_zero, List.set_cons_succ]
                    refine wpE_done (by kernel_rfl) ?_ _
                    refine NoPanic.normal ?_
                    go_wp2_with fail
                    go_meet
                    refine ⟨_, _, rfl, rfl, ?_, ?_, ?_, ?_, Lib.hid ?p2_18, Lib.hid ?q2_18⟩
                    · omega
                    · omega
                    · omega
                    · exact (by repeat (first | with_reducible exact Below.refl _ _ | with_reducible assumption | with_reducible exact below_d1 _ _ _ _ _ | with_reducible exact below_d2 _ _ _ _ _ _ _ _ | with_reducible exact below_d3 _ _ _ _ _ | with_reducible exact below_d4 _ _ _ _ _ _ _ _ | with_reducible exact below_d5 _ _ | with_reducible refine Below.drew ?_ | with_reducible refine Below.drewN' ?_ _ | with_reducible refine below_grow0 _ _ ?_ | with_reducible refine below_alloc0 _ ?_ | with_reducible refine Below.setCell ?_ ?_ _ | with_reducible refine Below.alloc ?_ ?_ _ | with_reducible refine Below.grow _ _ _ ?_ ?_ | omega | (simp; done) | (simp; omega)))
                    case p2_18 => first | exact Bk.new _ _ _ (by simp [hWs1]) | exact (Bk.new _ _ _ hWs1.symm).below (by repeat (first | with_reducible exact Below.refl _ _ | with_reducible assumption | with_reducible exact below_d1 _ _ _ _ _ | with_reducible exact below_d2 _ _ _ _ _ _ _ _ | with_reducible exact below_d3 _ _ _ _ _ | with_reducible exact below_d4 _ _ _ _ _ _ _ _ | with_reducible exact below_d5 _ _ | with_reducible refine Below.drew ?_ | with_reducible refine Below.drewN' ?_ _ | with_reducible refine below_grow0 _ _ ?_ | with_reducible refine below_alloc0 _ ?_ | with_reducible refine Below.setCell ?_ ?_ _ | with_reducible refine Below.alloc ?_ ?_ _ | with_reducible refine Below.grow _ _ _ ?_ ?_ | omega | (simp; done) | (simp; omega)))
                    case q2_18 => first | exact Bk.new _ _ _ (by simp [hWs1]) | exact (Bk.new _ _ _ hWs1.symm).below (by repeat (first | with_reducible exact Below.refl _ _ | with_reducible assumption | with_reducible exact below_d1 _ _ _ _ _ | with_reducible exact below_d2 _ _ _ _ _ _ _ _ | with_reducible exact below_d3 _ _ _ _ _ | with_reducible exact below_d4 _ _ _ _ _ _ _ _ | with_reducible exact below_d5 _ _ | with_reducible refine Below.drew ?_ | with_reducible refine Below.drewN' ?_ _ | with_reducible refine below_grow0 _ _ ?_ | with_reducible refine below_alloc0 _ ?_ | with_reducible refine Below.setCell ?_ ?_ _ | with_reducible refine Below.alloc ?_ ?_ _ | with_reducible refine Below.grow _ _ _ ?_ ?_ | omega | (simp; done) | (simp; omega)))
                  exact AllE.nil
                case rest =>
                  obtain ⟨b1, b2, rfl, rfl, hb12, hbl1, hbl2, hbx, HB1, HB2⟩ := hcut
                  refine gen_k (fun wx hwx => ?_)
                  have hbx2 : Below wr.heap.size wr wx := by rw [hwx.out]; exact hbx
                  have HX1 := Lib.hid (show Bk wx b1 [.string gp, .string gd, .int .i64 g1, .int .i64 g2, .int .i64 pz, .int .i64 g4, .int .i64 cv, .int .i64 g6, .int .i64 g7] 40 by rw [hwx.out]; exact HB1.out)
                  have HX2 := Lib.hid (show Bk wx b2 [.string gp, .string gd, .int .i64 g1, .int .i64 g2, .int .i64 g3, .int .i64 g4, .int .i64 g5, .int .i64 g6, .int .i64 g7] 40 by rw [hwx.out]; exact HB2.out)
                  have hbwx : Below wd.heap.size wd wx := hbr.trans (hbx2.mono hbr.size)
                  have q2' := keep2 hbx2 q2
                  have hbdx : bd < wx.heap.size := Nat.lt_of_lt_of_le hbr2 hbx2.size
                  clear hwx HB1 HB2 hbx n0 n1 n2 n3 n4 n5 n6 n7 n8 c0 c1 c2' c3 c4 c5 c6 c7' c8' q1 q2
                  have r0 : wx.cell? ⟨b1, 0, none⟩ = some (.string gp) := HX1.out.cell 0
                  have r1 : wx.cell? ⟨b1, 1, none⟩ = some (.string gd) := HX1.out.cell 1
                  have r2 : wx.cell? ⟨b1, 2, none⟩ = some (.int .i64 g1) := HX1.out.cell 2
                  have r3 : wx.cell? ⟨b1, 3, none⟩ = some (.int .i64 g2) := HX1.out.cell 3
                  have r5 : wx.cell? ⟨b1, 5, none⟩ = some (.int .i64 g4) := HX1.out.cell 5
                  have r7 : wx.cell? ⟨b1, 7, none⟩ = some (.int .i64 g6) := HX1.out.cell 7
                  have r8 : wx.cell? ⟨b1, 8, none⟩ = some (.int .i64 g7) := HX1.out.cell 8
                  have s0 : wx.cell? ⟨b2, 0, none⟩ = some (.string gp) := HX2.out.cell 0
                  have s1 : wx.cell? ⟨b2, 1, none⟩ = some (.string gd) := HX2.out.cell 1
                  have s2 : wx.cell? ⟨b2, 2, none⟩ = some (.int .i64 g1) := HX2.out.cell 2
                  have s3 : wx.cell? ⟨b2, 3, none⟩ = some (.int .i64 g2) := HX2.out.cell 3
                  have s4 : wx.cell? ⟨b2, 4, none⟩ = some (.int .i64 g3) := HX2.out.cell 4
                  have s5 : wx.cell? ⟨b2, 5, none⟩ = some (.int .i64 g4) := HX2.out.cell 5
                  have s6 : wx.cell? ⟨b2, 6, none⟩ = some (.int .i64 g5) := HX2.out.cell 6
                  have s7 : wx.cell? ⟨b2, 7, none⟩ = some (.int .i64 g6) := HX2.out.cell 7
                  have s8 : wx.cell? ⟨b2, 8, none⟩ = some (.int .i64 g7) := HX2.out.cell 8
                  by_cases hd : gp = dir
                  · have hcv : cv = g5 + 1 + 1 := HCV.out.trans (if_pos hd)
                    have hpz : pz = t2z := HPZ.out.trans (if_pos hd)
                    have r4 : wx.cell? ⟨b1, 4, none⟩ = some (.int .i64 t2z) := hpz ▸ HX1.out.cell 4
                    have r6 : wx.cell? ⟨b1, 6, none⟩ = some (.int .i64 cv) := HX1.out.cell 6
                    obtain ⟨v1, v2', v3, v4, v5⟩ := HVV.out
                    have hcd : wrap64 (cv - g5) = 2 := by unfold wrap64; omega
                    have HPZ2 := Lib.hid hpz
                    clear HCV HPZ hcv hpz HVV v1 v2' v3 v4 v5
                    subst hd
                    go_upto_region 28 with fail
                    refine wp_region_noPanic ?_
                    refine wp_region_W (by kernel_rfl) (fun W hW => ?_)
                    have cl0 : W.cell? ⟨b2, 2 + 4, none⟩ = some (.int .i64 g5) := by rw [hW.out]; go_simp
                    have cl1 : W.cell? ⟨b2, 2 + 2, none⟩ = some (.int .i64 g3) := by rw [hW.out]; go_simp
                    have HBW1 := Lib.hid (HX1.out.below (w' := W) (by rw [hW.out]; exact (by repeat (first | with_reducible exact Below.refl _ _ | with_reducible assumption | with_reducible exact below_d1 _ _ _ _ _ | with_reducible exact below_d2 _ _ _ _ _ _ _ _ | with_reducible exact below_d3 _ _ _ _ _ | with_reducible exact below_d4 _ _ _ _ _ _ _ _ | with_reducible exact below_d5 _ _ | with_reducible refine Below.drew ?_ | with_reducible refine Below.drewN' ?_ _ | with_reducible refine below_grow0 _ _ ?_ | with_reducible refine below_alloc0 _ ?_ | with_reducible refine Below.setCell ?_ ?_ _ | with_reducible refine Below.alloc ?_ ?_ _ | with_reducible refine Below.grow _ _ _ ?_ ?_ | omega | (simp; done) | (simp; omega)))))
                    have HBW2 := Lib.hid (HX2.out.below (w' := W) (by rw [hW.out]; exact (by repeat (first | with_reducible exact Below.refl _ _ | with_reducible assumption | with_reducible exact below_d1 _ _ _ _ _ | with_reducible exact below_d2 _ _ _ _ _ _ _ _ | with_reducible exact below_d3 _ _ _ _ _ | with_reducible exact below_d4 _ _ _ _ _ _ _ _ | with_reducible exact below_d5 _ _ | with_reducible refine Below.drew ?_ | with_reducible refine Below.drewN' ?_ _ | with_reducible refine below_grow0 _ _ ?_ | with_reducible refine below_alloc0 _ ?_ | with_reducible refine Below.setCell ?_ ?_ _ | with_reducible refine Below.alloc ?_ ?_ _ | with_reducible refine Below.grow _ _ _ ?_ ?_ | omega | (simp; done) | (simp; omega)))))
                    have z6 : W.cell? ⟨b1, 2 + 4, none⟩ = some (.int .i64 cv) := HBW1.out.cell 6
                    have z4 : W.cell? ⟨b1, 2 + 2, none⟩ = some (.int .i64 t2z) := HPZ2.out ▸ HBW1.out.cell 4
                    have zf6 : W.frozen? ⟨b1, 2 + 4, none⟩ = false := HBW1.out.frozen 6
                    have zf4 : W.frozen? ⟨b1, 2 + 2, none⟩ = false := HBW1.out.frozen 4
                    have hWr : Below wx.heap.size wx W := by rw [hW.out]; exact (by repeat (first | with_reducible exact Below.refl _ _ | with_reducible assumption | with_reducible exact below_d1 _ _ _ _ _ | with_reducible exact below_d2 _ _ _ _ _ _ _ _ | with_reducible exact below_d3 _ _ _ _ _ | with_reducible exact below_d4 _ _ _ _ _ _ _ _ | with_reducible exact below_d5 _ _ | with_reducible refine Below.drew ?_ | with_reducible refine Below.drewN' ?_ _ | with_reducible refine below_grow0 _ _ ?_ | with_reducible refine below_alloc0 _ ?_ | with_reducible refine Below.setCell ?_ ?_ _ | with_reducible refine Below.alloc ?_ ?_ _ | with_reducible refine Below.grow _ _ _ ?_ ?_ | omega | (simp; done) | (simp; omega)))
                    refine wpAny_S (fun w' => w'.cell? ⟨b2, 2 + 4, none⟩ = some (.int .i64 g5) ∧ w'.cell? ⟨b2, 2 + 2, none⟩ = some (.int .i64 g3)) (fun i => false) (by (try dsimp only); (refine ⟨?_, ?_⟩ <;> go_simp)) (fun hHeld => ?_)
                    (refine wpE_takeP (i := 0) (v := ?gV3_1) (by simp only [List.getElem?_toArray]; rfl) (by kernel_rfl) (by kernel_rfl) (by kernel_rfl) (by rfl) (fun _ _ _ h => h) (Or.inl ⟨by rfl, ?gY3_1⟩) (by assumption) ?gR3_1; case gY3_1 => (intro w hSw; (try dsimp only at hSw); go_simp <;> with_reducible rfl))
                    try simp only [Act.put, List.setIfInBounds_toArray, List.set_cons_zero, List.set_cons_succ]
                    (refine wpE_takeP (i := 1) (v := ?gV3_2) (by simp only [List.getElem?_toArray]; rfl) (by kernel_rfl) (by kernel_rfl) (by kernel_rfl) (by rfl) (fun _ _ _ h => h) (Or.inl ⟨by rfl, ?gY3_2⟩) (by assumption) ?gR3_2; case gY3_2 => (intro w hSw; (try dsimp only at hSw); go_simp <;> with_reducible rfl))
                    try simp only [Act.put, List.setIfInBounds_toArray, List.set_cons_zero, List.set_cons_succ]
                    (refine wpE_take (i := 2) (v := ?gV3_3) (by simp only [List.getElem?_toArray]; rfl) (by kernel_rfl) (by kernel_rfl) (by kernel_rfl) (by kernel_rfl) (by kernel_rfl) (by rfl) (fun _ _ _ h => h) (Or.inl ⟨by rfl, ?gY3_3⟩) (by assumption) ?gR3_3; case gY3_3 => (intro w hSw; (try dsimp only at hSw); go_simp <;> with_reducible rfl))
                    try simp only [Act.put, List.setIfInBounds_toArray, List.set_cons_zero, List.set_cons_succ]
                    (refine wpE_takeP (i := 3) (v := ?gV3_4) (by simp only [List.getElem?_toArray]; rfl) (by kernel_rfl) (by kernel_rfl) (by kernel_rfl) (by rfl) (fun _ _ _ h => h) (Or.inl ⟨by rfl, ?gY3_4⟩) (by assumption) ?gR3_4; case gY3_4 => (intro w hSw; (try dsimp only at hSw); go_simp <;> with_reducible rfl))
                    try simp only [Act.put, List.setIfInBounds_toArray, List.set_cons_zero, List.set_cons_succ]
                    (refine wpE_takeP (i := 4) (v := ?gV3_5) (by simp only [List.getElem?_toArray]; rfl) (by kernel_rfl) (by kernel_rfl) (by kernel_rfl) (by rfl) (fun _ _ _ h => h) (Or.inl ⟨by rfl, ?gY3_5⟩) (by assumption) ?gR3_5; case gY3_5 => (intro w hSw; (try dsimp only at hSw); go_simp <;> with_reducible rfl))
                    try simp only [Act.put, List.setIfInBounds_toArray, List.set_cons_zero, List.set_cons_succ]
                    (refine wpE_take (i := 5) (v := ?gV3_6) (by simp only [List.getElem?_toArray]; rfl) (by kernel_rfl) (by kernel_rfl) (by kernel_rfl) (by kernel_rfl) (by kernel_rfl) (by rfl) (fun _ _ _ h => h) (Or.inl ⟨by rfl, ?gY3_6⟩) (by assumption) ?gR3_6; case gY3_6 => (intro w hSw; (try dsimp only at hSw); go_simp <;> with_reducible rfl))
                    try simp only [Act.put, List.setIfInBounds_toArray, List.set_cons_zero, List.set_cons_succ]
                    (refine wpE_takeP (i := 6) (v := ?gV3_7) (by simp only [List.getElem?_toArray]; rfl) (by kernel_rfl) (by kernel_rfl) (by kernel_rfl) (by rfl) (fun _ _ _ h => h) (Or.inl ⟨by rfl, ?gY3_7⟩) (by assumption) ?gR3_7; case gY3_7 => (intro w hSw; (try dsimp only at hSw); go_simp <;> with_reducible rfl))
                    try simp only [Act.put, List.setIfInBounds_toArray, List.set_cons_zero, List.set_cons_succ]
                    (refine wpE_takeP (i := 7) (v := ?gV3_8) (by simp only [List.getElem?_toArray]; rfl) (by kernel_rfl) (by kernel_rfl) (by kernel_rfl) (by rfl) (fun _ _ _ h => h) (Or.inl ⟨by rfl, ?gY3_8⟩) (by assumption) ?gR3_8; case gY3_8 => (intro w hSw; (try dsimp only at hSw); go_simp <;> with_reducible rfl))
                    try simp only [Act.put, List.setIfInBounds_toArray, List.set_cons_zero, List.set_cons_succ]
                    refine wpE_ready (rs := [8]) (by kernel_rfl) (by simp) ?_
                    refine AllE.cons (by simp only [List.getElem?_toArray]; rfl) (fun K hK => ?_) AllE.nil
                    go_simp
                    refine hK.out _ _ ?gT3_9 (fun hHeld => ?_)
                    case gT3_9 => ((try dsimp only); (refine ⟨?_, ?_⟩ <;> go_simp))
                    clear hK K
                    try simp only [Act.put, List.setIfInBounds_toArray, List.set_cons_zero, List.set_cons_succ]
                    (refine wpE_takeP (i := 9) (v := ?gV3_10) (by simp only [List.getElem?_toArray]; rfl) (by kernel_rfl) (by kernel_rfl) (by kernel_rfl) (by rfl) (fun _ _ _ h => h) (Or.inl ⟨by rfl, ?gY3_10⟩) (by assumption) ?gR3_10; case gY3_10 => (intro w hSw; (try dsimp only at hSw); go_simp <;> with_reducible rfl))
                    try simp only [Act.put, List.setIfInBounds_toArray, List.set_cons_zero, List.set_cons_succ]
                    (refine wpE_takeP (i := 10) (v := ?gV3_11) (by simp only [List.getElem?_toArray]; rfl) (by kernel_rfl) (by kernel_rfl) (by kernel_rfl) (by rfl) (fun _ _ _ h => h) (Or.inl ⟨by rfl, ?gY3_11⟩) (by assumption) ?gR3_11; case gY3_11 => (intro w hSw; (try dsimp only at hSw); go_simp <;> with_reducible rfl))
                    try simp only [Act.put, List.setIfInBounds_toArray, List.set_cons_zero, List.set_cons_succ]
                    refine wpE_ready (rs := [11]) (by kernel_rfl) (by simp) ?_
                    refine AllE.cons (by simp only [List.getElem?_toArray]; rfl) (fun K hK => ?_) AllE.nil
                    go_simp
                    refine hK.out _ _ ?gT3_12 (fun hHeld => ?_)
                    case gT3_12 => ((try dsimp only); (refine ⟨?_, ?_⟩ <;> go_simp))
                    clear hK K
                    try simp only [Act.put, List.setIfInBounds_toArray, List.set_cons_zero, List.set_cons_succ]
                    refine wpE_done (by kernel_rfl) ?_ _
                    refine NoPanic.normal ?_
                    refine gen_e (fun W9 hW9 => ?_)
                    have HBX := Lib.hid (show Bk W9 b1 [.string gp, .string gd, .int .i64 g1, .int .i64 g2, .int .i64 g3, .int .i64 g4, .int .i64 g5, .int .i64 g6, .int .i64 g7] 40 from hW9.out ▸ ((HBW1.out.put 6 (.int .i64 g5)).put 4 (.int .i64 g3)))
                    have HBY := Lib.hid (show Bk W9 b2 [.string gp, .string gd, .int .i64 g1, .int .i64 g2, .int .i64 g3, .int .i64 g4, .int .i64 g5, .int .i64 g6, .int .i64 g7] 40 from hW9.out ▸ ((HBW2.out.far hb12.symm).far hb12.symm))
                    have hbw9 : Below wd.heap.size wd W9 := by rw [hW9.out]; exact Below.set_up (Below.set_up (hbwx.trans (hWr.mono hbwx.size)) (Nat.le_trans hbr.size hbl1)) (Nat.le_trans hbr.size hbl1)
                    have hbdw9 : bd < W9.heap.size := Nat.lt_of_lt_of_le hld hbw9.size
                    have q9 := keep2 hbw9 m1x
                    clear hW9 HBW1 HBW2 z6 z4 zf6 zf4 hWr cl0 cl1 hHeld hW r0 r1 r2 r3 r4 r5 r6 r7 r8 s0 s1 s2 s3 s4 s5 s6 s7 s8 q2'
                    have r0 : W9.cell? ⟨b1, 0, none⟩ = some (.string gp) := HBX.out.cell 0
                    have r1 : W9.cell? ⟨b1, 1, none⟩ = some (.string gd) := HBX.out.cell 1
                    have r2 : W9.cell? ⟨b1, 2, none⟩ = some (.int .i64 g1) := HBX.out.cell 2
                    have r3 : W9.cell? ⟨b1, 3, none⟩ = some (.int .i64 g2) := HBX.out.cell 3
                    have r4 : W9.cell? ⟨b1, 4, none⟩ = some (.int .i64 g3) := HBX.out.cell 4
                    have r5 : W9.cell? ⟨b1, 5, none⟩ = some (.int .i64 g4) := HBX.out.cell 5
                    have r6 : W9.cell? ⟨b1, 6, none⟩ = some (.int .i64 g5) := HBX.out.cell 6
                    have r7 : W9.cell? ⟨b1, 7, none⟩ = some (.int .i64 g6) := HBX.out.cell 7
                    have r8 : W9.cell? ⟨b1, 8, none⟩ = some (.int .i64 g7) := HBX.out.cell 8
                    have s0 : W9.cell? ⟨b2, 0, none⟩ = some (.string gp) := HBY.out.cell 0
                    have s1 : W9.cell? ⟨b2, 1, none⟩ = some (.string gd) := HBY.out.cell 1
                    have s2 : W9.cell? ⟨b2, 2, none⟩ = some (.int .i64 g1) := HBY.out.cell 2
                    have s3 : W9.cell? ⟨b2, 3, none⟩ = some (.int .i64 g2) := HBY.out.cell 3
                    have s4 : W9.cell? ⟨b2, 4, none⟩ = some (.int .i64 g3) := HBY.out.cell 4
                    have s5 : W9.cell? ⟨b2, 5, none⟩ = some (.int .i64 g4) := HBY.out.cell 5
                    have s6 : W9.cell? ⟨b2, 6, none⟩ = some (.int .i64 g5) := HBY.out.cell 6
                    have s7 : W9.cell? ⟨b2, 7, none⟩ = some (.int .i64 g6) := HBY.out.cell 7
                    have s8 : W9.cell? ⟨b2, 8, none⟩ = some (.int .i64 g7) := HBY.out.cell 8
                    go_wp2_with fail
                    go_roundw
                    case rel => exact ⟨k + 1, by omega, by go_num, hbw9⟩
                    case measure => simp [intOf]; omega
                  · have hcv : cv = g5 := HCV.out.trans (if_neg hd)
                    have hpz : pz = g3 := HPZ.out.trans (if_neg hd)
                    have r4 : wx.cell? ⟨b1, 4, none⟩ = some (.int .i64 g3) := hpz ▸ HX1.out.cell 4
                    have r6 : wx.cell? ⟨b1, 6, none⟩ = some (.int .i64 g5) := hcv ▸ HX1.out.cell 6
                    have hne := ne_bytes hd
                    clear HCV HPZ hcv hpz HVV hd
                    go_wp2_with fail
                    go_roundw
                    case rel => exact ⟨k + 1, by omega, by go_num, hbwx⟩
                    case measure => simp [intOf]; omega
              · have hkl : k = l.length := by omega
                subst hkl
                go_wp2_with fail
                go_ret
                exact ⟨rfl, (by repeat (first | with_reducible exact Below.refl _ _ | with_reducible assumption | with_reducible exact below_d1 _ _ _ _ _ | with_reducible exact below_d2 _ _ _ _ _ _ _ _ | with_reducible exact below_d3 _ _ _ _ _ | with_reducible exact below_d4 _ _ _ _ _ _ _ _ | with_reducible exact below_d5 _ _ | with_reducible refine Below.drew ?_ | with_reducible refine Below.drewN' ?_ _ | with_reducible refine below_grow0 _ _ ?_ | with_reducible refine below_alloc0 _ ?_ | with_reducible refine Below.setCell ?_ ?_ _ | with_reducible refine Below.alloc ?_ ?_ _ | with_reducible refine Below.grow _ _ _ ?_ ?_ | omega | (simp; done) | (simp; omega)))⟩
          · have e2a : (E2 == 0) = false := beq_eq_false_iff_ne.2 hE2
            have e2b : (E2 != 0) = true := bne_iff_ne.2 hE2
            have hor := HU2.out hE2
            clear HU1 HU2 hE2
            by_cases c1 : zz ≤ tz
            · have d1 : decide (zz ≤ tz) = true := decide_eq_true c1
              clear c1 hor
              go_wp2_with fail
              go_ret
              exact ⟨rfl, (by repeat (first | with_reducible exact Below.refl _ _ | with_reducible assumption | with_reducible exact below_d1 _ _ _ _ _ | with_reducible exact below_d2 _ _ _ _ _ _ _ _ | with_reducible exact below_d3 _ _ _ _ _ | with_reducible exact below_d4 _ _ _ _ _ _ _ _ | with_reducible exact below_d5 _ _ | with_reducible refine Below.drew ?_ | with_reducible refine Below.drewN' ?_ _ | with_reducible refine below_grow0 _ _ ?_ | with_reducible refine below_alloc0 _ ?_ | with_reducible refine Below.setCell ?_ ?_ _ | with_reducible refine Below.alloc ?_ ?_ _ | with_reducible refine Below.grow _ _ _ ?_ ?_ | omega | (simp; done) | (simp; omega)))⟩
            · have d1 : decide (zz ≤ tz) = false := decide_eq_false c1
              by_cases c2 : Zx zz
              · have d2 : E2 = 6 := by
                  rcases hor with h | h | h
                  · exact absurd h c1
                  · exact absurd c2 h
                  · exact h
                subst d2
                have HZG := Lib.hid (fun (W : World) => zgood_yes zz W c2)
                clear c1 hor c2
                go_wp2_with (go_at_call 27; refine (HZG.out _).mono ?_; rintro e w1 ⟨rfl, rfl⟩; skip)
                go_ret
                exact ⟨rfl, (by repeat (first | with_reducible exact Below.refl _ _ | with_reducible assumption | with_reducible exact below_d1 _ _ _ _ _ | with_reducible exact below_d2 _ _ _ _ _ _ _ _ | with_reducible exact below_d3 _ _ _ _ _ | with_reducible exact below_d4 _ _ _ _ _ _ _ _ | with_reducible exact below_d5 _ _ | with_reducible refine Below.drew ?_ | with_reducible refine Below.drewN' ?_ _ | with_reducible refine below_grow0 _ _ ?_ | with_reducible refine below_alloc0 _ ?_ | with_reducible refine Below.setCell ?_ ?_ _ | with_reducible refine Below.alloc ?_ ?_ _ | with_reducible refine Below.grow _ _ _ ?_ ?_ | omega | (simp; done) | (simp; omega)))⟩
              · have HZG := Lib.hid (fun (W : World) => zgood_no zz W c2)
                clear c1 hor c2
                go_wp2_with (go_at_call 27; refine (HZG.out _).mono ?_; rintro e w1 ⟨rfl, rfl⟩; skip)
                go_ret
                exact ⟨rfl, (by repeat (first | with_reducible exact Below.refl _ _ | with_reducible assumption | with_reducible exact below_d1 _ _ _ _ _ | with_reducible exact below_d2 _ _ _ _ _ _ _ _ | with_reducible exact below_d3 _ _ _ _ _ | with_reducible exact below_d4 _ _ _ _ _ _ _ _ | with_reducible exact below_d5 _ _ | with_reducible refine Below.drew ?_ | with_reducible refine Below.drewN' ?_ _ | with_reducible refine below_grow0 _ _ ?_ | with_reducible refine below_alloc0 _ ?_ | with_reducible refine Below.setCell ?_ ?_ _ | with_reducible refine Below.alloc ?_ ?_ _ | with_reducible refine Below.grow _ _ _ ?_ ?_ | omega | (simp; done) | (simp; omega)))⟩
    · have q1 : (E == 0) = false := beq_eq_false_iff_ne.2 hE
      have q2 : (E != 0) = true := bne_iff_ne.2 hE
      clear HX HST hE
      go_wp2_with ((go_at_call 22; refine (HGR.out _).mono ?_; rintro e w1 ⟨rfl, hb⟩; obtain ⟨ext0, d0, rfl⟩ := Below.grown_eq _ hb; clear hb))
      go_ret
      exact ⟨rfl, (by repeat (first | with_reducible exact Below.refl _ _ | with_reducible assumption | with_reducible exact below_d1 _ _ _ _ _ | with_reducible exact below_d2 _ _ _ _ _ _ _ _ | with_reducible exact below_d3 _ _ _ _ _ | with_reducible exact below_d4 _ _ _ _ _ _ _ _ | with_reducible exact below_d5 _ _ | with_reducible refine Below.drew ?_ | with_reducible refine Below.drewN' ?_ _ | with_reducible refine below_grow0 _ _ ?_ | with_reducible refine below_alloc0 _ ?_ | with_reducible refine Below.setCell ?_ ?_ _ | with_reducible refine Below.alloc ?_ ?_ _ | with_reducible refine Below.grow _ _ _ ?_ ?_ | omega | (simp; done) | (simp; omega)))⟩

namespace treeMakes
theorem own : ownKnob Tryd.prog.godebug = none := by kernel_rfl
theorem laidOut : laidOutB Tryd.prog = true := by kernel_rfl
set_option maxRecDepth 100000 in
set_option maxHeartbeats 1000000 in
theorem lifted (os : Os) (started : os.Started) (H : Type) (enc : TypeId × Value → H) :
    ReturnsInHanded {} Tryd.checked os 7 .any (fun w args => (Rows.treeMakesSpec.pre enc Tryd.prog Tryd.f7 Rows.treeMakesRow.domain false w args ∧ laidMetH Tryd.prog Rows.treeMakesRow.laid w) ∧ sizedMet enc Tryd.prog Tryd.f7 (OpenSpec.ofChange Rows.treeMakesSpec) false w args) (Rows.treeMakesSpec.post enc Tryd.prog Tryd.f7 false true false false) := by
  refine returnsInHanded_of_change_and (C := Tryd.checked) (X := fun w _ => laidMetH Tryd.prog Rows.treeMakesRow.laid w) (fun _ _ _ hh h => h.of_heap hh) own started (by kernel_rfl) Tryd.func7
    (ChangeSpec.witness_shaped (enc := enc) (C := Tryd.checked) (os := os) (X := fun w _ => laidMetH Tryd.prog Rows.treeMakesRow.laid w) false (World.laidAll Tryd.prog os Rows.treeMakesRow.laid) #[.agg #[.int .i64 0,.slice none 0 0,.slice none 0 0], .agg #[.int .i64 0, .int .i64 0, .int .i64 0, .string ByteArray.empty, .string ByteArray.empty, .int .i64 0, .int .i64 0], .int .i64 0] 8 (World.laidAll_os _ _ _)
      (World.shaped_of_ZipB (by kernel_rfl) (by kernel_rfl)) (by kernel_rfl) (by kernel_rfl) (by kernel_rfl)
      (by rw [MakeChecks.laidMetH_plain _ _ _ (by kernel_rfl)]; exact laidMet_laidAll _ (by kernel_rfl) (by kernel_rfl))) ?_
  intro W base args ds gs before hval0 hW0 _ hsz0 hL _
  have hval : ∀ (j : Nat) t v, Tryd.f7.params[j]? = some t → args[j]? = some v → Value.okWide Tryd.prog W .any base t v := hval0
  have hW : DataW.Whole enc Tryd.prog Tryd.f7.params.toList Rows.treeMakesSpec.vars false W args.toList ds gs before := hW0
  have hlt : ∀ p ∈ before, p.block < W.heap.size := fun p hp => hW.lt p hp
  have hW1 := hW
  obtain ⟨p, q, hA0, hV, rfl, hfz, hnd⟩ := hW1
  have hA : DataW.TrodAll enc Tryd.prog W 0 (fun _ => true) true Tryd.f7.params.toList args.toList ds p := hA0
  obtain ⟨rfl, rfl⟩ := trodVars_none hV
  rw [Tryd.params7] at hA hval
  obtain ⟨v0, vs0, d0, ds0, p0, q0, hargs, rfl, rfl, h0, r0⟩ := trodAll_cons hA
  obtain ⟨v1, vs1, d1, ds1, p1, q1, rfl, rfl, rfl, h1, r1⟩ := trodAll_cons r0
  obtain ⟨v2, vs2, d2, ds2, p2, q2, rfl, rfl, rfl, h2, r2⟩ := trodAll_cons r1
  obtain ⟨rfl, rfl, rfl⟩ := trodAll_nil r2
  obtain rfl : args = #[v0, v1, v2] := by cases args; simp_all
  have hsz : (DataW.weightsEach Tryd.prog [25, 49, 3] [d0, d1, d2]).all (· ≤ reachBytes) = true := hsz0
  have close : ∀ e W', (e = Ending.returned (.bool true) ∧ Below W.heap.size W W') → ∃ v, e = .returned v ∧ Rows.treeMakesSpec.post enc Tryd.prog Tryd.f7 false true false false W #[v0, v1, v2] v W' :=
    fun e W' ⟨he, hb⟩ => ⟨_, he, law_post laidOut (of_decide_eq_true (by kernel_rfl)) rfl rfl Tryd.underlying4 hW rfl hb⟩
  clear hA0 hsz0 hval0 hW0 hA hV hW hfz hnd
  obtain ⟨cs1, rfl, hf1⟩ := open_flat (ks := [.i .i64, .i .i64, .i .i64, .s, .s, .i .i64, .i .i64]) 9 Tryd.underlying49 (by kernel_rfl) (hval 1 49 v1 rfl rfl) h1
  obtain ⟨a2, rfl, hd2, _, wf2⟩ := open_int Tryd.underlying3 (hval 2 3 v2 rfl rfl) h2
  obtain ⟨cs, rfl, _⟩ := okWide_struct Tryd.underlying25 (hval 0 _ v0 rfl rfl)
  obtain ⟨z, v, v2, l, ss, hp, hN, hS, hz, hn, hn2⟩ := open_tree (n := 0) (open_deep 10 h0 (sized_arg hsz 0 rfl rfl))
  obtain rfl : cs = #[.int .i64 z, v, v2] := by simpa [Value.cells] using congrArg List.toArray hp
  obtain ⟨x, rfl, hxo⟩ := fitsTxn hf1
  exact (treeMakes_ok z v v2 l ss x a2 W hN hS hn hn2 hz (Nat.le_trans hxo.2.2.2.1 (by decide))).mono close
theorem proved : Rows.TreeMakesSaid :=
  OpenClaim.holds_of_wide 7 Tryd.f7 rfl rfl rfl rfl rfl rfl rfl ⟨rfl, rfl, rfl, rfl, rfl⟩ rfl rfl rfl rfl rfl (by kernel_rfl) Tryd.func7 (by kernel_rfl)
    (of_decide_eq_true (by kernel_rfl)) (by unfold Func.isWrapper; first | (rw [if_pos (by decide +kernel)]; kernel_rfl) | (rw [if_neg (by decide +kernel)]; exact ⟨rfl, rfl⟩))
    (fun os started H enc _ => lifted os started H enc)
theorem card : Rows.TreeMakesCardSaid :=
  Claim7.holds_tied_plain_at .later [] Rows.treeMakesCard.laidKinds true Rows.treeMakesCard.stood.harness false
    proved (fun _ h => by cases h) (by kernel_rfl) (fun _ h => by cases h) treeMakes_row_tie rfl ⟨rfl, rfl⟩ (by kernel_rfl) rfl
    (fun f fn hf hfn => by
      obtain rfl : f = 7 := Option.some.inj ((show Tryd.prog.funcNamed "aviary/aviarykeep.TreeMakes" = some 7 by kernel_rfl).symm.trans hf) |>.symm
      obtain rfl : fn = Tryd.f7 := (Option.some.inj (Tryd.func7.symm.trans hfn)).symm
      exact ⟨by kernel_rfl, fun j t ht => by
        rw [Tryd.params7] at ht
        have hm : t ∈ [25, 49, 3] := by simpa using Array.mem_of_getElem? ht
        have hall : ([25, 49, 3].all fun u => !Tryd.prog.wantsStandIn u) = true := by kernel_rfl
        exact (show Tryd.prog.wantsStandIn t = false by simpa using List.all_eq_true.1 hall t hm)⟩)
    (by kernel_rfl)
end treeMakes
end Go.Proofs.YteolglmifimnaaaDoor
