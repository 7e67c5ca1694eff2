/- The law PrepSerials is true for every input; no conditions. -/
import Derived.Test.YteolglmifimnaaaDoorCards
import Derived.Test.YteolglmifimnaaaDoorTie
import Derived.Lay
import Derived.LaidMore
import Derived.SevenTiedAt
import Derived.Test.YteolglmifimnaaaDoorPt1
import Derived.Test.YteolglmifimnaaaDoorPt2
import Derived.Test.YteolglmifimnaaaDoorPt3
import Derived.Test.YteolglmifimnaaaDoorPt4
import Derived.Test.YteolglmifimnaaaDoorPt5
import Derived.Test.YteolglmifimnaaaDoorPt6
import Derived.Test.YteolglmifimnaaaDoorPt7
import Derived.Test.YteolglmifimnaaaDoorPt8
import Derived.Test.YteolglmifimnaaaDoorPt9
import Derived.Test.YteolglmifimnaaaDoorPt10
import Derived.Test.YteolglmifimnaaaDoorPt11
import Derived.Test.YteolglmifimnaaaDoorPt12
namespace Go.Proofs.YteolglmifimnaaaDoor
open Go.RowKit Go.ChangeShapes Go.WideShapes Go.ChangeAt
theorem made_size {X : Txn} (h : goodT X = 0) : X.path.size ≤ 9223372036854775807 := by
  obtain ⟨x1, x2, x3, x4, x5, x6, x7, x8, x9, x10, x11, x12⟩ := goodT_inv h
  by_cases h2 : X.op ≤ 2
  · rw [(x7 h2).1]
    exact Nat.zero_le _
  · exact Nat.le_trans (goodP_size (x8 (by omega))).2 (by decide)
theorem bytesLess_self : ∀ l : List UInt8, Op.bytesLess l l = false
  | [] => rfl
  | a :: l => by
    have : ¬ a < a := UInt8.lt_irrefl a
    simp [Op.bytesLess, this, bytesLess_self l]
theorem bytesLess_asymm : ∀ a b : List UInt8, Op.bytesLess a b = true → Op.bytesLess b a = false
  | [], [], _ => rfl
  | [], _ :: _, _ => rfl
  | _ :: _, [], h => by simp [Op.bytesLess] at h
  | x :: a, y :: b, h => by
    simp only [Op.bytesLess, Bool.or_eq_true, Bool.and_eq_true, decide_eq_true_eq, beq_iff_eq, Bool.or_eq_false_iff, Bool.and_eq_false_iff, decide_eq_false_iff_not, beq_eq_false_iff_ne] at h ⊢
    rcases h with h | ⟨rfl, h⟩
    · refine ⟨fun e => ?_, .inl (fun e => ?_)⟩
      · rw [UInt8.lt_iff_toNat_lt] at h e
        omega
      · rw [e] at h
        exact UInt8.lt_irrefl _ h
    · exact ⟨UInt8.lt_irrefl _, .inr (bytesLess_asymm a b h)⟩
theorem sess_bound {z : Int} {l : List Node} {ss : List Int} {x : Txn} {T : Tr} (hT : T = applyT ⟨z, l, ss⟩ x) (h : applyE ⟨z, l, ss⟩ x = 0) : T.sess.length ≤ ss.length + 1 := by
  have hw := (applyE_0 h).1
  obtain ⟨hg, hx, hz, w1, w2, w3, w4, w5⟩ := wrong_inv hw
  have hs := (good_parts hg).1.sess
  rw [hT, (applyT_0 h).1]
  show (doS ⟨z, l, ss⟩ x).length ≤ _
  unfold doS
  by_cases h1 : x.op = 1
  · rw [if_pos h1, (insS_spec hs ((isI_no hs).1 (w1 h1))).2.2]
    exact Nat.le_refl _
  · rw [if_neg h1]
    by_cases h2 : x.op = 2
    · rw [if_pos h2]
      have := (delS_spec hs ((isI_iff hs).1 (w2 h1))).2.2
      show (delS ss x.session).length ≤ ss.length + 1
      have h9 : (delS ss x.session).length + 1 = ss.length := this
      omega
    · rw [if_neg h2]
      exact Nat.le_succ _
theorem apply_bounds {t : Tr} {x : Txn} (h : applyE t x = 0) : (applyT t x).nodes.length ≤ 400 ∧ (∀ n ∈ (applyT t x).nodes, n.path.size ≤ 200) := by
  have hG := apply_goodW (applyE_0 h).1
  rw [(applyT_0 h).1]
  exact ⟨hG.len, fun n hn => (goodP_size (hG.path n hn).1).2⟩
set_option maxRecDepth 100000 in
set_option maxHeartbeats 4000000 in
theorem prepSerials_ok (z : Int) (v v2 : Value) (l : List Node) (ss : List Int) (zz : Int) (r : Request) (w : World) (h : Sl cNode 9 w v l) (h2 : Sl cInt 1 w v2 ss) (hn : l.length * 88 ≤ 140737488355328) (hn2 : ss.length * 8 ≤ 140737488351232) (hz : ∀ n ∈ l, n.path.size ≤ 9223372036854775807) (hp : r.path.size ≤ 4611686018427387904) :
    Calls Tryd.prog 11 #[.agg #[.int .i64 z, v, v2], .int .i64 zz, reqV r] w fun e w' => e = .returned (.bool true) ∧ Below w.heap.size w w' := by
  obtain ⟨A, c, rfl, h1, h1b⟩ := h.form
  obtain ⟨A2, c2, rfl, h3, h3b⟩ := h2.form
  have HV := Lib.hid h
  have HS := Lib.hid h2
  clear h h2
  obtain ⟨ro, rs, rp, rd, rv, rf⟩ := r
  simp only at hp
  have HPK := Lib.hid (fun (W : World) => pick_eq rf 2 W (by omega) (by omega))
  have hpr := pickV_range rf (n := 2) (by omega)
  generalize pickV rf 2 = pf at *
  obtain ⟨fl, hfl, hfb⟩ : ∃ fl : Int, (fl = 2 ∨ fl = 3) ∧ bits .or .i64 2 pf = fl := by
    rcases (by omega : pf = 0 ∨ pf = 1) with rfl | rfl
    · exact ⟨2, .inl rfl, by decide⟩
    · exact ⟨3, .inr rfl, by decide⟩
  obtain ⟨X, hX⟩ : ∃ X, X = prepX ⟨z, l, ss⟩ zz ⟨3, rs, rp, rd, rv, fl⟩ := ⟨_, rfl⟩
  obtain ⟨E, hE⟩ : ∃ E, E = prepE ⟨z, l, ss⟩ zz ⟨3, rs, rp, rd, rv, fl⟩ := ⟨_, rfl⟩
  have HPR := Lib.hid (fun (W : World) (v v2 : Value) (h : Sl cNode 9 W v l) (h2 : Sl cInt 1 W v2 ss) => trPrepare z v v2 l ss zz ⟨3, rs, rp, rd, rv, fl⟩ W h h2 hn (by omega) hz hp)
  have HOW := Lib.hid (fun (W : World) (h : Sl cNode 9 W (.slice A l.length c) l) (h2 : Sl cInt 1 W (.slice A2 ss.length c2) ss) => lawOwn z (.slice A l.length c) (.slice A2 ss.length c2) l ss W h h2 hn (by omega))
  have HMK := Lib.hid (fun (W : World) => makes_is W)
  have HLW := Lib.hid (fun (h0 : E = 0) => (⟨serial_law (t := ⟨z, l, ss⟩) (z := zz) (r := ⟨3, rs, rp, rd, rv, fl⟩) rfl hfl (hE.symm.trans h0), (prep_fits (hE.symm.trans h0)).2.2.1, (prep_fits (hE.symm.trans h0)).2.2.2.2.2.1⟩ : _ ∧ _ ∧ _))
  unfold PrepIs at HPR
  rw [← hX, ← hE] at HPR
  rw [← hX] at HLW
  simp only at HLW
  clear hX hE hpr
  go_enter Tryd.func11, Tryd.ntmps11
  go_upto_region 2 with (go_at_call 32; refine (HPK.out _).mono ?_; rintro e w1 ⟨rfl, rfl⟩; skip)
  refine gen_w (fun W1 hW1 => ?_)
  have hbW1 : Below w.heap.size w W1 := by rw [hW1.out]; exact (by repeat (first | with_reducible exact Below.refl _ _ | with_reducible assumption | with_reducible exact below_d1 _ _ _ _ _ | with_reducible exact below_d2 _ _ _ _ _ _ _ _ | with_reducible exact below_d3 _ _ _ _ _ | with_reducible exact below_d4 _ _ _ _ _ _ _ _ | with_reducible exact below_d5 _ _ | with_reducible refine Below.drew ?_ | with_reducible refine Below.drewN' ?_ _ | with_reducible refine below_grow0 _ _ ?_ | with_reducible refine below_alloc0 _ ?_ | with_reducible refine Below.setCell ?_ ?_ _ | with_reducible refine Below.alloc ?_ ?_ _ | with_reducible refine Below.grow _ _ _ ?_ ?_ | omega | (simp; done) | (simp; omega)))
  have hs1 : w.heap.size + 1 < W1.heap.size := by rw [hW1.out]; simp
  have j0 : W1.cell? ⟨w.heap.size, 0, none⟩ = some (.int .i64 z) := by rw [hW1.out]; go_simp
  have j1 : W1.cell? ⟨w.heap.size, 1, none⟩ = some (.slice A l.length c) := by rw [hW1.out]; go_simp
  have j2 : W1.cell? ⟨w.heap.size, 2, none⟩ = some (.slice A2 ss.length c2) := by rw [hW1.out]; go_simp
  have y0 : W1.cell? ⟨w.heap.size + 1, 0, none⟩ = some (.int .i64 3) := by rw [hW1.out]; go_simp
  have y1 : W1.cell? ⟨w.heap.size + 1, 1, none⟩ = some (.int .i64 rs) := by rw [hW1.out]; go_simp
  have y2 : W1.cell? ⟨w.heap.size + 1, 2, none⟩ = some (.string rp) := by rw [hW1.out]; go_simp
  have y3 : W1.cell? ⟨w.heap.size + 1, 3, none⟩ = some (.string rd) := by rw [hW1.out]; go_simp
  have y4 : W1.cell? ⟨w.heap.size + 1, 4, none⟩ = some (.int .i64 rv) := by rw [hW1.out]; go_simp
  have y5 : W1.cell? ⟨w.heap.size + 1, 5, none⟩ = some (.int .i64 fl) := by rw [hW1.out]; go_simp
  clear hW1 HPK
  go_cut [7, 8] (fun s7 s8 wx => CutP W1 X E s7 s8 wx)
  case first =>
    refine wp_region_noPanic ?_
    refine wp_region_W (by kernel_rfl) (fun W hW => ?_)
    have cl0 : W.cell? ⟨w.heap.size, 0, none⟩ = some (.int .i64 z) := by rw [hW.out]; go_simp
    have cl1 : W.cell? ⟨w.heap.size, 1, none⟩ = some (.slice A l.length c) := by rw [hW.out]; go_simp
    have cl2 : W.cell? ⟨w.heap.size, 2, none⟩ = some (.slice A2 ss.length c2) := by rw [hW.out]; go_simp
    have cl3 : W.cell? ⟨w.heap.size + 1, 0, none⟩ = some (.int .i64 3) := by rw [hW.out]; go_simp
    have cl4 : W.cell? ⟨w.heap.size + 1, 1, none⟩ = some (.int .i64 rs) := by rw [hW.out]; go_simp
    have cl5 : W.cell? ⟨w.heap.size + 1, 2, none⟩ = some (.string rp) := by rw [hW.out]; go_simp
    have cl6 : W.cell? ⟨w.heap.size + 1, 3, none⟩ = some (.string rd) := by rw [hW.out]; go_simp
    have cl7 : W.cell? ⟨w.heap.size + 1, 4, none⟩ = some (.int .i64 rv) := by rw [hW.out]; go_simp
    have cl8 : W.cell? ⟨w.heap.size + 1, 5, none⟩ = some (.int .i64 fl) := by rw [hW.out]; go_simp
    have HVW := Lib.hid (HV.out.below (w' := W) (by rw [hW.out]; exact hbW1.drew))
    have HSW := Lib.hid (HS.out.below (w' := W) (by rw [hW.out]; exact hbW1.drew))
    have hWs : w.heap.size + 1 < W.heap.size := by rw [hW.out]; simp <;> omega
    have hW1W : Below W1.heap.size W1 W := by rw [hW.out]; exact (by repeat (first | with_reducible exact Below.refl _ _ | with_reducible assumption | with_reducible exact below_d1 _ _ _ _ _ | with_reducible exact below_d2 _ _ _ _ _ _ _ _ | with_reducible exact below_d3 _ _ _ _ _ | with_reducible exact below_d4 _ _ _ _ _ _ _ _ | with_reducible exact below_d5 _ _ | with_reducible refine Below.drew ?_ | with_reducible refine Below.drewN' ?_ _ | with_reducible refine below_grow0 _ _ ?_ | with_reducible refine below_alloc0 _ ?_ | with_reducible refine Below.setCell ?_ ?_ _ | with_reducible refine Below.alloc ?_ ?_ _ | with_reducible refine Below.grow _ _ _ ?_ ?_ | omega | (simp; done) | (simp; omega)))
    have hWs1 : W.heap.size = W1.heap.size := by rw [hW.out]; simp
    refine wpAny_S (fun w' => w'.cell? ⟨w.heap.size, 0, none⟩ = some (.int .i64 z) ∧ w'.cell? ⟨w.heap.size, 1, none⟩ = some (.slice A l.length c) ∧ w'.cell? ⟨w.heap.size, 2, none⟩ = some (.slice A2 ss.length c2) ∧ w'.cell? ⟨w.heap.size + 1, 0, none⟩ = some (.int .i64 3) ∧ w'.cell? ⟨w.heap.size + 1, 1, none⟩ = some (.int .i64 rs) ∧ w'.cell? ⟨w.heap.size + 1, 2, none⟩ = some (.string rp) ∧ w'.cell? ⟨w.heap.size + 1, 3, none⟩ = some (.string rd) ∧ w'.cell? ⟨w.heap.size + 1, 4, none⟩ = some (.int .i64 rv) ∧ w'.cell? ⟨w.heap.size + 1, 5, none⟩ = some (.int .i64 fl)) (fun i => false) (by (try dsimp only); (refine ⟨?_, ?_, ?_, ?_, ?_, ?_, ?_, ?_, ?_⟩ <;> go_simp)) (fun hHeld => ?_)
    (refine wpE_take (i := 0) (v := ?gV1_1) (by simp only [List.getElem?_toArray]; rfl) (by kernel_rfl) (by kernel_rfl) (by kernel_rfl) (by kernel_rfl) (by kernel_rfl) (by rfl) (fun _ _ _ h => h) (Or.inl ⟨by rfl, ?gY1_1⟩) (by assumption) ?gR1_1; case gY1_1 => (intro w hSw; (try dsimp only at hSw); go_simp <;> with_reducible rfl))
    try simp only [Act.put, List.setIfInBounds_toArray, List.set_cons_zero, List.set_cons_succ]
    (refine wpE_takeP (i := 2) (v := ?gV1_2) (by simp only [List.getElem?_toArray]; rfl) (by kernel_rfl) (by kernel_rfl) (by kernel_rfl) (by rfl) (fun _ _ _ h => h) (Or.inl ⟨by rfl, ?gY1_2⟩) (by assumption) ?gR1_2; case gY1_2 => (intro w hSw; (try dsimp only at hSw); go_simp <;> with_reducible rfl))
    try simp only [Act.put, List.setIfInBounds_toArray, List.set_cons_zero, List.set_cons_succ]
    (refine wpE_take (i := 3) (v := ?gV1_3) (by simp only [List.getElem?_toArray]; rfl) (by kernel_rfl) (by kernel_rfl) (by kernel_rfl) (by kernel_rfl) (by kernel_rfl) (by rfl) (fun _ _ _ h => h) (Or.inl ⟨by rfl, ?gY1_3⟩) (by assumption) ?gR1_3; case gY1_3 => (intro w hSw; (try dsimp only at hSw); go_simp <;> with_reducible rfl))
    try simp only [Act.put, List.setIfInBounds_toArray, List.set_cons_zero, List.set_cons_succ]
    refine wpE_ready (rs := [1, 8]) (by kernel_rfl) (by simp) ?_
    refine AllE.cons (by simp only [List.getElem?_toArray]; rfl) (fun K hK => ?gO1_4) ?gL1_4
    case gO1_4 =>
      go_simp
      (go_at_call 16; (with_reducible refine (HOW.out _ (HVW.out.below (by repeat (first | with_reducible exact Below.refl _ _ | with_reducible assumption | with_reducible exact below_d1 _ _ _ _ _ | with_reducible exact below_d2 _ _ _ _ _ _ _ _ | with_reducible exact below_d3 _ _ _ _ _ | with_reducible exact below_d4 _ _ _ _ _ _ _ _ | with_reducible exact below_d5 _ _ | with_reducible refine Below.drew ?_ | with_reducible refine Below.drewN' ?_ _ | with_reducible refine below_grow0 _ _ ?_ | with_reducible refine below_alloc0 _ ?_ | with_reducible refine Below.setCell ?_ ?_ _ | with_reducible refine Below.alloc ?_ ?_ _ | with_reducible refine Below.grow _ _ _ ?_ ?_ | omega | (simp; done) | (simp; omega)))) (HSW.out.below (by repeat (first | with_reducible exact Below.refl _ _ | with_reducible assumption | with_reducible exact below_d1 _ _ _ _ _ | with_reducible exact below_d2 _ _ _ _ _ _ _ _ | with_reducible exact below_d3 _ _ _ _ _ | with_reducible exact below_d4 _ _ _ _ _ _ _ _ | with_reducible exact below_d5 _ _ | with_reducible refine Below.drew ?_ | with_reducible refine Below.drewN' ?_ _ | with_reducible refine below_grow0 _ _ ?_ | with_reducible refine below_alloc0 _ ?_ | with_reducible refine Below.setCell ?_ ?_ _ | with_reducible refine Below.alloc ?_ ?_ _ | with_reducible refine Below.grow _ _ _ ?_ ?_ | omega | (simp; done) | (simp; omega))))).mono ?_); rintro e w1 ⟨A5, c5, A6, c6, rfl, ho1, ho2, hb1⟩; obtain ⟨ext1, d1, rfl⟩ := Below.grown_eq _ hb1; have HO1 := Lib.hid ho1.sl; have HO2 := Lib.hid ho2.sl; clear ho1 ho2 hb1)
      refine hK.out _ _ ?gT1_4 (fun hHeld => ?_)
      case gT1_4 => ((try dsimp only); (refine ⟨?_, ?_, ?_, ?_, ?_, ?_, ?_, ?_, ?_⟩ <;> go_simp))
      clear hK K
      skip
      refine wpE_ready (rs := [4, 8]) (by kernel_rfl) (by simp) ?_
      refine AllE.cons (by simp only [List.getElem?_toArray]; rfl) (fun K hK => ?gO1_5) ?gL1_5
      case gO1_5 =>
        go_simp
        (go_at_call 29; (with_reducible refine (HPR.out _ _ _ (HO1.out.below (by repeat (first | with_reducible exact Below.refl _ _ | with_reducible assumption | with_reducible exact below_d1 _ _ _ _ _ | with_reducible exact below_d2 _ _ _ _ _ _ _ _ | with_reducible exact below_d3 _ _ _ _ _ | with_reducible exact below_d4 _ _ _ _ _ _ _ _ | with_reducible exact below_d5 _ _ | with_reducible refine Below.drew ?_ | with_reducible refine Below.drewN' ?_ _ | with_reducible refine below_grow0 _ _ ?_ | with_reducible refine below_alloc0 _ ?_ | with_reducible refine Below.setCell ?_ ?_ _ | with_reducible refine Below.alloc ?_ ?_ _ | with_reducible refine Below.grow _ _ _ ?_ ?_ | omega | (simp; done) | (simp; omega)))) (HO2.out.below (by repeat (first | with_reducible exact Below.refl _ _ | with_reducible assumption | with_reducible exact below_d1 _ _ _ _ _ | with_reducible exact below_d2 _ _ _ _ _ _ _ _ | with_reducible exact below_d3 _ _ _ _ _ | with_reducible exact below_d4 _ _ _ _ _ _ _ _ | with_reducible exact below_d5 _ _ | with_reducible refine Below.drew ?_ | with_reducible refine Below.drewN' ?_ _ | with_reducible refine below_grow0 _ _ ?_ | with_reducible refine below_alloc0 _ ?_ | with_reducible refine Below.setCell ?_ ?_ _ | with_reducible refine Below.alloc ?_ ?_ _ | with_reducible refine Below.grow _ _ _ ?_ ?_ | omega | (simp; done) | (simp; omega))))).mono ?_); rintro e w3 ⟨rfl, hb3⟩; obtain ⟨ext3, d3, rfl⟩ := Below.grown_eq _ hb3; clear hb3)
        refine hK.out _ _ ?gT1_5 (fun hHeld => ?_)
        case gT1_5 => ((try dsimp only); (refine ⟨?_, ?_, ?_, ?_, ?_, ?_, ?_, ?_, ?_⟩ <;> go_simp))
        clear hK K
        try simp only [Act.put, List.setIfInBounds_toArray, List.set_cons_zero, List.set_cons_succ]
        (refine wpE_takeP (i := 5) (v := ?gV1_6) (by simp only [List.getElem?_toArray]; rfl) (by kernel_rfl) (by kernel_rfl) (by kernel_rfl) (by rfl) (fun _ _ _ h => h) (Or.inl ⟨by rfl, ?gY1_6⟩) (by assumption) ?gR1_6; case gY1_6 => (intro w hSw; (try dsimp only at hSw); go_simp <;> with_reducible rfl))
        try simp only [Act.put, List.setIfInBounds_toArray, List.set_cons_zero, List.set_cons_succ]
        (refine wpE_takeP (i := 6) (v := ?gV1_7) (by simp only [List.getElem?_toArray]; rfl) (by kernel_rfl) (by kernel_rfl) (by kernel_rfl) (by rfl) (fun _ _ _ h => h) (Or.inl ⟨by rfl, ?gY1_7⟩) (by assumption) ?gR1_7; case gY1_7 => (intro w hSw; (try dsimp only at hSw); go_simp <;> with_reducible rfl))
        try simp only [Act.put, List.setIfInBounds_toArray, List.set_cons_zero, List.set_cons_succ]
        (refine wpE_takeP (i := 7) (v := ?gV1_8) (by simp only [List.getElem?_toArray]; rfl) (by kernel_rfl) (by kernel_rfl) (by kernel_rfl) (by rfl) (fun _ _ _ h => h) (Or.inl ⟨by rfl, ?gY1_8⟩) (by assumption) ?gR1_8; case gY1_8 => (intro w hSw; (try dsimp only at hSw); go_simp <;> with_reducible rfl))
        try simp only [Act.put, List.setIfInBounds_toArray, List.set_cons_zero, List.set_cons_succ]
        refine wpE_ready (rs := [8]) (by kernel_rfl) (by simp) ?_
        refine AllE.cons (by simp only [List.getElem?_toArray]; rfl) (fun K hK => ?_) AllE.nil
        go_simp
        refine hK.out _ _ ?gT1_9 (fun hHeld => ?_)
        case gT1_9 => ((try dsimp only); (refine ⟨?_, ?_, ?_, ?_, ?_, ?_, ?_, ?_, ?_⟩ <;> go_simp))
        clear hK K
        try simp only [Act.put, List.setIfInBounds_toArray, List.set_cons_zero, List.set_cons_succ]
        refine wpE_ready (rs := [9]) (by kernel_rfl) (by simp) ?_
        refine AllE.cons (by simp only [List.getElem?_toArray]; rfl) (fun K hK => ?_) AllE.nil
        go_simp
        refine hK.out _ _ ?gT1_10 (fun hHeld => ?_)
        case gT1_10 => ((try dsimp only); (refine ⟨?_, ?_, ?_, ?_, ?_, ?_, ?_, ?_, ?_⟩ <;> go_simp))
        clear hK K
        try simp only [Act.put, List.setIfInBounds_toArray, List.set_cons_zero, List.set_cons_succ]
        (refine wpE_takeP (i := 10) (v := ?gV1_11) (by simp only [List.getElem?_toArray]; rfl) (by kernel_rfl) (by kernel_rfl) (by kernel_rfl) (by rfl) (fun _ _ _ h => h) (Or.inl ⟨by rfl, ?gY1_11⟩) (by assumption) ?gR1_11; case gY1_11 => (intro w hSw; (try dsimp only at hSw); go_simp <;> with_reducible rfl))
        try simp only [Act.put, List.setIfInBounds_toArray, List.set_cons_zero, List.set_cons_succ]
        refine wpE_done (by kernel_rfl) ?_ _
        refine NoPanic.normal ?_
        go_wp2_with fail
        go_meet
        refine ⟨_, rfl, rfl, ?_, ?_, Lib.hid ?n1_11⟩
        · exact Below.own hW1W (by repeat (first | with_reducible exact Below.refl _ _ | with_reducible assumption | with_reducible exact below_d1 _ _ _ _ _ | with_reducible exact below_d2 _ _ _ _ _ _ _ _ | with_reducible exact below_d3 _ _ _ _ _ | with_reducible exact below_d4 _ _ _ _ _ _ _ _ | with_reducible exact below_d5 _ _ | with_reducible refine Below.drew ?_ | with_reducible refine Below.drewN' ?_ _ | with_reducible refine below_grow0 _ _ ?_ | with_reducible refine below_alloc0 _ ?_ | with_reducible refine Below.setCell ?_ ?_ _ | with_reducible refine Below.alloc ?_ ?_ _ | with_reducible refine Below.grow _ _ _ ?_ ?_ | omega | (simp; done) | (simp; omega)))
        · first | omega | (simp <;> omega)
        case n1_11 => first | exact Bk.new _ _ _ (by simp [hWs1]) | exact (Bk.new W _ _ hWs1.symm).below (by repeat (first | with_reducible exact Below.refl _ _ | with_reducible assumption | with_reducible exact below_d1 _ _ _ _ _ | with_reducible exact below_d2 _ _ _ _ _ _ _ _ | with_reducible exact below_d3 _ _ _ _ _ | with_reducible exact below_d4 _ _ _ _ _ _ _ _ | with_reducible exact below_d5 _ _ | with_reducible refine Below.drew ?_ | with_reducible refine Below.drewN' ?_ _ | with_reducible refine below_grow0 _ _ ?_ | with_reducible refine below_alloc0 _ ?_ | with_reducible refine Below.setCell ?_ ?_ _ | with_reducible refine Below.alloc ?_ ?_ _ | with_reducible refine Below.grow _ _ _ ?_ ?_ | omega | (simp; done) | (simp; omega))) | exact (Bk.new (grow W ext1 d1) _ _ (by simp [hWs1])).below (by repeat (first | with_reducible exact Below.refl _ _ | with_reducible assumption | with_reducible exact below_d1 _ _ _ _ _ | with_reducible exact below_d2 _ _ _ _ _ _ _ _ | with_reducible exact below_d3 _ _ _ _ _ | with_reducible exact below_d4 _ _ _ _ _ _ _ _ | with_reducible exact below_d5 _ _ | with_reducible refine Below.drew ?_ | with_reducible refine Below.drewN' ?_ _ | with_reducible refine below_grow0 _ _ ?_ | with_reducible refine below_alloc0 _ ?_ | with_reducible refine Below.setCell ?_ ?_ _ | with_reducible refine Below.alloc ?_ ?_ _ | with_reducible refine Below.grow _ _ _ ?_ ?_ | omega | (simp; done) | (simp; omega)))
      refine AllE.cons (by simp only [List.getElem?_toArray]; rfl) (fun K hK => ?gO1_12) ?gL1_12
      case gO1_12 =>
        go_simp
        refine hK.out _ _ ?gT1_12 (fun hHeld => ?_)
        case gT1_12 => ((try dsimp only); (refine ⟨?_, ?_, ?_, ?_, ?_, ?_, ?_, ?_, ?_⟩ <;> go_simp))
        clear hK K
        try simp only [Act.put, List.setIfInBounds_toArray, List.set_cons_zero, List.set_cons_succ]
        refine wpE_ready (rs := [4]) (by kernel_rfl) (by simp) ?_
        refine AllE.cons (by simp only [List.getElem?_toArray]; rfl) (fun K hK => ?_) AllE.nil
        go_simp
        (go_at_call 29; (with_reducible refine (HPR.out _ _ _ (HO1.out.below (by repeat (first | with_reducible exact Below.refl _ _ | with_reducible assumption | with_reducible exact below_d1 _ _ _ _ _ | with_reducible exact below_d2 _ _ _ _ _ _ _ _ | with_reducible exact below_d3 _ _ _ _ _ | with_reducible exact below_d4 _ _ _ _ _ _ _ _ | with_reducible exact below_d5 _ _ | with_reducible refine Below.drew ?_ | with_reducible refine Below.drewN' ?_ _ | with_reducible refine below_grow0 _ _ ?_ | with_reducible refine below_alloc0 _ ?_ | with_reducible refine Below.setCell ?_ ?_ _ | with_reducible refine Below.alloc ?_ ?_ _ | with_reducible refine Below.grow _ _ _ ?_ ?_ | omega | (simp; done) | (simp; omega)))) (HO2.out.below (by repeat (first | with_reducible exact Below.refl _ _ | with_reducible assumption | with_reducible exact below_d1 _ _ _ _ _ | with_reducible exact below_d2 _ _ _ _ _ _ _ _ | with_reducible exact below_d3 _ _ _ _ _ | with_reducible exact below_d4 _ _ _ _ _ _ _ _ | with_reducible exact below_d5 _ _ | with_reducible refine Below.drew ?_ | with_reducible refine Below.drewN' ?_ _ | with_reducible refine below_grow0 _ _ ?_ | with_reducible refine below_alloc0 _ ?_ | with_reducible refine Below.setCell ?_ ?_ _ | with_reducible refine Below.alloc ?_ ?_ _ | with_reducible refine Below.grow _ _ _ ?_ ?_ | omega | (simp; done) | (simp; omega))))).mono ?_); rintro e w3 ⟨rfl, hb3⟩; obtain ⟨ext3, d3, rfl⟩ := Below.grown_eq _ hb3; clear hb3)
        refine hK.out _ _ ?gT1_13 (fun hHeld => ?_)
        case gT1_13 => ((try dsimp only); (refine ⟨?_, ?_, ?_, ?_, ?_, ?_, ?_, ?_, ?_⟩ <;> go_simp))
        clear hK K
        try simp only [Act.put, List.setIfInBounds_toArray, List.set_cons_zero, List.set_cons_succ]
        (refine wpE_takeP (i := 5) (v := ?gV1_14) (by simp only [List.getElem?_toArray]; rfl) (by kernel_rfl) (by kernel_rfl) (by kernel_rfl) (by rfl) (fun _ _ _ h => h) (Or.inl ⟨by rfl, ?gY1_14⟩) (by assumption) ?gR1_14; case gY1_14 => (intro w hSw; (try dsimp only at hSw); go_simp <;> with_reducible rfl))
        try simp only [Act.put, List.setIfInBounds_toArray, List.set_cons_zero, List.set_cons_succ]
        (refine wpE_takeP (i := 6) (v := ?gV1_15) (by simp only [List.getElem?_toArray]; rfl) (by kernel_rfl) (by kernel_rfl) (by kernel_rfl) (by rfl) (fun _ _ _ h => h) (Or.inl ⟨by rfl, ?gY1_15⟩) (by assumption) ?gR1_15; case gY1_15 => (intro w hSw; (try dsimp only at hSw); go_simp <;> with_reducible rfl))
        try simp only [Act.put, List.setIfInBounds_toArray, List.set_cons_zero, List.set_cons_succ]
        (refine wpE_takeP (i := 7) (v := ?gV1_16) (by simp only [List.getElem?_toArray]; rfl) (by kernel_rfl) (by kernel_rfl) (by kernel_rfl) (by rfl) (fun _ _ _ h => h) (Or.inl ⟨by rfl, ?gY1_16⟩) (by assumption) ?gR1_16; case gY1_16 => (intro w hSw; (try dsimp only at hSw); go_simp <;> with_reducible rfl))
        try simp only [Act.put, List.setIfInBounds_toArray, List.set_cons_zero, List.set_cons_succ]
        refine wpE_ready (rs := [9]) (by kernel_rfl) (by simp) ?_
        refine AllE.cons (by simp only [List.getElem?_toArray]; rfl) (fun K hK => ?_) AllE.nil
        go_simp
        refine hK.out _ _ ?gT1_17 (fun hHeld => ?_)
        case gT1_17 => ((try dsimp only); (refine ⟨?_, ?_, ?_, ?_, ?_, ?_, ?_, ?_, ?_⟩ <;> go_simp))
        clear hK K
        try simp only [Act.put, List.setIfInBounds_toArray, List.set_cons_zero, List.set_cons_succ]
        (refine wpE_takeP (i := 10) (v := ?gV1_18) (by simp only [List.getElem?_toArray]; rfl) (by kernel_rfl) (by kernel_rfl) (by kernel_rfl) (by rfl) (fun _ _ _ h => h) (Or.inl ⟨by rfl, ?gY1_18⟩) (by assumption) ?gR1_18; case gY1_18 => (intro w hSw; (try dsimp only at hSw); go_simp <;> with_reducible rfl))
        try simp only [Act.put, List.setIfInBounds_toArray, List.set_cons_zero, List.set_cons_succ]
        refine wpE_done (by kernel_rfl) ?_ _
        refine NoPanic.normal ?_
        go_wp2_with fail
        go_meet
        refine ⟨_, rfl, rfl, ?_, ?_, Lib.hid ?n1_18⟩
        · exact Below.own hW1W (by repeat (first | with_reducible exact Below.refl _ _ | with_reducible assumption | with_reducible exact below_d1 _ _ _ _ _ | with_reducible exact below_d2 _ _ _ _ _ _ _ _ | with_reducible exact below_d3 _ _ _ _ _ | with_reducible exact below_d4 _ _ _ _ _ _ _ _ | with_reducible exact below_d5 _ _ | with_reducible refine Below.drew ?_ | with_reducible refine Below.drewN' ?_ _ | with_reducible refine below_grow0 _ _ ?_ | with_reducible refine below_alloc0 _ ?_ | with_reducible refine Below.setCell ?_ ?_ _ | with_reducible refine Below.alloc ?_ ?_ _ | with_reducible refine Below.grow _ _ _ ?_ ?_ | omega | (simp; done) | (simp; omega)))
        · first | omega | (simp <;> omega)
        case n1_18 => first | exact Bk.new _ _ _ (by simp [hWs1]) | exact (Bk.new W _ _ hWs1.symm).below (by repeat (first | with_reducible exact Below.refl _ _ | with_reducible assumption | with_reducible exact below_d1 _ _ _ _ _ | with_reducible exact below_d2 _ _ _ _ _ _ _ _ | with_reducible exact below_d3 _ _ _ _ _ | with_reducible exact below_d4 _ _ _ _ _ _ _ _ | with_reducible exact below_d5 _ _ | with_reducible refine Below.drew ?_ | with_reducible refine Below.drewN' ?_ _ | with_reducible refine below_grow0 _ _ ?_ | with_reducible refine below_alloc0 _ ?_ | with_reducible refine Below.setCell ?_ ?_ _ | with_reducible refine Below.alloc ?_ ?_ _ | with_reducible refine Below.grow _ _ _ ?_ ?_ | omega | (simp; done) | (simp; omega))) | exact (Bk.new (grow W ext1 d1) _ _ (by simp [hWs1])).below (by repeat (first | with_reducible exact Below.refl _ _ | with_reducible assumption | with_reducible exact below_d1 _ _ _ _ _ | with_reducible exact below_d2 _ _ _ _ _ _ _ _ | with_reducible exact below_d3 _ _ _ _ _ | with_reducible exact below_d4 _ _ _ _ _ _ _ _ | with_reducible exact below_d5 _ _ | with_reducible refine Below.drew ?_ | with_reducible refine Below.drewN' ?_ _ | with_reducible refine below_grow0 _ _ ?_ | with_reducible refine below_alloc0 _ ?_ | with_reducible refine Below.setCell ?_ ?_ _ | with_reducible refine Below.alloc ?_ ?_ _ | with_reducible refine Below.grow _ _ _ ?_ ?_ | omega | (simp; done) | (simp; omega)))
      exact AllE.nil
    refine AllE.cons (by simp only [List.getElem?_toArray]; rfl) (fun K hK => ?gO1_19) ?gL1_19
    case gO1_19 =>
      go_simp
      refine hK.out _ _ ?gT1_19 (fun hHeld => ?_)
      case gT1_19 => ((try dsimp only); (refine ⟨?_, ?_, ?_, ?_, ?_, ?_, ?_, ?_, ?_⟩ <;> go_simp))
      clear hK K
      try simp only [Act.put, List.setIfInBounds_toArray, List.set_cons_zero, List.set_cons_succ]
      refine wpE_ready (rs := [1]) (by kernel_rfl) (by simp) ?_
      refine AllE.cons (by simp only [List.getElem?_toArray]; rfl) (fun K hK => ?_) AllE.nil
      go_simp
      (go_at_call 16; (with_reducible refine (HOW.out _ (HVW.out.below (by repeat (first | with_reducible exact Below.refl _ _ | with_reducible assumption | with_reducible exact below_d1 _ _ _ _ _ | with_reducible exact below_d2 _ _ _ _ _ _ _ _ | with_reducible exact below_d3 _ _ _ _ _ | with_reducible exact below_d4 _ _ _ _ _ _ _ _ | with_reducible exact below_d5 _ _ | with_reducible refine Below.drew ?_ | with_reducible refine Below.drewN' ?_ _ | with_reducible refine below_grow0 _ _ ?_ | with_reducible refine below_alloc0 _ ?_ | with_reducible refine Below.setCell ?_ ?_ _ | with_reducible refine Below.alloc ?_ ?_ _ | with_reducible refine Below.grow _ _ _ ?_ ?_ | omega | (simp; done) | (simp; omega)))) (HSW.out.below (by repeat (first | with_reducible exact Below.refl _ _ | with_reducible assumption | with_reducible exact below_d1 _ _ _ _ _ | with_reducible exact below_d2 _ _ _ _ _ _ _ _ | with_reducible exact below_d3 _ _ _ _ _ | with_reducible exact below_d4 _ _ _ _ _ _ _ _ | with_reducible exact below_d5 _ _ | with_reducible refine Below.drew ?_ | with_reducible refine Below.drewN' ?_ _ | with_reducible refine below_grow0 _ _ ?_ | with_reducible refine below_alloc0 _ ?_ | with_reducible refine Below.setCell ?_ ?_ _ | with_reducible refine Below.alloc ?_ ?_ _ | with_reducible refine Below.grow _ _ _ ?_ ?_ | omega | (simp; done) | (simp; omega))))).mono ?_); rintro e w1 ⟨A5, c5, A6, c6, rfl, ho1, ho2, hb1⟩; obtain ⟨ext1, d1, rfl⟩ := Below.grown_eq _ hb1; have HO1 := Lib.hid ho1.sl; have HO2 := Lib.hid ho2.sl; clear ho1 ho2 hb1)
      refine hK.out _ _ ?gT1_20 (fun hHeld => ?_)
      case gT1_20 => ((try dsimp only); (refine ⟨?_, ?_, ?_, ?_, ?_, ?_, ?_, ?_, ?_⟩ <;> go_simp))
      clear hK K
      skip
      refine wpE_ready (rs := [4]) (by kernel_rfl) (by simp) ?_
      refine AllE.cons (by simp only [List.getElem?_toArray]; rfl) (fun K hK => ?_) AllE.nil
      go_simp
      (go_at_call 29; (with_reducible refine (HPR.out _ _ _ (HO1.out.below (by repeat (first | with_reducible exact Below.refl _ _ | with_reducible assumption | with_reducible exact below_d1 _ _ _ _ _ | with_reducible exact below_d2 _ _ _ _ _ _ _ _ | with_reducible exact below_d3 _ _ _ _ _ | with_reducible exact below_d4 _ _ _ _ _ _ _ _ | with_reducible exact below_d5 _ _ | with_reducible refine Below.drew ?_ | with_reducible refine Below.drewN' ?_ _ | with_reducible refine below_grow0 _ _ ?_ | with_reducible refine below_alloc0 _ ?_ | with_reducible refine Below.setCell ?_ ?_ _ | with_reducible refine Below.alloc ?_ ?_ _ | with_reducible refine Below.grow _ _ _ ?_ ?_ | omega | (simp; done) | (simp; omega)))) (HO2.out.below (by repeat (first | with_reducible exact Below.refl _ _ | with_reducible assumption | with_reducible exact below_d1 _ _ _ _ _ | with_reducible exact below_d2 _ _ _ _ _ _ _ _ | with_reducible exact below_d3 _ _ _ _ _ | with_reducible exact below_d4 _ _ _ _ _ _ _ _ | with_reducible exact below_d5 _ _ | with_reducible refine Below.drew ?_ | with_reducible refine Below.drewN' ?_ _ | with_reducible refine below_grow0 _ _ ?_ | with_reducible refine below_alloc0 _ ?_ | with_reducible refine Below.setCell ?_ ?_ _ | with_reducible refine Below.alloc ?_ ?_ _ | with_reducible refine Below.grow _ _ _ ?_ ?_ | omega | (simp; done) | (simp; omega))))).mono ?_); rintro e w3 ⟨rfl, hb3⟩; obtain ⟨ext3, d3, rfl⟩ := Below.grown_eq _ hb3; clear hb3)
      refine hK.out _ _ ?gT1_21 (fun hHeld => ?_)
      case gT1_21 => ((try dsimp only); (refine ⟨?_, ?_, ?_, ?_, ?_, ?_, ?_, ?_, ?_⟩ <;> go_simp))
      clear hK K
      try simp only [Act.put, List.setIfInBounds_toArray, List.set_cons_zero, List.set_cons_succ]
      (refine wpE_takeP (i := 5) (v := ?gV1_22) (by simp only [List.getElem?_toArray]; rfl) (by kernel_rfl) (by kernel_rfl) (by kernel_rfl) (by rfl) (fun _ _ _ h => h) (Or.inl ⟨by rfl, ?gY1_22⟩) (by assumption) ?gR1_22; case gY1_22 => (intro w hSw; (try dsimp only at hSw); go_simp <;> with_reducible rfl))
      try simp only [Act.put, List.setIfInBounds_toArray, List.set_cons_zero, List.set_cons_succ]
      (refine wpE_takeP (i := 6) (v := ?gV1_23) (by simp only [List.getElem?_toArray]; rfl) (by kernel_rfl) (by kernel_rfl) (by kernel_rfl) (by rfl) (fun _ _ _ h => h) (Or.inl ⟨by rfl, ?gY1_23⟩) (by assumption) ?gR1_23; case gY1_23 => (intro w hSw; (try dsimp only at hSw); go_simp <;> with_reducible rfl))
      try simp only [Act.put, List.setIfInBounds_toArray, List.set_cons_zero, List.set_cons_succ]
      (refine wpE_takeP (i := 7) (v := ?gV1_24) (by simp only [List.getElem?_toArray]; rfl) (by kernel_rfl) (by kernel_rfl) (by kernel_rfl) (by rfl) (fun _ _ _ h => h) (Or.inl ⟨by rfl, ?gY1_24⟩) (by assumption) ?gR1_24; case gY1_24 => (intro w hSw; (try dsimp only at hSw); go_simp <;> with_reducible rfl))
      try simp only [Act.put, List.setIfInBounds_toArray, List.set_cons_zero, List.set_cons_succ]
      refine wpE_ready (rs := [9]) (by kernel_rfl) (by simp) ?_
      refine AllE.cons (by simp only [List.getElem?_toArray]; rfl) (fun K hK => ?_) AllE.nil
      go_simp
      refine hK.out _ _ ?gT1_25 (fun hHeld => ?_)
      case gT1_25 => ((try dsimp only); (refine ⟨?_, ?_, ?_, ?_, ?_, ?_, ?_, ?_, ?_⟩ <;> go_simp))
      clear hK K
      try simp only [Act.put, List.setIfInBounds_toArray, List.set_cons_zero, List.set_cons_succ]
      (refine wpE_takeP (i := 10) (v := ?gV1_26) (by simp only [List.getElem?_toArray]; rfl) (by kernel_rfl) (by kernel_rfl) (by kernel_rfl) (by rfl) (fun _ _ _ h => h) (Or.inl ⟨by rfl, ?gY1_26⟩) (by assumption) ?gR1_26; case gY1_26 => (intro w hSw; (try dsimp only at hSw); go_simp <;> with_reducible rfl))
      try simp only [Act.put, List.setIfInBounds_toArray, List.set_cons_zero, List.set_cons_succ]
      refine wpE_done (by kernel_rfl) ?_ _
      refine NoPanic.normal ?_
      go_wp2_with fail
      go_meet
      refine ⟨_, rfl, rfl, ?_, ?_, Lib.hid ?n1_26⟩
      · exact Below.own hW1W (by repeat (first | with_reducible exact Below.refl _ _ | with_reducible assumption | with_reducible exact below_d1 _ _ _ _ _ | with_reducible exact below_d2 _ _ _ _ _ _ _ _ | with_reducible exact below_d3 _ _ _ _ _ | with_reducible exact below_d4 _ _ _ _ _ _ _ _ | with_reducible exact below_d5 _ _ | with_reducible refine Below.drew ?_ | with_reducible refine Below.drewN' ?_ _ | with_reducible refine below_grow0 _ _ ?_ | with_reducible refine below_alloc0 _ ?_ | with_reducible refine Below.setCell ?_ ?_ _ | with_reducible refine Below.alloc ?_ ?_ _ | with_reducible refine Below.grow _ _ _ ?_ ?_ | omega | (simp; done) | (simp; omega)))
      · first | omega | (simp <;> omega)
      case n1_26 => first | exact Bk.new _ _ _ (by simp [hWs1]) | exact (Bk.new W _ _ hWs1.symm).below (by repeat (first | with_reducible exact Below.refl _ _ | with_reducible assumption | with_reducible exact below_d1 _ _ _ _ _ | with_reducible exact below_d2 _ _ _ _ _ _ _ _ | with_reducible exact below_d3 _ _ _ _ _ | with_reducible exact below_d4 _ _ _ _ _ _ _ _ | with_reducible exact below_d5 _ _ | with_reducible refine Below.drew ?_ | with_reducible refine Below.drewN' ?_ _ | with_reducible refine below_grow0 _ _ ?_ | with_reducible refine below_alloc0 _ ?_ | with_reducible refine Below.setCell ?_ ?_ _ | with_reducible refine Below.alloc ?_ ?_ _ | with_reducible refine Below.grow _ _ _ ?_ ?_ | omega | (simp; done) | (simp; omega))) | exact (Bk.new (grow W ext1 d1) _ _ (by simp [hWs1])).below (by repeat (first | with_reducible exact Below.refl _ _ | with_reducible assumption | with_reducible exact below_d1 _ _ _ _ _ | with_reducible exact below_d2 _ _ _ _ _ _ _ _ | with_reducible exact below_d3 _ _ _ _ _ | with_reducible exact below_d4 _ _ _ _ _ _ _ _ | with_reducible exact below_d5 _ _ | with_reducible refine Below.drew ?_ | with_reducible refine Below.drewN' ?_ _ | with_reducible refine below_grow0 _ _ ?_ | with_reducible refine below_alloc0 _ ?_ | with_reducible refine Below.setCell ?_ ?_ _ | with_reducible refine Below.alloc ?_ ?_ _ | with_reducible refine Below.grow _ _ _ ?_ ?_ | omega | (simp; done) | (simp; omega)))
    exact AllE.nil
  case rest =>
    obtain ⟨wa, rfl⟩ : ∃ wa : World, wa = wc := ⟨_, rfl⟩
    obtain ⟨b, rfl, rfl, hba, hb1, HB⟩ := hcut
    have hbwa : Below w.heap.size w wa := Below.own hbW1 hba
    have hwa : w.heap.size + 1 < wa.heap.size := Nat.lt_of_lt_of_le hs1 hba.size
    have hbne : w.heap.size + 1 < b := Nat.lt_of_lt_of_le hs1 hb1
    have hbl : b < wa.heap.size := HB.out.lt
    have j0' := keep2 hba j0
    have j1' := keep2 hba j1
    have j2' := keep2 hba j2
    have y0' := keep2 hba y0
    have y1' := keep2 hba y1
    have y2' := keep2 hba y2
    have y3' := keep2 hba y3
    have y4' := keep2 hba y4
    have y5' := keep2 hba y5
    clear j0 j1 j2 y0 y1 y2 y3 y4 y5 HPR
    by_cases hE : E = 0
    · obtain ⟨⟨p1, p2, p3, p4, p5⟩, p6, p7⟩ := HLW.out hE
      subst hE
      obtain ⟨xz, xo, xs, xp, xd, xv, xw⟩ := X
      simp only at p1 p2 p3 p6
      subst p6
      have m3 : wa.cell? ⟨b, 3, none⟩ = some (.string xp) := HB.out.cell 3
      have HGT := Lib.hid (fun (W : World) (h : Sl cNode 9 W (.slice A l.length c) l) => trGet z (.slice A l.length c) A2 ss.length c2 l xp W h (by omega))
      unfold getE at HGT
      rw [p1, get_noN p1, if_neg (by decide)] at HGT
      have hsz : ((xp.size : Int) != (rp.size : Int) + 10) = false := bne_eq_false_iff_eq.2 (by omega)
      have hle : rp.size ≤ xp.size := by omega
      have hx3 : ((xp.extract 0 rp.size).toList == rp.toList) = true := by rw [p3]; exact beq_self_eq_true _
      have HP4 := Lib.hid p4
      have HP5 := Lib.hid p5
      have HP7 := Lib.hid p7
      clear HLW p1 p2 p3 p4 p5 p7
      go_upto_region 6 with (first | (go_at_call 30; refine (HMK.out _).mono ?_; rintro e w1 ⟨rfl, hb⟩; obtain ⟨ext0, d0, rfl⟩ := Below.grown_eq _ hb; clear hb) | (go_at_call 19; refine (HGT.out _ (HV.out.below (by repeat (first | with_reducible exact Below.refl _ _ | with_reducible assumption | with_reducible exact below_d1 _ _ _ _ _ | with_reducible exact below_d2 _ _ _ _ _ _ _ _ | with_reducible exact below_d3 _ _ _ _ _ | with_reducible exact below_d4 _ _ _ _ _ _ _ _ | with_reducible exact below_d5 _ _ | with_reducible refine Below.drew ?_ | with_reducible refine Below.drewN' ?_ _ | with_reducible refine below_grow0 _ _ ?_ | with_reducible refine below_alloc0 _ ?_ | with_reducible refine Below.setCell ?_ ?_ _ | with_reducible refine Below.alloc ?_ ?_ _ | with_reducible refine Below.grow _ _ _ ?_ ?_ | omega | (simp; done) | (simp; omega))))).mono ?_; rintro e w1 ⟨rfl, hb⟩; obtain ⟨ext1, d1, rfl⟩ := Below.grown_eq _ hb; clear hb))
      refine gen_w (fun wi hwi => ?_)
      have hbi : Below wa.heap.size wa wi := by rw [hwi.out]; exact (by repeat (first | with_reducible exact Below.refl _ _ | with_reducible assumption | with_reducible exact below_d1 _ _ _ _ _ | with_reducible exact below_d2 _ _ _ _ _ _ _ _ | with_reducible exact below_d3 _ _ _ _ _ | with_reducible exact below_d4 _ _ _ _ _ _ _ _ | with_reducible exact below_d5 _ _ | with_reducible refine Below.drew ?_ | with_reducible refine Below.drewN' ?_ _ | with_reducible refine below_grow0 _ _ ?_ | with_reducible refine below_alloc0 _ ?_ | with_reducible refine Below.setCell ?_ ?_ _ | with_reducible refine Below.alloc ?_ ?_ _ | with_reducible refine Below.grow _ _ _ ?_ ?_ | omega | (simp; done) | (simp; omega)))
      have hbwi : Below w.heap.size w wi := Below.own hbwa hbi
      have hwi1 : w.heap.size + 1 < wi.heap.size := Nat.lt_of_lt_of_le hwa hbi.size
      have hbl2 : b < wi.heap.size := Nat.lt_of_lt_of_le hbl hbi.size
      have j0 := keep2 hbi j0'
      have j1 := keep2 hbi j1'
      have j2 := keep2 hbi j2'
      have y0 := keep2 hbi y0'
      have y1 := keep2 hbi y1'
      have y2 := keep2 hbi y2'
      have y3 := keep2 hbi y3'
      have y4 := keep2 hbi y4'
      have y5 := keep2 hbi y5'
      have HB2 := Lib.hid (HB.out.below hbi)
      have m3' := keep2 hbi m3
      clear hwi j0' j1' j2' y0' y1' y2' y3' y4' y5' HB m3 HMK HGT
      refine wp_region_grow (by kernel_rfl) (by kernel_rfl) ?_
      try simp only [List.append]
      repeat' (first | go_big_quiet_skip | (go_big_quiet_want; go_big_quiet_op; first | go_big_quiet_on | (apply Exists.intro; refine ⟨fun _ => ?hqg1, ?hqg2⟩; (case hqg1 => fail); go_big_quiet_on)))
      all_goals refine wpQuiet_nil ?_
      all_goals rintro _ ⟨⟨extq, dq⟩, rfl⟩
      all_goals dsimp only
      go_upto_region 8 with fail
      have m0 : wi.cell? ⟨b, 0, none⟩ = some (.int .i64 xz) := HB2.out.cell 0
      have m1 : wi.cell? ⟨b, 1, none⟩ = some (.int .i64 xo) := HB2.out.cell 1
      have m2 : wi.cell? ⟨b, 2, none⟩ = some (.int .i64 xs) := HB2.out.cell 2
      have m4 : wi.cell? ⟨b, 4, none⟩ = some (.string xd) := HB2.out.cell 4
      have m5 : wi.cell? ⟨b, 5, none⟩ = some (.int .i64 xv) := HB2.out.cell 5
      have m6 : wi.cell? ⟨b, 6, none⟩ = some (.int .i64 xw) := HB2.out.cell 6
      refine gen_w (fun wj hwj => ?_)
      have hbj : Below wi.heap.size wi wj := by rw [hwj.out]; exact (by repeat (first | with_reducible exact Below.refl _ _ | with_reducible assumption | with_reducible exact below_d1 _ _ _ _ _ | with_reducible exact below_d2 _ _ _ _ _ _ _ _ | with_reducible exact below_d3 _ _ _ _ _ | with_reducible exact below_d4 _ _ _ _ _ _ _ _ | with_reducible exact below_d5 _ _ | with_reducible refine Below.drew ?_ | with_reducible refine Below.drewN' ?_ _ | with_reducible refine below_grow0 _ _ ?_ | with_reducible refine below_alloc0 _ ?_ | with_reducible refine Below.setCell ?_ ?_ _ | with_reducible refine Below.alloc ?_ ?_ _ | with_reducible refine Below.grow _ _ _ ?_ ?_ | omega | (simp; done) | (simp; omega)))
      have hbwj : Below w.heap.size w wj := Below.own hbwi hbj
      have hwj1 : w.heap.size + 1 < wj.heap.size := Nat.lt_of_lt_of_le hwi1 hbj.size
      have hbl3 : b < wj.heap.size := Nat.lt_of_lt_of_le hbl2 hbj.size
      have j02 := keep2 hbj j0
      have j12 := keep2 hbj j1
      have j22 := keep2 hbj j2
      have y02 := keep2 hbj y0
      have y12 := keep2 hbj y1
      have y22 := keep2 hbj y2
      have y32 := keep2 hbj y3
      have y42 := keep2 hbj y4
      have y52 := keep2 hbj y5
      have m02 := keep2 hbj m0
      have m12 := keep2 hbj m1
      have m22 := keep2 hbj m2
      have m32 := keep2 hbj m3'
      have m42 := keep2 hbj m4
      have m52 := keep2 hbj m5
      have m62 := keep2 hbj m6
      clear hwj j0 j1 j2 y0 y1 y2 y3 y4 y5 m0 m1 m2 m3' m4 m5 m6 HB2 hx3 hsz hle
      obtain ⟨T, hT⟩ : ∃ T, T = applyT ⟨z, l, ss⟩ ⟨xz, xo, xs, xp, xd, xv, xw⟩ := ⟨_, rfl⟩
      obtain ⟨V, hV⟩ : ∃ V, V = applyV ⟨z, l, ss⟩ ⟨xz, xo, xs, xp, xd, xv, xw⟩ := ⟨_, rfl⟩
      have HAP := Lib.hid (fun (W : World) (v v2 : Value) (h : Sl cNode 9 W v l) (h2 : Sl cInt 1 W v2 ss) => trApply z v v2 l ss ⟨xz, xo, xs, xp, xd, xv, xw⟩ W h h2 hn (by omega) hz (made_size HP7.out))
      have HAB := Lib.hid (apply_bounds HP4.out)
      unfold ApplyRes at HAP
      rw [HP4.out, ← hT, ← hV] at HAP
      rw [← hT] at HAB HP5
      have HG := Lib.hid (goodT_inv HP7.out).2.1
      simp only at HG
      have HTS := Lib.hid (sess_bound hT HP4.out)
      clear hT hV HP4 HP7
      go_cut [11, 12, 13] (fun s5 s6 s7 wx => CutE wj T V 0 s5 s6 s7 wx)
      case first =>
        refine wp_region_noPanic ?_
        refine wp_region_W (by kernel_rfl) (fun W hW => ?_)
        have cl0 : W.cell? ⟨w.heap.size, 0, none⟩ = some (.int .i64 z) := by rw [hW.out]; go_simp
        have cl1 : W.cell? ⟨w.heap.size, 1, none⟩ = some (.slice A l.length c) := by rw [hW.out]; go_simp
        have cl2 : W.cell? ⟨w.heap.size, 2, none⟩ = some (.slice A2 ss.length c2) := by rw [hW.out]; go_simp
        have cl3 : W.cell? ⟨b, 0, none⟩ = some (.int .i64 xz) := by rw [hW.out]; go_simp
        have cl4 : W.cell? ⟨b, 1, none⟩ = some (.int .i64 xo) := by rw [hW.out]; go_simp
        have cl5 : W.cell? ⟨b, 2, none⟩ = some (.int .i64 xs) := by rw [hW.out]; go_simp
        have cl6 : W.cell? ⟨b, 3, none⟩ = some (.string xp) := by rw [hW.out]; go_simp
        have cl7 : W.cell? ⟨b, 4, none⟩ = some (.string xd) := by rw [hW.out]; go_simp
        have cl8 : W.cell? ⟨b, 5, none⟩ = some (.int .i64 xv) := by rw [hW.out]; go_simp
        have cl9 : W.cell? ⟨b, 6, none⟩ = some (.int .i64 xw) := by rw [hW.out]; go_simp
        have HVW := Lib.hid (HV.out.below (w' := W) (by rw [hW.out]; exact hbwj.drew))
        have HSW := Lib.hid (HS.out.below (w' := W) (by rw [hW.out]; exact hbwj.drew))
        have hWs : w.heap.size + 1 < W.heap.size := by rw [hW.out]; simp <;> omega
        have hWb : b < W.heap.size := by rw [hW.out]; simp <;> omega
        have hW1W : Below wj.heap.size wj W := by rw [hW.out]; exact (by repeat (first | with_reducible exact Below.refl _ _ | with_reducible assumption | with_reducible exact below_d1 _ _ _ _ _ | with_reducible exact below_d2 _ _ _ _ _ _ _ _ | with_reducible exact below_d3 _ _ _ _ _ | with_reducible exact below_d4 _ _ _ _ _ _ _ _ | with_reducible exact below_d5 _ _ | with_reducible refine Below.drew ?_ | with_reducible refine Below.drewN' ?_ _ | with_reducible refine below_grow0 _ _ ?_ | with_reducible refine below_alloc0 _ ?_ | with_reducible refine Below.setCell ?_ ?_ _ | with_reducible refine Below.alloc ?_ ?_ _ | with_reducible refine Below.grow _ _ _ ?_ ?_ | omega | (simp; done) | (simp; omega)))
        have hWs1 : W.heap.size = wj.heap.size := by rw [hW.out]; simp
        refine wpAny_S (fun w' => w'.cell? ⟨w.heap.size, 0, none⟩ = some (.int .i64 z) ∧ w'.cell? ⟨w.heap.size, 1, none⟩ = some (.slice A l.length c) ∧ w'.cell? ⟨w.heap.size, 2, none⟩ = some (.slice A2 ss.length c2) ∧ w'.cell? ⟨b, 0, none⟩ = some (.int .i64 xz) ∧ w'.cell? ⟨b, 1, none⟩ = some (.int .i64 xo) ∧ w'.cell? ⟨b, 2, none⟩ = some (.int .i64 xs) ∧ w'.cell? ⟨b, 3, none⟩ = some (.string xp) ∧ w'.cell? ⟨b, 4, none⟩ = some (.string xd) ∧ w'.cell? ⟨b, 5, none⟩ = some (.int .i64 xv) ∧ w'.cell? ⟨b, 6, none⟩ = some (.int .i64 xw)) (fun i => false) (by (try dsimp only); (refine ⟨?_, ?_, ?_, ?_, ?_, ?_, ?_, ?_, ?_, ?_⟩ <;> go_simp)) (fun hHeld => ?_)
        (refine wpE_take (i := 0) (v := ?gV2_1) (by simp only [List.getElem?_toArray]; rfl) (by kernel_rfl) (by kernel_rfl) (by kernel_rfl) (by kernel_rfl) (by kernel_rfl) (by rfl) (fun _ _ _ h => h) (Or.inl ⟨by rfl, ?gY2_1⟩) (by assumption) ?gR2_1; case gY2_1 => (intro w hSw; (try dsimp only at hSw); go_simp <;> with_reducible rfl))
        try simp only [Act.put, List.setIfInBounds_toArray, List.set_cons_zero, List.set_cons_succ]
        (refine wpE_take (i := 2) (v := ?gV2_2) (by simp only [List.getElem?_toArray]; rfl) (by kernel_rfl) (by kernel_rfl) (by kernel_rfl) (by kernel_rfl) (by kernel_rfl) (by rfl) (fun _ _ _ h => h) (Or.inl ⟨by rfl, ?gY2_2⟩) (by assumption) ?gR2_2; case gY2_2 => (intro w hSw; (try dsimp only at hSw); go_simp <;> with_reducible rfl))
        try simp only [Act.put, List.setIfInBounds_toArray, List.set_cons_zero, List.set_cons_succ]
        refine wpE_ready (rs := [1, 8]) (by kernel_rfl) (by simp) ?_
        refine AllE.cons (by simp only [List.getElem?_toArray]; rfl) (fun K hK => ?gO2_3) ?gL2_3
        case gO2_3 =>
          go_simp
          (go_at_call 16; (with_reducible refine (HOW.out _ (HVW.out.below (by repeat (first | with_reducible exact Below.refl _ _ | with_reducible assumption | with_reducible exact below_d1 _ _ _ _ _ | with_reducible exact below_d2 _ _ _ _ _ _ _ _ | with_reducible exact below_d3 _ _ _ _ _ | with_reducible exact below_d4 _ _ _ _ _ _ _ _ | with_reducible exact below_d5 _ _ | with_reducible refine Below.drew ?_ | with_reducible refine Below.drewN' ?_ _ | with_reducible refine below_grow0 _ _ ?_ | with_reducible refine below_alloc0 _ ?_ | with_reducible refine Below.setCell ?_ ?_ _ | with_reducible refine Below.alloc ?_ ?_ _ | with_reducible refine Below.grow _ _ _ ?_ ?_ | omega | (simp; done) | (simp; omega)))) (HSW.out.below (by repeat (first | with_reducible exact Below.refl _ _ | with_reducible assumption | with_reducible exact below_d1 _ _ _ _ _ | with_reducible exact below_d2 _ _ _ _ _ _ _ _ | with_reducible exact below_d3 _ _ _ _ _ | with_reducible exact below_d4 _ _ _ _ _ _ _ _ | with_reducible exact below_d5 _ _ | with_reducible refine Below.drew ?_ | with_reducible refine Below.drewN' ?_ _ | with_reducible refine below_grow0 _ _ ?_ | with_reducible refine below_alloc0 _ ?_ | with_reducible refine Below.setCell ?_ ?_ _ | with_reducible refine Below.alloc ?_ ?_ _ | with_reducible refine Below.grow _ _ _ ?_ ?_ | omega | (simp; done) | (simp; omega))))).mono ?_); rintro e w1 ⟨A5, c5, A6, c6, rfl, ho1, ho2, hb1⟩; obtain ⟨ext1, d1, rfl⟩ := Below.grown_eq _ hb1; have HO1 := Lib.hid ho1.sl; have HO2 := Lib.hid ho2.sl; clear ho1 ho2 hb1)
          refine hK.out _ _ ?gT2_3 (fun hHeld => ?_)
          case gT2_3 => ((try dsimp only); (refine ⟨?_, ?_, ?_, ?_, ?_, ?_, ?_, ?_, ?_, ?_⟩ <;> go_simp))
          clear hK K
          skip
          refine wpE_ready (rs := [3, 8]) (by kernel_rfl) (by simp) ?_
          refine AllE.cons (by simp only [List.getElem?_toArray]; rfl) (fun K hK => ?gO2_4) ?gL2_4
          case gO2_4 =>
            go_simp
            (go_at_call 23; (with_reducible refine (HAP.out _ _ _ (HO1.out.below (by repeat (first | with_reducible exact Below.refl _ _ | with_reducible assumption | with_reducible exact below_d1 _ _ _ _ _ | with_reducible exact below_d2 _ _ _ _ _ _ _ _ | with_reducible exact below_d3 _ _ _ _ _ | with_reducible exact below_d4 _ _ _ _ _ _ _ _ | with_reducible exact below_d5 _ _ | with_reducible refine Below.drew ?_ | with_reducible refine Below.drewN' ?_ _ | with_reducible refine below_grow0 _ _ ?_ | with_reducible refine below_alloc0 _ ?_ | with_reducible refine Below.setCell ?_ ?_ _ | with_reducible refine Below.alloc ?_ ?_ _ | with_reducible refine Below.grow _ _ _ ?_ ?_ | omega | (simp; done) | (simp; omega)))) (HO2.out.below (by repeat (first | with_reducible exact Below.refl _ _ | with_reducible assumption | with_reducible exact below_d1 _ _ _ _ _ | with_reducible exact below_d2 _ _ _ _ _ _ _ _ | with_reducible exact below_d3 _ _ _ _ _ | with_reducible exact below_d4 _ _ _ _ _ _ _ _ | with_reducible exact below_d5 _ _ | with_reducible refine Below.drew ?_ | with_reducible refine Below.drewN' ?_ _ | with_reducible refine below_grow0 _ _ ?_ | with_reducible refine below_alloc0 _ ?_ | with_reducible refine Below.setCell ?_ ?_ _ | with_reducible refine Below.alloc ?_ ?_ _ | with_reducible refine Below.grow _ _ _ ?_ ?_ | omega | (simp; done) | (simp; omega))))).mono ?_); rintro e w3 ⟨nv, sv, vv, rfl, hn3, hs3, hv3, hb3⟩; obtain ⟨A7, c7, rfl, _⟩ := hn3.form; obtain ⟨A8, c8, rfl, _⟩ := hs3.form; obtain ⟨A9, c9, rfl, _⟩ := hv3.form; obtain ⟨ext3, d3, rfl⟩ := Below.grown_eq _ hb3; have HN3 := Lib.hid hn3; have HS3 := Lib.hid hs3; have HV3 := Lib.hid hv3; clear hn3 hs3 hv3 hb3)
            refine hK.out _ _ ?gT2_4 (fun hHeld => ?_)
            case gT2_4 => ((try dsimp only); (refine ⟨?_, ?_, ?_, ?_, ?_, ?_, ?_, ?_, ?_, ?_⟩ <;> go_simp))
            clear hK K
            try simp only [Act.put, List.setIfInBounds_toArray, List.set_cons_zero, List.set_cons_succ]
            (refine wpE_takeP (i := 4) (v := ?gV2_5) (by simp only [List.getElem?_toArray]; rfl) (by kernel_rfl) (by kernel_rfl) (by kernel_rfl) (by rfl) (fun _ _ _ h => h) (Or.inl ⟨by rfl, ?gY2_5⟩) (by assumption) ?gR2_5; case gY2_5 => (intro w hSw; (try dsimp only at hSw); go_simp <;> with_reducible rfl))
            try simp only [Act.put, List.setIfInBounds_toArray, List.set_cons_zero, List.set_cons_succ]
            (refine wpE_takeP (i := 5) (v := ?gV2_6) (by simp only [List.getElem?_toArray]; rfl) (by kernel_rfl) (by kernel_rfl) (by kernel_rfl) (by rfl) (fun _ _ _ h => h) (Or.inl ⟨by rfl, ?gY2_6⟩) (by assumption) ?gR2_6; case gY2_6 => (intro w hSw; (try dsimp only at hSw); go_simp <;> with_reducible rfl))
            try simp only [Act.put, List.setIfInBounds_toArray, List.set_cons_zero, List.set_cons_succ]
            (refine wpE_takeP (i := 6) (v := ?gV2_7) (by simp only [List.getElem?_toArray]; rfl) (by kernel_rfl) (by kernel_rfl) (by kernel_rfl) (by rfl) (fun _ _ _ h => h) (Or.inl ⟨by rfl, ?gY2_7⟩) (by assumption) ?gR2_7; case gY2_7 => (intro w hSw; (try dsimp only at hSw); go_simp <;> with_reducible rfl))
            try simp only [Act.put, List.setIfInBounds_toArray, List.set_cons_zero, List.set_cons_succ]
            (refine wpE_takeP (i := 7) (v := ?gV2_8) (by simp only [List.getElem?_toArray]; rfl) (by kernel_rfl) (by kernel_rfl) (by kernel_rfl) (by rfl) (fun _ _ _ h => h) (Or.inl ⟨by rfl, ?gY2_8⟩) (by assumption) ?gR2_8; case gY2_8 => (intro w hSw; (try dsimp only at hSw); go_simp <;> with_reducible rfl))
            try simp only [Act.put, List.setIfInBounds_toArray, List.set_cons_zero, List.set_cons_succ]
            refine wpE_ready (rs := [8]) (by kernel_rfl) (by simp) ?_
            refine AllE.cons (by simp only [List.getElem?_toArray]; rfl) (fun K hK => ?_) AllE.nil
            go_simp
            refine hK.out _ _ ?gT2_9 (fun hHeld => ?_)
            case gT2_9 => ((try dsimp only); (refine ⟨?_, ?_, ?_, ?_, ?_, ?_, ?_, ?_, ?_, ?_⟩ <;> go_simp))
            clear hK K
            try simp only [Act.put, List.setIfInBounds_toArray, List.set_cons_zero, List.set_cons_succ]
            refine wpE_ready (rs := [9]) (by kernel_rfl) (by simp) ?_
            refine AllE.cons (by simp only [List.getElem?_toArray]; rfl) (fun K hK => ?_) AllE.nil
            go_simp
            refine hK.out _ _ ?gT2_10 (fun hHeld => ?_)
            case gT2_10 => ((try dsimp only); (refine ⟨?_, ?_, ?_, ?_, ?_, ?_, ?_, ?_, ?_, ?_⟩ <;> go_simp))
            clear hK K
            try simp only [Act.put, List.setIfInBounds_toArray, List.set_cons_zero, List.set_cons_succ]
            (refine wpE_takeP (i := 10) (v := ?gV2_11) (by simp only [List.getElem?_toArray]; rfl) (by kernel_rfl) (by kernel_rfl) (by kernel_rfl) (by rfl) (fun _ _ _ h => h) (Or.inl ⟨by rfl, ?gY2_11⟩) (by assumption) ?gR2_11; case gY2_11 => (intro w hSw; (try dsimp only at hSw); go_simp <;> with_reducible rfl))
            try simp only [Act.put, List.setIfInBounds_toArray, List.set_cons_zero, List.set_cons_succ]
            (refine wpE_takeP (i := 11) (v := ?gV2_12) (by simp only [List.getElem?_toArray]; rfl) (by kernel_rfl) (by kernel_rfl) (by kernel_rfl) (by rfl) (fun _ _ _ h => h) (Or.inl ⟨by rfl, ?gY2_12⟩) (by assumption) ?gR2_12; case gY2_12 => (intro w hSw; (try dsimp only at hSw); go_simp <;> with_reducible rfl))
            try simp only [Act.put, List.setIfInBounds_toArray, List.set_cons_zero, List.set_cons_succ]
            refine wpE_done (by kernel_rfl) ?_ _
            refine NoPanic.normal ?_
            go_wp2_with fail
            go_meet
            refine ⟨_, A7, c7, A8, c8, A9, c9, rfl, rfl, rfl, ?_, ?_, ?_, ?_, ?_, ?_, Lib.hid ?n2_12, Lib.hid ?s2_12, Lib.hid ?v2_12⟩
            · exact Below.own hW1W (by repeat (first | with_reducible exact Below.refl _ _ | with_reducible assumption | with_reducible exact below_d1 _ _ _ _ _ | with_reducible exact below_d2 _ _ _ _ _ _ _ _ | with_reducible exact below_d3 _ _ _ _ _ | with_reducible exact below_d4 _ _ _ _ _ _ _ _ | with_reducible exact below_d5 _ _ | with_reducible refine Below.drew ?_ | with_reducible refine Below.drewN' ?_ _ | with_reducible refine below_grow0 _ _ ?_ | with_reducible refine below_alloc0 _ ?_ | with_reducible refine Below.setCell ?_ ?_ _ | with_reducible refine Below.alloc ?_ ?_ _ | with_reducible refine Below.grow _ _ _ ?_ ?_ | omega | (simp; done) | (simp; omega)))
            · first | omega | (simp <;> omega)
            · first | omega | (simp <;> omega)
            · (first | exact newCell (by simp [hWs1]) rfl | exact grow_at (newCell (by simp [hWs1]) rfl) | exact grow_at (grow_at (newCell (by simp [hWs1]) rfl)))
            · (first | exact newCell (by simp [hWs1]) rfl | exact grow_at (newCell (by simp [hWs1]) rfl) | exact grow_at (grow_at (newCell (by simp [hWs1]) rfl)))
            · (first | exact newCell (by simp [hWs1]) rfl | exact grow_at (newCell (by simp [hWs1]) rfl) | exact grow_at (grow_at (newCell (by simp [hWs1]) rfl)))
            case n2_12 =>
              refine (Ow.moved (W' := ?w92_12) (d' := ?x92_12) HN3.out (Nat.le_refl _) ?b92_12 ?z92_12).sl
              case b92_12 => exact (by repeat (first | with_reducible exact Below.refl _ _ | with_reducible assumption | with_reducible exact below_d1 _ _ _ _ _ | with_reducible exact below_d2 _ _ _ _ _ _ _ _ | with_reducible exact below_d3 _ _ _ _ _ | with_reducible exact below_d4 _ _ _ _ _ _ _ _ | with_reducible exact below_d5 _ _ | with_reducible refine Below.drew ?_ | with_reducible refine Below.drewN' ?_ _ | with_reducible refine below_grow0 _ _ ?_ | with_reducible refine below_alloc0 _ ?_ | with_reducible refine Below.setCell ?_ ?_ _ | with_reducible refine Below.alloc ?_ ?_ _ | with_reducible refine Below.grow _ _ _ ?_ ?_ | omega | (simp; done) | (simp; omega)))
              case z92_12 => simp
            case s2_12 =>
              refine (Ow.moved (W' := ?w82_12) (d' := ?x82_12) HS3.out (Nat.le_refl _) ?b82_12 ?z82_12).sl
              case b82_12 => exact (by repeat (first | with_reducible exact Below.refl _ _ | with_reducible assumption | with_reducible exact below_d1 _ _ _ _ _ | with_reducible exact below_d2 _ _ _ _ _ _ _ _ | with_reducible exact below_d3 _ _ _ _ _ | with_reducible exact below_d4 _ _ _ _ _ _ _ _ | with_reducible exact below_d5 _ _ | with_reducible refine Below.drew ?_ | with_reducible refine Below.drewN' ?_ _ | with_reducible refine below_grow0 _ _ ?_ | with_reducible refine below_alloc0 _ ?_ | with_reducible refine Below.setCell ?_ ?_ _ | with_reducible refine Below.alloc ?_ ?_ _ | with_reducible refine Below.grow _ _ _ ?_ ?_ | omega | (simp; done) | (simp; omega)))
              case z82_12 => simp
            case v2_12 =>
              refine (Ow.moved (W' := ?w72_12) (d' := ?x72_12) HV3.out (Nat.le_refl _) ?b72_12 ?z72_12).sl
              case b72_12 => exact (by repeat (first | with_reducible exact Below.refl _ _ | with_reducible assumption | with_reducible exact below_d1 _ _ _ _ _ | with_reducible exact below_d2 _ _ _ _ _ _ _ _ | with_reducible exact below_d3 _ _ _ _ _ | with_reducible exact below_d4 _ _ _ _ _ _ _ _ | with_reducible exact below_d5 _ _ | with_reducible refine Below.drew ?_ | with_reducible refine Below.drewN' ?_ _ | with_reducible refine below_grow0 _ _ ?_ | with_reducible refine below_alloc0 _ ?_ | with_reducible refine Below.setCell ?_ ?_ _ | with_reducible refine Below.alloc ?_ ?_ _ | with_reducible refine Below.grow _ _ _ ?_ ?_ | omega | (simp; done) | (simp; omega)))
              case z72_12 => simp
          refine AllE.cons (by simp only [List.getElem?_toArray]; rfl) (fun K hK => ?gO2_13) ?gL2_13
          case gO2_13 =>
            go_simp
            refine hK.out _ _ ?gT2_13 (fun hHeld => ?_)
            case gT2_13 => ((try dsimp only); (refine ⟨?_, ?_, ?_, ?_, ?_, ?_, ?_, ?_, ?_, ?_⟩ <;> go_simp))
            clear hK K
            try simp only [Act.put, List.setIfInBounds_toArray, List.set_cons_zero, List.set_cons_succ]
            refine wpE_ready (rs := [3]) (by kernel_rfl) (by simp) ?_
            refine AllE.cons (by simp only [List.getElem?_toArray]; rfl) (fun K hK => ?_) AllE.nil
            go_simp
            (go_at_call 23; (with_reducible refine (HAP.out _ _ _ (HO1.out.below (by repeat (first | with_reducible exact Below.refl _ _ | with_reducible assumption | with_reducible exact below_d1 _ _ _ _ _ | with_reducible exact below_d2 _ _ _ _ _ _ _ _ | with_reducible exact below_d3 _ _ _ _ _ | with_reducible exact below_d4 _ _ _ _ _ _ _ _ | with_reducible exact below_d5 _ _ | with_reducible refine Below.drew ?_ | with_reducible refine Below.drewN' ?_ _ | with_reducible refine below_grow0 _ _ ?_ | with_reducible refine below_alloc0 _ ?_ | with_reducible refine Below.setCell ?_ ?_ _ | with_reducible refine Below.alloc ?_ ?_ _ | with_reducible refine Below.grow _ _ _ ?_ ?_ | omega | (simp; done) | (simp; omega)))) (HO2.out.below (by repeat (first | with_reducible exact Below.refl _ _ | with_reducible assumption | with_reducible exact below_d1 _ _ _ _ _ | with_reducible exact below_d2 _ _ _ _ _ _ _ _ | with_reducible exact below_d3 _ _ _ _ _ | with_reducible exact below_d4 _ _ _ _ _ _ _ _ | with_reducible exact below_d5 _ _ | with_reducible refine Below.drew ?_ | with_reducible refine Below.drewN' ?_ _ | with_reducible refine below_grow0 _ _ ?_ | with_reducible refine below_alloc0 _ ?_ | with_reducible refine Below.setCell ?_ ?_ _ | with_reducible refine Below.alloc ?_ ?_ _ | with_reducible refine Below.grow _ _ _ ?_ ?_ | omega | (simp; done) | (simp; omega))))).mono ?_); rintro e w3 ⟨nv, sv, vv, rfl, hn3, hs3, hv3, hb3⟩; obtain ⟨A7, c7, rfl, _⟩ := hn3.form; obtain ⟨A8, c8, rfl, _⟩ := hs3.form; obtain ⟨A9, c9, rfl, _⟩ := hv3.form; obtain ⟨ext3, d3, rfl⟩ := Below.grown_eq _ hb3; have HN3 := Lib.hid hn3; have HS3 := Lib.hid hs3; have HV3 := Lib.hid hv3; clear hn3 hs3 hv3 hb3)
            refine hK.out _ _ ?gT2_14 (fun hHeld => ?_)
            case gT2_14 => ((try dsimp only); (refine ⟨?_, ?_, ?_, ?_, ?_, ?_, ?_, ?_, ?_, ?_⟩ <;> go_simp))
            clear hK K
            try simp only [Act.put, List.setIfInBounds_toArray, List.set_cons_zero, List.set_cons_succ]
            (refine wpE_takeP (i := 4) (v := ?gV2_15) (by simp only [List.getElem?_toArray]; rfl) (by kernel_rfl) (by kernel_rfl) (by kernel_rfl) (by rfl) (fun _ _ _ h => h) (Or.inl ⟨by rfl, ?gY2_15⟩) (by assumption) ?gR2_15; case gY2_15 => (intro w hSw; (try dsimp only at hSw); go_simp <;> with_reducible rfl))
            try simp only [Act.put, List.setIfInBounds_toArray, List.set_cons_zero, List.set_cons_succ]
            (refine wpE_takeP (i := 5) (v := ?gV2_16) (by simp only [List.getElem?_toArray]; rfl) (by kernel_rfl) (by kernel_rfl) (by kernel_rfl) (by rfl) (fun _ _ _ h => h) (Or.inl ⟨by rfl, ?gY2_16⟩) (by assumption) ?gR2_16; case gY2_16 => (intro w hSw; (try dsimp only at hSw); go_simp <;> with_reducible rfl))
            try simp only [Act.put, List.setIfInBounds_toArray, List.set_cons_zero, List.set_cons_succ]
            (refine wpE_takeP (i := 6) (v := ?gV2_17) (by simp only [List.getElem?_toArray]; rfl) (by kernel_rfl) (by kernel_rfl) (by kernel_rfl) (by rfl) (fun _ _ _ h => h) (Or.inl ⟨by rfl, ?gY2_17⟩) (by assumption) ?gR2_17; case gY2_17 => (intro w hSw; (try dsimp only at hSw); go_simp <;> with_reducible rfl))
            try simp only [Act.put, List.setIfInBounds_toArray, List.set_cons_zero, List.set_cons_succ]
            (refine wpE_takeP (i := 7) (v := ?gV2_18) (by simp only [List.getElem?_toArray]; rfl) (by kernel_rfl) (by kernel_rfl) (by kernel_rfl) (by rfl) (fun _ _ _ h => h) (Or.inl ⟨by rfl, ?gY2_18⟩) (by assumption) ?gR2_18; case gY2_18 => (intro w hSw; (try dsimp only at hSw); go_simp <;> with_reducible rfl))
            try simp only [Act.put, List.setIfInBounds_toArray, List.set_cons_zero, List.set_cons_succ]
            refine wpE_ready (rs := [9]) (by kernel_rfl) (by simp) ?_
            refine AllE.cons (by simp only [List.getElem?_toArray]; rfl) (fun K hK => ?_) AllE.nil
            go_simp
            refine hK.out _ _ ?gT2_19 (fun hHeld => ?_)
            case gT2_19 => ((try dsimp only); (refine ⟨?_, ?_, ?_, ?_, ?_, ?_, ?_, ?_, ?_, ?_⟩ <;> go_simp))
            clear hK K
            try simp only [Act.put, List.setIfInBounds_toArray, List.set_cons_zero, List.set_cons_succ]
            (refine wpE_takeP (i := 10) (v := ?gV2_20) (by simp only [List.getElem?_toArray]; rfl) (by kernel_rfl) (by kernel_rfl) (by kernel_rfl) (by rfl) (fun _ _ _ h => h) (Or.inl ⟨by rfl, ?gY2_20⟩) (by assumption) ?gR2_20; case gY2_20 => (intro w hSw; (try dsimp only at hSw); go_simp <;> with_reducible rfl))
            try simp only [Act.put, List.setIfInBounds_toArray, List.set_cons_zero, List.set_cons_succ]
            (refine wpE_takeP (i := 11) (v := ?gV2_21) (by simp only [List.getElem?_toArray]; rfl) (by kernel_rfl) (by kernel_rfl) (by kernel_rfl) (by rfl) (fun _ _ _ h => h) (Or.inl ⟨by rfl, ?gY2_21⟩) (by assumption) ?gR2_21; case gY2_21 => (intro w hSw; (try dsimp only at hSw); go_simp <;> with_reducible rfl))
            try simp only [Act.put, List.setIfInBounds_toArray, List.set_cons_zero, List.set_cons_succ]
            refine wpE_done (by kernel_rfl) ?_ _
            refine NoPanic.normal ?_
            go_wp2_with fail
            go_meet
            refine ⟨_, A7, c7, A8, c8, A9, c9, rfl, rfl, rfl, ?_, ?_, ?_, ?_, ?_, ?_, Lib.hid ?n2_21, Lib.hid ?s2_21, Lib.hid ?v2_21⟩
            · exact Below.own hW1W (by repeat (first | with_reducible exact Below.refl _ _ | with_reducible assumption | with_reducible exact below_d1 _ _ _ _ _ | with_reducible exact below_d2 _ _ _ _ _ _ _ _ | with_reducible exact below_d3 _ _ _ _ _ | with_reducible exact below_d4 _ _ _ _ _ _ _ _ | with_reducible exact below_d5 _ _ | with_reducible refine Below.drew ?_ | with_reducible refine Below.drewN' ?_ _ | with_reducible refine below_grow0 _ _ ?_ | with_reducible refine below_alloc0 _ ?_ | with_reducible refine Below.setCell ?_ ?_ _ | with_reducible refine Below.alloc ?_ ?_ _ | with_reducible refine Below.grow _ _ _ ?_ ?_ | omega | (simp; done) | (simp; omega)))
            · first | omega | (simp <;> omega)
            · first | omega | (simp <;> omega)
            · (first | exact newCell (by simp [hWs1]) rfl | exact grow_at (newCell (by simp [hWs1]) rfl) | exact grow_at (grow_at (newCell (by simp [hWs1]) rfl)))
            · (first | exact newCell (by simp [hWs1]) rfl | exact grow_at (newCell (by simp [hWs1]) rfl) | exact grow_at (grow_at (newCell (by simp [hWs1]) rfl)))
            · (first | exact newCell (by simp [hWs1]) rfl | exact grow_at (newCell (by simp [hWs1]) rfl) | exact grow_at (grow_at (newCell (by simp [hWs1]) rfl)))
            case n2_21 =>
              refine (Ow.moved (W' := ?w92_21) (d' := ?x92_21) HN3.out (Nat.le_refl _) ?b92_21 ?z92_21).sl
              case b92_21 => exact (by repeat (first | with_reducible exact Below.refl _ _ | with_reducible assumption | with_reducible exact below_d1 _ _ _ _ _ | with_reducible exact below_d2 _ _ _ _ _ _ _ _ | with_reducible exact below_d3 _ _ _ _ _ | with_reducible exact below_d4 _ _ _ _ _ _ _ _ | with_reducible exact below_d5 _ _ | with_reducible refine Below.drew ?_ | with_reducible refine Below.drewN' ?_ _ | with_reducible refine below_grow0 _ _ ?_ | with_reducible refine below_alloc0 _ ?_ | with_reducible refine Below.setCell ?_ ?_ _ | with_reducible refine Below.alloc ?_ ?_ _ | with_reducible refine Below.grow _ _ _ ?_ ?_ | omega | (simp; done) | (simp; omega)))
              case z92_21 => simp
            case s2_21 =>
              refine (Ow.moved (W' := ?w82_21) (d' := ?x82_21) HS3.out (Nat.le_refl _) ?b82_21 ?z82_21).sl
              case b82_21 => exact (by repeat (first | with_reducible exact Below.refl _ _ | with_reducible assumption | with_reducible exact below_d1 _ _ _ _ _ | with_reducible exact below_d2 _ _ _ _ _ _ _ _ | with_reducible exact below_d3 _ _ _ _ _ | with_reducible exact below_d4 _ _ _ _ _ _ _ _ | with_reducible exact below_d5 _ _ | with_reducible refine Below.drew ?_ | with_reducible refine Below.drewN' ?_ _ | with_reducible refine below_grow0 _ _ ?_ | with_reducible refine below_alloc0 _ ?_ | with_reducible refine Below.setCell ?_ ?_ _ | with_reducible refine Below.alloc ?_ ?_ _ | with_reducible refine Below.grow _ _ _ ?_ ?_ | omega | (simp; done) | (simp; omega)))
              case z82_21 => simp
            case v2_21 =>
              refine (Ow.moved (W' := ?w72_21) (d' := ?x72_21) HV3.out (Nat.le_refl _) ?b72_21 ?z72_21).sl
              case b72_21 => exact (by repeat (first | with_reducible exact Below.refl _ _ | with_reducible assumption | with_reducible exact below_d1 _ _ _ _ _ | with_reducible exact below_d2 _ _ _ _ _ _ _ _ | with_reducible exact below_d3 _ _ _ _ _ | with_reducible exact below_d4 _ _ _ _ _ _ _ _ | with_reducible exact below_d5 _ _ | with_reducible refine Below.drew ?_ | with_reducible refine Below.drewN' ?_ _ | with_reducible refine below_grow0 _ _ ?_ | with_reducible refine below_alloc0 _ ?_ | with_reducible refine Below.setCell ?_ ?_ _ | with_reducible refine Below.alloc ?_ ?_ _ | with_reducible refine Below.grow _ _ _ ?_ ?_ | omega | (simp; done) | (simp; omega)))
              case z72_21 => simp
          exact AllE.nil
        refine AllE.cons (by simp only [List.getElem?_toArray]; rfl) (fun K hK => ?gO2_22) ?gL2_22
        case gO2_22 =>
          go_simp
          refine hK.out _ _ ?gT2_22 (fun hHeld => ?_)
          case gT2_22 => ((try dsimp only); (refine ⟨?_, ?_, ?_, ?_, ?_, ?_, ?_, ?_, ?_, ?_⟩ <;> go_simp))
          clear hK K
          try simp only [Act.put, List.setIfInBounds_toArray, List.set_cons_zero, List.set_cons_succ]
          refine wpE_ready (rs := [1]) (by kernel_rfl) (by simp) ?_
          refine AllE.cons (by simp only [List.getElem?_toArray]; rfl) (fun K hK => ?_) AllE.nil
          go_simp
          (go_at_call 16; (with_reducible refine (HOW.out _ (HVW.out.below (by repeat (first | with_reducible exact Below.refl _ _ | with_reducible assumption | with_reducible exact below_d1 _ _ _ _ _ | with_reducible exact below_d2 _ _ _ _ _ _ _ _ | with_reducible exact below_d3 _ _ _ _ _ | with_reducible exact below_d4 _ _ _ _ _ _ _ _ | with_reducible exact below_d5 _ _ | with_reducible refine Below.drew ?_ | with_reducible refine Below.drewN' ?_ _ | with_reducible refine below_grow0 _ _ ?_ | with_reducible refine below_alloc0 _ ?_ | with_reducible refine Below.setCell ?_ ?_ _ | with_reducible refine Below.alloc ?_ ?_ _ | with_reducible refine Below.grow _ _ _ ?_ ?_ | omega | (simp; done) | (simp; omega)))) (HSW.out.below (by repeat (first | with_reducible exact Below.refl _ _ | with_reducible assumption | with_reducible exact below_d1 _ _ _ _ _ | with_reducible exact below_d2 _ _ _ _ _ _ _ _ | with_reducible exact below_d3 _ _ _ _ _ | with_reducible exact below_d4 _ _ _ _ _ _ _ _ | with_reducible exact below_d5 _ _ | with_reducible refine Below.drew ?_ | with_reducible refine Below.drewN' ?_ _ | with_reducible refine below_grow0 _ _ ?_ | with_reducible refine below_alloc0 _ ?_ | with_reducible refine Below.setCell ?_ ?_ _ | with_reducible refine Below.alloc ?_ ?_ _ | with_reducible refine Below.grow _ _ _ ?_ ?_ | omega | (simp; done) | (simp; omega))))).mono ?_); rintro e w1 ⟨A5, c5, A6, c6, rfl, ho1, ho2, hb1⟩; obtain ⟨ext1, d1, rfl⟩ := Below.grown_eq _ hb1; have HO1 := Lib.hid ho1.sl; have HO2 := Lib.hid ho2.sl; clear ho1 ho2 hb1)
          refine hK.out _ _ ?gT2_23 (fun hHeld => ?_)
          case gT2_23 => ((try dsimp only); (refine ⟨?_, ?_, ?_, ?_, ?_, ?_, ?_, ?_, ?_, ?_⟩ <;> go_simp))
          clear hK K
          skip
          refine wpE_ready (rs := [3]) (by kernel_rfl) (by simp) ?_
          refine AllE.cons (by simp only [List.getElem?_toArray]; rfl) (fun K hK => ?_) AllE.nil
          go_simp
          (go_at_call 23; (with_reducible refine (HAP.out _ _ _ (HO1.out.below (by repeat (first | with_reducible exact Below.refl _ _ | with_reducible assumption | with_reducible exact below_d1 _ _ _ _ _ | with_reducible exact below_d2 _ _ _ _ _ _ _ _ | with_reducible exact below_d3 _ _ _ _ _ | with_reducible exact below_d4 _ _ _ _ _ _ _ _ | with_reducible exact below_d5 _ _ | with_reducible refine Below.drew ?_ | with_reducible refine Below.drewN' ?_ _ | with_reducible refine below_grow0 _ _ ?_ | with_reducible refine below_alloc0 _ ?_ | with_reducible refine Below.setCell ?_ ?_ _ | with_reducible refine Below.alloc ?_ ?_ _ | with_reducible refine Below.grow _ _ _ ?_ ?_ | omega | (simp; done) | (simp; omega)))) (HO2.out.below (by repeat (first | with_reducible exact Below.refl _ _ | with_reducible assumption | with_reducible exact below_d1 _ _ _ _ _ | with_reducible exact below_d2 _ _ _ _ _ _ _ _ | with_reducible exact below_d3 _ _ _ _ _ | with_reducible exact below_d4 _ _ _ _ _ _ _ _ | with_reducible exact below_d5 _ _ | with_reducible refine Below.drew ?_ | with_reducible refine Below.drewN' ?_ _ | with_reducible refine below_grow0 _ _ ?_ | with_reducible refine below_alloc0 _ ?_ | with_reducible refine Below.setCell ?_ ?_ _ | with_reducible refine Below.alloc ?_ ?_ _ | with_reducible refine Below.grow _ _ _ ?_ ?_ | omega | (simp; done) | (simp; omega))))).mono ?_); rintro e w3 ⟨nv, sv, vv, rfl, hn3, hs3, hv3, hb3⟩; obtain ⟨A7, c7, rfl, _⟩ := hn3.form; obtain ⟨A8, c8, rfl, _⟩ := hs3.form; obtain ⟨A9, c9, rfl, _⟩ := hv3.form; obtain ⟨ext3, d3, rfl⟩ := Below.grown_eq _ hb3; have HN3 := Lib.hid hn3; have HS3 := Lib.hid hs3; have HV3 := Lib.hid hv3; clear hn3 hs3 hv3 hb3)
          refine hK.out _ _ ?gT2_24 (fun hHeld => ?_)
          case gT2_24 => ((try dsimp only); (refine ⟨?_, ?_, ?_, ?_, ?_, ?_, ?_, ?_, ?_, ?_⟩ <;> go_simp))
          clear hK K
          try simp only [Act.put, List.setIfInBounds_toArray, List.set_cons_zero, List.set_cons_succ]
          (refine wpE_takeP (i := 4) (v := ?gV2_25) (by simp only [List.getElem?_toArray]; rfl) (by kernel_rfl) (by kernel_rfl) (by kernel_rfl) (by rfl) (fun _ _ _ h => h) (Or.inl ⟨by rfl, ?gY2_25⟩) (by assumption) ?gR2_25; case gY2_25 => (intro w hSw; (try dsimp only at hSw); go_simp <;> with_reducible rfl))
          try simp only [Act.put, List.setIfInBounds_toArray, List.set_cons_zero, List.set_cons_succ]
          (refine wpE_takeP (i := 5) (v := ?gV2_26) (by simp only [List.getElem?_toArray]; rfl) (by kernel_rfl) (by kernel_rfl) (by kernel_rfl) (by rfl) (fun _ _ _ h => h) (Or.inl ⟨by rfl, ?gY2_26⟩) (by assumption) ?gR2_26; case gY2_26 => (intro w hSw; (try dsimp only at hSw); go_simp <;> with_reducible rfl))
          try simp only [Act.put, List.setIfInBounds_toArray, List.set_cons_zero, List.set_cons_succ]
          (refine wpE_takeP (i := 6) (v := ?gV2_27) (by simp only [List.getElem?_toArray]; rfl) (by kernel_rfl) (by kernel_rfl) (by kernel_rfl) (by rfl) (fun _ _ _ h => h) (Or.inl ⟨by rfl, ?gY2_27⟩) (by assumption) ?gR2_27; case gY2_27 => (intro w hSw; (try dsimp only at hSw); go_simp <;> with_reducible rfl))
          try simp only [Act.put, List.setIfInBounds_toArray, List.set_cons_zero, List.set_cons_succ]
          (refine wpE_takeP (i := 7) (v := ?gV2_28) (by simp only [List.getElem?_toArray]; rfl) (by kernel_rfl) (by kernel_rfl) (by kernel_rfl) (by rfl) (fun _ _ _ h => h) (Or.inl ⟨by rfl, ?gY2_28⟩) (by assumption) ?gR2_28; case gY2_28 => (intro w hSw; (try dsimp only at hSw); go_simp <;> with_reducible rfl))
          try simp only [Act.put, List.setIfInBounds_toArray, List.set_cons_zero, List.set_cons_succ]
          refine wpE_ready (rs := [9]) (by kernel_rfl) (by simp) ?_
          refine AllE.cons (by simp only [List.getElem?_toArray]; rfl) (fun K hK => ?_) AllE.nil
          go_simp
          refine hK.out _ _ ?gT2_29 (fun hHeld => ?_)
          case gT2_29 => ((try dsimp only); (refine ⟨?_, ?_, ?_, ?_, ?_, ?_, ?_, ?_, ?_, ?_⟩ <;> go_simp))
          clear hK K
          try simp only [Act.put, List.setIfInBounds_toArray, List.set_cons_zero, List.set_cons_succ]
          (refine wpE_takeP (i := 10) (v := ?gV2_30) (by simp only [List.getElem?_toArray]; rfl) (by kernel_rfl) (by kernel_rfl) (by kernel_rfl) (by rfl) (fun _ _ _ h => h) (Or.inl ⟨by rfl, ?gY2_30⟩) (by assumption) ?gR2_30; case gY2_30 => (intro w hSw; (try dsimp only at hSw); go_simp <;> with_reducible rfl))
          try simp only [Act.put, List.setIfInBounds_toArray, List.set_cons_zero, List.set_cons_succ]
          (refine wpE_takeP (i := 11) (v := ?gV2_31) (by simp only [List.getElem?_toArray]; rfl) (by kernel_rfl) (by kernel_rfl) (by kernel_rfl) (by rfl) (fun _ _ _ h => h) (Or.inl ⟨by rfl, ?gY2_31⟩) (by assumption) ?gR2_31; case gY2_31 => (intro w hSw; (try dsimp only at hSw); go_simp <;> with_reducible rfl))
          try simp only [Act.put, List.setIfInBounds_toArray, List.set_cons_zero, List.set_cons_succ]
          refine wpE_done (by kernel_rfl) ?_ _
          refine NoPanic.normal ?_
          go_wp2_with fail
          go_meet
          refine ⟨_, A7, c7, A8, c8, A9, c9, rfl, rfl, rfl, ?_, ?_, ?_, ?_, ?_, ?_, Lib.hid ?n2_31, Lib.hid ?s2_31, Lib.hid ?v2_31⟩
          · exact Below.own hW1W (by repeat (first | with_reducible exact Below.refl _ _ | with_reducible assumption | with_reducible exact below_d1 _ _ _ _ _ | with_reducible exact below_d2 _ _ _ _ _ _ _ _ | with_reducible exact below_d3 _ _ _ _ _ | with_reducible exact below_d4 _ _ _ _ _ _ _ _ | with_reducible exact below_d5 _ _ | with_reducible refine Below.drew ?_ | with_reducible refine Below.drewN' ?_ _ | with_reducible refine below_grow0 _ _ ?_ | with_reducible refine below_alloc0 _ ?_ | with_reducible refine Below.setCell ?_ ?_ _ | with_reducible refine Below.alloc ?_ ?_ _ | with_reducible refine Below.grow _ _ _ ?_ ?_ | omega | (simp; done) | (simp; omega)))
          · first | omega | (simp <;> omega)
          · first | omega | (simp <;> omega)
          · (first | exact newCell (by simp [hWs1]) rfl | exact grow_at (newCell (by simp [hWs1]) rfl) | exact grow_at (grow_at (newCell (by simp [hWs1]) rfl)))
          · (first | exact newCell (by simp [hWs1]) rfl | exact grow_at (newCell (by simp [hWs1]) rfl) | exact grow_at (grow_at (newCell (by simp [hWs1]) rfl)))
          · (first | exact newCell (by simp [hWs1]) rfl | exact grow_at (newCell (by simp [hWs1]) rfl) | exact grow_at (grow_at (newCell (by simp [hWs1]) rfl)))
          case n2_31 =>
            refine (Ow.moved (W' := ?w92_31) (d' := ?x92_31) HN3.out (Nat.le_refl _) ?b92_31 ?z92_31).sl
            case b92_31 => exact (by repeat (first | with_reducible exact Below.refl _ _ | with_reducible assumption | with_reducible exact below_d1 _ _ _ _ _ | with_reducible exact below_d2 _ _ _ _ _ _ _ _ | with_reducible exact below_d3 _ _ _ _ _ | with_reducible exact below_d4 _ _ _ _ _ _ _ _ | with_reducible exact below_d5 _ _ | with_reducible refine Below.drew ?_ | with_reducible refine Below.drewN' ?_ _ | with_reducible refine below_grow0 _ _ ?_ | with_reducible refine below_alloc0 _ ?_ | with_reducible refine Below.setCell ?_ ?_ _ | with_reducible refine Below.alloc ?_ ?_ _ | with_reducible refine Below.grow _ _ _ ?_ ?_ | omega | (simp; done) | (simp; omega)))
            case z92_31 => simp
          case s2_31 =>
            refine (Ow.moved (W' := ?w82_31) (d' := ?x82_31) HS3.out (Nat.le_refl _) ?b82_31 ?z82_31).sl
            case b82_31 => exact (by repeat (first | with_reducible exact Below.refl _ _ | with_reducible assumption | with_reducible exact below_d1 _ _ _ _ _ | with_reducible exact below_d2 _ _ _ _ _ _ _ _ | with_reducible exact below_d3 _ _ _ _ _ | with_reducible exact below_d4 _ _ _ _ _ _ _ _ | with_reducible exact below_d5 _ _ | with_reducible refine Below.drew ?_ | with_reducible refine Below.drewN' ?_ _ | with_reducible refine below_grow0 _ _ ?_ | with_reducible refine below_alloc0 _ ?_ | with_reducible refine Below.setCell ?_ ?_ _ | with_reducible refine Below.alloc ?_ ?_ _ | with_reducible refine Below.grow _ _ _ ?_ ?_ | omega | (simp; done) | (simp; omega)))
            case z82_31 => simp
          case v2_31 =>
            refine (Ow.moved (W' := ?w72_31) (d' := ?x72_31) HV3.out (Nat.le_refl _) ?b72_31 ?z72_31).sl
            case b72_31 => exact (by repeat (first | with_reducible exact Below.refl _ _ | with_reducible assumption | with_reducible exact below_d1 _ _ _ _ _ | with_reducible exact below_d2 _ _ _ _ _ _ _ _ | with_reducible exact below_d3 _ _ _ _ _ | with_reducible exact below_d4 _ _ _ _ _ _ _ _ | with_reducible exact below_d5 _ _ | with_reducible refine Below.drew ?_ | with_reducible refine Below.drewN' ?_ _ | with_reducible refine below_grow0 _ _ ?_ | with_reducible refine below_alloc0 _ ?_ | with_reducible refine Below.setCell ?_ ?_ _ | with_reducible refine Below.alloc ?_ ?_ _ | with_reducible refine Below.grow _ _ _ ?_ ?_ | omega | (simp; done) | (simp; omega)))
            case z72_31 => simp
        exact AllE.nil
      case rest =>
        obtain ⟨wk, rfl⟩ : ∃ wk : World, wk = wc := ⟨_, rfl⟩
        obtain ⟨b2, A7, c7, A8, c8, A9, c9, rfl, rfl, rfl, hbk, hbk1, hbk2, t0, t1, t2, HN, HM, HEV⟩ := hcut
        have hbwk : Below w.heap.size w wk := Below.own hbwj hbk
        have hwk1 : w.heap.size + 1 < wk.heap.size := Nat.lt_of_lt_of_le hwj1 hbk.size
        have hbl4 : b < wk.heap.size := Nat.lt_of_lt_of_le hbl3 hbk.size
        have y03 := keep2 hbk y02
        have y13 := keep2 hbk y12
        have y23 := keep2 hbk y22
        have y33 := keep2 hbk y32
        have y43 := keep2 hbk y42
        have y53 := keep2 hbk y52
        have m03 := keep2 hbk m02
        have m13 := keep2 hbk m12
        have m23 := keep2 hbk m22
        have m33 := keep2 hbk m32
        have m43 := keep2 hbk m42
        have m53 := keep2 hbk m52
        have m63 := keep2 hbk m62
        clear HAP HOW HEV j02 j12 j22 y02 y12 y22 y32 y42 y52 m02 m12 m22 m32 m42 m52 m62
        have hts := HTS.out
        have htb := HAB.out
        clear HAB HTS
        by_cases hc : xz % 2147483648 < 2147483647
        · have HNX := Lib.hid (fun (W : World) => znext_ok xz W HG.out hc)
          obtain ⟨tz, tl, ts⟩ := T
          simp only at t0 t1 t2 HN HM hts htb HP5
          obtain ⟨Y, hY⟩ : ∃ Y, Y = prepX ⟨tz, tl, ts⟩ (xz + 1) ⟨3, rs, rp, rd, rv, fl⟩ := ⟨_, rfl⟩
          obtain ⟨F, hF⟩ : ∃ F, F = prepE ⟨tz, tl, ts⟩ (xz + 1) ⟨3, rs, rp, rd, rv, fl⟩ := ⟨_, rfl⟩
          have HPR := Lib.hid (fun (W : World) (v v2 : Value) (h : Sl cNode 9 W v tl) (h2 : Sl cInt 1 W v2 ts) => trPrepare tz v v2 tl ts (xz + 1) ⟨3, rs, rp, rd, rv, fl⟩ W h h2 (by omega) (by omega) (fun n hn => Nat.le_trans (htb.2 n hn) (by decide)) hp)
          unfold PrepIs at HPR
          rw [← hY, ← hF] at HPR
          have HP6 := Lib.hid (fun (h0 : F = 0) => HP5.out (xz + 1) (hF.symm.trans h0))
          rw [← hY] at HP6
          clear hY hF HP5 hc HG hts htb
          obtain ⟨yz, yo, ys, yp, yd, yv, yw⟩ := Y
          by_cases hF : F = 0
          · subst hF
            obtain ⟨g1, g2⟩ := HP6.out rfl
            simp only at g1 g2
            have hls : Op.bytesLess xp.toList yp.toList = true := by rw [ByteArray.toList_eq, ByteArray.toList_eq]; exact g1
            have hzz : ((yp.size : Int) == (xp.size : Int)) = true := by rw [g2]; exact beq_self_eq_true _
            have hne : (yp.toList == xp.toList) = false := by
              refine beq_eq_false_iff_ne.2 (fun e => ?_)
              rw [e, bytesLess_self] at hls
              exact absurd hls (by decide)
            have hls2 := bytesLess_asymm _ _ hls
            clear HP6 g1
            go_wp2_with (first | (go_at_call 33; refine (HNX.out _).mono ?_; rintro e w1 ⟨rfl, rfl⟩; skip) | (go_at_call 29; refine (HPR.out _ _ _ (HN.out.below (by repeat (first | with_reducible exact Below.refl _ _ | with_reducible assumption | with_reducible exact below_d1 _ _ _ _ _ | with_reducible exact below_d2 _ _ _ _ _ _ _ _ | with_reducible exact below_d3 _ _ _ _ _ | with_reducible exact below_d4 _ _ _ _ _ _ _ _ | with_reducible exact below_d5 _ _ | with_reducible refine Below.drew ?_ | with_reducible refine Below.drewN' ?_ _ | with_reducible refine below_grow0 _ _ ?_ | with_reducible refine below_alloc0 _ ?_ | with_reducible refine Below.setCell ?_ ?_ _ | with_reducible refine Below.alloc ?_ ?_ _ | with_reducible refine Below.grow _ _ _ ?_ ?_ | omega | (simp; done) | (simp; omega)))) (HM.out.below (by repeat (first | with_reducible exact Below.refl _ _ | with_reducible assumption | with_reducible exact below_d1 _ _ _ _ _ | with_reducible exact below_d2 _ _ _ _ _ _ _ _ | with_reducible exact below_d3 _ _ _ _ _ | with_reducible exact below_d4 _ _ _ _ _ _ _ _ | with_reducible exact below_d5 _ _ | with_reducible refine Below.drew ?_ | with_reducible refine Below.drewN' ?_ _ | with_reducible refine below_grow0 _ _ ?_ | with_reducible refine below_alloc0 _ ?_ | with_reducible refine Below.setCell ?_ ?_ _ | with_reducible refine Below.alloc ?_ ?_ _ | with_reducible refine Below.grow _ _ _ ?_ ?_ | omega | (simp; done) | (simp; omega))))).mono ?_; rintro e w1 ⟨rfl, hb⟩; obtain ⟨ext1, d1, rfl⟩ := Below.grown_eq _ hb; clear hb))
            go_ret
            exact ⟨rfl, (by repeat (first | with_reducible exact Below.refl _ _ | with_reducible assumption | with_reducible exact below_d1 _ _ _ _ _ | with_reducible exact below_d2 _ _ _ _ _ _ _ _ | with_reducible exact below_d3 _ _ _ _ _ | with_reducible exact below_d4 _ _ _ _ _ _ _ _ | with_reducible exact below_d5 _ _ | with_reducible refine Below.drew ?_ | with_reducible refine Below.drewN' ?_ _ | with_reducible refine below_grow0 _ _ ?_ | with_reducible refine below_alloc0 _ ?_ | with_reducible refine Below.setCell ?_ ?_ _ | with_reducible refine Below.alloc ?_ ?_ _ | with_reducible refine Below.grow _ _ _ ?_ ?_ | omega | (simp; done) | (simp; omega)))⟩
          · have q1 : (F == 0) = false := beq_eq_false_iff_ne.2 hF
            have q2 : (F != 0) = true := bne_iff_ne.2 hF
            clear HP6 hF
            go_wp2_with (first | (go_at_call 33; refine (HNX.out _).mono ?_; rintro e w1 ⟨rfl, rfl⟩; skip) | (go_at_call 29; refine (HPR.out _ _ _ (HN.out.below (by repeat (first | with_reducible exact Below.refl _ _ | with_reducible assumption | with_reducible exact below_d1 _ _ _ _ _ | with_reducible exact below_d2 _ _ _ _ _ _ _ _ | with_reducible exact below_d3 _ _ _ _ _ | with_reducible exact below_d4 _ _ _ _ _ _ _ _ | with_reducible exact below_d5 _ _ | with_reducible refine Below.drew ?_ | with_reducible refine Below.drewN' ?_ _ | with_reducible refine below_grow0 _ _ ?_ | with_reducible refine below_alloc0 _ ?_ | with_reducible refine Below.setCell ?_ ?_ _ | with_reducible refine Below.alloc ?_ ?_ _ | with_reducible refine Below.grow _ _ _ ?_ ?_ | omega | (simp; done) | (simp; omega)))) (HM.out.below (by repeat (first | with_reducible exact Below.refl _ _ | with_reducible assumption | with_reducible exact below_d1 _ _ _ _ _ | with_reducible exact below_d2 _ _ _ _ _ _ _ _ | with_reducible exact below_d3 _ _ _ _ _ | with_reducible exact below_d4 _ _ _ _ _ _ _ _ | with_reducible exact below_d5 _ _ | with_reducible refine Below.drew ?_ | with_reducible refine Below.drewN' ?_ _ | with_reducible refine below_grow0 _ _ ?_ | with_reducible refine below_alloc0 _ ?_ | with_reducible refine Below.setCell ?_ ?_ _ | with_reducible refine Below.alloc ?_ ?_ _ | with_reducible refine Below.grow _ _ _ ?_ ?_ | omega | (simp; done) | (simp; omega))))).mono ?_; rintro e w1 ⟨rfl, hb⟩; obtain ⟨ext1, d1, rfl⟩ := Below.grown_eq _ hb; clear hb))
            go_ret
            exact ⟨rfl, (by repeat (first | with_reducible exact Below.refl _ _ | with_reducible assumption | with_reducible exact below_d1 _ _ _ _ _ | with_reducible exact below_d2 _ _ _ _ _ _ _ _ | with_reducible exact below_d3 _ _ _ _ _ | with_reducible exact below_d4 _ _ _ _ _ _ _ _ | with_reducible exact below_d5 _ _ | with_reducible refine Below.drew ?_ | with_reducible refine Below.drewN' ?_ _ | with_reducible refine below_grow0 _ _ ?_ | with_reducible refine below_alloc0 _ ?_ | with_reducible refine Below.setCell ?_ ?_ _ | with_reducible refine Below.alloc ?_ ?_ _ | with_reducible refine Below.grow _ _ _ ?_ ?_ | omega | (simp; done) | (simp; omega)))⟩
        · have HNX := Lib.hid (fun (W : World) => znext_full xz W HG.out hc)
          clear hc HG HP5 hts htb
          go_wp2_with (go_at_call 33; refine (HNX.out _).mono ?_; rintro e w1 ⟨rfl, rfl⟩; skip)
          go_ret
          exact ⟨rfl, (by repeat (first | with_reducible exact Below.refl _ _ | with_reducible assumption | with_reducible exact below_d1 _ _ _ _ _ | with_reducible exact below_d2 _ _ _ _ _ _ _ _ | with_reducible exact below_d3 _ _ _ _ _ | with_reducible exact below_d4 _ _ _ _ _ _ _ _ | with_reducible exact below_d5 _ _ | with_reducible refine Below.drew ?_ | with_reducible refine Below.drewN' ?_ _ | with_reducible refine below_grow0 _ _ ?_ | with_reducible refine below_alloc0 _ ?_ | with_reducible refine Below.setCell ?_ ?_ _ | with_reducible refine Below.alloc ?_ ?_ _ | with_reducible refine Below.grow _ _ _ ?_ ?_ | omega | (simp; done) | (simp; omega)))⟩
    · have q1 : (E == 0) = false := beq_eq_false_iff_ne.2 hE
      have q2 : (E != 0) = true := bne_iff_ne.2 hE
      clear HLW hE
      go_wp2_with ((go_at_call 30; refine (HMK.out _).mono ?_; rintro e w1 ⟨rfl, hb⟩; obtain ⟨ext0, d0, rfl⟩ := Below.grown_eq _ hb; clear hb))
      go_ret
      exact ⟨rfl, (by repeat (first | with_reducible exact Below.refl _ _ | with_reducible assumption | with_reducible exact below_d1 _ _ _ _ _ | with_reducible exact below_d2 _ _ _ _ _ _ _ _ | with_reducible exact below_d3 _ _ _ _ _ | with_reducible exact below_d4 _ _ _ _ _ _ _ _ | with_reducible exact below_d5 _ _ | with_reducible refine Below.drew ?_ | with_reducible refine Below.drewN' ?_ _ | with_reducible refine below_grow0 _ _ ?_ | with_reducible refine below_alloc0 _ ?_ | with_reducible refine Below.setCell ?_ ?_ _ | with_reducible refine Below.alloc ?_ ?_ _ | with_reducible refine Below.grow _ _ _ ?_ ?_ | omega | (simp; done) | (simp; omega)))⟩

namespace prepSerials
theorem own : ownKnob Tryd.prog.godebug = none := by kernel_rfl
theorem laidOut : laidOutB Tryd.prog = true := by kernel_rfl
set_option maxRecDepth 100000 in
set_option maxHeartbeats 1000000 in
theorem lifted (os : Os) (started : os.Started) (H : Type) (enc : TypeId × Value → H) :
    ReturnsInHanded {} Tryd.checked os 11 .any (fun w args => (Rows.prepSerialsSpec.pre enc Tryd.prog Tryd.f11 Rows.prepSerialsRow.domain false w args ∧ laidMetH Tryd.prog Rows.prepSerialsRow.laid w) ∧ sizedMet enc Tryd.prog Tryd.f11 (OpenSpec.ofChange Rows.prepSerialsSpec) false w args) (Rows.prepSerialsSpec.post enc Tryd.prog Tryd.f11 false true false false) := by
  refine returnsInHanded_of_change_and (C := Tryd.checked) (X := fun w _ => laidMetH Tryd.prog Rows.prepSerialsRow.laid w) (fun _ _ _ hh h => h.of_heap hh) own started (by kernel_rfl) Tryd.func11
    (ChangeSpec.witness_shaped (enc := enc) (C := Tryd.checked) (os := os) (X := fun w _ => laidMetH Tryd.prog Rows.prepSerialsRow.laid w) false (World.laidAll Tryd.prog os Rows.prepSerialsRow.laid) #[.agg #[.int .i64 0,.slice none 0 0,.slice none 0 0], .int .i64 0, .agg #[.int .i64 0,.int .i64 0,.string ByteArray.empty,.string ByteArray.empty,.int .i64 0,.int .i64 0]] 8 (World.laidAll_os _ _ _)
      (World.shaped_of_ZipB (by kernel_rfl) (by kernel_rfl)) (by kernel_rfl) (by kernel_rfl) (by kernel_rfl)
      (by rw [MakeChecks.laidMetH_plain _ _ _ (by kernel_rfl)]; exact laidMet_laidAll _ (by kernel_rfl) (by kernel_rfl))) ?_
  intro W base args ds gs before hval0 hW0 _ hsz0 hL _
  have hval : ∀ (j : Nat) t v, Tryd.f11.params[j]? = some t → args[j]? = some v → Value.okWide Tryd.prog W .any base t v := hval0
  have hW : DataW.Whole enc Tryd.prog Tryd.f11.params.toList Rows.prepSerialsSpec.vars false W args.toList ds gs before := hW0
  have hlt : ∀ p ∈ before, p.block < W.heap.size := fun p hp => hW.lt p hp
  have hW1 := hW
  obtain ⟨p, q, hA0, hV, rfl, hfz, hnd⟩ := hW1
  have hA : DataW.TrodAll enc Tryd.prog W 0 (fun _ => true) true Tryd.f11.params.toList args.toList ds p := hA0
  obtain ⟨rfl, rfl⟩ := trodVars_none hV
  rw [Tryd.params11] at hA hval
  obtain ⟨v0, vs0, d0, ds0, p0, q0, hargs, rfl, rfl, h0, r0⟩ := trodAll_cons hA
  obtain ⟨v1, vs1, d1, ds1, p1, q1, rfl, rfl, rfl, h1, r1⟩ := trodAll_cons r0
  obtain ⟨v2, vs2, d2, ds2, p2, q2, rfl, rfl, rfl, h2, r2⟩ := trodAll_cons r1
  obtain ⟨rfl, rfl, rfl⟩ := trodAll_nil r2
  obtain rfl : args = #[v0, v1, v2] := by cases args; simp_all
  have hsz : (DataW.weightsEach Tryd.prog [25, 3, 67] [d0, d1, d2]).all (· ≤ reachBytes) = true := hsz0
  have close : ∀ e W', (e = Ending.returned (.bool true) ∧ Below W.heap.size W W') → ∃ v, e = .returned v ∧ Rows.prepSerialsSpec.post enc Tryd.prog Tryd.f11 false true false false W #[v0, v1, v2] v W' :=
    fun e W' ⟨he, hb⟩ => ⟨_, he, law_post laidOut (of_decide_eq_true (by kernel_rfl)) rfl rfl Tryd.underlying4 hW rfl hb⟩
  clear hA0 hsz0 hval0 hW0 hA hV hW hfz hnd
  obtain ⟨a1, rfl, hd1, _, wf1⟩ := open_int Tryd.underlying3 (hval 1 3 v1 rfl rfl) h1
  obtain ⟨cs, rfl, _⟩ := okWide_struct Tryd.underlying25 (hval 0 _ v0 rfl rfl)
  obtain ⟨z, v, vs, l, ss, hp, hN, hS, hz, hn, hn2⟩ := open_tree (n := 0) (open_deep 10 h0 (sized_arg hsz 0 rfl rfl))
  obtain rfl : cs = #[.int .i64 z, v, vs] := by simpa [Value.cells] using congrArg List.toArray hp
  obtain ⟨cs2, rfl, _⟩ := okWide_struct Tryd.underlying67 (hval 2 _ v2 rfl rfl)
  obtain ⟨r, hp2, hrp⟩ := open_request (n := 0) (open_deep 10 h2 (sized_arg hsz 2 rfl rfl))
  obtain rfl : cs2 = (cRequest r).toArray := by simpa [Value.cells] using congrArg List.toArray hp2
  exact (prepSerials_ok z v vs l ss a1 r W hN hS hn hn2 hz (by omega)).mono close
theorem proved : Rows.PrepSerialsSaid :=
  OpenClaim.holds_of_wide 11 Tryd.f11 rfl rfl rfl rfl rfl rfl rfl ⟨rfl, rfl, rfl, rfl, rfl⟩ rfl rfl rfl rfl rfl (by kernel_rfl) Tryd.func11 (by kernel_rfl)
    (of_decide_eq_true (by kernel_rfl)) (by unfold Func.isWrapper; first | (rw [if_pos (by decide +kernel)]; kernel_rfl) | (rw [if_neg (by decide +kernel)]; exact ⟨rfl, rfl⟩))
    (fun os started H enc _ => lifted os started H enc)
theorem card : Rows.PrepSerialsCardSaid :=
  Claim7.holds_tied_plain_at .later [] Rows.prepSerialsCard.laidKinds true Rows.prepSerialsCard.stood.harness false
    proved (fun _ h => by cases h) (by kernel_rfl) (fun _ h => by cases h) prepSerials_row_tie rfl ⟨rfl, rfl⟩ (by kernel_rfl) rfl
    (fun f fn hf hfn => by
      obtain rfl : f = 11 := Option.some.inj ((show Tryd.prog.funcNamed "aviary/aviarykeep.PrepSerials" = some 11 by kernel_rfl).symm.trans hf) |>.symm
      obtain rfl : fn = Tryd.f11 := (Option.some.inj (Tryd.func11.symm.trans hfn)).symm
      exact ⟨by kernel_rfl, fun j t ht => by
        rw [Tryd.params11] at ht
        have hm : t ∈ [25, 3, 67] := by simpa using Array.mem_of_getElem? ht
        have hall : ([25, 3, 67].all fun u => !Tryd.prog.wantsStandIn u) = true := by kernel_rfl
        exact (show Tryd.prog.wantsStandIn t = false by simpa using List.all_eq_true.1 hall t hm)⟩)
    (by kernel_rfl)
end prepSerials
end Go.Proofs.YteolglmifimnaaaDoor
