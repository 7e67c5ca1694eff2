/- The law PrepVersions is true for every input; no conditions. -/
import Derived.Test.YteolglmifimnaaaDoorCards
import Derived.Test.YteolglmifimnaaaDoorTie
import Derived.Lay
import Derived.LaidMore
import Derived.SevenTiedAt
import Derived.Test.YteolglmifimnaaaDoorPt1
import Derived.Test.YteolglmifimnaaaDoorPt2
import Derived.Test.YteolglmifimnaaaDoorPt3
import Derived.Test.YteolglmifimnaaaDoorPt4
import Derived.Test.YteolglmifimnaaaDoorPt5
import Derived.Test.YteolglmifimnaaaDoorPt6
import Derived.Test.YteolglmifimnaaaDoorPt7
import Derived.Test.YteolglmifimnaaaDoorPt8
import Derived.Test.YteolglmifimnaaaDoorPt9
import Derived.Test.YteolglmifimnaaaDoorPt10
import Derived.Test.YteolglmifimnaaaDoorPt11
import Derived.Test.YteolglmifimnaaaDoorPt12
namespace Go.Proofs.YteolglmifimnaaaDoor
open Go.RowKit Go.ChangeShapes Go.WideShapes Go.ChangeAt
set_option maxRecDepth 100000 in
set_option maxHeartbeats 4000000 in
theorem prepVersions_ok (z : Int) (v v2 : Value) (l : List Node) (ss : List Int) (zz : Int) (r : Request) (u : Int) (w : World) (h : Sl cNode 9 w v l) (h2 : Sl cInt 1 w v2 ss) (hn : l.length * 88 ≤ 140737488355328) (hn2 : ss.length * 8 ≤ 140737488351232) (hz : ∀ n ∈ l, n.path.size ≤ 9223372036854775807) (hp : r.path.size ≤ 4611686018427387904) :
    Calls Tryd.prog 10 #[.agg #[.int .i64 z, v, v2], .int .i64 zz, reqV r, .int .i64 u] w fun e w' => e = .returned (.bool true) ∧ Below w.heap.size w w' := by
  obtain ⟨A, c, rfl, h1, h1b⟩ := h.form
  obtain ⟨A2, c2, rfl, h3, h3b⟩ := h2.form
  have HV := Lib.hid h
  have HS := Lib.hid h2
  clear h h2
  obtain ⟨ro, rs, rp, rd, rv, rf⟩ := r
  simp only at hp
  obtain ⟨op, hop, ho⟩ : ∃ op : Int, (op = 4 ∨ op = 5) ∧ op = if ro = 4 then 4 else 5 := ⟨if ro = 4 then 4 else 5, by split <;> simp, rfl⟩
  have HPA := Lib.hid (fun (ver : Int) (W : World) (v v2 : Value) (h : Sl cNode 9 W v l) (h2 : Sl cInt 1 W v2 ss) => trPrepare z v v2 l ss zz ⟨op, rs, rp, rd, ver, rf⟩ W h h2 hn (by omega) hz hp)
  have HOW := Lib.hid (fun (W : World) (h : Sl cNode 9 W (.slice A l.length c) l) (h2 : Sl cInt 1 W (.slice A2 ss.length c2) ss) => lawOwn z (.slice A l.length c) (.slice A2 ss.length c2) l ss W h h2 hn (by omega))
  have HGT := Lib.hid (fun (W : World) (h : Sl cNode 9 W (.slice A l.length c) l) => trGet z (.slice A l.length c) A2 ss.length c2 l rp W h (by omega))
  have HMK := Lib.hid (fun (W : World) => makes_is W)
  have HLW := Lib.hid (fun (h0 : prepE ⟨z, l, ss⟩ zz ⟨op, rs, rp, rd, -1, rf⟩ = 0) => vers_law (t := ⟨z, l, ss⟩) (z := zz) (r := ⟨op, rs, rp, rd, 0, rf⟩) hop h0)
  simp only at HLW
  unfold PrepIs at HPA
  unfold getE at HGT
  have HO := Lib.hid ho
  clear ho hop
  go_enter Tryd.func10, Tryd.ntmps10
  go_upto_region 1 with fail
  go_cut [24] (fun s24 wx => s24 = .bool (decide (ro ≠ 4 ∧ ro ≠ 5)) ∧ Below w.heap.size w wx ∧ Hid (Bk wx w.heap.size [.int .i64 z, .slice A l.length c, .slice A2 ss.length c2] 25) ∧ Hid (Bk wx (w.heap.size + 1) [.int .i64 ro, .int .i64 rs, .string rp, .string rd, .int .i64 rv, .int .i64 rf] 67))
  case first =>
    by_cases q4 : ro = 4
    · subst q4
      go_wp2_with fail
      go_meet
      refine ⟨?_, (by repeat (first | with_reducible exact Below.refl _ _ | with_reducible assumption | with_reducible exact below_d1 _ _ _ _ _ | with_reducible exact below_d2 _ _ _ _ _ _ _ _ | with_reducible exact below_d3 _ _ _ _ _ | with_reducible exact below_d4 _ _ _ _ _ _ _ _ | with_reducible exact below_d5 _ _ | with_reducible refine Below.drew ?_ | with_reducible refine Below.drewN' ?_ _ | with_reducible refine below_grow0 _ _ ?_ | with_reducible refine below_alloc0 _ ?_ | with_reducible refine Below.setCell ?_ ?_ _ | with_reducible refine Below.alloc ?_ ?_ _ | with_reducible refine Below.grow _ _ _ ?_ ?_ | omega | (simp; done) | (simp; omega))), Lib.hid ?_, Lib.hid ?_⟩
      · simp
      · exact (Bk.new w _ _ rfl).below (by repeat (first | with_reducible exact Below.refl _ _ | with_reducible assumption | with_reducible exact below_d1 _ _ _ _ _ | with_reducible exact below_d2 _ _ _ _ _ _ _ _ | with_reducible exact below_d3 _ _ _ _ _ | with_reducible exact below_d4 _ _ _ _ _ _ _ _ | with_reducible exact below_d5 _ _ | with_reducible refine Below.drew ?_ | with_reducible refine Below.drewN' ?_ _ | with_reducible refine below_grow0 _ _ ?_ | with_reducible refine below_alloc0 _ ?_ | with_reducible refine Below.setCell ?_ ?_ _ | with_reducible refine Below.alloc ?_ ?_ _ | with_reducible refine Below.grow _ _ _ ?_ ?_ | omega | (simp; done) | (simp; omega)))
      · exact Bk.new _ _ _ (by simp)
    · by_cases q5 : ro = 5
      · subst q5
        go_wp2_with fail
        go_meet
        refine ⟨?_, (by repeat (first | with_reducible exact Below.refl _ _ | with_reducible assumption | with_reducible exact below_d1 _ _ _ _ _ | with_reducible exact below_d2 _ _ _ _ _ _ _ _ | with_reducible exact below_d3 _ _ _ _ _ | with_reducible exact below_d4 _ _ _ _ _ _ _ _ | with_reducible exact below_d5 _ _ | with_reducible refine Below.drew ?_ | with_reducible refine Below.drewN' ?_ _ | with_reducible refine below_grow0 _ _ ?_ | with_reducible refine below_alloc0 _ ?_ | with_reducible refine Below.setCell ?_ ?_ _ | with_reducible refine Below.alloc ?_ ?_ _ | with_reducible refine Below.grow _ _ _ ?_ ?_ | omega | (simp; done) | (simp; omega))), Lib.hid ?_, Lib.hid ?_⟩
        · simp
        · exact (Bk.new w _ _ rfl).below (by repeat (first | with_reducible exact Below.refl _ _ | with_reducible assumption | with_reducible exact below_d1 _ _ _ _ _ | with_reducible exact below_d2 _ _ _ _ _ _ _ _ | with_reducible exact below_d3 _ _ _ _ _ | with_reducible exact below_d4 _ _ _ _ _ _ _ _ | with_reducible exact below_d5 _ _ | with_reducible refine Below.drew ?_ | with_reducible refine Below.drewN' ?_ _ | with_reducible refine below_grow0 _ _ ?_ | with_reducible refine below_alloc0 _ ?_ | with_reducible refine Below.setCell ?_ ?_ _ | with_reducible refine Below.alloc ?_ ?_ _ | with_reducible refine Below.grow _ _ _ ?_ ?_ | omega | (simp; done) | (simp; omega)))
        · exact Bk.new _ _ _ (by simp)
      · have e4 : (ro == 4) = false := beq_eq_false_iff_ne.2 q4
        have e5 : (ro == 5) = false := beq_eq_false_iff_ne.2 q5
        have e6 : (ro != 4) = true := bne_iff_ne.2 q4
        have e7 : (ro != 5) = true := bne_iff_ne.2 q5
        go_wp2_with fail
        go_meet
        refine ⟨?_, (by repeat (first | with_reducible exact Below.refl _ _ | with_reducible assumption | with_reducible exact below_d1 _ _ _ _ _ | with_reducible exact below_d2 _ _ _ _ _ _ _ _ | with_reducible exact below_d3 _ _ _ _ _ | with_reducible exact below_d4 _ _ _ _ _ _ _ _ | with_reducible exact below_d5 _ _ | with_reducible refine Below.drew ?_ | with_reducible refine Below.drewN' ?_ _ | with_reducible refine below_grow0 _ _ ?_ | with_reducible refine below_alloc0 _ ?_ | with_reducible refine Below.setCell ?_ ?_ _ | with_reducible refine Below.alloc ?_ ?_ _ | with_reducible refine Below.grow _ _ _ ?_ ?_ | omega | (simp; done) | (simp; omega))), Lib.hid ?_, Lib.hid ?_⟩
        · rw [decide_eq_true ⟨q4, q5⟩]
        · exact (Bk.new w _ _ rfl).below (by repeat (first | with_reducible exact Below.refl _ _ | with_reducible assumption | with_reducible exact below_d1 _ _ _ _ _ | with_reducible exact below_d2 _ _ _ _ _ _ _ _ | with_reducible exact below_d3 _ _ _ _ _ | with_reducible exact below_d4 _ _ _ _ _ _ _ _ | with_reducible exact below_d5 _ _ | with_reducible refine Below.drew ?_ | with_reducible refine Below.drewN' ?_ _ | with_reducible refine below_grow0 _ _ ?_ | with_reducible refine below_alloc0 _ ?_ | with_reducible refine Below.setCell ?_ ?_ _ | with_reducible refine Below.alloc ?_ ?_ _ | with_reducible refine Below.grow _ _ _ ?_ ?_ | omega | (simp; done) | (simp; omega)))
        · exact Bk.new _ _ _ (by simp)
  case rest =>
    obtain ⟨wi, rfl⟩ : ∃ wi : World, wi = wc := ⟨_, rfl⟩
    obtain ⟨rfl, hbi, HT0, HR0⟩ := hcut
    have hi0 : w.heap.size + 1 < wi.heap.size := HR0.out.lt
    have k0 : wi.cell? ⟨w.heap.size + 1, 0, none⟩ = some (.int .i64 ro) := HR0.out.cell 0
    have kf0 : wi.frozen? ⟨w.heap.size + 1, 0, none⟩ = false := HR0.out.frozen 0
    go_upto_if 24 with fail
    go_cut [] (fun wx => Below w.heap.size w wx ∧ Hid (Bk wx w.heap.size [.int .i64 z, .slice A l.length c, .slice A2 ss.length c2] 25) ∧ Hid (Bk wx (w.heap.size + 1) [.int .i64 op, .int .i64 rs, .string rp, .string rd, .int .i64 rv, .int .i64 rf] 67))
    case first =>
      by_cases q45 : ro ≠ 4 ∧ ro ≠ 5
      · have hd : decide (ro ≠ 4 ∧ ro ≠ 5) = true := decide_eq_true q45
        have hop : op = 5 := HO.out.trans (if_neg q45.1)
        have HOP := Lib.hid hop
        rw [hd]
        clear q45 hd hop
        go_wp2_with fail
        go_meet
        refine ⟨Below.set_up hbi (by omega), Lib.hid ?_, Lib.hid ?_⟩
        · exact HT0.out.far (by omega)
        · rw [HOP.out]; exact HR0.out.put 0 (.int .i64 5)
      · have hd : decide (ro ≠ 4 ∧ ro ≠ 5) = false := decide_eq_false q45
        have hop : op = ro := by
          rw [HO.out]
          by_cases q4 : ro = 4
          · rw [if_pos q4, q4]
          · rw [if_neg q4]
            exact (Classical.byContradiction fun q5 => q45 ⟨q4, fun e => q5 e.symm⟩)
        have HOP := Lib.hid hop
        rw [hd]
        clear q45 hd hop
        go_wp2_with fail
        go_meet
        exact ⟨hbi, HT0, by rw [HOP.out]; exact HR0⟩
    case rest =>
      obtain ⟨wj, rfl⟩ : ∃ wj : World, wj = wc := ⟨_, rfl⟩
      obtain ⟨hbj, HT, HRj⟩ := hcut
      have hj0 : w.heap.size + 1 < wj.heap.size := HRj.out.lt
      have k4 : wj.cell? ⟨w.heap.size + 1, 4, none⟩ = some (.int .i64 rv) := HRj.out.cell 4
      have kf4 : wj.frozen? ⟨w.heap.size + 1, 4, none⟩ = false := HRj.out.frozen 4
      clear k0 kf0 hbi HT0 HR0 hi0
      go_upto_region 4 with fail
      refine gen_w (fun W1 hW1 => ?_)
      have hbW1 : Below w.heap.size w W1 := by rw [hW1.out]; exact Below.set_up hbj (by omega)
      have HT := Lib.hid (show Bk W1 w.heap.size [.int .i64 z, .slice A l.length c, .slice A2 ss.length c2] 25 by rw [hW1.out]; exact HT.out.far (by omega))
      have HR := Lib.hid (show Bk W1 (w.heap.size + 1) [.int .i64 op, .int .i64 rs, .string rp, .string rd, .int .i64 (-1), .int .i64 rf] 67 by rw [hW1.out]; exact HRj.out.put 4 (.int .i64 (-1)))
      have hs1 : w.heap.size + 1 < W1.heap.size := HR.out.lt
      clear hW1 hbj HRj k4 kf4 hj0
      obtain ⟨X, hX⟩ : ∃ X, X = prepX ⟨z, l, ss⟩ zz ⟨op, rs, rp, rd, -1, rf⟩ := ⟨_, rfl⟩
      obtain ⟨E, hE⟩ : ∃ E, E = prepE ⟨z, l, ss⟩ zz ⟨op, rs, rp, rd, -1, rf⟩ := ⟨_, rfl⟩
      have HPR := Lib.hid (HPA.out (-1))
      rw [← hX, ← hE] at HPR
      rw [← hX, ← hE] at HLW
      clear hX hE
      have j0 : W1.cell? ⟨w.heap.size, 0, none⟩ = some (.int .i64 z) := HT.out.cell 0
      have j1 : W1.cell? ⟨w.heap.size, 1, none⟩ = some (.slice A l.length c) := HT.out.cell 1
      have j2 : W1.cell? ⟨w.heap.size, 2, none⟩ = some (.slice A2 ss.length c2) := HT.out.cell 2
      have y0 : W1.cell? ⟨w.heap.size + 1, 0, none⟩ = some (.int .i64 op) := HR.out.cell 0
      have y1 : W1.cell? ⟨w.heap.size + 1, 1, none⟩ = some (.int .i64 rs) := HR.out.cell 1
      have y2 : W1.cell? ⟨w.heap.size + 1, 2, none⟩ = some (.string rp) := HR.out.cell 2
      have y3 : W1.cell? ⟨w.heap.size + 1, 3, none⟩ = some (.string rd) := HR.out.cell 3
      have y4 : W1.cell? ⟨w.heap.size + 1, 4, none⟩ = some (.int .i64 (-1)) := HR.out.cell 4
      have y5 : W1.cell? ⟨w.heap.size + 1, 5, none⟩ = some (.int .i64 rf) := HR.out.cell 5
      have yf4 : W1.frozen? ⟨w.heap.size + 1, 4, none⟩ = false := HR.out.frozen 4
      go_cut [9, 10] (fun s7 s8 wx => CutP W1 X E s7 s8 wx)
      case first =>
        refine wp_region_noPanic ?_
        refine wp_region_W (by kernel_rfl) (fun W hW => ?_)
        have cl0 : W.cell? ⟨w.heap.size, 0, none⟩ = some (.int .i64 z) := by rw [hW.out]; go_simp
        have cl1 : W.cell? ⟨w.heap.size, 1, none⟩ = some (.slice A l.length c) := by rw [hW.out]; go_simp
        have cl2 : W.cell? ⟨w.heap.size, 2, none⟩ = some (.slice A2 ss.length c2) := by rw [hW.out]; go_simp
        have cl3 : W.cell? ⟨w.heap.size + 1, 0, none⟩ = some (.int .i64 op) := by rw [hW.out]; go_simp
        have cl4 : W.cell? ⟨w.heap.size + 1, 1, none⟩ = some (.int .i64 rs) := by rw [hW.out]; go_simp
        have cl5 : W.cell? ⟨w.heap.size + 1, 2, none⟩ = some (.string rp) := by rw [hW.out]; go_simp
        have cl6 : W.cell? ⟨w.heap.size + 1, 3, none⟩ = some (.string rd) := by rw [hW.out]; go_simp
        have cl7 : W.cell? ⟨w.heap.size + 1, 4, none⟩ = some (.int .i64 (-1)) := by rw [hW.out]; go_simp
        have cl8 : W.cell? ⟨w.heap.size + 1, 5, none⟩ = some (.int .i64 rf) := by rw [hW.out]; go_simp
        have HVW := Lib.hid (HV.out.below (w' := W) (by rw [hW.out]; exact hbW1.drew))
        have HSW := Lib.hid (HS.out.below (w' := W) (by rw [hW.out]; exact hbW1.drew))
        have hWs : w.heap.size + 1 < W.heap.size := by rw [hW.out]; simp <;> omega
        have hW1W : Below W1.heap.size W1 W := by rw [hW.out]; exact (by repeat (first | with_reducible exact Below.refl _ _ | with_reducible assumption | with_reducible exact below_d1 _ _ _ _ _ | with_reducible exact below_d2 _ _ _ _ _ _ _ _ | with_reducible exact below_d3 _ _ _ _ _ | with_reducible exact below_d4 _ _ _ _ _ _ _ _ | with_reducible exact below_d5 _ _ | with_reducible refine Below.drew ?_ | with_reducible refine Below.drewN' ?_ _ | with_reducible refine below_grow0 _ _ ?_ | with_reducible refine below_alloc0 _ ?_ | with_reducible refine Below.setCell ?_ ?_ _ | with_reducible refine Below.alloc ?_ ?_ _ | with_reducible refine Below.grow _ _ _ ?_ ?_ | omega | (simp; done) | (simp; omega)))
        have hWs1 : W.heap.size = W1.heap.size := by rw [hW.out]; simp
        refine wpAny_S (fun w' => w'.cell? ⟨w.heap.size, 0, none⟩ = some (.int .i64 z) ∧ w'.cell? ⟨w.heap.size, 1, none⟩ = some (.slice A l.length c) ∧ w'.cell? ⟨w.heap.size, 2, none⟩ = some (.slice A2 ss.length c2) ∧ w'.cell? ⟨w.heap.size + 1, 0, none⟩ = some (.int .i64 op) ∧ w'.cell? ⟨w.heap.size + 1, 1, none⟩ = some (.int .i64 rs) ∧ w'.cell? ⟨w.heap.size + 1, 2, none⟩ = some (.string rp) ∧ w'.cell? ⟨w.heap.size + 1, 3, none⟩ = some (.string rd) ∧ w'.cell? ⟨w.heap.size + 1, 4, none⟩ = some (.int .i64 (-1)) ∧ w'.cell? ⟨w.heap.size + 1, 5, none⟩ = some (.int .i64 rf)) (fun i => false) (by (try dsimp only); (refine ⟨?_, ?_, ?_, ?_, ?_, ?_, ?_, ?_, ?_⟩ <;> go_simp)) (fun hHeld => ?_)
        (refine wpE_take (i := 0) (v := ?gV1_1) (by simp only [List.getElem?_toArray]; rfl) (by kernel_rfl) (by kernel_rfl) (by kernel_rfl) (by kernel_rfl) (by kernel_rfl) (by rfl) (fun _ _ _ h => h) (Or.inl ⟨by rfl, ?gY1_1⟩) (by assumption) ?gR1_1; case gY1_1 => (intro w hSw; (try dsimp only at hSw); go_simp <;> with_reducible rfl))
        try simp only [Act.put, List.setIfInBounds_toArray, List.set_cons_zero, List.set_cons_succ]
        (refine wpE_takeP (i := 2) (v := ?gV1_2) (by simp only [List.getElem?_toArray]; rfl) (by kernel_rfl) (by kernel_rfl) (by kernel_rfl) (by rfl) (fun _ _ _ h => h) (Or.inl ⟨by rfl, ?gY1_2⟩) (by assumption) ?gR1_2; case gY1_2 => (intro w hSw; (try dsimp only at hSw); go_simp <;> with_reducible rfl))
        try simp only [Act.put, List.setIfInBounds_toArray, List.set_cons_zero, List.set_cons_succ]
        (refine wpE_take (i := 3) (v := ?gV1_3) (by simp only [List.getElem?_toArray]; rfl) (by kernel_rfl) (by kernel_rfl) (by kernel_rfl) (by kernel_rfl) (by kernel_rfl) (by rfl) (fun _ _ _ h => h) (Or.inl ⟨by rfl, ?gY1_3⟩) (by assumption) ?gR1_3; case gY1_3 => (intro w hSw; (try dsimp only at hSw); go_simp <;> with_reducible rfl))
        try simp only [Act.put, List.setIfInBounds_toArray, List.set_cons_zero, List.set_cons_succ]
        refine wpE_ready (rs := [1, 8]) (by kernel_rfl) (by simp) ?_
        refine AllE.cons (by simp only [List.getElem?_toArray]; rfl) (fun K hK => ?gO1_4) ?gL1_4
        case gO1_4 =>
          go_simp
          (go_at_call 16; (with_reducible refine (HOW.out _ (HVW.out.below (by repeat (first | with_reducible exact Below.refl _ _ | with_reducible assumption | with_reducible exact below_d1 _ _ _ _ _ | with_reducible exact below_d2 _ _ _ _ _ _ _ _ | with_reducible exact below_d3 _ _ _ _ _ | with_reducible exact below_d4 _ _ _ _ _ _ _ _ | with_reducible exact below_d5 _ _ | with_reducible refine Below.drew ?_ | with_reducible refine Below.drewN' ?_ _ | with_reducible refine below_grow0 _ _ ?_ | with_reducible refine below_alloc0 _ ?_ | with_reducible refine Below.setCell ?_ ?_ _ | with_reducible refine Below.alloc ?_ ?_ _ | with_reducible refine Below.grow _ _ _ ?_ ?_ | omega | (simp; done) | (simp; omega)))) (HSW.out.below (by repeat (first | with_reducible exact Below.refl _ _ | with_reducible assumption | with_reducible exact below_d1 _ _ _ _ _ | with_reducible exact below_d2 _ _ _ _ _ _ _ _ | with_reducible exact below_d3 _ _ _ _ _ | with_reducible exact below_d4 _ _ _ _ _ _ _ _ | with_reducible exact below_d5 _ _ | with_reducible refine Below.drew ?_ | with_reducible refine Below.drewN' ?_ _ | with_reducible refine below_grow0 _ _ ?_ | with_reducible refine below_alloc0 _ ?_ | with_reducible refine Below.setCell ?_ ?_ _ | with_reducible refine Below.alloc ?_ ?_ _ | with_reducible refine Below.grow _ _ _ ?_ ?_ | omega | (simp; done) | (simp; omega))))).mono ?_); rintro e w1 ⟨A5, c5, A6, c6, rfl, ho1, ho2, hb1⟩; obtain ⟨ext1, d1, rfl⟩ := Below.grown_eq _ hb1; have HO1 := Lib.hid ho1.sl; have HO2 := Lib.hid ho2.sl; clear ho1 ho2 hb1)
          refine hK.out _ _ ?gT1_4 (fun hHeld => ?_)
          case gT1_4 => ((try dsimp only); (refine ⟨?_, ?_, ?_, ?_, ?_, ?_, ?_, ?_, ?_⟩ <;> go_simp))
          clear hK K
          skip
          refine wpE_ready (rs := [4, 8]) (by kernel_rfl) (by simp) ?_
          refine AllE.cons (by simp only [List.getElem?_toArray]; rfl) (fun K hK => ?gO1_5) ?gL1_5
          case gO1_5 =>
            go_simp
            (go_at_call 29; (with_reducible refine (HPR.out _ _ _ (HO1.out.below (by repeat (first | with_reducible exact Below.refl _ _ | with_reducible assumption | with_reducible exact below_d1 _ _ _ _ _ | with_reducible exact below_d2 _ _ _ _ _ _ _ _ | with_reducible exact below_d3 _ _ _ _ _ | with_reducible exact below_d4 _ _ _ _ _ _ _ _ | with_reducible exact below_d5 _ _ | with_reducible refine Below.drew ?_ | with_reducible refine Below.drewN' ?_ _ | with_reducible refine below_grow0 _ _ ?_ | with_reducible refine below_alloc0 _ ?_ | with_reducible refine Below.setCell ?_ ?_ _ | with_reducible refine Below.alloc ?_ ?_ _ | with_reducible refine Below.grow _ _ _ ?_ ?_ | omega | (simp; done) | (simp; omega)))) (HO2.out.below (by repeat (first | with_reducible exact Below.refl _ _ | with_reducible assumption | with_reducible exact below_d1 _ _ _ _ _ | with_reducible exact below_d2 _ _ _ _ _ _ _ _ | with_reducible exact below_d3 _ _ _ _ _ | with_reducible exact below_d4 _ _ _ _ _ _ _ _ | with_reducible exact below_d5 _ _ | with_reducible refine Below.drew ?_ | with_reducible refine Below.drewN' ?_ _ | with_reducible refine below_grow0 _ _ ?_ | with_reducible refine below_alloc0 _ ?_ | with_reducible refine Below.setCell ?_ ?_ _ | with_reducible refine Below.alloc ?_ ?_ _ | with_reducible refine Below.grow _ _ _ ?_ ?_ | omega | (simp; done) | (simp; omega))))).mono ?_); rintro e w3 ⟨rfl, hb3⟩; obtain ⟨ext3, d3, rfl⟩ := Below.grown_eq _ hb3; clear hb3)
            refine hK.out _ _ ?gT1_5 (fun hHeld => ?_)
            case gT1_5 => ((try dsimp only); (refine ⟨?_, ?_, ?_, ?_, ?_, ?_, ?_, ?_, ?_⟩ <;> go_simp))
            clear hK K
            try simp only [Act.put, List.setIfInBounds_toArray, List.set_cons_zero, List.set_cons_succ]
            (refine wpE_takeP (i := 5) (v := ?gV1_6) (by simp only [List.getElem?_toArray]; rfl) (by kernel_rfl) (by kernel_rfl) (by kernel_rfl) (by rfl) (fun _ _ _ h => h) (Or.inl ⟨by rfl, ?gY1_6⟩) (by assumption) ?gR1_6; case gY1_6 => (intro w hSw; (try dsimp only at hSw); go_simp <;> with_reducible rfl))
            try simp only [Act.put, List.setIfInBounds_toArray, List.set_cons_zero, List.set_cons_succ]
            (refine wpE_takeP (i := 6) (v := ?gV1_7) (by simp only [List.getElem?_toArray]; rfl) (by kernel_rfl) (by kernel_rfl) (by kernel_rfl) (by rfl) (fun _ _ _ h => h) (Or.inl ⟨by rfl, ?gY1_7⟩) (by assumption) ?gR1_7; case gY1_7 => (intro w hSw; (try dsimp only at hSw); go_simp <;> with_reducible rfl))
            try simp only [Act.put, List.setIfInBounds_toArray, List.set_cons_zero, List.set_cons_succ]
            (refine wpE_takeP (i := 7) (v := ?gV1_8) (by simp only [List.getElem?_toArray]; rfl) (by kernel_rfl) (by kernel_rfl) (by kernel_rfl) (by rfl) (fun _ _ _ h => h) (Or.inl ⟨by rfl, ?gY1_8⟩) (by assumption) ?gR1_8; case gY1_8 => (intro w hSw; (try dsimp only at hSw); go_simp <;> with_reducible rfl))
            try simp only [Act.put, List.setIfInBounds_toArray, List.set_cons_zero, List.set_cons_succ]
            refine wpE_ready (rs := [8]) (by kernel_rfl) (by simp) ?_
            refine AllE.cons (by simp only [List.getElem?_toArray]; rfl) (fun K hK => ?_) AllE.nil
            go_simp
            refine hK.out _ _ ?gT1_9 (fun hHeld => ?_)
            case gT1_9 => ((try dsimp only); (refine ⟨?_, ?_, ?_, ?_, ?_, ?_, ?_, ?_, ?_⟩ <;> go_simp))
            clear hK K
            try simp only [Act.put, List.setIfInBounds_toArray, List.set_cons_zero, List.set_cons_succ]
            refine wpE_ready (rs := [9]) (by kernel_rfl) (by simp) ?_
            refine AllE.cons (by simp only [List.getElem?_toArray]; rfl) (fun K hK => ?_) AllE.nil
            go_simp
            refine hK.out _ _ ?gT1_10 (fun hHeld => ?_)
            case gT1_10 => ((try dsimp only); (refine ⟨?_, ?_, ?_, ?_, ?_, ?_, ?_, ?_, ?_⟩ <;> go_simp))
            clear hK K
            try simp only [Act.put, List.setIfInBounds_toArray, List.set_cons_zero, List.set_cons_succ]
            (refine wpE_takeP (i := 10) (v := ?gV1_11) (by simp only [List.getElem?_toArray]; rfl) (by kernel_rfl) (by kernel_rfl) (by kernel_rfl) (by rfl) (fun _ _ _ h => h) (Or.inl ⟨by rfl, ?gY1_11⟩) (by assumption) ?gR1_11; case gY1_11 => (intro w hSw; (try dsimp only at hSw); go_simp <;> with_reducible rfl))
            try simp only [Act.put, List.setIfInBounds_toArray, List.set_cons_zero, List.set_cons_succ]
            refine wpE_done (by kernel_rfl) ?_ _
            refine NoPanic.normal ?_
            go_wp2_with fail
            go_meet
            refine ⟨_, rfl, rfl, ?_, ?_, Lib.hid ?n1_11⟩
            · exact Below.own hW1W (by repeat (first | with_reducible exact Below.refl _ _ | with_reducible assumption | with_reducible exact below_d1 _ _ _ _ _ | with_reducible exact below_d2 _ _ _ _ _ _ _ _ | with_reducible exact below_d3 _ _ _ _ _ | with_reducible exact below_d4 _ _ _ _ _ _ _ _ | with_reducible exact below_d5 _ _ | with_reducible refine Below.drew ?_ | with_reducible refine Below.drewN' ?_ _ | with_reducible refine below_grow0 _ _ ?_ | with_reducible refine below_alloc0 _ ?_ | with_reducible refine Below.setCell ?_ ?_ _ | with_reducible refine Below.alloc ?_ ?_ _ | with_reducible refine Below.grow _ _ _ ?_ ?_ | omega | (simp; done) | (simp; omega)))
            · first | omega | (simp <;> omega)
            case n1_11 => first | exact Bk.new _ _ _ (by simp [hWs1]) | exact (Bk.new W _ _ hWs1.symm).below (by repeat (first | with_reducible exact Below.refl _ _ | with_reducible assumption | with_reducible exact below_d1 _ _ _ _ _ | with_reducible exact below_d2 _ _ _ _ _ _ _ _ | with_reducible exact below_d3 _ _ _ _ _ | with_reducible exact below_d4 _ _ _ _ _ _ _ _ | with_reducible exact below_d5 _ _ | with_reducible refine Below.drew ?_ | with_reducible refine Below.drewN' ?_ _ | with_reducible refine below_grow0 _ _ ?_ | with_reducible refine below_alloc0 _ ?_ | with_reducible refine Below.setCell ?_ ?_ _ | with_reducible refine Below.alloc ?_ ?_ _ | with_reducible refine Below.grow _ _ _ ?_ ?_ | omega | (simp; done) | (simp; omega))) | exact (Bk.new (grow W ext1 d1) _ _ (by simp [hWs1])).below (by repeat (first | with_reducible exact Below.refl _ _ | with_reducible assumption | with_reducible exact below_d1 _ _ _ _ _ | with_reducible exact below_d2 _ _ _ _ _ _ _ _ | with_reducible exact below_d3 _ _ _ _ _ | with_reducible exact below_d4 _ _ _ _ _ _ _ _ | with_reducible exact below_d5 _ _ | with_reducible refine Below.drew ?_ | with_reducible refine Below.drewN' ?_ _ | with_reducible refine below_grow0 _ _ ?_ | with_reducible refine below_alloc0 _ ?_ | with_reducible refine Below.setCell ?_ ?_ _ | with_reducible refine Below.alloc ?_ ?_ _ | with_reducible refine Below.grow _ _ _ ?_ ?_ | omega | (simp; done) | (simp; omega)))
          refine AllE.cons (by simp only [List.getElem?_toArray]; rfl) (fun K hK => ?gO1_12) ?gL1_12
          case gO1_12 =>
            go_simp
            refine hK.out _ _ ?gT1_12 (fun hHeld => ?_)
            case gT1_12 => ((try dsimp only); (refine ⟨?_, ?_, ?_, ?_, ?_, ?_, ?_, ?_, ?_⟩ <;> go_simp))
            clear hK K
            try simp only [Act.put, List.setIfInBounds_toArray, List.set_cons_zero, List.set_cons_succ]
            refine wpE_ready (rs := [4]) (by kernel_rfl) (by simp) ?_
            refine AllE.cons (by simp only [List.getElem?_toArray]; rfl) (fun K hK => ?_) AllE.nil
            go_simp
            (go_at_call 29; (with_reducible refine (HPR.out _ _ _ (HO1.out.below (by repeat (first | with_reducible exact Below.refl _ _ | with_reducible assumption | with_reducible exact below_d1 _ _ _ _ _ | with_reducible exact below_d2 _ _ _ _ _ _ _ _ | with_reducible exact below_d3 _ _ _ _ _ | with_reducible exact below_d4 _ _ _ _ _ _ _ _ | with_reducible exact below_d5 _ _ | with_reducible refine Below.drew ?_ | with_reducible refine Below.drewN' ?_ _ | with_reducible refine below_grow0 _ _ ?_ | with_reducible refine below_alloc0 _ ?_ | with_reducible refine Below.setCell ?_ ?_ _ | with_reducible refine Below.alloc ?_ ?_ _ | with_reducible refine Below.grow _ _ _ ?_ ?_ | omega | (simp; done) | (simp; omega)))) (HO2.out.below (by repeat (first | with_reducible exact Below.refl _ _ | with_reducible assumption | with_reducible exact below_d1 _ _ _ _ _ | with_reducible exact below_d2 _ _ _ _ _ _ _ _ | with_reducible exact below_d3 _ _ _ _ _ | with_reducible exact below_d4 _ _ _ _ _ _ _ _ | with_reducible exact below_d5 _ _ | with_reducible refine Below.drew ?_ | with_reducible refine Below.drewN' ?_ _ | with_reducible refine below_grow0 _ _ ?_ | with_reducible refine below_alloc0 _ ?_ | with_reducible refine Below.setCell ?_ ?_ _ | with_reducible refine Below.alloc ?_ ?_ _ | with_reducible refine Below.grow _ _ _ ?_ ?_ | omega | (simp; done) | (simp; omega))))).mono ?_); rintro e w3 ⟨rfl, hb3⟩; obtain ⟨ext3, d3, rfl⟩ := Below.grown_eq _ hb3; clear hb3)
            refine hK.out _ _ ?gT1_13 (fun hHeld => ?_)
            case gT1_13 => ((try dsimp only); (refine ⟨?_, ?_, ?_, ?_, ?_, ?_, ?_, ?_, ?_⟩ <;> go_simp))
            clear hK K
            try simp only [Act.put, List.setIfInBounds_toArray, List.set_cons_zero, List.set_cons_succ]
            (refine wpE_takeP (i := 5) (v := ?gV1_14) (by simp only [List.getElem?_toArray]; rfl) (by kernel_rfl) (by kernel_rfl) (by kernel_rfl) (by rfl) (fun _ _ _ h => h) (Or.inl ⟨by rfl, ?gY1_14⟩) (by assumption) ?gR1_14; case gY1_14 => (intro w hSw; (try dsimp only at hSw); go_simp <;> with_reducible rfl))
            try simp only [Act.put, List.setIfInBounds_toArray, List.set_cons_zero, List.set_cons_succ]
            (refine wpE_takeP (i := 6) (v := ?gV1_15) (by simp only [List.getElem?_toArray]; rfl) (by kernel_rfl) (by kernel_rfl) (by kernel_rfl) (by rfl) (fun _ _ _ h => h) (Or.inl ⟨by rfl, ?gY1_15⟩) (by assumption) ?gR1_15; case gY1_15 => (intro w hSw; (try dsimp only at hSw); go_simp <;> with_reducible rfl))
            try simp only [Act.put, List.setIfInBounds_toArray, List.set_cons_zero, List.set_cons_succ]
            (refine wpE_takeP (i := 7) (v := ?gV1_16) (by simp only [List.getElem?_toArray]; rfl) (by kernel_rfl) (by kernel_rfl) (by kernel_rfl) (by rfl) (fun _ _ _ h => h) (Or.inl ⟨by rfl, ?gY1_16⟩) (by assumption) ?gR1_16; case gY1_16 => (intro w hSw; (try dsimp only at hSw); go_simp <;> with_reducible rfl))
            try simp only [Act.put, List.setIfInBounds_toArray, List.set_cons_zero, List.set_cons_succ]
            refine wpE_ready (rs := [9]) (by kernel_rfl) (by simp) ?_
            refine AllE.cons (by simp only [List.getElem?_toArray]; rfl) (fun K hK => ?_) AllE.nil
            go_simp
            refine hK.out _ _ ?gT1_17 (fun hHeld => ?_)
            case gT1_17 => ((try dsimp only); (refine ⟨?_, ?_, ?_, ?_, ?_, ?_, ?_, ?_, ?_⟩ <;> go_simp))
            clear hK K
            try simp only [Act.put, List.setIfInBounds_toArray, List.set_cons_zero, List.set_cons_succ]
            (refine wpE_takeP (i := 10) (v := ?gV1_18) (by simp only [List.getElem?_toArray]; rfl) (by kernel_rfl) (by kernel_rfl) (by kernel_rfl) (by rfl) (fun _ _ _ h => h) (Or.inl ⟨by rfl, ?gY1_18⟩) (by assumption) ?gR1_18; case gY1_18 => (intro w hSw; (try dsimp only at hSw); go_simp <;> with_reducible rfl))
            try simp only [Act.put, List.setIfInBounds_toArray, List.set_cons_zero, List.set_cons_succ]
            refine wpE_done (by kernel_rfl) ?_ _
            refine NoPanic.normal ?_
            go_wp2_with fail
            go_meet
            refine ⟨_, rfl, rfl, ?_, ?_, Lib.hid ?n1_18⟩
            · exact Below.own hW1W (by repeat (first | with_reducible exact Below.refl _ _ | with_reducible assumption | with_reducible exact below_d1 _ _ _ _ _ | with_reducible exact below_d2 _ _ _ _ _ _ _ _ | with_reducible exact below_d3 _ _ _ _ _ | with_reducible exact below_d4 _ _ _ _ _ _ _ _ | with_reducible exact below_d5 _ _ | with_reducible refine Below.drew ?_ | with_reducible refine Below.drewN' ?_ _ | with_reducible refine below_grow0 _ _ ?_ | with_reducible refine below_alloc0 _ ?_ | with_reducible refine Below.setCell ?_ ?_ _ | with_reducible refine Below.alloc ?_ ?_ _ | with_reducible refine Below.grow _ _ _ ?_ ?_ | omega | (simp; done) | (simp; omega)))
            · first | omega | (simp <;> omega)
            case n1_18 => first | exact Bk.new _ _ _ (by simp [hWs1]) | exact (Bk.new W _ _ hWs1.symm).below (by repeat (first | with_reducible exact Below.refl _ _ | with_reducible assumption | with_reducible exact below_d1 _ _ _ _ _ | with_reducible exact below_d2 _ _ _ _ _ _ _ _ | with_reducible exact below_d3 _ _ _ _ _ | with_reducible exact below_d4 _ _ _ _ _ _ _ _ | with_reducible exact below_d5 _ _ | with_reducible refine Below.drew ?_ | with_reducible refine Below.drewN' ?_ _ | with_reducible refine below_grow0 _ _ ?_ | with_reducible refine below_alloc0 _ ?_ | with_reducible refine Below.setCell ?_ ?_ _ | with_reducible refine Below.alloc ?_ ?_ _ | with_reducible refine Below.grow _ _ _ ?_ ?_ | omega | (simp; done) | (simp; omega))) | exact (Bk.new (grow W ext1 d1) _ _ (by simp [hWs1])).below (by repeat (first | with_reducible exact Below.refl _ _ | with_reducible assumption | with_reducible exact below_d1 _ _ _ _ _ | with_reducible exact below_d2 _ _ _ _ _ _ _ _ | with_reducible exact below_d3 _ _ _ _ _ | with_reducible exact below_d4 _ _ _ _ _ _ _ _ | with_reducible exact below_d5 _ _ | with_reducible refine Below.drew ?_ | with_reducible refine Below.drewN' ?_ _ | with_reducible refine below_grow0 _ _ ?_ | with_reducible refine below_alloc0 _ ?_ | with_reducible refine Below.setCell ?_ ?_ _ | with_reducible refine Below.alloc ?_ ?_ _ | with_reducible refine Below.grow _ _ _ ?_ ?_ | omega | (simp; done) | (simp; omega)))
          exact AllE.nil
        refine AllE.cons (by simp only [List.getElem?_toArray]; rfl) (fun K hK => ?gO1_19) ?gL1_19
        case gO1_19 =>
          go_simp
          refine hK.out _ _ ?gT1_19 (fun hHeld => ?_)
          case gT1_19 => ((try dsimp only); (refine ⟨?_, ?_, ?_, ?_, ?_, ?_, ?_, ?_, ?_⟩ <;> go_simp))
          clear hK K
          try simp only [Act.put, List.setIfInBounds_toArray, List.set_cons_zero, List.set_cons_succ]
          refine wpE_ready (rs := [1]) (by kernel_rfl) (by simp) ?_
          refine AllE.cons (by simp only [List.getElem?_toArray]; rfl) (fun K hK => ?_) AllE.nil
          go_simp
          (go_at_call 16; (with_reducible refine (HOW.out _ (HVW.out.below (by repeat (first | with_reducible exact Below.refl _ _ | with_reducible assumption | with_reducible exact below_d1 _ _ _ _ _ | with_reducible exact below_d2 _ _ _ _ _ _ _ _ | with_reducible exact below_d3 _ _ _ _ _ | with_reducible exact below_d4 _ _ _ _ _ _ _ _ | with_reducible exact below_d5 _ _ | with_reducible refine Below.drew ?_ | with_reducible refine Below.drewN' ?_ _ | with_reducible refine below_grow0 _ _ ?_ | with_reducible refine below_alloc0 _ ?_ | with_reducible refine Below.setCell ?_ ?_ _ | with_reducible refine Below.alloc ?_ ?_ _ | with_reducible refine Below.grow _ _ _ ?_ ?_ | omega | (simp; done) | (simp; omega)))) (HSW.out.below (by repeat (first | with_reducible exact Below.refl _ _ | with_reducible assumption | with_reducible exact below_d1 _ _ _ _ _ | with_reducible exact below_d2 _ _ _ _ _ _ _ _ | with_reducible exact below_d3 _ _ _ _ _ | with_reducible exact below_d4 _ _ _ _ _ _ _ _ | with_reducible exact below_d5 _ _ | with_reducible refine Below.drew ?_ | with_reducible refine Below.drewN' ?_ _ | with_reducible refine below_grow0 _ _ ?_ | with_reducible refine below_alloc0 _ ?_ | with_reducible refine Below.setCell ?_ ?_ _ | with_reducible refine Below.alloc ?_ ?_ _ | with_reducible refine Below.grow _ _ _ ?_ ?_ | omega | (simp; done) | (simp; omega))))).mono ?_); rintro e w1 ⟨A5, c5, A6, c6, rfl, ho1, ho2, hb1⟩; obtain ⟨ext1, d1, rfl⟩ := Below.grown_eq _ hb1; have HO1 := Lib.hid ho1.sl; have HO2 := Lib.hid ho2.sl; clear ho1 ho2 hb1)
          refine hK.out _ _ ?gT1_20 (fun hHeld => ?_)
          case gT1_20 => ((try dsimp only); (refine ⟨?_, ?_, ?_, ?_, ?_, ?_, ?_, ?_, ?_⟩ <;> go_simp))
          clear hK K
          skip
          refine wpE_ready (rs := [4]) (by kernel_rfl) (by simp) ?_
          refine AllE.cons (by simp only [List.getElem?_toArray]; rfl) (fun K hK => ?_) AllE.nil
          go_simp
          (go_at_call 29; (with_reducible refine (HPR.out _ _ _ (HO1.out.below (by repeat (first | with_reducible exact Below.refl _ _ | with_reducible assumption | with_reducible exact below_d1 _ _ _ _ _ | with_reducible exact below_d2 _ _ _ _ _ _ _ _ | with_reducible exact below_d3 _ _ _ _ _ | with_reducible exact below_d4 _ _ _ _ _ _ _ _ | with_reducible exact below_d5 _ _ | with_reducible refine Below.drew ?_ | with_reducible refine Below.drewN' ?_ _ | with_reducible refine below_grow0 _ _ ?_ | with_reducible refine below_alloc0 _ ?_ | with_reducible refine Below.setCell ?_ ?_ _ | with_reducible refine Below.alloc ?_ ?_ _ | with_reducible refine Below.grow _ _ _ ?_ ?_ | omega | (simp; done) | (simp; omega)))) (HO2.out.below (by repeat (first | with_reducible exact Below.refl _ _ | with_reducible assumption | with_reducible exact below_d1 _ _ _ _ _ | with_reducible exact below_d2 _ _ _ _ _ _ _ _ | with_reducible exact below_d3 _ _ _ _ _ | with_reducible exact below_d4 _ _ _ _ _ _ _ _ | with_reducible exact below_d5 _ _ | with_reducible refine Below.drew ?_ | with_reducible refine Below.drewN' ?_ _ | with_reducible refine below_grow0 _ _ ?_ | with_reducible refine below_alloc0 _ ?_ | with_reducible refine Below.setCell ?_ ?_ _ | with_reducible refine Below.alloc ?_ ?_ _ | with_reducible refine Below.grow _ _ _ ?_ ?_ | omega | (simp; done) | (simp; omega))))).mono ?_); rintro e w3 ⟨rfl, hb3⟩; obtain ⟨ext3, d3, rfl⟩ := Below.grown_eq _ hb3; clear hb3)
          refine hK.out _ _ ?gT1_21 (fun hHeld => ?_)
          case gT1_21 => ((try dsimp only); (refine ⟨?_, ?_, ?_, ?_, ?_, ?_, ?_, ?_, ?_⟩ <;> go_simp))
          clear hK K
          try simp only [Act.put, List.setIfInBounds_toArray, List.set_cons_zero, List.set_cons_succ]
          (refine wpE_takeP (i := 5) (v := ?gV1_22) (by simp only [List.getElem?_toArray]; rfl) (by kernel_rfl) (by kernel_rfl) (by kernel_rfl) (by rfl) (fun _ _ _ h => h) (Or.inl ⟨by rfl, ?gY1_22⟩) (by assumption) ?gR1_22; case gY1_22 => (intro w hSw; (try dsimp only at hSw); go_simp <;> with_reducible rfl))
          try simp only [Act.put, List.setIfInBounds_toArray, List.set_cons_zero, List.set_cons_succ]
          (refine wpE_takeP (i := 6) (v := ?gV1_23) (by simp only [List.getElem?_toArray]; rfl) (by kernel_rfl) (by kernel_rfl) (by kernel_rfl) (by rfl) (fun _ _ _ h => h) (Or.inl ⟨by rfl, ?gY1_23⟩) (by assumption) ?gR1_23; case gY1_23 => (intro w hSw; (try dsimp only at hSw); go_simp <;> with_reducible rfl))
          try simp only [Act.put, List.setIfInBounds_toArray, List.set_cons_zero, List.set_cons_succ]
          (refine wpE_takeP (i := 7) (v := ?gV1_24) (by simp only [List.getElem?_toArray]; rfl) (by kernel_rfl) (by kernel_rfl) (by kernel_rfl) (by rfl) (fun _ _ _ h => h) (Or.inl ⟨by rfl, ?gY1_24⟩) (by assumption) ?gR1_24; case gY1_24 => (intro w hSw; (try dsimp only at hSw); go_simp <;> with_reducible rfl))
          try simp only [Act.put, List.setIfInBounds_toArray, List.set_cons_zero, List.set_cons_succ]
          refine wpE_ready (rs := [9]) (by kernel_rfl) (by simp) ?_
          refine AllE.cons (by simp only [List.getElem?_toArray]; rfl) (fun K hK => ?_) AllE.nil
          go_simp
          refine hK.out _ _ ?gT1_25 (fun hHeld => ?_)
          case gT1_25 => ((try dsimp only); (refine ⟨?_, ?_, ?_, ?_, ?_, ?_, ?_, ?_, ?_⟩ <;> go_simp))
          clear hK K
          try simp only [Act.put, List.setIfInBounds_toArray, List.set_cons_zero, List.set_cons_succ]
          (refine wpE_takeP (i := 10) (v := ?gV1_26) (by simp only [List.getElem?_toArray]; rfl) (by kernel_rfl) (by kernel_rfl) (by kernel_rfl) (by rfl) (fun _ _ _ h => h) (Or.inl ⟨by rfl, ?gY1_26⟩) (by assumption) ?gR1_26; case gY1_26 => (intro w hSw; (try dsimp only at hSw); go_simp <;> with_reducible rfl))
          try simp only [Act.put, List.setIfInBounds_toArray, List.set_cons_zero, List.set_cons_succ]
          refine wpE_done (by kernel_rfl) ?_ _
          refine NoPanic.normal ?_
          go_wp2_with fail
          go_meet
          refine ⟨_, rfl, rfl, ?_, ?_, Lib.hid ?n1_26⟩
          · exact Below.own hW1W (by repeat (first | with_reducible exact Below.refl _ _ | with_reducible assumption | with_reducible exact below_d1 _ _ _ _ _ | with_reducible exact below_d2 _ _ _ _ _ _ _ _ | with_reducible exact below_d3 _ _ _ _ _ | with_reducible exact below_d4 _ _ _ _ _ _ _ _ | with_reducible exact below_d5 _ _ | with_reducible refine Below.drew ?_ | with_reducible refine Below.drewN' ?_ _ | with_reducible refine below_grow0 _ _ ?_ | with_reducible refine below_alloc0 _ ?_ | with_reducible refine Below.setCell ?_ ?_ _ | with_reducible refine Below.alloc ?_ ?_ _ | with_reducible refine Below.grow _ _ _ ?_ ?_ | omega | (simp; done) | (simp; omega)))
          · first | omega | (simp <;> omega)
          case n1_26 => first | exact Bk.new _ _ _ (by simp [hWs1]) | exact (Bk.new W _ _ hWs1.symm).below (by repeat (first | with_reducible exact Below.refl _ _ | with_reducible assumption | with_reducible exact below_d1 _ _ _ _ _ | with_reducible exact below_d2 _ _ _ _ _ _ _ _ | with_reducible exact below_d3 _ _ _ _ _ | with_reducible exact below_d4 _ _ _ _ _ _ _ _ | with_reducible exact below_d5 _ _ | with_reducible refine Below.drew ?_ | with_reducible refine Below.drewN' ?_ _ | with_reducible refine below_grow0 _ _ ?_ | with_reducible refine below_alloc0 _ ?_ | with_reducible refine Below.setCell ?_ ?_ _ | with_reducible refine Below.alloc ?_ ?_ _ | with_reducible refine Below.grow _ _ _ ?_ ?_ | omega | (simp; done) | (simp; omega))) | exact (Bk.new (grow W ext1 d1) _ _ (by simp [hWs1])).below (by repeat (first | with_reducible exact Below.refl _ _ | with_reducible assumption | with_reducible exact below_d1 _ _ _ _ _ | with_reducible exact below_d2 _ _ _ _ _ _ _ _ | with_reducible exact below_d3 _ _ _ _ _ | with_reducible exact below_d4 _ _ _ _ _ _ _ _ | with_reducible exact below_d5 _ _ | with_reducible refine Below.drew ?_ | with_reducible refine Below.drewN' ?_ _ | with_reducible refine below_grow0 _ _ ?_ | with_reducible refine below_alloc0 _ ?_ | with_reducible refine Below.setCell ?_ ?_ _ | with_reducible refine Below.alloc ?_ ?_ _ | with_reducible refine Below.grow _ _ _ ?_ ?_ | omega | (simp; done) | (simp; omega)))
        exact AllE.nil
      case rest =>
        obtain ⟨wa, rfl⟩ : ∃ wa : World, wa = wc := ⟨_, rfl⟩
        obtain ⟨b, rfl, rfl, hba, hb1, HB⟩ := hcut
        have hbwa : Below w.heap.size w wa := Below.own hbW1 hba
        have hwa : w.heap.size + 1 < wa.heap.size := Nat.lt_of_lt_of_le hs1 hba.size
        have hbne : w.heap.size + 1 < b := Nat.lt_of_lt_of_le hs1 hb1
        have hbl : b < wa.heap.size := HB.out.lt
        have HT := Lib.hid (HT.out.below hba)
        have HR := Lib.hid (HR.out.below hba)
        clear j0 j1 j2 y0 y1 y2 y3 y4 y5 yf4 HPR
        have j0 : wa.cell? ⟨w.heap.size, 0, none⟩ = some (.int .i64 z) := HT.out.cell 0
        have j1 : wa.cell? ⟨w.heap.size, 1, none⟩ = some (.slice A l.length c) := HT.out.cell 1
        have j2 : wa.cell? ⟨w.heap.size, 2, none⟩ = some (.slice A2 ss.length c2) := HT.out.cell 2
        have y0 : wa.cell? ⟨w.heap.size + 1, 0, none⟩ = some (.int .i64 op) := HR.out.cell 0
        have y1 : wa.cell? ⟨w.heap.size + 1, 1, none⟩ = some (.int .i64 rs) := HR.out.cell 1
        have y2 : wa.cell? ⟨w.heap.size + 1, 2, none⟩ = some (.string rp) := HR.out.cell 2
        have y3 : wa.cell? ⟨w.heap.size + 1, 3, none⟩ = some (.string rd) := HR.out.cell 3
        have y4 : wa.cell? ⟨w.heap.size + 1, 4, none⟩ = some (.int .i64 (-1)) := HR.out.cell 4
        have y5 : wa.cell? ⟨w.heap.size + 1, 5, none⟩ = some (.int .i64 rf) := HR.out.cell 5
        have yf4 : wa.frozen? ⟨w.heap.size + 1, 4, none⟩ = false := HR.out.frozen 4
        by_cases hE : E = 0
        · obtain ⟨p1, p2, p3, p4⟩ := HLW.out hE
          subst hE
          rw [p1, if_pos rfl] at HGT
          generalize getN l rp = n at *
          obtain ⟨np, nd, n1, n2, n3, n4, n5, n6, n7⟩ := n
          simp only at p2 p3 p4
          have HPR := Lib.hid (HPA.out n4)
          rw [p2, p3] at HPR
          have HP4 := Lib.hid p4
          clear HLW p1 p2 p3 p4
          go_upto_region 9 with (first | (go_at_call 30; refine (HMK.out _).mono ?_; rintro e w1 ⟨rfl, hb⟩; obtain ⟨ext0, d0, rfl⟩ := Below.grown_eq _ hb; clear hb) | (go_at_call 19; refine (HGT.out _ (HV.out.below (by repeat (first | with_reducible exact Below.refl _ _ | with_reducible assumption | with_reducible exact below_d1 _ _ _ _ _ | with_reducible exact below_d2 _ _ _ _ _ _ _ _ | with_reducible exact below_d3 _ _ _ _ _ | with_reducible exact below_d4 _ _ _ _ _ _ _ _ | with_reducible exact below_d5 _ _ | with_reducible refine Below.drew ?_ | with_reducible refine Below.drewN' ?_ _ | with_reducible refine below_grow0 _ _ ?_ | with_reducible refine below_alloc0 _ ?_ | with_reducible refine Below.setCell ?_ ?_ _ | with_reducible refine Below.alloc ?_ ?_ _ | with_reducible refine Below.grow _ _ _ ?_ ?_ | omega | (simp; done) | (simp; omega))))).mono ?_; rintro e w1 ⟨rfl, hb⟩; obtain ⟨ext1, d1, rfl⟩ := Below.grown_eq _ hb; clear hb))
          refine gen_w (fun W2 hW2 => ?_)
          have hP9 : Below (wa.setCell ⟨w.heap.size + 1, 4, none⟩ (.int .i64 n4)).heap.size (wa.setCell ⟨w.heap.size + 1, 4, none⟩ (.int .i64 n4)) W2 := by rw [hW2.out]; exact (by repeat (first | with_reducible exact Below.refl _ _ | with_reducible assumption | with_reducible exact below_d1 _ _ _ _ _ | with_reducible exact below_d2 _ _ _ _ _ _ _ _ | with_reducible exact below_d3 _ _ _ _ _ | with_reducible exact below_d4 _ _ _ _ _ _ _ _ | with_reducible exact below_d5 _ _ | with_reducible refine Below.drew ?_ | with_reducible refine Below.drewN' ?_ _ | with_reducible refine below_grow0 _ _ ?_ | with_reducible refine below_alloc0 _ ?_ | with_reducible refine Below.setCell ?_ ?_ _ | with_reducible refine Below.alloc ?_ ?_ _ | with_reducible refine Below.grow _ _ _ ?_ ?_ | omega | (simp; done) | (simp; omega)))
          have hbW2 : Below w.heap.size w W2 := (Below.set_up (o := 4) (v := .int .i64 n4) hbwa (Nat.le_succ _)).trans (hP9.mono (by simp; omega))
          have hk2 : Below (w.heap.size + 1) wa W2 := (Below.set_up (o := 4) (v := .int .i64 n4) (Below.refl _ wa) (Nat.le_refl _)).trans (hP9.mono (by simp; omega))
          have HT2 := Lib.hid (HT.out.belowB hk2 (by omega))
          have HR2 := Lib.hid (show Bk W2 (w.heap.size + 1) [.int .i64 op, .int .i64 rs, .string rp, .string rd, .int .i64 n4, .int .i64 rf] 67 from (HR.out.put 4 (.int .i64 n4)).below hP9)
          have HB2 := Lib.hid (Bk.below (HB.out.far (g2 := w.heap.size + 1) (j := 4) (v := .int .i64 n4) (by omega)) hP9)
          have m5 : W2.cell? ⟨wa.heap.size + ext0.size + ext1.size, 5, none⟩ = some (.int .i64 n4) := by rw [hW2.out]; exact newCell (by simp) rfl
          have hbn : wa.heap.size + ext0.size + ext1.size < W2.heap.size := by rw [hW2.out]; simp
          have hbn2 : w.heap.size + 1 < wa.heap.size + ext0.size + ext1.size := by omega
          have hW2s : w.heap.size + 1 < W2.heap.size := by omega
          have hbl2 : b < W2.heap.size := HB2.out.lt
          generalize wa.heap.size + ext0.size + ext1.size = bn at *
          clear hW2 hP9 hk2 HT HR HB j0 j1 j2 y0 y1 y2 y3 y4 y5 yf4 HGT HMK
          have HT := HT2
          have HR := HR2
          clear HT2 HR2
          have j0 : W2.cell? ⟨w.heap.size, 0, none⟩ = some (.int .i64 z) := HT.out.cell 0
          have j1 : W2.cell? ⟨w.heap.size, 1, none⟩ = some (.slice A l.length c) := HT.out.cell 1
          have j2 : W2.cell? ⟨w.heap.size, 2, none⟩ = some (.slice A2 ss.length c2) := HT.out.cell 2
          have y0 : W2.cell? ⟨w.heap.size + 1, 0, none⟩ = some (.int .i64 op) := HR.out.cell 0
          have y1 : W2.cell? ⟨w.heap.size + 1, 1, none⟩ = some (.int .i64 rs) := HR.out.cell 1
          have y2 : W2.cell? ⟨w.heap.size + 1, 2, none⟩ = some (.string rp) := HR.out.cell 2
          have y3 : W2.cell? ⟨w.heap.size + 1, 3, none⟩ = some (.string rd) := HR.out.cell 3
          have y4 : W2.cell? ⟨w.heap.size + 1, 4, none⟩ = some (.int .i64 n4) := HR.out.cell 4
          have y5 : W2.cell? ⟨w.heap.size + 1, 5, none⟩ = some (.int .i64 rf) := HR.out.cell 5
          have yf4 : W2.frozen? ⟨w.heap.size + 1, 4, none⟩ = false := HR.out.frozen 4
          go_cut [13, 14] (fun s7 s8 wx => CutP W2 X 0 s7 s8 wx)
          case first =>
            refine wp_region_noPanic ?_
            refine wp_region_W (by kernel_rfl) (fun W hW => ?_)
            have cl0 : W.cell? ⟨w.heap.size, 0, none⟩ = some (.int .i64 z) := by rw [hW.out]; go_simp
            have cl1 : W.cell? ⟨w.heap.size, 1, none⟩ = some (.slice A l.length c) := by rw [hW.out]; go_simp
            have cl2 : W.cell? ⟨w.heap.size, 2, none⟩ = some (.slice A2 ss.length c2) := by rw [hW.out]; go_simp
            have cl3 : W.cell? ⟨w.heap.size + 1, 0, none⟩ = some (.int .i64 op) := by rw [hW.out]; go_simp
            have cl4 : W.cell? ⟨w.heap.size + 1, 1, none⟩ = some (.int .i64 rs) := by rw [hW.out]; go_simp
            have cl5 : W.cell? ⟨w.heap.size + 1, 2, none⟩ = some (.string rp) := by rw [hW.out]; go_simp
            have cl6 : W.cell? ⟨w.heap.size + 1, 3, none⟩ = some (.string rd) := by rw [hW.out]; go_simp
            have cl7 : W.cell? ⟨w.heap.size + 1, 4, none⟩ = some (.int .i64 n4) := by rw [hW.out]; go_simp
            have cl8 : W.cell? ⟨w.heap.size + 1, 5, none⟩ = some (.int .i64 rf) := by rw [hW.out]; go_simp
            have HVW := Lib.hid (HV.out.below (w' := W) (by rw [hW.out]; exact hbW2.drew))
            have HSW := Lib.hid (HS.out.below (w' := W) (by rw [hW.out]; exact hbW2.drew))
            have hWs : w.heap.size + 1 < W.heap.size := by rw [hW.out]; simp <;> omega
            have hW1W : Below W2.heap.size W2 W := by rw [hW.out]; exact (by repeat (first | with_reducible exact Below.refl _ _ | with_reducible assumption | with_reducible exact below_d1 _ _ _ _ _ | with_reducible exact below_d2 _ _ _ _ _ _ _ _ | with_reducible exact below_d3 _ _ _ _ _ | with_reducible exact below_d4 _ _ _ _ _ _ _ _ | with_reducible exact below_d5 _ _ | with_reducible refine Below.drew ?_ | with_reducible refine Below.drewN' ?_ _ | with_reducible refine below_grow0 _ _ ?_ | with_reducible refine below_alloc0 _ ?_ | with_reducible refine Below.setCell ?_ ?_ _ | with_reducible refine Below.alloc ?_ ?_ _ | with_reducible refine Below.grow _ _ _ ?_ ?_ | omega | (simp; done) | (simp; omega)))
            have hWs1 : W.heap.size = W2.heap.size := by rw [hW.out]; simp
            refine wpAny_S (fun w' => w'.cell? ⟨w.heap.size, 0, none⟩ = some (.int .i64 z) ∧ w'.cell? ⟨w.heap.size, 1, none⟩ = some (.slice A l.length c) ∧ w'.cell? ⟨w.heap.size, 2, none⟩ = some (.slice A2 ss.length c2) ∧ w'.cell? ⟨w.heap.size + 1, 0, none⟩ = some (.int .i64 op) ∧ w'.cell? ⟨w.heap.size + 1, 1, none⟩ = some (.int .i64 rs) ∧ w'.cell? ⟨w.heap.size + 1, 2, none⟩ = some (.string rp) ∧ w'.cell? ⟨w.heap.size + 1, 3, none⟩ = some (.string rd) ∧ w'.cell? ⟨w.heap.size + 1, 4, none⟩ = some (.int .i64 n4) ∧ w'.cell? ⟨w.heap.size + 1, 5, none⟩ = some (.int .i64 rf)) (fun i => false) (by (try dsimp only); (refine ⟨?_, ?_, ?_, ?_, ?_, ?_, ?_, ?_, ?_⟩ <;> go_simp)) (fun hHeld => ?_)
            (refine wpE_take (i := 0) (v := ?gV2_1) (by simp only [List.getElem?_toArray]; rfl) (by kernel_rfl) (by kernel_rfl) (by kernel_rfl) (by kernel_rfl) (by kernel_rfl) (by rfl) (fun _ _ _ h => h) (Or.inl ⟨by rfl, ?gY2_1⟩) (by assumption) ?gR2_1; case gY2_1 => (intro w hSw; (try dsimp only at hSw); go_simp <;> with_reducible rfl))
            try simp only [Act.put, List.setIfInBounds_toArray, List.set_cons_zero, List.set_cons_succ]
            (refine wpE_takeP (i := 2) (v := ?gV2_2) (by simp only [List.getElem?_toArray]; rfl) (by kernel_rfl) (by kernel_rfl) (by kernel_rfl) (by rfl) (fun _ _ _ h => h) (Or.inl ⟨by rfl, ?gY2_2⟩) (by assumption) ?gR2_2; case gY2_2 => (intro w hSw; (try dsimp only at hSw); go_simp <;> with_reducible rfl))
            try simp only [Act.put, List.setIfInBounds_toArray, List.set_cons_zero, List.set_cons_succ]
            (refine wpE_take (i := 3) (v := ?gV2_3) (by simp only [List.getElem?_toArray]; rfl) (by kernel_rfl) (by kernel_rfl) (by kernel_rfl) (by kernel_rfl) (by kernel_rfl) (by rfl) (fun _ _ _ h => h) (Or.inl ⟨by rfl, ?gY2_3⟩) (by assumption) ?gR2_3; case gY2_3 => (intro w hSw; (try dsimp only at hSw); go_simp <;> with_reducible rfl))
            try simp only [Act.put, List.setIfInBounds_toArray, List.set_cons_zero, List.set_cons_succ]
            refine wpE_ready (rs := [1, 8]) (by kernel_rfl) (by simp) ?_
            refine AllE.cons (by simp only [List.getElem?_toArray]; rfl) (fun K hK => ?gO2_4) ?gL2_4
            case gO2_4 =>
              go_simp
              (go_at_call 16; (with_reducible refine (HOW.out _ (HVW.out.below (by repeat (first | with_reducible exact Below.refl _ _ | with_reducible assumption | with_reducible exact below_d1 _ _ _ _ _ | with_reducible exact below_d2 _ _ _ _ _ _ _ _ | with_reducible exact below_d3 _ _ _ _ _ | with_reducible exact below_d4 _ _ _ _ _ _ _ _ | with_reducible exact below_d5 _ _ | with_reducible refine Below.drew ?_ | with_reducible refine Below.drewN' ?_ _ | with_reducible refine below_grow0 _ _ ?_ | with_reducible refine below_alloc0 _ ?_ | with_reducible refine Below.setCell ?_ ?_ _ | with_reducible refine Below.alloc ?_ ?_ _ | with_reducible refine Below.grow _ _ _ ?_ ?_ | omega | (simp; done) | (simp; omega)))) (HSW.out.below (by repeat (first | with_reducible exact Below.refl _ _ | with_reducible assumption | with_reducible exact below_d1 _ _ _ _ _ | with_reducible exact below_d2 _ _ _ _ _ _ _ _ | with_reducible exact below_d3 _ _ _ _ _ | with_reducible exact below_d4 _ _ _ _ _ _ _ _ | with_reducible exact below_d5 _ _ | with_reducible refine Below.drew ?_ | with_reducible refine Below.drewN' ?_ _ | with_reducible refine below_grow0 _ _ ?_ | with_reducible refine below_alloc0 _ ?_ | with_reducible refine Below.setCell ?_ ?_ _ | with_reducible refine Below.alloc ?_ ?_ _ | with_reducible refine Below.grow _ _ _ ?_ ?_ | omega | (simp; done) | (simp; omega))))).mono ?_); rintro e w1 ⟨A5, c5, A6, c6, rfl, ho1, ho2, hb1⟩; obtain ⟨ext1, d1, rfl⟩ := Below.grown_eq _ hb1; have HO1 := Lib.hid ho1.sl; have HO2 := Lib.hid ho2.sl; clear ho1 ho2 hb1)
              refine hK.out _ _ ?gT2_4 (fun hHeld => ?_)
              case gT2_4 => ((try dsimp only); (refine ⟨?_, ?_, ?_, ?_, ?_, ?_, ?_, ?_, ?_⟩ <;> go_simp))
              clear hK K
              skip
              refine wpE_ready (rs := [4, 8]) (by kernel_rfl) (by simp) ?_
              refine AllE.cons (by simp only [List.getElem?_toArray]; rfl) (fun K hK => ?gO2_5) ?gL2_5
              case gO2_5 =>
                go_simp
                (go_at_call 29; (with_reducible refine (HPR.out _ _ _ (HO1.out.below (by repeat (first | with_reducible exact Below.refl _ _ | with_reducible assumption | with_reducible exact below_d1 _ _ _ _ _ | with_reducible exact below_d2 _ _ _ _ _ _ _ _ | with_reducible exact below_d3 _ _ _ _ _ | with_reducible exact below_d4 _ _ _ _ _ _ _ _ | with_reducible exact below_d5 _ _ | with_reducible refine Below.drew ?_ | with_reducible refine Below.drewN' ?_ _ | with_reducible refine below_grow0 _ _ ?_ | with_reducible refine below_alloc0 _ ?_ | with_reducible refine Below.setCell ?_ ?_ _ | with_reducible refine Below.alloc ?_ ?_ _ | with_reducible refine Below.grow _ _ _ ?_ ?_ | omega | (simp; done) | (simp; omega)))) (HO2.out.below (by repeat (first | with_reducible exact Below.refl _ _ | with_reducible assumption | with_reducible exact below_d1 _ _ _ _ _ | with_reducible exact below_d2 _ _ _ _ _ _ _ _ | with_reducible exact below_d3 _ _ _ _ _ | with_reducible exact below_d4 _ _ _ _ _ _ _ _ | with_reducible exact below_d5 _ _ | with_reducible refine Below.drew ?_ | with_reducible refine Below.drewN' ?_ _ | with_reducible refine below_grow0 _ _ ?_ | with_reducible refine below_alloc0 _ ?_ | with_reducible refine Below.setCell ?_ ?_ _ | with_reducible refine Below.alloc ?_ ?_ _ | with_reducible refine Below.grow _ _ _ ?_ ?_ | omega | (simp; done) | (simp; omega))))).mono ?_); rintro e w3 ⟨rfl, hb3⟩; obtain ⟨ext3, d3, rfl⟩ := Below.grown_eq _ hb3; clear hb3)
                refine hK.out _ _ ?gT2_5 (fun hHeld => ?_)
                case gT2_5 => ((try dsimp only); (refine ⟨?_, ?_, ?_, ?_, ?_, ?_, ?_, ?_, ?_⟩ <;> go_simp))
                clear hK K
                try simp only [Act.put, List.setIfInBounds_toArray, List.set_cons_zero, List.set_cons_succ]
                (refine wpE_takeP (i := 5) (v := ?gV2_6) (by simp only [List.getElem?_toArray]; rfl) (by kernel_rfl) (by kernel_rfl) (by kernel_rfl) (by rfl) (fun _ _ _ h => h) (Or.inl ⟨by rfl, ?gY2_6⟩) (by assumption) ?gR2_6; case gY2_6 => (intro w hSw; (try dsimp only at hSw); go_simp <;> with_reducible rfl))
                try simp only [Act.put, List.setIfInBounds_toArray, List.set_cons_zero, List.set_cons_succ]
                (refine wpE_takeP (i := 6) (v := ?gV2_7) (by simp only [List.getElem?_toArray]; rfl) (by kernel_rfl) (by kernel_rfl) (by kernel_rfl) (by rfl) (fun _ _ _ h => h) (Or.inl ⟨by rfl, ?gY2_7⟩) (by assumption) ?gR2_7; case gY2_7 => (intro w hSw; (try dsimp only at hSw); go_simp <;> with_reducible rfl))
                try simp only [Act.put, List.setIfInBounds_toArray, List.set_cons_zero, List.set_cons_succ]
                (refine wpE_takeP (i := 7) (v := ?gV2_8) (by simp only [List.getElem?_toArray]; rfl) (by kernel_rfl) (by kernel_rfl) (by kernel_rfl) (by rfl) (fun _ _ _ h => h) (Or.inl ⟨by rfl, ?gY2_8⟩) (by assumption) ?gR2_8; case gY2_8 => (intro w hSw; (try dsimp only at hSw); go_simp <;> with_reducible rfl))
                try simp only [Act.put, List.setIfInBounds_toArray, List.set_cons_zero, List.set_cons_succ]
                refine wpE_ready (rs := [8]) (by kernel_rfl) (by simp) ?_
                refine AllE.cons (by simp only [List.getElem?_toArray]; rfl) (fun K hK => ?_) AllE.nil
                go_simp
                refine hK.out _ _ ?gT2_9 (fun hHeld => ?_)
                case gT2_9 => ((try dsimp only); (refine ⟨?_, ?_, ?_, ?_, ?_, ?_, ?_, ?_, ?_⟩ <;> go_simp))
                clear hK K
                try simp only [Act.put, List.setIfInBounds_toArray, List.set_cons_zero, List.set_cons_succ]
                refine wpE_ready (rs := [9]) (by kernel_rfl) (by simp) ?_
                refine AllE.cons (by simp only [List.getElem?_toArray]; rfl) (fun K hK => ?_) AllE.nil
                go_simp
                refine hK.out _ _ ?gT2_10 (fun hHeld => ?_)
                case gT2_10 => ((try dsimp only); (refine ⟨?_, ?_, ?_, ?_, ?_, ?_, ?_, ?_, ?_⟩ <;> go_simp))
                clear hK K
                try simp only [Act.put, List.setIfInBounds_toArray, List.set_cons_zero, List.set_cons_succ]
                (refine wpE_takeP (i := 10) (v := ?gV2_11) (by simp only [List.getElem?_toArray]; rfl) (by kernel_rfl) (by kernel_rfl) (by kernel_rfl) (by rfl) (fun _ _ _ h => h) (Or.inl ⟨by rfl, ?gY2_11⟩) (by assumption) ?gR2_11; case gY2_11 => (intro w hSw; (try dsimp only at hSw); go_simp <;> with_reducible rfl))
                try simp only [Act.put, List.setIfInBounds_toArray, List.set_cons_zero, List.set_cons_succ]
                refine wpE_done (by kernel_rfl) ?_ _
                refine NoPanic.normal ?_
                go_wp2_with fail
                go_meet
                refine ⟨_, rfl, rfl, ?_, ?_, Lib.hid ?n2_11⟩
                · exact Below.own hW1W (by repeat (first | with_reducible exact Below.refl _ _ | with_reducible assumption | with_reducible exact below_d1 _ _ _ _ _ | with_reducible exact below_d2 _ _ _ _ _ _ _ _ | with_reducible exact below_d3 _ _ _ _ _ | with_reducible exact below_d4 _ _ _ _ _ _ _ _ | with_reducible exact below_d5 _ _ | with_reducible refine Below.drew ?_ | with_reducible refine Below.drewN' ?_ _ | with_reducible refine below_grow0 _ _ ?_ | with_reducible refine below_alloc0 _ ?_ | with_reducible refine Below.setCell ?_ ?_ _ | with_reducible refine Below.alloc ?_ ?_ _ | with_reducible refine Below.grow _ _ _ ?_ ?_ | omega | (simp; done) | (simp; omega)))
                · first | omega | (simp <;> omega)
                case n2_11 => first | exact Bk.new _ _ _ (by simp [hWs1]) | exact (Bk.new W _ _ hWs1.symm).below (by repeat (first | with_reducible exact Below.refl _ _ | with_reducible assumption | with_reducible exact below_d1 _ _ _ _ _ | with_reducible exact below_d2 _ _ _ _ _ _ _ _ | with_reducible exact below_d3 _ _ _ _ _ | with_reducible exact below_d4 _ _ _ _ _ _ _ _ | with_reducible exact below_d5 _ _ | with_reducible refine Below.drew ?_ | with_reducible refine Below.drewN' ?_ _ | with_reducible refine below_grow0 _ _ ?_ | with_reducible refine below_alloc0 _ ?_ | with_reducible refine Below.setCell ?_ ?_ _ | with_reducible refine Below.alloc ?_ ?_ _ | with_reducible refine Below.grow _ _ _ ?_ ?_ | omega | (simp; done) | (simp; omega))) | exact (Bk.new (grow W ext1 d1) _ _ (by simp [hWs1])).below (by repeat (first | with_reducible exact Below.refl _ _ | with_reducible assumption | with_reducible exact below_d1 _ _ _ _ _ | with_reducible exact below_d2 _ _ _ _ _ _ _ _ | with_reducible exact below_d3 _ _ _ _ _ | with_reducible exact below_d4 _ _ _ _ _ _ _ _ | with_reducible exact below_d5 _ _ | with_reducible refine Below.drew ?_ | with_reducible refine Below.drewN' ?_ _ | with_reducible refine below_grow0 _ _ ?_ | with_reducible refine below_alloc0 _ ?_ | with_reducible refine Below.setCell ?_ ?_ _ | with_reducible refine Below.alloc ?_ ?_ _ | with_reducible refine Below.grow _ _ _ ?_ ?_ | omega | (simp; done) | (simp; omega)))
              refine AllE.cons (by simp only [List.getElem?_toArray]; rfl) (fun K hK => ?gO2_12) ?gL2_12
              case gO2_12 =>
                go_simp
                refine hK.out _ _ ?gT2_12 (fun hHeld => ?_)
                case gT2_12 => ((try dsimp only); (refine ⟨?_, ?_, ?_, ?_, ?_, ?_, ?_, ?_, ?_⟩ <;> go_simp))
                clear hK K
                try simp only [Act.put, List.setIfInBounds_toArray, List.set_cons_zero, List.set_cons_succ]
                refine wpE_ready (rs := [4]) (by kernel_rfl) (by simp) ?_
                refine AllE.cons (by simp only [List.getElem?_toArray]; rfl) (fun K hK => ?_) AllE.nil
                go_simp
                (go_at_call 29; (with_reducible refine (HPR.out _ _ _ (HO1.out.below (by repeat (first | with_reducible exact Below.refl _ _ | with_reducible assumption | with_reducible exact below_d1 _ _ _ _ _ | with_reducible exact below_d2 _ _ _ _ _ _ _ _ | with_reducible exact below_d3 _ _ _ _ _ | with_reducible exact below_d4 _ _ _ _ _ _ _ _ | with_reducible exact below_d5 _ _ | with_reducible refine Below.drew ?_ | with_reducible refine Below.drewN' ?_ _ | with_reducible refine below_grow0 _ _ ?_ | with_reducible refine below_alloc0 _ ?_ | with_reducible refine Below.setCell ?_ ?_ _ | with_reducible refine Below.alloc ?_ ?_ _ | with_reducible refine Below.grow _ _ _ ?_ ?_ | omega | (simp; done) | (simp; omega)))) (HO2.out.below (by repeat (first | with_reducible exact Below.refl _ _ | with_reducible assumption | with_reducible exact below_d1 _ _ _ _ _ | with_reducible exact below_d2 _ _ _ _ _ _ _ _ | with_reducible exact below_d3 _ _ _ _ _ | with_reducible exact below_d4 _ _ _ _ _ _ _ _ | with_reducible exact below_d5 _ _ | with_reducible refine Below.drew ?_ | with_reducible refine Below.drewN' ?_ _ | with_reducible refine below_grow0 _ _ ?_ | with_reducible refine below_alloc0 _ ?_ | with_reducible refine Below.setCell ?_ ?_ _ | with_reducible refine Below.alloc ?_ ?_ _ | with_reducible refine Below.grow _ _ _ ?_ ?_ | omega | (simp; done) | (simp; omega))))).mono ?_); rintro e w3 ⟨rfl, hb3⟩; obtain ⟨ext3, d3, rfl⟩ := Below.grown_eq _ hb3; clear hb3)
                refine hK.out _ _ ?gT2_13 (fun hHeld => ?_)
                case gT2_13 => ((try dsimp only); (refine ⟨?_, ?_, ?_, ?_, ?_, ?_, ?_, ?_, ?_⟩ <;> go_simp))
                clear hK K
                try simp only [Act.put, List.setIfInBounds_toArray, List.set_cons_zero, List.set_cons_succ]
                (refine wpE_takeP (i := 5) (v := ?gV2_14) (by simp only [List.getElem?_toArray]; rfl) (by kernel_rfl) (by kernel_rfl) (by kernel_rfl) (by rfl) (fun _ _ _ h => h) (Or.inl ⟨by rfl, ?gY2_14⟩) (by assumption) ?gR2_14; case gY2_14 => (intro w hSw; (try dsimp only at hSw); go_simp <;> with_reducible rfl))
                try simp only [Act.put, List.setIfInBounds_toArray, List.set_cons_zero, List.set_cons_succ]
                (refine wpE_takeP (i := 6) (v := ?gV2_15) (by simp only [List.getElem?_toArray]; rfl) (by kernel_rfl) (by kernel_rfl) (by kernel_rfl) (by rfl) (fun _ _ _ h => h) (Or.inl ⟨by rfl, ?gY2_15⟩) (by assumption) ?gR2_15; case gY2_15 => (intro w hSw; (try dsimp only at hSw); go_simp <;> with_reducible rfl))
                try simp only [Act.put, List.setIfInBounds_toArray, List.set_cons_zero, List.set_cons_succ]
                (refine wpE_takeP (i := 7) (v := ?gV2_16) (by simp only [List.getElem?_toArray]; rfl) (by kernel_rfl) (by kernel_rfl) (by kernel_rfl) (by rfl) (fun _ _ _ h => h) (Or.inl ⟨by rfl, ?gY2_16⟩) (by assumption) ?gR2_16; case gY2_16 => (intro w hSw; (try dsimp only at hSw); go_simp <;> with_reducible rfl))
                try simp only [Act.put, List.setIfInBounds_toArray, List.set_cons_zero, List.set_cons_succ]
                refine wpE_ready (rs := [9]) (by kernel_rfl) (by simp) ?_
                refine AllE.cons (by simp only [List.getElem?_toArray]; rfl) (fun K hK => ?_) AllE.nil
                go_simp
                refine hK.out _ _ ?gT2_17 (fun hHeld => ?_)
                case gT2_17 => ((try dsimp only); (refine ⟨?_, ?_, ?_, ?_, ?_, ?_, ?_, ?_, ?_⟩ <;> go_simp))
                clear hK K
                try simp only [Act.put, List.setIfInBounds_toArray, List.set_cons_zero, List.set_cons_succ]
                (refine wpE_takeP (i := 10) (v := ?gV2_18) (by simp only [List.getElem?_toArray]; rfl) (by kernel_rfl) (by kernel_rfl) (by kernel_rfl) (by rfl) (fun _ _ _ h => h) (Or.inl ⟨by rfl, ?gY2_18⟩) (by assumption) ?gR2_18; case gY2_18 => (intro w hSw; (try dsimp only at hSw); go_simp <;> with_reducible rfl))
                try simp only [Act.put, List.setIfInBounds_toArray, List.set_cons_zero, List.set_cons_succ]
                refine wpE_done (by kernel_rfl) ?_ _
                refine NoPanic.normal ?_
                go_wp2_with fail
                go_meet
                refine ⟨_, rfl, rfl, ?_, ?_, Lib.hid ?n2_18⟩
                · exact Below.own hW1W (by repeat (first | with_reducible exact Below.refl _ _ | with_reducible assumption | with_reducible exact below_d1 _ _ _ _ _ | with_reducible exact below_d2 _ _ _ _ _ _ _ _ | with_reducible exact below_d3 _ _ _ _ _ | with_reducible exact below_d4 _ _ _ _ _ _ _ _ | with_reducible exact below_d5 _ _ | with_reducible refine Below.drew ?_ | with_reducible refine Below.drewN' ?_ _ | with_reducible refine below_grow0 _ _ ?_ | with_reducible refine below_alloc0 _ ?_ | with_reducible refine Below.setCell ?_ ?_ _ | with_reducible refine Below.alloc ?_ ?_ _ | with_reducible refine Below.grow _ _ _ ?_ ?_ | omega | (simp; done) | (simp; omega)))
                · first | omega | (simp <;> omega)
                case n2_18 => first | exact Bk.new _ _ _ (by simp [hWs1]) | exact (Bk.new W _ _ hWs1.symm).below (by repeat (first | with_reducible exact Below.refl _ _ | with_reducible assumption | with_reducible exact below_d1 _ _ _ _ _ | with_reducible exact below_d2 _ _ _ _ _ _ _ _ | with_reducible exact below_d3 _ _ _ _ _ | with_reducible exact below_d4 _ _ _ _ _ _ _ _ | with_reducible exact below_d5 _ _ | with_reducible refine Below.drew ?_ | with_reducible refine Below.drewN' ?_ _ | with_reducible refine below_grow0 _ _ ?_ | with_reducible refine below_alloc0 _ ?_ | with_reducible refine Below.setCell ?_ ?_ _ | with_reducible refine Below.alloc ?_ ?_ _ | with_reducible refine Below.grow _ _ _ ?_ ?_ | omega | (simp; done) | (simp; omega))) | exact (Bk.new (grow W ext1 d1) _ _ (by simp [hWs1])).below (by repeat (first | with_reducible exact Below.refl _ _ | with_reducible assumption | with_reducible exact below_d1 _ _ _ _ _ | with_reducible exact below_d2 _ _ _ _ _ _ _ _ | with_reducible exact below_d3 _ _ _ _ _ | with_reducible exact below_d4 _ _ _ _ _ _ _ _ | with_reducible exact below_d5 _ _ | with_reducible refine Below.drew ?_ | with_reducible refine Below.drewN' ?_ _ | with_reducible refine below_grow0 _ _ ?_ | with_reducible refine below_alloc0 _ ?_ | with_reducible refine Below.setCell ?_ ?_ _ | with_reducible refine Below.alloc ?_ ?_ _ | with_reducible refine Below.grow _ _ _ ?_ ?_ | omega | (simp; done) | (simp; omega)))
              exact AllE.nil
            refine AllE.cons (by simp only [List.getElem?_toArray]; rfl) (fun K hK => ?gO2_19) ?gL2_19
            case gO2_19 =>
              go_simp
              refine hK.out _ _ ?gT2_19 (fun hHeld => ?_)
              case gT2_19 => ((try dsimp only); (refine ⟨?_, ?_, ?_, ?_, ?_, ?_, ?_, ?_, ?_⟩ <;> go_simp))
              clear hK K
              try simp only [Act.put, List.setIfInBounds_toArray, List.set_cons_zero, List.set_cons_succ]
              refine wpE_ready (rs := [1]) (by kernel_rfl) (by simp) ?_
              refine AllE.cons (by simp only [List.getElem?_toArray]; rfl) (fun K hK => ?_) AllE.nil
              go_simp
              (go_at_call 16; (with_reducible refine (HOW.out _ (HVW.out.below (by repeat (first | with_reducible exact Below.refl _ _ | with_reducible assumption | with_reducible exact below_d1 _ _ _ _ _ | with_reducible exact below_d2 _ _ _ _ _ _ _ _ | with_reducible exact below_d3 _ _ _ _ _ | with_reducible exact below_d4 _ _ _ _ _ _ _ _ | with_reducible exact below_d5 _ _ | with_reducible refine Below.drew ?_ | with_reducible refine Below.drewN' ?_ _ | with_reducible refine below_grow0 _ _ ?_ | with_reducible refine below_alloc0 _ ?_ | with_reducible refine Below.setCell ?_ ?_ _ | with_reducible refine Below.alloc ?_ ?_ _ | with_reducible refine Below.grow _ _ _ ?_ ?_ | omega | (simp; done) | (simp; omega)))) (HSW.out.below (by repeat (first | with_reducible exact Below.refl _ _ | with_reducible assumption | with_reducible exact below_d1 _ _ _ _ _ | with_reducible exact below_d2 _ _ _ _ _ _ _ _ | with_reducible exact below_d3 _ _ _ _ _ | with_reducible exact below_d4 _ _ _ _ _ _ _ _ | with_reducible exact below_d5 _ _ | with_reducible refine Below.drew ?_ | with_reducible refine Below.drewN' ?_ _ | with_reducible refine below_grow0 _ _ ?_ | with_reducible refine below_alloc0 _ ?_ | with_reducible refine Below.setCell ?_ ?_ _ | with_reducible refine Below.alloc ?_ ?_ _ | with_reducible refine Below.grow _ _ _ ?_ ?_ | omega | (simp; done) | (simp; omega))))).mono ?_); rintro e w1 ⟨A5, c5, A6, c6, rfl, ho1, ho2, hb1⟩; obtain ⟨ext1, d1, rfl⟩ := Below.grown_eq _ hb1; have HO1 := Lib.hid ho1.sl; have HO2 := Lib.hid ho2.sl; clear ho1 ho2 hb1)
              refine hK.out _ _ ?gT2_20 (fun hHeld => ?_)
              case gT2_20 => ((try dsimp only); (refine ⟨?_, ?_, ?_, ?_, ?_, ?_, ?_, ?_, ?_⟩ <;> go_simp))
              clear hK K
              skip
              refine wpE_ready (rs := [4]) (by kernel_rfl) (by simp) ?_
              refine AllE.cons (by simp only [List.getElem?_toArray]; rfl) (fun K hK => ?_) AllE.nil
              go_simp
              (go_at_call 29; (with_reducible refine (HPR.out _ _ _ (HO1.out.below (by repeat (first | with_reducible exact Below.refl _ _ | with_reducible assumption | with_reducible exact below_d1 _ _ _ _ _ | with_reducible exact below_d2 _ _ _ _ _ _ _ _ | with_reducible exact below_d3 _ _ _ _ _ | with_reducible exact below_d4 _ _ _ _ _ _ _ _ | with_reducible exact below_d5 _ _ | with_reducible refine Below.drew ?_ | with_reducible refine Below.drewN' ?_ _ | with_reducible refine below_grow0 _ _ ?_ | with_reducible refine below_alloc0 _ ?_ | with_reducible refine Below.setCell ?_ ?_ _ | with_reducible refine Below.alloc ?_ ?_ _ | with_reducible refine Below.grow _ _ _ ?_ ?_ | omega | (simp; done) | (simp; omega)))) (HO2.out.below (by repeat (first | with_reducible exact Below.refl _ _ | with_reducible assumption | with_reducible exact below_d1 _ _ _ _ _ | with_reducible exact below_d2 _ _ _ _ _ _ _ _ | with_reducible exact below_d3 _ _ _ _ _ | with_reducible exact below_d4 _ _ _ _ _ _ _ _ | with_reducible exact below_d5 _ _ | with_reducible refine Below.drew ?_ | with_reducible refine Below.drewN' ?_ _ | with_reducible refine below_grow0 _ _ ?_ | with_reducible refine below_alloc0 _ ?_ | with_reducible refine Below.setCell ?_ ?_ _ | with_reducible refine Below.alloc ?_ ?_ _ | with_reducible refine Below.grow _ _ _ ?_ ?_ | omega | (simp; done) | (simp; omega))))).mono ?_); rintro e w3 ⟨rfl, hb3⟩; obtain ⟨ext3, d3, rfl⟩ := Below.grown_eq _ hb3; clear hb3)
              refine hK.out _ _ ?gT2_21 (fun hHeld => ?_)
              case gT2_21 => ((try dsimp only); (refine ⟨?_, ?_, ?_, ?_, ?_, ?_, ?_, ?_, ?_⟩ <;> go_simp))
              clear hK K
              try simp only [Act.put, List.setIfInBounds_toArray, List.set_cons_zero, List.set_cons_succ]
              (refine wpE_takeP (i := 5) (v := ?gV2_22) (by simp only [List.getElem?_toArray]; rfl) (by kernel_rfl) (by kernel_rfl) (by kernel_rfl) (by rfl) (fun _ _ _ h => h) (Or.inl ⟨by rfl, ?gY2_22⟩) (by assumption) ?gR2_22; case gY2_22 => (intro w hSw; (try dsimp only at hSw); go_simp <;> with_reducible rfl))
              try simp only [Act.put, List.setIfInBounds_toArray, List.set_cons_zero, List.set_cons_succ]
              (refine wpE_takeP (i := 6) (v := ?gV2_23) (by simp only [List.getElem?_toArray]; rfl) (by kernel_rfl) (by kernel_rfl) (by kernel_rfl) (by rfl) (fun _ _ _ h => h) (Or.inl ⟨by rfl, ?gY2_23⟩) (by assumption) ?gR2_23; case gY2_23 => (intro w hSw; (try dsimp only at hSw); go_simp <;> with_reducible rfl))
              try simp only [Act.put, List.setIfInBounds_toArray, List.set_cons_zero, List.set_cons_succ]
              (refine wpE_takeP (i := 7) (v := ?gV2_24) (by simp only [List.getElem?_toArray]; rfl) (by kernel_rfl) (by kernel_rfl) (by kernel_rfl) (by rfl) (fun _ _ _ h => h) (Or.inl ⟨by rfl, ?gY2_24⟩) (by assumption) ?gR2_24; case gY2_24 => (intro w hSw; (try dsimp only at hSw); go_simp <;> with_reducible rfl))
              try simp only [Act.put, List.setIfInBounds_toArray, List.set_cons_zero, List.set_cons_succ]
              refine wpE_ready (rs := [9]) (by kernel_rfl) (by simp) ?_
              refine AllE.cons (by simp only [List.getElem?_toArray]; rfl) (fun K hK => ?_) AllE.nil
              go_simp
              refine hK.out _ _ ?gT2_25 (fun hHeld => ?_)
              case gT2_25 => ((try dsimp only); (refine ⟨?_, ?_, ?_, ?_, ?_, ?_, ?_, ?_, ?_⟩ <;> go_simp))
              clear hK K
              try simp only [Act.put, List.setIfInBounds_toArray, List.set_cons_zero, List.set_cons_succ]
              (refine wpE_takeP (i := 10) (v := ?gV2_26) (by simp only [List.getElem?_toArray]; rfl) (by kernel_rfl) (by kernel_rfl) (by kernel_rfl) (by rfl) (fun _ _ _ h => h) (Or.inl ⟨by rfl, ?gY2_26⟩) (by assumption) ?gR2_26; case gY2_26 => (intro w hSw; (try dsimp only at hSw); go_simp <;> with_reducible rfl))
              try simp only [Act.put, List.setIfInBounds_toArray, List.set_cons_zero, List.set_cons_succ]
              refine wpE_done (by kernel_rfl) ?_ _
              refine NoPanic.normal ?_
              go_wp2_with fail
              go_meet
              refine ⟨_, rfl, rfl, ?_, ?_, Lib.hid ?n2_26⟩
              · exact Below.own hW1W (by repeat (first | with_reducible exact Below.refl _ _ | with_reducible assumption | with_reducible exact below_d1 _ _ _ _ _ | with_reducible exact below_d2 _ _ _ _ _ _ _ _ | with_reducible exact below_d3 _ _ _ _ _ | with_reducible exact below_d4 _ _ _ _ _ _ _ _ | with_reducible exact below_d5 _ _ | with_reducible refine Below.drew ?_ | with_reducible refine Below.drewN' ?_ _ | with_reducible refine below_grow0 _ _ ?_ | with_reducible refine below_alloc0 _ ?_ | with_reducible refine Below.setCell ?_ ?_ _ | with_reducible refine Below.alloc ?_ ?_ _ | with_reducible refine Below.grow _ _ _ ?_ ?_ | omega | (simp; done) | (simp; omega)))
              · first | omega | (simp <;> omega)
              case n2_26 => first | exact Bk.new _ _ _ (by simp [hWs1]) | exact (Bk.new W _ _ hWs1.symm).below (by repeat (first | with_reducible exact Below.refl _ _ | with_reducible assumption | with_reducible exact below_d1 _ _ _ _ _ | with_reducible exact below_d2 _ _ _ _ _ _ _ _ | with_reducible exact below_d3 _ _ _ _ _ | with_reducible exact below_d4 _ _ _ _ _ _ _ _ | with_reducible exact below_d5 _ _ | with_reducible refine Below.drew ?_ | with_reducible refine Below.drewN' ?_ _ | with_reducible refine below_grow0 _ _ ?_ | with_reducible refine below_alloc0 _ ?_ | with_reducible refine Below.setCell ?_ ?_ _ | with_reducible refine Below.alloc ?_ ?_ _ | with_reducible refine Below.grow _ _ _ ?_ ?_ | omega | (simp; done) | (simp; omega))) | exact (Bk.new (grow W ext1 d1) _ _ (by simp [hWs1])).below (by repeat (first | with_reducible exact Below.refl _ _ | with_reducible assumption | with_reducible exact below_d1 _ _ _ _ _ | with_reducible exact below_d2 _ _ _ _ _ _ _ _ | with_reducible exact below_d3 _ _ _ _ _ | with_reducible exact below_d4 _ _ _ _ _ _ _ _ | with_reducible exact below_d5 _ _ | with_reducible refine Below.drew ?_ | with_reducible refine Below.drewN' ?_ _ | with_reducible refine below_grow0 _ _ ?_ | with_reducible refine below_alloc0 _ ?_ | with_reducible refine Below.setCell ?_ ?_ _ | with_reducible refine Below.alloc ?_ ?_ _ | with_reducible refine Below.grow _ _ _ ?_ ?_ | omega | (simp; done) | (simp; omega)))
            exact AllE.nil
          case rest =>
            obtain ⟨wd, rfl⟩ : ∃ wd : World, wd = wc := ⟨_, rfl⟩
            obtain ⟨b2, rfl, rfl, hbd, hb2, HX2⟩ := hcut
            have hbwd : Below w.heap.size w wd := Below.own hbW2 hbd
            have hwd : w.heap.size + 1 < wd.heap.size := Nat.lt_of_lt_of_le hW2s hbd.size
            have hld : b2 < wd.heap.size := HX2.out.lt
            have hbld : b < wd.heap.size := Nat.lt_of_lt_of_le hbl2 hbd.size
            have hbnd : bn < wd.heap.size := Nat.lt_of_lt_of_le hbn hbd.size
            have HT := Lib.hid (HT.out.below hbd)
            have HR := Lib.hid (HR.out.below hbd)
            have HX1 := Lib.hid (HB2.out.below hbd)
            have m5' := keep2 hbd m5
            clear j0 j1 j2 y0 y1 y2 y3 y4 y5 yf4 HPR m5 HB2
            have j0 : wd.cell? ⟨w.heap.size, 0, none⟩ = some (.int .i64 z) := HT.out.cell 0
            have j1 : wd.cell? ⟨w.heap.size, 1, none⟩ = some (.slice A l.length c) := HT.out.cell 1
            have j2 : wd.cell? ⟨w.heap.size, 2, none⟩ = some (.slice A2 ss.length c2) := HT.out.cell 2
            have y0 : wd.cell? ⟨w.heap.size + 1, 0, none⟩ = some (.int .i64 op) := HR.out.cell 0
            have y1 : wd.cell? ⟨w.heap.size + 1, 1, none⟩ = some (.int .i64 rs) := HR.out.cell 1
            have y2 : wd.cell? ⟨w.heap.size + 1, 2, none⟩ = some (.string rp) := HR.out.cell 2
            have y3 : wd.cell? ⟨w.heap.size + 1, 3, none⟩ = some (.string rd) := HR.out.cell 3
            have y4 : wd.cell? ⟨w.heap.size + 1, 4, none⟩ = some (.int .i64 n4) := HR.out.cell 4
            have y5 : wd.cell? ⟨w.heap.size + 1, 5, none⟩ = some (.int .i64 rf) := HR.out.cell 5
            have yf4 : wd.frozen? ⟨w.heap.size + 1, 4, none⟩ = false := HR.out.frozen 4
            obtain ⟨xz, xo, xs, xp, xd, xv, xw⟩ := X
            have a0 : wd.cell? ⟨b, 0, none⟩ = some (.int .i64 xz) := HX1.out.cell 0
            have a1 : wd.cell? ⟨b, 1, none⟩ = some (.int .i64 xo) := HX1.out.cell 1
            have a2 : wd.cell? ⟨b, 2, none⟩ = some (.int .i64 xs) := HX1.out.cell 2
            have a3 : wd.cell? ⟨b, 3, none⟩ = some (.string xp) := HX1.out.cell 3
            have a4 : wd.cell? ⟨b, 4, none⟩ = some (.string xd) := HX1.out.cell 4
            have a5 : wd.cell? ⟨b, 5, none⟩ = some (.int .i64 xv) := HX1.out.cell 5
            have a6 : wd.cell? ⟨b, 6, none⟩ = some (.int .i64 xw) := HX1.out.cell 6
            have b0 : wd.cell? ⟨b2, 0, none⟩ = some (.int .i64 xz) := HX2.out.cell 0
            have b1 : wd.cell? ⟨b2, 1, none⟩ = some (.int .i64 xo) := HX2.out.cell 1
            have b2' : wd.cell? ⟨b2, 2, none⟩ = some (.int .i64 xs) := HX2.out.cell 2
            have b3 : wd.cell? ⟨b2, 3, none⟩ = some (.string xp) := HX2.out.cell 3
            have b4 : wd.cell? ⟨b2, 4, none⟩ = some (.string xd) := HX2.out.cell 4
            have b5 : wd.cell? ⟨b2, 5, none⟩ = some (.int .i64 xv) := HX2.out.cell 5
            have b6 : wd.cell? ⟨b2, 6, none⟩ = some (.int .i64 xw) := HX2.out.cell 6
            by_cases u1 : u = -1
            · subst u1
              clear HP4 HPA
              go_wp2_with fail
              go_ret
              exact ⟨rfl, (by repeat (first | with_reducible exact Below.refl _ _ | with_reducible assumption | with_reducible exact below_d1 _ _ _ _ _ | with_reducible exact below_d2 _ _ _ _ _ _ _ _ | with_reducible exact below_d3 _ _ _ _ _ | with_reducible exact below_d4 _ _ _ _ _ _ _ _ | with_reducible exact below_d5 _ _ | with_reducible refine Below.drew ?_ | with_reducible refine Below.drewN' ?_ _ | with_reducible refine below_grow0 _ _ ?_ | with_reducible refine below_alloc0 _ ?_ | with_reducible refine Below.setCell ?_ ?_ _ | with_reducible refine Below.alloc ?_ ?_ _ | with_reducible refine Below.grow _ _ _ ?_ ?_ | omega | (simp; done) | (simp; omega)))⟩
            · have e1 : (u == -1) = false := beq_eq_false_iff_ne.2 u1
              by_cases u2 : u = n4
              · subst u2
                clear HP4 HPA u1
                go_wp2_with fail
                go_ret
                exact ⟨rfl, (by repeat (first | with_reducible exact Below.refl _ _ | with_reducible assumption | with_reducible exact below_d1 _ _ _ _ _ | with_reducible exact below_d2 _ _ _ _ _ _ _ _ | with_reducible exact below_d3 _ _ _ _ _ | with_reducible exact below_d4 _ _ _ _ _ _ _ _ | with_reducible exact below_d5 _ _ | with_reducible refine Below.drew ?_ | with_reducible refine Below.drewN' ?_ _ | with_reducible refine below_grow0 _ _ ?_ | with_reducible refine below_alloc0 _ ?_ | with_reducible refine Below.setCell ?_ ?_ _ | with_reducible refine Below.alloc ?_ ?_ _ | with_reducible refine Below.grow _ _ _ ?_ ?_ | omega | (simp; done) | (simp; omega)))⟩
              · have e2 : (u == n4) = false := beq_eq_false_iff_ne.2 u2
                have HPR := Lib.hid (HPA.out u)
                rw [HP4.out u u1 u2] at HPR
                obtain ⟨X9, hX9⟩ : ∃ X9, X9 = prepX ⟨z, l, ss⟩ zz ⟨op, rs, rp, rd, u, rf⟩ := ⟨_, rfl⟩
                rw [← hX9] at HPR
                clear hX9 HP4 HPA u1 u2
                go_upto_region 15 with fail
                refine gen_w (fun W3 hW3 => ?_)
                have hbW3 : Below w.heap.size w W3 := by rw [hW3.out]; exact Below.set_up hbwd (Nat.le_succ _)
                have HT3 := Lib.hid (show Bk W3 w.heap.size [.int .i64 z, .slice A l.length c, .slice A2 ss.length c2] 25 by rw [hW3.out]; exact HT.out.far (by omega))
                have HR3 := Lib.hid (show Bk W3 (w.heap.size + 1) [.int .i64 op, .int .i64 rs, .string rp, .string rd, .int .i64 u, .int .i64 rf] 67 by rw [hW3.out]; exact HR.out.put 4 (.int .i64 u))
                have hW3s : w.heap.size + 1 < W3.heap.size := HR3.out.lt
                clear hW3 HT HR j0 j1 j2 y0 y1 y2 y3 y4 y5 yf4 a0 a1 a2 a3 a4 a5 a6 b0 b1 b2' b3 b4 b5 b6 m5' HX1 HX2
                have HT := HT3
                have HR := HR3
                clear HT3 HR3
                have j0 : W3.cell? ⟨w.heap.size, 0, none⟩ = some (.int .i64 z) := HT.out.cell 0
                have j1 : W3.cell? ⟨w.heap.size, 1, none⟩ = some (.slice A l.length c) := HT.out.cell 1
                have j2 : W3.cell? ⟨w.heap.size, 2, none⟩ = some (.slice A2 ss.length c2) := HT.out.cell 2
                have y0 : W3.cell? ⟨w.heap.size + 1, 0, none⟩ = some (.int .i64 op) := HR.out.cell 0
                have y1 : W3.cell? ⟨w.heap.size + 1, 1, none⟩ = some (.int .i64 rs) := HR.out.cell 1
                have y2 : W3.cell? ⟨w.heap.size + 1, 2, none⟩ = some (.string rp) := HR.out.cell 2
                have y3 : W3.cell? ⟨w.heap.size + 1, 3, none⟩ = some (.string rd) := HR.out.cell 3
                have y4 : W3.cell? ⟨w.heap.size + 1, 4, none⟩ = some (.int .i64 u) := HR.out.cell 4
                have y5 : W3.cell? ⟨w.heap.size + 1, 5, none⟩ = some (.int .i64 rf) := HR.out.cell 5
                have yf4 : W3.frozen? ⟨w.heap.size + 1, 4, none⟩ = false := HR.out.frozen 4
                go_cut [15, 16] (fun s7 s8 wx => CutP W3 X9 9 s7 s8 wx)
                case first =>
                  refine wp_region_noPanic ?_
                  refine wp_region_W (by kernel_rfl) (fun W hW => ?_)
                  have cl0 : W.cell? ⟨w.heap.size, 0, none⟩ = some (.int .i64 z) := by rw [hW.out]; go_simp
                  have cl1 : W.cell? ⟨w.heap.size, 1, none⟩ = some (.slice A l.length c) := by rw [hW.out]; go_simp
                  have cl2 : W.cell? ⟨w.heap.size, 2, none⟩ = some (.slice A2 ss.length c2) := by rw [hW.out]; go_simp
                  have cl3 : W.cell? ⟨w.heap.size + 1, 0, none⟩ = some (.int .i64 op) := by rw [hW.out]; go_simp
                  have cl4 : W.cell? ⟨w.heap.size + 1, 1, none⟩ = some (.int .i64 rs) := by rw [hW.out]; go_simp
                  have cl5 : W.cell? ⟨w.heap.size + 1, 2, none⟩ = some (.string rp) := by rw [hW.out]; go_simp
                  have cl6 : W.cell? ⟨w.heap.size + 1, 3, none⟩ = some (.string rd) := by rw [hW.out]; go_simp
                  have cl7 : W.cell? ⟨w.heap.size + 1, 4, none⟩ = some (.int .i64 u) := by rw [hW.out]; go_simp
                  have cl8 : W.cell? ⟨w.heap.size + 1, 5, none⟩ = some (.int .i64 rf) := by rw [hW.out]; go_simp
                  have HVW := Lib.hid (HV.out.below (w' := W) (by rw [hW.out]; exact hbW3.drew))
                  have HSW := Lib.hid (HS.out.below (w' := W) (by rw [hW.out]; exact hbW3.drew))
                  have hWs : w.heap.size + 1 < W.heap.size := by rw [hW.out]; simp <;> omega
                  have hW1W : Below W3.heap.size W3 W := by rw [hW.out]; exact (by repeat (first | with_reducible exact Below.refl _ _ | with_reducible assumption | with_reducible exact below_d1 _ _ _ _ _ | with_reducible exact below_d2 _ _ _ _ _ _ _ _ | with_reducible exact below_d3 _ _ _ _ _ | with_reducible exact below_d4 _ _ _ _ _ _ _ _ | with_reducible exact below_d5 _ _ | with_reducible refine Below.drew ?_ | with_reducible refine Below.drewN' ?_ _ | with_reducible refine below_grow0 _ _ ?_ | with_reducible refine below_alloc0 _ ?_ | with_reducible refine Below.setCell ?_ ?_ _ | with_reducible refine Below.alloc ?_ ?_ _ | with_reducible refine Below.grow _ _ _ ?_ ?_ | omega | (simp; done) | (simp; omega)))
                  have hWs1 : W.heap.size = W3.heap.size := by rw [hW.out]; simp
                  refine wpAny_S (fun w' => w'.cell? ⟨w.heap.size, 0, none⟩ = some (.int .i64 z) ∧ w'.cell? ⟨w.heap.size, 1, none⟩ = some (.slice A l.length c) ∧ w'.cell? ⟨w.heap.size, 2, none⟩ = some (.slice A2 ss.length c2) ∧ w'.cell? ⟨w.heap.size + 1, 0, none⟩ = some (.int .i64 op) ∧ w'.cell? ⟨w.heap.size + 1, 1, none⟩ = some (.int .i64 rs) ∧ w'.cell? ⟨w.heap.size + 1, 2, none⟩ = some (.string rp) ∧ w'.cell? ⟨w.heap.size + 1, 3, none⟩ = some (.string rd) ∧ w'.cell? ⟨w.heap.size + 1, 4, none⟩ = some (.int .i64 u) ∧ w'.cell? ⟨w.heap.size + 1, 5, none⟩ = some (.int .i64 rf)) (fun i => false) (by (try dsimp only); (refine ⟨?_, ?_, ?_, ?_, ?_, ?_, ?_, ?_, ?_⟩ <;> go_simp)) (fun hHeld => ?_)
                  (refine wpE_take (i := 0) (v := ?gV3_1) (by simp only [List.getElem?_toArray]; rfl) (by kernel_rfl) (by kernel_rfl) (by kernel_rfl) (by kernel_rfl) (by kernel_rfl) (by rfl) (fun _ _ _ h => h) (Or.inl ⟨by rfl, ?gY3_1⟩) (by assumption) ?gR3_1; case gY3_1 => (intro w hSw; (try dsimp only at hSw); go_simp <;> with_reducible rfl))
                  try simp only [Act.put, List.setIfInBounds_toArray, List.set_cons_zero, List.set_cons_succ]
                  (refine wpE_takeP (i := 2) (v := ?gV3_2) (by simp only [List.getElem?_toArray]; rfl) (by kernel_rfl) (by kernel_rfl) (by kernel_rfl) (by rfl) (fun _ _ _ h => h) (Or.inl ⟨by rfl, ?gY3_2⟩) (by assumption) ?gR3_2; case gY3_2 => (intro w hSw; (try dsimp only at hSw); go_simp <;> with_reducible rfl))
                  try simp only [Act.put, List.setIfInBounds_toArray, List.set_cons_zero, List.set_cons_succ]
                  (refine wpE_take (i := 3) (v := ?gV3_3) (by simp only [List.getElem?_toArray]; rfl) (by kernel_rfl) (by kernel_rfl) (by kernel_rfl) (by kernel_rfl) (by kernel_rfl) (by rfl) (fun _ _ _ h => h) (Or.inl ⟨by rfl, ?gY3_3⟩) (by assumption) ?gR3_3; case gY3_3 => (intro w hSw; (try dsimp only at hSw); go_simp <;> with_reducible rfl))
                  try simp only [Act.put, List.setIfInBounds_toArray, List.set_cons_zero, List.set_cons_succ]
                  refine wpE_ready (rs := [1, 8]) (by kernel_rfl) (by simp) ?_
                  refine AllE.cons (by simp only [List.getElem?_toArray]; rfl) (fun K hK => ?gO3_4) ?gL3_4
                  case gO3_4 =>
                    go_simp
                    (go_at_call 16; (with_reducible refine (HOW.out _ (HVW.out.below (by repeat (first | with_reducible exact Below.refl _ _ | with_reducible assumption | with_reducible exact below_d1 _ _ _ _ _ | with_reducible exact below_d2 _ _ _ _ _ _ _ _ | with_reducible exact below_d3 _ _ _ _ _ | with_reducible exact below_d4 _ _ _ _ _ _ _ _ | with_reducible exact below_d5 _ _ | with_reducible refine Below.drew ?_ | with_reducible refine Below.drewN' ?_ _ | with_reducible refine below_grow0 _ _ ?_ | with_reducible refine below_alloc0 _ ?_ | with_reducible refine Below.setCell ?_ ?_ _ | with_reducible refine Below.alloc ?_ ?_ _ | with_reducible refine Below.grow _ _ _ ?_ ?_ | omega | (simp; done) | (simp; omega)))) (HSW.out.below (by repeat (first | with_reducible exact Below.refl _ _ | with_reducible assumption | with_reducible exact below_d1 _ _ _ _ _ | with_reducible exact below_d2 _ _ _ _ _ _ _ _ | with_reducible exact below_d3 _ _ _ _ _ | with_reducible exact below_d4 _ _ _ _ _ _ _ _ | with_reducible exact below_d5 _ _ | with_reducible refine Below.drew ?_ | with_reducible refine Below.drewN' ?_ _ | with_reducible refine below_grow0 _ _ ?_ | with_reducible refine below_alloc0 _ ?_ | with_reducible refine Below.setCell ?_ ?_ _ | with_reducible refine Below.alloc ?_ ?_ _ | with_reducible refine Below.grow _ _ _ ?_ ?_ | omega | (simp; done) | (simp; omega))))).mono ?_); rintro e w1 ⟨A5, c5, A6, c6, rfl, ho1, ho2, hb1⟩; obtain ⟨ext1, d1, rfl⟩ := Below.grown_eq _ hb1; have HO1 := Lib.hid ho1.sl; have HO2 := Lib.hid ho2.sl; clear ho1 ho2 hb1)
                    refine hK.out _ _ ?gT3_4 (fun hHeld => ?_)
                    case gT3_4 => ((try dsimp only); (refine ⟨?_, ?_, ?_, ?_, ?_, ?_, ?_, ?_, ?_⟩ <;> go_simp))
                    clear hK K
                    skip
                    refine wpE_ready (rs := [4, 8]) (by kernel_rfl) (by simp) ?_
                    refine AllE.cons (by simp only [List.getElem?_toArray]; rfl) (fun K hK => ?gO3_5) ?gL3_5
                    case gO3_5 =>
                      go_simp
                      (go_at_call 29; (with_reducible refine (HPR.out _ _ _ (HO1.out.below (by repeat (first | with_reducible exact Below.refl _ _ | with_reducible assumption | with_reducible exact below_d1 _ _ _ _ _ | with_reducible exact below_d2 _ _ _ _ _ _ _ _ | with_reducible exact below_d3 _ _ _ _ _ | with_reducible exact below_d4 _ _ _ _ _ _ _ _ | with_reducible exact below_d5 _ _ | with_reducible refine Below.drew ?_ | with_reducible refine Below.drewN' ?_ _ | with_reducible refine below_grow0 _ _ ?_ | with_reducible refine below_alloc0 _ ?_ | with_reducible refine Below.setCell ?_ ?_ _ | with_reducible refine Below.alloc ?_ ?_ _ | with_reducible refine Below.grow _ _ _ ?_ ?_ | omega | (simp; done) | (simp; omega)))) (HO2.out.below (by repeat (first | with_reducible exact Below.refl _ _ | with_reducible assumption | with_reducible exact below_d1 _ _ _ _ _ | with_reducible exact below_d2 _ _ _ _ _ _ _ _ | with_reducible exact below_d3 _ _ _ _ _ | with_reducible exact below_d4 _ _ _ _ _ _ _ _ | with_reducible exact below_d5 _ _ | with_reducible refine Below.drew ?_ | with_reducible refine Below.drewN' ?_ _ | with_reducible refine below_grow0 _ _ ?_ | with_reducible refine below_alloc0 _ ?_ | with_reducible refine Below.setCell ?_ ?_ _ | with_reducible refine Below.alloc ?_ ?_ _ | with_reducible refine Below.grow _ _ _ ?_ ?_ | omega | (simp; done) | (simp; omega))))).mono ?_); rintro e w3 ⟨rfl, hb3⟩; obtain ⟨ext3, d3, rfl⟩ := Below.grown_eq _ hb3; clear hb3)
                      refine hK.out _ _ ?gT3_5 (fun hHeld => ?_)
                      case gT3_5 => ((try dsimp only); (refine ⟨?_, ?_, ?_, ?_, ?_, ?_, ?_, ?_, ?_⟩ <;> go_simp))
                      clear hK K
                      try simp only [Act.put, List.setIfInBounds_toArray, List.set_cons_zero, List.set_cons_succ]
                      (refine wpE_takeP (i := 5) (v := ?gV3_6) (by simp only [List.getElem?_toArray]; rfl) (by kernel_rfl) (by kernel_rfl) (by kernel_rfl) (by rfl) (fun _ _ _ h => h) (Or.inl ⟨by rfl, ?gY3_6⟩) (by assumption) ?gR3_6; case gY3_6 => (intro w hSw; (try dsimp only at hSw); go_simp <;> with_reducible rfl))
                      try simp only [Act.put, List.setIfInBounds_toArray, List.set_cons_zero, List.set_cons_succ]
                      (refine wpE_takeP (i := 6) (v := ?gV3_7) (by simp only [List.getElem?_toArray]; rfl) (by kernel_rfl) (by kernel_rfl) (by kernel_rfl) (by rfl) (fun _ _ _ h => h) (Or.inl ⟨by rfl, ?gY3_7⟩) (by assumption) ?gR3_7; case gY3_7 => (intro w hSw; (try dsimp only at hSw); go_simp <;> with_reducible rfl))
                      try simp only [Act.put, List.setIfInBounds_toArray, List.set_cons_zero, List.set_cons_succ]
                      (refine wpE_takeP (i := 7) (v := ?gV3_8) (by simp only [List.getElem?_toArray]; rfl) (by kernel_rfl) (by kernel_rfl) (by kernel_rfl) (by rfl) (fun _ _ _ h => h) (Or.inl ⟨by rfl, ?gY3_8⟩) (by assumption) ?gR3_8; case gY3_8 => (intro w hSw; (try dsimp only at hSw); go_simp <;> with_reducible rfl))
                      try simp only [Act.put, List.setIfInBounds_toArray, List.set_cons_zero, List.set_cons_succ]
                      refine wpE_ready (rs := [8]) (by kernel_rfl) (by simp) ?_
                      refine AllE.cons (by simp only [List.getElem?_toArray]; rfl) (fun K hK => ?_) AllE.nil
                      go_simp
                      refine hK.out _ _ ?gT3_9 (fun hHeld => ?_)
                      case gT3_9 => ((try dsimp only); (refine ⟨?_, ?_, ?_, ?_, ?_, ?_, ?_, ?_, ?_⟩ <;> go_simp))
                      clear hK K
                      try simp only [Act.put, List.setIfInBounds_toArray, List.set_cons_zero, List.set_cons_succ]
                      refine wpE_ready (rs := [9]) (by kernel_rfl) (by simp) ?_
                      refine AllE.cons (by simp only [List.getElem?_toArray]; rfl) (fun K hK => ?_) AllE.nil
                      go_simp
                      refine hK.out _ _ ?gT3_10 (fun hHeld => ?_)
                      case gT3_10 => ((try dsimp only); (refine ⟨?_, ?_, ?_, ?_, ?_, ?_, ?_, ?_, ?_⟩ <;> go_simp))
                      clear hK K
                      try simp only [Act.put, List.setIfInBounds_toArray, List.set_cons_zero, List.set_cons_succ]
                      (refine wpE_takeP (i := 10) (v := ?gV3_11) (by simp only [List.getElem?_toArray]; rfl) (by kernel_rfl) (by kernel_rfl) (by kernel_rfl) (by rfl) (fun _ _ _ h => h) (Or.inl ⟨by rfl, ?gY3_11⟩) (by assumption) ?gR3_11; case gY3_11 => (intro w hSw; (try dsimp only at hSw); go_simp <;> with_reducible rfl))
                      try simp only [Act.put, List.setIfInBounds_toArray, List.set_cons_zero, List.set_cons_succ]
                      refine wpE_done (by kernel_rfl) ?_ _
                      refine NoPanic.normal ?_
                      go_wp2_with fail
                      go_meet
                      refine ⟨_, rfl, rfl, ?_, ?_, Lib.hid ?n3_11⟩
                      · exact Below.own hW1W (by repeat (first | with_reducible exact Below.refl _ _ | with_reducible assumption | with_reducible exact below_d1 _ _ _ _ _ | with_reducible exact below_d2 _ _ _ _ _ _ _ _ | with_reducible exact below_d3 _ _ _ _ _ | with_reducible exact below_d4 _ _ _ _ _ _ _ _ | with_reducible exact below_d5 _ _ | with_reducible refine Below.drew ?_ | with_reducible refine Below.drewN' ?_ _ | with_reducible refine below_grow0 _ _ ?_ | with_reducible refine below_alloc0 _ ?_ | with_reducible refine Below.setCell ?_ ?_ _ | with_reducible refine Below.alloc ?_ ?_ _ | with_reducible refine Below.grow _ _ _ ?_ ?_ | omega | (simp; done) | (simp; omega)))
                      · first | omega | (simp <;> omega)
                      case n3_11 => first | exact Bk.new _ _ _ (by simp [hWs1]) | exact (Bk.new W _ _ hWs1.symm).below (by repeat (first | with_reducible exact Below.refl _ _ | with_reducible assumption | with_reducible exact below_d1 _ _ _ _ _ | with_reducible exact below_d2 _ _ _ _ _ _ _ _ | with_reducible exact below_d3 _ _ _ _ _ | with_reducible exact below_d4 _ _ _ _ _ _ _ _ | with_reducible exact below_d5 _ _ | with_reducible refine Below.drew ?_ | with_reducible refine Below.drewN' ?_ _ | with_reducible refine below_grow0 _ _ ?_ | with_reducible refine below_alloc0 _ ?_ | with_reducible refine Below.setCell ?_ ?_ _ | with_reducible refine Below.alloc ?_ ?_ _ | with_reducible refine Below.grow _ _ _ ?_ ?_ | omega | (simp; done) | (simp; omega))) | exact (Bk.new (grow W ext1 d1) _ _ (by simp [hWs1])).below (by repeat (first | with_reducible exact Below.refl _ _ | with_reducible assumption | with_reducible exact below_d1 _ _ _ _ _ | with_reducible exact below_d2 _ _ _ _ _ _ _ _ | with_reducible exact below_d3 _ _ _ _ _ | with_reducible exact below_d4 _ _ _ _ _ _ _ _ | with_reducible exact below_d5 _ _ | with_reducible refine Below.drew ?_ | with_reducible refine Below.drewN' ?_ _ | with_reducible refine below_grow0 _ _ ?_ | with_reducible refine below_alloc0 _ ?_ | with_reducible refine Below.setCell ?_ ?_ _ | with_reducible refine Below.alloc ?_ ?_ _ | with_reducible refine Below.grow _ _ _ ?_ ?_ | omega | (simp; done) | (simp; omega)))
                    refine AllE.cons (by simp only [List.getElem?_toArray]; rfl) (fun K hK => ?gO3_12) ?gL3_12
                    case gO3_12 =>
                      go_simp
                      refine hK.out _ _ ?gT3_12 (fun hHeld => ?_)
                      case gT3_12 => ((try dsimp only); (refine ⟨?_, ?_, ?_, ?_, ?_, ?_, ?_, ?_, ?_⟩ <;> go_simp))
                      clear hK K
                      try simp only [Act.put, List.setIfInBounds_toArray, List.set_cons_zero, List.set_cons_succ]
                      refine wpE_ready (rs := [4]) (by kernel_rfl) (by simp) ?_
                      refine AllE.cons (by simp only [List.getElem?_toArray]; rfl) (fun K hK => ?_) AllE.nil
                      go_simp
                      (go_at_call 29; (with_reducible refine (HPR.out _ _ _ (HO1.out.below (by repeat (first | with_reducible exact Below.refl _ _ | with_reducible assumption | with_reducible exact below_d1 _ _ _ _ _ | with_reducible exact below_d2 _ _ _ _ _ _ _ _ | with_reducible exact below_d3 _ _ _ _ _ | with_reducible exact below_d4 _ _ _ _ _ _ _ _ | with_reducible exact below_d5 _ _ | with_reducible refine Below.drew ?_ | with_reducible refine Below.drewN' ?_ _ | with_reducible refine below_grow0 _ _ ?_ | with_reducible refine below_alloc0 _ ?_ | with_reducible refine Below.setCell ?_ ?_ _ | with_reducible refine Below.alloc ?_ ?_ _ | with_reducible refine Below.grow _ _ _ ?_ ?_ | omega | (simp; done) | (simp; omega)))) (HO2.out.below (by repeat (first | with_reducible exact Below.refl _ _ | with_reducible assumption | with_reducible exact below_d1 _ _ _ _ _ | with_reducible exact below_d2 _ _ _ _ _ _ _ _ | with_reducible exact below_d3 _ _ _ _ _ | with_reducible exact below_d4 _ _ _ _ _ _ _ _ | with_reducible exact below_d5 _ _ | with_reducible refine Below.drew ?_ | with_reducible refine Below.drewN' ?_ _ | with_reducible refine below_grow0 _ _ ?_ | with_reducible refine below_alloc0 _ ?_ | with_reducible refine Below.setCell ?_ ?_ _ | with_reducible refine Below.alloc ?_ ?_ _ | with_reducible refine Below.grow _ _ _ ?_ ?_ | omega | (simp; done) | (simp; omega))))).mono ?_); rintro e w3 ⟨rfl, hb3⟩; obtain ⟨ext3, d3, rfl⟩ := Below.grown_eq _ hb3; clear hb3)
                      refine hK.out _ _ ?gT3_13 (fun hHeld => ?_)
                      case gT3_13 => ((try dsimp only); (refine ⟨?_, ?_, ?_, ?_, ?_, ?_, ?_, ?_, ?_⟩ <;> go_simp))
                      clear hK K
                      try simp only [Act.put, List.setIfInBounds_toArray, List.set_cons_zero, List.set_cons_succ]
                      (refine wpE_takeP (i := 5) (v := ?gV3_14) (by simp only [List.getElem?_toArray]; rfl) (by kernel_rfl) (by kernel_rfl) (by kernel_rfl) (by rfl) (fun _ _ _ h => h) (Or.inl ⟨by rfl, ?gY3_14⟩) (by assumption) ?gR3_14; case gY3_14 => (intro w hSw; (try dsimp only at hSw); go_simp <;> with_reducible rfl))
                      try simp only [Act.put, List.setIfInBounds_toArray, List.set_cons_zero, List.set_cons_succ]
                      (refine wpE_takeP (i := 6) (v := ?gV3_15) (by simp only [List.getElem?_toArray]; rfl) (by kernel_rfl) (by kernel_rfl) (by kernel_rfl) (by rfl) (fun _ _ _ h => h) (Or.inl ⟨by rfl, ?gY3_15⟩) (by assumption) ?gR3_15; case gY3_15 => (intro w hSw; (try dsimp only at hSw); go_simp <;> with_reducible rfl))
                      try simp only [Act.put, List.setIfInBounds_toArray, List.set_cons_zero, List.set_cons_succ]
                      (refine wpE_takeP (i := 7) (v := ?gV3_16) (by simp only [List.getElem?_toArray]; rfl) (by kernel_rfl) (by kernel_rfl) (by kernel_rfl) (by rfl) (fun _ _ _ h => h) (Or.inl ⟨by rfl, ?gY3_16⟩) (by assumption) ?gR3_16; case gY3_16 => (intro w hSw; (try dsimp only at hSw); go_simp <;> with_reducible rfl))
                      try simp only [Act.put, List.setIfInBounds_toArray, List.set_cons_zero, List.set_cons_succ]
                      refine wpE_ready (rs := [9]) (by kernel_rfl) (by simp) ?_
                      refine AllE.cons (by simp only [List.getElem?_toArray]; rfl) (fun K hK => ?_) AllE.nil
                      go_simp
                      refine hK.out _ _ ?gT3_17 (fun hHeld => ?_)
                      case gT3_17 => ((try dsimp only); (refine ⟨?_, ?_, ?_, ?_, ?_, ?_, ?_, ?_, ?_⟩ <;> go_simp))
                      clear hK K
                      try simp only [Act.put, List.setIfInBounds_toArray, List.set_cons_zero, List.set_cons_succ]
                      (refine wpE_takeP (i := 10) (v := ?gV3_18) (by simp only [List.getElem?_toArray]; rfl) (by kernel_rfl) (by kernel_rfl) (by kernel_rfl) (by rfl) (fun _ _ _ h => h) (Or.inl ⟨by rfl, ?gY3_18⟩) (by assumption) ?gR3_18; case gY3_18 => (intro w hSw; (try dsimp only at hSw); go_simp <;> with_reducible rfl))
                      try simp only [Act.put, List.setIfInBounds_toArray, List.set_cons_zero, List.set_cons_succ]
                      refine wpE_done (by kernel_rfl) ?_ _
                      refine NoPanic.normal ?_
                      go_wp2_with fail
                      go_meet
                      refine ⟨_, rfl, rfl, ?_, ?_, Lib.hid ?n3_18⟩
                      · exact Below.own hW1W (by repeat (first | with_reducible exact Below.refl _ _ | with_reducible assumption | with_reducible exact below_d1 _ _ _ _ _ | with_reducible exact below_d2 _ _ _ _ _ _ _ _ | with_reducible exact below_d3 _ _ _ _ _ | with_reducible exact below_d4 _ _ _ _ _ _ _ _ | with_reducible exact below_d5 _ _ | with_reducible refine Below.drew ?_ | with_reducible refine Below.drewN' ?_ _ | with_reducible refine below_grow0 _ _ ?_ | with_reducible refine below_alloc0 _ ?_ | with_reducible refine Below.setCell ?_ ?_ _ | with_reducible refine Below.alloc ?_ ?_ _ | with_reducible refine Below.grow _ _ _ ?_ ?_ | omega | (simp; done) | (simp; omega)))
                      · first | omega | (simp <;> omega)
                      case n3_18 => first | exact Bk.new _ _ _ (by simp [hWs1]) | exact (Bk.new W _ _ hWs1.symm).below (by repeat (first | with_reducible exact Below.refl _ _ | with_reducible assumption | with_reducible exact below_d1 _ _ _ _ _ | with_reducible exact below_d2 _ _ _ _ _ _ _ _ | with_reducible exact below_d3 _ _ _ _ _ | with_reducible exact below_d4 _ _ _ _ _ _ _ _ | with_reducible exact below_d5 _ _ | with_reducible refine Below.drew ?_ | with_reducible refine Below.drewN' ?_ _ | with_reducible refine below_grow0 _ _ ?_ | with_reducible refine below_alloc0 _ ?_ | with_reducible refine Below.setCell ?_ ?_ _ | with_reducible refine Below.alloc ?_ ?_ _ | with_reducible refine Below.grow _ _ _ ?_ ?_ | omega | (simp; done) | (simp; omega))) | exact (Bk.new (grow W ext1 d1) _ _ (by simp [hWs1])).below (by repeat (first | with_reducible exact Below.refl _ _ | with_reducible assumption | with_reducible exact below_d1 _ _ _ _ _ | with_reducible exact below_d2 _ _ _ _ _ _ _ _ | with_reducible exact below_d3 _ _ _ _ _ | with_reducible exact below_d4 _ _ _ _ _ _ _ _ | with_reducible exact below_d5 _ _ | with_reducible refine Below.drew ?_ | with_reducible refine Below.drewN' ?_ _ | with_reducible refine below_grow0 _ _ ?_ | with_reducible refine below_alloc0 _ ?_ | with_reducible refine Below.setCell ?_ ?_ _ | with_reducible refine Below.alloc ?_ ?_ _ | with_reducible refine Below.grow _ _ _ ?_ ?_ | omega | (simp; done) | (simp; omega)))
                    exact AllE.nil
                  refine AllE.cons (by simp only [List.getElem?_toArray]; rfl) (fun K hK => ?gO3_19) ?gL3_19
                  case gO3_19 =>
                    go_simp
                    refine hK.out _ _ ?gT3_19 (fun hHeld => ?_)
                    case gT3_19 => ((try dsimp only); (refine ⟨?_, ?_, ?_, ?_, ?_, ?_, ?_, ?_, ?_⟩ <;> go_simp))
                    clear hK K
                    try simp only [Act.put, List.setIfInBounds_toArray, List.set_cons_zero, List.set_cons_succ]
                    refine wpE_ready (rs := [1]) (by kernel_rfl) (by simp) ?_
                    refine AllE.cons (by simp only [List.getElem?_toArray]; rfl) (fun K hK => ?_) AllE.nil
                    go_simp
                    (go_at_call 16; (with_reducible refine (HOW.out _ (HVW.out.below (by repeat (first | with_reducible exact Below.refl _ _ | with_reducible assumption | with_reducible exact below_d1 _ _ _ _ _ | with_reducible exact below_d2 _ _ _ _ _ _ _ _ | with_reducible exact below_d3 _ _ _ _ _ | with_reducible exact below_d4 _ _ _ _ _ _ _ _ | with_reducible exact below_d5 _ _ | with_reducible refine Below.drew ?_ | with_reducible refine Below.drewN' ?_ _ | with_reducible refine below_grow0 _ _ ?_ | with_reducible refine below_alloc0 _ ?_ | with_reducible refine Below.setCell ?_ ?_ _ | with_reducible refine Below.alloc ?_ ?_ _ | with_reducible refine Below.grow _ _ _ ?_ ?_ | omega | (simp; done) | (simp; omega)))) (HSW.out.below (by repeat (first | with_reducible exact Below.refl _ _ | with_reducible assumption | with_reducible exact below_d1 _ _ _ _ _ | with_reducible exact below_d2 _ _ _ _ _ _ _ _ | with_reducible exact below_d3 _ _ _ _ _ | with_reducible exact below_d4 _ _ _ _ _ _ _ _ | with_reducible exact below_d5 _ _ | with_reducible refine Below.drew ?_ | with_reducible refine Below.drewN' ?_ _ | with_reducible refine below_grow0 _ _ ?_ | with_reducible refine below_alloc0 _ ?_ | with_reducible refine Below.setCell ?_ ?_ _ | with_reducible refine Below.alloc ?_ ?_ _ | with_reducible refine Below.grow _ _ _ ?_ ?_ | omega | (simp; done) | (simp; omega))))).mono ?_); rintro e w1 ⟨A5, c5, A6, c6, rfl, ho1, ho2, hb1⟩; obtain ⟨ext1, d1, rfl⟩ := Below.grown_eq _ hb1; have HO1 := Lib.hid ho1.sl; have HO2 := Lib.hid ho2.sl; clear ho1 ho2 hb1)
                    refine hK.out _ _ ?gT3_20 (fun hHeld => ?_)
                    case gT3_20 => ((try dsimp only); (refine ⟨?_, ?_, ?_, ?_, ?_, ?_, ?_, ?_, ?_⟩ <;> go_simp))
                    clear hK K
                    skip
                    refine wpE_ready (rs := [4]) (by kernel_rfl) (by simp) ?_
                    refine AllE.cons (by simp only [List.getElem?_toArray]; rfl) (fun K hK => ?_) AllE.nil
                    go_simp
                    (go_at_call 29; (with_reducible refine (HPR.out _ _ _ (HO1.out.below (by repeat (first | with_reducible exact Below.refl _ _ | with_reducible assumption | with_reducible exact below_d1 _ _ _ _ _ | with_reducible exact below_d2 _ _ _ _ _ _ _ _ | with_reducible exact below_d3 _ _ _ _ _ | with_reducible exact below_d4 _ _ _ _ _ _ _ _ | with_reducible exact below_d5 _ _ | with_reducible refine Below.drew ?_ | with_reducible refine Below.drewN' ?_ _ | with_reducible refine below_grow0 _ _ ?_ | with_reducible refine below_alloc0 _ ?_ | with_reducible refine Below.setCell ?_ ?_ _ | with_reducible refine Below.alloc ?_ ?_ _ | with_reducible refine Below.grow _ _ _ ?_ ?_ | omega | (simp; done) | (simp; omega)))) (HO2.out.below (by repeat (first | with_reducible exact Below.refl _ _ | with_reducible assumption | with_reducible exact below_d1 _ _ _ _ _ | with_reducible exact below_d2 _ _ _ _ _ _ _ _ | with_reducible exact below_d3 _ _ _ _ _ | with_reducible exact below_d4 _ _ _ _ _ _ _ _ | with_reducible exact below_d5 _ _ | with_reducible refine Below.drew ?_ | with_reducible refine Below.drewN' ?_ _ | with_reducible refine below_grow0 _ _ ?_ | with_reducible refine below_alloc0 _ ?_ | with_reducible refine Below.setCell ?_ ?_ _ | with_reducible refine Below.alloc ?_ ?_ _ | with_reducible refine Below.grow _ _ _ ?_ ?_ | omega | (simp; done) | (simp; omega))))).mono ?_); rintro e w3 ⟨rfl, hb3⟩; obtain ⟨ext3, d3, rfl⟩ := Below.grown_eq _ hb3; clear hb3)
                    refine hK.out _ _ ?gT3_21 (fun hHeld => ?_)
                    case gT3_21 => ((try dsimp only); (refine ⟨?_, ?_, ?_, ?_, ?_, ?_, ?_, ?_, ?_⟩ <;> go_simp))
                    clear hK K
                    try simp only [Act.put, List.setIfInBounds_toArray, List.set_cons_zero, List.set_cons_succ]
                    (refine wpE_takeP (i := 5) (v := ?gV3_22) (by simp only [List.getElem?_toArray]; rfl) (by kernel_rfl) (by kernel_rfl) (by kernel_rfl) (by rfl) (fun _ _ _ h => h) (Or.inl ⟨by rfl, ?gY3_22⟩) (by assumption) ?gR3_22; case gY3_22 => (intro w hSw; (try dsimp only at hSw); go_simp <;> with_reducible rfl))
                    try simp only [Act.put, List.setIfInBounds_toArray, List.set_cons_zero, List.set_cons_succ]
                    (refine wpE_takeP (i := 6) (v := ?gV3_23) (by simp only [List.getElem?_toArray]; rfl) (by kernel_rfl) (by kernel_rfl) (by kernel_rfl) (by rfl) (fun _ _ _ h => h) (Or.inl ⟨by rfl, ?gY3_23⟩) (by assumption) ?gR3_23; case gY3_23 => (intro w hSw; (try dsimp only at hSw); go_simp <;> with_reducible rfl))
                    try simp only [Act.put, List.setIfInBounds_toArray, List.set_cons_zero, List.set_cons_succ]
                    (refine wpE_takeP (i := 7) (v := ?gV3_24) (by simp only [List.getElem?_toArray]; rfl) (by kernel_rfl) (by kernel_rfl) (by kernel_rfl) (by rfl) (fun _ _ _ h => h) (Or.inl ⟨by rfl, ?gY3_24⟩) (by assumption) ?gR3_24; case gY3_24 => (intro w hSw; (try dsimp only at hSw); go_simp <;> with_reducible rfl))
                    try simp only [Act.put, List.setIfInBounds_toArray, List.set_cons_zero, List.set_cons_succ]
                    refine wpE_ready (rs := [9]) (by kernel_rfl) (by simp) ?_
                    refine AllE.cons (by simp only [List.getElem?_toArray]; rfl) (fun K hK => ?_) AllE.nil
                    go_simp
                    refine hK.out _ _ ?gT3_25 (fun hHeld => ?_)
                    case gT3_25 => ((try dsimp only); (refine ⟨?_, ?_, ?_, ?_, ?_, ?_, ?_, ?_, ?_⟩ <;> go_simp))
                    clear hK K
                    try simp only [Act.put, List.setIfInBounds_toArray, List.set_cons_zero, List.set_cons_succ]
                    (refine wpE_takeP (i := 10) (v := ?gV3_26) (by simp only [List.getElem?_toArray]; rfl) (by kernel_rfl) (by kernel_rfl) (by kernel_rfl) (by rfl) (fun _ _ _ h => h) (Or.inl ⟨by rfl, ?gY3_26⟩) (by assumption) ?gR3_26; case gY3_26 => (intro w hSw; (try dsimp only at hSw); go_simp <;> with_reducible rfl))
                    try simp only [Act.put, List.setIfInBounds_toArray, List.set_cons_zero, List.set_cons_succ]
                    refine wpE_done (by kernel_rfl) ?_ _
                    refine NoPanic.normal ?_
                    go_wp2_with fail
                    go_meet
                    refine ⟨_, rfl, rfl, ?_, ?_, Lib.hid ?n3_26⟩
                    · exact Below.own hW1W (by repeat (first | with_reducible exact Below.refl _ _ | with_reducible assumption | with_reducible exact below_d1 _ _ _ _ _ | with_reducible exact below_d2 _ _ _ _ _ _ _ _ | with_reducible exact below_d3 _ _ _ _ _ | with_reducible exact below_d4 _ _ _ _ _ _ _ _ | with_reducible exact below_d5 _ _ | with_reducible refine Below.drew ?_ | with_reducible refine Below.drewN' ?_ _ | with_reducible refine below_grow0 _ _ ?_ | with_reducible refine below_alloc0 _ ?_ | with_reducible refine Below.setCell ?_ ?_ _ | with_reducible refine Below.alloc ?_ ?_ _ | with_reducible refine Below.grow _ _ _ ?_ ?_ | omega | (simp; done) | (simp; omega)))
                    · first | omega | (simp <;> omega)
                    case n3_26 => first | exact Bk.new _ _ _ (by simp [hWs1]) | exact (Bk.new W _ _ hWs1.symm).below (by repeat (first | with_reducible exact Below.refl _ _ | with_reducible assumption | with_reducible exact below_d1 _ _ _ _ _ | with_reducible exact below_d2 _ _ _ _ _ _ _ _ | with_reducible exact below_d3 _ _ _ _ _ | with_reducible exact below_d4 _ _ _ _ _ _ _ _ | with_reducible exact below_d5 _ _ | with_reducible refine Below.drew ?_ | with_reducible refine Below.drewN' ?_ _ | with_reducible refine below_grow0 _ _ ?_ | with_reducible refine below_alloc0 _ ?_ | with_reducible refine Below.setCell ?_ ?_ _ | with_reducible refine Below.alloc ?_ ?_ _ | with_reducible refine Below.grow _ _ _ ?_ ?_ | omega | (simp; done) | (simp; omega))) | exact (Bk.new (grow W ext1 d1) _ _ (by simp [hWs1])).below (by repeat (first | with_reducible exact Below.refl _ _ | with_reducible assumption | with_reducible exact below_d1 _ _ _ _ _ | with_reducible exact below_d2 _ _ _ _ _ _ _ _ | with_reducible exact below_d3 _ _ _ _ _ | with_reducible exact below_d4 _ _ _ _ _ _ _ _ | with_reducible exact below_d5 _ _ | with_reducible refine Below.drew ?_ | with_reducible refine Below.drewN' ?_ _ | with_reducible refine below_grow0 _ _ ?_ | with_reducible refine below_alloc0 _ ?_ | with_reducible refine Below.setCell ?_ ?_ _ | with_reducible refine Below.alloc ?_ ?_ _ | with_reducible refine Below.grow _ _ _ ?_ ?_ | omega | (simp; done) | (simp; omega)))
                  exact AllE.nil
                case rest =>
                  obtain ⟨we, rfl⟩ : ∃ we : World, we = wc := ⟨_, rfl⟩
                  obtain ⟨b9, rfl, rfl, hbe, hb9, HX9⟩ := hcut
                  have hbwe : Below w.heap.size w we := Below.own hbW3 hbe
                  clear j0 j1 j2 y0 y1 y2 y3 y4 y5 yf4
                  go_wp2_with fail
                  go_ret
                  exact ⟨rfl, hbwe⟩
        · have q1 : (E == 0) = false := beq_eq_false_iff_ne.2 hE
          have q2 : (E != 0) = true := bne_iff_ne.2 hE
          clear HLW hE
          go_wp2_with ((go_at_call 30; refine (HMK.out _).mono ?_; rintro e w1 ⟨rfl, hb⟩; obtain ⟨ext0, d0, rfl⟩ := Below.grown_eq _ hb; clear hb))
          go_ret
          exact ⟨rfl, (by repeat (first | with_reducible exact Below.refl _ _ | with_reducible assumption | with_reducible exact below_d1 _ _ _ _ _ | with_reducible exact below_d2 _ _ _ _ _ _ _ _ | with_reducible exact below_d3 _ _ _ _ _ | with_reducible exact below_d4 _ _ _ _ _ _ _ _ | with_reducible exact below_d5 _ _ | with_reducible refine Below.drew ?_ | with_reducible refine Below.drewN' ?_ _ | with_reducible refine below_grow0 _ _ ?_ | with_reducible refine below_alloc0 _ ?_ | with_reducible refine Below.setCell ?_ ?_ _ | with_reducible refine Below.alloc ?_ ?_ _ | with_reducible refine Below.grow _ _ _ ?_ ?_ | omega | (simp; done) | (simp; omega)))⟩

namespace prepVersions
theorem own : ownKnob Tryd.prog.godebug = none := by kernel_rfl
theorem laidOut : laidOutB Tryd.prog = true := by kernel_rfl
set_option maxRecDepth 100000 in
set_option maxHeartbeats 1000000 in
theorem lifted (os : Os) (started : os.Started) (H : Type) (enc : TypeId × Value → H) :
    ReturnsInHanded {} Tryd.checked os 10 .any (fun w args => (Rows.prepVersionsSpec.pre enc Tryd.prog Tryd.f10 Rows.prepVersionsRow.domain false w args ∧ laidMetH Tryd.prog Rows.prepVersionsRow.laid w) ∧ sizedMet enc Tryd.prog Tryd.f10 (OpenSpec.ofChange Rows.prepVersionsSpec) false w args) (Rows.prepVersionsSpec.post enc Tryd.prog Tryd.f10 false true false false) := by
  refine returnsInHanded_of_change_and (C := Tryd.checked) (X := fun w _ => laidMetH Tryd.prog Rows.prepVersionsRow.laid w) (fun _ _ _ hh h => h.of_heap hh) own started (by kernel_rfl) Tryd.func10
    (ChangeSpec.witness_shaped (enc := enc) (C := Tryd.checked) (os := os) (X := fun w _ => laidMetH Tryd.prog Rows.prepVersionsRow.laid w) false (World.laidAll Tryd.prog os Rows.prepVersionsRow.laid) #[.agg #[.int .i64 0,.slice none 0 0,.slice none 0 0], .int .i64 0, .agg #[.int .i64 0,.int .i64 0,.string ByteArray.empty,.string ByteArray.empty,.int .i64 0,.int .i64 0], .int .i64 0] 8 (World.laidAll_os _ _ _)
      (World.shaped_of_ZipB (by kernel_rfl) (by kernel_rfl)) (by kernel_rfl) (by kernel_rfl) (by kernel_rfl)
      (by rw [MakeChecks.laidMetH_plain _ _ _ (by kernel_rfl)]; exact laidMet_laidAll _ (by kernel_rfl) (by kernel_rfl))) ?_
  intro W base args ds gs before hval0 hW0 _ hsz0 hL _
  have hval : ∀ (j : Nat) t v, Tryd.f10.params[j]? = some t → args[j]? = some v → Value.okWide Tryd.prog W .any base t v := hval0
  have hW : DataW.Whole enc Tryd.prog Tryd.f10.params.toList Rows.prepVersionsSpec.vars false W args.toList ds gs before := hW0
  have hlt : ∀ p ∈ before, p.block < W.heap.size := fun p hp => hW.lt p hp
  have hW1 := hW
  obtain ⟨p, q, hA0, hV, rfl, hfz, hnd⟩ := hW1
  have hA : DataW.TrodAll enc Tryd.prog W 0 (fun _ => true) true Tryd.f10.params.toList args.toList ds p := hA0
  obtain ⟨rfl, rfl⟩ := trodVars_none hV
  rw [Tryd.params10] at hA hval
  obtain ⟨v0, vs0, d0, ds0, p0, q0, hargs, rfl, rfl, h0, r0⟩ := trodAll_cons hA
  obtain ⟨v1, vs1, d1, ds1, p1, q1, rfl, rfl, rfl, h1, r1⟩ := trodAll_cons r0
  obtain ⟨v2, vs2, d2, ds2, p2, q2, rfl, rfl, rfl, h2, r2⟩ := trodAll_cons r1
  obtain ⟨v3, vs3, d3, ds3, p3, q3, rfl, rfl, rfl, h3, r3⟩ := trodAll_cons r2
  obtain ⟨rfl, rfl, rfl⟩ := trodAll_nil r3
  obtain rfl : args = #[v0, v1, v2, v3] := by cases args; simp_all
  have hsz : (DataW.weightsEach Tryd.prog [25, 3, 67, 3] [d0, d1, d2, d3]).all (· ≤ reachBytes) = true := hsz0
  have close : ∀ e W', (e = Ending.returned (.bool true) ∧ Below W.heap.size W W') → ∃ v, e = .returned v ∧ Rows.prepVersionsSpec.post enc Tryd.prog Tryd.f10 false true false false W #[v0, v1, v2, v3] v W' :=
    fun e W' ⟨he, hb⟩ => ⟨_, he, law_post laidOut (of_decide_eq_true (by kernel_rfl)) rfl rfl Tryd.underlying4 hW rfl hb⟩
  clear hA0 hsz0 hval0 hW0 hA hV hW hfz hnd
  obtain ⟨a1, rfl, hd1, _, wf1⟩ := open_int Tryd.underlying3 (hval 1 3 v1 rfl rfl) h1
  obtain ⟨a3, rfl, hd3, _, wf3⟩ := open_int Tryd.underlying3 (hval 3 3 v3 rfl rfl) h3
  obtain ⟨cs, rfl, _⟩ := okWide_struct Tryd.underlying25 (hval 0 _ v0 rfl rfl)
  obtain ⟨z, v, vs, l, ss, hp, hN, hS, hz, hn, hn2⟩ := open_tree (n := 0) (open_deep 10 h0 (sized_arg hsz 0 rfl rfl))
  obtain rfl : cs = #[.int .i64 z, v, vs] := by simpa [Value.cells] using congrArg List.toArray hp
  obtain ⟨cs2, rfl, _⟩ := okWide_struct Tryd.underlying67 (hval 2 _ v2 rfl rfl)
  obtain ⟨r, hp2, hrp⟩ := open_request (n := 0) (open_deep 10 h2 (sized_arg hsz 2 rfl rfl))
  obtain rfl : cs2 = (cRequest r).toArray := by simpa [Value.cells] using congrArg List.toArray hp2
  exact (prepVersions_ok z v vs l ss a1 r a3 W hN hS hn hn2 hz (by omega)).mono close
theorem proved : Rows.PrepVersionsSaid :=
  OpenClaim.holds_of_wide 10 Tryd.f10 rfl rfl rfl rfl rfl rfl rfl ⟨rfl, rfl, rfl, rfl, rfl⟩ rfl rfl rfl rfl rfl (by kernel_rfl) Tryd.func10 (by kernel_rfl)
    (of_decide_eq_true (by kernel_rfl)) (by unfold Func.isWrapper; first | (rw [if_pos (by decide +kernel)]; kernel_rfl) | (rw [if_neg (by decide +kernel)]; exact ⟨rfl, rfl⟩))
    (fun os started H enc _ => lifted os started H enc)
theorem card : Rows.PrepVersionsCardSaid :=
  Claim7.holds_tied_plain_at .later [] Rows.prepVersionsCard.laidKinds true Rows.prepVersionsCard.stood.harness false
    proved (fun _ h => by cases h) (by kernel_rfl) (fun _ h => by cases h) prepVersions_row_tie rfl ⟨rfl, rfl⟩ (by kernel_rfl) rfl
    (fun f fn hf hfn => by
      obtain rfl : f = 10 := Option.some.inj ((show Tryd.prog.funcNamed "aviary/aviarykeep.PrepVersions" = some 10 by kernel_rfl).symm.trans hf) |>.symm
      obtain rfl : fn = Tryd.f10 := (Option.some.inj (Tryd.func10.symm.trans hfn)).symm
      exact ⟨by kernel_rfl, fun j t ht => by
        rw [Tryd.params10] at ht
        have hm : t ∈ [25, 3, 67, 3] := by simpa using Array.mem_of_getElem? ht
        have hall : ([25, 3, 67, 3].all fun u => !Tryd.prog.wantsStandIn u) = true := by kernel_rfl
        exact (show Tryd.prog.wantsStandIn t = false by simpa using List.all_eq_true.1 hall t hm)⟩)
    (by kernel_rfl)
end prepVersions
end Go.Proofs.YteolglmifimnaaaDoor
