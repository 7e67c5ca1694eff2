/- Lemmas for the statement: Take, TreeNew, Boot, Rem, Filled. -/
import Derived.Deep.Cut
import Derived.Deep.DeepCutAuto
import Derived.Test.YtkoemhdchoicaaaDoorPt1
import Derived.Test.YtkoemhdchoicaaaDoorPt2
import Derived.Test.YtkoemhdchoicaaaDoorPt3
import Derived.Test.YtkoemhdchoicaaaDoorPt4
import Derived.Test.YtkoemhdchoicaaaDoorPt5
import Derived.Test.YtkoemhdchoicaaaDoorPt6
import Derived.Test.YtkoemhdchoicaaaDoorPt7
import Derived.Test.YtkoemhdchoicaaaDoorPt8
/- store.Take. -/
namespace Go.Proofs.YtkoemhdchoicaaaDoor
open Go.RowKit Go.ChangeShapes Go.WideShapes Go.ChangeAt
def takeE (s : Srv) (x : Txn) (safe : Bool) : Int := if x.zxid ≤ lastZ s.log then 13 else appE s.disk x safe
def takeS (s : Srv) (x : Txn) (safe : Bool) : Srv := if takeE s x safe = 0 then { s with disk := appL s.disk x safe, log := s.log ++ [x] } else noSrv
set_option maxRecDepth 100000 in
set_option maxHeartbeats 2000000 in
theorem storeTake (p : Nat → Prop) (s : Srv) (v : SrvV) (x : Txn) (safe : Bool) (w : World) (h : SrvIn p w s v) (hp : ∀ q, p q → q < w.heap.size) (hz : ∀ f ∈ s.disk, f.sized) (hn : (s.log.length + 1) * 72 ≤ 140737488355328) (hx : x.path.size ≤ 9223372036854775807) :
    Calls Tryd.prog 13 #[vSrv s v, vTxn x, .bool safe] w (SrvRes p (takeS s x safe) (takeE s x safe) w) := by
  have HP := Lib.hid hp
  obtain ⟨up, disk, id, ep, log, dn, tz, nodes, sess, wat⟩ := s
  obtain ⟨da, dc, la, lc, na, nc, sa, sc, wa, wc⟩ := v
  obtain ⟨hD, hG, hN, hS, hW⟩ := h
  simp only at hD hG hN hS hW hz hn
  have HD := Lib.hid hD
  have HG := Lib.hid hG
  have HG1 : Hid (Sl cTxn 7 w (.slice la log.length lc) log) := Lib.hid hG.1
  have HN := Lib.hid hN
  have HS := Lib.hid hS
  have HW := Lib.hid hW
  have HL := Lib.hid (fun (W : World) (h : Sl cTxn 7 W (.slice la log.length lc) log) => walLast (.slice la log.length lc) log W h)
  have HA := Lib.hid (fun (W : World) (h : Sl cFile 3 W (.slice da disk.length dc) disk) => walAppend (.slice da disk.length dc) disk x safe W h hz hx)
  clear hD hG hN hS hW hp hz hx
  unfold takeS takeE
  simp only
  by_cases hle : x.zxid ≤ lastZ log
  · rw [if_pos hle]
    have hd : decide (x.zxid ≤ lastZ log) = true := decide_eq_true hle
    generalize lastZ log = z at *
    clear hle HA
    obtain ⟨xz, xo, xs, xp, xd, xv, xw⟩ := x
    simp only [if_neg (show ¬ (13 : Int) = 0 by decide)]
    go_enter Tryd.func13, Tryd.ntmps13
    go_wp2_with fail
    go_quiet (first | (go_at_call 21; with_reducible refine Calls.quiet_of_same ((HL.out _ ?_).mono fun e w' h => ⟨h.1, h.2.symm⟩); exact ((((HG1.out.alloc _).alloc _).alloc _).drewN _)))
    go_wp2_with fail
    refine bodyPost_ret (v := .tuple #[vSrv noSrv noSrvV, .int .i64 13]) (by simp [results, Tryd.results13, go_sem]) rfl ⟨noSrvV, rfl, noSrv_in _ _, (by repeat (first | with_reducible exact Below.refl _ _ | with_reducible assumption | with_reducible exact below_d1 _ _ _ _ _ | with_reducible exact below_d2 _ _ _ _ _ _ _ _ | with_reducible exact below_d3 _ _ _ _ _ | with_reducible exact below_d4 _ _ _ _ _ _ _ _ | with_reducible exact below_d5 _ _ | with_reducible refine Below.drew ?_ | with_reducible refine Below.drewN' ?_ _ | with_reducible refine below_grow0 _ _ ?_ | with_reducible refine below_alloc0 _ ?_ | with_reducible refine Below.setCell ?_ ?_ _ | with_reducible refine Below.alloc ?_ ?_ _ | with_reducible refine Below.grow _ _ _ ?_ ?_ | omega | (simp; done) | (simp; omega)))⟩
  · rw [if_neg hle]
    have hd : decide (x.zxid ≤ lastZ log) = false := decide_eq_false hle
    generalize lastZ log = z at *
    clear hle
    by_cases h0 : appE disk x safe = 0
    · rw [if_pos h0, h0]
      rw [h0] at HA
      generalize appL disk x safe = a at *
      have HN1 := Lib.hid hn
      clear h0 hn
      obtain ⟨xz, xo, xs, xp, xd, xv, xw⟩ := x
      go_enter Tryd.func13, Tryd.ntmps13
      go_wp2_with fail
      go_quiet (first | (go_at_call 21; with_reducible refine Calls.quiet_of_same ((HL.out _ ?_).mono fun e w' h => ⟨h.1, h.2.symm⟩); exact ((((HG1.out.alloc _).alloc _).alloc _).drewN _)))
      go_upto_region 7 with ((go_at_call 22; refine (HA.out _ (HD.out.1.below (by repeat (first | with_reducible exact Below.refl _ _ | with_reducible assumption | with_reducible exact below_d1 _ _ _ _ _ | with_reducible exact below_d2 _ _ _ _ _ _ _ _ | with_reducible exact below_d3 _ _ _ _ _ | with_reducible exact below_d4 _ _ _ _ _ _ _ _ | with_reducible exact below_d5 _ _ | with_reducible refine Below.drew ?_ | with_reducible refine Below.drewN' ?_ _ | with_reducible refine below_grow0 _ _ ?_ | with_reducible refine below_alloc0 _ ?_ | with_reducible refine Below.setCell ?_ ?_ _ | with_reducible refine Below.alloc ?_ ?_ _ | with_reducible refine Below.grow _ _ _ ?_ ?_ | omega | (simp; done) | (simp; omega))))).mono ?_; rintro e w1 ⟨A1, k1, rfl, ho1, hb1⟩; obtain ⟨ext1, d1, rfl⟩ := Below.grown_eq _ hb1; have HO1 := Lib.hid ho1; clear ho1 hb1))
      refine wp_region_noPanic ?_
      refine wp_region_W (by kernel_rfl) (fun W hW => ?_)
      have cl0 : W.cell? ⟨w.heap.size, 4, none⟩ = some (.slice la log.length lc) := by rw [hW.out]; go_simp
      have cl1 : W.cell? ⟨w.heap.size + 1, 0, none⟩ = some (.int .i64 xz) := by rw [hW.out]; go_simp
      have cl2 : W.cell? ⟨w.heap.size + 1, 1, none⟩ = some (.int .i64 xo) := by rw [hW.out]; go_simp
      have cl3 : W.cell? ⟨w.heap.size + 1, 2, none⟩ = some (.int .i64 xs) := by rw [hW.out]; go_simp
      have cl4 : W.cell? ⟨w.heap.size + 1, 3, none⟩ = some (.string xp) := by rw [hW.out]; go_simp
      have cl5 : W.cell? ⟨w.heap.size + 1, 4, none⟩ = some (.string xd) := by rw [hW.out]; go_simp
      have cl6 : W.cell? ⟨w.heap.size + 1, 5, none⟩ = some (.int .i64 xv) := by rw [hW.out]; go_simp
      have cl7 : W.cell? ⟨w.heap.size + 1, 6, none⟩ = some (.int .i64 xw) := by rw [hW.out]; go_simp
      have fz0 : W.frozen? ⟨w.heap.size, 4, none⟩ = false := by rw [hW.out]; go_simp
      have SL : Hid (Sl cTxn 7 W (.slice la log.length lc) log) := Lib.hid (HG1.out.below (by rw [hW.out]; exact (by repeat (first | with_reducible exact Below.refl _ _ | with_reducible assumption | with_reducible exact below_d1 _ _ _ _ _ | with_reducible exact below_d2 _ _ _ _ _ _ _ _ | with_reducible exact below_d3 _ _ _ _ _ | with_reducible exact below_d4 _ _ _ _ _ _ _ _ | with_reducible exact below_d5 _ _ | with_reducible refine Below.drew ?_ | with_reducible refine Below.drewN' ?_ _ | with_reducible refine below_grow0 _ _ ?_ | with_reducible refine below_alloc0 _ ?_ | with_reducible refine Below.setCell ?_ ?_ _ | with_reducible refine Below.alloc ?_ ?_ _ | with_reducible refine Below.grow _ _ _ ?_ ?_ | omega | (simp; done) | (simp; omega)))))
      refine wpAny_S (fun w' => w'.cell? ⟨w.heap.size, 4, none⟩ = some (.slice la log.length lc) ∧ w'.cell? ⟨w.heap.size + 1, 0, none⟩ = some (.int .i64 xz) ∧ w'.cell? ⟨w.heap.size + 1, 1, none⟩ = some (.int .i64 xo) ∧ w'.cell? ⟨w.heap.size + 1, 2, none⟩ = some (.int .i64 xs) ∧ w'.cell? ⟨w.heap.size + 1, 3, none⟩ = some (.string xp) ∧ w'.cell? ⟨w.heap.size + 1, 4, none⟩ = some (.string xd) ∧ w'.cell? ⟨w.heap.size + 1, 5, none⟩ = some (.int .i64 xv) ∧ w'.cell? ⟨w.heap.size + 1, 6, none⟩ = some (.int .i64 xw)) (fun i => i == 15) (by (try dsimp only); (refine ⟨?_, ?_, ?_, ?_, ?_, ?_, ?_, ?_⟩ <;> go_simp)) (fun hHeld => ?_)
      (refine wpE_takeP (i := 0) (v := ?gV1_1) (by simp only [List.getElem?_toArray]; rfl) (by kernel_rfl) (by kernel_rfl) (by kernel_rfl) (by rfl) (fun _ _ _ h => h) (Or.inl ⟨by rfl, ?gY1_1⟩) (by assumption) ?gR1_1; case gY1_1 => (intro w hSw; (try dsimp only at hSw); go_simp <;> with_reducible rfl))
      try simp only [Act.put, List.setIfInBounds_toArray, List.set_cons_zero, List.set_cons_succ]
      (refine wpE_takeP (i := 1) (v := ?gV1_2) (by simp only [List.getElem?_toArray]; rfl) (by kernel_rfl) (by kernel_rfl) (by kernel_rfl) (by rfl) (fun _ _ _ h => h) (Or.inl ⟨by rfl, ?gY1_2⟩) (by assumption) ?gR1_2; case gY1_2 => (intro w hSw; (try dsimp only at hSw); go_simp <;> with_reducible rfl))
      try simp only [Act.put, List.setIfInBounds_toArray, List.set_cons_zero, List.set_cons_succ]
      (refine wpE_take (i := 2) (v := ?gV1_3) (by simp only [List.getElem?_toArray]; rfl) (by kernel_rfl) (by kernel_rfl) (by kernel_rfl) (by kernel_rfl) (by kernel_rfl) (by rfl) (fun _ _ _ h => h) (Or.inl ⟨by rfl, ?gY1_3⟩) (by assumption) ?gR1_3; case gY1_3 => (intro w hSw; (try dsimp only at hSw); go_simp <;> with_reducible rfl))
      try simp only [Act.put, List.setIfInBounds_toArray, List.set_cons_zero, List.set_cons_succ]
      (refine wpE_takeP (i := 3) (v := ?gV1_4) (by simp only [List.getElem?_toArray]; rfl) (by kernel_rfl) (by kernel_rfl) (by kernel_rfl) (by rfl) (fun _ _ _ h => h) (Or.inl ⟨by rfl, ?gY1_4⟩) (by assumption) ?gR1_4; case gY1_4 => (intro w hSw; (try dsimp only at hSw); go_simp <;> with_reducible rfl))
      try simp only [Act.put, List.setIfInBounds_toArray, List.set_cons_zero, List.set_cons_succ]
      (refine wpE_takeP (i := 4) (v := ?gV1_5) (by simp only [List.getElem?_toArray]; rfl) (by kernel_rfl) (by kernel_rfl) (by kernel_rfl) (by rfl) (fun _ _ _ h => h) (Or.inl ⟨by rfl, ?gY1_5⟩) (by assumption) ?gR1_5; case gY1_5 => (intro w hSw; (try dsimp only at hSw); go_simp <;> with_reducible rfl))
      try simp only [Act.put, List.setIfInBounds_toArray, List.set_cons_zero, List.set_cons_succ]
      (refine wpE_takeP (i := 6) (v := ?gV1_6) (by simp only [List.getElem?_toArray]; rfl) (by kernel_rfl) (by kernel_rfl) (by kernel_rfl) (by rfl) (fun _ _ _ h => h) (Or.inl ⟨by rfl, ?gY1_6⟩) (by assumption) ?gR1_6; case gY1_6 => (intro w hSw; (try dsimp only at hSw); go_simp <;> with_reducible rfl))
      try simp only [Act.put, List.setIfInBounds_toArray, List.set_cons_zero, List.set_cons_succ]
      (refine wpE_takeP (i := 7) (v := ?gV1_7) (by simp only [List.getElem?_toArray]; rfl) (by kernel_rfl) (by kernel_rfl) (by kernel_rfl) (by rfl) (fun _ _ _ h => h) (Or.inl ⟨by rfl, ?gY1_7⟩) (by assumption) ?gR1_7; case gY1_7 => (intro w hSw; (try dsimp only at hSw); go_simp <;> with_reducible rfl))
      try simp only [Act.put, List.setIfInBounds_toArray, List.set_cons_zero, List.set_cons_succ]
      (refine wpE_take (i := 8) (v := ?gV1_8) (by simp only [List.getElem?_toArray]; rfl) (by kernel_rfl) (by kernel_rfl) (by kernel_rfl) (by kernel_rfl) (by kernel_rfl) (by rfl) (fun _ _ _ h => h) (Or.inl ⟨by rfl, ?gY1_8⟩) (by assumption) ?gR1_8; case gY1_8 => (intro w hSw; (try dsimp only at hSw); go_simp <;> with_reducible rfl))
      try simp only [Act.put, List.setIfInBounds_toArray, List.set_cons_zero, List.set_cons_succ]
      (refine wpE_take (i := 10) (v := ?gV1_9) (by simp only [List.getElem?_toArray]; rfl) (by kernel_rfl) (by kernel_rfl) (by kernel_rfl) (by kernel_rfl) (by kernel_rfl) (by rfl) (fun _ _ _ h => h) (Or.inl ⟨by rfl, ?gY1_9⟩) (by assumption) ?gR1_9; case gY1_9 => (intro w hSw; (try dsimp only at hSw); go_simp <;> with_reducible rfl))
      try simp only [Act.put, List.setIfInBounds_toArray, List.set_cons_zero, List.set_cons_succ]
      refine wpE_ready (rs := [5, 11]) (by kernel_rfl) (by simp) ?_
      refine AllE.cons (by simp only [List.getElem?_toArray]; rfl) (fun K hK => ?gO1_10) ?gL1_10
      case gO1_10 =>
        (refine stepE_mk (by rfl) (.const (.int .i64 0)) (.tmp 36) _ rfl elTxn (f := cTxn) (B := W.heap.size) (n := log.length + 1) rfl rfl (by have := HN1.out; unfold IntKind.wrap; simp [IntKind.signed, IntKind.bits]; omega) HN1.out (by have := HN1.out; simp [maxLen]; omega) (by simp <;> omega) ?_; intro w1 hown hg; (first | (have HNE := Lib.hid (HB.out.apart (x := .slice (some ⟨_, 0, none⟩) 0 (log.length + 1)) rfl (Nat.le_refl _)); replace HB := Lib.hid (HB.out.kept hg (.inr (by simp [Value.ownBlock])))) | skip); obtain ⟨ext2, d2, rfl⟩ := grown_on (W := W) (by repeat (first | with_reducible exact Below.refl _ _ | with_reducible assumption | with_reducible exact below_d1 _ _ _ _ _ | with_reducible exact below_d2 _ _ _ _ _ _ _ _ | with_reducible exact below_d3 _ _ _ _ _ | with_reducible exact below_d4 _ _ _ _ _ _ _ _ | with_reducible exact below_d5 _ _ | with_reducible refine Below.drew ?_ | with_reducible refine Below.drewN' ?_ _ | with_reducible refine below_grow0 _ _ ?_ | with_reducible refine below_alloc0 _ ?_ | with_reducible refine Below.setCell ?_ ?_ _ | with_reducible refine Below.alloc ?_ ?_ _ | with_reducible refine Below.grow _ _ _ ?_ ?_ | omega | (simp; done) | (simp; omega))) hg (by simp); have HM := Lib.hid hown; clear hown hg)
        refine hK.out _ _ ?gT1_10 (fun hHeld => ?_)
        case gT1_10 => ((try dsimp only); (refine ⟨?_, ?_, ?_, ?_, ?_, ?_, ?_, ?_⟩ <;> go_simp))
        clear hK K
        try simp only [Act.put, List.setIfInBounds_toArray, List.set_cons_zero, List.set_cons_succ]
        refine wpE_ready (rs := [9, 11]) (by kernel_rfl) (by simp) ?_
        refine AllE.cons (by simp only [List.getElem?_toArray]; rfl) (fun K hK => ?gO1_11) ?gL1_11
        case gO1_11 =>
          (refine stepE_app (by rfl) (.tmp 37) (.tmp 40) _ rfl elTxn (B := W.heap.size) (v := .slice (some ⟨_, 0, none⟩) 0 (log.length + 1)) (l := []) (m := log) rfl rfl (HM.out.below (by repeat (first | with_reducible exact Below.refl _ _ | with_reducible assumption | with_reducible exact below_d1 _ _ _ _ _ | with_reducible exact below_d2 _ _ _ _ _ _ _ _ | with_reducible exact below_d3 _ _ _ _ _ | with_reducible exact below_d4 _ _ _ _ _ _ _ _ | with_reducible exact below_d5 _ _ | with_reducible refine Below.drew ?_ | with_reducible refine Below.drewN' ?_ _ | with_reducible refine below_grow0 _ _ ?_ | with_reducible refine below_alloc0 _ ?_ | with_reducible refine Below.setCell ?_ ?_ _ | with_reducible refine Below.alloc ?_ ?_ _ | with_reducible refine Below.grow _ _ _ ?_ ?_ | omega | (simp; done) | (simp; omega)))) (SL.out.below (by repeat (first | with_reducible exact Below.refl _ _ | with_reducible assumption | with_reducible exact below_d1 _ _ _ _ _ | with_reducible exact below_d2 _ _ _ _ _ _ _ _ | with_reducible exact below_d3 _ _ _ _ _ | with_reducible exact below_d4 _ _ _ _ _ _ _ _ | with_reducible exact below_d5 _ _ | with_reducible refine Below.drew ?_ | with_reducible refine Below.drewN' ?_ _ | with_reducible refine below_grow0 _ _ ?_ | with_reducible refine below_alloc0 _ ?_ | with_reducible refine Below.setCell ?_ ?_ _ | with_reducible refine Below.alloc ?_ ?_ _ | with_reducible refine Below.grow _ _ _ ?_ ?_ | omega | (simp; done) | (simp; omega)))) cTxn_one (by have := HN1.out; simp [maxLen]; omega) (by have := HN1.out; simp; omega) (by simp <;> omega) ?_; intro v2 w2 hown2 hg2 _; rw [List.nil_append] at hown2; obtain ⟨A2, c2, rfl, _⟩ := hown2.form; (first | replace HB := Lib.hid (HB.out.kept hg2 (.inr (by simpa using HNE.out))) | skip); obtain ⟨ext3, d3, rfl⟩ := grown_on (W := W) (by repeat (first | with_reducible exact Below.refl _ _ | with_reducible assumption | with_reducible exact below_d1 _ _ _ _ _ | with_reducible exact below_d2 _ _ _ _ _ _ _ _ | with_reducible exact below_d3 _ _ _ _ _ | with_reducible exact below_d4 _ _ _ _ _ _ _ _ | with_reducible exact below_d5 _ _ | with_reducible refine Below.drew ?_ | with_reducible refine Below.drewN' ?_ _ | with_reducible refine below_grow0 _ _ ?_ | with_reducible refine below_alloc0 _ ?_ | with_reducible refine Below.setCell ?_ ?_ _ | with_reducible refine Below.alloc ?_ ?_ _ | with_reducible refine Below.grow _ _ _ ?_ ?_ | omega | (simp; done) | (simp; omega))) hg2 HM.out.above; have HA1 := Lib.hid hown2; clear hown2 hg2)
          refine hK.out _ _ ?gT1_11 (fun hHeld => ?_)
          case gT1_11 => ((try dsimp only); (refine ⟨?_, ?_, ?_, ?_, ?_, ?_, ?_, ?_⟩ <;> go_simp))
          clear hK K
          try simp only [Act.put, List.setIfInBounds_toArray, List.set_cons_zero, List.set_cons_succ]
          refine wpE_ready (rs := [11]) (by kernel_rfl) (by simp) ?_
          refine AllE.cons (by simp only [List.getElem?_toArray]; rfl) (fun K hK => ?_) AllE.nil
          go_simp
          ((first | refine build_one (n := W.heap.size + ext3.size) (by first | rfl | (simp; done)) W.heap.size (by simp) cTxn 7 ⟨xz, xo, xs, xp, xd, xv, xw⟩ rfl rfl (fun w' hB hbB => ?_) | refine build_one (n := W.heap.size + ext2.size) (by first | rfl | (simp; done)) W.heap.size (by simp) cTxn 7 ⟨xz, xo, xs, xp, xd, xv, xw⟩ rfl rfl (fun w' hB hbB => ?_) | refine build_one (n := W.heap.size) (by first | rfl | (simp; done)) W.heap.size (by simp) cTxn 7 ⟨xz, xo, xs, xp, xd, xv, xw⟩ rfl rfl (fun w' hB hbB => ?_)); have HB := Lib.hid hB; (first | (have HNE := Lib.hid (Ne.symm (HM.out.apart (x := .slice (some ⟨W.heap.size + ext2.size, 0, none⟩) 1 1) rfl (by simp)))) | skip); (first | replace HM := Lib.hid (HM.out.below hbB) | skip); (first | replace HA1 := Lib.hid (HA1.out.below hbB) | skip); obtain ⟨ext4, d4, rfl⟩ := Below.grown_eq W (Below.own (by repeat (first | with_reducible exact Below.refl _ _ | with_reducible assumption | with_reducible exact below_d1 _ _ _ _ _ | with_reducible exact below_d2 _ _ _ _ _ _ _ _ | with_reducible exact below_d3 _ _ _ _ _ | with_reducible exact below_d4 _ _ _ _ _ _ _ _ | with_reducible exact below_d5 _ _ | with_reducible refine Below.drew ?_ | with_reducible refine Below.drewN' ?_ _ | with_reducible refine below_grow0 _ _ ?_ | with_reducible refine below_alloc0 _ ?_ | with_reducible refine Below.setCell ?_ ?_ _ | with_reducible refine Below.alloc ?_ ?_ _ | with_reducible refine Below.grow _ _ _ ?_ ?_ | omega | (simp; done) | (simp; omega))) hbB); clear hbB hB)
          refine hK.out _ _ ?gT1_12 (fun hHeld => ?_)
          case gT1_12 => ((try dsimp only); (refine ⟨?_, ?_, ?_, ?_, ?_, ?_, ?_, ?_⟩ <;> go_simp))
          clear hK K
          try simp only [Act.put, List.setIfInBounds_toArray, List.set_cons_zero, List.set_cons_succ]
          refine wpE_ready (rs := [12]) (by kernel_rfl) (by simp) ?_
          refine AllE.cons (by simp only [List.getElem?_toArray]; rfl) (fun K hK => ?_) AllE.nil
          (refine stepE_app (by rfl) (.tmp 41) (.tmp 43) _ rfl elTxn (B := W.heap.size) (v := .slice A2 log.length c2) (l := log) (m := [⟨xz, xo, xs, xp, xd, xv, xw⟩]) rfl rfl HA1.out HB.out.sl cTxn_one (by have := HN1.out; simp [maxLen]; omega) (by have := HN1.out; simp; omega) (by simp <;> omega) ?_; intro v5 w5 hown5 hg5 _; obtain ⟨A5, c5, rfl, _⟩ := hown5.form; obtain ⟨ext5, d5, rfl⟩ := grown_on (W := W) (by repeat (first | with_reducible exact Below.refl _ _ | with_reducible assumption | with_reducible exact below_d1 _ _ _ _ _ | with_reducible exact below_d2 _ _ _ _ _ _ _ _ | with_reducible exact below_d3 _ _ _ _ _ | with_reducible exact below_d4 _ _ _ _ _ _ _ _ | with_reducible exact below_d5 _ _ | with_reducible refine Below.drew ?_ | with_reducible refine Below.drewN' ?_ _ | with_reducible refine below_grow0 _ _ ?_ | with_reducible refine below_alloc0 _ ?_ | with_reducible refine Below.setCell ?_ ?_ _ | with_reducible refine Below.alloc ?_ ?_ _ | with_reducible refine Below.grow _ _ _ ?_ ?_ | omega | (simp; done) | (simp; omega))) hg5 HA1.out.above; have HA2 := Lib.hid hown5; clear hown5 hg5)
          refine hK.out _ _ ?gT1_13 (fun hHeld => ?_)
          case gT1_13 => ((try dsimp only); (refine ⟨?_, ?_, ?_, ?_, ?_, ?_, ?_, ?_⟩ <;> go_simp))
          clear hK K
          try simp only [Act.put, List.setIfInBounds_toArray, List.set_cons_zero, List.set_cons_succ]
          (refine wpE_takeP (i := 13) (v := ?gV1_14) (by simp only [List.getElem?_toArray]; rfl) (by kernel_rfl) (by kernel_rfl) (by kernel_rfl) (by rfl) (fun _ _ _ h => h) (Or.inl ⟨by rfl, ?gY1_14⟩) (by assumption) ?gR1_14; case gY1_14 => (intro w hSw; (try dsimp only at hSw); go_simp <;> with_reducible rfl))
          try simp only [Act.put, List.setIfInBounds_toArray, List.set_cons_zero, List.set_cons_succ]
          (refine wpE_takeP (i := 14) (v := ?gV1_15) (by simp only [List.getElem?_toArray]; rfl) (by kernel_rfl) (by kernel_rfl) (by kernel_rfl) (by rfl) (fun _ _ _ h => h) (Or.inl ⟨by rfl, ?gY1_15⟩) (by assumption) ?gR1_15; case gY1_15 => (intro w hSw; (try dsimp only at hSw); go_simp <;> with_reducible rfl))
          try simp only [Act.put, List.setIfInBounds_toArray, List.set_cons_zero, List.set_cons_succ]
          refine wpE_ready (rs := [15]) (by kernel_rfl) (by simp) ?_
          refine AllE.last (by simp only [List.getElem?_toArray]; rfl) (by kernel_rfl) (fun K hK => ?_) AllE.nil
          go_simp
          refine hK.out _ _ ?_
          clear hK K
          try simp only [Act.put, List.setIfInBounds_toArray, List.set_cons_zero, List.set_cons_succ]
          refine wpE_done (by kernel_rfl) ?_ _
          refine NoPanic.normal ?_
          have hWW := hW.out
          subst hWW
          go_wp2_with fail
          refine bodyPost_ret (v := .tuple #[vSrv ⟨up, a, id, ep, log ++ [⟨xz, xo, xs, xp, xd, xv, xw⟩], dn, tz, nodes, sess, wat⟩ ⟨A1, k1, A5, c5, na, nc, sa, sc, wa, wc⟩, .int .i64 0]) (by simp [results, Tryd.results13, go_sem]) rfl ⟨⟨A1, k1, A5, c5, na, nc, sa, sc, wa, wc⟩, rfl, ⟨?_, ?_, HN.out.below (by repeat (first | with_reducible exact Below.refl _ _ | with_reducible assumption | with_reducible exact below_d1 _ _ _ _ _ | with_reducible exact below_d2 _ _ _ _ _ _ _ _ | with_reducible exact below_d3 _ _ _ _ _ | with_reducible exact below_d4 _ _ _ _ _ _ _ _ | with_reducible exact below_d5 _ _ | with_reducible refine Below.drew ?_ | with_reducible refine Below.drewN' ?_ _ | with_reducible refine below_grow0 _ _ ?_ | with_reducible refine below_alloc0 _ ?_ | with_reducible refine Below.setCell ?_ ?_ _ | with_reducible refine Below.alloc ?_ ?_ _ | with_reducible refine Below.grow _ _ _ ?_ ?_ | omega | (simp; done) | (simp; omega))), HS.out.below (by repeat (first | with_reducible exact Below.refl _ _ | with_reducible assumption | with_reducible exact below_d1 _ _ _ _ _ | with_reducible exact below_d2 _ _ _ _ _ _ _ _ | with_reducible exact below_d3 _ _ _ _ _ | with_reducible exact below_d4 _ _ _ _ _ _ _ _ | with_reducible exact below_d5 _ _ | with_reducible refine Below.drew ?_ | with_reducible refine Below.drewN' ?_ _ | with_reducible refine below_grow0 _ _ ?_ | with_reducible refine below_alloc0 _ ?_ | with_reducible refine Below.setCell ?_ ?_ _ | with_reducible refine Below.alloc ?_ ?_ _ | with_reducible refine Below.grow _ _ _ ?_ ?_ | omega | (simp; done) | (simp; omega))), HW.out.below (by repeat (first | with_reducible exact Below.refl _ _ | with_reducible assumption | with_reducible exact below_d1 _ _ _ _ _ | with_reducible exact below_d2 _ _ _ _ _ _ _ _ | with_reducible exact below_d3 _ _ _ _ _ | with_reducible exact below_d4 _ _ _ _ _ _ _ _ | with_reducible exact below_d5 _ _ | with_reducible refine Below.drew ?_ | with_reducible refine Below.drewN' ?_ _ | with_reducible refine below_grow0 _ _ ?_ | with_reducible refine below_alloc0 _ ?_ | with_reducible refine Below.setCell ?_ ?_ _ | with_reducible refine Below.alloc ?_ ?_ _ | with_reducible refine Below.grow _ _ _ ?_ ?_ | omega | (simp; done) | (simp; omega)))⟩, (by repeat (first | with_reducible exact Below.refl _ _ | with_reducible assumption | with_reducible exact below_d1 _ _ _ _ _ | with_reducible exact below_d2 _ _ _ _ _ _ _ _ | with_reducible exact below_d3 _ _ _ _ _ | with_reducible exact below_d4 _ _ _ _ _ _ _ _ | with_reducible exact below_d5 _ _ | with_reducible refine Below.drew ?_ | with_reducible refine Below.drewN' ?_ _ | with_reducible refine below_grow0 _ _ ?_ | with_reducible refine below_alloc0 _ ?_ | with_reducible refine Below.setCell ?_ ?_ _ | with_reducible refine Below.alloc ?_ ?_ _ | with_reducible refine Below.grow _ _ _ ?_ ?_ | omega | (simp; done) | (simp; omega)))⟩
          · refine Ow.sla (Ow.moved (W' := ?hw1_16) (d' := ?hd1_16) HO1.out (Nat.le_refl _) ?hb1_16 ?hz1_16) (fun q hq => Nat.lt_of_lt_of_le (HP.out q hq) (by simp; omega))
            case hb1_16 => exact (by repeat (first | with_reducible exact Below.refl _ _ | with_reducible assumption | with_reducible exact below_d1 _ _ _ _ _ | with_reducible exact below_d2 _ _ _ _ _ _ _ _ | with_reducible exact below_d3 _ _ _ _ _ | with_reducible exact below_d4 _ _ _ _ _ _ _ _ | with_reducible exact below_d5 _ _ | with_reducible refine Below.drew ?_ | with_reducible refine Below.drewN' ?_ _ | with_reducible refine below_grow0 _ _ ?_ | with_reducible refine below_alloc0 _ ?_ | with_reducible refine Below.setCell ?_ ?_ _ | with_reducible refine Below.alloc ?_ ?_ _ | with_reducible refine Below.grow _ _ _ ?_ ?_ | omega | (simp; done) | (simp; omega)))
            case hz1_16 => simp
          · refine Ow.sla (Ow.moved (W' := ?hv1_16) (d' := ?he1_16) HA2.out (Nat.le_refl _) ?hc1_16 ?hy1_16) (fun q hq => Nat.lt_of_lt_of_le (HP.out q hq) (by simp; omega))
            case hc1_16 => exact (by repeat (first | with_reducible exact Below.refl _ _ | with_reducible assumption | with_reducible exact below_d1 _ _ _ _ _ | with_reducible exact below_d2 _ _ _ _ _ _ _ _ | with_reducible exact below_d3 _ _ _ _ _ | with_reducible exact below_d4 _ _ _ _ _ _ _ _ | with_reducible exact below_d5 _ _ | with_reducible refine Below.drew ?_ | with_reducible refine Below.drewN' ?_ _ | with_reducible refine below_grow0 _ _ ?_ | with_reducible refine below_alloc0 _ ?_ | with_reducible refine Below.setCell ?_ ?_ _ | with_reducible refine Below.alloc ?_ ?_ _ | with_reducible refine Below.grow _ _ _ ?_ ?_ | omega | (simp; done) | (simp; omega)))
            case hy1_16 => simp
        refine AllE.cons (by simp only [List.getElem?_toArray]; rfl) (fun K hK => ?gO1_17) ?gL1_17
        case gO1_17 =>
          go_simp
          ((first | refine build_one (n := W.heap.size + ext3.size) (by first | rfl | (simp; done)) W.heap.size (by simp) cTxn 7 ⟨xz, xo, xs, xp, xd, xv, xw⟩ rfl rfl (fun w' hB hbB => ?_) | refine build_one (n := W.heap.size + ext2.size) (by first | rfl | (simp; done)) W.heap.size (by simp) cTxn 7 ⟨xz, xo, xs, xp, xd, xv, xw⟩ rfl rfl (fun w' hB hbB => ?_) | refine build_one (n := W.heap.size) (by first | rfl | (simp; done)) W.heap.size (by simp) cTxn 7 ⟨xz, xo, xs, xp, xd, xv, xw⟩ rfl rfl (fun w' hB hbB => ?_)); have HB := Lib.hid hB; (first | (have HNE := Lib.hid (Ne.symm (HM.out.apart (x := .slice (some ⟨W.heap.size + ext2.size, 0, none⟩) 1 1) rfl (by simp)))) | skip); (first | replace HM := Lib.hid (HM.out.below hbB) | skip); (first | replace HA1 := Lib.hid (HA1.out.below hbB) | skip); obtain ⟨ext4, d4, rfl⟩ := Below.grown_eq W (Below.own (by repeat (first | with_reducible exact Below.refl _ _ | with_reducible assumption | with_reducible exact below_d1 _ _ _ _ _ | with_reducible exact below_d2 _ _ _ _ _ _ _ _ | with_reducible exact below_d3 _ _ _ _ _ | with_reducible exact below_d4 _ _ _ _ _ _ _ _ | with_reducible exact below_d5 _ _ | with_reducible refine Below.drew ?_ | with_reducible refine Below.drewN' ?_ _ | with_reducible refine below_grow0 _ _ ?_ | with_reducible refine below_alloc0 _ ?_ | with_reducible refine Below.setCell ?_ ?_ _ | with_reducible refine Below.alloc ?_ ?_ _ | with_reducible refine Below.grow _ _ _ ?_ ?_ | omega | (simp; done) | (simp; omega))) hbB); clear hbB hB)
          refine hK.out _ _ ?gT1_17 (fun hHeld => ?_)
          case gT1_17 => ((try dsimp only); (refine ⟨?_, ?_, ?_, ?_, ?_, ?_, ?_, ?_⟩ <;> go_simp))
          clear hK K
          try simp only [Act.put, List.setIfInBounds_toArray, List.set_cons_zero, List.set_cons_succ]
          refine wpE_ready (rs := [9]) (by kernel_rfl) (by simp) ?_
          refine AllE.cons (by simp only [List.getElem?_toArray]; rfl) (fun K hK => ?_) AllE.nil
          (refine stepE_app (by rfl) (.tmp 37) (.tmp 40) _ rfl elTxn (B := W.heap.size) (v := .slice (some ⟨_, 0, none⟩) 0 (log.length + 1)) (l := []) (m := log) rfl rfl (HM.out.below (by repeat (first | with_reducible exact Below.refl _ _ | with_reducible assumption | with_reducible exact below_d1 _ _ _ _ _ | with_reducible exact below_d2 _ _ _ _ _ _ _ _ | with_reducible exact below_d3 _ _ _ _ _ | with_reducible exact below_d4 _ _ _ _ _ _ _ _ | with_reducible exact below_d5 _ _ | with_reducible refine Below.drew ?_ | with_reducible refine Below.drewN' ?_ _ | with_reducible refine below_grow0 _ _ ?_ | with_reducible refine below_alloc0 _ ?_ | with_reducible refine Below.setCell ?_ ?_ _ | with_reducible refine Below.alloc ?_ ?_ _ | with_reducible refine Below.grow _ _ _ ?_ ?_ | omega | (simp; done) | (simp; omega)))) (SL.out.below (by repeat (first | with_reducible exact Below.refl _ _ | with_reducible assumption | with_reducible exact below_d1 _ _ _ _ _ | with_reducible exact below_d2 _ _ _ _ _ _ _ _ | with_reducible exact below_d3 _ _ _ _ _ | with_reducible exact below_d4 _ _ _ _ _ _ _ _ | with_reducible exact below_d5 _ _ | with_reducible refine Below.drew ?_ | with_reducible refine Below.drewN' ?_ _ | with_reducible refine below_grow0 _ _ ?_ | with_reducible refine below_alloc0 _ ?_ | with_reducible refine Below.setCell ?_ ?_ _ | with_reducible refine Below.alloc ?_ ?_ _ | with_reducible refine Below.grow _ _ _ ?_ ?_ | omega | (simp; done) | (simp; omega)))) cTxn_one (by have := HN1.out; simp [maxLen]; omega) (by have := HN1.out; simp; omega) (by simp <;> omega) ?_; intro v2 w2 hown2 hg2 _; rw [List.nil_append] at hown2; obtain ⟨A2, c2, rfl, _⟩ := hown2.form; (first | replace HB := Lib.hid (HB.out.kept hg2 (.inr (by simpa using HNE.out))) | skip); obtain ⟨ext3, d3, rfl⟩ := grown_on (W := W) (by repeat (first | with_reducible exact Below.refl _ _ | with_reducible assumption | with_reducible exact below_d1 _ _ _ _ _ | with_reducible exact below_d2 _ _ _ _ _ _ _ _ | with_reducible exact below_d3 _ _ _ _ _ | with_reducible exact below_d4 _ _ _ _ _ _ _ _ | with_reducible exact below_d5 _ _ | with_reducible refine Below.drew ?_ | with_reducible refine Below.drewN' ?_ _ | with_reducible refine below_grow0 _ _ ?_ | with_reducible refine below_alloc0 _ ?_ | with_reducible refine Below.setCell ?_ ?_ _ | with_reducible refine Below.alloc ?_ ?_ _ | with_reducible refine Below.grow _ _ _ ?_ ?_ | omega | (simp; done) | (simp; omega))) hg2 HM.out.above; have HA1 := Lib.hid hown2; clear hown2 hg2)
          refine hK.out _ _ ?gT1_18 (fun hHeld => ?_)
          case gT1_18 => ((try dsimp only); (refine ⟨?_, ?_, ?_, ?_, ?_, ?_, ?_, ?_⟩ <;> go_simp))
          clear hK K
          try simp only [Act.put, List.setIfInBounds_toArray, List.set_cons_zero, List.set_cons_succ]
          refine wpE_ready (rs := [12]) (by kernel_rfl) (by simp) ?_
          refine AllE.cons (by simp only [List.getElem?_toArray]; rfl) (fun K hK => ?_) AllE.nil
          (refine stepE_app (by rfl) (.tmp 41) (.tmp 43) _ rfl elTxn (B := W.heap.size) (v := .slice A2 log.length c2) (l := log) (m := [⟨xz, xo, xs, xp, xd, xv, xw⟩]) rfl rfl HA1.out HB.out.sl cTxn_one (by have := HN1.out; simp [maxLen]; omega) (by have := HN1.out; simp; omega) (by simp <;> omega) ?_; intro v5 w5 hown5 hg5 _; obtain ⟨A5, c5, rfl, _⟩ := hown5.form; obtain ⟨ext5, d5, rfl⟩ := grown_on (W := W) (by repeat (first | with_reducible exact Below.refl _ _ | with_reducible assumption | with_reducible exact below_d1 _ _ _ _ _ | with_reducible exact below_d2 _ _ _ _ _ _ _ _ | with_reducible exact below_d3 _ _ _ _ _ | with_reducible exact below_d4 _ _ _ _ _ _ _ _ | with_reducible exact below_d5 _ _ | with_reducible refine Below.drew ?_ | with_reducible refine Below.drewN' ?_ _ | with_reducible refine below_grow0 _ _ ?_ | with_reducible refine below_alloc0 _ ?_ | with_reducible refine Below.setCell ?_ ?_ _ | with_reducible refine Below.alloc ?_ ?_ _ | with_reducible refine Below.grow _ _ _ ?_ ?_ | omega | (simp; done) | (simp; omega))) hg5 HA1.out.above; have HA2 := Lib.hid hown5; clear hown5 hg5)
          refine hK.out _ _ ?gT1_19 (fun hHeld => ?_)
          case gT1_19 => ((try dsimp only); (refine ⟨?_, ?_, ?_, ?_, ?_, ?_, ?_, ?_⟩ <;> go_simp))
          clear hK K
          try simp only [Act.put, List.setIfInBounds_toArray, List.set_cons_zero, List.set_cons_succ]
          (refine wpE_takeP (i := 13) (v := ?gV1_20) (by simp only [List.getElem?_toArray]; rfl) (by kernel_rfl) (by kernel_rfl) (by kernel_rfl) (by rfl) (fun _ _ _ h => h) (Or.inl ⟨by rfl, ?gY1_20⟩) (by assumption) ?gR1_20; case gY1_20 => (intro w hSw; (try dsimp only at hSw); go_simp <;> with_reducible rfl))
          try simp only [Act.put, List.setIfInBounds_toArray, List.set_cons_zero, List.set_cons_succ]
          (refine wpE_takeP (i := 14) (v := ?gV1_21) (by simp only [List.getElem?_toArray]; rfl) (by kernel_rfl) (by kernel_rfl) (by kernel_rfl) (by rfl) (fun _ _ _ h => h) (Or.inl ⟨by rfl, ?gY1_21⟩) (by assumption) ?gR1_21; case gY1_21 => (intro w hSw; (try dsimp only at hSw); go_simp <;> with_reducible rfl))
          try simp only [Act.put, List.setIfInBounds_toArray, List.set_cons_zero, List.set_cons_succ]
          refine wpE_ready (rs := [15]) (by kernel_rfl) (by simp) ?_
          refine AllE.last (by simp only [List.getElem?_toArray]; rfl) (by kernel_rfl) (fun K hK => ?_) AllE.nil
          go_simp
          refine hK.out _ _ ?_
          clear hK K
          try simp only [Act.put, List.setIfInBounds_toArray, List.set_cons_zero, List.set_cons_succ]
          refine wpE_done (by kernel_rfl) ?_ _
          refine NoPanic.normal ?_
          have hWW := hW.out
          subst hWW
          go_wp2_with fail
          refine bodyPost_ret (v := .tuple #[vSrv ⟨up, a, id, ep, log ++ [⟨xz, xo, xs, xp, xd, xv, xw⟩], dn, tz, nodes, sess, wat⟩ ⟨A1, k1, A5, c5, na, nc, sa, sc, wa, wc⟩, .int .i64 0]) (by simp [results, Tryd.results13, go_sem]) rfl ⟨⟨A1, k1, A5, c5, na, nc, sa, sc, wa, wc⟩, rfl, ⟨?_, ?_, HN.out.below (by repeat (first | with_reducible exact Below.refl _ _ | with_reducible assumption | with_reducible exact below_d1 _ _ _ _ _ | with_reducible exact below_d2 _ _ _ _ _ _ _ _ | with_reducible exact below_d3 _ _ _ _ _ | with_reducible exact below_d4 _ _ _ _ _ _ _ _ | with_reducible exact below_d5 _ _ | with_reducible refine Below.drew ?_ | with_reducible refine Below.drewN' ?_ _ | with_reducible refine below_grow0 _ _ ?_ | with_reducible refine below_alloc0 _ ?_ | with_reducible refine Below.setCell ?_ ?_ _ | with_reducible refine Below.alloc ?_ ?_ _ | with_reducible refine Below.grow _ _ _ ?_ ?_ | omega | (simp; done) | (simp; omega))), HS.out.below (by repeat (first | with_reducible exact Below.refl _ _ | with_reducible assumption | with_reducible exact below_d1 _ _ _ _ _ | with_reducible exact below_d2 _ _ _ _ _ _ _ _ | with_reducible exact below_d3 _ _ _ _ _ | with_reducible exact below_d4 _ _ _ _ _ _ _ _ | with_reducible exact below_d5 _ _ | with_reducible refine Below.drew ?_ | with_reducible refine Below.drewN' ?_ _ | with_reducible refine below_grow0 _ _ ?_ | with_reducible refine below_alloc0 _ ?_ | with_reducible refine Below.setCell ?_ ?_ _ | with_reducible refine Below.alloc ?_ ?_ _ | with_reducible refine Below.grow _ _ _ ?_ ?_ | omega | (simp; done) | (simp; omega))), HW.out.below (by repeat (first | with_reducible exact Below.refl _ _ | with_reducible assumption | with_reducible exact below_d1 _ _ _ _ _ | with_reducible exact below_d2 _ _ _ _ _ _ _ _ | with_reducible exact below_d3 _ _ _ _ _ | with_reducible exact below_d4 _ _ _ _ _ _ _ _ | with_reducible exact below_d5 _ _ | with_reducible refine Below.drew ?_ | with_reducible refine Below.drewN' ?_ _ | with_reducible refine below_grow0 _ _ ?_ | with_reducible refine below_alloc0 _ ?_ | with_reducible refine Below.setCell ?_ ?_ _ | with_reducible refine Below.alloc ?_ ?_ _ | with_reducible refine Below.grow _ _ _ ?_ ?_ | omega | (simp; done) | (simp; omega)))⟩, (by repeat (first | with_reducible exact Below.refl _ _ | with_reducible assumption | with_reducible exact below_d1 _ _ _ _ _ | with_reducible exact below_d2 _ _ _ _ _ _ _ _ | with_reducible exact below_d3 _ _ _ _ _ | with_reducible exact below_d4 _ _ _ _ _ _ _ _ | with_reducible exact below_d5 _ _ | with_reducible refine Below.drew ?_ | with_reducible refine Below.drewN' ?_ _ | with_reducible refine below_grow0 _ _ ?_ | with_reducible refine below_alloc0 _ ?_ | with_reducible refine Below.setCell ?_ ?_ _ | with_reducible refine Below.alloc ?_ ?_ _ | with_reducible refine Below.grow _ _ _ ?_ ?_ | omega | (simp; done) | (simp; omega)))⟩
          · refine Ow.sla (Ow.moved (W' := ?hw1_22) (d' := ?hd1_22) HO1.out (Nat.le_refl _) ?hb1_22 ?hz1_22) (fun q hq => Nat.lt_of_lt_of_le (HP.out q hq) (by simp; omega))
            case hb1_22 => exact (by repeat (first | with_reducible exact Below.refl _ _ | with_reducible assumption | with_reducible exact below_d1 _ _ _ _ _ | with_reducible exact below_d2 _ _ _ _ _ _ _ _ | with_reducible exact below_d3 _ _ _ _ _ | with_reducible exact below_d4 _ _ _ _ _ _ _ _ | with_reducible exact below_d5 _ _ | with_reducible refine Below.drew ?_ | with_reducible refine Below.drewN' ?_ _ | with_reducible refine below_grow0 _ _ ?_ | with_reducible refine below_alloc0 _ ?_ | with_reducible refine Below.setCell ?_ ?_ _ | with_reducible refine Below.alloc ?_ ?_ _ | with_reducible refine Below.grow _ _ _ ?_ ?_ | omega | (simp; done) | (simp; omega)))
            case hz1_22 => simp
          · refine Ow.sla (Ow.moved (W' := ?hv1_22) (d' := ?he1_22) HA2.out (Nat.le_refl _) ?hc1_22 ?hy1_22) (fun q hq => Nat.lt_of_lt_of_le (HP.out q hq) (by simp; omega))
            case hc1_22 => exact (by repeat (first | with_reducible exact Below.refl _ _ | with_reducible assumption | with_reducible exact below_d1 _ _ _ _ _ | with_reducible exact below_d2 _ _ _ _ _ _ _ _ | with_reducible exact below_d3 _ _ _ _ _ | with_reducible exact below_d4 _ _ _ _ _ _ _ _ | with_reducible exact below_d5 _ _ | with_reducible refine Below.drew ?_ | with_reducible refine Below.drewN' ?_ _ | with_reducible refine below_grow0 _ _ ?_ | with_reducible refine below_alloc0 _ ?_ | with_reducible refine Below.setCell ?_ ?_ _ | with_reducible refine Below.alloc ?_ ?_ _ | with_reducible refine Below.grow _ _ _ ?_ ?_ | omega | (simp; done) | (simp; omega)))
            case hy1_22 => simp
        exact AllE.nil
      refine AllE.cons (by simp only [List.getElem?_toArray]; rfl) (fun K hK => ?gO1_23) ?gL1_23
      case gO1_23 =>
        go_simp
        ((first | refine build_one (n := W.heap.size + ext3.size) (by first | rfl | (simp; done)) W.heap.size (by simp) cTxn 7 ⟨xz, xo, xs, xp, xd, xv, xw⟩ rfl rfl (fun w' hB hbB => ?_) | refine build_one (n := W.heap.size + ext2.size) (by first | rfl | (simp; done)) W.heap.size (by simp) cTxn 7 ⟨xz, xo, xs, xp, xd, xv, xw⟩ rfl rfl (fun w' hB hbB => ?_) | refine build_one (n := W.heap.size) (by first | rfl | (simp; done)) W.heap.size (by simp) cTxn 7 ⟨xz, xo, xs, xp, xd, xv, xw⟩ rfl rfl (fun w' hB hbB => ?_)); have HB := Lib.hid hB; (first | (have HNE := Lib.hid (Ne.symm (HM.out.apart (x := .slice (some ⟨W.heap.size + ext2.size, 0, none⟩) 1 1) rfl (by simp)))) | skip); (first | replace HM := Lib.hid (HM.out.below hbB) | skip); (first | replace HA1 := Lib.hid (HA1.out.below hbB) | skip); obtain ⟨ext4, d4, rfl⟩ := Below.grown_eq W (Below.own (by repeat (first | with_reducible exact Below.refl _ _ | with_reducible assumption | with_reducible exact below_d1 _ _ _ _ _ | with_reducible exact below_d2 _ _ _ _ _ _ _ _ | with_reducible exact below_d3 _ _ _ _ _ | with_reducible exact below_d4 _ _ _ _ _ _ _ _ | with_reducible exact below_d5 _ _ | with_reducible refine Below.drew ?_ | with_reducible refine Below.drewN' ?_ _ | with_reducible refine below_grow0 _ _ ?_ | with_reducible refine below_alloc0 _ ?_ | with_reducible refine Below.setCell ?_ ?_ _ | with_reducible refine Below.alloc ?_ ?_ _ | with_reducible refine Below.grow _ _ _ ?_ ?_ | omega | (simp; done) | (simp; omega))) hbB); clear hbB hB)
        refine hK.out _ _ ?gT1_23 (fun hHeld => ?_)
        case gT1_23 => ((try dsimp only); (refine ⟨?_, ?_, ?_, ?_, ?_, ?_, ?_, ?_⟩ <;> go_simp))
        clear hK K
        try simp only [Act.put, List.setIfInBounds_toArray, List.set_cons_zero, List.set_cons_succ]
        refine wpE_ready (rs := [5]) (by kernel_rfl) (by simp) ?_
        refine AllE.cons (by simp only [List.getElem?_toArray]; rfl) (fun K hK => ?_) AllE.nil
        (refine stepE_mk (by rfl) (.const (.int .i64 0)) (.tmp 36) _ rfl elTxn (f := cTxn) (B := W.heap.size) (n := log.length + 1) rfl rfl (by have := HN1.out; unfold IntKind.wrap; simp [IntKind.signed, IntKind.bits]; omega) HN1.out (by have := HN1.out; simp [maxLen]; omega) (by simp <;> omega) ?_; intro w1 hown hg; (first | (have HNE := Lib.hid (HB.out.apart (x := .slice (some ⟨_, 0, none⟩) 0 (log.length + 1)) rfl (Nat.le_refl _)); replace HB := Lib.hid (HB.out.kept hg (.inr (by simp [Value.ownBlock])))) | skip); obtain ⟨ext2, d2, rfl⟩ := grown_on (W := W) (by repeat (first | with_reducible exact Below.refl _ _ | with_reducible assumption | with_reducible exact below_d1 _ _ _ _ _ | with_reducible exact below_d2 _ _ _ _ _ _ _ _ | with_reducible exact below_d3 _ _ _ _ _ | with_reducible exact below_d4 _ _ _ _ _ _ _ _ | with_reducible exact below_d5 _ _ | with_reducible refine Below.drew ?_ | with_reducible refine Below.drewN' ?_ _ | with_reducible refine below_grow0 _ _ ?_ | with_reducible refine below_alloc0 _ ?_ | with_reducible refine Below.setCell ?_ ?_ _ | with_reducible refine Below.alloc ?_ ?_ _ | with_reducible refine Below.grow _ _ _ ?_ ?_ | omega | (simp; done) | (simp; omega))) hg (by simp); have HM := Lib.hid hown; clear hown hg)
        refine hK.out _ _ ?gT1_24 (fun hHeld => ?_)
        case gT1_24 => ((try dsimp only); (refine ⟨?_, ?_, ?_, ?_, ?_, ?_, ?_, ?_⟩ <;> go_simp))
        clear hK K
        try simp only [Act.put, List.setIfInBounds_toArray, List.set_cons_zero, List.set_cons_succ]
        refine wpE_ready (rs := [9]) (by kernel_rfl) (by simp) ?_
        refine AllE.cons (by simp only [List.getElem?_toArray]; rfl) (fun K hK => ?_) AllE.nil
        (refine stepE_app (by rfl) (.tmp 37) (.tmp 40) _ rfl elTxn (B := W.heap.size) (v := .slice (some ⟨_, 0, none⟩) 0 (log.length + 1)) (l := []) (m := log) rfl rfl (HM.out.below (by repeat (first | with_reducible exact Below.refl _ _ | with_reducible assumption | with_reducible exact below_d1 _ _ _ _ _ | with_reducible exact below_d2 _ _ _ _ _ _ _ _ | with_reducible exact below_d3 _ _ _ _ _ | with_reducible exact below_d4 _ _ _ _ _ _ _ _ | with_reducible exact below_d5 _ _ | with_reducible refine Below.drew ?_ | with_reducible refine Below.drewN' ?_ _ | with_reducible refine below_grow0 _ _ ?_ | with_reducible refine below_alloc0 _ ?_ | with_reducible refine Below.setCell ?_ ?_ _ | with_reducible refine Below.alloc ?_ ?_ _ | with_reducible refine Below.grow _ _ _ ?_ ?_ | omega | (simp; done) | (simp; omega)))) (SL.out.below (by repeat (first | with_reducible exact Below.refl _ _ | with_reducible assumption | with_reducible exact below_d1 _ _ _ _ _ | with_reducible exact below_d2 _ _ _ _ _ _ _ _ | with_reducible exact below_d3 _ _ _ _ _ | with_reducible exact below_d4 _ _ _ _ _ _ _ _ | with_reducible exact below_d5 _ _ | with_reducible refine Below.drew ?_ | with_reducible refine Below.drewN' ?_ _ | with_reducible refine below_grow0 _ _ ?_ | with_reducible refine below_alloc0 _ ?_ | with_reducible refine Below.setCell ?_ ?_ _ | with_reducible refine Below.alloc ?_ ?_ _ | with_reducible refine Below.grow _ _ _ ?_ ?_ | omega | (simp; done) | (simp; omega)))) cTxn_one (by have := HN1.out; simp [maxLen]; omega) (by have := HN1.out; simp; omega) (by simp <;> omega) ?_; intro v2 w2 hown2 hg2 _; rw [List.nil_append] at hown2; obtain ⟨A2, c2, rfl, _⟩ := hown2.form; (first | replace HB := Lib.hid (HB.out.kept hg2 (.inr (by simpa using HNE.out))) | skip); obtain ⟨ext3, d3, rfl⟩ := grown_on (W := W) (by repeat (first | with_reducible exact Below.refl _ _ | with_reducible assumption | with_reducible exact below_d1 _ _ _ _ _ | with_reducible exact below_d2 _ _ _ _ _ _ _ _ | with_reducible exact below_d3 _ _ _ _ _ | with_reducible exact below_d4 _ _ _ _ _ _ _ _ | with_reducible exact below_d5 _ _ | with_reducible refine Below.drew ?_ | with_reducible refine Below.drewN' ?_ _ | with_reducible refine below_grow0 _ _ ?_ | with_reducible refine below_alloc0 _ ?_ | with_reducible refine Below.setCell ?_ ?_ _ | with_reducible refine Below.alloc ?_ ?_ _ | with_reducible refine Below.grow _ _ _ ?_ ?_ | omega | (simp; done) | (simp; omega))) hg2 HM.out.above; have HA1 := Lib.hid hown2; clear hown2 hg2)
        refine hK.out _ _ ?gT1_25 (fun hHeld => ?_)
        case gT1_25 => ((try dsimp only); (refine ⟨?_, ?_, ?_, ?_, ?_, ?_, ?_, ?_⟩ <;> go_simp))
        clear hK K
        try simp only [Act.put, List.setIfInBounds_toArray, List.set_cons_zero, List.set_cons_succ]
        refine wpE_ready (rs := [12]) (by kernel_rfl) (by simp) ?_
        refine AllE.cons (by simp only [List.getElem?_toArray]; rfl) (fun K hK => ?_) AllE.nil
        (refine stepE_app (by rfl) (.tmp 41) (.tmp 43) _ rfl elTxn (B := W.heap.size) (v := .slice A2 log.length c2) (l := log) (m := [⟨xz, xo, xs, xp, xd, xv, xw⟩]) rfl rfl HA1.out HB.out.sl cTxn_one (by have := HN1.out; simp [maxLen]; omega) (by have := HN1.out; simp; omega) (by simp <;> omega) ?_; intro v5 w5 hown5 hg5 _; obtain ⟨A5, c5, rfl, _⟩ := hown5.form; obtain ⟨ext5, d5, rfl⟩ := grown_on (W := W) (by repeat (first | with_reducible exact Below.refl _ _ | with_reducible assumption | with_reducible exact below_d1 _ _ _ _ _ | with_reducible exact below_d2 _ _ _ _ _ _ _ _ | with_reducible exact below_d3 _ _ _ _ _ | with_reducible exact below_d4 _ _ _ _ _ _ _ _ | with_reducible exact below_d5 _ _ | with_reducible refine Below.drew ?_ | with_reducible refine Below.drewN' ?_ _ | with_reducible refine below_grow0 _ _ ?_ | with_reducible refine below_alloc0 _ ?_ | with_reducible refine Below.setCell ?_ ?_ _ | with_reducible refine Below.alloc ?_ ?_ _ | with_reducible refine Below.grow _ _ _ ?_ ?_ | omega | (simp; done) | (simp; omega))) hg5 HA1.out.above; have HA2 := Lib.hid hown5; clear hown5 hg5)
        refine hK.out _ _ ?gT1_26 (fun hHeld => ?_)
        case gT1_26 => ((try dsimp only); (refine ⟨?_, ?_, ?_, ?_, ?_, ?_, ?_, ?_⟩ <;> go_simp))
        clear hK K
        try simp only [Act.put, List.setIfInBounds_toArray, List.set_cons_zero, List.set_cons_succ]
        (refine wpE_takeP (i := 13) (v := ?gV1_27) (by simp only [List.getElem?_toArray]; rfl) (by kernel_rfl) (by kernel_rfl) (by kernel_rfl) (by rfl) (fun _ _ _ h => h) (Or.inl ⟨by rfl, ?gY1_27⟩) (by assumption) ?gR1_27; case gY1_27 => (intro w hSw; (try dsimp only at hSw); go_simp <;> with_reducible rfl))
        try simp only [Act.put, List.setIfInBounds_toArray, List.set_cons_zero, List.set_cons_succ]
        (refine wpE_takeP (i := 14) (v := ?gV1_28) (by simp only [List.getElem?_toArray]; rfl) (by kernel_rfl) (by kernel_rfl) (by kernel_rfl) (by rfl) (fun _ _ _ h => h) (Or.inl ⟨by rfl, ?gY1_28⟩) (by assumption) ?gR1_28; case gY1_28 => (intro w hSw; (try dsimp only at hSw); go_simp <;> with_reducible rfl))
        try simp only [Act.put, List.setIfInBounds_toArray, List.set_cons_zero, List.set_cons_succ]
        refine wpE_ready (rs := [15]) (by kernel_rfl) (by simp) ?_
        refine AllE.last (by simp only [List.getElem?_toArray]; rfl) (by kernel_rfl) (fun K hK => ?_) AllE.nil
        go_simp
        refine hK.out _ _ ?_
        clear hK K
        try simp only [Act.put, List.setIfInBounds_toArray, List.set_cons_zero, List.set_cons_succ]
        refine wpE_done (by kernel_rfl) ?_ _
        refine NoPanic.normal ?_
        have hWW := hW.out
        subst hWW
        go_wp2_with fail
        refine bodyPost_ret (v := .tuple #[vSrv ⟨up, a, id, ep, log ++ [⟨xz, xo, xs, xp, xd, xv, xw⟩], dn, tz, nodes, sess, wat⟩ ⟨A1, k1, A5, c5, na, nc, sa, sc, wa, wc⟩, .int .i64 0]) (by simp [results, Tryd.results13, go_sem]) rfl ⟨⟨A1, k1, A5, c5, na, nc, sa, sc, wa, wc⟩, rfl, ⟨?_, ?_, HN.out.below (by repeat (first | with_reducible exact Below.refl _ _ | with_reducible assumption | with_reducible exact below_d1 _ _ _ _ _ | with_reducible exact below_d2 _ _ _ _ _ _ _ _ | with_reducible exact below_d3 _ _ _ _ _ | with_reducible exact below_d4 _ _ _ _ _ _ _ _ | with_reducible exact below_d5 _ _ | with_reducible refine Below.drew ?_ | with_reducible refine Below.drewN' ?_ _ | with_reducible refine below_grow0 _ _ ?_ | with_reducible refine below_alloc0 _ ?_ | with_reducible refine Below.setCell ?_ ?_ _ | with_reducible refine Below.alloc ?_ ?_ _ | with_reducible refine Below.grow _ _ _ ?_ ?_ | omega | (simp; done) | (simp; omega))), HS.out.below (by repeat (first | with_reducible exact Below.refl _ _ | with_reducible assumption | with_reducible exact below_d1 _ _ _ _ _ | with_reducible exact below_d2 _ _ _ _ _ _ _ _ | with_reducible exact below_d3 _ _ _ _ _ | with_reducible exact below_d4 _ _ _ _ _ _ _ _ | with_reducible exact below_d5 _ _ | with_reducible refine Below.drew ?_ | with_reducible refine Below.drewN' ?_ _ | with_reducible refine below_grow0 _ _ ?_ | with_reducible refine below_alloc0 _ ?_ | with_reducible refine Below.setCell ?_ ?_ _ | with_reducible refine Below.alloc ?_ ?_ _ | with_reducible refine Below.grow _ _ _ ?_ ?_ | omega | (simp; done) | (simp; omega))), HW.out.below (by repeat (first | with_reducible exact Below.refl _ _ | with_reducible assumption | with_reducible exact below_d1 _ _ _ _ _ | with_reducible exact below_d2 _ _ _ _ _ _ _ _ | with_reducible exact below_d3 _ _ _ _ _ | with_reducible exact below_d4 _ _ _ _ _ _ _ _ | with_reducible exact below_d5 _ _ | with_reducible refine Below.drew ?_ | with_reducible refine Below.drewN' ?_ _ | with_reducible refine below_grow0 _ _ ?_ | with_reducible refine below_alloc0 _ ?_ | with_reducible refine Below.setCell ?_ ?_ _ | with_reducible refine Below.alloc ?_ ?_ _ | with_reducible refine Below.grow _ _ _ ?_ ?_ | omega | (simp; done) | (simp; omega)))⟩, (by repeat (first | with_reducible exact Below.refl _ _ | with_reducible assumption | with_reducible exact below_d1 _ _ _ _ _ | with_reducible exact below_d2 _ _ _ _ _ _ _ _ | with_reducible exact below_d3 _ _ _ _ _ | with_reducible exact below_d4 _ _ _ _ _ _ _ _ | with_reducible exact below_d5 _ _ | with_reducible refine Below.drew ?_ | with_reducible refine Below.drewN' ?_ _ | with_reducible refine below_grow0 _ _ ?_ | with_reducible refine below_alloc0 _ ?_ | with_reducible refine Below.setCell ?_ ?_ _ | with_reducible refine Below.alloc ?_ ?_ _ | with_reducible refine Below.grow _ _ _ ?_ ?_ | omega | (simp; done) | (simp; omega)))⟩
        · refine Ow.sla (Ow.moved (W' := ?hw1_29) (d' := ?hd1_29) HO1.out (Nat.le_refl _) ?hb1_29 ?hz1_29) (fun q hq => Nat.lt_of_lt_of_le (HP.out q hq) (by simp; omega))
          case hb1_29 => exact (by repeat (first | with_reducible exact Below.refl _ _ | with_reducible assumption | with_reducible exact below_d1 _ _ _ _ _ | with_reducible exact below_d2 _ _ _ _ _ _ _ _ | with_reducible exact below_d3 _ _ _ _ _ | with_reducible exact below_d4 _ _ _ _ _ _ _ _ | with_reducible exact below_d5 _ _ | with_reducible refine Below.drew ?_ | with_reducible refine Below.drewN' ?_ _ | with_reducible refine below_grow0 _ _ ?_ | with_reducible refine below_alloc0 _ ?_ | with_reducible refine Below.setCell ?_ ?_ _ | with_reducible refine Below.alloc ?_ ?_ _ | with_reducible refine Below.grow _ _ _ ?_ ?_ | omega | (simp; done) | (simp; omega)))
          case hz1_29 => simp
        · refine Ow.sla (Ow.moved (W' := ?hv1_29) (d' := ?he1_29) HA2.out (Nat.le_refl _) ?hc1_29 ?hy1_29) (fun q hq => Nat.lt_of_lt_of_le (HP.out q hq) (by simp; omega))
          case hc1_29 => exact (by repeat (first | with_reducible exact Below.refl _ _ | with_reducible assumption | with_reducible exact below_d1 _ _ _ _ _ | with_reducible exact below_d2 _ _ _ _ _ _ _ _ | with_reducible exact below_d3 _ _ _ _ _ | with_reducible exact below_d4 _ _ _ _ _ _ _ _ | with_reducible exact below_d5 _ _ | with_reducible refine Below.drew ?_ | with_reducible refine Below.drewN' ?_ _ | with_reducible refine below_grow0 _ _ ?_ | with_reducible refine below_alloc0 _ ?_ | with_reducible refine Below.setCell ?_ ?_ _ | with_reducible refine Below.alloc ?_ ?_ _ | with_reducible refine Below.grow _ _ _ ?_ ?_ | omega | (simp; done) | (simp; omega)))
          case hy1_29 => simp
      exact AllE.nil
    · have hne : (appE disk x safe != 0) = true := bne_iff_ne.2 h0
      rw [if_neg h0]
      generalize appL disk x safe = a at *
      generalize appE disk x safe = ae at *
      clear h0
      obtain ⟨xz, xo, xs, xp, xd, xv, xw⟩ := x
      go_enter Tryd.func13, Tryd.ntmps13
      go_wp2_with fail
      go_quiet (first | (go_at_call 21; with_reducible refine Calls.quiet_of_same ((HL.out _ ?_).mono fun e w' h => ⟨h.1, h.2.symm⟩); exact ((((HG1.out.alloc _).alloc _).alloc _).drewN _)))
      go_wp2_with ((go_at_call 22; refine (HA.out _ (HD.out.1.below (by repeat (first | with_reducible exact Below.refl _ _ | with_reducible assumption | with_reducible exact below_d1 _ _ _ _ _ | with_reducible exact below_d2 _ _ _ _ _ _ _ _ | with_reducible exact below_d3 _ _ _ _ _ | with_reducible exact below_d4 _ _ _ _ _ _ _ _ | with_reducible exact below_d5 _ _ | with_reducible refine Below.drew ?_ | with_reducible refine Below.drewN' ?_ _ | with_reducible refine below_grow0 _ _ ?_ | with_reducible refine below_alloc0 _ ?_ | with_reducible refine Below.setCell ?_ ?_ _ | with_reducible refine Below.alloc ?_ ?_ _ | with_reducible refine Below.grow _ _ _ ?_ ?_ | omega | (simp; done) | (simp; omega))))).mono ?_; rintro e w1 ⟨A1, k1, rfl, ho1, hb1⟩; obtain ⟨ext1, d1, rfl⟩ := Below.grown_eq _ hb1; have HO1 := Lib.hid ho1; clear ho1 hb1))
      refine bodyPost_ret (v := .tuple #[vSrv noSrv noSrvV, .int .i64 ae]) (by simp [results, Tryd.results13, go_sem]) rfl ⟨noSrvV, rfl, noSrv_in _ _, (by repeat (first | with_reducible exact Below.refl _ _ | with_reducible assumption | with_reducible exact below_d1 _ _ _ _ _ | with_reducible exact below_d2 _ _ _ _ _ _ _ _ | with_reducible exact below_d3 _ _ _ _ _ | with_reducible exact below_d4 _ _ _ _ _ _ _ _ | with_reducible exact below_d5 _ _ | with_reducible refine Below.drew ?_ | with_reducible refine Below.drewN' ?_ _ | with_reducible refine below_grow0 _ _ ?_ | with_reducible refine below_alloc0 _ ?_ | with_reducible refine Below.setCell ?_ ?_ _ | with_reducible refine Below.alloc ?_ ?_ _ | with_reducible refine Below.grow _ _ _ ?_ ?_ | omega | (simp; done) | (simp; omega)))⟩
end Go.Proofs.YtkoemhdchoicaaaDoor

/- tree.New. -/
namespace Go.Proofs.YtkoemhdchoicaaaDoor
open Go.RowKit Go.ChangeShapes Go.WideShapes Go.ChangeAt
def NewRes (w : World) (e : Ending) (w' : World) : Prop := ∃ A c, e = .returned (.agg #[.int .i64 0, .slice A 1 c, .slice none 0 0]) ∧ Ow cNode 9 74 w' w.heap.size (.slice A 1 c) [rootN] ∧ Below w.heap.size w w'
theorem treeNew (w : World) : Calls Tryd.prog 18 #[] w (NewRes w) := by
  go_enter Tryd.func18, Tryd.ntmps18
  go_wp2_with fail
  refine bodyPost_ret (v := .agg #[.int .i64 0, .slice (some ⟨w.heap.size + 1, 0, none⟩) 1 1, .slice none 0 0]) (by simp [results, Tryd.results18, go_sem]) rfl ⟨some ⟨w.heap.size + 1, 0, none⟩, 1, rfl, ?_, (by repeat (first | exact Below.refl _ _ | assumption | refine Below.drew ?_ | refine Below.drewN' ?_ _ | refine below_grow0 _ _ ?_ | refine below_alloc0 _ ?_ | refine Below.alloc ?_ (by first | omega | (simp; done) | (simp; omega)) _ | refine Below.setCell ?_ (by first | omega | (simp; done) | (simp; omega)) _ | refine Below.grow _ _ _ ?_ (by first | omega | (simp; done) | (simp; omega))))⟩
  exact Ow.one_at cNode 9 _ rootN _ rfl _ rfl (by simp) (by simp)
end Go.Proofs.YtkoemhdchoicaaaDoor

/- store.Boot, store.Crash. -/
namespace Go.Proofs.YtkoemhdchoicaaaDoor
open Go.RowKit Go.ChangeShapes Go.WideShapes Go.ChangeAt
def BootIs (id : Int) (f : List File) (s : Srv) (c : Int) : Prop := ∃ L f', RecIs f L f' c ∧ ((c = 0 ∧ s = ⟨true, f', id, epochF f, L, 0, 0, [rootN], [], []⟩) ∨ (c ≠ 0 ∧ s = noSrv))
def BootRes (p : Nat → Prop) (id : Int) (f : List File) (w : World) (e : Ending) (w' : World) : Prop := ∃ s c, BootIs id f s c ∧ SrvRes p s c w e w'
set_option maxRecDepth 100000 in
set_option maxHeartbeats 2000000 in
theorem storeBoot (p : Nat → Prop) (id : Int) (v : Value) (f : List File) (w : World) (h : Sl cFile 3 w v f) (hp : ∀ q, p q → q < w.heap.size) (hz : ∀ x ∈ f, x.sized) (h0 : 0 ≤ id) (h3 : id < 3) :
    Calls Tryd.prog 11 #[.int .i64 id, .agg #[v]] w (BootRes p id f w) := by
  obtain ⟨A, c, rfl, hc1, hc2⟩ := h.form
  have H := Lib.hid h
  have HP := Lib.hid hp
  have HE := Lib.hid (fun (W : World) (h : Sl cFile 3 W (.slice A f.length c) f) => storeEpoch _ f W h hz)
  have HR := Lib.hid (fun (W : World) (h : Sl cFile 3 W (.slice A f.length c) f) => recover_any _ f W h hz)
  have HB := Lib.hid (fun (L : List Txn) (f' : List File) (c : Int) (hr : RecIs f L f' c) (hc : c = 0) => show BootIs id f ⟨true, f', id, epochF f, L, 0, 0, [rootN], [], []⟩ c from ⟨L, f', hr, .inl ⟨hc, rfl⟩⟩)
  have HB2 := Lib.hid (fun (L : List Txn) (f' : List File) (c : Int) (hr : RecIs f L f' c) (hc : c ≠ 0) => show BootIs id f noSrv c from ⟨L, f', hr, .inr ⟨hc, rfl⟩⟩)
  generalize epochF f = ep at *
  have hd1 : decide (id < 0) = false := decide_eq_false (by omega)
  have hd2 : decide (3 ≤ id) = false := decide_eq_false (by omega)
  clear h hz hp
  go_enter Tryd.func11, Tryd.ntmps11
  go_upto_region 5 with (first | (go_at_call 19; refine (HE.out _ (H.out.below (by repeat (first | with_reducible exact Below.refl _ _ | with_reducible assumption | with_reducible exact below_d1 _ _ _ _ _ | with_reducible exact below_d2 _ _ _ _ _ _ _ _ | with_reducible exact below_d3 _ _ _ _ _ | with_reducible exact below_d4 _ _ _ _ _ _ _ _ | with_reducible exact below_d5 _ _ | with_reducible refine Below.drew ?_ | with_reducible refine Below.drewN' ?_ _ | with_reducible refine below_grow0 _ _ ?_ | with_reducible refine below_alloc0 _ ?_ | with_reducible refine Below.setCell ?_ ?_ _ | with_reducible refine Below.alloc ?_ ?_ _ | with_reducible refine Below.grow _ _ _ ?_ ?_ | omega | (simp; done) | (simp; omega))))).mono ?_; rintro e w1 ⟨rfl, hb1⟩; obtain ⟨ext1, d1, rfl⟩ := Below.grown_eq _ hb1; clear hb1) | (go_at_call 20; refine (HR.out _ (H.out.below (by repeat (first | with_reducible exact Below.refl _ _ | with_reducible assumption | with_reducible exact below_d1 _ _ _ _ _ | with_reducible exact below_d2 _ _ _ _ _ _ _ _ | with_reducible exact below_d3 _ _ _ _ _ | with_reducible exact below_d4 _ _ _ _ _ _ _ _ | with_reducible exact below_d5 _ _ | with_reducible refine Below.drew ?_ | with_reducible refine Below.drewN' ?_ _ | with_reducible refine below_grow0 _ _ ?_ | with_reducible refine below_alloc0 _ ?_ | with_reducible refine Below.setCell ?_ ?_ _ | with_reducible refine Below.alloc ?_ ?_ _ | with_reducible refine Below.grow _ _ _ ?_ ?_ | omega | (simp; done) | (simp; omega))))).mono ?_; rintro e w1 ⟨A2, c2, L, B, k, d, code, rfl, hr, ho2, ho3, hb2⟩; obtain ⟨ext2, d2, rfl⟩ := Below.grown_eq _ hb2; have HO2 := Lib.hid ho2; have HO3 := Lib.hid ho3; have HI := Lib.hid hr; clear ho2 ho3 hb2 hr HR))
  by_cases hc : code = 0
  · subst hc
    have HF := Lib.hid (HB.out L d 0 HI.out rfl)
    clear HB HB2 HI
    go_wp2_with fail
    refine wp_region_noPanic ?_
    refine wp_region_W (by kernel_rfl) (fun W hW => ?_)
    have cl0 : W.cell? ⟨w.heap.size, 0, none⟩ = some (.slice B d.length k) := by rw [hW.out]; go_simp
    refine wpAny_S (fun w' => w'.cell? ⟨w.heap.size, 0, none⟩ = some (.slice B d.length k)) (fun i => i == 7) (by (try dsimp only); go_simp) (fun hHeld => ?_)
    (refine wpE_take (i := 0) (v := ?gV1_1) (by simp only [List.getElem?_toArray]; rfl) (by kernel_rfl) (by kernel_rfl) (by kernel_rfl) (by kernel_rfl) (by kernel_rfl) (by rfl) (fun _ _ _ h => h) (Or.inl ⟨by rfl, ?gY1_1⟩) (by assumption) ?gR1_1; case gY1_1 => (intro w hSw; (try dsimp only at hSw); go_simp <;> with_reducible rfl))
    try simp only [Act.put, List.setIfInBounds_toArray, List.set_cons_zero, List.set_cons_succ]
    (refine wpE_takeP (i := 1) (v := ?gV1_2) (by simp only [List.getElem?_toArray]; rfl) (by kernel_rfl) (by kernel_rfl) (by kernel_rfl) (by rfl) (fun _ _ _ h => h) (Or.inl ⟨by rfl, ?gY1_2⟩) (by assumption) ?gR1_2; case gY1_2 => (intro w hSw; (try dsimp only at hSw); go_simp <;> with_reducible rfl))
    try simp only [Act.put, List.setIfInBounds_toArray, List.set_cons_zero, List.set_cons_succ]
    (refine wpE_takeP (i := 2) (v := ?gV1_3) (by simp only [List.getElem?_toArray]; rfl) (by kernel_rfl) (by kernel_rfl) (by kernel_rfl) (by rfl) (fun _ _ _ h => h) (Or.inl ⟨by rfl, ?gY1_3⟩) (by assumption) ?gR1_3; case gY1_3 => (intro w hSw; (try dsimp only at hSw); go_simp <;> with_reducible rfl))
    try simp only [Act.put, List.setIfInBounds_toArray, List.set_cons_zero, List.set_cons_succ]
    (refine wpE_takeP (i := 3) (v := ?gV1_4) (by simp only [List.getElem?_toArray]; rfl) (by kernel_rfl) (by kernel_rfl) (by kernel_rfl) (by rfl) (fun _ _ _ h => h) (Or.inl ⟨by rfl, ?gY1_4⟩) (by assumption) ?gR1_4; case gY1_4 => (intro w hSw; (try dsimp only at hSw); go_simp <;> with_reducible rfl))
    try simp only [Act.put, List.setIfInBounds_toArray, List.set_cons_zero, List.set_cons_succ]
    (refine wpE_takeP (i := 4) (v := ?gV1_5) (by simp only [List.getElem?_toArray]; rfl) (by kernel_rfl) (by kernel_rfl) (by kernel_rfl) (by rfl) (fun _ _ _ h => h) (Or.inl ⟨by rfl, ?gY1_5⟩) (by assumption) ?gR1_5; case gY1_5 => (intro w hSw; (try dsimp only at hSw); go_simp <;> with_reducible rfl))
    try simp only [Act.put, List.setIfInBounds_toArray, List.set_cons_zero, List.set_cons_succ]
    refine wpE_ready (rs := [5]) (by kernel_rfl) (by simp) ?_
    refine AllE.cons (by simp only [List.getElem?_toArray]; rfl) (fun K hK => ?_) AllE.nil
    go_simp
    (go_at_call 18; refine (treeNew _).mono ?_; rintro e w3 ⟨A3, c3, rfl, ho4, hb3⟩; obtain ⟨ext3, d3, rfl⟩ := Below.grown_eq W (Below.own (by repeat (first | with_reducible exact Below.refl _ _ | with_reducible assumption | with_reducible exact below_d1 _ _ _ _ _ | with_reducible exact below_d2 _ _ _ _ _ _ _ _ | with_reducible exact below_d3 _ _ _ _ _ | with_reducible exact below_d4 _ _ _ _ _ _ _ _ | with_reducible exact below_d5 _ _ | with_reducible refine Below.drew ?_ | with_reducible refine Below.drewN' ?_ _ | with_reducible refine below_grow0 _ _ ?_ | with_reducible refine below_alloc0 _ ?_ | with_reducible refine Below.setCell ?_ ?_ _ | with_reducible refine Below.alloc ?_ ?_ _ | with_reducible refine Below.grow _ _ _ ?_ ?_ | omega | (simp; done) | (simp; omega))) hb3); have HO4 := Lib.hid ho4; clear ho4 hb3; have hWW := hW.out; subst hWW)
    refine hK.out _ _ ?gT1_6 (fun hHeld => ?_)
    case gT1_6 => ((try dsimp only); go_simp)
    clear hK K
    try simp only [Act.put, List.setIfInBounds_toArray, List.set_cons_zero, List.set_cons_succ]
    (refine wpE_takeP (i := 6) (v := ?gV1_7) (by simp only [List.getElem?_toArray]; rfl) (by kernel_rfl) (by kernel_rfl) (by kernel_rfl) (by rfl) (fun _ _ _ h => h) (Or.inl ⟨by rfl, ?gY1_7⟩) (by assumption) ?gR1_7; case gY1_7 => (intro w hSw; (try dsimp only at hSw); go_simp <;> with_reducible rfl))
    try simp only [Act.put, List.setIfInBounds_toArray, List.set_cons_zero, List.set_cons_succ]
    refine wpE_ready (rs := [7]) (by kernel_rfl) (by simp) ?_
    refine AllE.last (by simp only [List.getElem?_toArray]; rfl) (by kernel_rfl) (fun K hK => ?_) AllE.nil
    go_simp
    refine hK.out _ _ ?_
    clear hK K
    try simp only [Act.put, List.setIfInBounds_toArray, List.set_cons_zero, List.set_cons_succ]
    (refine wpE_takeQ (i := 8) (v := ?gV1_9) (by simp only [List.getElem?_toArray]; rfl) (by kernel_rfl) (by kernel_rfl) (by kernel_rfl) (by rfl) (fun _ _ _ h => h) (Or.inl ⟨by rfl, ?gY1_9⟩) (by kernel_rfl) ?gR1_9; case gY1_9 => (intro w hSw; (try dsimp only at hSw); go_simp <;> with_reducible rfl))
    try simp only [Act.put, List.setIfInBounds_toArray, List.set_cons_zero, List.set_cons_succ]
    refine wpE_done (by kernel_rfl) ?_ _
    refine NoPanic.normal ?_
    go_wp2_with fail
    refine bodyPost_ret (v := .tuple #[vSrv ⟨true, d, id, ep, L, 0, 0, [rootN], [], []⟩ ⟨B, k, A2, c2, A3, c3, none, 0, none, 0⟩, .int .i64 0]) (by simp [results, Tryd.results11, go_sem]) rfl ⟨⟨true, d, id, ep, L, 0, 0, [rootN], [], []⟩, 0, HF.out, ⟨B, k, A2, c2, A3, c3, none, 0, none, 0⟩, rfl, ⟨?_, ?_, ?_, SlA.nil _ _ _ _, SlA.nil _ _ _ _⟩, (by repeat (first | with_reducible exact Below.refl _ _ | with_reducible assumption | with_reducible exact below_d1 _ _ _ _ _ | with_reducible exact below_d2 _ _ _ _ _ _ _ _ | with_reducible exact below_d3 _ _ _ _ _ | with_reducible exact below_d4 _ _ _ _ _ _ _ _ | with_reducible exact below_d5 _ _ | with_reducible refine Below.drew ?_ | with_reducible refine Below.drewN' ?_ _ | with_reducible refine below_grow0 _ _ ?_ | with_reducible refine below_alloc0 _ ?_ | with_reducible refine Below.setCell ?_ ?_ _ | with_reducible refine Below.alloc ?_ ?_ _ | with_reducible refine Below.grow _ _ _ ?_ ?_ | omega | (simp; done) | (simp; omega)))⟩
    · refine Ow.sla (Ow.moved (W' := ?w1) (d' := ?x1) HO3.out (Nat.le_refl _) ?b1 ?z1) (fun q hq => Nat.lt_of_lt_of_le (HP.out q hq) (by simp; omega))
      case b1 => exact (by repeat (first | with_reducible exact Below.refl _ _ | with_reducible assumption | with_reducible exact below_d1 _ _ _ _ _ | with_reducible exact below_d2 _ _ _ _ _ _ _ _ | with_reducible exact below_d3 _ _ _ _ _ | with_reducible exact below_d4 _ _ _ _ _ _ _ _ | with_reducible exact below_d5 _ _ | with_reducible refine Below.drew ?_ | with_reducible refine Below.drewN' ?_ _ | with_reducible refine below_grow0 _ _ ?_ | with_reducible refine below_alloc0 _ ?_ | with_reducible refine Below.setCell ?_ ?_ _ | with_reducible refine Below.alloc ?_ ?_ _ | with_reducible refine Below.grow _ _ _ ?_ ?_ | omega | (simp; done) | (simp; omega)))
      case z1 => simp
    · refine Ow.sla (Ow.moved (W' := ?w2) (d' := ?x2) HO2.out (Nat.le_refl _) ?b2 ?z2) (fun q hq => Nat.lt_of_lt_of_le (HP.out q hq) (by simp; omega))
      case b2 => exact (by repeat (first | with_reducible exact Below.refl _ _ | with_reducible assumption | with_reducible exact below_d1 _ _ _ _ _ | with_reducible exact below_d2 _ _ _ _ _ _ _ _ | with_reducible exact below_d3 _ _ _ _ _ | with_reducible exact below_d4 _ _ _ _ _ _ _ _ | with_reducible exact below_d5 _ _ | with_reducible refine Below.drew ?_ | with_reducible refine Below.drewN' ?_ _ | with_reducible refine below_grow0 _ _ ?_ | with_reducible refine below_alloc0 _ ?_ | with_reducible refine Below.setCell ?_ ?_ _ | with_reducible refine Below.alloc ?_ ?_ _ | with_reducible refine Below.grow _ _ _ ?_ ?_ | omega | (simp; done) | (simp; omega)))
      case z2 => simp
    · refine Ow.sla (Ow.moved (W' := ?w3) (d' := ?x3) HO4.out (Nat.le_refl _) ?b3 ?z3) (fun q hq => Nat.lt_of_lt_of_le (HP.out q hq) (by simp; omega))
      case b3 => exact (by repeat (first | with_reducible exact Below.refl _ _ | with_reducible assumption | with_reducible exact below_d1 _ _ _ _ _ | with_reducible exact below_d2 _ _ _ _ _ _ _ _ | with_reducible exact below_d3 _ _ _ _ _ | with_reducible exact below_d4 _ _ _ _ _ _ _ _ | with_reducible exact below_d5 _ _ | with_reducible refine Below.drew ?_ | with_reducible refine Below.drewN' ?_ _ | with_reducible refine below_grow0 _ _ ?_ | with_reducible refine below_alloc0 _ ?_ | with_reducible refine Below.setCell ?_ ?_ _ | with_reducible refine Below.alloc ?_ ?_ _ | with_reducible refine Below.grow _ _ _ ?_ ?_ | omega | (simp; done) | (simp; omega)))
      case z3 => simp
  · have hne : (code != 0) = true := bne_iff_ne.2 hc
    have HF := Lib.hid (HB2.out L d code HI.out hc)
    clear HB HB2 HI hc
    go_wp2_with fail
    refine bodyPost_ret (v := .tuple #[vSrv noSrv noSrvV, .int .i64 code]) (by simp [results, Tryd.results11, go_sem]) rfl ⟨noSrv, code, HF.out, noSrvV, rfl, noSrv_in _ _, (by repeat (first | with_reducible exact Below.refl _ _ | with_reducible assumption | with_reducible exact below_d1 _ _ _ _ _ | with_reducible exact below_d2 _ _ _ _ _ _ _ _ | with_reducible exact below_d3 _ _ _ _ _ | with_reducible exact below_d4 _ _ _ _ _ _ _ _ | with_reducible exact below_d5 _ _ | with_reducible refine Below.drew ?_ | with_reducible refine Below.drewN' ?_ _ | with_reducible refine below_grow0 _ _ ?_ | with_reducible refine below_alloc0 _ ?_ | with_reducible refine Below.setCell ?_ ?_ _ | with_reducible refine Below.alloc ?_ ?_ _ | with_reducible refine Below.grow _ _ _ ?_ ?_ | omega | (simp; done) | (simp; omega)))⟩
def crashS (s : Srv) (keep : Int) : Srv := if crashE s.disk keep = 0 then ⟨false, crashL s.disk keep, s.id, 0, [], 0, 0, [rootN], [], []⟩ else noSrv
set_option maxRecDepth 100000 in
set_option maxHeartbeats 2000000 in
theorem storeCrash (p p' : Nat → Prop) (s : Srv) (v : SrvV) (keep : Int) (w : World) (h : SrvIn p' w s v) (hp : ∀ q, p q → q < w.heap.size) (hz : ∀ x ∈ s.disk, x.sized) :
    Calls Tryd.prog 9 #[vSrv s v, .int .i64 keep] w (SrvRes p (crashS s keep) (crashE s.disk keep) w) := by
  have HP := Lib.hid hp
  obtain ⟨up, disk, id, ep, log, dn, tz, nodes, sess, wat⟩ := s
  obtain ⟨da, dc, la, lc, na, nc, sa, sc, wa, wc⟩ := v
  obtain ⟨hD, hG, hN, hS, hW⟩ := h
  simp only at hD hG hN hS hW hz
  have HD := Lib.hid hD
  have HA := Lib.hid (fun (W : World) (h : Sl cFile 3 W (.slice da disk.length dc) disk) => dkCrash (.slice da disk.length dc) disk keep W h hz)
  clear hD hG hN hS hW hp hz
  unfold crashS
  simp only
  generalize crashL disk keep = d at *
  generalize crashE disk keep = code at *
  by_cases hc : code = 0
  · subst hc
    rw [if_pos rfl]
    go_enter Tryd.func9, Tryd.ntmps9
    go_wp2_with ((go_at_call 17; refine (HA.out _ (HD.out.1.below (by repeat (first | with_reducible exact Below.refl _ _ | with_reducible assumption | with_reducible exact below_d1 _ _ _ _ _ | with_reducible exact below_d2 _ _ _ _ _ _ _ _ | with_reducible exact below_d3 _ _ _ _ _ | with_reducible exact below_d4 _ _ _ _ _ _ _ _ | with_reducible exact below_d5 _ _ | with_reducible refine Below.drew ?_ | with_reducible refine Below.drewN' ?_ _ | with_reducible refine below_grow0 _ _ ?_ | with_reducible refine below_alloc0 _ ?_ | with_reducible refine Below.setCell ?_ ?_ _ | with_reducible refine Below.alloc ?_ ?_ _ | with_reducible refine Below.grow _ _ _ ?_ ?_ | omega | (simp; done) | (simp; omega))))).mono ?_; rintro e w1 ⟨A1, k1, rfl, ho1, hb1⟩; obtain ⟨ext1, d1, rfl⟩ := Below.grown_eq _ hb1; have HO1 := Lib.hid ho1; clear ho1 hb1))
    refine wp_region_noPanic ?_
    refine wp_region_W (by kernel_rfl) (fun W hW => ?_)
    have cl0 : W.cell? ⟨w.heap.size + 1 + 1 + ext1.size, 0, none⟩ = some (.slice A1 d.length k1) := by rw [hW.out]; go_simp
    have cl1 : W.cell? ⟨w.heap.size, 2, none⟩ = some (.int .i64 id) := by rw [hW.out]; go_simp
    refine wpAny_S (fun w' => w'.cell? ⟨w.heap.size + 1 + 1 + ext1.size, 0, none⟩ = some (.slice A1 d.length k1) ∧ w'.cell? ⟨w.heap.size, 2, none⟩ = some (.int .i64 id)) (fun i => i == 7) (by (try dsimp only); (refine ⟨?_, ?_⟩ <;> go_simp)) (fun hHeld => ?_)
    (refine wpE_take (i := 0) (v := ?gV2_1) (by simp only [List.getElem?_toArray]; rfl) (by kernel_rfl) (by kernel_rfl) (by kernel_rfl) (by kernel_rfl) (by kernel_rfl) (by rfl) (fun _ _ _ h => h) (Or.inl ⟨by rfl, ?gY2_1⟩) (by assumption) ?gR2_1; case gY2_1 => (intro w hSw; (try dsimp only at hSw); go_simp <;> with_reducible rfl))
    try simp only [Act.put, List.setIfInBounds_toArray, List.set_cons_zero, List.set_cons_succ]
    (refine wpE_takeP (i := 1) (v := ?gV2_2) (by simp only [List.getElem?_toArray]; rfl) (by kernel_rfl) (by kernel_rfl) (by kernel_rfl) (by rfl) (fun _ _ _ h => h) (Or.inl ⟨by rfl, ?gY2_2⟩) (by assumption) ?gR2_2; case gY2_2 => (intro w hSw; (try dsimp only at hSw); go_simp <;> with_reducible rfl))
    try simp only [Act.put, List.setIfInBounds_toArray, List.set_cons_zero, List.set_cons_succ]
    (refine wpE_takeP (i := 2) (v := ?gV2_3) (by simp only [List.getElem?_toArray]; rfl) (by kernel_rfl) (by kernel_rfl) (by kernel_rfl) (by rfl) (fun _ _ _ h => h) (Or.inl ⟨by rfl, ?gY2_3⟩) (by assumption) ?gR2_3; case gY2_3 => (intro w hSw; (try dsimp only at hSw); go_simp <;> with_reducible rfl))
    try simp only [Act.put, List.setIfInBounds_toArray, List.set_cons_zero, List.set_cons_succ]
    (refine wpE_take (i := 3) (v := ?gV2_4) (by simp only [List.getElem?_toArray]; rfl) (by kernel_rfl) (by kernel_rfl) (by kernel_rfl) (by kernel_rfl) (by kernel_rfl) (by rfl) (fun _ _ _ h => h) (Or.inl ⟨by rfl, ?gY2_4⟩) (by assumption) ?gR2_4; case gY2_4 => (intro w hSw; (try dsimp only at hSw); go_simp <;> with_reducible rfl))
    try simp only [Act.put, List.setIfInBounds_toArray, List.set_cons_zero, List.set_cons_succ]
    (refine wpE_takeP (i := 4) (v := ?gV2_5) (by simp only [List.getElem?_toArray]; rfl) (by kernel_rfl) (by kernel_rfl) (by kernel_rfl) (by rfl) (fun _ _ _ h => h) (Or.inl ⟨by rfl, ?gY2_5⟩) (by assumption) ?gR2_5; case gY2_5 => (intro w hSw; (try dsimp only at hSw); go_simp <;> with_reducible rfl))
    try simp only [Act.put, List.setIfInBounds_toArray, List.set_cons_zero, List.set_cons_succ]
    refine wpE_ready (rs := [5]) (by kernel_rfl) (by simp) ?_
    refine AllE.cons (by simp only [List.getElem?_toArray]; rfl) (fun K hK => ?_) AllE.nil
    go_simp
    (go_at_call 18; refine (treeNew _).mono ?_; rintro e w3 ⟨A3, c3, rfl, ho4, hb3⟩; obtain ⟨ext3, d3, rfl⟩ := Below.grown_eq W (Below.own (by repeat (first | with_reducible exact Below.refl _ _ | with_reducible assumption | with_reducible exact below_d1 _ _ _ _ _ | with_reducible exact below_d2 _ _ _ _ _ _ _ _ | with_reducible exact below_d3 _ _ _ _ _ | with_reducible exact below_d4 _ _ _ _ _ _ _ _ | with_reducible exact below_d5 _ _ | with_reducible refine Below.drew ?_ | with_reducible refine Below.drewN' ?_ _ | with_reducible refine below_grow0 _ _ ?_ | with_reducible refine below_alloc0 _ ?_ | with_reducible refine Below.setCell ?_ ?_ _ | with_reducible refine Below.alloc ?_ ?_ _ | with_reducible refine Below.grow _ _ _ ?_ ?_ | omega | (simp; done) | (simp; omega))) hb3); have HO4 := Lib.hid ho4; clear ho4 hb3; have hWW := hW.out; subst hWW)
    refine hK.out _ _ ?gT2_6 (fun hHeld => ?_)
    case gT2_6 => ((try dsimp only); (refine ⟨?_, ?_⟩ <;> go_simp))
    clear hK K
    try simp only [Act.put, List.setIfInBounds_toArray, List.set_cons_zero, List.set_cons_succ]
    (refine wpE_takeP (i := 6) (v := ?gV2_7) (by simp only [List.getElem?_toArray]; rfl) (by kernel_rfl) (by kernel_rfl) (by kernel_rfl) (by rfl) (fun _ _ _ h => h) (Or.inl ⟨by rfl, ?gY2_7⟩) (by assumption) ?gR2_7; case gY2_7 => (intro w hSw; (try dsimp only at hSw); go_simp <;> with_reducible rfl))
    try simp only [Act.put, List.setIfInBounds_toArray, List.set_cons_zero, List.set_cons_succ]
    refine wpE_ready (rs := [7]) (by kernel_rfl) (by simp) ?_
    refine AllE.last (by simp only [List.getElem?_toArray]; rfl) (by kernel_rfl) (fun K hK => ?_) AllE.nil
    go_simp
    refine hK.out _ _ ?_
    clear hK K
    try simp only [Act.put, List.setIfInBounds_toArray, List.set_cons_zero, List.set_cons_succ]
    (refine wpE_takeQ (i := 8) (v := ?gV2_9) (by simp only [List.getElem?_toArray]; rfl) (by kernel_rfl) (by kernel_rfl) (by kernel_rfl) (by rfl) (fun _ _ _ h => h) (Or.inl ⟨by rfl, ?gY2_9⟩) (by kernel_rfl) ?gR2_9; case gY2_9 => (intro w hSw; (try dsimp only at hSw); go_simp <;> with_reducible rfl))
    try simp only [Act.put, List.setIfInBounds_toArray, List.set_cons_zero, List.set_cons_succ]
    refine wpE_done (by kernel_rfl) ?_ _
    refine NoPanic.normal ?_
    go_wp2_with fail
    refine bodyPost_ret (v := .tuple #[vSrv ⟨false, d, id, 0, [], 0, 0, [rootN], [], []⟩ ⟨A1, k1, none, 0, A3, c3, none, 0, none, 0⟩, .int .i64 0]) (by simp [results, Tryd.results9, go_sem]) rfl ⟨⟨A1, k1, none, 0, A3, c3, none, 0, none, 0⟩, rfl, ⟨?_, SlA.nil _ _ _ _, ?_, SlA.nil _ _ _ _, SlA.nil _ _ _ _⟩, (by repeat (first | with_reducible exact Below.refl _ _ | with_reducible assumption | with_reducible exact below_d1 _ _ _ _ _ | with_reducible exact below_d2 _ _ _ _ _ _ _ _ | with_reducible exact below_d3 _ _ _ _ _ | with_reducible exact below_d4 _ _ _ _ _ _ _ _ | with_reducible exact below_d5 _ _ | with_reducible refine Below.drew ?_ | with_reducible refine Below.drewN' ?_ _ | with_reducible refine below_grow0 _ _ ?_ | with_reducible refine below_alloc0 _ ?_ | with_reducible refine Below.setCell ?_ ?_ _ | with_reducible refine Below.alloc ?_ ?_ _ | with_reducible refine Below.grow _ _ _ ?_ ?_ | omega | (simp; done) | (simp; omega)))⟩
    · refine Ow.sla (Ow.moved (W' := ?w1) (d' := ?x1) HO1.out (Nat.le_refl _) ?b1 ?z1) (fun q hq => Nat.lt_of_lt_of_le (HP.out q hq) (by simp; omega))
      case b1 => exact (by repeat (first | with_reducible exact Below.refl _ _ | with_reducible assumption | with_reducible exact below_d1 _ _ _ _ _ | with_reducible exact below_d2 _ _ _ _ _ _ _ _ | with_reducible exact below_d3 _ _ _ _ _ | with_reducible exact below_d4 _ _ _ _ _ _ _ _ | with_reducible exact below_d5 _ _ | with_reducible refine Below.drew ?_ | with_reducible refine Below.drewN' ?_ _ | with_reducible refine below_grow0 _ _ ?_ | with_reducible refine below_alloc0 _ ?_ | with_reducible refine Below.setCell ?_ ?_ _ | with_reducible refine Below.alloc ?_ ?_ _ | with_reducible refine Below.grow _ _ _ ?_ ?_ | omega | (simp; done) | (simp; omega)))
      case z1 => simp
    · refine Ow.sla (Ow.moved (W' := ?w3) (d' := ?x3) HO4.out (Nat.le_refl _) ?b3 ?z3) (fun q hq => Nat.lt_of_lt_of_le (HP.out q hq) (by simp; omega))
      case b3 => exact (by repeat (first | with_reducible exact Below.refl _ _ | with_reducible assumption | with_reducible exact below_d1 _ _ _ _ _ | with_reducible exact below_d2 _ _ _ _ _ _ _ _ | with_reducible exact below_d3 _ _ _ _ _ | with_reducible exact below_d4 _ _ _ _ _ _ _ _ | with_reducible exact below_d5 _ _ | with_reducible refine Below.drew ?_ | with_reducible refine Below.drewN' ?_ _ | with_reducible refine below_grow0 _ _ ?_ | with_reducible refine below_alloc0 _ ?_ | with_reducible refine Below.setCell ?_ ?_ _ | with_reducible refine Below.alloc ?_ ?_ _ | with_reducible refine Below.grow _ _ _ ?_ ?_ | omega | (simp; done) | (simp; omega)))
      case z3 => simp
  · have hne : (code != 0) = true := bne_iff_ne.2 hc
    rw [if_neg hc]
    clear hc
    go_enter Tryd.func9, Tryd.ntmps9
    go_wp2_with ((go_at_call 17; refine (HA.out _ (HD.out.1.below (by repeat (first | with_reducible exact Below.refl _ _ | with_reducible assumption | with_reducible exact below_d1 _ _ _ _ _ | with_reducible exact below_d2 _ _ _ _ _ _ _ _ | with_reducible exact below_d3 _ _ _ _ _ | with_reducible exact below_d4 _ _ _ _ _ _ _ _ | with_reducible exact below_d5 _ _ | with_reducible refine Below.drew ?_ | with_reducible refine Below.drewN' ?_ _ | with_reducible refine below_grow0 _ _ ?_ | with_reducible refine below_alloc0 _ ?_ | with_reducible refine Below.setCell ?_ ?_ _ | with_reducible refine Below.alloc ?_ ?_ _ | with_reducible refine Below.grow _ _ _ ?_ ?_ | omega | (simp; done) | (simp; omega))))).mono ?_; rintro e w1 ⟨A1, k1, rfl, ho1, hb1⟩; obtain ⟨ext1, d1, rfl⟩ := Below.grown_eq _ hb1; have HO1 := Lib.hid ho1; clear ho1 hb1))
    refine bodyPost_ret (v := .tuple #[vSrv noSrv noSrvV, .int .i64 code]) (by simp [results, Tryd.results9, go_sem]) rfl ⟨noSrvV, rfl, noSrv_in _ _, (by repeat (first | with_reducible exact Below.refl _ _ | with_reducible assumption | with_reducible exact below_d1 _ _ _ _ _ | with_reducible exact below_d2 _ _ _ _ _ _ _ _ | with_reducible exact below_d3 _ _ _ _ _ | with_reducible exact below_d4 _ _ _ _ _ _ _ _ | with_reducible exact below_d5 _ _ | with_reducible refine Below.drew ?_ | with_reducible refine Below.drewN' ?_ _ | with_reducible refine below_grow0 _ _ ?_ | with_reducible refine below_alloc0 _ ?_ | with_reducible refine Below.setCell ?_ ?_ _ | with_reducible refine Below.alloc ?_ ?_ _ | with_reducible refine Below.grow _ _ _ ?_ ?_ | omega | (simp; done) | (simp; omega)))⟩
end Go.Proofs.YtkoemhdchoicaaaDoor

/- store.Remember. -/
namespace Go.Proofs.YtkoemhdchoicaaaDoor
open Go.RowKit Go.ChangeShapes Go.WideShapes Go.ChangeAt
/-- the table of powers of ten lies in the world -/
def Tab (W : World) : Prop := Lib.TabIs Tryd.prog W "internal/strconv.uint64pow10" .u64 Lib.pow10Tab ∧ ∃ g, Tryd.prog.globalNamed "internal/strconv.uint64pow10" = some g
theorem Tab.below {w w' : World} (h : Tab w) (hb : Below w.heap.size w w') : Tab w' := by
  obtain ⟨h1, g, hg⟩ := h
  exact ⟨Joins.tab_stays hg h1 hb (Nat.le_refl _), g, hg⟩
theorem textB_size' {z : Int} (h : Zx z) : (textB z).size ≤ 21 := by
  unfold Zx at h
  unfold textB
  have s1 := itoa_size (u := z / 2147483648) (by omega) (by omega)
  have s2 := itoa_size (u := z % 2147483648) (by omega) (by omega)
  rw [ByteArray.size_append, ByteArray.size_append]
  have : (⟨#[46]⟩ : ByteArray).size = 1 := rfl
  omega
abbrev epT (ep : Int) : ByteArray := textB (ep * 2147483648)
theorem epT_size {ep : Int} (h : Half ep) : (epT ep).size ≤ 21 := textB_size' (by unfold Half at h; unfold Zx; omega)
theorem dskB_sized {q : Option (ByteArray × ByteArray)} {a b : ByteArray} (hq : qsize q ≤ 1048576) (h : a.size + b.size ≤ 1048576) : ∀ x ∈ dskB q a b, x.sized := fun x hx => (goodD_sized (dskB_good hq h) x hx).1
theorem dskB_len (q : Option (ByteArray × ByteArray)) (a b : ByteArray) : (dskB q a b).length ≤ 2 := by unfold dskB; cases q <;> simp
set_option maxRecDepth 100000 in
set_option maxHeartbeats 2000000 in
theorem remember_no (v : Value) (f : List File) (ep : Int) (w : World) (h : Sl cFile 3 w v f) (hep : ¬ Half ep) :
    Calls Tryd.prog 27 #[.agg #[v], .int .i64 ep] w (DkRes [] 3 w) := by
  obtain ⟨A, c, rfl, hc1, hc2⟩ := h.form
  have HM := Lib.hid (fun (W : World) => zmake_no ep 0 W (fun h => hep h.1))
  clear h hep
  go_enter Tryd.func27, Tryd.ntmps27
  go_wp2_with ((go_at_call 39; refine (HM.out _).mono ?_; rintro e w1 ⟨rfl, rfl⟩; skip))
  refine bodyPost_ret (v := .tuple #[.agg #[.slice none ([] : List File).length 0], .int .i64 3]) (by simp [results, Tryd.results27, go_sem]) rfl ⟨none, 0, rfl, Ow.nil _ _ _ _ _, (by repeat (first | with_reducible exact Below.refl _ _ | with_reducible assumption | with_reducible exact below_d1 _ _ _ _ _ | with_reducible exact below_d2 _ _ _ _ _ _ _ _ | with_reducible exact below_d3 _ _ _ _ _ | with_reducible exact below_d4 _ _ _ _ _ _ _ _ | with_reducible exact below_d5 _ _ | with_reducible refine Below.drew ?_ | with_reducible refine Below.drewN' ?_ _ | with_reducible refine below_grow0 _ _ ?_ | with_reducible refine below_alloc0 _ ?_ | with_reducible refine Below.setCell ?_ ?_ _ | with_reducible refine Below.alloc ?_ ?_ _ | with_reducible refine Below.grow _ _ _ ?_ ?_ | omega | (simp; done) | (simp; omega)))⟩
set_option maxRecDepth 100000 in
set_option maxHeartbeats 400000 in
theorem remember_yes (v : Value) (q : Option (ByteArray × ByteArray)) (a b : ByteArray) (ep : Int) (w : World) (h : Sl cFile 3 w v (dskB q a b)) (hep : Half ep) (hq : qsize q ≤ 1048576) (hz : a.size + b.size ≤ 1048576) (ht : Tab w) :
    Calls Tryd.prog 27 #[.agg #[v], .int .i64 ep] w (DkRes (dskB (some (textB (ep * 2147483648), noB)) a b) 0 w) := by
  obtain ⟨A, c, rfl, hc1, hc2⟩ := h.form
  have H := Lib.hid h
  have HM := Lib.hid (fun (W : World) => by
    have h1 := zmake_ok ep 0 W hep ⟨by decide, by decide⟩
    rw [Int.add_zero] at h1
    exact h1)
  have HX := Lib.hid (fun (W : World) (hb : Below w.heap.size w W) => by
    obtain ⟨h1, g, hg⟩ := ht.below hb
    exact text_yes (ep * 2147483648) W (by unfold Half at hep; unfold Zx; omega) h1 g hg)
  have hs : (textB (ep * 2147483648)).size ≤ 21 := epT_size hep
  have HW := Lib.hid (fun (W : World) (v : Value) (h : Sl cFile 3 W v (dskB none a b)) => by
    have h1 := dkWrite v (dskB none a b) epN (textB (ep * 2147483648)) W h (dskB_sized (by decide) hz) (by decide) (by omega)
    have h2 := ep_write (a := a) (b := b) (s := textB (ep * 2147483648)) hz (by omega)
    rw [h2.1, h2.2] at h1
    exact h1)
  have HS := Lib.hid (fun (W : World) (v : Value) (h : Sl cFile 3 W v (dskB (some (noB, textB (ep * 2147483648))) a b)) => by
    have hq1 : noB.size + (textB (ep * 2147483648)).size ≤ 1048576 := by show 0 + _ ≤ _; omega
    have h1 := dkSync v (dskB (some (noB, textB (ep * 2147483648))) a b) epN W h (dskB_sized hq1 hz)
    have h2 := ep_sync (s := noB) (t := textB (ep * 2147483648)) hq1 hz
    rw [h2.1, h2.2, noB_add] at h1
    exact h1)
  have HR := Lib.hid (fun (W : World) (v : Value) (h : Sl cFile 3 W v (dskB q a b)) => by
    have h1 := dkRemove v (dskB q a b) epN W h (dskB_sized hq hz)
    exact h1)
  clear ht h
  cases q with
  | none =>
    have hr := ep_none (a := a) (b := b) hz
    rw [hr] at HR
    generalize removeL (dskB none a b) epN = rl at *
    generalize dskB none a b = D at *
    generalize dskB (some (noB, textB (ep * 2147483648))) a b = D1 at *
    generalize dskB (some (textB (ep * 2147483648), noB)) a b = D2 at *
    generalize textB (ep * 2147483648) = tx at *
    clear hr hep hq hz
    go_enter Tryd.func27, Tryd.ntmps27
    go_wp2_with (first | (go_at_call 39; refine (HM.out _).mono ?_; rintro e w1 ⟨rfl, rfl⟩; skip) | (go_at_call 40; refine (HX.out _ (by repeat (first | with_reducible exact Below.refl _ _ | with_reducible assumption | with_reducible exact below_d1 _ _ _ _ _ | with_reducible exact below_d2 _ _ _ _ _ _ _ _ | with_reducible exact below_d3 _ _ _ _ _ | with_reducible exact below_d4 _ _ _ _ _ _ _ _ | with_reducible exact below_d5 _ _ | with_reducible refine Below.drew ?_ | with_reducible refine Below.drewN' ?_ _ | with_reducible refine below_grow0 _ _ ?_ | with_reducible refine below_alloc0 _ ?_ | with_reducible refine Below.setCell ?_ ?_ _ | with_reducible refine Below.alloc ?_ ?_ _ | with_reducible refine Below.grow _ _ _ ?_ ?_ | omega | (simp; done) | (simp; omega)))).mono ?_; rintro e w1 ⟨rfl, hb1⟩; obtain ⟨ext1, d1, rfl⟩ := Below.grown_eq _ hb1; clear hb1 HX) | (go_at_call 41; refine (HR.out _ _ (H.out.below (by repeat (first | with_reducible exact Below.refl _ _ | with_reducible assumption | with_reducible exact below_d1 _ _ _ _ _ | with_reducible exact below_d2 _ _ _ _ _ _ _ _ | with_reducible exact below_d3 _ _ _ _ _ | with_reducible exact below_d4 _ _ _ _ _ _ _ _ | with_reducible exact below_d5 _ _ | with_reducible refine Below.drew ?_ | with_reducible refine Below.drewN' ?_ _ | with_reducible refine below_grow0 _ _ ?_ | with_reducible refine below_alloc0 _ ?_ | with_reducible refine Below.setCell ?_ ?_ _ | with_reducible refine Below.alloc ?_ ?_ _ | with_reducible refine Below.grow _ _ _ ?_ ?_ | omega | (simp; done) | (simp; omega))))).mono ?_; rintro e w1 ⟨A2, k2, rfl, ho2, hb2⟩; obtain ⟨ext2, d2, rfl⟩ := Below.grown_eq _ hb2; clear ho2 hb2 HR) | (go_at_call 33; (with_reducible refine (HW.out _ _ ?hwl).mono ?_); (case hwl => exact H.out.below (by repeat (first | with_reducible exact Below.refl _ _ | with_reducible assumption | with_reducible exact below_d1 _ _ _ _ _ | with_reducible exact below_d2 _ _ _ _ _ _ _ _ | with_reducible exact below_d3 _ _ _ _ _ | with_reducible exact below_d4 _ _ _ _ _ _ _ _ | with_reducible exact below_d5 _ _ | with_reducible refine Below.drew ?_ | with_reducible refine Below.drewN' ?_ _ | with_reducible refine below_grow0 _ _ ?_ | with_reducible refine below_alloc0 _ ?_ | with_reducible refine Below.setCell ?_ ?_ _ | with_reducible refine Below.alloc ?_ ?_ _ | with_reducible refine Below.grow _ _ _ ?_ ?_ | omega | (simp; done) | (simp; omega)))); rintro e w1 ⟨A3, k3, rfl, ho3, hb3⟩; obtain ⟨ext3, d3, rfl⟩ := Below.grown_eq _ hb3; have HO3 := Lib.hid ho3; clear ho3 hb3 HW) | (go_at_call 36; (with_reducible refine (HS.out _ _ ?hsl).mono ?_); (case hsl => (refine Ow.sl (Ow.moved (W' := ?w1) (d' := ?x1) HO3.out (Nat.le_refl _) ?b1 ?z1); (case b1 => exact (by repeat (first | with_reducible exact Below.refl _ _ | with_reducible assumption | with_reducible exact below_d1 _ _ _ _ _ | with_reducible exact below_d2 _ _ _ _ _ _ _ _ | with_reducible exact below_d3 _ _ _ _ _ | with_reducible exact below_d4 _ _ _ _ _ _ _ _ | with_reducible exact below_d5 _ _ | with_reducible refine Below.drew ?_ | with_reducible refine Below.drewN' ?_ _ | with_reducible refine below_grow0 _ _ ?_ | with_reducible refine below_alloc0 _ ?_ | with_reducible refine Below.setCell ?_ ?_ _ | with_reducible refine Below.alloc ?_ ?_ _ | with_reducible refine Below.grow _ _ _ ?_ ?_ | omega | (simp; done) | (simp; omega)))); (case z1 => simp))); rintro e w1 ⟨A4, k4, rfl, ho4, hb4⟩; obtain ⟨ext4, d4, rfl⟩ := Below.grown_eq _ hb4; have HO4 := Lib.hid ho4; clear ho4 hb4 HS))
    refine bodyPost_ret (v := .tuple #[.agg #[.slice A4 D2.length k4], .int .i64 0]) (by simp [results, Tryd.results27, go_sem]) rfl ⟨A4, k4, rfl, ?_, (by repeat (first | with_reducible exact Below.refl _ _ | with_reducible assumption | with_reducible exact below_d1 _ _ _ _ _ | with_reducible exact below_d2 _ _ _ _ _ _ _ _ | with_reducible exact below_d3 _ _ _ _ _ | with_reducible exact below_d4 _ _ _ _ _ _ _ _ | with_reducible exact below_d5 _ _ | with_reducible refine Below.drew ?_ | with_reducible refine Below.drewN' ?_ _ | with_reducible refine below_grow0 _ _ ?_ | with_reducible refine below_alloc0 _ ?_ | with_reducible refine Below.setCell ?_ ?_ _ | with_reducible refine Below.alloc ?_ ?_ _ | with_reducible refine Below.grow _ _ _ ?_ ?_ | omega | (simp; done) | (simp; omega)))⟩
    refine Ow.mono (Ow.moved (W' := ?w9) (d' := ?x9) HO4.out (Nat.le_refl _) ?b9 ?z9) (by simp <;> omega)
    case b9 => exact (by repeat (first | with_reducible exact Below.refl _ _ | with_reducible assumption | with_reducible exact below_d1 _ _ _ _ _ | with_reducible exact below_d2 _ _ _ _ _ _ _ _ | with_reducible exact below_d3 _ _ _ _ _ | with_reducible exact below_d4 _ _ _ _ _ _ _ _ | with_reducible exact below_d5 _ _ | with_reducible refine Below.drew ?_ | with_reducible refine Below.drewN' ?_ _ | with_reducible refine below_grow0 _ _ ?_ | with_reducible refine below_alloc0 _ ?_ | with_reducible refine Below.setCell ?_ ?_ _ | with_reducible refine Below.alloc ?_ ?_ _ | with_reducible refine Below.grow _ _ _ ?_ ?_ | omega | (simp; done) | (simp; omega)))
    case z9 => simp
  | some q =>
    obtain ⟨s, t⟩ := q
    have hr := (ep_read (s := s) (t := t) hq hz).1
    have hrm := ep_remove (s := s) (t := t) hq hz
    rw [hr, hrm] at HR
    generalize dskB none a b = D at *
    generalize dskB (some (s, t)) a b = D0 at *
    generalize dskB (some (noB, textB (ep * 2147483648))) a b = D1 at *
    generalize dskB (some (textB (ep * 2147483648), noB)) a b = D2 at *
    generalize textB (ep * 2147483648) = tx at *
    clear hr hrm hep hq hz
    go_enter Tryd.func27, Tryd.ntmps27
    go_wp2_with (first | (go_at_call 39; refine (HM.out _).mono ?_; rintro e w1 ⟨rfl, rfl⟩; skip) | (go_at_call 40; refine (HX.out _ (by repeat (first | with_reducible exact Below.refl _ _ | with_reducible assumption | with_reducible exact below_d1 _ _ _ _ _ | with_reducible exact below_d2 _ _ _ _ _ _ _ _ | with_reducible exact below_d3 _ _ _ _ _ | with_reducible exact below_d4 _ _ _ _ _ _ _ _ | with_reducible exact below_d5 _ _ | with_reducible refine Below.drew ?_ | with_reducible refine Below.drewN' ?_ _ | with_reducible refine below_grow0 _ _ ?_ | with_reducible refine below_alloc0 _ ?_ | with_reducible refine Below.setCell ?_ ?_ _ | with_reducible refine Below.alloc ?_ ?_ _ | with_reducible refine Below.grow _ _ _ ?_ ?_ | omega | (simp; done) | (simp; omega)))).mono ?_; rintro e w1 ⟨rfl, hb1⟩; obtain ⟨ext1, d1, rfl⟩ := Below.grown_eq _ hb1; clear hb1 HX) | (go_at_call 41; refine (HR.out _ _ (H.out.below (by repeat (first | with_reducible exact Below.refl _ _ | with_reducible assumption | with_reducible exact below_d1 _ _ _ _ _ | with_reducible exact below_d2 _ _ _ _ _ _ _ _ | with_reducible exact below_d3 _ _ _ _ _ | with_reducible exact below_d4 _ _ _ _ _ _ _ _ | with_reducible exact below_d5 _ _ | with_reducible refine Below.drew ?_ | with_reducible refine Below.drewN' ?_ _ | with_reducible refine below_grow0 _ _ ?_ | with_reducible refine below_alloc0 _ ?_ | with_reducible refine Below.setCell ?_ ?_ _ | with_reducible refine Below.alloc ?_ ?_ _ | with_reducible refine Below.grow _ _ _ ?_ ?_ | omega | (simp; done) | (simp; omega))))).mono ?_; rintro e w1 ⟨A2, k2, rfl, ho2, hb2⟩; obtain ⟨ext2, d2, rfl⟩ := Below.grown_eq _ hb2; have HO2 := Lib.hid ho2; clear ho2 hb2 HR) | (go_at_call 33; (with_reducible refine (HW.out _ _ ?hwl).mono ?_); (case hwl => (refine Ow.sl (Ow.moved (W' := ?w2) (d' := ?x2) HO2.out (Nat.le_refl _) ?b2 ?z2); (case b2 => exact (by repeat (first | with_reducible exact Below.refl _ _ | with_reducible assumption | with_reducible exact below_d1 _ _ _ _ _ | with_reducible exact below_d2 _ _ _ _ _ _ _ _ | with_reducible exact below_d3 _ _ _ _ _ | with_reducible exact below_d4 _ _ _ _ _ _ _ _ | with_reducible exact below_d5 _ _ | with_reducible refine Below.drew ?_ | with_reducible refine Below.drewN' ?_ _ | with_reducible refine below_grow0 _ _ ?_ | with_reducible refine below_alloc0 _ ?_ | with_reducible refine Below.setCell ?_ ?_ _ | with_reducible refine Below.alloc ?_ ?_ _ | with_reducible refine Below.grow _ _ _ ?_ ?_ | omega | (simp; done) | (simp; omega)))); (case z2 => simp))); rintro e w1 ⟨A3, k3, rfl, ho3, hb3⟩; obtain ⟨ext3, d3, rfl⟩ := Below.grown_eq _ hb3; have HO3 := Lib.hid ho3; clear ho3 hb3 HW) | (go_at_call 36; (with_reducible refine (HS.out _ _ ?hsl2).mono ?_); (case hsl2 => (refine Ow.sl (Ow.moved (W' := ?w3) (d' := ?x3) HO3.out (Nat.le_refl _) ?b3 ?z3); (case b3 => exact (by repeat (first | with_reducible exact Below.refl _ _ | with_reducible assumption | with_reducible exact below_d1 _ _ _ _ _ | with_reducible exact below_d2 _ _ _ _ _ _ _ _ | with_reducible exact below_d3 _ _ _ _ _ | with_reducible exact below_d4 _ _ _ _ _ _ _ _ | with_reducible exact below_d5 _ _ | with_reducible refine Below.drew ?_ | with_reducible refine Below.drewN' ?_ _ | with_reducible refine below_grow0 _ _ ?_ | with_reducible refine below_alloc0 _ ?_ | with_reducible refine Below.setCell ?_ ?_ _ | with_reducible refine Below.alloc ?_ ?_ _ | with_reducible refine Below.grow _ _ _ ?_ ?_ | omega | (simp; done) | (simp; omega)))); (case z3 => simp))); rintro e w1 ⟨A4, k4, rfl, ho4, hb4⟩; obtain ⟨ext4, d4, rfl⟩ := Below.grown_eq _ hb4; have HO4 := Lib.hid ho4; clear ho4 hb4 HS))
    refine bodyPost_ret (v := .tuple #[.agg #[.slice A4 D2.length k4], .int .i64 0]) (by simp [results, Tryd.results27, go_sem]) rfl ⟨A4, k4, rfl, ?_, (by repeat (first | with_reducible exact Below.refl _ _ | with_reducible assumption | with_reducible exact below_d1 _ _ _ _ _ | with_reducible exact below_d2 _ _ _ _ _ _ _ _ | with_reducible exact below_d3 _ _ _ _ _ | with_reducible exact below_d4 _ _ _ _ _ _ _ _ | with_reducible exact below_d5 _ _ | with_reducible refine Below.drew ?_ | with_reducible refine Below.drewN' ?_ _ | with_reducible refine below_grow0 _ _ ?_ | with_reducible refine below_alloc0 _ ?_ | with_reducible refine Below.setCell ?_ ?_ _ | with_reducible refine Below.alloc ?_ ?_ _ | with_reducible refine Below.grow _ _ _ ?_ ?_ | omega | (simp; done) | (simp; omega)))⟩
    refine Ow.mono (Ow.moved (W' := ?w8) (d' := ?x8) HO4.out (Nat.le_refl _) ?b8 ?z8) (by simp <;> omega)
    case b8 => exact (by repeat (first | with_reducible exact Below.refl _ _ | with_reducible assumption | with_reducible exact below_d1 _ _ _ _ _ | with_reducible exact below_d2 _ _ _ _ _ _ _ _ | with_reducible exact below_d3 _ _ _ _ _ | with_reducible exact below_d4 _ _ _ _ _ _ _ _ | with_reducible exact below_d5 _ _ | with_reducible refine Below.drew ?_ | with_reducible refine Below.drewN' ?_ _ | with_reducible refine below_grow0 _ _ ?_ | with_reducible refine below_alloc0 _ ?_ | with_reducible refine Below.setCell ?_ ?_ _ | with_reducible refine Below.alloc ?_ ?_ _ | with_reducible refine Below.grow _ _ _ ?_ ?_ | omega | (simp; done) | (simp; omega)))
    case z8 => simp
end Go.Proofs.YtkoemhdchoicaaaDoor

/- the laws' filled, boots, taken. -/
namespace Go.Proofs.YtkoemhdchoicaaaDoor
open Go.RowKit Go.ChangeShapes Go.WideShapes Go.ChangeAt
abbrev fillS (id : Int) (m : List Txn) : Srv := ⟨true, logF m, id, 0, m, 0, 0, [rootN], [], []⟩
theorem take_fill {id : Int} {m : List Txn} {t : Txn} (hg : goodT t = 0) (hz : lastZ m < t.zxid) (hs : (recs (m ++ [t])).length ≤ 42271) : takeE (fillS id m) t true = 0 ∧ takeS (fillS id m) t true = fillS id (m ++ [t]) := by
  have h := app_F (m := m) hg (by omega)
  have e : takeE (fillS id m) t true = 0 := by
    unfold takeE
    simp only
    rw [if_neg (by omega)]
    exact h.2
  refine ⟨e, ?_⟩
  unfold takeS
  rw [if_pos e]
  simp only
  rw [h.1, ← logF_D]
theorem epoch_none {f : List File} (h : readE f epN ≠ 0) : epochF f = 0 := by unfold epochF; rw [if_neg h]
theorem epoch_log (S T : ByteArray) : epochF [⟨logN, S, T⟩] = 0 := by
  refine epoch_none ?_
  unfold readE
  split
  · have : isK ([⟨logN, S, T⟩].map File.name) epN = false := noneF_of (l := [⟨logN, S, T⟩]) epN (fun x hx => by rw [List.mem_singleton.1 hx]; show logN ≠ epN; decide)
    rw [this]
    decide
  · decide
theorem epoch_nil : epochF [] = 0 := by
  refine epoch_none ?_
  rw [(read_none nil_good (by simp)).1]
  decide
theorem boot_nil {id : Int} {s : Srv} {c : Int} (h : BootIs id [] s c) : c = 0 ∧ s = fillS id [] := by
  obtain ⟨L, f', hr, hc⟩ := h
  obtain ⟨rfl, rfl, rfl⟩ := rec_log (m := []) ⟨by simp, List.Pairwise.nil⟩ (by decide) hr
  rcases hc with ⟨_, hs⟩ | ⟨h, _⟩
  · rw [epoch_nil] at hs
    exact ⟨rfl, hs⟩
  · exact absurd rfl h
/-- the transactions of a log that a server can take -/
def LogP (m : List Txn) : Prop := LogOk m ∧ ∀ t ∈ m, 1 ≤ t.zxid
theorem logP_take {m : List Txn} (h : LogP m) (k : Nat) : LogP (m.take k) := ⟨logOk_take h.1 k, fun t ht => h.2 t (List.mem_of_mem_take ht)⟩
theorem last_lt {m : List Txn} (h : LogP m) {k : Nat} {x : Txn} (hx : m[k]? = some x) : lastZ (m.take k) < x.zxid := by
  obtain ⟨hk, rfl⟩ := List.getElem?_eq_some_iff.1 hx
  by_cases h0 : m.take k = []
  · rw [h0, lastZ_nil]
    have := h.2 _ (List.getElem_mem hk)
    omega
  · obtain ⟨t, ht, e⟩ := lastZ_mem h0
    rw [e]
    obtain ⟨i, hi⟩ := List.mem_iff_getElem?.1 ht
    rw [List.getElem?_take] at hi
    split at hi
    · obtain ⟨hi2, rfl⟩ := List.getElem?_eq_some_iff.1 hi
      exact List.pairwise_iff_getElem.1 h.1.2 i k hi2 hk (by assumption)
    · cases hi
def FillRes (p : Nat → Prop) (m : List Txn) (w : World) (e : Ending) (w' : World) : Prop := ∃ v, e = .returned (.tuple #[vSrv (fillS 0 m) v, .bool true]) ∧ SrvIn p w' (fillS 0 m) v ∧ Below w.heap.size w w'
theorem take_step {m : List Txn} (h : LogP m) (h40 : m.length ≤ 41) {k : Nat} {x : Txn} (hx : m[k]? = some x) (id : Int) : takeE (fillS id (m.take k)) x true = 0 ∧ takeS (fillS id (m.take k)) x true = fillS id (m.take (k + 1)) := by
  have e : m.take k ++ [x] = m.take (k + 1) := by rw [List.take_add_one, hx]; rfl
  have := take_fill (id := id) (m := m.take k) (h.1.1 x (List.mem_of_getElem? hx)) (last_lt h hx) (by rw [e]; exact recs_small (logOk_take h.1 _) (by rw [List.length_take]; omega))
  rw [e] at this
  exact this
abbrev vFill (id : Int) (k : Nat) (v : SrvV) : Value := .agg #[.bool true, .slice v.da 1 v.dc, .int .i64 id, .int .i64 0, .slice v.la k v.lc, .int .i64 0, .int .i64 0, .slice v.na 1 v.nc, .slice v.sa 0 v.sc, .slice v.wa 0 v.wc]
theorem vFill_take {l : List Txn} {k : Nat} (hk : k ≤ l.length) (id : Int) (v : SrvV) : vSrv (fillS id (l.take k)) v = vFill id k v := by
  have e : (l.take k).length = k := by rw [List.length_take]; omega
  simp only [vSrv, e]
  rfl
def TkRes (p : Nat → Prop) (l : List Txn) (k : Nat) (w : World) (e : Ending) (w' : World) : Prop := ∃ da dc la lc na nc sa sc wa wc, e = .returned (.tuple #[vFill 0 k ⟨da, dc, la, lc, na, nc, sa, sc, wa, wc⟩, .int .i64 0]) ∧ SrvIn p w' (fillS 0 (l.take k)) ⟨da, dc, la, lc, na, nc, sa, sc, wa, wc⟩ ∧ Below w.heap.size w w'
set_option maxRecDepth 100000 in
set_option maxHeartbeats 4000000 in
theorem filled_is (p : Nat → Prop) (v : Value) (l : List Txn) (w : World) (h : Sl cTxn 7 w v l) (hp : ∀ q, p q → q < w.heap.size) (hl : LogP l) (hn : l.length ≤ 41) :
    Calls Tryd.prog 7 #[v] w (FillRes p l w) := by
  obtain ⟨A, c, rfl, hc1, hc2⟩ := h.form
  have H := Lib.hid h
  have HP := Lib.hid hp
  have HB := Lib.hid (fun (p : Nat → Prop) (W : World) (hp : ∀ q, p q → q < W.heap.size) => (storeBoot p 0 (.slice none 0 0) [] W (Sl.nil _ _ _) hp (by simp) (by decide) (by decide)).mono (fun e w' hh => show TkRes p l 0 W e w' from by
    obtain ⟨s, c, hb, ⟨da, dc, la, lc, na, nc, sa, sc, wa, wc⟩, he, h2, h3⟩ := hh
    obtain ⟨rfl, rfl⟩ := boot_nil hb
    exact ⟨da, dc, la, lc, na, nc, sa, sc, wa, wc, he, h2, h3⟩))
  have HT := Lib.hid (fun (k : Nat) (x : Txn) (hx : l[k]? = some x) (p : Nat → Prop) (W : World) (v : SrvV) (h : SrvIn p W (fillS 0 (l.take k)) v) (hp : ∀ q, p q → q < W.heap.size) => show Calls Tryd.prog 13 #[vFill 0 k v, vTxn x, .bool true] W (TkRes p l (k + 1) W) from by
    have hk : k < l.length := (List.getElem?_eq_some_iff.1 hx).1
    have h1 := storeTake p (fillS 0 (l.take k)) v x true W h hp (logF_sized _ (recs_small (logOk_take hl.1 k) (by rw [List.length_take]; omega))) (by simp only [List.length_take]; omega) (good_path (hl.1.1 x (List.mem_of_getElem? hx)))
    have h2 := take_step hl hn hx 0
    rw [h2.1, h2.2, vFill_take (by omega)] at h1
    refine h1.mono fun e w' hh => ?_
    obtain ⟨⟨da, dc, la, lc, na, nc, sa, sc, wa, wc⟩, he, h3, h4⟩ := hh
    exact ⟨da, dc, la, lc, na, nc, sa, sc, wa, wc, by rw [he, vFill_take (by omega)], h3, h4⟩)
  have HE := Lib.hid (show l.take l.length = l from List.take_length)
  clear h hl hp
  go_enter Tryd.func7, Tryd.ntmps7
  go_wp2_with ((go_at_call 11; refine (HB.out (fun q => p q ∨ q = w.heap.size) _ (by rintro q (hq | rfl); exact Nat.lt_of_lt_of_le (HP.out q hq) (by simp); simp)).mono ?_; rintro e w1 ⟨da, dc, la, lc, na, nc, sa, sc, wa, wc, rfl, h1, hb1⟩; obtain ⟨ext1, d1, rfl⟩ := Below.grown_eq _ hb1; have H1 := Lib.hid h1; clear h1 hb1))
  go_loopw [5, 6] (fun e i wr => ∃ (k : Nat) (da : Option Addr) (dc : Nat) (la : Option Addr) (lc : Nat) (na : Option Addr) (nc : Nat) (sa : Option Addr) (sc : Nat) (wa : Option Addr) (wc : Nat) (ext : Array Obj) (d : Nat), k ≤ l.length ∧ e = .int .i64 0 ∧ i = .int .i64 k ∧
     wr = grow ((grow (w.alloc (.cells #[.bool false, .slice none 0 0, .int .i64 0, .int .i64 0, .slice none 0 0, .int .i64 0, .int .i64 0, .slice none 0 0, .slice none 0 0, .slice none 0 0] 35)) ext1 d1).alloc (.cells #[.bool true, .slice da 1 dc, .int .i64 0, .int .i64 0, .slice la k lc, .int .i64 0, .int .i64 0, .slice na 1 nc, .slice sa 0 sc, .slice wa 0 wc] 35)) ext d ∧ Hid (SrvIn (fun q => p q ∨ q = w.heap.size ∨ q = w.heap.size + 1 + ext1.size) wr (fillS 0 (l.take k)) ⟨da, dc, la, lc, na, nc, sa, sc, wa, wc⟩)) (fun _ i _ => l.length - (intOf i).toNat)
  case atStart => exact ⟨0, da, dc, la, lc, na, nc, sa, sc, wa, wc, _, _, Nat.zero_le _, rfl, rfl, grown_of (by repeat (first | with_reducible exact Below.refl _ _ | with_reducible assumption | with_reducible exact below_d1 _ _ _ _ _ | with_reducible exact below_d2 _ _ _ _ _ _ _ _ | with_reducible exact below_d3 _ _ _ _ _ | with_reducible exact below_d4 _ _ _ _ _ _ _ _ | with_reducible exact below_d5 _ _ | with_reducible refine Below.drew ?_ | with_reducible refine Below.drewN' ?_ _ | with_reducible refine below_grow0 _ _ ?_ | with_reducible refine below_alloc0 _ ?_ | with_reducible refine Below.setCell ?_ ?_ _ | with_reducible refine Below.alloc ?_ ?_ _ | with_reducible refine Below.grow _ _ _ ?_ ?_ | omega | (simp; done) | (simp; omega))), Lib.hid ((H1.out.more (p' := fun q => p q ∨ q = w.heap.size ∨ q = w.heap.size + 1 + ext1.size) (by rintro q (hq | rfl | rfl); exact .inl (.inl hq); exact .inl (.inr rfl); exact .inr (by simp))).below (by repeat (first | with_reducible exact Below.refl _ _ | with_reducible assumption | with_reducible exact below_d1 _ _ _ _ _ | with_reducible exact below_d2 _ _ _ _ _ _ _ _ | with_reducible exact below_d3 _ _ _ _ _ | with_reducible exact below_d4 _ _ _ _ _ _ _ _ | with_reducible exact below_d5 _ _ | with_reducible refine Below.drew ?_ | with_reducible refine Below.drewN' ?_ _ | with_reducible refine below_grow0 _ _ ?_ | with_reducible refine below_alloc0 _ ?_ | with_reducible refine Below.setCell ?_ ?_ _ | with_reducible refine Below.alloc ?_ ?_ _ | with_reducible refine Below.grow _ _ _ ?_ ?_ | omega | (simp; done) | (simp; omega))))⟩
  case round =>
    obtain ⟨k, da, dc, la, lc, na, nc, sa, sc, wa, wc, ext, d, hk, rfl, rfl, rfl, hs⟩ := hrel
    clear H1
    by_cases hlt : k < l.length
    · have hx : l[k]? = some (l[k]'hlt) := List.getElem?_eq_getElem _
      obtain ⟨b, off, rfl, hb, x0, x1, x2, x3, x4, x5, x6⟩ := H.out.Txn_at hx
      have HX := Lib.hid (HT.out k _ hx)
      generalize l[k]'hlt = x at *
      clear hx
      go_wp2_with fail
      refine wp_region_noPanic ?_
      refine wp_region_W (by kernel_rfl) (fun W hW => ?_)
      have cl0 : W.cell? ⟨w.heap.size + 1 + ext1.size, 0, none⟩ = some (.bool true) := by rw [hW.out]; go_simp
      have cl1 : W.cell? ⟨w.heap.size + 1 + ext1.size, 1, none⟩ = some (.slice da 1 dc) := by rw [hW.out]; go_simp
      have cl2 : W.cell? ⟨w.heap.size + 1 + ext1.size, 2, none⟩ = some (.int .i64 0) := by rw [hW.out]; go_simp
      have cl3 : W.cell? ⟨w.heap.size + 1 + ext1.size, 3, none⟩ = some (.int .i64 0) := by rw [hW.out]; go_simp
      have cl4 : W.cell? ⟨w.heap.size + 1 + ext1.size, 4, none⟩ = some (.slice la k lc) := by rw [hW.out]; go_simp
      have cl5 : W.cell? ⟨w.heap.size + 1 + ext1.size, 5, none⟩ = some (.int .i64 0) := by rw [hW.out]; go_simp
      have cl6 : W.cell? ⟨w.heap.size + 1 + ext1.size, 6, none⟩ = some (.int .i64 0) := by rw [hW.out]; go_simp
      have cl7 : W.cell? ⟨w.heap.size + 1 + ext1.size, 7, none⟩ = some (.slice na 1 nc) := by rw [hW.out]; go_simp
      have cl8 : W.cell? ⟨w.heap.size + 1 + ext1.size, 8, none⟩ = some (.slice sa 0 sc) := by rw [hW.out]; go_simp
      have cl9 : W.cell? ⟨w.heap.size + 1 + ext1.size, 9, none⟩ = some (.slice wa 0 wc) := by rw [hW.out]; go_simp
      have cl10 : W.cell? ⟨b, off + k * 7, none⟩ = some (.int .i64 x.zxid) := by rw [hW.out]; go_simp
      have cl11 : W.cell? ⟨b, off + k * 7 + 1, none⟩ = some (.int .i64 x.op) := by rw [hW.out]; go_simp
      have cl12 : W.cell? ⟨b, off + k * 7 + 2, none⟩ = some (.int .i64 x.session) := by rw [hW.out]; go_simp
      have cl13 : W.cell? ⟨b, off + k * 7 + 3, none⟩ = some (.string x.path) := by rw [hW.out]; go_simp
      have cl14 : W.cell? ⟨b, off + k * 7 + 4, none⟩ = some (.string x.data) := by rw [hW.out]; go_simp
      have cl15 : W.cell? ⟨b, off + k * 7 + 5, none⟩ = some (.int .i64 x.version) := by rw [hW.out]; go_simp
      have cl16 : W.cell? ⟨b, off + k * 7 + 6, none⟩ = some (.int .i64 x.owner) := by rw [hW.out]; go_simp
      have HPW : Hid (∀ q, (p q ∨ q = w.heap.size ∨ q = w.heap.size + 1 + ext1.size) → q < W.heap.size) := Lib.hid (by rw [hW.out]; rintro q (hq | rfl | rfl); have := HP.out q hq; simp; omega; simp; omega; simp; omega)
      have hsW := Lib.hid (hs.out.below (w' := W) (by rw [hW.out]; exact (by repeat (first | with_reducible exact Below.refl _ _ | with_reducible assumption | with_reducible exact below_d1 _ _ _ _ _ | with_reducible exact below_d2 _ _ _ _ _ _ _ _ | with_reducible exact below_d3 _ _ _ _ _ | with_reducible exact below_d4 _ _ _ _ _ _ _ _ | with_reducible exact below_d5 _ _ | with_reducible refine Below.drew ?_ | with_reducible refine Below.drewN' ?_ _ | with_reducible refine below_grow0 _ _ ?_ | with_reducible refine below_alloc0 _ ?_ | with_reducible refine Below.setCell ?_ ?_ _ | with_reducible refine Below.alloc ?_ ?_ _ | with_reducible refine Below.grow _ _ _ ?_ ?_ | omega | (simp; done) | (simp; omega)))))
      refine wpAny_S (fun w' => w'.cell? ⟨w.heap.size + 1 + ext1.size, 0, none⟩ = some (.bool true) ∧ w'.cell? ⟨w.heap.size + 1 + ext1.size, 1, none⟩ = some (.slice da 1 dc) ∧ w'.cell? ⟨w.heap.size + 1 + ext1.size, 2, none⟩ = some (.int .i64 0) ∧ w'.cell? ⟨w.heap.size + 1 + ext1.size, 3, none⟩ = some (.int .i64 0) ∧ w'.cell? ⟨w.heap.size + 1 + ext1.size, 4, none⟩ = some (.slice la k lc) ∧ w'.cell? ⟨w.heap.size + 1 + ext1.size, 5, none⟩ = some (.int .i64 0) ∧ w'.cell? ⟨w.heap.size + 1 + ext1.size, 6, none⟩ = some (.int .i64 0) ∧ w'.cell? ⟨w.heap.size + 1 + ext1.size, 7, none⟩ = some (.slice na 1 nc) ∧ w'.cell? ⟨w.heap.size + 1 + ext1.size, 8, none⟩ = some (.slice sa 0 sc) ∧ w'.cell? ⟨w.heap.size + 1 + ext1.size, 9, none⟩ = some (.slice wa 0 wc) ∧ w'.cell? ⟨b, off + k * 7, none⟩ = some (.int .i64 x.zxid) ∧ w'.cell? ⟨b, off + k * 7 + 1, none⟩ = some (.int .i64 x.op) ∧ w'.cell? ⟨b, off + k * 7 + 2, none⟩ = some (.int .i64 x.session) ∧ w'.cell? ⟨b, off + k * 7 + 3, none⟩ = some (.string x.path) ∧ w'.cell? ⟨b, off + k * 7 + 4, none⟩ = some (.string x.data) ∧ w'.cell? ⟨b, off + k * 7 + 5, none⟩ = some (.int .i64 x.version) ∧ w'.cell? ⟨b, off + k * 7 + 6, none⟩ = some (.int .i64 x.owner)) (fun i => i == 9) (by (try dsimp only); (refine ⟨?_, ?_, ?_, ?_, ?_, ?_, ?_, ?_, ?_, ?_, ?_, ?_, ?_, ?_, ?_, ?_, ?_⟩ <;> go_simp)) (fun hHeld => ?_)
      (refine wpE_take (i := 0) (v := ?gV1_1) (by simp only [List.getElem?_toArray]; rfl) (by kernel_rfl) (by kernel_rfl) (by kernel_rfl) (by kernel_rfl) (by kernel_rfl) (by rfl) (fun _ _ _ h => h) (Or.inl ⟨by rfl, ?gY1_1⟩) (by assumption) ?gR1_1; case gY1_1 => (intro w hSw; (try dsimp only at hSw); go_simp <;> with_reducible rfl))
      try simp only [Act.put, List.setIfInBounds_toArray, List.set_cons_zero, List.set_cons_succ]
      (refine wpE_takeP (i := 1) (v := ?gV1_2) (by simp only [List.getElem?_toArray]; rfl) (by kernel_rfl) (by kernel_rfl) (by kernel_rfl) (by rfl) (fun _ _ _ h => h) (Or.inl ⟨by rfl, ?gY1_2⟩) (by assumption) ?gR1_2; case gY1_2 => (intro w hSw; (try dsimp only at hSw); go_simp <;> with_reducible rfl))
      try simp only [Act.put, List.setIfInBounds_toArray, List.set_cons_zero, List.set_cons_succ]
      (refine wpE_takeP (i := 2) (v := ?gV1_3) (by simp only [List.getElem?_toArray]; rfl) (by kernel_rfl) (by kernel_rfl) (by kernel_rfl) (by rfl) (fun _ _ _ h => h) (Or.inl ⟨by rfl, ?gY1_3⟩) (by assumption) ?gR1_3; case gY1_3 => (intro w hSw; (try dsimp only at hSw); go_simp <;> with_reducible rfl))
      try simp only [Act.put, List.setIfInBounds_toArray, List.set_cons_zero, List.set_cons_succ]
      (refine wpE_takeP (i := 3) (v := ?gV1_4) (by simp only [List.getElem?_toArray]; rfl) (by kernel_rfl) (by kernel_rfl) (by kernel_rfl) (by rfl) (fun _ _ _ h => h) (Or.inl ⟨by rfl, ?gY1_4⟩) (by assumption) ?gR1_4; case gY1_4 => (intro w hSw; (try dsimp only at hSw); go_simp <;> with_reducible rfl))
      try simp only [Act.put, List.setIfInBounds_toArray, List.set_cons_zero, List.set_cons_succ]
      (refine wpE_take (i := 4) (v := ?gV1_5) (by simp only [List.getElem?_toArray]; rfl) (by kernel_rfl) (by kernel_rfl) (by kernel_rfl) (by kernel_rfl) (by kernel_rfl) (by rfl) (fun _ _ _ h => h) (Or.inl ⟨by rfl, ?gY1_5⟩) (by assumption) ?gR1_5; case gY1_5 => (intro w hSw; (try dsimp only at hSw); go_simp <;> with_reducible rfl))
      try simp only [Act.put, List.setIfInBounds_toArray, List.set_cons_zero, List.set_cons_succ]
      refine wpE_ready (rs := [5]) (by kernel_rfl) (by simp) ?_
      refine AllE.cons (by simp only [List.getElem?_toArray]; rfl) (fun K hK => ?_) AllE.nil
      go_simp
      (go_at_call 13; refine (HX.out (fun q => p q ∨ q = w.heap.size ∨ q = w.heap.size + 1 + ext1.size) _ ⟨da, dc, la, lc, na, nc, sa, sc, wa, wc⟩ (hsW.out.below (by repeat (first | with_reducible exact Below.refl _ _ | with_reducible assumption | with_reducible exact below_d1 _ _ _ _ _ | with_reducible exact below_d2 _ _ _ _ _ _ _ _ | with_reducible exact below_d3 _ _ _ _ _ | with_reducible exact below_d4 _ _ _ _ _ _ _ _ | with_reducible exact below_d5 _ _ | with_reducible refine Below.drew ?_ | with_reducible refine Below.drewN' ?_ _ | with_reducible refine below_grow0 _ _ ?_ | with_reducible refine below_alloc0 _ ?_ | with_reducible refine Below.setCell ?_ ?_ _ | with_reducible refine Below.alloc ?_ ?_ _ | with_reducible refine Below.grow _ _ _ ?_ ?_ | omega | (simp; done) | (simp; omega)))) (HPW.out)).mono ?_; rintro e w3 ⟨da2, dc2, la2, lc2, na2, nc2, sa2, sc2, wa2, wc2, rfl, h3, hb3⟩; obtain ⟨ext3, d3, rfl⟩ := Below.grown_eq W (Below.own (by repeat (first | with_reducible exact Below.refl _ _ | with_reducible assumption | with_reducible exact below_d1 _ _ _ _ _ | with_reducible exact below_d2 _ _ _ _ _ _ _ _ | with_reducible exact below_d3 _ _ _ _ _ | with_reducible exact below_d4 _ _ _ _ _ _ _ _ | with_reducible exact below_d5 _ _ | with_reducible refine Below.drew ?_ | with_reducible refine Below.drewN' ?_ _ | with_reducible refine below_grow0 _ _ ?_ | with_reducible refine below_alloc0 _ ?_ | with_reducible refine Below.setCell ?_ ?_ _ | with_reducible refine Below.alloc ?_ ?_ _ | with_reducible refine Below.grow _ _ _ ?_ ?_ | omega | (simp; done) | (simp; omega))) hb3); have H3 := Lib.hid h3; clear h3 hb3; have hWW := hW.out; subst hWW)
      refine hK.out _ _ ?gT1_6 (fun hHeld => ?_)
      case gT1_6 => ((try dsimp only); (refine ⟨?_, ?_, ?_, ?_, ?_, ?_, ?_, ?_, ?_, ?_, ?_, ?_, ?_, ?_, ?_, ?_, ?_⟩ <;> go_simp))
      clear hK K
      try simp only [Act.put, List.setIfInBounds_toArray, List.set_cons_zero, List.set_cons_succ]
      (refine wpE_takeP (i := 6) (v := ?gV1_7) (by simp only [List.getElem?_toArray]; rfl) (by kernel_rfl) (by kernel_rfl) (by kernel_rfl) (by rfl) (fun _ _ _ h => h) (Or.inl ⟨by rfl, ?gY1_7⟩) (by assumption) ?gR1_7; case gY1_7 => (intro w hSw; (try dsimp only at hSw); go_simp <;> with_reducible rfl))
      try simp only [Act.put, List.setIfInBounds_toArray, List.set_cons_zero, List.set_cons_succ]
      (refine wpE_takeP (i := 7) (v := ?gV1_8) (by simp only [List.getElem?_toArray]; rfl) (by kernel_rfl) (by kernel_rfl) (by kernel_rfl) (by rfl) (fun _ _ _ h => h) (Or.inl ⟨by rfl, ?gY1_8⟩) (by assumption) ?gR1_8; case gY1_8 => (intro w hSw; (try dsimp only at hSw); go_simp <;> with_reducible rfl))
      try simp only [Act.put, List.setIfInBounds_toArray, List.set_cons_zero, List.set_cons_succ]
      (refine wpE_takeP (i := 8) (v := ?gV1_9) (by simp only [List.getElem?_toArray]; rfl) (by kernel_rfl) (by kernel_rfl) (by kernel_rfl) (by rfl) (fun _ _ _ h => h) (Or.inl ⟨by rfl, ?gY1_9⟩) (by assumption) ?gR1_9; case gY1_9 => (intro w hSw; (try dsimp only at hSw); go_simp <;> with_reducible rfl))
      try simp only [Act.put, List.setIfInBounds_toArray, List.set_cons_zero, List.set_cons_succ]
      refine wpE_ready (rs := [9]) (by kernel_rfl) (by simp) ?_
      refine AllE.last (by simp only [List.getElem?_toArray]; rfl) (by kernel_rfl) (fun K hK => ?_) AllE.nil
      go_simp
      refine hK.out _ _ ?_
      clear hK K
      try simp only [Act.put, List.setIfInBounds_toArray, List.set_cons_zero, List.set_cons_succ]
      (refine wpE_takeQ (i := 10) (v := ?gV1_11) (by simp only [List.getElem?_toArray]; rfl) (by kernel_rfl) (by kernel_rfl) (by kernel_rfl) (by rfl) (fun _ _ _ h => h) (Or.inl ⟨by rfl, ?gY1_11⟩) (by kernel_rfl) ?gR1_11; case gY1_11 => (intro w hSw; (try dsimp only at hSw); go_simp <;> with_reducible rfl))
      try simp only [Act.put, List.setIfInBounds_toArray, List.set_cons_zero, List.set_cons_succ]
      refine wpE_done (by kernel_rfl) ?_ _
      refine NoPanic.normal ?_
      go_wp2_with fail
      go_roundw
      case rel => exact ⟨k + 1, da2, dc2, la2, lc2, na2, nc2, sa2, sc2, wa2, wc2, _, _, by omega, rfl, by go_num, grown_of (by repeat (first | with_reducible exact Below.refl _ _ | with_reducible assumption | with_reducible exact below_d1 _ _ _ _ _ | with_reducible exact below_d2 _ _ _ _ _ _ _ _ | with_reducible exact below_d3 _ _ _ _ _ | with_reducible exact below_d4 _ _ _ _ _ _ _ _ | with_reducible exact below_d5 _ _ | with_reducible refine Below.drew ?_ | with_reducible refine Below.drewN' ?_ _ | with_reducible refine below_grow0 _ _ ?_ | with_reducible refine below_alloc0 _ ?_ | with_reducible refine Below.setCell ?_ ?_ _ | with_reducible refine Below.alloc ?_ ?_ _ | with_reducible refine Below.grow _ _ _ ?_ ?_ | omega | (simp; done) | (simp; omega))), Lib.hid (H3.out.swap (by repeat (first | with_reducible exact Swap.refl _ _ | with_reducible refine Swap.drew1 ?_ | with_reducible refine Swap.drew2 ?_ | with_reducible refine Swap.drewN1 ?_ | with_reducible refine Swap.drewN2 ?_ | with_reducible refine Swap.grow ?_ _ _ _ | with_reducible refine Swap.alloc ?_ _ | with_reducible refine Swap.new ?_ _ _ ?_ | with_reducible refine Swap.set ?_ _ _ _ ?_ | (simp; done) | (simp; omega))))⟩
      case measure => simp [intOf]; omega
    · have hkl : k = l.length := by omega
      subst hkl
      have hs2 := hs.out
      rw [HE.out] at hs2
      have HS2 := Lib.hid hs2
      clear hs2 hs
      go_wp2_with fail
      refine bodyPost_ret (v := .tuple #[vFill 0 l.length ⟨da, dc, la, lc, na, nc, sa, sc, wa, wc⟩, .bool true]) (by simp [results, Tryd.results7, go_sem]) rfl ⟨⟨da, dc, la, lc, na, nc, sa, sc, wa, wc⟩, ?_, (HS2.out.swap (by repeat (first | with_reducible exact Swap.refl _ _ | with_reducible refine Swap.drew1 ?_ | with_reducible refine Swap.drew2 ?_ | with_reducible refine Swap.drewN1 ?_ | with_reducible refine Swap.drewN2 ?_ | with_reducible refine Swap.grow ?_ _ _ _ | with_reducible refine Swap.alloc ?_ _ | with_reducible refine Swap.new ?_ _ _ ?_ | with_reducible refine Swap.set ?_ _ _ _ ?_ | (simp; done) | (simp; omega)))).more (fun q hq => .inl (.inl hq)), (by repeat (first | with_reducible exact Below.refl _ _ | with_reducible assumption | with_reducible exact below_d1 _ _ _ _ _ | with_reducible exact below_d2 _ _ _ _ _ _ _ _ | with_reducible exact below_d3 _ _ _ _ _ | with_reducible exact below_d4 _ _ _ _ _ _ _ _ | with_reducible exact below_d5 _ _ | with_reducible refine Below.drew ?_ | with_reducible refine Below.drewN' ?_ _ | with_reducible refine below_grow0 _ _ ?_ | with_reducible refine below_alloc0 _ ?_ | with_reducible refine Below.setCell ?_ ?_ _ | with_reducible refine Below.alloc ?_ ?_ _ | with_reducible refine Below.grow _ _ _ ?_ ?_ | omega | (simp; done) | (simp; omega)))⟩
      rw [← vFill_take (Nat.le_refl _), HE.out]
end Go.Proofs.YtkoemhdchoicaaaDoor
