/- The law StoreReplays: its walk. -/
import Derived.Test.YtchgpijfebilbaaGreatDoorCards
import Derived.Test.YtchgpijfebilbaaGreatDoorTie
import Derived.Lay
import Derived.LaidMore
import Derived.SevenTiedAt
import Derived.Test.YtchgpijfebilbaaGreatDoorPt1
import Derived.Test.YtchgpijfebilbaaGreatDoorPt2
import Derived.Test.YtchgpijfebilbaaGreatDoorPt3
import Derived.Test.YtchgpijfebilbaaGreatDoorPt4
import Derived.Test.YtchgpijfebilbaaGreatDoorPt5
import Derived.Test.YtchgpijfebilbaaGreatDoorPt6
import Derived.Test.YtchgpijfebilbaaGreatDoorPt7
import Derived.Test.YtchgpijfebilbaaGreatDoorPt8
import Derived.Test.YtchgpijfebilbaaGreatDoorPt9
import Derived.Test.YtchgpijfebilbaaGreatDoorPt10
import Derived.Test.YtchgpijfebilbaaGreatDoorPt11
import Derived.Test.YtchgpijfebilbaaGreatDoorPt12
import Derived.Test.YtchgpijfebilbaaGreatDoorPt13
namespace Go.Proofs.YtchgpijfebilbaaGreatDoor
open Go.RowKit Go.ChangeShapes Go.WideShapes Go.ChangeAt
theorem SrvIn.free {p : Nat → Prop} {w : World} {s : Srv} {v : SrvV} (h : SrvIn p w s v) : SrvIn (fun _ => False) w s v :=
  ⟨⟨h.disk.1, .inr fun _ h => h.elim⟩, ⟨h.log.1, .inr fun _ h => h.elim⟩, ⟨h.nodes.1, .inr fun _ h => h.elim⟩, ⟨h.sess.1, .inr fun _ h => h.elim⟩, ⟨h.watches.1, .inr fun _ h => h.elim⟩⟩
abbrev repS (m : List Txn) (wl : List Watch) : Srv := ⟨true, logF m, 0, 0, m, 0, 0, [rootN], [], wl⟩
theorem segL_all (m : List Txn) : segL m 0 m.length = m := by unfold segL; simp
theorem segL_fst (m : List Txn) (n : Nat) : segL m 0 n = m.take n := by unfold segL; simp
theorem segL_snd (m : List Txn) (n : Nat) : segL m n m.length = m.drop n := by unfold segL; rw [List.take_of_length_le (by rw [List.length_drop]; exact Nat.le_refl _)]
theorem rep_parts (m : List Txn) (wl : List Watch) (n : Nat) :
    comSrv (comSrv (repS m wl) 0 n) n m.length = comSrv (repS m wl) 0 m.length ∧
    (comNotes (repS m wl) 0 m.length).length = (comNotes (repS m wl) 0 n).length + (comNotes (comSrv (repS m wl) 0 n) n m.length).length := by
  have k := com_parts ⟨0, [rootN], []⟩ wl m n
  unfold comNotes comSrv
  dsimp only
  rw [segL_all, segL_fst m n, segL_snd]
  obtain ⟨k1, k2, k3⟩ := k
  refine ⟨?_, ?_⟩
  · rw [k1, k2]
  · rw [k3, List.length_append]
theorem rep_tree (m : List Txn) (wl : List Watch) (n : Nat) : (⟨(comSrv (repS m wl) 0 n).tz, (comSrv (repS m wl) 0 n).nodes, (comSrv (repS m wl) 0 n).sess⟩ : Tr) = runT newTr (m.take n) := by
  unfold comSrv
  simp only [segL_fst]
  exact comL_tree _ _
theorem rep_len (m : List Txn) (wl : List Watch) (n : Nat) : (comSrv (repS m wl) 0 n).watches.length ≤ wl.length := by
  have := comL_len (segL m 0 n) (⟨0, [rootN], []⟩, wl, [])
  unfold comSrv
  simp only [List.length_nil, Nat.add_zero] at this ⊢
  omega
theorem rep_notes (m : List Txn) (wl : List Watch) (n : Nat) : (comNotes (repS m wl) 0 n).length ≤ wl.length := by
  have := comL_len (segL m 0 n) (⟨0, [rootN], []⟩, wl, [])
  unfold comNotes
  simp only [List.length_nil, Nat.add_zero] at this ⊢
  omega
theorem wrap_sum {a b : Nat} {k : Nat} (h : a + b ≤ k) (hk : (k + 1) * 32 ≤ 140737488355328) : wrap64 ((a : Int) + (b : Int)) = (a : Int) + (b : Int) := by unfold wrap64; omega
set_option maxRecDepth 100000 in
set_option maxHeartbeats 4000000 in
theorem storeReplays_ok (v v1 : Value) (l : List Request) (wl : List Watch) (n : Int) (w : World) (h : Sl cRequest 6 w v l) (h1 : Sl cWatch 3 w v1 wl) (hz : ∀ r ∈ l, r.path.size ≤ 4611686018427387904) (hn : l.length ≤ 140737488355328) (hw : (wl.length + 1) * 32 ≤ 140737488355328) :
    Calls Tryz.prog 3 #[v, v1, .int .i64 n] w fun e w' => e = .returned (.bool true) ∧ Below w.heap.size w w' := by
  obtain ⟨Aw, cw, rfl, _⟩ := h1.form
  have HWL := Lib.hid h1
  have HPL := Lib.hid (trPlayed v l w h hz hn)
  have hpl := played_ok l
  obtain ⟨A, c, rfl, _, _⟩ := h.form
  generalize playedS l = s at *
  obtain ⟨m, T⟩ := s
  dsimp only at HPL
  have hm40 : m.length ≤ 40 := hpl.len
  have hrun : runT newTr m = T := hpl.run
  have hokr : OkRun newTr m := hpl.ok
  have hgt : ∀ x ∈ m, goodT x = 0 := hpl.gt
  have HFL := Lib.hid (fun (W : World) (v : Value) (h : Sl cTxn 7 W v m) => filled_is (fun _ => False) v m W h (fun _ h => h.elim) hpl.logP (by omega))
  unfold FillRes at HFL
  have HKP := Lib.hid (fun (W : World) (h : Sl cWatch 3 W (.slice Aw wl.length cw) wl) => kept_is (.slice Aw wl.length cw) wl W h (by omega))
  have HHW := Lib.hid hw
  clear h h1 hpl hw
  go_enter Tryz.func3, Tryz.ntmps3
  go_upto_region 3 with (first | (go_at_call 4; (with_reducible refine HPL.out.mono ?_); rintro e w1 ⟨A0, c0, rfl, ho1, hb1⟩; have HM1 := Lib.hid ho1.sl; have HB1 := Lib.hid hb1; clear ho1 hb1 HPL) | (go_at_call 5; (with_reducible refine (HFL.out _ _ HM1.out).mono ?_); rintro e w2 ⟨⟨da, dc, la, lc, na, nc, sa, sc, wa, wc⟩, rfl, hs2, hb2⟩; have HS2 := Lib.hid hs2; have HB2 := Lib.hid hb2; clear hs2 hb2 HFL))
  refine gen_w (fun W3 hW3 => ?_)
  have hb23 : Below w2.heap.size w2 W3 := by rw [hW3.out]; exact (by repeat (first | with_reducible (first | exact bA .. | assumption | exact bJ .. | exact bK .. | exact bL .. | exact bM .. | exact bN .. | refine bB ?_ | refine bC ?_ _ | refine bD _ _ ?_ | refine bE _ ?_ | refine bF ?_ ?_ _ | refine bG ?_ ?_ _ | refine bH _ _ _ ?_ ?_) | omega | (simp; done) | (simp; omega)))
  have HB3 : Hid (Below w.heap.size w W3) := Lib.hid (by
    have h1 := HB1.out
    have h2 := h1.trans (HB2.out.mono h1.size)
    exact h2.trans (hb23.mono h2.size))
  have hbox : Bk W3 w2.heap.size [.bool true, .slice da (logF m).length dc, .int .i64 0, .int .i64 0, .slice la m.length lc, .int .i64 0, .int .i64 0, .slice na 1 nc, .slice sa 0 sc, .slice wa 0 wc] 36 := by rw [hW3.out]; exact Bk.new _ _ _ rfl
  have HBX := Lib.hid hbox
  have HSV : Hid (SrvIn (fun q => q = w2.heap.size) W3 (fillS 0 m) ⟨da, dc, la, lc, na, nc, sa, sc, wa, wc⟩) := Lib.hid ((HS2.out.more (fun q hq => .inr (Nat.le_of_eq hq.symm))).below hb23)
  have HM3 : Hid (SlA (fun q => q = w2.heap.size) cTxn 7 W3 (.slice A0 m.length c0) m) := Lib.hid (by
    have h0 : SlA (fun _ => False) cTxn 7 w1 (.slice A0 m.length c0) m := ⟨HM1.out, .inr fun _ h => h.elim⟩
    have hsz := HB2.out.size
    exact ((h0.more (fun q hq => .inr (by omega))).below HB2.out).below hb23)
  have hgs : w2.heap.size < W3.heap.size := hbox.lt
  have hgw : w.heap.size ≤ w2.heap.size := Nat.le_trans HB1.out.size HB2.out.size
  clear hW3 hb23 hbox HS2 HM1 HB1 HB2
  generalize w2.heap.size = gs at *
  have b9 : W3.cell? ⟨gs, 9, none⟩ = some (.slice wa 0 wc) := HBX.out.cell 9
  have bf9 := HBX.out.frozen 9
  go_upto_region 5 with (go_at_call 6; (with_reducible refine (boots_is _).mono ?_); rintro e w4 ⟨rfl, hb4⟩; have HB4 := Lib.hid hb4; have b9 : w4.cell? ⟨gs, 9, none⟩ = some (.slice wa 0 wc) := (HBX.out.below hb4).cell 9; have bf9 := (HBX.out.below hb4).frozen 9; clear hb4)
  have HWL4 := Lib.hid ((HWL.out.below HB3.out).below HB4.out)
  have HK4 := Lib.hid (HBX.out.below HB4.out)
  have HSV4 := Lib.hid (HSV.out.below HB4.out)
  have HM4 := Lib.hid (HM3.out.below HB4.out)
  have HB04 := Lib.hid (HB3.out.trans (HB4.out.mono HB3.out.size))
  clear HBX HSV HM3 HB3 HWL
  go_upto_region 6 with (go_at_call 7; (with_reducible refine (HKP.out _ HWL4.out).mono ?_); rintro e w5 ⟨Bw, bw, rfl, hob, hb5⟩; have HOB := Lib.hid hob; have HB5 := Lib.hid hb5; have b9 : w5.cell? ⟨gs, 9, none⟩ = some (.slice wa 0 wc) := (HK4.out.below hb5).cell 9; have bf9 := (HK4.out.below hb5).frozen 9; clear hob hb5 HKP)
  refine gen_w (fun W6 hW6 => ?_)
  have HK6 : Hid (Bk W6 gs [.bool true, .slice da (logF m).length dc, .int .i64 0, .int .i64 0, .slice la m.length lc, .int .i64 0, .int .i64 0, .slice na 1 nc, .slice sa 0 sc, .slice Bw wl.length bw] 36) := Lib.hid (by rw [hW6.out]; exact (HK4.out.below HB5.out).put 9 _)
  have HS6 : Hid (SrvIn (fun _ => False) W6 (repS m wl) ⟨da, dc, la, lc, na, nc, sa, sc, Bw, bw⟩) := Lib.hid (by
    have h5 := HSV4.out.below HB5.out
    have hsw : Swap (fun q => q = gs) w5 W6 := by rw [hW6.out]; exact (Swap.refl _ _).set gs 9 _ rfl
    have h6 := (h5.swap hsw).free
    have k := ow_typeC HOB.out (HK4.out.below HB5.out) (by decide)
    refine ⟨h6.disk, h6.log, h6.nodes, h6.sess, ⟨?_, .inr fun _ h => h.elim⟩⟩
    rw [hW6.out]
    exact (HOB.out.far2 k).sl)
  have HM6 : Hid (Sl cTxn 7 W6 (.slice A0 m.length c0) m) := Lib.hid (by
    have hsw : Swap (fun q => q = gs) w5 W6 := by rw [hW6.out]; exact (Swap.refl _ _).set gs 9 _ rfl
    exact ((HM4.out.below HB5.out).swap hsw).1)
  have HB6 : Hid (Below w.heap.size w W6) := Lib.hid (by
    rw [hW6.out]
    exact below_set (HB04.out.trans (HB5.out.mono HB04.out.size)) hgw)
  clear hW6 HWL4 HK4 HSV4 HM4 HB04 HOB HB5 HB4 b9 bf9
  have hnew : goodTree ⟨0, [rootN], []⟩ = true := new_good
  have hok0 : OkRun ⟨0, [rootN], []⟩ m := hokr
  have HPK : Hid (∀ (W : World), Calls Tryz.prog 8 #[.int .i64 n, .int .i64 ((m.length : Int) + 1)] W fun e w' => e = .returned (.int .i64 (pickV n (m.length + 1))) ∧ W = w') := Lib.hid (fun W => by
    have hp := pick_eq n (m.length + 1) W (by omega) (by omega)
    rw [show ((m.length + 1 : Nat) : Int) = (m.length : Int) + 1 from by omega] at hp
    exact hp)
  have hpr := pickV_range n (n := m.length + 1) (by omega)
  generalize pickV n (m.length + 1) = pq at *
  obtain ⟨q, rfl⟩ := Int.eq_ofNat_of_zero_le hpr.1
  have hqm : q ≤ m.length := by omega
  clear hpr
  have HCA := Lib.hid (fun (p0 : Nat → Prop) (W : World) (v : SrvV) (h : SrvIn p0 W (repS m wl) v) (hp0 : ∀ q, p0 q → q < W.heap.size) => trCommit p0 (repS m wl) v 0 m.length W h hp0 rfl (Nat.zero_le _) (Nat.le_refl _) (by show m.length ≤ 1000; omega) HHW.out hnew (by rw [segL_all]; exact hok0) hgt)
  have HCB := Lib.hid (fun (p0 : Nat → Prop) (W : World) (v : SrvV) (h : SrvIn p0 W (repS m wl) v) (hp0 : ∀ q, p0 q → q < W.heap.size) => trCommit p0 (repS m wl) v 0 q W h hp0 rfl (Nat.zero_le _) hqm (by show m.length ≤ 1000; omega) HHW.out hnew (by rw [segL_fst]; exact okRun_pre m _ q hok0) hgt)
  have HCC := Lib.hid (fun (p0 : Nat → Prop) (W : World) (v : SrvV) (h : SrvIn p0 W (comSrv (repS m wl) 0 q) v) (hp0 : ∀ q, p0 q → q < W.heap.size) => trCommit p0 (comSrv (repS m wl) 0 q) v q m.length W h hp0 rfl hqm (Nat.le_refl _) (by show m.length ≤ 1000; omega) (by have := rep_len m wl q; have := HHW.out; omega) (by rw [rep_tree]; exact okRun_good _ _ new_good (okRun_pre m _ q hok0)) (by rw [rep_tree]; show OkRun _ (segL m q m.length); rw [segL_snd]; exact okRun_suf m _ q hok0) hgt)
  have hpar := rep_parts m wl q
  have htr : (⟨(comSrv (repS m wl) 0 m.length).tz, (comSrv (repS m wl) 0 m.length).nodes, (comSrv (repS m wl) 0 m.length).sess⟩ : Tr) = T := by rw [rep_tree, List.take_length]; exact hrun
  have hdone : (comSrv (repS m wl) 0 m.length).done_ = (m.length : Int) := rfl
  have hwlen := rep_len m wl m.length
  have hnA := rep_notes m wl m.length
  unfold CommitRes at HCA HCB HCC
  rw [hpar.1] at HCC
  have hlen := hpar.2
  clear hpar
  generalize (comNotes (repS m wl) 0 m.length).length = nA at *
  generalize (comNotes (repS m wl) 0 q).length = nB at *
  generalize (comNotes (comSrv (repS m wl) 0 q) q m.length).length = nC at *
  generalize comSrv (repS m wl) 0 m.length = SA at *
  generalize comSrv (repS m wl) 0 q = SB at *
  have hlg : (logF m).length = 1 := by simp
  dsimp only [repS, vSrv] at HCA HCB
  dsimp only [vSrv] at HCC
  simp only [hlg, List.length_cons, List.length_nil, Nat.zero_add] at HCA HCB
  have g0 : W6.cell? ⟨gs, 0, none⟩ = some (.bool true) := HK6.out.cell 0
  have g1 : W6.cell? ⟨gs, 1, none⟩ = some (.slice da (logF m).length dc) := HK6.out.cell 1
  have g2 : W6.cell? ⟨gs, 2, none⟩ = some (.int .i64 0) := HK6.out.cell 2
  have g3 : W6.cell? ⟨gs, 3, none⟩ = some (.int .i64 0) := HK6.out.cell 3
  have g4 : W6.cell? ⟨gs, 4, none⟩ = some (.slice la m.length lc) := HK6.out.cell 4
  have g5 : W6.cell? ⟨gs, 5, none⟩ = some (.int .i64 0) := HK6.out.cell 5
  have g6 : W6.cell? ⟨gs, 6, none⟩ = some (.int .i64 0) := HK6.out.cell 6
  have g7 : W6.cell? ⟨gs, 7, none⟩ = some (.slice na 1 nc) := HK6.out.cell 7
  have g8 : W6.cell? ⟨gs, 8, none⟩ = some (.slice sa 0 sc) := HK6.out.cell 8
  have g9 : W6.cell? ⟨gs, 9, none⟩ = some (.slice Bw wl.length bw) := HK6.out.cell 9
  go_upto_region 8 with (first | (go_at_call 8; (with_reducible refine (HPK.out _).mono ?_); rintro e w7 ⟨rfl, rfl⟩) | (go_at_call 9; (with_reducible refine (HCA.out (fun _ => False) _ ⟨da, dc, la, lc, na, nc, sa, sc, Bw, bw⟩ HS6.out (fun _ h => h.elim)).mono ?_); rintro e w8 ⟨⟨va1, vb1, va2, vb2, va3, vb3, va4, vb4, va5, vb5⟩, Ax, cx, rfl, hsA, hb8⟩; have HSA := Lib.hid hsA; have HB8 := Lib.hid hb8; clear hsA hb8 HCA))
  refine gen_w (fun W8 hW8 => ?_)
  have hb8W : Below w8.heap.size w8 W8 := by rw [hW8.out]; exact (by repeat (first | with_reducible (first | exact bA .. | assumption | exact bJ .. | exact bK .. | exact bL .. | exact bM .. | exact bN .. | refine bB ?_ | refine bC ?_ _ | refine bD _ _ ?_ | refine bE _ ?_ | refine bF ?_ ?_ _ | refine bG ?_ ?_ _ | refine bH _ _ _ ?_ ?_) | omega | (simp; done) | (simp; omega)))
  have HKA8 : Hid (Bk W8 w8.heap.size [.bool SA.up, .slice va1 SA.disk.length vb1, .int .i64 SA.id, .int .i64 SA.epoch, .slice va2 SA.log.length vb2, .int .i64 m.length, .int .i64 SA.tz, .slice va3 SA.nodes.length vb3, .slice va4 SA.sess.length vb4, .slice va5 SA.watches.length vb5] 36) := Lib.hid (by rw [hW8.out]; exact Bk.new _ _ _ rfl)
  have HK8 := Lib.hid ((HK6.out.below HB8.out).below hb8W)
  have HS8 := Lib.hid ((HS6.out.below HB8.out).below hb8W)
  have HM8 := Lib.hid ((HM6.out.below HB8.out).below hb8W)
  have HSA8 := Lib.hid (HSA.out.below hb8W)
  have HB68 : Hid (Below w.heap.size w W8) := Lib.hid (by
    have h1 := HB6.out
    have h2 := h1.trans (HB8.out.mono h1.size)
    exact h2.trans (hb8W.mono h2.size))
  have hAw : w.heap.size ≤ w8.heap.size := Nat.le_trans HB6.out.size HB8.out.size
  have hA8 : w8.heap.size < W8.heap.size := HKA8.out.lt
  clear hW8 hb8W HK6 HS6 HM6 HSA HB6 HB8 g0 g1 g2 g3 g4 g5 g6 g7 g8 g9
  generalize w8.heap.size = gA at *
  have g0 : W8.cell? ⟨gs, 0, none⟩ = some (.bool true) := HK8.out.cell 0
  have g1 : W8.cell? ⟨gs, 1, none⟩ = some (.slice da (logF m).length dc) := HK8.out.cell 1
  have g2 : W8.cell? ⟨gs, 2, none⟩ = some (.int .i64 0) := HK8.out.cell 2
  have g3 : W8.cell? ⟨gs, 3, none⟩ = some (.int .i64 0) := HK8.out.cell 3
  have g4 : W8.cell? ⟨gs, 4, none⟩ = some (.slice la m.length lc) := HK8.out.cell 4
  have g5 : W8.cell? ⟨gs, 5, none⟩ = some (.int .i64 0) := HK8.out.cell 5
  have g6 : W8.cell? ⟨gs, 6, none⟩ = some (.int .i64 0) := HK8.out.cell 6
  have g7 : W8.cell? ⟨gs, 7, none⟩ = some (.slice na 1 nc) := HK8.out.cell 7
  have g8 : W8.cell? ⟨gs, 8, none⟩ = some (.slice sa 0 sc) := HK8.out.cell 8
  have g9 : W8.cell? ⟨gs, 9, none⟩ = some (.slice Bw wl.length bw) := HK8.out.cell 9
  go_upto_region 9 with (go_at_call 9; (with_reducible refine (HCB.out (fun _ => False) _ ⟨da, dc, la, lc, na, nc, sa, sc, Bw, bw⟩ HS8.out (fun _ h => h.elim)).mono ?_); rintro e w9 ⟨⟨ua1, ub1, ua2, ub2, ua3, ub3, ua4, ub4, ua5, ub5⟩, Ay, cy, rfl, hsB, hb9⟩; have HSB := Lib.hid hsB; have HB9 := Lib.hid hb9; clear hsB hb9 HCB)
  refine gen_w (fun W9 hW9 => ?_)
  have hb9W : Below w9.heap.size w9 W9 := by rw [hW9.out]; exact (by repeat (first | with_reducible (first | exact bA .. | assumption | exact bJ .. | exact bK .. | exact bL .. | exact bM .. | exact bN .. | refine bB ?_ | refine bC ?_ _ | refine bD _ _ ?_ | refine bE _ ?_ | refine bF ?_ ?_ _ | refine bG ?_ ?_ _ | refine bH _ _ _ ?_ ?_) | omega | (simp; done) | (simp; omega)))
  have HKB9 : Hid (Bk W9 w9.heap.size [.bool SB.up, .slice ua1 SB.disk.length ub1, .int .i64 SB.id, .int .i64 SB.epoch, .slice ua2 SB.log.length ub2, .int .i64 SB.done_, .int .i64 SB.tz, .slice ua3 SB.nodes.length ub3, .slice ua4 SB.sess.length ub4, .slice ua5 SB.watches.length ub5] 36) := Lib.hid (by rw [hW9.out]; exact Bk.new _ _ _ rfl)
  have HKA9 := Lib.hid ((HKA8.out.below HB9.out).below hb9W)
  have hmore : ∀ q, q = w9.heap.size → False ∨ w9.heap.size ≤ q := fun q hq => .inr (Nat.le_of_eq hq.symm)
  have HM9 : Hid (SlA (fun q => q = w9.heap.size) cTxn 7 W9 (.slice A0 m.length c0) m) := Lib.hid (by
    have h0 : SlA (fun _ => False) cTxn 7 w9 (.slice A0 m.length c0) m := ⟨HM8.out.below HB9.out, .inr fun _ h => h.elim⟩
    exact (h0.more hmore).below hb9W)
  have HSA9 := Lib.hid (((HSA8.out.below HB9.out).more hmore).below hb9W)
  have HSB9 := Lib.hid ((HSB.out.more hmore).below hb9W)
  have HB69 : Hid (Below w.heap.size w W9) := Lib.hid (by
    have h1 := HB68.out
    have h2 := h1.trans (HB9.out.mono h1.size)
    exact h2.trans (hb9W.mono h2.size))
  have hgBw : w.heap.size ≤ w9.heap.size := Nat.le_trans HB68.out.size HB9.out.size
  have hAB : gA < w9.heap.size := Nat.lt_of_lt_of_le hA8 HB9.out.size
  clear hW9 hb9W hmore HK8 HS8 HM8 HSA8 HSB HKA8 HB68 HB9 g0 g1 g2 g3 g4 g5 g6 g7 g8 g9
  generalize w9.heap.size = gB at *
  have g0 : W9.cell? ⟨gB, 0, none⟩ = some (.bool SB.up) := HKB9.out.cell 0
  have g1 : W9.cell? ⟨gB, 1, none⟩ = some (.slice ua1 SB.disk.length ub1) := HKB9.out.cell 1
  have g2 : W9.cell? ⟨gB, 2, none⟩ = some (.int .i64 SB.id) := HKB9.out.cell 2
  have g3 : W9.cell? ⟨gB, 3, none⟩ = some (.int .i64 SB.epoch) := HKB9.out.cell 3
  have g4 : W9.cell? ⟨gB, 4, none⟩ = some (.slice ua2 SB.log.length ub2) := HKB9.out.cell 4
  have g5 : W9.cell? ⟨gB, 5, none⟩ = some (.int .i64 SB.done_) := HKB9.out.cell 5
  have g6 : W9.cell? ⟨gB, 6, none⟩ = some (.int .i64 SB.tz) := HKB9.out.cell 6
  have g7 : W9.cell? ⟨gB, 7, none⟩ = some (.slice ua3 SB.nodes.length ub3) := HKB9.out.cell 7
  have g8 : W9.cell? ⟨gB, 8, none⟩ = some (.slice ua4 SB.sess.length ub4) := HKB9.out.cell 8
  have g9 : W9.cell? ⟨gB, 9, none⟩ = some (.slice ua5 SB.watches.length ub5) := HKB9.out.cell 9
  go_upto_region 10 with (go_at_call 9; (with_reducible refine (HCC.out (fun q => q = gB) _ ⟨ua1, ub1, ua2, ub2, ua3, ub3, ua4, ub4, ua5, ub5⟩ HSB9.out (fun q hq => hq ▸ HKB9.out.lt)).mono ?_); rintro e w10 ⟨⟨ta1, tb1, ta2, tb2, ta3, tb3, ta4, tb4, ta5, tb5⟩, Az, cz, rfl, hsC, hb10⟩; have HSC := Lib.hid hsC; have HB10' := Lib.hid hb10; have HKB10 := Lib.hid (HKB9.out.below hb10); have k0 : w10.cell? ⟨gB, 0, none⟩ = some (.bool SB.up) := HKB10.out.cell 0; have kf0 := HKB10.out.frozen 0; have k1 : w10.cell? ⟨gB, 1, none⟩ = some (.slice ua1 SB.disk.length ub1) := HKB10.out.cell 1; have kf1 := HKB10.out.frozen 1; have k2 : w10.cell? ⟨gB, 2, none⟩ = some (.int .i64 SB.id) := HKB10.out.cell 2; have kf2 := HKB10.out.frozen 2; have k3 : w10.cell? ⟨gB, 3, none⟩ = some (.int .i64 SB.epoch) := HKB10.out.cell 3; have kf3 := HKB10.out.frozen 3; have k4 : w10.cell? ⟨gB, 4, none⟩ = some (.slice ua2 SB.log.length ub2) := HKB10.out.cell 4; have kf4 := HKB10.out.frozen 4; have k5 : w10.cell? ⟨gB, 5, none⟩ = some (.int .i64 SB.done_) := HKB10.out.cell 5; have kf5 := HKB10.out.frozen 5; have k6 : w10.cell? ⟨gB, 6, none⟩ = some (.int .i64 SB.tz) := HKB10.out.cell 6; have kf6 := HKB10.out.frozen 6; have k7 : w10.cell? ⟨gB, 7, none⟩ = some (.slice ua3 SB.nodes.length ub3) := HKB10.out.cell 7; have kf7 := HKB10.out.frozen 7; have k8 : w10.cell? ⟨gB, 8, none⟩ = some (.slice ua4 SB.sess.length ub4) := HKB10.out.cell 8; have kf8 := HKB10.out.frozen 8; have k9 : w10.cell? ⟨gB, 9, none⟩ = some (.slice ua5 SB.watches.length ub5) := HKB10.out.cell 9; have kf9 := HKB10.out.frozen 9; clear hsC hb10 HCC)
  refine gen_w (fun W10 hW10 => ?_)
  have HKA10 : Hid (Bk w10 gA [.bool SA.up, .slice va1 SA.disk.length vb1, .int .i64 SA.id, .int .i64 SA.epoch, .slice va2 SA.log.length vb2, .int .i64 m.length, .int .i64 SA.tz, .slice va3 SA.nodes.length vb3, .slice va4 SA.sess.length vb4, .slice va5 SA.watches.length vb5] 36) := Lib.hid (HKA9.out.below HB10'.out)
  have HB10 : Hid (Below w.heap.size w w10) := Lib.hid (HB69.out.trans (HB10'.out.mono HB69.out.size))
  have hne : gA ≠ gB := by omega
  have hsw : Swap (fun q => q = gB) w10 W10 := by
    rw [hW10.out]
    exact ((((((((((Swap.refl (fun q => q = gB) w10).set gB 0 (.bool SA.up) rfl).set gB 1 (.slice ta1 SA.disk.length tb1) rfl).set gB 2 (.int .i64 SA.id) rfl).set gB 3 (.int .i64 SA.epoch) rfl).set gB 4 (.slice ta2 SA.log.length tb2) rfl).set gB 5 (.int .i64 m.length) rfl).set gB 6 (.int .i64 SA.tz) rfl).set gB 7 (.slice ta3 SA.nodes.length tb3) rfl).set gB 8 (.slice ta4 SA.sess.length tb4) rfl).set gB 9 (.slice ta5 SA.watches.length tb5) rfl
  have HKB : Hid (Bk W10 gB [.bool SA.up, .slice ta1 SA.disk.length tb1, .int .i64 SA.id, .int .i64 SA.epoch, .slice ta2 SA.log.length tb2, .int .i64 m.length, .int .i64 SA.tz, .slice ta3 SA.nodes.length tb3, .slice ta4 SA.sess.length tb4, .slice ta5 SA.watches.length tb5] 36) := Lib.hid (by
    rw [hW10.out]
    exact ((((((((((HKB10.out).put 0 (.bool SA.up)).put 1 (.slice ta1 SA.disk.length tb1)).put 2 (.int .i64 SA.id)).put 3 (.int .i64 SA.epoch)).put 4 (.slice ta2 SA.log.length tb2)).put 5 (.int .i64 m.length)).put 6 (.int .i64 SA.tz)).put 7 (.slice ta3 SA.nodes.length tb3)).put 8 (.slice ta4 SA.sess.length tb4)).put 9 (.slice ta5 SA.watches.length tb5))
  have HKA : Hid (Bk W10 gA [.bool SA.up, .slice va1 SA.disk.length vb1, .int .i64 SA.id, .int .i64 SA.epoch, .slice va2 SA.log.length vb2, .int .i64 m.length, .int .i64 SA.tz, .slice va3 SA.nodes.length vb3, .slice va4 SA.sess.length vb4, .slice va5 SA.watches.length vb5] 36) := Lib.hid (by
    rw [hW10.out]
    exact ((((((((((HKA10.out).far (j := 0) (v := .bool SA.up) hne).far (j := 1) (v := .slice ta1 SA.disk.length tb1) hne).far (j := 2) (v := .int .i64 SA.id) hne).far (j := 3) (v := .int .i64 SA.epoch) hne).far (j := 4) (v := .slice ta2 SA.log.length tb2) hne).far (j := 5) (v := .int .i64 m.length) hne).far (j := 6) (v := .int .i64 SA.tz) hne).far (j := 7) (v := .slice ta3 SA.nodes.length tb3) hne).far (j := 8) (v := .slice ta4 SA.sess.length tb4) hne).far (j := 9) (v := .slice ta5 SA.watches.length tb5) hne)
  have HB : Hid (Below w.heap.size w W10) := Lib.hid (by
    rw [hW10.out]
    exact below_set (j := 9) (u := .slice ta5 SA.watches.length tb5) (below_set (j := 8) (u := .slice ta4 SA.sess.length tb4) (below_set (j := 7) (u := .slice ta3 SA.nodes.length tb3) (below_set (j := 6) (u := .int .i64 SA.tz) (below_set (j := 5) (u := .int .i64 m.length) (below_set (j := 4) (u := .slice ta2 SA.log.length tb2) (below_set (j := 3) (u := .int .i64 SA.epoch) (below_set (j := 2) (u := .int .i64 SA.id) (below_set (j := 1) (u := .slice ta1 SA.disk.length tb1) (below_set (j := 0) (u := .bool SA.up) (HB10.out) hgBw) hgBw) hgBw) hgBw) hgBw) hgBw) hgBw) hgBw) hgBw) hgBw)
  have HSA := Lib.hid ((HSA9.out.below HB10'.out).swap hsw)
  have HSC' := Lib.hid (HSC.out.swap hsw)
  have HM := Lib.hid ((HM9.out.below HB10'.out).swap hsw).1
  clear hW10 hsw HKA10 HB10 HB10' HSA9 HSC HM9 HKB9 HKB10 HKA9 HSB9 HB69 g0 g1 g2 g3 g4 g5 g6 g7 g8 g9 k0 k1 k2 k3 k4 k5 k6 k7 k8 k9 kf0 kf1 kf2 kf3 kf4 kf5 kf6 kf7 kf8 kf9
  have a5 : W10.cell? ⟨gA, 5, none⟩ = some (.int .i64 m.length) := HKA.out.cell 5
  have a6 : W10.cell? ⟨gA, 6, none⟩ = some (.int .i64 SA.tz) := HKA.out.cell 6
  have a7 : W10.cell? ⟨gA, 7, none⟩ = some (.slice va3 SA.nodes.length vb3) := HKA.out.cell 7
  have a8 : W10.cell? ⟨gA, 8, none⟩ = some (.slice va4 SA.sess.length vb4) := HKA.out.cell 8
  have a9 : W10.cell? ⟨gA, 9, none⟩ = some (.slice va5 SA.watches.length vb5) := HKA.out.cell 9
  have b5 : W10.cell? ⟨gB, 5, none⟩ = some (.int .i64 m.length) := HKB.out.cell 5
  have b6 : W10.cell? ⟨gB, 6, none⟩ = some (.int .i64 SA.tz) := HKB.out.cell 6
  have b7 : W10.cell? ⟨gB, 7, none⟩ = some (.slice ta3 SA.nodes.length tb3) := HKB.out.cell 7
  have b8 : W10.cell? ⟨gB, 8, none⟩ = some (.slice ta4 SA.sess.length tb4) := HKB.out.cell 8
  have b9 : W10.cell? ⟨gB, 9, none⟩ = some (.slice ta5 SA.watches.length tb5) := HKB.out.cell 9
  have hAlt : gA < W10.heap.size := HKA.out.lt
  have hBlt : gB < W10.heap.size := HKB.out.lt
  have HSMT := Lib.hid (fun (W : World) v v2 u u2 (h : Sl cNode 9 W v SA.nodes) (h2 : Sl cInt 1 W v2 SA.sess) (k : Sl cNode 9 W u SA.nodes) (k2 : Sl cInt 1 W u2 SA.sess) (hn : SA.nodes.length ≤ 4611686018427387904) (hn2 : SA.sess.length ≤ 4611686018427387904) => same_tree SA.tz v v2 u u2 SA.nodes SA.sess W h h2 k k2 hn hn2)
  have HSMW := Lib.hid (fun (W : World) v v2 (h : Sl cWatch 3 W v SA.watches) (h2 : Sl cWatch 3 W v2 SA.watches) => sameWatches_eq v v2 SA.watches W h h2 (by have := HHW.out; omega))
  have hgT : goodTree T = true := by rw [← hrun]; exact okRun_good m newTr new_good hokr
  have hokT : SnapOk T := snap_ok hgT
  have hnn : SA.nodes.length ≤ 400 := by have := hokT.nn; rw [← htr] at this; exact this
  have hns : SA.sess.length ≤ 2147483647 := by have := hokT.ns; rw [← htr] at this; exact this
  clear hgT hokT
  have HNA := Lib.hid HSA.out.nodes.1
  have HIA := Lib.hid HSA.out.sess.1
  have HWA := Lib.hid HSA.out.watches.1
  have HNC := Lib.hid HSC'.out.nodes.1
  have HIC := Lib.hid HSC'.out.sess.1
  have HWC := Lib.hid HSC'.out.watches.1
  dsimp only at HNA HIA HWA HNC HIC HWC
  clear HSA HSC'
  have HTR := Lib.hid htr
  have HRUN := Lib.hid hrun
  have HOKR := Lib.hid hokr
  have HGT := Lib.hid hgt
  clear htr hrun hokr hgt hok0 hnew
  subst hlen
  have hws := wrap_sum hnA HHW.out
  clear hnA
  go_upto_region 12 with (first | (go_at_call 10; (with_reducible refine (HSMT.out _ _ _ _ _ HNA.out HIA.out HNC.out HIC.out (by omega) (by omega)).mono ?_); rintro e w11 ⟨rfl, hb11⟩; have HB11 := Lib.hid hb11; have a9 : w11.cell? ⟨gA, 9, none⟩ = some (.slice va5 SA.watches.length vb5) := (HKA.out.below hb11).cell 9; have b9 : w11.cell? ⟨gB, 9, none⟩ = some (.slice ta5 SA.watches.length tb5) := (HKB.out.below hb11).cell 9; have hwa := Lib.hid (HWA.out.below hb11); have hwc := Lib.hid (HWC.out.below hb11); clear hb11) | (go_at_call 11; (with_reducible refine (HSMW.out _ _ _ hwa.out hwc.out).mono ?_); rintro e w12 ⟨rfl, hb12⟩; have HB12 := Lib.hid hb12; have a5 : w12.cell? ⟨gA, 5, none⟩ = some (.int .i64 m.length) := ((HKA.out.below HB11.out).below hb12).cell 5; clear hb12))
  have HB02 : Hid (Below w.heap.size w w12) := Lib.hid (by
    have h1 := HB.out.trans (HB11.out.mono HB.out.size)
    exact h1.trans (HB12.out.mono h1.size))
  have HM12 := Lib.hid ((HM.out.below HB11.out).below HB12.out)
  have HNA12 := Lib.hid ((HNA.out.below HB11.out).below HB12.out)
  have HIA12 := Lib.hid ((HIA.out.below HB11.out).below HB12.out)
  have HKA12 := Lib.hid ((HKA.out.below HB11.out).below HB12.out)
  clear HM HNA HIA HWA HNC HIC HWC hwa hwc HKA HKB HB HB11 HB12 a5 a6 a7 a8 a9 b5 b6 b7 b8 b9 HSMW hws hAlt hBlt hne hAB hgBw
  go_upto_region 13 with (go_at_call 12; (refine (treeNew _).mono ?_); rintro e w13 ⟨An, an, rfl, ho13, hb13⟩; have HO13 := Lib.hid ho13; have HB13 := Lib.hid hb13; clear ho13 hb13)
  refine gen_w (fun W13 hW13 => ?_)
  have hb13W : Below w13.heap.size w13 W13 := by rw [hW13.out]; exact (by repeat (first | with_reducible (first | exact bA .. | assumption | exact bJ .. | exact bK .. | exact bL .. | exact bM .. | exact bN .. | refine bB ?_ | refine bC ?_ _ | refine bD _ _ ?_ | refine bE _ ?_ | refine bF ?_ ?_ _ | refine bG ?_ ?_ _ | refine bH _ _ _ ?_ ?_) | omega | (simp; done) | (simp; omega)))
  have hsz2 := HB02.out.size
  have hsz3 := HB13.out.size
  have hmore : ∀ q, q = w13.heap.size → False ∨ w12.heap.size ≤ q := fun q hq => .inr (by omega)
  have HP : Hid (Pl w w13.heap.size W13 newTr (.slice An 1 an) (.slice none 0 0) (.slice none 0 0) []) := Lib.hid (by
    have h2 := HB02.out.trans (HB13.out.mono hsz2)
    refine ⟨h2.size, h2.trans (hb13W.mono h2.size), ?_, (HO13.out.below hb13W).mono hsz2, Ow.nil _ _ _ _ _, Ow.nil _ _ _ _ _⟩
    rw [hW13.out]; exact Bk.new _ _ _ rfl)
  have HMp : Hid (SlA (fun q => q = w13.heap.size) cTxn 7 W13 (.slice A0 m.length c0) m) := Lib.hid (by
    have h0 : SlA (fun _ => False) cTxn 7 w12 (.slice A0 m.length c0) m := ⟨HM12.out, .inr fun _ h => h.elim⟩
    exact ((h0.more hmore).below HB13.out).below hb13W)
  have HNp : Hid (SlA (fun q => q = w13.heap.size) cNode 9 W13 (.slice va3 SA.nodes.length vb3) SA.nodes) := Lib.hid (by
    have h0 : SlA (fun _ => False) cNode 9 w12 (.slice va3 SA.nodes.length vb3) SA.nodes := ⟨HNA12.out, .inr fun _ h => h.elim⟩
    exact ((h0.more hmore).below HB13.out).below hb13W)
  have HIp : Hid (SlA (fun q => q = w13.heap.size) cInt 1 W13 (.slice va4 SA.sess.length vb4) SA.sess) := Lib.hid (by
    have h0 : SlA (fun _ => False) cInt 1 w12 (.slice va4 SA.sess.length vb4) SA.sess := ⟨HIA12.out, .inr fun _ h => h.elim⟩
    exact ((h0.more hmore).below HB13.out).below hb13W)
  have HKp := Lib.hid ((HKA12.out.below HB13.out).below hb13W)
  have hgAb : gA ≠ w13.heap.size := by have := HKA12.out.lt; omega
  clear hW13 hb13W hmore HO13 HB13 HB02 HM12 HNA12 HIA12 HKA12
  generalize w13.heap.size = bt at *
  go_wp2_with fail
  go_loopw [19] (fun i wr => ∃ (k : Nat) (nv sv : Value), k ≤ m.length ∧ i = .int .i64 k ∧ Hid (Pl w bt wr (runT newTr (m.take k)) nv sv (.slice none 0 0) []) ∧ Hid (SlA (fun q => q = bt) cTxn 7 wr (.slice A0 m.length c0) m) ∧ Hid (SlA (fun q => q = bt) cNode 9 wr (.slice va3 SA.nodes.length vb3) SA.nodes) ∧ Hid (SlA (fun q => q = bt) cInt 1 wr (.slice va4 SA.sess.length vb4) SA.sess) ∧ Hid (Bk wr gA [.bool SA.up, .slice va1 SA.disk.length vb1, .int .i64 SA.id, .int .i64 SA.epoch, .slice va2 SA.log.length vb2, .int .i64 m.length, .int .i64 SA.tz, .slice va3 SA.nodes.length vb3, .slice va4 SA.sess.length vb4, .slice va5 SA.watches.length vb5] 36)) (fun i _ => m.length - (intOf i).toNat)
  case atStart => exact ⟨0, _, _, Nat.zero_le _, rfl, HP, HMp, HNp, HIp, HKp⟩
  case round =>
    clear HP HMp HNp HIp HKp
    obtain ⟨k, nv, sv, hk, rfl, hP, hM, hN, hI, hK⟩ := hrel
    obtain ⟨Bn, bn, rfl, _⟩ := hP.out.nod.form
    obtain ⟨Bs, bs, rfl, _⟩ := hP.out.ses.form
    by_cases hlt : k < m.length
    · have hi1 : (decide ((k : Int) < (m.length : Int))) = true := decide_eq_true (by omega)
      have hx : m[k]? = some (m[k]'hlt) := List.getElem?_eq_getElem _
      have hxg := HGT.out _ (List.mem_of_getElem? hx)
      have hE := okRun_take m newTr k _ HOKR.out hx
      have hok := snap_ok (apply_good hE).2.1
      have hstp : runT newTr (m.take (k + 1)) = applyT (runT newTr (m.take k)) (m[k]'hlt) := by
        rw [List.take_add_one, hx]
        exact runT_snoc _ _ _
      obtain ⟨b, off, hA, hb, x0, x1, x2, x3, x4, x5, x6⟩ := hM.out.1.Txn_at hx
      subst hA
      generalize m[k]'hlt = x at *
      generalize runT newTr (m.take k) = Tk at *
      have HAP : Hid (∀ (W : World), Sl cNode 9 W (.slice Bn Tk.nodes.length bn) Tk.nodes → Sl cInt 1 W (.slice Bs Tk.sess.length bs) Tk.sess → Calls Tryz.prog 13 #[.agg #[.int .i64 Tk.zxid, .slice Bn Tk.nodes.length bn, .slice Bs Tk.sess.length bs], txnV x] W (ApplyRes Tk x W)) := Lib.hid (fun W h1 h2 => trApply Tk.zxid _ _ Tk.nodes Tk.sess x W h1 h2 (by have := hok.nn; omega) (by have := hok.ns; omega) (fun n hn => by have := (hok.n n hn).1; omega) (txn_size hxg))
      unfold ApplyRes txnV at HAP
      rw [hE] at HAP
      have HST := Lib.hid hstp
      clear hx hxg hE hok hstp
      generalize applyT Tk x = T' at *
      generalize applyV Tk x = ev at *
      obtain ⟨xz, xo, xs, xp, xd, xv, xw⟩ := x
      dsimp only at *
      have hbt := hP.out.box.lt
      have d0 : wr.cell? ⟨bt, 0, none⟩ = some (.int .i64 Tk.zxid) := hP.out.box.cell 0
      have d1 : wr.cell? ⟨bt, 1, none⟩ = some (.slice Bn Tk.nodes.length bn) := hP.out.box.cell 1
      have d2 : wr.cell? ⟨bt, 2, none⟩ = some (.slice Bs Tk.sess.length bs) := hP.out.box.cell 2
      have hNr := Lib.hid hP.out.nod.sl
      have hSr := Lib.hid hP.out.ses.sl
      have hwr := hP.out.bel.size
      go_upto_region 16 with fail
      go_cut [20, 21, 22] from 112 to 130 (fun s20 s21 s22 wx => ∃ gn A1 e1 A2 e2 vv, s20 = .pointer (some ⟨gn, 0, none⟩) ∧ s21 = vv ∧ s22 = .int .i64 0 ∧ wr.heap.size ≤ gn ∧ Below wr.heap.size wr wx ∧ Hid (Bk wx gn [.int .i64 T'.zxid, .slice A1 T'.nodes.length e1, .slice A2 T'.sess.length e2] 34) ∧ Hid (Ow cNode 9 68 wx w.heap.size (.slice A1 T'.nodes.length e1) T'.nodes) ∧ Hid (Ow cInt 1 3 wx w.heap.size (.slice A2 T'.sess.length e2) T'.sess))
      case first =>
        refine wp_region_noPanic ?_
        refine wp_region_W (by kernel_rfl) (fun W hW => ?_)
        have cl0 : W.cell? ⟨bt, 0, none⟩ = some (.int .i64 Tk.zxid) := by rw [hW.out]; go_simp
        have cl1 : W.cell? ⟨bt, 1, none⟩ = some (.slice Bn Tk.nodes.length bn) := by rw [hW.out]; go_simp
        have cl2 : W.cell? ⟨bt, 2, none⟩ = some (.slice Bs Tk.sess.length bs) := by rw [hW.out]; go_simp
        have cl3 : W.cell? ⟨b, off + k * 7, none⟩ = some (.int .i64 xz) := by rw [hW.out]; go_simp
        have cl4 : W.cell? ⟨b, off + k * 7 + 1, none⟩ = some (.int .i64 xo) := by rw [hW.out]; go_simp
        have cl5 : W.cell? ⟨b, off + k * 7 + 2, none⟩ = some (.int .i64 xs) := by rw [hW.out]; go_simp
        have cl6 : W.cell? ⟨b, off + k * 7 + 3, none⟩ = some (.string xp) := by rw [hW.out]; go_simp
        have cl7 : W.cell? ⟨b, off + k * 7 + 4, none⟩ = some (.string xd) := by rw [hW.out]; go_simp
        have cl8 : W.cell? ⟨b, off + k * 7 + 5, none⟩ = some (.int .i64 xv) := by rw [hW.out]; go_simp
        have cl9 : W.cell? ⟨b, off + k * 7 + 6, none⟩ = some (.int .i64 xw) := by rw [hW.out]; go_simp
        have HNW := Lib.hid (hNr.out.below (w' := W) (by rw [hW.out]; exact (by repeat (first | with_reducible (first | exact bA .. | assumption | exact bJ .. | exact bK .. | exact bL .. | exact bM .. | exact bN .. | refine bB ?_ | refine bC ?_ _ | refine bD _ _ ?_ | refine bE _ ?_ | refine bF ?_ ?_ _ | refine bG ?_ ?_ _ | refine bH _ _ _ ?_ ?_) | omega | (simp; done) | (simp; omega)))))
        have HSW := Lib.hid (hSr.out.below (w' := W) (by rw [hW.out]; exact (by repeat (first | with_reducible (first | exact bA .. | assumption | exact bJ .. | exact bK .. | exact bL .. | exact bM .. | exact bN .. | refine bB ?_ | refine bC ?_ _ | refine bD _ _ ?_ | refine bE _ ?_ | refine bF ?_ ?_ _ | refine bG ?_ ?_ _ | refine bH _ _ _ ?_ ?_) | omega | (simp; done) | (simp; omega)))))
        have hWs1 : W.heap.size = wr.heap.size := by rw [hW.out]; simp
        have hW1W : Below wr.heap.size wr W := by rw [hW.out]; exact (by repeat (first | with_reducible (first | exact bA .. | assumption | exact bJ .. | exact bK .. | exact bL .. | exact bM .. | exact bN .. | refine bB ?_ | refine bC ?_ _ | refine bD _ _ ?_ | refine bE _ ?_ | refine bF ?_ ?_ _ | refine bG ?_ ?_ _ | refine bH _ _ _ ?_ ?_) | omega | (simp; done) | (simp; omega)))
        have hbW : b < W.heap.size := by omega
        have hbtW : bt < W.heap.size := by omega
        refine wpAny_S (fun w' => w'.cell? ⟨bt, 0, none⟩ = some (.int .i64 Tk.zxid) ∧ w'.cell? ⟨bt, 1, none⟩ = some (.slice Bn Tk.nodes.length bn) ∧ w'.cell? ⟨bt, 2, none⟩ = some (.slice Bs Tk.sess.length bs) ∧ w'.cell? ⟨b, off + k * 7, none⟩ = some (.int .i64 xz) ∧ w'.cell? ⟨b, off + k * 7 + 1, none⟩ = some (.int .i64 xo) ∧ w'.cell? ⟨b, off + k * 7 + 2, none⟩ = some (.int .i64 xs) ∧ w'.cell? ⟨b, off + k * 7 + 3, none⟩ = some (.string xp) ∧ w'.cell? ⟨b, off + k * 7 + 4, none⟩ = some (.string xd) ∧ w'.cell? ⟨b, off + k * 7 + 5, none⟩ = some (.int .i64 xv) ∧ w'.cell? ⟨b, off + k * 7 + 6, none⟩ = some (.int .i64 xw)) (fun i => i == 11) (by (try dsimp only); (refine ⟨?_, ?_, ?_, ?_, ?_, ?_, ?_, ?_, ?_, ?_⟩ <;> go_simp)) (fun hHeld => ?_)
        (refine wpE_take (i := 0) (v := ?gV1_1) (by simp only [zD]; rfl) (by kernel_rfl) (by kernel_rfl) (by kernel_rfl) (by kernel_rfl) (by kernel_rfl) (by rfl) (fun _ _ _ h => h) (Or.inl ⟨by rfl, ?gY1_1⟩) (by assumption) ?gR1_1; case gY1_1 => (intro w hSw; (try dsimp only at hSw); go_simp <;> with_reducible rfl))
        try simp only [Act.put, zA, zB, zC]
        (refine wpE_takeP (i := 1) (v := ?gV1_2) (by simp only [zD]; rfl) (by kernel_rfl) (by kernel_rfl) (by kernel_rfl) (by rfl) (fun _ _ _ h => h) (Or.inl ⟨by rfl, ?gY1_2⟩) (by assumption) ?gR1_2; case gY1_2 => (intro w hSw; (try dsimp only at hSw); go_simp <;> with_reducible rfl))
        try simp only [Act.put, zA, zB, zC]
        (refine wpE_takeP (i := 2) (v := ?gV1_3) (by simp only [zD]; rfl) (by kernel_rfl) (by kernel_rfl) (by kernel_rfl) (by rfl) (fun _ _ _ h => h) (Or.inl ⟨by rfl, ?gY1_3⟩) (by assumption) ?gR1_3; case gY1_3 => (intro w hSw; (try dsimp only at hSw); go_simp <;> with_reducible rfl))
        try simp only [Act.put, zA, zB, zC]
        (refine wpE_takeP (i := 3) (v := ?gV1_4) (by simp only [zD]; rfl) (by kernel_rfl) (by kernel_rfl) (by kernel_rfl) (by rfl) (fun _ _ _ h => h) (Or.inl ⟨by rfl, ?gY1_4⟩) (by assumption) ?gR1_4; case gY1_4 => (intro w hSw; (try dsimp only at hSw); go_simp <;> with_reducible rfl))
        try simp only [Act.put, zA, zB, zC]
        (refine wpE_take (i := 4) (v := ?gV1_5) (by simp only [zD]; rfl) (by kernel_rfl) (by kernel_rfl) (by kernel_rfl) (by kernel_rfl) (by kernel_rfl) (by rfl) (fun _ _ _ h => h) (Or.inl ⟨by rfl, ?gY1_5⟩) (by assumption) ?gR1_5; case gY1_5 => (intro w hSw; (try dsimp only at hSw); go_simp <;> with_reducible rfl))
        try simp only [Act.put, zA, zB, zC]
        refine wpE_ready (rs := [5, 10]) (by kernel_rfl) (by simp) ?_
        refine AllE.cons (by simp only [zD]; rfl) (fun K hK => ?gO1_6) ?gL1_6
        case gO1_6 =>
          go_simp
          (go_at_call 13; (with_reducible refine (HAP.out _ (HNW.out.below (by repeat (first | with_reducible (first | exact bA .. | assumption | exact bJ .. | exact bK .. | exact bL .. | exact bM .. | exact bN .. | refine bB ?_ | refine bC ?_ _ | refine bD _ _ ?_ | refine bE _ ?_ | refine bF ?_ ?_ _ | refine bG ?_ ?_ _ | refine bH _ _ _ ?_ ?_) | omega | (simp; done) | (simp; omega)))) (HSW.out.below (by repeat (first | with_reducible (first | exact bA .. | assumption | exact bJ .. | exact bK .. | exact bL .. | exact bM .. | exact bN .. | refine bB ?_ | refine bC ?_ _ | refine bD _ _ ?_ | refine bE _ ?_ | refine bF ?_ ?_ _ | refine bG ?_ ?_ _ | refine bH _ _ _ ?_ ?_) | omega | (simp; done) | (simp; omega))))).mono ?_); rintro e w3 ⟨nv, sv, vv, rfl, hn3, hs3, hv3, hb3⟩; obtain ⟨A7, c7, rfl, _⟩ := hn3.form; obtain ⟨A8, c8, rfl, _⟩ := hs3.form; obtain ⟨A9, c9, rfl, _⟩ := hv3.form; obtain ⟨ext3, d3, rfl⟩ := Below.grown_eq _ hb3; have HN3 := Lib.hid hn3; have HS3 := Lib.hid hs3; clear hn3 hs3 hv3 hb3)
          refine hK.out _ _ ?gT1_6 (fun hHeld => ?_)
          case gT1_6 => ((try dsimp only); (refine ⟨?_, ?_, ?_, ?_, ?_, ?_, ?_, ?_, ?_, ?_⟩ <;> go_simp))
          clear hK K
          try simp only [Act.put, zA, zB, zC]
          (refine wpE_takeP (i := 6) (v := ?gV1_7) (by simp only [zD]; rfl) (by kernel_rfl) (by kernel_rfl) (by kernel_rfl) (by rfl) (fun _ _ _ h => h) (Or.inl ⟨by rfl, ?gY1_7⟩) (by assumption) ?gR1_7; case gY1_7 => (intro w hSw; (try dsimp only at hSw); go_simp <;> with_reducible rfl))
          try simp only [Act.put, zA, zB, zC]
          (refine wpE_takeP (i := 7) (v := ?gV1_8) (by simp only [zD]; rfl) (by kernel_rfl) (by kernel_rfl) (by kernel_rfl) (by rfl) (fun _ _ _ h => h) (Or.inl ⟨by rfl, ?gY1_8⟩) (by assumption) ?gR1_8; case gY1_8 => (intro w hSw; (try dsimp only at hSw); go_simp <;> with_reducible rfl))
          try simp only [Act.put, zA, zB, zC]
          (refine wpE_takeP (i := 8) (v := ?gV1_9) (by simp only [zD]; rfl) (by kernel_rfl) (by kernel_rfl) (by kernel_rfl) (by rfl) (fun _ _ _ h => h) (Or.inl ⟨by rfl, ?gY1_9⟩) (by assumption) ?gR1_9; case gY1_9 => (intro w hSw; (try dsimp only at hSw); go_simp <;> with_reducible rfl))
          try simp only [Act.put, zA, zB, zC]
          (refine wpE_takeP (i := 9) (v := ?gV1_10) (by simp only [zD]; rfl) (by kernel_rfl) (by kernel_rfl) (by kernel_rfl) (by rfl) (fun _ _ _ h => h) (Or.inl ⟨by rfl, ?gY1_10⟩) (by assumption) ?gR1_10; case gY1_10 => (intro w hSw; (try dsimp only at hSw); go_simp <;> with_reducible rfl))
          try simp only [Act.put, zA, zB, zC]
          refine wpE_ready (rs := [10]) (by kernel_rfl) (by simp) ?_
          refine AllE.cons (by simp only [zD]; rfl) (fun K hK => ?_) AllE.nil
          go_simp
          refine hK.out _ _ ?gT1_11 (fun hHeld => ?_)
          case gT1_11 => ((try dsimp only); (refine ⟨?_, ?_, ?_, ?_, ?_, ?_, ?_, ?_, ?_, ?_⟩ <;> go_simp))
          clear hK K
          try simp only [Act.put, zA, zB, zC]
          refine wpE_ready (rs := [11]) (by kernel_rfl) (by simp) ?_
          refine AllE.last (by simp only [zD]; rfl) (by kernel_rfl) (fun K hK => ?_) AllE.nil
          go_simp
          refine hK.out _ _ ?_
          clear hK K
          try simp only [Act.put, zA, zB, zC]
          (refine wpE_takeQ (i := 12) (v := ?gV1_13) (by simp only [zD]; rfl) (by kernel_rfl) (by kernel_rfl) (by kernel_rfl) (by rfl) (fun _ _ _ h => h) (Or.inl ⟨by rfl, ?gY1_13⟩) (by kernel_rfl) ?gR1_13; case gY1_13 => (intro w hSw; (try dsimp only at hSw); go_simp <;> with_reducible rfl))
          try simp only [Act.put, zA, zB, zC]
          (refine wpE_takeQ (i := 13) (v := ?gV1_14) (by simp only [zD]; rfl) (by kernel_rfl) (by kernel_rfl) (by kernel_rfl) (by rfl) (fun _ _ _ h => h) (Or.inl ⟨by rfl, ?gY1_14⟩) (by kernel_rfl) ?gR1_14; case gY1_14 => (intro w hSw; (try dsimp only at hSw); go_simp <;> with_reducible rfl))
          try simp only [Act.put, zA, zB, zC]
          refine wpE_done (by kernel_rfl) ?_ _
          refine NoPanic.normal ?_
          go_wp2_with fail
          go_meet
          refine ⟨_, A7, c7, A8, c8, _, rfl, rfl, rfl, ?_, ?_, Lib.hid ?b1_14, Lib.hid ?n1_14, Lib.hid ?s1_14⟩
          · first | omega | (simp <;> omega)
          · exact Below.own hW1W (by repeat (first | with_reducible (first | exact bA .. | assumption | exact bJ .. | exact bK .. | exact bL .. | exact bM .. | exact bN .. | refine bB ?_ | refine bC ?_ _ | refine bD _ _ ?_ | refine bE _ ?_ | refine bF ?_ ?_ _ | refine bG ?_ ?_ _ | refine bH _ _ _ ?_ ?_) | omega | (simp; done) | (simp; omega)))
          case b1_14 => first | exact Bk.new _ _ _ (by simp [hWs1]) | exact (Bk.new W _ _ hWs1.symm).below (by repeat (first | with_reducible (first | exact bA .. | assumption | exact bJ .. | exact bK .. | exact bL .. | exact bM .. | exact bN .. | refine bB ?_ | refine bC ?_ _ | refine bD _ _ ?_ | refine bE _ ?_ | refine bF ?_ ?_ _ | refine bG ?_ ?_ _ | refine bH _ _ _ ?_ ?_) | omega | (simp; done) | (simp; omega))) | exact (Bk.new (grow W ext3 d3) _ _ (by simp [hWs1])).below (by repeat (first | with_reducible (first | exact bA .. | assumption | exact bJ .. | exact bK .. | exact bL .. | exact bM .. | exact bN .. | refine bB ?_ | refine bC ?_ _ | refine bD _ _ ?_ | refine bE _ ?_ | refine bF ?_ ?_ _ | refine bG ?_ ?_ _ | refine bH _ _ _ ?_ ?_) | omega | (simp; done) | (simp; omega)))
          case n1_14 =>
            refine Ow.mono (Ow.moved (W' := ?w91_14) (d' := ?x91_14) HN3.out (Nat.le_refl _) ?b91_14 ?z91_14) (by first | omega | (simp <;> omega))
            case b91_14 => exact (by repeat (first | with_reducible (first | exact bA .. | assumption | exact bJ .. | exact bK .. | exact bL .. | exact bM .. | exact bN .. | refine bB ?_ | refine bC ?_ _ | refine bD _ _ ?_ | refine bE _ ?_ | refine bF ?_ ?_ _ | refine bG ?_ ?_ _ | refine bH _ _ _ ?_ ?_) | omega | (simp; done) | (simp; omega)))
            case z91_14 => simp
          case s1_14 =>
            refine Ow.mono (Ow.moved (W' := ?w81_14) (d' := ?x81_14) HS3.out (Nat.le_refl _) ?b81_14 ?z81_14) (by first | omega | (simp <;> omega))
            case b81_14 => exact (by repeat (first | with_reducible (first | exact bA .. | assumption | exact bJ .. | exact bK .. | exact bL .. | exact bM .. | exact bN .. | refine bB ?_ | refine bC ?_ _ | refine bD _ _ ?_ | refine bE _ ?_ | refine bF ?_ ?_ _ | refine bG ?_ ?_ _ | refine bH _ _ _ ?_ ?_) | omega | (simp; done) | (simp; omega)))
            case z81_14 => simp
        refine AllE.cons (by simp only [zD]; rfl) (fun K hK => ?gO1_15) ?gL1_15
        case gO1_15 =>
          go_simp
          refine hK.out _ _ ?gT1_15 (fun hHeld => ?_)
          case gT1_15 => ((try dsimp only); (refine ⟨?_, ?_, ?_, ?_, ?_, ?_, ?_, ?_, ?_, ?_⟩ <;> go_simp))
          clear hK K
          try simp only [Act.put, zA, zB, zC]
          refine wpE_ready (rs := [5]) (by kernel_rfl) (by simp) ?_
          refine AllE.cons (by simp only [zD]; rfl) (fun K hK => ?_) AllE.nil
          go_simp
          (go_at_call 13; (with_reducible refine (HAP.out _ (HNW.out.below (by repeat (first | with_reducible (first | exact bA .. | assumption | exact bJ .. | exact bK .. | exact bL .. | exact bM .. | exact bN .. | refine bB ?_ | refine bC ?_ _ | refine bD _ _ ?_ | refine bE _ ?_ | refine bF ?_ ?_ _ | refine bG ?_ ?_ _ | refine bH _ _ _ ?_ ?_) | omega | (simp; done) | (simp; omega)))) (HSW.out.below (by repeat (first | with_reducible (first | exact bA .. | assumption | exact bJ .. | exact bK .. | exact bL .. | exact bM .. | exact bN .. | refine bB ?_ | refine bC ?_ _ | refine bD _ _ ?_ | refine bE _ ?_ | refine bF ?_ ?_ _ | refine bG ?_ ?_ _ | refine bH _ _ _ ?_ ?_) | omega | (simp; done) | (simp; omega))))).mono ?_); rintro e w3 ⟨nv, sv, vv, rfl, hn3, hs3, hv3, hb3⟩; obtain ⟨A7, c7, rfl, _⟩ := hn3.form; obtain ⟨A8, c8, rfl, _⟩ := hs3.form; obtain ⟨A9, c9, rfl, _⟩ := hv3.form; obtain ⟨ext3, d3, rfl⟩ := Below.grown_eq _ hb3; have HN3 := Lib.hid hn3; have HS3 := Lib.hid hs3; clear hn3 hs3 hv3 hb3)
          refine hK.out _ _ ?gT1_16 (fun hHeld => ?_)
          case gT1_16 => ((try dsimp only); (refine ⟨?_, ?_, ?_, ?_, ?_, ?_, ?_, ?_, ?_, ?_⟩ <;> go_simp))
          clear hK K
          try simp only [Act.put, zA, zB, zC]
          (refine wpE_takeP (i := 6) (v := ?gV1_17) (by simp only [zD]; rfl) (by kernel_rfl) (by kernel_rfl) (by kernel_rfl) (by rfl) (fun _ _ _ h => h) (Or.inl ⟨by rfl, ?gY1_17⟩) (by assumption) ?gR1_17; case gY1_17 => (intro w hSw; (try dsimp only at hSw); go_simp <;> with_reducible rfl))
          try simp only [Act.put, zA, zB, zC]
          (refine wpE_takeP (i := 7) (v := ?gV1_18) (by simp only [zD]; rfl) (by kernel_rfl) (by kernel_rfl) (by kernel_rfl) (by rfl) (fun _ _ _ h => h) (Or.inl ⟨by rfl, ?gY1_18⟩) (by assumption) ?gR1_18; case gY1_18 => (intro w hSw; (try dsimp only at hSw); go_simp <;> with_reducible rfl))
          try simp only [Act.put, zA, zB, zC]
          (refine wpE_takeP (i := 8) (v := ?gV1_19) (by simp only [zD]; rfl) (by kernel_rfl) (by kernel_rfl) (by kernel_rfl) (by rfl) (fun _ _ _ h => h) (Or.inl ⟨by rfl, ?gY1_19⟩) (by assumption) ?gR1_19; case gY1_19 => (intro w hSw; (try dsimp only at hSw); go_simp <;> with_reducible rfl))
          try simp only [Act.put, zA, zB, zC]
          (refine wpE_takeP (i := 9) (v := ?gV1_20) (by simp only [zD]; rfl) (by kernel_rfl) (by kernel_rfl) (by kernel_rfl) (by rfl) (fun _ _ _ h => h) (Or.inl ⟨by rfl, ?gY1_20⟩) (by assumption) ?gR1_20; case gY1_20 => (intro w hSw; (try dsimp only at hSw); go_simp <;> with_reducible rfl))
          try simp only [Act.put, zA, zB, zC]
          refine wpE_ready (rs := [11]) (by kernel_rfl) (by simp) ?_
          refine AllE.last (by simp only [zD]; rfl) (by kernel_rfl) (fun K hK => ?_) AllE.nil
          go_simp
          refine hK.out _ _ ?_
          clear hK K
          try simp only [Act.put, zA, zB, zC]
          (refine wpE_takeQ (i := 12) (v := ?gV1_22) (by simp only [zD]; rfl) (by kernel_rfl) (by kernel_rfl) (by kernel_rfl) (by rfl) (fun _ _ _ h => h) (Or.inl ⟨by rfl, ?gY1_22⟩) (by kernel_rfl) ?gR1_22; case gY1_22 => (intro w hSw; (try dsimp only at hSw); go_simp <;> with_reducible rfl))
          try simp only [Act.put, zA, zB, zC]
          (refine wpE_takeQ (i := 13) (v := ?gV1_23) (by simp only [zD]; rfl) (by kernel_rfl) (by kernel_rfl) (by kernel_rfl) (by rfl) (fun _ _ _ h => h) (Or.inl ⟨by rfl, ?gY1_23⟩) (by kernel_rfl) ?gR1_23; case gY1_23 => (intro w hSw; (try dsimp only at hSw); go_simp <;> with_reducible rfl))
          try simp only [Act.put, zA, zB, zC]
          refine wpE_done (by kernel_rfl) ?_ _
          refine NoPanic.normal ?_
          go_wp2_with fail
          go_meet
          refine ⟨_, A7, c7, A8, c8, _, rfl, rfl, rfl, ?_, ?_, Lib.hid ?b1_23, Lib.hid ?n1_23, Lib.hid ?s1_23⟩
          · first | omega | (simp <;> omega)
          · exact Below.own hW1W (by repeat (first | with_reducible (first | exact bA .. | assumption | exact bJ .. | exact bK .. | exact bL .. | exact bM .. | exact bN .. | refine bB ?_ | refine bC ?_ _ | refine bD _ _ ?_ | refine bE _ ?_ | refine bF ?_ ?_ _ | refine bG ?_ ?_ _ | refine bH _ _ _ ?_ ?_) | omega | (simp; done) | (simp; omega)))
          case b1_23 => first | exact Bk.new _ _ _ (by simp [hWs1]) | exact (Bk.new W _ _ hWs1.symm).below (by repeat (first | with_reducible (first | exact bA .. | assumption | exact bJ .. | exact bK .. | exact bL .. | exact bM .. | exact bN .. | refine bB ?_ | refine bC ?_ _ | refine bD _ _ ?_ | refine bE _ ?_ | refine bF ?_ ?_ _ | refine bG ?_ ?_ _ | refine bH _ _ _ ?_ ?_) | omega | (simp; done) | (simp; omega))) | exact (Bk.new (grow W ext3 d3) _ _ (by simp [hWs1])).below (by repeat (first | with_reducible (first | exact bA .. | assumption | exact bJ .. | exact bK .. | exact bL .. | exact bM .. | exact bN .. | refine bB ?_ | refine bC ?_ _ | refine bD _ _ ?_ | refine bE _ ?_ | refine bF ?_ ?_ _ | refine bG ?_ ?_ _ | refine bH _ _ _ ?_ ?_) | omega | (simp; done) | (simp; omega)))
          case n1_23 =>
            refine Ow.mono (Ow.moved (W' := ?w91_23) (d' := ?x91_23) HN3.out (Nat.le_refl _) ?b91_23 ?z91_23) (by first | omega | (simp <;> omega))
            case b91_23 => exact (by repeat (first | with_reducible (first | exact bA .. | assumption | exact bJ .. | exact bK .. | exact bL .. | exact bM .. | exact bN .. | refine bB ?_ | refine bC ?_ _ | refine bD _ _ ?_ | refine bE _ ?_ | refine bF ?_ ?_ _ | refine bG ?_ ?_ _ | refine bH _ _ _ ?_ ?_) | omega | (simp; done) | (simp; omega)))
            case z91_23 => simp
          case s1_23 =>
            refine Ow.mono (Ow.moved (W' := ?w81_23) (d' := ?x81_23) HS3.out (Nat.le_refl _) ?b81_23 ?z81_23) (by first | omega | (simp <;> omega))
            case b81_23 => exact (by repeat (first | with_reducible (first | exact bA .. | assumption | exact bJ .. | exact bK .. | exact bL .. | exact bM .. | exact bN .. | refine bB ?_ | refine bC ?_ _ | refine bD _ _ ?_ | refine bE _ ?_ | refine bF ?_ ?_ _ | refine bG ?_ ?_ _ | refine bH _ _ _ ?_ ?_) | omega | (simp; done) | (simp; omega)))
            case z81_23 => simp
        exact AllE.nil
      case rest =>
        obtain ⟨gn, A1, e1, A2, e2, vv, rfl, rfl, rfl, hgn, hbx, HBN, HNN, HNS⟩ := hcut
        obtain ⟨W14, rfl⟩ : ∃ W, W = wc := ⟨_, rfl⟩
        have HP14 := Lib.hid (hP.out.below hbx)
        have HM14 := Lib.hid (hM.out.below hbx)
        have HN14 := Lib.hid (hN.out.below hbx)
        have HI14 := Lib.hid (hI.out.below hbx)
        have HK14 := Lib.hid (hK.out.below hbx)
        clear hP hM hN hI hK hbx d0 d1 d2 x0 x1 x2 x3 x4 x5 x6 hNr hSr HAP
        have n0 : W14.cell? ⟨gn, 0, none⟩ = some (.int .i64 T'.zxid) := HBN.out.cell 0
        have n1 : W14.cell? ⟨gn, 1, none⟩ = some (.slice A1 T'.nodes.length e1) := HBN.out.cell 1
        have n2 : W14.cell? ⟨gn, 2, none⟩ = some (.slice A2 T'.sess.length e2) := HBN.out.cell 2
        have d0 : W14.cell? ⟨bt, 0, none⟩ = some (.int .i64 Tk.zxid) := HP14.out.box.cell 0
        have d1 : W14.cell? ⟨bt, 1, none⟩ = some (.slice Bn Tk.nodes.length bn) := HP14.out.box.cell 1
        have d2 : W14.cell? ⟨bt, 2, none⟩ = some (.slice Bs Tk.sess.length bs) := HP14.out.box.cell 2
        have f0 := HP14.out.box.frozen 0
        have f1 := HP14.out.box.frozen 1
        have f2 := HP14.out.box.frozen 2
        go_upto_region 15 with fail
        refine gen_w (fun W15 hW15 => ?_)
        have hsw : Swap (fun q => q = bt) W14 W15 := by
          rw [hW15.out]
          exact (((Swap.refl (fun q => q = bt) W14).set bt 0 _ rfl).set bt 1 _ rfl).set bt 2 _ rfl
        have HP15 : Hid (Pl w bt W15 T' (.slice A1 T'.nodes.length e1) (.slice A2 T'.sess.length e2) (.slice none 0 0) []) := Lib.hid (by
          rw [hW15.out]
          exact HP14.out.put HNN.out HNS.out)
        have HK15 : Hid (Bk W15 gA [.bool SA.up, .slice va1 SA.disk.length vb1, .int .i64 SA.id, .int .i64 SA.epoch, .slice va2 SA.log.length vb2, .int .i64 m.length, .int .i64 SA.tz, .slice va3 SA.nodes.length vb3, .slice va4 SA.sess.length vb4, .slice va5 SA.watches.length vb5] 36) := Lib.hid (by
          rw [hW15.out]
          exact ((HK14.out.far hgAb).far hgAb).far hgAb)
        have HM15 := Lib.hid (HM14.out.swap hsw)
        have HN15 := Lib.hid (HN14.out.swap hsw)
        have HI15 := Lib.hid (HI14.out.swap hsw)
        clear hW15 hsw HP14 HK14 HM14 HN14 HI14 HBN HNN HNS n0 n1 n2 d0 d1 d2 f0 f1 f2
        go_wp2_with fail
        go_roundw
        case rel => exact ⟨k + 1, _, _, by omega, by go_num, Lib.hid (by rw [HST.out]; exact HP15.out), HM15, HN15, HI15, HK15⟩
        case measure => exact measK hlt
    · obtain rfl : k = m.length := by omega
      have hP2 := hP.out
      rw [List.take_length, HRUN.out, ← HTR.out] at hP2
      dsimp only at hP2
      have HP2 := Lib.hid hP2
      clear hP hP2 hlt hk
      have hi1 : (decide ((m.length : Int) < (m.length : Int))) = false := decide_eq_false (by omega)
      have d0 : wr.cell? ⟨bt, 0, none⟩ = some (.int .i64 SA.tz) := HP2.out.box.cell 0
      have d1 : wr.cell? ⟨bt, 1, none⟩ = some (.slice Bn SA.nodes.length bn) := HP2.out.box.cell 1
      have d2 : wr.cell? ⟨bt, 2, none⟩ = some (.slice Bs SA.sess.length bs) := HP2.out.box.cell 2
      have a6 : wr.cell? ⟨gA, 6, none⟩ = some (.int .i64 SA.tz) := hK.out.cell 6
      have a7 : wr.cell? ⟨gA, 7, none⟩ = some (.slice va3 SA.nodes.length vb3) := hK.out.cell 7
      have a8 : wr.cell? ⟨gA, 8, none⟩ = some (.slice va4 SA.sess.length vb4) := hK.out.cell 8
      have hn1 := Lib.hid HP2.out.nod.sl
      have hs1 := Lib.hid HP2.out.ses.sl
      have hn2 := Lib.hid hN.out.1
      have hs2 := Lib.hid hI.out.1
      have HBL := Lib.hid HP2.out.bel
      clear HP2 hN hI hK hM
      go_wp2_with (go_at_call 10; (with_reducible refine (HSMT.out _ _ _ _ _ hn1.out hs1.out hn2.out hs2.out (by omega) (by omega)).mono ?_); rintro e w20 ⟨rfl, hb20⟩; have HB20 := Lib.hid hb20; clear hb20)
      go_ret
      exact ⟨rfl, HBL.out.trans (HB20.out.mono HBL.out.size)⟩
end Go.Proofs.YtchgpijfebilbaaGreatDoor
