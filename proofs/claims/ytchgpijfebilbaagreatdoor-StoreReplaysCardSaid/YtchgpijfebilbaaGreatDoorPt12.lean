/- Lemmas for the statement: Prep, CommitD, Fire4. -/
import Derived.Test.YtchgpijfebilbaaGreatDoorPt1
import Derived.Test.YtchgpijfebilbaaGreatDoorPt2
import Derived.Test.YtchgpijfebilbaaGreatDoorPt3
import Derived.Test.YtchgpijfebilbaaGreatDoorPt4
import Derived.Test.YtchgpijfebilbaaGreatDoorPt5
import Derived.Test.YtchgpijfebilbaaGreatDoorPt6
import Derived.Test.YtchgpijfebilbaaGreatDoorPt7
import Derived.Test.YtchgpijfebilbaaGreatDoorPt8
import Derived.Test.YtchgpijfebilbaaGreatDoorPt9
import Derived.Test.YtchgpijfebilbaaGreatDoorPt10
import Derived.Test.YtchgpijfebilbaaGreatDoorPt11
/- package prep: Prepare. -/
namespace Go.Proofs.YtchgpijfebilbaaGreatDoor
open Go.RowKit Go.ChangeShapes Go.WideShapes Go.ChangeAt
theorem Bk.belowB {w w' : World} {B g : Nat} {cs : List Value} {t : TypeId} (h : Bk w g cs t) (hb : Below B w w') (hg : g < B) : Bk w' g cs t := (hb.block g hg).trans h
theorem joinR_size (d n : ByteArray) : (joinR d n).1.size ≤ 200 := by
  by_cases h : (joinR d n).2 = 0
  · obtain ⟨_, _, h3, h4⟩ := join_parts h
    rw [h4]
    exact h3
  · rw [joinR_not h]
    exact Nat.zero_le _
theorem creR_size (t : Tr) (r : Request) : (creR t r).1.size ≤ r.path.size + 200 := by
  unfold creR seqR
  split
  · exact Nat.zero_le _
  · split
    · exact Nat.zero_le _
    · split
      · exact Nat.zero_le _
      · split
        · split
          · split
            · exact Nat.zero_le _
            · exact Nat.le_trans (joinR_size _ _) (by omega)
          · exact Nat.zero_le _
        · exact Nat.le_add_right _ _
def PrepIs (t : Tr) (zz : Int) (r : Request) (w : World) (e : Ending) (w' : World) : Prop := e = .returned (.tuple #[txnV (prepX t zz r), .int .i64 (prepE t zz r)]) ∧ Below w.heap.size w w'
set_option maxHeartbeats 2000000 in
theorem trPrepare_no (z : Int) (v v2 : Value) (l : List Node) (ss : List Int) (zz : Int) (r : Request) (w : World) (h : Sl cNode 9 w v l) (h2 : Sl cInt 1 w v2 ss) (hn : l.length * 88 ≤ 140737488355328) (hn2 : ss.length * 8 ≤ 140737488355328) (hz : ∀ n ∈ l, n.path.size ≤ 9223372036854775807)
    (ha : asked ⟨z, l, ss⟩ zz r = false) :
    Calls Tryz.prog 14 #[.agg #[.int .i64 z, v, v2], .int .i64 zz, reqV r] w (PrepIs ⟨z, l, ss⟩ zz r w) := by
  obtain ⟨A, c, rfl, h1, h1b⟩ := h.form
  obtain ⟨A2, c2, rfl, h3, h3b⟩ := h2.form
  have HV := Lib.hid h
  have HS := Lib.hid h2
  clear h h2
  have hE : prepE ⟨z, l, ss⟩ zz r = 3 := by unfold prepE; rw [ha]; rfl
  unfold PrepIs
  rw [prepX_no (by rw [hE]; decide), hE]
  clear hE
  have HG := Lib.hid (fun (W : World) (h : Sl cNode 9 W (.slice A l.length c) l) (h2 : Sl cInt 1 W (.slice A2 ss.length c2) ss) => trGood z (.slice A l.length c) (.slice A2 ss.length c2) l ss W h h2 (by omega) hz)
  obtain ⟨ro, rs, rp, rd, rv, rf⟩ := r
  unfold asked at ha
  simp only at ha
  cases hg : goodTree ⟨z, l, ss⟩ with
  | false =>
    rw [hg] at HG
    clear ha hg
    go_enter Tryz.func14, Tryz.ntmps14
    go_wp2_with (go_at_call 29; refine (HG.out _ (HV.out.below (by repeat (first | with_reducible (first | exact bA .. | assumption | exact bJ .. | exact bK .. | exact bL .. | exact bM .. | exact bN .. | refine bB ?_ | refine bC ?_ _ | refine bD _ _ ?_ | refine bE _ ?_ | refine bF ?_ ?_ _ | refine bG ?_ ?_ _ | refine bH _ _ _ ?_ ?_) | omega | (simp; done) | (simp; omega)))) (HS.out.below (by repeat (first | with_reducible (first | exact bA .. | assumption | exact bJ .. | exact bK .. | exact bL .. | exact bM .. | exact bN .. | refine bB ?_ | refine bC ?_ _ | refine bD _ _ ?_ | refine bE _ ?_ | refine bF ?_ ?_ _ | refine bG ?_ ?_ _ | refine bH _ _ _ ?_ ?_) | omega | (simp; done) | (simp; omega))))).mono ?_; rintro e w1 ⟨rfl, hb⟩; obtain ⟨ext1, d1, rfl⟩ := Below.grown_eq _ hb; clear hb)
    refine bodyPost_ret (v := .tuple #[txnV noTxn, .int .i64 3]) (by simp [results, Tryz.results14, go_sem]) rfl ⟨rfl, (by repeat (first | with_reducible (first | exact bA .. | assumption | exact bJ .. | exact bK .. | exact bL .. | exact bM .. | exact bN .. | refine bB ?_ | refine bC ?_ _ | refine bD _ _ ?_ | refine bE _ ?_ | refine bF ?_ ?_ _ | refine bG ?_ ?_ _ | refine bH _ _ _ ?_ ?_) | omega | (simp; done) | (simp; omega)))⟩
  | true =>
    rw [hg] at HG ha
    by_cases c1 : Zx zz
    · have HZ := Lib.hid (fun (W : World) => zgood_yes zz W c1)
      by_cases c2 : rs < 1
      · have e1 : decide (rs < 1) = true := decide_eq_true c2
        clear ha hg c1 c2
        go_enter Tryz.func14, Tryz.ntmps14
        go_wp2_with (first | (go_at_call 29; refine (HG.out _ (HV.out.below (by repeat (first | with_reducible (first | exact bA .. | assumption | exact bJ .. | exact bK .. | exact bL .. | exact bM .. | exact bN .. | refine bB ?_ | refine bC ?_ _ | refine bD _ _ ?_ | refine bE _ ?_ | refine bF ?_ ?_ _ | refine bG ?_ ?_ _ | refine bH _ _ _ ?_ ?_) | omega | (simp; done) | (simp; omega)))) (HS.out.below (by repeat (first | with_reducible (first | exact bA .. | assumption | exact bJ .. | exact bK .. | exact bL .. | exact bM .. | exact bN .. | refine bB ?_ | refine bC ?_ _ | refine bD _ _ ?_ | refine bE _ ?_ | refine bF ?_ ?_ _ | refine bG ?_ ?_ _ | refine bH _ _ _ ?_ ?_) | omega | (simp; done) | (simp; omega))))).mono ?_; rintro e w1 ⟨rfl, hb⟩; obtain ⟨ext1, d1, rfl⟩ := Below.grown_eq _ hb; clear hb) | (go_at_call 30; refine (HZ.out _).mono ?_; rintro e w1 ⟨rfl, rfl⟩; skip))
        refine bodyPost_ret (v := .tuple #[txnV noTxn, .int .i64 3]) (by simp [results, Tryz.results14, go_sem]) rfl ⟨rfl, (by repeat (first | with_reducible (first | exact bA .. | assumption | exact bJ .. | exact bK .. | exact bL .. | exact bM .. | exact bN .. | refine bB ?_ | refine bC ?_ _ | refine bD _ _ ?_ | refine bE _ ?_ | refine bF ?_ ?_ _ | refine bG ?_ ?_ _ | refine bH _ _ _ ?_ ?_) | omega | (simp; done) | (simp; omega)))⟩
      · have e1 : decide (rs < 1) = false := decide_eq_false c2
        have e2 : decide (2147483647 < rs) = true := by
          refine decide_eq_true (Classical.byContradiction fun e => ?_)
          unfold Zx at c1
          rw [decide_eq_true (by omega)] at ha
          exact absurd ha (by decide)
        clear ha hg c1 c2
        go_enter Tryz.func14, Tryz.ntmps14
        go_wp2_with (first | (go_at_call 29; refine (HG.out _ (HV.out.below (by repeat (first | with_reducible (first | exact bA .. | assumption | exact bJ .. | exact bK .. | exact bL .. | exact bM .. | exact bN .. | refine bB ?_ | refine bC ?_ _ | refine bD _ _ ?_ | refine bE _ ?_ | refine bF ?_ ?_ _ | refine bG ?_ ?_ _ | refine bH _ _ _ ?_ ?_) | omega | (simp; done) | (simp; omega)))) (HS.out.below (by repeat (first | with_reducible (first | exact bA .. | assumption | exact bJ .. | exact bK .. | exact bL .. | exact bM .. | exact bN .. | refine bB ?_ | refine bC ?_ _ | refine bD _ _ ?_ | refine bE _ ?_ | refine bF ?_ ?_ _ | refine bG ?_ ?_ _ | refine bH _ _ _ ?_ ?_) | omega | (simp; done) | (simp; omega))))).mono ?_; rintro e w1 ⟨rfl, hb⟩; obtain ⟨ext1, d1, rfl⟩ := Below.grown_eq _ hb; clear hb) | (go_at_call 30; refine (HZ.out _).mono ?_; rintro e w1 ⟨rfl, rfl⟩; skip))
        refine bodyPost_ret (v := .tuple #[txnV noTxn, .int .i64 3]) (by simp [results, Tryz.results14, go_sem]) rfl ⟨rfl, (by repeat (first | with_reducible (first | exact bA .. | assumption | exact bJ .. | exact bK .. | exact bL .. | exact bM .. | exact bN .. | refine bB ?_ | refine bC ?_ _ | refine bD _ _ ?_ | refine bE _ ?_ | refine bF ?_ ?_ _ | refine bG ?_ ?_ _ | refine bH _ _ _ ?_ ?_) | omega | (simp; done) | (simp; omega)))⟩
    · have HZ := Lib.hid (fun (W : World) => zgood_no zz W c1)
      clear ha hg c1
      go_enter Tryz.func14, Tryz.ntmps14
      go_wp2_with (first | (go_at_call 29; refine (HG.out _ (HV.out.below (by repeat (first | with_reducible (first | exact bA .. | assumption | exact bJ .. | exact bK .. | exact bL .. | exact bM .. | exact bN .. | refine bB ?_ | refine bC ?_ _ | refine bD _ _ ?_ | refine bE _ ?_ | refine bF ?_ ?_ _ | refine bG ?_ ?_ _ | refine bH _ _ _ ?_ ?_) | omega | (simp; done) | (simp; omega)))) (HS.out.below (by repeat (first | with_reducible (first | exact bA .. | assumption | exact bJ .. | exact bK .. | exact bL .. | exact bM .. | exact bN .. | refine bB ?_ | refine bC ?_ _ | refine bD _ _ ?_ | refine bE _ ?_ | refine bF ?_ ?_ _ | refine bG ?_ ?_ _ | refine bH _ _ _ ?_ ?_) | omega | (simp; done) | (simp; omega))))).mono ?_; rintro e w1 ⟨rfl, hb⟩; obtain ⟨ext1, d1, rfl⟩ := Below.grown_eq _ hb; clear hb) | (go_at_call 30; refine (HZ.out _).mono ?_; rintro e w1 ⟨rfl, rfl⟩; skip))
      refine bodyPost_ret (v := .tuple #[txnV noTxn, .int .i64 3]) (by simp [results, Tryz.results14, go_sem]) rfl ⟨rfl, (by repeat (first | with_reducible (first | exact bA .. | assumption | exact bJ .. | exact bK .. | exact bL .. | exact bM .. | exact bN .. | refine bB ?_ | refine bC ?_ _ | refine bD _ _ ?_ | refine bE _ ?_ | refine bF ?_ ?_ _ | refine bG ?_ ?_ _ | refine bH _ _ _ ?_ ?_) | omega | (simp; done) | (simp; omega)))⟩
set_option maxHeartbeats 2000000 in
theorem trPrepare_yes (z : Int) (v v2 : Value) (l : List Node) (ss : List Int) (zz : Int) (r : Request) (w : World) (h : Sl cNode 9 w v l) (h2 : Sl cInt 1 w v2 ss) (hn : l.length * 88 ≤ 140737488355328) (hn2 : ss.length * 8 ≤ 140737488355320) (hz : ∀ n ∈ l, n.path.size ≤ 9223372036854775807) (hp : r.path.size ≤ 4611686018427387904)
    (ha : asked ⟨z, l, ss⟩ zz r = true) :
    Calls Tryz.prog 14 #[.agg #[.int .i64 z, v, v2], .int .i64 zz, reqV r] w (PrepIs ⟨z, l, ss⟩ zz r w) := by
  obtain ⟨A, c, rfl, h1, h1b⟩ := h.form
  obtain ⟨A2, c2, rfl, h3, h3b⟩ := h2.form
  have HV := Lib.hid h
  have HS := Lib.hid h2
  clear h h2
  have HA := Lib.hid ha
  have HG := Lib.hid (fun (W : World) (h : Sl cNode 9 W (.slice A l.length c) l) (h2 : Sl cInt 1 W (.slice A2 ss.length c2) ss) => trGood z (.slice A l.length c) (.slice A2 ss.length c2) l ss W h h2 (by omega) hz)
  have HVS := Lib.hid (fun (W : World) (h : Sl cNode 9 W (.slice A l.length c) l) (h2 : Sl cInt 1 W (.slice A2 ss.length c2) ss) => trVersion z (.slice A l.length c) (.slice A2 ss.length c2) l ss r W h h2 (by omega) (by omega) (by omega))
  have HCR := Lib.hid (fun (bx : Nat) (W : World) (hB : Below w.heap.size w W) (hbx : w.heap.size ≤ bx) hk => trCreate z (.slice A l.length c) (.slice A2 ss.length c2) l ss r zz r.op r.session bx w W HV.out HS.out hB hbx hk (by omega) (by omega) (by omega))
  have hcz := creR_size ⟨z, l, ss⟩ r
  have HVR := Lib.hid (fun hg => versR_range (t := ⟨z, l, ss⟩) hg r)
  unfold asked at ha
  rw [Bool.and_eq_true, decide_eq_true_iff] at ha
  obtain ⟨g1, g2, g3, g4, g5⟩ := ha
  rw [g1] at HG
  have hvr := HVR.out g1
  clear HVR
  have HZ := Lib.hid (fun (W : World) => zgood_yes zz W ⟨g2, g3⟩)
  have e1 : decide (r.session < 1) = false := decide_eq_false (by omega)
  have e2 : decide (2147483647 < r.session) = false := decide_eq_false (by omega)
  obtain ⟨ro, rs, rp, rd, rv, rf⟩ := r
  simp only at *
  clear g1 g2 g3 g4 g5
  go_enter Tryz.func14, Tryz.ntmps14
  go_upto_region 4 with (first | (go_at_call 29; refine (HG.out _ (HV.out.below (by repeat (first | with_reducible (first | exact bA .. | assumption | exact bJ .. | exact bK .. | exact bL .. | exact bM .. | exact bN .. | refine bB ?_ | refine bC ?_ _ | refine bD _ _ ?_ | refine bE _ ?_ | refine bF ?_ ?_ _ | refine bG ?_ ?_ _ | refine bH _ _ _ ?_ ?_) | omega | (simp; done) | (simp; omega)))) (HS.out.below (by repeat (first | with_reducible (first | exact bA .. | assumption | exact bJ .. | exact bK .. | exact bL .. | exact bM .. | exact bN .. | refine bB ?_ | refine bC ?_ _ | refine bD _ _ ?_ | refine bE _ ?_ | refine bF ?_ ?_ _ | refine bG ?_ ?_ _ | refine bH _ _ _ ?_ ?_) | omega | (simp; done) | (simp; omega))))).mono ?_; rintro e w1 ⟨rfl, hb⟩; obtain ⟨ext1, d1, rfl⟩ := Below.grown_eq _ hb; clear hb) | (go_at_call 30; refine (HZ.out _).mono ?_; rintro e w1 ⟨rfl, rfl⟩; skip))
  refine gen_w (fun wa hwa => ?_)
  have hbwa : Below w.heap.size w wa := by rw [hwa.out]; exact (by repeat (first | with_reducible (first | exact bA .. | assumption | exact bJ .. | exact bK .. | exact bL .. | exact bM .. | exact bN .. | refine bB ?_ | refine bC ?_ _ | refine bD _ _ ?_ | refine bE _ ?_ | refine bF ?_ ?_ _ | refine bG ?_ ?_ _ | refine bH _ _ _ ?_ ?_) | omega | (simp; done) | (simp; omega)))
  have hla : w.heap.size + 1 + 1 + 1 + ext1.size < wa.heap.size := by rw [hwa.out]; simp <;> omega
  have HP6 := Lib.hid (show Bk wa (w.heap.size + 1 + 1) [.int .i64 0, .int .i64 0, .int .i64 0, .string ⟨#[]⟩, .string ⟨#[]⟩, .int .i64 0, .int .i64 0] 53 from hwa.out ▸ ((Bk.new (((w.alloc (.cells #[.int .i64 z, .slice A l.length c, .slice A2 ss.length c2] 34)).alloc (.cells #[.int .i64 ro, .int .i64 rs, .string rp, .string rd, .int .i64 rv, .int .i64 rf] 58))) _ _ (by simp)).below (by repeat (first | with_reducible (first | exact bA .. | assumption | exact bJ .. | exact bK .. | exact bL .. | exact bM .. | exact bN .. | refine bB ?_ | refine bC ?_ _ | refine bD _ _ ?_ | refine bE _ ?_ | refine bF ?_ ?_ _ | refine bG ?_ ?_ _ | refine bH _ _ _ ?_ ?_) | omega | (simp; done) | (simp; omega)))))
  have HR5 := Lib.hid (show Bk wa (w.heap.size + 1) [.int .i64 ro, .int .i64 rs, .string rp, .string rd, .int .i64 rv, .int .i64 rf] 58 from hwa.out ▸ ((Bk.new (w.alloc (.cells #[.int .i64 z, .slice A l.length c, .slice A2 ss.length c2] 34)) _ _ (by simp)).below (by repeat (first | with_reducible (first | exact bA .. | assumption | exact bJ .. | exact bK .. | exact bL .. | exact bM .. | exact bN .. | refine bB ?_ | refine bC ?_ _ | refine bD _ _ ?_ | refine bE _ ?_ | refine bF ?_ ?_ _ | refine bG ?_ ?_ _ | refine bH _ _ _ ?_ ?_) | omega | (simp; done) | (simp; omega)))))
  have HT3 := Lib.hid (show Bk wa w.heap.size [.int .i64 z, .slice A l.length c, .slice A2 ss.length c2] 34 from hwa.out ▸ ((Bk.new w _ _ rfl).below (by repeat (first | with_reducible (first | exact bA .. | assumption | exact bJ .. | exact bK .. | exact bL .. | exact bM .. | exact bN .. | refine bB ?_ | refine bC ?_ _ | refine bD _ _ ?_ | refine bE _ ?_ | refine bF ?_ ?_ _ | refine bG ?_ ?_ _ | refine bH _ _ _ ?_ ?_) | omega | (simp; done) | (simp; omega)))))
  have HB0 := Lib.hid (show Bk wa (w.heap.size + 1 + 1 + 1 + ext1.size) [.int .i64 zz, .int .i64 ro, .int .i64 rs, .string ⟨#[]⟩, .string ⟨#[]⟩, .int .i64 0, .int .i64 0] 53 from hwa.out ▸ (Bk.new _ _ _ (by simp)))
  have hbl : w.heap.size + 1 + 1 < w.heap.size + 1 + 1 + 1 + ext1.size := by omega
  generalize w.heap.size + 1 + 1 + 1 + ext1.size = bx at *
  clear hwa HG HZ
  by_cases o1 : ro = 1 ∨ ro = 2
  · have HM := Lib.hid (made_12 ⟨z, l, ss⟩ zz (r := ⟨ro, rs, rp, rd, rv, rf⟩) o1)
    simp only at HM
    clear HVS HCR hcz
    obtain ⟨wb, rfl⟩ : ∃ wb, wb = wa := ⟨_, rfl⟩
    have hbwb := hbwa
    obtain ⟨X, hX⟩ : ∃ X : Txn, X = ⟨zz, ro, rs, ⟨#[]⟩, ⟨#[]⟩, 0, 0⟩ := ⟨_, rfl⟩
    have hxp : X.path.size ≤ 9223372036854775807 := by rw [hX]; exact Nat.zero_le _
    have HB := Lib.hid (show Bk wb bx (cTxn X) 53 from by rw [hX]; exact HB0.out)
    rw [← hX] at HM
    clear hX HB0
    have t0 : wb.cell? ⟨w.heap.size, 0, none⟩ = some (.int .i64 z) := HT3.out.cell 0
    have t1 : wb.cell? ⟨w.heap.size, 1, none⟩ = some (.slice A l.length c) := HT3.out.cell 1
    have t2 : wb.cell? ⟨w.heap.size, 2, none⟩ = some (.slice A2 ss.length c2) := HT3.out.cell 2
    have r0 : wb.cell? ⟨w.heap.size + 1, 0, none⟩ = some (.int .i64 ro) := HR5.out.cell 0
    have r1 : wb.cell? ⟨w.heap.size + 1, 1, none⟩ = some (.int .i64 rs) := HR5.out.cell 1
    have r2 : wb.cell? ⟨w.heap.size + 1, 2, none⟩ = some (.string rp) := HR5.out.cell 2
    have r3 : wb.cell? ⟨w.heap.size + 1, 3, none⟩ = some (.string rd) := HR5.out.cell 3
    have r4 : wb.cell? ⟨w.heap.size + 1, 4, none⟩ = some (.int .i64 rv) := HR5.out.cell 4
    have r5 : wb.cell? ⟨w.heap.size + 1, 5, none⟩ = some (.int .i64 rf) := HR5.out.cell 5
    have p0 : wb.cell? ⟨w.heap.size + 1 + 1, 0, none⟩ = some (.int .i64 0) := HP6.out.cell 0
    have pf0 : wb.frozen? ⟨w.heap.size + 1 + 1, 0, none⟩ = false := HP6.out.frozen 0
    have p1 : wb.cell? ⟨w.heap.size + 1 + 1, 1, none⟩ = some (.int .i64 0) := HP6.out.cell 1
    have pf1 : wb.frozen? ⟨w.heap.size + 1 + 1, 1, none⟩ = false := HP6.out.frozen 1
    have p2 : wb.cell? ⟨w.heap.size + 1 + 1, 2, none⟩ = some (.int .i64 0) := HP6.out.cell 2
    have pf2 : wb.frozen? ⟨w.heap.size + 1 + 1, 2, none⟩ = false := HP6.out.frozen 2
    have p3 : wb.cell? ⟨w.heap.size + 1 + 1, 3, none⟩ = some (.string ⟨#[]⟩) := HP6.out.cell 3
    have pf3 : wb.frozen? ⟨w.heap.size + 1 + 1, 3, none⟩ = false := HP6.out.frozen 3
    have p4 : wb.cell? ⟨w.heap.size + 1 + 1, 4, none⟩ = some (.string ⟨#[]⟩) := HP6.out.cell 4
    have pf4 : wb.frozen? ⟨w.heap.size + 1 + 1, 4, none⟩ = false := HP6.out.frozen 4
    have p5 : wb.cell? ⟨w.heap.size + 1 + 1, 5, none⟩ = some (.int .i64 0) := HP6.out.cell 5
    have pf5 : wb.frozen? ⟨w.heap.size + 1 + 1, 5, none⟩ = false := HP6.out.frozen 5
    have p6 : wb.cell? ⟨w.heap.size + 1 + 1, 6, none⟩ = some (.int .i64 0) := HP6.out.cell 6
    have pf6 : wb.frozen? ⟨w.heap.size + 1 + 1, 6, none⟩ = false := HP6.out.frozen 6
    have HAP := Lib.hid (fun (W : World) (v v2 : Value) (h : Sl cNode 9 W v l) (h2 : Sl cInt 1 W v2 ss) => trApply z v v2 l ss X W h h2 hn (by omega) hz hxp)
    unfold ApplyRes at HAP
    have HEX : Hid (prepE ⟨z, l, ss⟩ zz ⟨ro, rs, rp, rd, rv, rf⟩ = applyE ⟨z, l, ss⟩ X) := Lib.hid (by unfold prepE; rw [HA.out, if_pos rfl, HM.out, if_neg (fun e => e rfl)])
    have HXX : Hid (prepX ⟨z, l, ss⟩ zz ⟨ro, rs, rp, rd, rv, rf⟩ = if applyE ⟨z, l, ss⟩ X = 0 then X else noTxn) := Lib.hid (by unfold prepX; rw [HEX.out, HM.out])
    generalize applyT ⟨z, l, ss⟩ X = T at *
    generalize applyV ⟨z, l, ss⟩ X = V at *
    generalize applyE ⟨z, l, ss⟩ X = E at *
    clear HM HA hxp
    obtain ⟨xz, xo, xs, xp, xd, xv, xw⟩ := X
    have x0 : wb.cell? ⟨bx, 0, none⟩ = some (.int .i64 xz) := HB.out.cell 0
    have x1 : wb.cell? ⟨bx, 1, none⟩ = some (.int .i64 xo) := HB.out.cell 1
    have x2 : wb.cell? ⟨bx, 2, none⟩ = some (.int .i64 xs) := HB.out.cell 2
    have x3 : wb.cell? ⟨bx, 3, none⟩ = some (.string xp) := HB.out.cell 3
    have x4 : wb.cell? ⟨bx, 4, none⟩ = some (.string xd) := HB.out.cell 4
    have x5 : wb.cell? ⟨bx, 5, none⟩ = some (.int .i64 xv) := HB.out.cell 5
    have x6 : wb.cell? ⟨bx, 6, none⟩ = some (.int .i64 xw) := HB.out.cell 6
    have hbx2 : bx < wb.heap.size := HB.out.lt
    rcases o1 with rfl | rfl
    · go_upto_region 18 with fail
      by_cases hE : E = 0
      · rw [if_pos hE] at HXX
        subst hE
        go_wp2_with (go_at_call 13; (with_reducible refine (HAP.out _ _ _ (HV.out.below (by repeat (first | with_reducible (first | exact bA .. | assumption | exact bJ .. | exact bK .. | exact bL .. | exact bM .. | exact bN .. | refine bB ?_ | refine bC ?_ _ | refine bD _ _ ?_ | refine bE _ ?_ | refine bF ?_ ?_ _ | refine bG ?_ ?_ _ | refine bH _ _ _ ?_ ?_) | omega | (simp; done) | (simp; omega)))) (HS.out.below (by repeat (first | with_reducible (first | exact bA .. | assumption | exact bJ .. | exact bK .. | exact bL .. | exact bM .. | exact bN .. | refine bB ?_ | refine bC ?_ _ | refine bD _ _ ?_ | refine bE _ ?_ | refine bF ?_ ?_ _ | refine bG ?_ ?_ _ | refine bH _ _ _ ?_ ?_) | omega | (simp; done) | (simp; omega))))).mono ?_); rintro e w3 ⟨nv, sv, vv, rfl, hn3, hs3, hv3, hb3⟩; obtain ⟨A7, c7, rfl, _⟩ := hn3.form; obtain ⟨A8, c8, rfl, _⟩ := hs3.form; obtain ⟨A9, c9, rfl, _⟩ := hv3.form; obtain ⟨ext9, d9, rfl⟩ := Below.grown_eq _ hb3; clear hn3 hs3 hv3 hb3)
        refine gen_e (fun W9 hW9 => ?_)
        have HP9 := Lib.hid (show Bk W9 (w.heap.size + 1 + 1) [.int .i64 xz, .int .i64 xo, .int .i64 xs, .string xp, .string xd, .int .i64 xv, .int .i64 xw] 53 by rw [hW9.out]; exact Bk.below (((((((HP6.out.put 0 (.int .i64 xz)).put 1 (.int .i64 xo)).put 2 (.int .i64 xs)).put 3 (.string xp)).put 4 (.string xd)).put 5 (.int .i64 xv)).put 6 (.int .i64 xw)) (by repeat (first | with_reducible (first | exact bA .. | assumption | exact bJ .. | exact bK .. | exact bL .. | exact bM .. | exact bN .. | refine bB ?_ | refine bC ?_ _ | refine bD _ _ ?_ | refine bE _ ?_ | refine bF ?_ ?_ _ | refine bG ?_ ?_ _ | refine bH _ _ _ ?_ ?_) | omega | (simp; done) | (simp; omega))))
        have hb9 : Below w.heap.size w W9 := by rw [hW9.out]; exact (by repeat (first | with_reducible (first | exact bA .. | assumption | exact bJ .. | exact bK .. | exact bL .. | exact bM .. | exact bN .. | refine bB ?_ | refine bC ?_ _ | refine bD _ _ ?_ | refine bE _ ?_ | refine bF ?_ ?_ _ | refine bG ?_ ?_ _ | refine bH _ _ _ ?_ ?_) | omega | (simp; done) | (simp; omega)))
        clear hW9 HP6 p0 p1 p2 p3 p4 p5 p6 pf0 pf1 pf2 pf3 pf4 pf5 pf6
        have p0 : W9.cell? ⟨w.heap.size + 1 + 1, 0, none⟩ = some (.int .i64 xz) := HP9.out.cell 0
        have p1 : W9.cell? ⟨w.heap.size + 1 + 1, 1, none⟩ = some (.int .i64 xo) := HP9.out.cell 1
        have p2 : W9.cell? ⟨w.heap.size + 1 + 1, 2, none⟩ = some (.int .i64 xs) := HP9.out.cell 2
        have p3 : W9.cell? ⟨w.heap.size + 1 + 1, 3, none⟩ = some (.string xp) := HP9.out.cell 3
        have p4 : W9.cell? ⟨w.heap.size + 1 + 1, 4, none⟩ = some (.string xd) := HP9.out.cell 4
        have p5 : W9.cell? ⟨w.heap.size + 1 + 1, 5, none⟩ = some (.int .i64 xv) := HP9.out.cell 5
        have p6 : W9.cell? ⟨w.heap.size + 1 + 1, 6, none⟩ = some (.int .i64 xw) := HP9.out.cell 6
        refine bodyPost_ret (v := .tuple #[.agg #[.int .i64 xz, .int .i64 xo, .int .i64 xs, .string xp, .string xd, .int .i64 xv, .int .i64 xw], .int .i64 0]) (by simp [results, Tryz.results14, go_sem, p0, p1, p2, p3, p4, p5, p6]) rfl ?_
        unfold PrepIs
        rw [HEX.out, HXX.out]
        exact ⟨rfl, hb9⟩
      · rw [if_neg hE] at HXX
        have b8 : (E == 0) = false := beq_eq_false_iff_ne.2 hE
        have b9 : (E != 0) = true := bne_iff_ne.2 hE
        clear hE
        go_wp2_with (go_at_call 13; (with_reducible refine (HAP.out _ _ _ (HV.out.below (by repeat (first | with_reducible (first | exact bA .. | assumption | exact bJ .. | exact bK .. | exact bL .. | exact bM .. | exact bN .. | refine bB ?_ | refine bC ?_ _ | refine bD _ _ ?_ | refine bE _ ?_ | refine bF ?_ ?_ _ | refine bG ?_ ?_ _ | refine bH _ _ _ ?_ ?_) | omega | (simp; done) | (simp; omega)))) (HS.out.below (by repeat (first | with_reducible (first | exact bA .. | assumption | exact bJ .. | exact bK .. | exact bL .. | exact bM .. | exact bN .. | refine bB ?_ | refine bC ?_ _ | refine bD _ _ ?_ | refine bE _ ?_ | refine bF ?_ ?_ _ | refine bG ?_ ?_ _ | refine bH _ _ _ ?_ ?_) | omega | (simp; done) | (simp; omega))))).mono ?_); rintro e w3 ⟨nv, sv, vv, rfl, hn3, hs3, hv3, hb3⟩; obtain ⟨A7, c7, rfl, _⟩ := hn3.form; obtain ⟨A8, c8, rfl, _⟩ := hs3.form; obtain ⟨A9, c9, rfl, _⟩ := hv3.form; obtain ⟨ext9, d9, rfl⟩ := Below.grown_eq _ hb3; clear hn3 hs3 hv3 hb3)
        refine gen_e (fun W9 hW9 => ?_)
        have HP9 := Lib.hid (show Bk W9 (w.heap.size + 1 + 1) [.int .i64 0, .int .i64 0, .int .i64 0, .string ⟨#[]⟩, .string ⟨#[]⟩, .int .i64 0, .int .i64 0] 53 by rw [hW9.out]; exact Bk.below (((((((HP6.out.put 0 (.int .i64 0)).put 1 (.int .i64 0)).put 2 (.int .i64 0)).put 3 (.string ⟨#[]⟩)).put 4 (.string ⟨#[]⟩)).put 5 (.int .i64 0)).put 6 (.int .i64 0)) (by repeat (first | with_reducible (first | exact bA .. | assumption | exact bJ .. | exact bK .. | exact bL .. | exact bM .. | exact bN .. | refine bB ?_ | refine bC ?_ _ | refine bD _ _ ?_ | refine bE _ ?_ | refine bF ?_ ?_ _ | refine bG ?_ ?_ _ | refine bH _ _ _ ?_ ?_) | omega | (simp; done) | (simp; omega))))
        have hb9 : Below w.heap.size w W9 := by rw [hW9.out]; exact (by repeat (first | with_reducible (first | exact bA .. | assumption | exact bJ .. | exact bK .. | exact bL .. | exact bM .. | exact bN .. | refine bB ?_ | refine bC ?_ _ | refine bD _ _ ?_ | refine bE _ ?_ | refine bF ?_ ?_ _ | refine bG ?_ ?_ _ | refine bH _ _ _ ?_ ?_) | omega | (simp; done) | (simp; omega)))
        clear hW9 HP6 p0 p1 p2 p3 p4 p5 p6 pf0 pf1 pf2 pf3 pf4 pf5 pf6
        have p0 : W9.cell? ⟨w.heap.size + 1 + 1, 0, none⟩ = some (.int .i64 0) := HP9.out.cell 0
        have p1 : W9.cell? ⟨w.heap.size + 1 + 1, 1, none⟩ = some (.int .i64 0) := HP9.out.cell 1
        have p2 : W9.cell? ⟨w.heap.size + 1 + 1, 2, none⟩ = some (.int .i64 0) := HP9.out.cell 2
        have p3 : W9.cell? ⟨w.heap.size + 1 + 1, 3, none⟩ = some (.string ⟨#[]⟩) := HP9.out.cell 3
        have p4 : W9.cell? ⟨w.heap.size + 1 + 1, 4, none⟩ = some (.string ⟨#[]⟩) := HP9.out.cell 4
        have p5 : W9.cell? ⟨w.heap.size + 1 + 1, 5, none⟩ = some (.int .i64 0) := HP9.out.cell 5
        have p6 : W9.cell? ⟨w.heap.size + 1 + 1, 6, none⟩ = some (.int .i64 0) := HP9.out.cell 6
        refine bodyPost_ret (v := .tuple #[.agg #[.int .i64 0, .int .i64 0, .int .i64 0, .string ⟨#[]⟩, .string ⟨#[]⟩, .int .i64 0, .int .i64 0], .int .i64 E]) (by simp [results, Tryz.results14, go_sem, p0, p1, p2, p3, p4, p5, p6]) rfl ?_
        unfold PrepIs
        rw [HEX.out, HXX.out]
        exact ⟨rfl, hb9⟩
    · go_upto_region 18 with fail
      by_cases hE : E = 0
      · rw [if_pos hE] at HXX
        subst hE
        go_wp2_with (go_at_call 13; (with_reducible refine (HAP.out _ _ _ (HV.out.below (by repeat (first | with_reducible (first | exact bA .. | assumption | exact bJ .. | exact bK .. | exact bL .. | exact bM .. | exact bN .. | refine bB ?_ | refine bC ?_ _ | refine bD _ _ ?_ | refine bE _ ?_ | refine bF ?_ ?_ _ | refine bG ?_ ?_ _ | refine bH _ _ _ ?_ ?_) | omega | (simp; done) | (simp; omega)))) (HS.out.below (by repeat (first | with_reducible (first | exact bA .. | assumption | exact bJ .. | exact bK .. | exact bL .. | exact bM .. | exact bN .. | refine bB ?_ | refine bC ?_ _ | refine bD _ _ ?_ | refine bE _ ?_ | refine bF ?_ ?_ _ | refine bG ?_ ?_ _ | refine bH _ _ _ ?_ ?_) | omega | (simp; done) | (simp; omega))))).mono ?_); rintro e w3 ⟨nv, sv, vv, rfl, hn3, hs3, hv3, hb3⟩; obtain ⟨A7, c7, rfl, _⟩ := hn3.form; obtain ⟨A8, c8, rfl, _⟩ := hs3.form; obtain ⟨A9, c9, rfl, _⟩ := hv3.form; obtain ⟨ext9, d9, rfl⟩ := Below.grown_eq _ hb3; clear hn3 hs3 hv3 hb3)
        refine gen_e (fun W9 hW9 => ?_)
        have HP9 := Lib.hid (show Bk W9 (w.heap.size + 1 + 1) [.int .i64 xz, .int .i64 xo, .int .i64 xs, .string xp, .string xd, .int .i64 xv, .int .i64 xw] 53 by rw [hW9.out]; exact Bk.below (((((((HP6.out.put 0 (.int .i64 xz)).put 1 (.int .i64 xo)).put 2 (.int .i64 xs)).put 3 (.string xp)).put 4 (.string xd)).put 5 (.int .i64 xv)).put 6 (.int .i64 xw)) (by repeat (first | with_reducible (first | exact bA .. | assumption | exact bJ .. | exact bK .. | exact bL .. | exact bM .. | exact bN .. | refine bB ?_ | refine bC ?_ _ | refine bD _ _ ?_ | refine bE _ ?_ | refine bF ?_ ?_ _ | refine bG ?_ ?_ _ | refine bH _ _ _ ?_ ?_) | omega | (simp; done) | (simp; omega))))
        have hb9 : Below w.heap.size w W9 := by rw [hW9.out]; exact (by repeat (first | with_reducible (first | exact bA .. | assumption | exact bJ .. | exact bK .. | exact bL .. | exact bM .. | exact bN .. | refine bB ?_ | refine bC ?_ _ | refine bD _ _ ?_ | refine bE _ ?_ | refine bF ?_ ?_ _ | refine bG ?_ ?_ _ | refine bH _ _ _ ?_ ?_) | omega | (simp; done) | (simp; omega)))
        clear hW9 HP6 p0 p1 p2 p3 p4 p5 p6 pf0 pf1 pf2 pf3 pf4 pf5 pf6
        have p0 : W9.cell? ⟨w.heap.size + 1 + 1, 0, none⟩ = some (.int .i64 xz) := HP9.out.cell 0
        have p1 : W9.cell? ⟨w.heap.size + 1 + 1, 1, none⟩ = some (.int .i64 xo) := HP9.out.cell 1
        have p2 : W9.cell? ⟨w.heap.size + 1 + 1, 2, none⟩ = some (.int .i64 xs) := HP9.out.cell 2
        have p3 : W9.cell? ⟨w.heap.size + 1 + 1, 3, none⟩ = some (.string xp) := HP9.out.cell 3
        have p4 : W9.cell? ⟨w.heap.size + 1 + 1, 4, none⟩ = some (.string xd) := HP9.out.cell 4
        have p5 : W9.cell? ⟨w.heap.size + 1 + 1, 5, none⟩ = some (.int .i64 xv) := HP9.out.cell 5
        have p6 : W9.cell? ⟨w.heap.size + 1 + 1, 6, none⟩ = some (.int .i64 xw) := HP9.out.cell 6
        refine bodyPost_ret (v := .tuple #[.agg #[.int .i64 xz, .int .i64 xo, .int .i64 xs, .string xp, .string xd, .int .i64 xv, .int .i64 xw], .int .i64 0]) (by simp [results, Tryz.results14, go_sem, p0, p1, p2, p3, p4, p5, p6]) rfl ?_
        unfold PrepIs
        rw [HEX.out, HXX.out]
        exact ⟨rfl, hb9⟩
      · rw [if_neg hE] at HXX
        have b8 : (E == 0) = false := beq_eq_false_iff_ne.2 hE
        have b9 : (E != 0) = true := bne_iff_ne.2 hE
        clear hE
        go_wp2_with (go_at_call 13; (with_reducible refine (HAP.out _ _ _ (HV.out.below (by repeat (first | with_reducible (first | exact bA .. | assumption | exact bJ .. | exact bK .. | exact bL .. | exact bM .. | exact bN .. | refine bB ?_ | refine bC ?_ _ | refine bD _ _ ?_ | refine bE _ ?_ | refine bF ?_ ?_ _ | refine bG ?_ ?_ _ | refine bH _ _ _ ?_ ?_) | omega | (simp; done) | (simp; omega)))) (HS.out.below (by repeat (first | with_reducible (first | exact bA .. | assumption | exact bJ .. | exact bK .. | exact bL .. | exact bM .. | exact bN .. | refine bB ?_ | refine bC ?_ _ | refine bD _ _ ?_ | refine bE _ ?_ | refine bF ?_ ?_ _ | refine bG ?_ ?_ _ | refine bH _ _ _ ?_ ?_) | omega | (simp; done) | (simp; omega))))).mono ?_); rintro e w3 ⟨nv, sv, vv, rfl, hn3, hs3, hv3, hb3⟩; obtain ⟨A7, c7, rfl, _⟩ := hn3.form; obtain ⟨A8, c8, rfl, _⟩ := hs3.form; obtain ⟨A9, c9, rfl, _⟩ := hv3.form; obtain ⟨ext9, d9, rfl⟩ := Below.grown_eq _ hb3; clear hn3 hs3 hv3 hb3)
        refine gen_e (fun W9 hW9 => ?_)
        have HP9 := Lib.hid (show Bk W9 (w.heap.size + 1 + 1) [.int .i64 0, .int .i64 0, .int .i64 0, .string ⟨#[]⟩, .string ⟨#[]⟩, .int .i64 0, .int .i64 0] 53 by rw [hW9.out]; exact Bk.below (((((((HP6.out.put 0 (.int .i64 0)).put 1 (.int .i64 0)).put 2 (.int .i64 0)).put 3 (.string ⟨#[]⟩)).put 4 (.string ⟨#[]⟩)).put 5 (.int .i64 0)).put 6 (.int .i64 0)) (by repeat (first | with_reducible (first | exact bA .. | assumption | exact bJ .. | exact bK .. | exact bL .. | exact bM .. | exact bN .. | refine bB ?_ | refine bC ?_ _ | refine bD _ _ ?_ | refine bE _ ?_ | refine bF ?_ ?_ _ | refine bG ?_ ?_ _ | refine bH _ _ _ ?_ ?_) | omega | (simp; done) | (simp; omega))))
        have hb9 : Below w.heap.size w W9 := by rw [hW9.out]; exact (by repeat (first | with_reducible (first | exact bA .. | assumption | exact bJ .. | exact bK .. | exact bL .. | exact bM .. | exact bN .. | refine bB ?_ | refine bC ?_ _ | refine bD _ _ ?_ | refine bE _ ?_ | refine bF ?_ ?_ _ | refine bG ?_ ?_ _ | refine bH _ _ _ ?_ ?_) | omega | (simp; done) | (simp; omega)))
        clear hW9 HP6 p0 p1 p2 p3 p4 p5 p6 pf0 pf1 pf2 pf3 pf4 pf5 pf6
        have p0 : W9.cell? ⟨w.heap.size + 1 + 1, 0, none⟩ = some (.int .i64 0) := HP9.out.cell 0
        have p1 : W9.cell? ⟨w.heap.size + 1 + 1, 1, none⟩ = some (.int .i64 0) := HP9.out.cell 1
        have p2 : W9.cell? ⟨w.heap.size + 1 + 1, 2, none⟩ = some (.int .i64 0) := HP9.out.cell 2
        have p3 : W9.cell? ⟨w.heap.size + 1 + 1, 3, none⟩ = some (.string ⟨#[]⟩) := HP9.out.cell 3
        have p4 : W9.cell? ⟨w.heap.size + 1 + 1, 4, none⟩ = some (.string ⟨#[]⟩) := HP9.out.cell 4
        have p5 : W9.cell? ⟨w.heap.size + 1 + 1, 5, none⟩ = some (.int .i64 0) := HP9.out.cell 5
        have p6 : W9.cell? ⟨w.heap.size + 1 + 1, 6, none⟩ = some (.int .i64 0) := HP9.out.cell 6
        refine bodyPost_ret (v := .tuple #[.agg #[.int .i64 0, .int .i64 0, .int .i64 0, .string ⟨#[]⟩, .string ⟨#[]⟩, .int .i64 0, .int .i64 0], .int .i64 E]) (by simp [results, Tryz.results14, go_sem, p0, p1, p2, p3, p4, p5, p6]) rfl ?_
        unfold PrepIs
        rw [HEX.out, HXX.out]
        exact ⟨rfl, hb9⟩
  · by_cases o3 : ro = 3
    · subst o3
      have HM := Lib.hid (made_3 ⟨z, l, ss⟩ zz (r := ⟨3, rs, rp, rd, rv, rf⟩) rfl)
      unfold CreIs at HCR
      simp only at HM HCR
      clear HVS o1
      generalize creR ⟨z, l, ss⟩ ⟨3, rs, rp, rd, rv, rf⟩ = cr at *
      obtain ⟨cp, ce⟩ := cr
      generalize (if ephF rf = true then rs else 0) = eo at *
      simp only at HM HCR hcz
      obtain ⟨wi, rfl⟩ : ∃ wi, wi = wa := ⟨_, rfl⟩
      have t0 : wi.cell? ⟨w.heap.size, 0, none⟩ = some (.int .i64 z) := HT3.out.cell 0
      have t1 : wi.cell? ⟨w.heap.size, 1, none⟩ = some (.slice A l.length c) := HT3.out.cell 1
      have t2 : wi.cell? ⟨w.heap.size, 2, none⟩ = some (.slice A2 ss.length c2) := HT3.out.cell 2
      have r0 : wi.cell? ⟨w.heap.size + 1, 0, none⟩ = some (.int .i64 3) := HR5.out.cell 0
      have r1 : wi.cell? ⟨w.heap.size + 1, 1, none⟩ = some (.int .i64 rs) := HR5.out.cell 1
      have r2 : wi.cell? ⟨w.heap.size + 1, 2, none⟩ = some (.string rp) := HR5.out.cell 2
      have r3 : wi.cell? ⟨w.heap.size + 1, 3, none⟩ = some (.string rd) := HR5.out.cell 3
      have r4 : wi.cell? ⟨w.heap.size + 1, 4, none⟩ = some (.int .i64 rv) := HR5.out.cell 4
      have r5 : wi.cell? ⟨w.heap.size + 1, 5, none⟩ = some (.int .i64 rf) := HR5.out.cell 5
      have p0 : wi.cell? ⟨w.heap.size + 1 + 1, 0, none⟩ = some (.int .i64 0) := HP6.out.cell 0
      have pf0 : wi.frozen? ⟨w.heap.size + 1 + 1, 0, none⟩ = false := HP6.out.frozen 0
      have p1 : wi.cell? ⟨w.heap.size + 1 + 1, 1, none⟩ = some (.int .i64 0) := HP6.out.cell 1
      have pf1 : wi.frozen? ⟨w.heap.size + 1 + 1, 1, none⟩ = false := HP6.out.frozen 1
      have p2 : wi.cell? ⟨w.heap.size + 1 + 1, 2, none⟩ = some (.int .i64 0) := HP6.out.cell 2
      have pf2 : wi.frozen? ⟨w.heap.size + 1 + 1, 2, none⟩ = false := HP6.out.frozen 2
      have p3 : wi.cell? ⟨w.heap.size + 1 + 1, 3, none⟩ = some (.string ⟨#[]⟩) := HP6.out.cell 3
      have pf3 : wi.frozen? ⟨w.heap.size + 1 + 1, 3, none⟩ = false := HP6.out.frozen 3
      have p4 : wi.cell? ⟨w.heap.size + 1 + 1, 4, none⟩ = some (.string ⟨#[]⟩) := HP6.out.cell 4
      have pf4 : wi.frozen? ⟨w.heap.size + 1 + 1, 4, none⟩ = false := HP6.out.frozen 4
      have p5 : wi.cell? ⟨w.heap.size + 1 + 1, 5, none⟩ = some (.int .i64 0) := HP6.out.cell 5
      have pf5 : wi.frozen? ⟨w.heap.size + 1 + 1, 5, none⟩ = false := HP6.out.frozen 5
      have p6 : wi.cell? ⟨w.heap.size + 1 + 1, 6, none⟩ = some (.int .i64 0) := HP6.out.cell 6
      have pf6 : wi.frozen? ⟨w.heap.size + 1 + 1, 6, none⟩ = false := HP6.out.frozen 6
      by_cases hne : ce = 0
      · subst hne
        go_upto_region 18 with (go_at_call 31; (with_reducible refine (HCR.out bx _ (by repeat (first | with_reducible (first | exact bA .. | assumption | exact bJ .. | exact bK .. | exact bL .. | exact bM .. | exact bN .. | refine bB ?_ | refine bC ?_ _ | refine bD _ _ ?_ | refine bE _ ?_ | refine bF ?_ ?_ _ | refine bG ?_ ?_ _ | refine bH _ _ _ ?_ ?_) | omega | (simp; done) | (simp; omega))) (by omega) HB0.out).mono ?_); rintro e wb ⟨rfl, hbx3, p', d', o', hk3, hok⟩; obtain ⟨e7, e8, e9⟩ := hok rfl; rw [e7, e8, e9] at hk3; clear e7 e8 e9; have HBN := Lib.hid hk3; have HBX := Lib.hid hbx3; clear hk3 hok hbx3)
        have hbx3 := HBX.out
        clear t0 t1 t2 r0 r1 r2 r3 r4 r5 p0 p1 p2 p3 p4 p5 p6 pf0 pf1 pf2 pf3 pf4 pf5 pf6 HCR HB0
        have HT3 := Lib.hid (HT3.out.belowB (w' := wb) hbx3 (by omega))
        have HR5 := Lib.hid (HR5.out.belowB (w' := wb) hbx3 (by omega))
        have HP6 := Lib.hid (HP6.out.belowB (w' := wb) hbx3 (by omega))
        have hbwb : Below w.heap.size w wb := hbwa.trans (hbx3.mono (by omega))
        obtain ⟨X, hX⟩ : ∃ X : Txn, X = ⟨zz, 3, rs, cp, rd, 0, eo⟩ := ⟨_, rfl⟩
        have hxp : X.path.size ≤ 9223372036854775807 := by rw [hX]; show cp.size ≤ _; omega
        have HB := Lib.hid (show Bk wb bx (cTxn X) 53 from by rw [hX]; exact HBN.out)
        rw [← hX] at HM
        clear hX HBN
        have t0 : wb.cell? ⟨w.heap.size, 0, none⟩ = some (.int .i64 z) := HT3.out.cell 0
        have t1 : wb.cell? ⟨w.heap.size, 1, none⟩ = some (.slice A l.length c) := HT3.out.cell 1
        have t2 : wb.cell? ⟨w.heap.size, 2, none⟩ = some (.slice A2 ss.length c2) := HT3.out.cell 2
        have r0 : wb.cell? ⟨w.heap.size + 1, 0, none⟩ = some (.int .i64 3) := HR5.out.cell 0
        have r1 : wb.cell? ⟨w.heap.size + 1, 1, none⟩ = some (.int .i64 rs) := HR5.out.cell 1
        have r2 : wb.cell? ⟨w.heap.size + 1, 2, none⟩ = some (.string rp) := HR5.out.cell 2
        have r3 : wb.cell? ⟨w.heap.size + 1, 3, none⟩ = some (.string rd) := HR5.out.cell 3
        have r4 : wb.cell? ⟨w.heap.size + 1, 4, none⟩ = some (.int .i64 rv) := HR5.out.cell 4
        have r5 : wb.cell? ⟨w.heap.size + 1, 5, none⟩ = some (.int .i64 rf) := HR5.out.cell 5
        have p0 : wb.cell? ⟨w.heap.size + 1 + 1, 0, none⟩ = some (.int .i64 0) := HP6.out.cell 0
        have pf0 : wb.frozen? ⟨w.heap.size + 1 + 1, 0, none⟩ = false := HP6.out.frozen 0
        have p1 : wb.cell? ⟨w.heap.size + 1 + 1, 1, none⟩ = some (.int .i64 0) := HP6.out.cell 1
        have pf1 : wb.frozen? ⟨w.heap.size + 1 + 1, 1, none⟩ = false := HP6.out.frozen 1
        have p2 : wb.cell? ⟨w.heap.size + 1 + 1, 2, none⟩ = some (.int .i64 0) := HP6.out.cell 2
        have pf2 : wb.frozen? ⟨w.heap.size + 1 + 1, 2, none⟩ = false := HP6.out.frozen 2
        have p3 : wb.cell? ⟨w.heap.size + 1 + 1, 3, none⟩ = some (.string ⟨#[]⟩) := HP6.out.cell 3
        have pf3 : wb.frozen? ⟨w.heap.size + 1 + 1, 3, none⟩ = false := HP6.out.frozen 3
        have p4 : wb.cell? ⟨w.heap.size + 1 + 1, 4, none⟩ = some (.string ⟨#[]⟩) := HP6.out.cell 4
        have pf4 : wb.frozen? ⟨w.heap.size + 1 + 1, 4, none⟩ = false := HP6.out.frozen 4
        have p5 : wb.cell? ⟨w.heap.size + 1 + 1, 5, none⟩ = some (.int .i64 0) := HP6.out.cell 5
        have pf5 : wb.frozen? ⟨w.heap.size + 1 + 1, 5, none⟩ = false := HP6.out.frozen 5
        have p6 : wb.cell? ⟨w.heap.size + 1 + 1, 6, none⟩ = some (.int .i64 0) := HP6.out.cell 6
        have pf6 : wb.frozen? ⟨w.heap.size + 1 + 1, 6, none⟩ = false := HP6.out.frozen 6
        have HAP := Lib.hid (fun (W : World) (v v2 : Value) (h : Sl cNode 9 W v l) (h2 : Sl cInt 1 W v2 ss) => trApply z v v2 l ss X W h h2 hn (by omega) hz hxp)
        unfold ApplyRes at HAP
        have HEX : Hid (prepE ⟨z, l, ss⟩ zz ⟨3, rs, rp, rd, rv, rf⟩ = applyE ⟨z, l, ss⟩ X) := Lib.hid (by unfold prepE; rw [HA.out, if_pos rfl, HM.out, if_neg (fun e => e rfl)])
        have HXX : Hid (prepX ⟨z, l, ss⟩ zz ⟨3, rs, rp, rd, rv, rf⟩ = if applyE ⟨z, l, ss⟩ X = 0 then X else noTxn) := Lib.hid (by unfold prepX; rw [HEX.out, HM.out])
        generalize applyT ⟨z, l, ss⟩ X = T at *
        generalize applyV ⟨z, l, ss⟩ X = V at *
        generalize applyE ⟨z, l, ss⟩ X = E at *
        clear HM HA hxp
        obtain ⟨xz, xo, xs, xp, xd, xv, xw⟩ := X
        have x0 : wb.cell? ⟨bx, 0, none⟩ = some (.int .i64 xz) := HB.out.cell 0
        have x1 : wb.cell? ⟨bx, 1, none⟩ = some (.int .i64 xo) := HB.out.cell 1
        have x2 : wb.cell? ⟨bx, 2, none⟩ = some (.int .i64 xs) := HB.out.cell 2
        have x3 : wb.cell? ⟨bx, 3, none⟩ = some (.string xp) := HB.out.cell 3
        have x4 : wb.cell? ⟨bx, 4, none⟩ = some (.string xd) := HB.out.cell 4
        have x5 : wb.cell? ⟨bx, 5, none⟩ = some (.int .i64 xv) := HB.out.cell 5
        have x6 : wb.cell? ⟨bx, 6, none⟩ = some (.int .i64 xw) := HB.out.cell 6
        have hbx2 : bx < wb.heap.size := HB.out.lt
        by_cases hE : E = 0
        · rw [if_pos hE] at HXX
          subst hE
          go_wp2_with (go_at_call 13; (with_reducible refine (HAP.out _ _ _ (HV.out.below (by repeat (first | with_reducible (first | exact bA .. | assumption | exact bJ .. | exact bK .. | exact bL .. | exact bM .. | exact bN .. | refine bB ?_ | refine bC ?_ _ | refine bD _ _ ?_ | refine bE _ ?_ | refine bF ?_ ?_ _ | refine bG ?_ ?_ _ | refine bH _ _ _ ?_ ?_) | omega | (simp; done) | (simp; omega)))) (HS.out.below (by repeat (first | with_reducible (first | exact bA .. | assumption | exact bJ .. | exact bK .. | exact bL .. | exact bM .. | exact bN .. | refine bB ?_ | refine bC ?_ _ | refine bD _ _ ?_ | refine bE _ ?_ | refine bF ?_ ?_ _ | refine bG ?_ ?_ _ | refine bH _ _ _ ?_ ?_) | omega | (simp; done) | (simp; omega))))).mono ?_); rintro e w3 ⟨nv, sv, vv, rfl, hn3, hs3, hv3, hb3⟩; obtain ⟨A7, c7, rfl, _⟩ := hn3.form; obtain ⟨A8, c8, rfl, _⟩ := hs3.form; obtain ⟨A9, c9, rfl, _⟩ := hv3.form; obtain ⟨ext9, d9, rfl⟩ := Below.grown_eq _ hb3; clear hn3 hs3 hv3 hb3)
          refine gen_e (fun W9 hW9 => ?_)
          have HP9 := Lib.hid (show Bk W9 (w.heap.size + 1 + 1) [.int .i64 xz, .int .i64 xo, .int .i64 xs, .string xp, .string xd, .int .i64 xv, .int .i64 xw] 53 by rw [hW9.out]; exact Bk.below (((((((HP6.out.put 0 (.int .i64 xz)).put 1 (.int .i64 xo)).put 2 (.int .i64 xs)).put 3 (.string xp)).put 4 (.string xd)).put 5 (.int .i64 xv)).put 6 (.int .i64 xw)) (by repeat (first | with_reducible (first | exact bA .. | assumption | exact bJ .. | exact bK .. | exact bL .. | exact bM .. | exact bN .. | refine bB ?_ | refine bC ?_ _ | refine bD _ _ ?_ | refine bE _ ?_ | refine bF ?_ ?_ _ | refine bG ?_ ?_ _ | refine bH _ _ _ ?_ ?_) | omega | (simp; done) | (simp; omega))))
          have hb9 : Below w.heap.size w W9 := by rw [hW9.out]; exact (by repeat (first | with_reducible (first | exact bA .. | assumption | exact bJ .. | exact bK .. | exact bL .. | exact bM .. | exact bN .. | refine bB ?_ | refine bC ?_ _ | refine bD _ _ ?_ | refine bE _ ?_ | refine bF ?_ ?_ _ | refine bG ?_ ?_ _ | refine bH _ _ _ ?_ ?_) | omega | (simp; done) | (simp; omega)))
          clear hW9 HP6 p0 p1 p2 p3 p4 p5 p6 pf0 pf1 pf2 pf3 pf4 pf5 pf6
          have p0 : W9.cell? ⟨w.heap.size + 1 + 1, 0, none⟩ = some (.int .i64 xz) := HP9.out.cell 0
          have p1 : W9.cell? ⟨w.heap.size + 1 + 1, 1, none⟩ = some (.int .i64 xo) := HP9.out.cell 1
          have p2 : W9.cell? ⟨w.heap.size + 1 + 1, 2, none⟩ = some (.int .i64 xs) := HP9.out.cell 2
          have p3 : W9.cell? ⟨w.heap.size + 1 + 1, 3, none⟩ = some (.string xp) := HP9.out.cell 3
          have p4 : W9.cell? ⟨w.heap.size + 1 + 1, 4, none⟩ = some (.string xd) := HP9.out.cell 4
          have p5 : W9.cell? ⟨w.heap.size + 1 + 1, 5, none⟩ = some (.int .i64 xv) := HP9.out.cell 5
          have p6 : W9.cell? ⟨w.heap.size + 1 + 1, 6, none⟩ = some (.int .i64 xw) := HP9.out.cell 6
          refine bodyPost_ret (v := .tuple #[.agg #[.int .i64 xz, .int .i64 xo, .int .i64 xs, .string xp, .string xd, .int .i64 xv, .int .i64 xw], .int .i64 0]) (by simp [results, Tryz.results14, go_sem, p0, p1, p2, p3, p4, p5, p6]) rfl ?_
          unfold PrepIs
          rw [HEX.out, HXX.out]
          exact ⟨rfl, hb9⟩
        · rw [if_neg hE] at HXX
          have b8 : (E == 0) = false := beq_eq_false_iff_ne.2 hE
          have b9 : (E != 0) = true := bne_iff_ne.2 hE
          clear hE
          go_wp2_with (go_at_call 13; (with_reducible refine (HAP.out _ _ _ (HV.out.below (by repeat (first | with_reducible (first | exact bA .. | assumption | exact bJ .. | exact bK .. | exact bL .. | exact bM .. | exact bN .. | refine bB ?_ | refine bC ?_ _ | refine bD _ _ ?_ | refine bE _ ?_ | refine bF ?_ ?_ _ | refine bG ?_ ?_ _ | refine bH _ _ _ ?_ ?_) | omega | (simp; done) | (simp; omega)))) (HS.out.below (by repeat (first | with_reducible (first | exact bA .. | assumption | exact bJ .. | exact bK .. | exact bL .. | exact bM .. | exact bN .. | refine bB ?_ | refine bC ?_ _ | refine bD _ _ ?_ | refine bE _ ?_ | refine bF ?_ ?_ _ | refine bG ?_ ?_ _ | refine bH _ _ _ ?_ ?_) | omega | (simp; done) | (simp; omega))))).mono ?_); rintro e w3 ⟨nv, sv, vv, rfl, hn3, hs3, hv3, hb3⟩; obtain ⟨A7, c7, rfl, _⟩ := hn3.form; obtain ⟨A8, c8, rfl, _⟩ := hs3.form; obtain ⟨A9, c9, rfl, _⟩ := hv3.form; obtain ⟨ext9, d9, rfl⟩ := Below.grown_eq _ hb3; clear hn3 hs3 hv3 hb3)
          refine gen_e (fun W9 hW9 => ?_)
          have HP9 := Lib.hid (show Bk W9 (w.heap.size + 1 + 1) [.int .i64 0, .int .i64 0, .int .i64 0, .string ⟨#[]⟩, .string ⟨#[]⟩, .int .i64 0, .int .i64 0] 53 by rw [hW9.out]; exact Bk.below (((((((HP6.out.put 0 (.int .i64 0)).put 1 (.int .i64 0)).put 2 (.int .i64 0)).put 3 (.string ⟨#[]⟩)).put 4 (.string ⟨#[]⟩)).put 5 (.int .i64 0)).put 6 (.int .i64 0)) (by repeat (first | with_reducible (first | exact bA .. | assumption | exact bJ .. | exact bK .. | exact bL .. | exact bM .. | exact bN .. | refine bB ?_ | refine bC ?_ _ | refine bD _ _ ?_ | refine bE _ ?_ | refine bF ?_ ?_ _ | refine bG ?_ ?_ _ | refine bH _ _ _ ?_ ?_) | omega | (simp; done) | (simp; omega))))
          have hb9 : Below w.heap.size w W9 := by rw [hW9.out]; exact (by repeat (first | with_reducible (first | exact bA .. | assumption | exact bJ .. | exact bK .. | exact bL .. | exact bM .. | exact bN .. | refine bB ?_ | refine bC ?_ _ | refine bD _ _ ?_ | refine bE _ ?_ | refine bF ?_ ?_ _ | refine bG ?_ ?_ _ | refine bH _ _ _ ?_ ?_) | omega | (simp; done) | (simp; omega)))
          clear hW9 HP6 p0 p1 p2 p3 p4 p5 p6 pf0 pf1 pf2 pf3 pf4 pf5 pf6
          have p0 : W9.cell? ⟨w.heap.size + 1 + 1, 0, none⟩ = some (.int .i64 0) := HP9.out.cell 0
          have p1 : W9.cell? ⟨w.heap.size + 1 + 1, 1, none⟩ = some (.int .i64 0) := HP9.out.cell 1
          have p2 : W9.cell? ⟨w.heap.size + 1 + 1, 2, none⟩ = some (.int .i64 0) := HP9.out.cell 2
          have p3 : W9.cell? ⟨w.heap.size + 1 + 1, 3, none⟩ = some (.string ⟨#[]⟩) := HP9.out.cell 3
          have p4 : W9.cell? ⟨w.heap.size + 1 + 1, 4, none⟩ = some (.string ⟨#[]⟩) := HP9.out.cell 4
          have p5 : W9.cell? ⟨w.heap.size + 1 + 1, 5, none⟩ = some (.int .i64 0) := HP9.out.cell 5
          have p6 : W9.cell? ⟨w.heap.size + 1 + 1, 6, none⟩ = some (.int .i64 0) := HP9.out.cell 6
          refine bodyPost_ret (v := .tuple #[.agg #[.int .i64 0, .int .i64 0, .int .i64 0, .string ⟨#[]⟩, .string ⟨#[]⟩, .int .i64 0, .int .i64 0], .int .i64 E]) (by simp [results, Tryz.results14, go_sem, p0, p1, p2, p3, p4, p5, p6]) rfl ?_
          unfold PrepIs
          rw [HEX.out, HXX.out]
          exact ⟨rfl, hb9⟩
      · have b2 : (ce == 0) = false := beq_eq_false_iff_ne.2 hne
        have b3 : (ce != 0) = true := bne_iff_ne.2 hne
        have HEX : Hid (prepE ⟨z, l, ss⟩ zz ⟨3, rs, rp, rd, rv, rf⟩ = ce) := Lib.hid (by unfold prepE; rw [HA.out, if_pos rfl, HM.out, if_pos hne])
        have HXX : Hid (prepX ⟨z, l, ss⟩ zz ⟨3, rs, rp, rd, rv, rf⟩ = noTxn) := Lib.hid (prepX_no (by rw [HEX.out]; exact hne))
        clear HM HA
        clear hne
        go_upto_region 18 with (go_at_call 31; (with_reducible refine (HCR.out bx _ (by repeat (first | with_reducible (first | exact bA .. | assumption | exact bJ .. | exact bK .. | exact bL .. | exact bM .. | exact bN .. | refine bB ?_ | refine bC ?_ _ | refine bD _ _ ?_ | refine bE _ ?_ | refine bF ?_ ?_ _ | refine bG ?_ ?_ _ | refine bH _ _ _ ?_ ?_) | omega | (simp; done) | (simp; omega))) (by omega) HB0.out).mono ?_); rintro e wb ⟨rfl, hbx3, _⟩; have HBX := Lib.hid hbx3; clear hbx3)
        have hbx3 := HBX.out
        clear t0 t1 t2 r0 r1 r2 r3 r4 r5 p0 p1 p2 p3 p4 p5 p6 pf0 pf1 pf2 pf3 pf4 pf5 pf6 HCR HB0
        have HT3 := Lib.hid (HT3.out.belowB (w' := wb) hbx3 (by omega))
        have HR5 := Lib.hid (HR5.out.belowB (w' := wb) hbx3 (by omega))
        have HP6 := Lib.hid (HP6.out.belowB (w' := wb) hbx3 (by omega))
        have hbwb : Below w.heap.size w wb := hbwa.trans (hbx3.mono (by omega))
        have hwb2 : w.heap.size + 1 + 1 < wb.heap.size := HP6.out.lt
        have t0 : wb.cell? ⟨w.heap.size, 0, none⟩ = some (.int .i64 z) := HT3.out.cell 0
        have t1 : wb.cell? ⟨w.heap.size, 1, none⟩ = some (.slice A l.length c) := HT3.out.cell 1
        have t2 : wb.cell? ⟨w.heap.size, 2, none⟩ = some (.slice A2 ss.length c2) := HT3.out.cell 2
        have r0 : wb.cell? ⟨w.heap.size + 1, 0, none⟩ = some (.int .i64 3) := HR5.out.cell 0
        have r1 : wb.cell? ⟨w.heap.size + 1, 1, none⟩ = some (.int .i64 rs) := HR5.out.cell 1
        have r2 : wb.cell? ⟨w.heap.size + 1, 2, none⟩ = some (.string rp) := HR5.out.cell 2
        have r3 : wb.cell? ⟨w.heap.size + 1, 3, none⟩ = some (.string rd) := HR5.out.cell 3
        have r4 : wb.cell? ⟨w.heap.size + 1, 4, none⟩ = some (.int .i64 rv) := HR5.out.cell 4
        have r5 : wb.cell? ⟨w.heap.size + 1, 5, none⟩ = some (.int .i64 rf) := HR5.out.cell 5
        have p0 : wb.cell? ⟨w.heap.size + 1 + 1, 0, none⟩ = some (.int .i64 0) := HP6.out.cell 0
        have pf0 : wb.frozen? ⟨w.heap.size + 1 + 1, 0, none⟩ = false := HP6.out.frozen 0
        have p1 : wb.cell? ⟨w.heap.size + 1 + 1, 1, none⟩ = some (.int .i64 0) := HP6.out.cell 1
        have pf1 : wb.frozen? ⟨w.heap.size + 1 + 1, 1, none⟩ = false := HP6.out.frozen 1
        have p2 : wb.cell? ⟨w.heap.size + 1 + 1, 2, none⟩ = some (.int .i64 0) := HP6.out.cell 2
        have pf2 : wb.frozen? ⟨w.heap.size + 1 + 1, 2, none⟩ = false := HP6.out.frozen 2
        have p3 : wb.cell? ⟨w.heap.size + 1 + 1, 3, none⟩ = some (.string ⟨#[]⟩) := HP6.out.cell 3
        have pf3 : wb.frozen? ⟨w.heap.size + 1 + 1, 3, none⟩ = false := HP6.out.frozen 3
        have p4 : wb.cell? ⟨w.heap.size + 1 + 1, 4, none⟩ = some (.string ⟨#[]⟩) := HP6.out.cell 4
        have pf4 : wb.frozen? ⟨w.heap.size + 1 + 1, 4, none⟩ = false := HP6.out.frozen 4
        have p5 : wb.cell? ⟨w.heap.size + 1 + 1, 5, none⟩ = some (.int .i64 0) := HP6.out.cell 5
        have pf5 : wb.frozen? ⟨w.heap.size + 1 + 1, 5, none⟩ = false := HP6.out.frozen 5
        have p6 : wb.cell? ⟨w.heap.size + 1 + 1, 6, none⟩ = some (.int .i64 0) := HP6.out.cell 6
        have pf6 : wb.frozen? ⟨w.heap.size + 1 + 1, 6, none⟩ = false := HP6.out.frozen 6
        go_wp2_with fail
        refine gen_e (fun W9 hW9 => ?_)
        have HP9 := Lib.hid (show Bk W9 (w.heap.size + 1 + 1) [.int .i64 0, .int .i64 0, .int .i64 0, .string ⟨#[]⟩, .string ⟨#[]⟩, .int .i64 0, .int .i64 0] 53 by rw [hW9.out]; exact Bk.below (((((((HP6.out.put 0 (.int .i64 0)).put 1 (.int .i64 0)).put 2 (.int .i64 0)).put 3 (.string ⟨#[]⟩)).put 4 (.string ⟨#[]⟩)).put 5 (.int .i64 0)).put 6 (.int .i64 0)) (by repeat (first | with_reducible (first | exact bA .. | assumption | exact bJ .. | exact bK .. | exact bL .. | exact bM .. | exact bN .. | refine bB ?_ | refine bC ?_ _ | refine bD _ _ ?_ | refine bE _ ?_ | refine bF ?_ ?_ _ | refine bG ?_ ?_ _ | refine bH _ _ _ ?_ ?_) | omega | (simp; done) | (simp; omega))))
        have hb9 : Below w.heap.size w W9 := by rw [hW9.out]; exact (by repeat (first | with_reducible (first | exact bA .. | assumption | exact bJ .. | exact bK .. | exact bL .. | exact bM .. | exact bN .. | refine bB ?_ | refine bC ?_ _ | refine bD _ _ ?_ | refine bE _ ?_ | refine bF ?_ ?_ _ | refine bG ?_ ?_ _ | refine bH _ _ _ ?_ ?_) | omega | (simp; done) | (simp; omega)))
        clear hW9 HP6 p0 p1 p2 p3 p4 p5 p6 pf0 pf1 pf2 pf3 pf4 pf5 pf6
        have p0 : W9.cell? ⟨w.heap.size + 1 + 1, 0, none⟩ = some (.int .i64 0) := HP9.out.cell 0
        have p1 : W9.cell? ⟨w.heap.size + 1 + 1, 1, none⟩ = some (.int .i64 0) := HP9.out.cell 1
        have p2 : W9.cell? ⟨w.heap.size + 1 + 1, 2, none⟩ = some (.int .i64 0) := HP9.out.cell 2
        have p3 : W9.cell? ⟨w.heap.size + 1 + 1, 3, none⟩ = some (.string ⟨#[]⟩) := HP9.out.cell 3
        have p4 : W9.cell? ⟨w.heap.size + 1 + 1, 4, none⟩ = some (.string ⟨#[]⟩) := HP9.out.cell 4
        have p5 : W9.cell? ⟨w.heap.size + 1 + 1, 5, none⟩ = some (.int .i64 0) := HP9.out.cell 5
        have p6 : W9.cell? ⟨w.heap.size + 1 + 1, 6, none⟩ = some (.int .i64 0) := HP9.out.cell 6
        refine bodyPost_ret (v := .tuple #[.agg #[.int .i64 0, .int .i64 0, .int .i64 0, .string ⟨#[]⟩, .string ⟨#[]⟩, .int .i64 0, .int .i64 0], .int .i64 ce]) (by simp [results, Tryz.results14, go_sem, p0, p1, p2, p3, p4, p5, p6]) rfl ?_
        unfold PrepIs
        rw [HEX.out, HXX.out]
        exact ⟨rfl, hb9⟩
    · by_cases o4 : ro = 4
      · subst o4
        have HM := Lib.hid (made_4 ⟨z, l, ss⟩ zz (r := ⟨4, rs, rp, rd, rv, rf⟩) rfl)
        simp only at HM
        clear HCR o1 o3 hcz
        generalize versR ⟨z, l, ss⟩ ⟨4, rs, rp, rd, rv, rf⟩ = vr at *
        obtain ⟨ve, ce⟩ := vr
        simp only at HM HVS
        obtain ⟨wi, rfl⟩ : ∃ wi, wi = wa := ⟨_, rfl⟩
        have t0 : wi.cell? ⟨w.heap.size, 0, none⟩ = some (.int .i64 z) := HT3.out.cell 0
        have t1 : wi.cell? ⟨w.heap.size, 1, none⟩ = some (.slice A l.length c) := HT3.out.cell 1
        have t2 : wi.cell? ⟨w.heap.size, 2, none⟩ = some (.slice A2 ss.length c2) := HT3.out.cell 2
        have r0 : wi.cell? ⟨w.heap.size + 1, 0, none⟩ = some (.int .i64 4) := HR5.out.cell 0
        have r1 : wi.cell? ⟨w.heap.size + 1, 1, none⟩ = some (.int .i64 rs) := HR5.out.cell 1
        have r2 : wi.cell? ⟨w.heap.size + 1, 2, none⟩ = some (.string rp) := HR5.out.cell 2
        have r3 : wi.cell? ⟨w.heap.size + 1, 3, none⟩ = some (.string rd) := HR5.out.cell 3
        have r4 : wi.cell? ⟨w.heap.size + 1, 4, none⟩ = some (.int .i64 rv) := HR5.out.cell 4
        have r5 : wi.cell? ⟨w.heap.size + 1, 5, none⟩ = some (.int .i64 rf) := HR5.out.cell 5
        have p0 : wi.cell? ⟨w.heap.size + 1 + 1, 0, none⟩ = some (.int .i64 0) := HP6.out.cell 0
        have pf0 : wi.frozen? ⟨w.heap.size + 1 + 1, 0, none⟩ = false := HP6.out.frozen 0
        have p1 : wi.cell? ⟨w.heap.size + 1 + 1, 1, none⟩ = some (.int .i64 0) := HP6.out.cell 1
        have pf1 : wi.frozen? ⟨w.heap.size + 1 + 1, 1, none⟩ = false := HP6.out.frozen 1
        have p2 : wi.cell? ⟨w.heap.size + 1 + 1, 2, none⟩ = some (.int .i64 0) := HP6.out.cell 2
        have pf2 : wi.frozen? ⟨w.heap.size + 1 + 1, 2, none⟩ = false := HP6.out.frozen 2
        have p3 : wi.cell? ⟨w.heap.size + 1 + 1, 3, none⟩ = some (.string ⟨#[]⟩) := HP6.out.cell 3
        have pf3 : wi.frozen? ⟨w.heap.size + 1 + 1, 3, none⟩ = false := HP6.out.frozen 3
        have p4 : wi.cell? ⟨w.heap.size + 1 + 1, 4, none⟩ = some (.string ⟨#[]⟩) := HP6.out.cell 4
        have pf4 : wi.frozen? ⟨w.heap.size + 1 + 1, 4, none⟩ = false := HP6.out.frozen 4
        have p5 : wi.cell? ⟨w.heap.size + 1 + 1, 5, none⟩ = some (.int .i64 0) := HP6.out.cell 5
        have pf5 : wi.frozen? ⟨w.heap.size + 1 + 1, 5, none⟩ = false := HP6.out.frozen 5
        have p6 : wi.cell? ⟨w.heap.size + 1 + 1, 6, none⟩ = some (.int .i64 0) := HP6.out.cell 6
        have pf6 : wi.frozen? ⟨w.heap.size + 1 + 1, 6, none⟩ = false := HP6.out.frozen 6
        have b3 : wi.cell? ⟨bx, 3, none⟩ = some (.string ⟨#[]⟩) := HB0.out.cell 3
        have f3 : wi.frozen? ⟨bx, 3, none⟩ = false := HB0.out.frozen 3
        have hbx2 : bx < wi.heap.size := HB0.out.lt
        go_upto_region 18 with (go_at_call 32; refine (HVS.out _ (HV.out.below (by repeat (first | with_reducible (first | exact bA .. | assumption | exact bJ .. | exact bK .. | exact bL .. | exact bM .. | exact bN .. | refine bB ?_ | refine bC ?_ _ | refine bD _ _ ?_ | refine bE _ ?_ | refine bF ?_ ?_ _ | refine bG ?_ ?_ _ | refine bH _ _ _ ?_ ?_) | omega | (simp; done) | (simp; omega)))) (HS.out.below (by repeat (first | with_reducible (first | exact bA .. | assumption | exact bJ .. | exact bK .. | exact bL .. | exact bM .. | exact bN .. | refine bB ?_ | refine bC ?_ _ | refine bD _ _ ?_ | refine bE _ ?_ | refine bF ?_ ?_ _ | refine bG ?_ ?_ _ | refine bH _ _ _ ?_ ?_) | omega | (simp; done) | (simp; omega))))).mono ?_; rintro e w1 ⟨rfl, hb⟩; obtain ⟨ext4, d4, rfl⟩ := Below.grown_eq _ hb; clear hb)
        refine gen_w (fun wb hwb => ?_)
        have HP3 := Lib.hid (show Bk (wi.setCell ⟨bx, 3, none⟩ (.string rp)) bx [.int .i64 zz, .int .i64 4, .int .i64 rs, .string rp, .string ⟨#[]⟩, .int .i64 0, .int .i64 0] 53 from HB0.out.put 3 (.string rp))
        have hP9 : Below (wi.setCell ⟨bx, 3, none⟩ (.string rp)).heap.size (wi.setCell ⟨bx, 3, none⟩ (.string rp)) wb := by rw [hwb.out]; exact (by repeat (first | with_reducible (first | exact bA .. | assumption | exact bJ .. | exact bK .. | exact bL .. | exact bM .. | exact bN .. | refine bB ?_ | refine bC ?_ _ | refine bD _ _ ?_ | refine bE _ ?_ | refine bF ?_ ?_ _ | refine bG ?_ ?_ _ | refine bH _ _ _ ?_ ?_) | omega | (simp; done) | (simp; omega)))
        have hbx3 : Below bx wi wb := (Below.set_up (Below.refl bx wi) (Nat.le_refl _)).trans (hP9.mono (by simp <;> omega))
        have HBN := Lib.hid (HP3.out.below hP9)
        clear hwb hP9 HP3 b3 f3 HVS t0 t1 t2 r0 r1 r2 r3 r4 r5 p0 p1 p2 p3 p4 p5 p6 pf0 pf1 pf2 pf3 pf4 pf5 pf6 HB0 hbx2
        have HT3 := Lib.hid (HT3.out.belowB (w' := wb) hbx3 (by omega))
        have HR5 := Lib.hid (HR5.out.belowB (w' := wb) hbx3 (by omega))
        have HP6 := Lib.hid (HP6.out.belowB (w' := wb) hbx3 (by omega))
        have hbwb : Below w.heap.size w wb := hbwa.trans (hbx3.mono (by omega))
        have hwb2 : w.heap.size + 1 + 1 < wb.heap.size := HP6.out.lt
        have t0 : wb.cell? ⟨w.heap.size, 0, none⟩ = some (.int .i64 z) := HT3.out.cell 0
        have t1 : wb.cell? ⟨w.heap.size, 1, none⟩ = some (.slice A l.length c) := HT3.out.cell 1
        have t2 : wb.cell? ⟨w.heap.size, 2, none⟩ = some (.slice A2 ss.length c2) := HT3.out.cell 2
        have r0 : wb.cell? ⟨w.heap.size + 1, 0, none⟩ = some (.int .i64 4) := HR5.out.cell 0
        have r1 : wb.cell? ⟨w.heap.size + 1, 1, none⟩ = some (.int .i64 rs) := HR5.out.cell 1
        have r2 : wb.cell? ⟨w.heap.size + 1, 2, none⟩ = some (.string rp) := HR5.out.cell 2
        have r3 : wb.cell? ⟨w.heap.size + 1, 3, none⟩ = some (.string rd) := HR5.out.cell 3
        have r4 : wb.cell? ⟨w.heap.size + 1, 4, none⟩ = some (.int .i64 rv) := HR5.out.cell 4
        have r5 : wb.cell? ⟨w.heap.size + 1, 5, none⟩ = some (.int .i64 rf) := HR5.out.cell 5
        have p0 : wb.cell? ⟨w.heap.size + 1 + 1, 0, none⟩ = some (.int .i64 0) := HP6.out.cell 0
        have pf0 : wb.frozen? ⟨w.heap.size + 1 + 1, 0, none⟩ = false := HP6.out.frozen 0
        have p1 : wb.cell? ⟨w.heap.size + 1 + 1, 1, none⟩ = some (.int .i64 0) := HP6.out.cell 1
        have pf1 : wb.frozen? ⟨w.heap.size + 1 + 1, 1, none⟩ = false := HP6.out.frozen 1
        have p2 : wb.cell? ⟨w.heap.size + 1 + 1, 2, none⟩ = some (.int .i64 0) := HP6.out.cell 2
        have pf2 : wb.frozen? ⟨w.heap.size + 1 + 1, 2, none⟩ = false := HP6.out.frozen 2
        have p3 : wb.cell? ⟨w.heap.size + 1 + 1, 3, none⟩ = some (.string ⟨#[]⟩) := HP6.out.cell 3
        have pf3 : wb.frozen? ⟨w.heap.size + 1 + 1, 3, none⟩ = false := HP6.out.frozen 3
        have p4 : wb.cell? ⟨w.heap.size + 1 + 1, 4, none⟩ = some (.string ⟨#[]⟩) := HP6.out.cell 4
        have pf4 : wb.frozen? ⟨w.heap.size + 1 + 1, 4, none⟩ = false := HP6.out.frozen 4
        have p5 : wb.cell? ⟨w.heap.size + 1 + 1, 5, none⟩ = some (.int .i64 0) := HP6.out.cell 5
        have pf5 : wb.frozen? ⟨w.heap.size + 1 + 1, 5, none⟩ = false := HP6.out.frozen 5
        have p6 : wb.cell? ⟨w.heap.size + 1 + 1, 6, none⟩ = some (.int .i64 0) := HP6.out.cell 6
        have pf6 : wb.frozen? ⟨w.heap.size + 1 + 1, 6, none⟩ = false := HP6.out.frozen 6
        by_cases hne : ce = 0
        · subst hne
          obtain ⟨X, hX⟩ : ∃ X : Txn, X = ⟨zz, 4, rs, rp, ⟨#[]⟩, 0, 0⟩ := ⟨_, rfl⟩
          have hxp : X.path.size ≤ 9223372036854775807 := by rw [hX]; show rp.size ≤ _; omega
          have HB := Lib.hid (show Bk wb bx (cTxn X) 53 from by rw [hX]; exact HBN.out)
          rw [← hX] at HM
          clear hX HBN
          have HAP := Lib.hid (fun (W : World) (v v2 : Value) (h : Sl cNode 9 W v l) (h2 : Sl cInt 1 W v2 ss) => trApply z v v2 l ss X W h h2 hn (by omega) hz hxp)
          unfold ApplyRes at HAP
          have HEX : Hid (prepE ⟨z, l, ss⟩ zz ⟨4, rs, rp, rd, rv, rf⟩ = applyE ⟨z, l, ss⟩ X) := Lib.hid (by unfold prepE; rw [HA.out, if_pos rfl, HM.out, if_neg (fun e => e rfl)])
          have HXX : Hid (prepX ⟨z, l, ss⟩ zz ⟨4, rs, rp, rd, rv, rf⟩ = if applyE ⟨z, l, ss⟩ X = 0 then X else noTxn) := Lib.hid (by unfold prepX; rw [HEX.out, HM.out])
          generalize applyT ⟨z, l, ss⟩ X = T at *
          generalize applyV ⟨z, l, ss⟩ X = V at *
          generalize applyE ⟨z, l, ss⟩ X = E at *
          clear HM HA hxp
          obtain ⟨xz, xo, xs, xp, xd, xv, xw⟩ := X
          have x0 : wb.cell? ⟨bx, 0, none⟩ = some (.int .i64 xz) := HB.out.cell 0
          have x1 : wb.cell? ⟨bx, 1, none⟩ = some (.int .i64 xo) := HB.out.cell 1
          have x2 : wb.cell? ⟨bx, 2, none⟩ = some (.int .i64 xs) := HB.out.cell 2
          have x3 : wb.cell? ⟨bx, 3, none⟩ = some (.string xp) := HB.out.cell 3
          have x4 : wb.cell? ⟨bx, 4, none⟩ = some (.string xd) := HB.out.cell 4
          have x5 : wb.cell? ⟨bx, 5, none⟩ = some (.int .i64 xv) := HB.out.cell 5
          have x6 : wb.cell? ⟨bx, 6, none⟩ = some (.int .i64 xw) := HB.out.cell 6
          have hbx2 : bx < wb.heap.size := HB.out.lt
          by_cases hE : E = 0
          · rw [if_pos hE] at HXX
            subst hE
            go_wp2_with (go_at_call 13; (with_reducible refine (HAP.out _ _ _ (HV.out.below (by repeat (first | with_reducible (first | exact bA .. | assumption | exact bJ .. | exact bK .. | exact bL .. | exact bM .. | exact bN .. | refine bB ?_ | refine bC ?_ _ | refine bD _ _ ?_ | refine bE _ ?_ | refine bF ?_ ?_ _ | refine bG ?_ ?_ _ | refine bH _ _ _ ?_ ?_) | omega | (simp; done) | (simp; omega)))) (HS.out.below (by repeat (first | with_reducible (first | exact bA .. | assumption | exact bJ .. | exact bK .. | exact bL .. | exact bM .. | exact bN .. | refine bB ?_ | refine bC ?_ _ | refine bD _ _ ?_ | refine bE _ ?_ | refine bF ?_ ?_ _ | refine bG ?_ ?_ _ | refine bH _ _ _ ?_ ?_) | omega | (simp; done) | (simp; omega))))).mono ?_); rintro e w3 ⟨nv, sv, vv, rfl, hn3, hs3, hv3, hb3⟩; obtain ⟨A7, c7, rfl, _⟩ := hn3.form; obtain ⟨A8, c8, rfl, _⟩ := hs3.form; obtain ⟨A9, c9, rfl, _⟩ := hv3.form; obtain ⟨ext9, d9, rfl⟩ := Below.grown_eq _ hb3; clear hn3 hs3 hv3 hb3)
            refine gen_e (fun W9 hW9 => ?_)
            have HP9 := Lib.hid (show Bk W9 (w.heap.size + 1 + 1) [.int .i64 xz, .int .i64 xo, .int .i64 xs, .string xp, .string xd, .int .i64 xv, .int .i64 xw] 53 by rw [hW9.out]; exact Bk.below (((((((HP6.out.put 0 (.int .i64 xz)).put 1 (.int .i64 xo)).put 2 (.int .i64 xs)).put 3 (.string xp)).put 4 (.string xd)).put 5 (.int .i64 xv)).put 6 (.int .i64 xw)) (by repeat (first | with_reducible (first | exact bA .. | assumption | exact bJ .. | exact bK .. | exact bL .. | exact bM .. | exact bN .. | refine bB ?_ | refine bC ?_ _ | refine bD _ _ ?_ | refine bE _ ?_ | refine bF ?_ ?_ _ | refine bG ?_ ?_ _ | refine bH _ _ _ ?_ ?_) | omega | (simp; done) | (simp; omega))))
            have hb9 : Below w.heap.size w W9 := by rw [hW9.out]; exact (by repeat (first | with_reducible (first | exact bA .. | assumption | exact bJ .. | exact bK .. | exact bL .. | exact bM .. | exact bN .. | refine bB ?_ | refine bC ?_ _ | refine bD _ _ ?_ | refine bE _ ?_ | refine bF ?_ ?_ _ | refine bG ?_ ?_ _ | refine bH _ _ _ ?_ ?_) | omega | (simp; done) | (simp; omega)))
            clear hW9 HP6 p0 p1 p2 p3 p4 p5 p6 pf0 pf1 pf2 pf3 pf4 pf5 pf6
            have p0 : W9.cell? ⟨w.heap.size + 1 + 1, 0, none⟩ = some (.int .i64 xz) := HP9.out.cell 0
            have p1 : W9.cell? ⟨w.heap.size + 1 + 1, 1, none⟩ = some (.int .i64 xo) := HP9.out.cell 1
            have p2 : W9.cell? ⟨w.heap.size + 1 + 1, 2, none⟩ = some (.int .i64 xs) := HP9.out.cell 2
            have p3 : W9.cell? ⟨w.heap.size + 1 + 1, 3, none⟩ = some (.string xp) := HP9.out.cell 3
            have p4 : W9.cell? ⟨w.heap.size + 1 + 1, 4, none⟩ = some (.string xd) := HP9.out.cell 4
            have p5 : W9.cell? ⟨w.heap.size + 1 + 1, 5, none⟩ = some (.int .i64 xv) := HP9.out.cell 5
            have p6 : W9.cell? ⟨w.heap.size + 1 + 1, 6, none⟩ = some (.int .i64 xw) := HP9.out.cell 6
            refine bodyPost_ret (v := .tuple #[.agg #[.int .i64 xz, .int .i64 xo, .int .i64 xs, .string xp, .string xd, .int .i64 xv, .int .i64 xw], .int .i64 0]) (by simp [results, Tryz.results14, go_sem, p0, p1, p2, p3, p4, p5, p6]) rfl ?_
            unfold PrepIs
            rw [HEX.out, HXX.out]
            exact ⟨rfl, hb9⟩
          · rw [if_neg hE] at HXX
            have b8 : (E == 0) = false := beq_eq_false_iff_ne.2 hE
            have b9 : (E != 0) = true := bne_iff_ne.2 hE
            clear hE
            go_wp2_with (go_at_call 13; (with_reducible refine (HAP.out _ _ _ (HV.out.below (by repeat (first | with_reducible (first | exact bA .. | assumption | exact bJ .. | exact bK .. | exact bL .. | exact bM .. | exact bN .. | refine bB ?_ | refine bC ?_ _ | refine bD _ _ ?_ | refine bE _ ?_ | refine bF ?_ ?_ _ | refine bG ?_ ?_ _ | refine bH _ _ _ ?_ ?_) | omega | (simp; done) | (simp; omega)))) (HS.out.below (by repeat (first | with_reducible (first | exact bA .. | assumption | exact bJ .. | exact bK .. | exact bL .. | exact bM .. | exact bN .. | refine bB ?_ | refine bC ?_ _ | refine bD _ _ ?_ | refine bE _ ?_ | refine bF ?_ ?_ _ | refine bG ?_ ?_ _ | refine bH _ _ _ ?_ ?_) | omega | (simp; done) | (simp; omega))))).mono ?_); rintro e w3 ⟨nv, sv, vv, rfl, hn3, hs3, hv3, hb3⟩; obtain ⟨A7, c7, rfl, _⟩ := hn3.form; obtain ⟨A8, c8, rfl, _⟩ := hs3.form; obtain ⟨A9, c9, rfl, _⟩ := hv3.form; obtain ⟨ext9, d9, rfl⟩ := Below.grown_eq _ hb3; clear hn3 hs3 hv3 hb3)
            refine gen_e (fun W9 hW9 => ?_)
            have HP9 := Lib.hid (show Bk W9 (w.heap.size + 1 + 1) [.int .i64 0, .int .i64 0, .int .i64 0, .string ⟨#[]⟩, .string ⟨#[]⟩, .int .i64 0, .int .i64 0] 53 by rw [hW9.out]; exact Bk.below (((((((HP6.out.put 0 (.int .i64 0)).put 1 (.int .i64 0)).put 2 (.int .i64 0)).put 3 (.string ⟨#[]⟩)).put 4 (.string ⟨#[]⟩)).put 5 (.int .i64 0)).put 6 (.int .i64 0)) (by repeat (first | with_reducible (first | exact bA .. | assumption | exact bJ .. | exact bK .. | exact bL .. | exact bM .. | exact bN .. | refine bB ?_ | refine bC ?_ _ | refine bD _ _ ?_ | refine bE _ ?_ | refine bF ?_ ?_ _ | refine bG ?_ ?_ _ | refine bH _ _ _ ?_ ?_) | omega | (simp; done) | (simp; omega))))
            have hb9 : Below w.heap.size w W9 := by rw [hW9.out]; exact (by repeat (first | with_reducible (first | exact bA .. | assumption | exact bJ .. | exact bK .. | exact bL .. | exact bM .. | exact bN .. | refine bB ?_ | refine bC ?_ _ | refine bD _ _ ?_ | refine bE _ ?_ | refine bF ?_ ?_ _ | refine bG ?_ ?_ _ | refine bH _ _ _ ?_ ?_) | omega | (simp; done) | (simp; omega)))
            clear hW9 HP6 p0 p1 p2 p3 p4 p5 p6 pf0 pf1 pf2 pf3 pf4 pf5 pf6
            have p0 : W9.cell? ⟨w.heap.size + 1 + 1, 0, none⟩ = some (.int .i64 0) := HP9.out.cell 0
            have p1 : W9.cell? ⟨w.heap.size + 1 + 1, 1, none⟩ = some (.int .i64 0) := HP9.out.cell 1
            have p2 : W9.cell? ⟨w.heap.size + 1 + 1, 2, none⟩ = some (.int .i64 0) := HP9.out.cell 2
            have p3 : W9.cell? ⟨w.heap.size + 1 + 1, 3, none⟩ = some (.string ⟨#[]⟩) := HP9.out.cell 3
            have p4 : W9.cell? ⟨w.heap.size + 1 + 1, 4, none⟩ = some (.string ⟨#[]⟩) := HP9.out.cell 4
            have p5 : W9.cell? ⟨w.heap.size + 1 + 1, 5, none⟩ = some (.int .i64 0) := HP9.out.cell 5
            have p6 : W9.cell? ⟨w.heap.size + 1 + 1, 6, none⟩ = some (.int .i64 0) := HP9.out.cell 6
            refine bodyPost_ret (v := .tuple #[.agg #[.int .i64 0, .int .i64 0, .int .i64 0, .string ⟨#[]⟩, .string ⟨#[]⟩, .int .i64 0, .int .i64 0], .int .i64 E]) (by simp [results, Tryz.results14, go_sem, p0, p1, p2, p3, p4, p5, p6]) rfl ?_
            unfold PrepIs
            rw [HEX.out, HXX.out]
            exact ⟨rfl, hb9⟩
        · have b2 : (ce == 0) = false := beq_eq_false_iff_ne.2 hne
          have b3 : (ce != 0) = true := bne_iff_ne.2 hne
          have HEX : Hid (prepE ⟨z, l, ss⟩ zz ⟨4, rs, rp, rd, rv, rf⟩ = ce) := Lib.hid (by unfold prepE; rw [HA.out, if_pos rfl, HM.out, if_pos hne])
          have HXX : Hid (prepX ⟨z, l, ss⟩ zz ⟨4, rs, rp, rd, rv, rf⟩ = noTxn) := Lib.hid (prepX_no (by rw [HEX.out]; exact hne))
          clear HM HA
          clear hne
          go_wp2_with fail
          refine gen_e (fun W9 hW9 => ?_)
          have HP9 := Lib.hid (show Bk W9 (w.heap.size + 1 + 1) [.int .i64 0, .int .i64 0, .int .i64 0, .string ⟨#[]⟩, .string ⟨#[]⟩, .int .i64 0, .int .i64 0] 53 by rw [hW9.out]; exact Bk.below (((((((HP6.out.put 0 (.int .i64 0)).put 1 (.int .i64 0)).put 2 (.int .i64 0)).put 3 (.string ⟨#[]⟩)).put 4 (.string ⟨#[]⟩)).put 5 (.int .i64 0)).put 6 (.int .i64 0)) (by repeat (first | with_reducible (first | exact bA .. | assumption | exact bJ .. | exact bK .. | exact bL .. | exact bM .. | exact bN .. | refine bB ?_ | refine bC ?_ _ | refine bD _ _ ?_ | refine bE _ ?_ | refine bF ?_ ?_ _ | refine bG ?_ ?_ _ | refine bH _ _ _ ?_ ?_) | omega | (simp; done) | (simp; omega))))
          have hb9 : Below w.heap.size w W9 := by rw [hW9.out]; exact (by repeat (first | with_reducible (first | exact bA .. | assumption | exact bJ .. | exact bK .. | exact bL .. | exact bM .. | exact bN .. | refine bB ?_ | refine bC ?_ _ | refine bD _ _ ?_ | refine bE _ ?_ | refine bF ?_ ?_ _ | refine bG ?_ ?_ _ | refine bH _ _ _ ?_ ?_) | omega | (simp; done) | (simp; omega)))
          clear hW9 HP6 p0 p1 p2 p3 p4 p5 p6 pf0 pf1 pf2 pf3 pf4 pf5 pf6
          have p0 : W9.cell? ⟨w.heap.size + 1 + 1, 0, none⟩ = some (.int .i64 0) := HP9.out.cell 0
          have p1 : W9.cell? ⟨w.heap.size + 1 + 1, 1, none⟩ = some (.int .i64 0) := HP9.out.cell 1
          have p2 : W9.cell? ⟨w.heap.size + 1 + 1, 2, none⟩ = some (.int .i64 0) := HP9.out.cell 2
          have p3 : W9.cell? ⟨w.heap.size + 1 + 1, 3, none⟩ = some (.string ⟨#[]⟩) := HP9.out.cell 3
          have p4 : W9.cell? ⟨w.heap.size + 1 + 1, 4, none⟩ = some (.string ⟨#[]⟩) := HP9.out.cell 4
          have p5 : W9.cell? ⟨w.heap.size + 1 + 1, 5, none⟩ = some (.int .i64 0) := HP9.out.cell 5
          have p6 : W9.cell? ⟨w.heap.size + 1 + 1, 6, none⟩ = some (.int .i64 0) := HP9.out.cell 6
          refine bodyPost_ret (v := .tuple #[.agg #[.int .i64 0, .int .i64 0, .int .i64 0, .string ⟨#[]⟩, .string ⟨#[]⟩, .int .i64 0, .int .i64 0], .int .i64 ce]) (by simp [results, Tryz.results14, go_sem, p0, p1, p2, p3, p4, p5, p6]) rfl ?_
          unfold PrepIs
          rw [HEX.out, HXX.out]
          exact ⟨rfl, hb9⟩
      · by_cases o5 : ro = 5
        · subst o5
          have HM := Lib.hid (made_5 ⟨z, l, ss⟩ zz (r := ⟨5, rs, rp, rd, rv, rf⟩) rfl)
          simp only at HM
          clear HCR o1 o3 o4 hcz
          generalize versR ⟨z, l, ss⟩ ⟨5, rs, rp, rd, rv, rf⟩ = vr at *
          obtain ⟨ve, ce⟩ := vr
          simp only at HM HVS hvr
          obtain ⟨wi, rfl⟩ : ∃ wi, wi = wa := ⟨_, rfl⟩
          have t0 : wi.cell? ⟨w.heap.size, 0, none⟩ = some (.int .i64 z) := HT3.out.cell 0
          have t1 : wi.cell? ⟨w.heap.size, 1, none⟩ = some (.slice A l.length c) := HT3.out.cell 1
          have t2 : wi.cell? ⟨w.heap.size, 2, none⟩ = some (.slice A2 ss.length c2) := HT3.out.cell 2
          have r0 : wi.cell? ⟨w.heap.size + 1, 0, none⟩ = some (.int .i64 5) := HR5.out.cell 0
          have r1 : wi.cell? ⟨w.heap.size + 1, 1, none⟩ = some (.int .i64 rs) := HR5.out.cell 1
          have r2 : wi.cell? ⟨w.heap.size + 1, 2, none⟩ = some (.string rp) := HR5.out.cell 2
          have r3 : wi.cell? ⟨w.heap.size + 1, 3, none⟩ = some (.string rd) := HR5.out.cell 3
          have r4 : wi.cell? ⟨w.heap.size + 1, 4, none⟩ = some (.int .i64 rv) := HR5.out.cell 4
          have r5 : wi.cell? ⟨w.heap.size + 1, 5, none⟩ = some (.int .i64 rf) := HR5.out.cell 5
          have p0 : wi.cell? ⟨w.heap.size + 1 + 1, 0, none⟩ = some (.int .i64 0) := HP6.out.cell 0
          have pf0 : wi.frozen? ⟨w.heap.size + 1 + 1, 0, none⟩ = false := HP6.out.frozen 0
          have p1 : wi.cell? ⟨w.heap.size + 1 + 1, 1, none⟩ = some (.int .i64 0) := HP6.out.cell 1
          have pf1 : wi.frozen? ⟨w.heap.size + 1 + 1, 1, none⟩ = false := HP6.out.frozen 1
          have p2 : wi.cell? ⟨w.heap.size + 1 + 1, 2, none⟩ = some (.int .i64 0) := HP6.out.cell 2
          have pf2 : wi.frozen? ⟨w.heap.size + 1 + 1, 2, none⟩ = false := HP6.out.frozen 2
          have p3 : wi.cell? ⟨w.heap.size + 1 + 1, 3, none⟩ = some (.string ⟨#[]⟩) := HP6.out.cell 3
          have pf3 : wi.frozen? ⟨w.heap.size + 1 + 1, 3, none⟩ = false := HP6.out.frozen 3
          have p4 : wi.cell? ⟨w.heap.size + 1 + 1, 4, none⟩ = some (.string ⟨#[]⟩) := HP6.out.cell 4
          have pf4 : wi.frozen? ⟨w.heap.size + 1 + 1, 4, none⟩ = false := HP6.out.frozen 4
          have p5 : wi.cell? ⟨w.heap.size + 1 + 1, 5, none⟩ = some (.int .i64 0) := HP6.out.cell 5
          have pf5 : wi.frozen? ⟨w.heap.size + 1 + 1, 5, none⟩ = false := HP6.out.frozen 5
          have p6 : wi.cell? ⟨w.heap.size + 1 + 1, 6, none⟩ = some (.int .i64 0) := HP6.out.cell 6
          have pf6 : wi.frozen? ⟨w.heap.size + 1 + 1, 6, none⟩ = false := HP6.out.frozen 6
          go_upto_region 15 with fail
          refine wp_region_noPanic ?_
          refine wp_region_W (by kernel_rfl) (fun W hW => ?_)
          have cl0 : W.cell? ⟨w.heap.size + 1, 2, none⟩ = some (.string rp) := by rw [hW.out]; go_simp
          have cl1 : W.cell? ⟨w.heap.size + 1, 3, none⟩ = some (.string rd) := by rw [hW.out]; go_simp
          have HBW := Lib.hid (HB0.out.below (w' := W) (by rw [hW.out]; exact (by repeat (first | with_reducible (first | exact bA .. | assumption | exact bJ .. | exact bK .. | exact bL .. | exact bM .. | exact bN .. | refine bB ?_ | refine bC ?_ _ | refine bD _ _ ?_ | refine bE _ ?_ | refine bF ?_ ?_ _ | refine bG ?_ ?_ _ | refine bH _ _ _ ?_ ?_) | omega | (simp; done) | (simp; omega)))))
          have z3 : W.cell? ⟨bx, 3, none⟩ = some (.string ⟨#[]⟩) := HBW.out.cell 3
          have z4 : W.cell? ⟨bx, 4, none⟩ = some (.string ⟨#[]⟩) := HBW.out.cell 4
          have zf3 : W.frozen? ⟨bx, 3, none⟩ = false := HBW.out.frozen 3
          have zf4 : W.frozen? ⟨bx, 4, none⟩ = false := HBW.out.frozen 4
          have hWi : Below wi.heap.size wi W := by rw [hW.out]; exact (by repeat (first | with_reducible (first | exact bA .. | assumption | exact bJ .. | exact bK .. | exact bL .. | exact bM .. | exact bN .. | refine bB ?_ | refine bC ?_ _ | refine bD _ _ ?_ | refine bE _ ?_ | refine bF ?_ ?_ _ | refine bG ?_ ?_ _ | refine bH _ _ _ ?_ ?_) | omega | (simp; done) | (simp; omega)))
          refine wpAny_S (fun w' => w'.cell? ⟨w.heap.size + 1, 2, none⟩ = some (.string rp) ∧ w'.cell? ⟨w.heap.size + 1, 3, none⟩ = some (.string rd)) (fun i => false) (by (try dsimp only); (refine ⟨?_, ?_⟩ <;> go_simp)) (fun hHeld => ?_)
          (refine wpE_takeP (i := 0) (v := ?gV1_1) (by simp only [zD]; rfl) (by kernel_rfl) (by kernel_rfl) (by kernel_rfl) (by rfl) (fun _ _ _ h => h) (Or.inl ⟨by rfl, ?gY1_1⟩) (by assumption) ?gR1_1; case gY1_1 => (intro w hSw; (try dsimp only at hSw); go_simp <;> with_reducible rfl))
          try simp only [Act.put, zA, zB, zC]
          (refine wpE_take (i := 1) (v := ?gV1_2) (by simp only [zD]; rfl) (by kernel_rfl) (by kernel_rfl) (by kernel_rfl) (by kernel_rfl) (by kernel_rfl) (by rfl) (fun _ _ _ h => h) (Or.inl ⟨by rfl, ?gY1_2⟩) (by assumption) ?gR1_2; case gY1_2 => (intro w hSw; (try dsimp only at hSw); go_simp <;> with_reducible rfl))
          try simp only [Act.put, zA, zB, zC]
          (refine wpE_takeP (i := 2) (v := ?gV1_3) (by simp only [zD]; rfl) (by kernel_rfl) (by kernel_rfl) (by kernel_rfl) (by rfl) (fun _ _ _ h => h) (Or.inl ⟨by rfl, ?gY1_3⟩) (by assumption) ?gR1_3; case gY1_3 => (intro w hSw; (try dsimp only at hSw); go_simp <;> with_reducible rfl))
          try simp only [Act.put, zA, zB, zC]
          (refine wpE_take (i := 3) (v := ?gV1_4) (by simp only [zD]; rfl) (by kernel_rfl) (by kernel_rfl) (by kernel_rfl) (by kernel_rfl) (by kernel_rfl) (by rfl) (fun _ _ _ h => h) (Or.inl ⟨by rfl, ?gY1_4⟩) (by assumption) ?gR1_4; case gY1_4 => (intro w hSw; (try dsimp only at hSw); go_simp <;> with_reducible rfl))
          try simp only [Act.put, zA, zB, zC]
          (refine wpE_takeP (i := 4) (v := ?gV1_5) (by simp only [zD]; rfl) (by kernel_rfl) (by kernel_rfl) (by kernel_rfl) (by rfl) (fun _ _ _ h => h) (Or.inl ⟨by rfl, ?gY1_5⟩) (by assumption) ?gR1_5; case gY1_5 => (intro w hSw; (try dsimp only at hSw); go_simp <;> with_reducible rfl))
          try simp only [Act.put, zA, zB, zC]
          refine wpE_ready (rs := [5]) (by kernel_rfl) (by simp) ?_
          refine AllE.cons (by simp only [zD]; rfl) (fun K hK => ?_) AllE.nil
          go_simp
          refine hK.out _ _ ?gT1_6 (fun hHeld => ?_)
          case gT1_6 => ((try dsimp only); (refine ⟨?_, ?_⟩ <;> go_simp))
          clear hK K
          try simp only [Act.put, zA, zB, zC]
          (refine wpE_takeP (i := 6) (v := ?gV1_7) (by simp only [zD]; rfl) (by kernel_rfl) (by kernel_rfl) (by kernel_rfl) (by rfl) (fun _ _ _ h => h) (Or.inl ⟨by rfl, ?gY1_7⟩) (by assumption) ?gR1_7; case gY1_7 => (intro w hSw; (try dsimp only at hSw); go_simp <;> with_reducible rfl))
          try simp only [Act.put, zA, zB, zC]
          refine wpE_ready (rs := [7]) (by kernel_rfl) (by simp) ?_
          refine AllE.cons (by simp only [zD]; rfl) (fun K hK => ?_) AllE.nil
          go_simp
          refine hK.out _ _ ?gT1_8 (fun hHeld => ?_)
          case gT1_8 => ((try dsimp only); (refine ⟨?_, ?_⟩ <;> go_simp))
          clear hK K
          try simp only [Act.put, zA, zB, zC]
          refine wpE_done (by kernel_rfl) ?_ _
          refine NoPanic.normal ?_
          refine gen_e (fun wj hwj => ?_)
          have hP9 : Below bx W wj := by rw [hwj.out]; exact Below.set_up (Below.set_up (Below.refl _ _) (Nat.le_refl _)) (Nat.le_refl _)
          have hbx3 : Below bx wi wj := (hWi.mono (by omega)).trans hP9
          have HBJ := Lib.hid (show Bk wj bx [.int .i64 zz, .int .i64 5, .int .i64 rs, .string rp, .string rd, .int .i64 0, .int .i64 0] 53 from hwj.out ▸ ((HBW.out.put 3 (.string rp)).put 4 (.string rd)))
          clear hwj hP9 hW hWi HBW HB0 cl0 cl1 hHeld z3 z4 zf3 zf4 t0 t1 t2 r0 r1 r2 r3 r4 r5 p0 p1 p2 p3 p4 p5 p6 pf0 pf1 pf2 pf3 pf4 pf5 pf6
          have HT3 := Lib.hid (HT3.out.belowB (w' := wj) hbx3 (by omega))
          have HR5 := Lib.hid (HR5.out.belowB (w' := wj) hbx3 (by omega))
          have HP6 := Lib.hid (HP6.out.belowB (w' := wj) hbx3 (by omega))
          have hbwb : Below w.heap.size w wj := hbwa.trans (hbx3.mono (by omega))
          have hla2 : bx < wj.heap.size := HBJ.out.lt
          clear hbx3
          have t0 : wj.cell? ⟨w.heap.size, 0, none⟩ = some (.int .i64 z) := HT3.out.cell 0
          have t1 : wj.cell? ⟨w.heap.size, 1, none⟩ = some (.slice A l.length c) := HT3.out.cell 1
          have t2 : wj.cell? ⟨w.heap.size, 2, none⟩ = some (.slice A2 ss.length c2) := HT3.out.cell 2
          have r0 : wj.cell? ⟨w.heap.size + 1, 0, none⟩ = some (.int .i64 5) := HR5.out.cell 0
          have r1 : wj.cell? ⟨w.heap.size + 1, 1, none⟩ = some (.int .i64 rs) := HR5.out.cell 1
          have r2 : wj.cell? ⟨w.heap.size + 1, 2, none⟩ = some (.string rp) := HR5.out.cell 2
          have r3 : wj.cell? ⟨w.heap.size + 1, 3, none⟩ = some (.string rd) := HR5.out.cell 3
          have r4 : wj.cell? ⟨w.heap.size + 1, 4, none⟩ = some (.int .i64 rv) := HR5.out.cell 4
          have r5 : wj.cell? ⟨w.heap.size + 1, 5, none⟩ = some (.int .i64 rf) := HR5.out.cell 5
          have p0 : wj.cell? ⟨w.heap.size + 1 + 1, 0, none⟩ = some (.int .i64 0) := HP6.out.cell 0
          have pf0 : wj.frozen? ⟨w.heap.size + 1 + 1, 0, none⟩ = false := HP6.out.frozen 0
          have p1 : wj.cell? ⟨w.heap.size + 1 + 1, 1, none⟩ = some (.int .i64 0) := HP6.out.cell 1
          have pf1 : wj.frozen? ⟨w.heap.size + 1 + 1, 1, none⟩ = false := HP6.out.frozen 1
          have p2 : wj.cell? ⟨w.heap.size + 1 + 1, 2, none⟩ = some (.int .i64 0) := HP6.out.cell 2
          have pf2 : wj.frozen? ⟨w.heap.size + 1 + 1, 2, none⟩ = false := HP6.out.frozen 2
          have p3 : wj.cell? ⟨w.heap.size + 1 + 1, 3, none⟩ = some (.string ⟨#[]⟩) := HP6.out.cell 3
          have pf3 : wj.frozen? ⟨w.heap.size + 1 + 1, 3, none⟩ = false := HP6.out.frozen 3
          have p4 : wj.cell? ⟨w.heap.size + 1 + 1, 4, none⟩ = some (.string ⟨#[]⟩) := HP6.out.cell 4
          have pf4 : wj.frozen? ⟨w.heap.size + 1 + 1, 4, none⟩ = false := HP6.out.frozen 4
          have p5 : wj.cell? ⟨w.heap.size + 1 + 1, 5, none⟩ = some (.int .i64 0) := HP6.out.cell 5
          have pf5 : wj.frozen? ⟨w.heap.size + 1 + 1, 5, none⟩ = false := HP6.out.frozen 5
          have p6 : wj.cell? ⟨w.heap.size + 1 + 1, 6, none⟩ = some (.int .i64 0) := HP6.out.cell 6
          have pf6 : wj.frozen? ⟨w.heap.size + 1 + 1, 6, none⟩ = false := HP6.out.frozen 6
          have b5 : wj.cell? ⟨bx, 5, none⟩ = some (.int .i64 0) := HBJ.out.cell 5
          have f5 : wj.frozen? ⟨bx, 5, none⟩ = false := HBJ.out.frozen 5
          have hwv : IntKind.i64.wrap (ve + 1) = ve + 1 := by unfold IntKind.wrap; simp [IntKind.signed, IntKind.bits]; omega
          go_upto_region 18 with (go_at_call 32; refine (HVS.out _ (HV.out.below (by repeat (first | with_reducible (first | exact bA .. | assumption | exact bJ .. | exact bK .. | exact bL .. | exact bM .. | exact bN .. | refine bB ?_ | refine bC ?_ _ | refine bD _ _ ?_ | refine bE _ ?_ | refine bF ?_ ?_ _ | refine bG ?_ ?_ _ | refine bH _ _ _ ?_ ?_) | omega | (simp; done) | (simp; omega)))) (HS.out.below (by repeat (first | with_reducible (first | exact bA .. | assumption | exact bJ .. | exact bK .. | exact bL .. | exact bM .. | exact bN .. | refine bB ?_ | refine bC ?_ _ | refine bD _ _ ?_ | refine bE _ ?_ | refine bF ?_ ?_ _ | refine bG ?_ ?_ _ | refine bH _ _ _ ?_ ?_) | omega | (simp; done) | (simp; omega))))).mono ?_; rintro e w1 ⟨rfl, hb⟩; obtain ⟨ext4, d4, rfl⟩ := Below.grown_eq _ hb; clear hb)
          refine gen_w (fun wb hwb => ?_)
          have HP3 := Lib.hid (show Bk ((wj.setCell ⟨bx, 5, none⟩ (.int .i64 ve)).setCell ⟨bx, 5, none⟩ (.int .i64 (ve + 1))) bx [.int .i64 zz, .int .i64 5, .int .i64 rs, .string rp, .string rd, .int .i64 (ve + 1), .int .i64 0] 53 from (HBJ.out.put 5 (.int .i64 ve)).put 5 (.int .i64 (ve + 1)))
          have hP9 : Below ((wj.setCell ⟨bx, 5, none⟩ (.int .i64 ve)).setCell ⟨bx, 5, none⟩ (.int .i64 (ve + 1))).heap.size ((wj.setCell ⟨bx, 5, none⟩ (.int .i64 ve)).setCell ⟨bx, 5, none⟩ (.int .i64 (ve + 1))) wb := by rw [hwb.out]; exact (by repeat (first | with_reducible (first | exact bA .. | assumption | exact bJ .. | exact bK .. | exact bL .. | exact bM .. | exact bN .. | refine bB ?_ | refine bC ?_ _ | refine bD _ _ ?_ | refine bE _ ?_ | refine bF ?_ ?_ _ | refine bG ?_ ?_ _ | refine bH _ _ _ ?_ ?_) | omega | (simp; done) | (simp; omega)))
          have hbx3 : Below bx wj wb := (Below.set_up (Below.set_up (Below.refl bx wj) (Nat.le_refl _)) (Nat.le_refl _)).trans (hP9.mono (by simp <;> omega))
          have HBN := Lib.hid (HP3.out.below hP9)
          clear hwb hP9 HP3 b5 f5 HVS t0 t1 t2 r0 r1 r2 r3 r4 r5 p0 p1 p2 p3 p4 p5 p6 pf0 pf1 pf2 pf3 pf4 pf5 pf6 HBJ hla2
          have hbwa := hbwb
          clear hbwb
          have HT3 := Lib.hid (HT3.out.belowB (w' := wb) hbx3 (by omega))
          have HR5 := Lib.hid (HR5.out.belowB (w' := wb) hbx3 (by omega))
          have HP6 := Lib.hid (HP6.out.belowB (w' := wb) hbx3 (by omega))
          have hbwb : Below w.heap.size w wb := hbwa.trans (hbx3.mono (by omega))
          have hwb2 : w.heap.size + 1 + 1 < wb.heap.size := HP6.out.lt
          have t0 : wb.cell? ⟨w.heap.size, 0, none⟩ = some (.int .i64 z) := HT3.out.cell 0
          have t1 : wb.cell? ⟨w.heap.size, 1, none⟩ = some (.slice A l.length c) := HT3.out.cell 1
          have t2 : wb.cell? ⟨w.heap.size, 2, none⟩ = some (.slice A2 ss.length c2) := HT3.out.cell 2
          have r0 : wb.cell? ⟨w.heap.size + 1, 0, none⟩ = some (.int .i64 5) := HR5.out.cell 0
          have r1 : wb.cell? ⟨w.heap.size + 1, 1, none⟩ = some (.int .i64 rs) := HR5.out.cell 1
          have r2 : wb.cell? ⟨w.heap.size + 1, 2, none⟩ = some (.string rp) := HR5.out.cell 2
          have r3 : wb.cell? ⟨w.heap.size + 1, 3, none⟩ = some (.string rd) := HR5.out.cell 3
          have r4 : wb.cell? ⟨w.heap.size + 1, 4, none⟩ = some (.int .i64 rv) := HR5.out.cell 4
          have r5 : wb.cell? ⟨w.heap.size + 1, 5, none⟩ = some (.int .i64 rf) := HR5.out.cell 5
          have p0 : wb.cell? ⟨w.heap.size + 1 + 1, 0, none⟩ = some (.int .i64 0) := HP6.out.cell 0
          have pf0 : wb.frozen? ⟨w.heap.size + 1 + 1, 0, none⟩ = false := HP6.out.frozen 0
          have p1 : wb.cell? ⟨w.heap.size + 1 + 1, 1, none⟩ = some (.int .i64 0) := HP6.out.cell 1
          have pf1 : wb.frozen? ⟨w.heap.size + 1 + 1, 1, none⟩ = false := HP6.out.frozen 1
          have p2 : wb.cell? ⟨w.heap.size + 1 + 1, 2, none⟩ = some (.int .i64 0) := HP6.out.cell 2
          have pf2 : wb.frozen? ⟨w.heap.size + 1 + 1, 2, none⟩ = false := HP6.out.frozen 2
          have p3 : wb.cell? ⟨w.heap.size + 1 + 1, 3, none⟩ = some (.string ⟨#[]⟩) := HP6.out.cell 3
          have pf3 : wb.frozen? ⟨w.heap.size + 1 + 1, 3, none⟩ = false := HP6.out.frozen 3
          have p4 : wb.cell? ⟨w.heap.size + 1 + 1, 4, none⟩ = some (.string ⟨#[]⟩) := HP6.out.cell 4
          have pf4 : wb.frozen? ⟨w.heap.size + 1 + 1, 4, none⟩ = false := HP6.out.frozen 4
          have p5 : wb.cell? ⟨w.heap.size + 1 + 1, 5, none⟩ = some (.int .i64 0) := HP6.out.cell 5
          have pf5 : wb.frozen? ⟨w.heap.size + 1 + 1, 5, none⟩ = false := HP6.out.frozen 5
          have p6 : wb.cell? ⟨w.heap.size + 1 + 1, 6, none⟩ = some (.int .i64 0) := HP6.out.cell 6
          have pf6 : wb.frozen? ⟨w.heap.size + 1 + 1, 6, none⟩ = false := HP6.out.frozen 6
          by_cases hne : ce = 0
          · subst hne
            obtain ⟨X, hX⟩ : ∃ X : Txn, X = ⟨zz, 5, rs, rp, rd, ve + 1, 0⟩ := ⟨_, rfl⟩
            have hxp : X.path.size ≤ 9223372036854775807 := by rw [hX]; show rp.size ≤ _; omega
            have HB := Lib.hid (show Bk wb bx (cTxn X) 53 from by rw [hX]; exact HBN.out)
            rw [← hX] at HM
            clear hX HBN
            have HAP := Lib.hid (fun (W : World) (v v2 : Value) (h : Sl cNode 9 W v l) (h2 : Sl cInt 1 W v2 ss) => trApply z v v2 l ss X W h h2 hn (by omega) hz hxp)
            unfold ApplyRes at HAP
            have HEX : Hid (prepE ⟨z, l, ss⟩ zz ⟨5, rs, rp, rd, rv, rf⟩ = applyE ⟨z, l, ss⟩ X) := Lib.hid (by unfold prepE; rw [HA.out, if_pos rfl, HM.out, if_neg (fun e => e rfl)])
            have HXX : Hid (prepX ⟨z, l, ss⟩ zz ⟨5, rs, rp, rd, rv, rf⟩ = if applyE ⟨z, l, ss⟩ X = 0 then X else noTxn) := Lib.hid (by unfold prepX; rw [HEX.out, HM.out])
            generalize applyT ⟨z, l, ss⟩ X = T at *
            generalize applyV ⟨z, l, ss⟩ X = V at *
            generalize applyE ⟨z, l, ss⟩ X = E at *
            clear HM HA hxp
            obtain ⟨xz, xo, xs, xp, xd, xv, xw⟩ := X
            have x0 : wb.cell? ⟨bx, 0, none⟩ = some (.int .i64 xz) := HB.out.cell 0
            have x1 : wb.cell? ⟨bx, 1, none⟩ = some (.int .i64 xo) := HB.out.cell 1
            have x2 : wb.cell? ⟨bx, 2, none⟩ = some (.int .i64 xs) := HB.out.cell 2
            have x3 : wb.cell? ⟨bx, 3, none⟩ = some (.string xp) := HB.out.cell 3
            have x4 : wb.cell? ⟨bx, 4, none⟩ = some (.string xd) := HB.out.cell 4
            have x5 : wb.cell? ⟨bx, 5, none⟩ = some (.int .i64 xv) := HB.out.cell 5
            have x6 : wb.cell? ⟨bx, 6, none⟩ = some (.int .i64 xw) := HB.out.cell 6
            have hbx2 : bx < wb.heap.size := HB.out.lt
            by_cases hE : E = 0
            · rw [if_pos hE] at HXX
              subst hE
              go_wp2_with (go_at_call 13; (with_reducible refine (HAP.out _ _ _ (HV.out.below (by repeat (first | with_reducible (first | exact bA .. | assumption | exact bJ .. | exact bK .. | exact bL .. | exact bM .. | exact bN .. | refine bB ?_ | refine bC ?_ _ | refine bD _ _ ?_ | refine bE _ ?_ | refine bF ?_ ?_ _ | refine bG ?_ ?_ _ | refine bH _ _ _ ?_ ?_) | omega | (simp; done) | (simp; omega)))) (HS.out.below (by repeat (first | with_reducible (first | exact bA .. | assumption | exact bJ .. | exact bK .. | exact bL .. | exact bM .. | exact bN .. | refine bB ?_ | refine bC ?_ _ | refine bD _ _ ?_ | refine bE _ ?_ | refine bF ?_ ?_ _ | refine bG ?_ ?_ _ | refine bH _ _ _ ?_ ?_) | omega | (simp; done) | (simp; omega))))).mono ?_); rintro e w3 ⟨nv, sv, vv, rfl, hn3, hs3, hv3, hb3⟩; obtain ⟨A7, c7, rfl, _⟩ := hn3.form; obtain ⟨A8, c8, rfl, _⟩ := hs3.form; obtain ⟨A9, c9, rfl, _⟩ := hv3.form; obtain ⟨ext9, d9, rfl⟩ := Below.grown_eq _ hb3; clear hn3 hs3 hv3 hb3)
              refine gen_e (fun W9 hW9 => ?_)
              have HP9 := Lib.hid (show Bk W9 (w.heap.size + 1 + 1) [.int .i64 xz, .int .i64 xo, .int .i64 xs, .string xp, .string xd, .int .i64 xv, .int .i64 xw] 53 by rw [hW9.out]; exact Bk.below (((((((HP6.out.put 0 (.int .i64 xz)).put 1 (.int .i64 xo)).put 2 (.int .i64 xs)).put 3 (.string xp)).put 4 (.string xd)).put 5 (.int .i64 xv)).put 6 (.int .i64 xw)) (by repeat (first | with_reducible (first | exact bA .. | assumption | exact bJ .. | exact bK .. | exact bL .. | exact bM .. | exact bN .. | refine bB ?_ | refine bC ?_ _ | refine bD _ _ ?_ | refine bE _ ?_ | refine bF ?_ ?_ _ | refine bG ?_ ?_ _ | refine bH _ _ _ ?_ ?_) | omega | (simp; done) | (simp; omega))))
              have hb9 : Below w.heap.size w W9 := by rw [hW9.out]; exact (by repeat (first | with_reducible (first | exact bA .. | assumption | exact bJ .. | exact bK .. | exact bL .. | exact bM .. | exact bN .. | refine bB ?_ | refine bC ?_ _ | refine bD _ _ ?_ | refine bE _ ?_ | refine bF ?_ ?_ _ | refine bG ?_ ?_ _ | refine bH _ _ _ ?_ ?_) | omega | (simp; done) | (simp; omega)))
              clear hW9 HP6 p0 p1 p2 p3 p4 p5 p6 pf0 pf1 pf2 pf3 pf4 pf5 pf6
              have p0 : W9.cell? ⟨w.heap.size + 1 + 1, 0, none⟩ = some (.int .i64 xz) := HP9.out.cell 0
              have p1 : W9.cell? ⟨w.heap.size + 1 + 1, 1, none⟩ = some (.int .i64 xo) := HP9.out.cell 1
              have p2 : W9.cell? ⟨w.heap.size + 1 + 1, 2, none⟩ = some (.int .i64 xs) := HP9.out.cell 2
              have p3 : W9.cell? ⟨w.heap.size + 1 + 1, 3, none⟩ = some (.string xp) := HP9.out.cell 3
              have p4 : W9.cell? ⟨w.heap.size + 1 + 1, 4, none⟩ = some (.string xd) := HP9.out.cell 4
              have p5 : W9.cell? ⟨w.heap.size + 1 + 1, 5, none⟩ = some (.int .i64 xv) := HP9.out.cell 5
              have p6 : W9.cell? ⟨w.heap.size + 1 + 1, 6, none⟩ = some (.int .i64 xw) := HP9.out.cell 6
              refine bodyPost_ret (v := .tuple #[.agg #[.int .i64 xz, .int .i64 xo, .int .i64 xs, .string xp, .string xd, .int .i64 xv, .int .i64 xw], .int .i64 0]) (by simp [results, Tryz.results14, go_sem, p0, p1, p2, p3, p4, p5, p6]) rfl ?_
              unfold PrepIs
              rw [HEX.out, HXX.out]
              exact ⟨rfl, hb9⟩
            · rw [if_neg hE] at HXX
              have b8 : (E == 0) = false := beq_eq_false_iff_ne.2 hE
              have b9 : (E != 0) = true := bne_iff_ne.2 hE
              clear hE
              go_wp2_with (go_at_call 13; (with_reducible refine (HAP.out _ _ _ (HV.out.below (by repeat (first | with_reducible (first | exact bA .. | assumption | exact bJ .. | exact bK .. | exact bL .. | exact bM .. | exact bN .. | refine bB ?_ | refine bC ?_ _ | refine bD _ _ ?_ | refine bE _ ?_ | refine bF ?_ ?_ _ | refine bG ?_ ?_ _ | refine bH _ _ _ ?_ ?_) | omega | (simp; done) | (simp; omega)))) (HS.out.below (by repeat (first | with_reducible (first | exact bA .. | assumption | exact bJ .. | exact bK .. | exact bL .. | exact bM .. | exact bN .. | refine bB ?_ | refine bC ?_ _ | refine bD _ _ ?_ | refine bE _ ?_ | refine bF ?_ ?_ _ | refine bG ?_ ?_ _ | refine bH _ _ _ ?_ ?_) | omega | (simp; done) | (simp; omega))))).mono ?_); rintro e w3 ⟨nv, sv, vv, rfl, hn3, hs3, hv3, hb3⟩; obtain ⟨A7, c7, rfl, _⟩ := hn3.form; obtain ⟨A8, c8, rfl, _⟩ := hs3.form; obtain ⟨A9, c9, rfl, _⟩ := hv3.form; obtain ⟨ext9, d9, rfl⟩ := Below.grown_eq _ hb3; clear hn3 hs3 hv3 hb3)
              refine gen_e (fun W9 hW9 => ?_)
              have HP9 := Lib.hid (show Bk W9 (w.heap.size + 1 + 1) [.int .i64 0, .int .i64 0, .int .i64 0, .string ⟨#[]⟩, .string ⟨#[]⟩, .int .i64 0, .int .i64 0] 53 by rw [hW9.out]; exact Bk.below (((((((HP6.out.put 0 (.int .i64 0)).put 1 (.int .i64 0)).put 2 (.int .i64 0)).put 3 (.string ⟨#[]⟩)).put 4 (.string ⟨#[]⟩)).put 5 (.int .i64 0)).put 6 (.int .i64 0)) (by repeat (first | with_reducible (first | exact bA .. | assumption | exact bJ .. | exact bK .. | exact bL .. | exact bM .. | exact bN .. | refine bB ?_ | refine bC ?_ _ | refine bD _ _ ?_ | refine bE _ ?_ | refine bF ?_ ?_ _ | refine bG ?_ ?_ _ | refine bH _ _ _ ?_ ?_) | omega | (simp; done) | (simp; omega))))
              have hb9 : Below w.heap.size w W9 := by rw [hW9.out]; exact (by repeat (first | with_reducible (first | exact bA .. | assumption | exact bJ .. | exact bK .. | exact bL .. | exact bM .. | exact bN .. | refine bB ?_ | refine bC ?_ _ | refine bD _ _ ?_ | refine bE _ ?_ | refine bF ?_ ?_ _ | refine bG ?_ ?_ _ | refine bH _ _ _ ?_ ?_) | omega | (simp; done) | (simp; omega)))
              clear hW9 HP6 p0 p1 p2 p3 p4 p5 p6 pf0 pf1 pf2 pf3 pf4 pf5 pf6
              have p0 : W9.cell? ⟨w.heap.size + 1 + 1, 0, none⟩ = some (.int .i64 0) := HP9.out.cell 0
              have p1 : W9.cell? ⟨w.heap.size + 1 + 1, 1, none⟩ = some (.int .i64 0) := HP9.out.cell 1
              have p2 : W9.cell? ⟨w.heap.size + 1 + 1, 2, none⟩ = some (.int .i64 0) := HP9.out.cell 2
              have p3 : W9.cell? ⟨w.heap.size + 1 + 1, 3, none⟩ = some (.string ⟨#[]⟩) := HP9.out.cell 3
              have p4 : W9.cell? ⟨w.heap.size + 1 + 1, 4, none⟩ = some (.string ⟨#[]⟩) := HP9.out.cell 4
              have p5 : W9.cell? ⟨w.heap.size + 1 + 1, 5, none⟩ = some (.int .i64 0) := HP9.out.cell 5
              have p6 : W9.cell? ⟨w.heap.size + 1 + 1, 6, none⟩ = some (.int .i64 0) := HP9.out.cell 6
              refine bodyPost_ret (v := .tuple #[.agg #[.int .i64 0, .int .i64 0, .int .i64 0, .string ⟨#[]⟩, .string ⟨#[]⟩, .int .i64 0, .int .i64 0], .int .i64 E]) (by simp [results, Tryz.results14, go_sem, p0, p1, p2, p3, p4, p5, p6]) rfl ?_
              unfold PrepIs
              rw [HEX.out, HXX.out]
              exact ⟨rfl, hb9⟩
          · have b2 : (ce == 0) = false := beq_eq_false_iff_ne.2 hne
            have b3 : (ce != 0) = true := bne_iff_ne.2 hne
            have HEX : Hid (prepE ⟨z, l, ss⟩ zz ⟨5, rs, rp, rd, rv, rf⟩ = ce) := Lib.hid (by unfold prepE; rw [HA.out, if_pos rfl, HM.out, if_pos hne])
            have HXX : Hid (prepX ⟨z, l, ss⟩ zz ⟨5, rs, rp, rd, rv, rf⟩ = noTxn) := Lib.hid (prepX_no (by rw [HEX.out]; exact hne))
            clear HM HA
            clear hne
            go_wp2_with fail
            refine gen_e (fun W9 hW9 => ?_)
            have HP9 := Lib.hid (show Bk W9 (w.heap.size + 1 + 1) [.int .i64 0, .int .i64 0, .int .i64 0, .string ⟨#[]⟩, .string ⟨#[]⟩, .int .i64 0, .int .i64 0] 53 by rw [hW9.out]; exact Bk.below (((((((HP6.out.put 0 (.int .i64 0)).put 1 (.int .i64 0)).put 2 (.int .i64 0)).put 3 (.string ⟨#[]⟩)).put 4 (.string ⟨#[]⟩)).put 5 (.int .i64 0)).put 6 (.int .i64 0)) (by repeat (first | with_reducible (first | exact bA .. | assumption | exact bJ .. | exact bK .. | exact bL .. | exact bM .. | exact bN .. | refine bB ?_ | refine bC ?_ _ | refine bD _ _ ?_ | refine bE _ ?_ | refine bF ?_ ?_ _ | refine bG ?_ ?_ _ | refine bH _ _ _ ?_ ?_) | omega | (simp; done) | (simp; omega))))
            have hb9 : Below w.heap.size w W9 := by rw [hW9.out]; exact (by repeat (first | with_reducible (first | exact bA .. | assumption | exact bJ .. | exact bK .. | exact bL .. | exact bM .. | exact bN .. | refine bB ?_ | refine bC ?_ _ | refine bD _ _ ?_ | refine bE _ ?_ | refine bF ?_ ?_ _ | refine bG ?_ ?_ _ | refine bH _ _ _ ?_ ?_) | omega | (simp; done) | (simp; omega)))
            clear hW9 HP6 p0 p1 p2 p3 p4 p5 p6 pf0 pf1 pf2 pf3 pf4 pf5 pf6
            have p0 : W9.cell? ⟨w.heap.size + 1 + 1, 0, none⟩ = some (.int .i64 0) := HP9.out.cell 0
            have p1 : W9.cell? ⟨w.heap.size + 1 + 1, 1, none⟩ = some (.int .i64 0) := HP9.out.cell 1
            have p2 : W9.cell? ⟨w.heap.size + 1 + 1, 2, none⟩ = some (.int .i64 0) := HP9.out.cell 2
            have p3 : W9.cell? ⟨w.heap.size + 1 + 1, 3, none⟩ = some (.string ⟨#[]⟩) := HP9.out.cell 3
            have p4 : W9.cell? ⟨w.heap.size + 1 + 1, 4, none⟩ = some (.string ⟨#[]⟩) := HP9.out.cell 4
            have p5 : W9.cell? ⟨w.heap.size + 1 + 1, 5, none⟩ = some (.int .i64 0) := HP9.out.cell 5
            have p6 : W9.cell? ⟨w.heap.size + 1 + 1, 6, none⟩ = some (.int .i64 0) := HP9.out.cell 6
            refine bodyPost_ret (v := .tuple #[.agg #[.int .i64 0, .int .i64 0, .int .i64 0, .string ⟨#[]⟩, .string ⟨#[]⟩, .int .i64 0, .int .i64 0], .int .i64 ce]) (by simp [results, Tryz.results14, go_sem, p0, p1, p2, p3, p4, p5, p6]) rfl ?_
            unfold PrepIs
            rw [HEX.out, HXX.out]
            exact ⟨rfl, hb9⟩
        · have hoo : ro < 1 ∨ 5 < ro := by omega
          have HM := Lib.hid (made_no ⟨z, l, ss⟩ zz (r := ⟨ro, rs, rp, rd, rv, rf⟩) hoo)
          have hne : (4 : Int) ≠ 0 := by decide
          have k1 : (ro == 1) = false := beq_eq_false_iff_ne.2 (by omega)
          have k2 : (ro == 2) = false := beq_eq_false_iff_ne.2 (by omega)
          have k3 : (ro == 3) = false := beq_eq_false_iff_ne.2 o3
          have k4 : (ro == 4) = false := beq_eq_false_iff_ne.2 o4
          have k5 : (ro == 5) = false := beq_eq_false_iff_ne.2 o5
          clear o1 o3 o4 o5 hoo HVS HCR HB0
          have HEX : Hid (prepE ⟨z, l, ss⟩ zz ⟨ro, rs, rp, rd, rv, rf⟩ = 4) := Lib.hid (by unfold prepE; rw [HA.out, if_pos rfl, HM.out, if_pos hne])
          have HXX : Hid (prepX ⟨z, l, ss⟩ zz ⟨ro, rs, rp, rd, rv, rf⟩ = noTxn) := Lib.hid (prepX_no (by rw [HEX.out]; exact hne))
          clear HM HA
          clear hne
          obtain ⟨wb, rfl⟩ : ∃ wb, wb = wa := ⟨_, rfl⟩
          have t0 : wb.cell? ⟨w.heap.size, 0, none⟩ = some (.int .i64 z) := HT3.out.cell 0
          have t1 : wb.cell? ⟨w.heap.size, 1, none⟩ = some (.slice A l.length c) := HT3.out.cell 1
          have t2 : wb.cell? ⟨w.heap.size, 2, none⟩ = some (.slice A2 ss.length c2) := HT3.out.cell 2
          have r0 : wb.cell? ⟨w.heap.size + 1, 0, none⟩ = some (.int .i64 ro) := HR5.out.cell 0
          have r1 : wb.cell? ⟨w.heap.size + 1, 1, none⟩ = some (.int .i64 rs) := HR5.out.cell 1
          have r2 : wb.cell? ⟨w.heap.size + 1, 2, none⟩ = some (.string rp) := HR5.out.cell 2
          have r3 : wb.cell? ⟨w.heap.size + 1, 3, none⟩ = some (.string rd) := HR5.out.cell 3
          have r4 : wb.cell? ⟨w.heap.size + 1, 4, none⟩ = some (.int .i64 rv) := HR5.out.cell 4
          have r5 : wb.cell? ⟨w.heap.size + 1, 5, none⟩ = some (.int .i64 rf) := HR5.out.cell 5
          have p0 : wb.cell? ⟨w.heap.size + 1 + 1, 0, none⟩ = some (.int .i64 0) := HP6.out.cell 0
          have pf0 : wb.frozen? ⟨w.heap.size + 1 + 1, 0, none⟩ = false := HP6.out.frozen 0
          have p1 : wb.cell? ⟨w.heap.size + 1 + 1, 1, none⟩ = some (.int .i64 0) := HP6.out.cell 1
          have pf1 : wb.frozen? ⟨w.heap.size + 1 + 1, 1, none⟩ = false := HP6.out.frozen 1
          have p2 : wb.cell? ⟨w.heap.size + 1 + 1, 2, none⟩ = some (.int .i64 0) := HP6.out.cell 2
          have pf2 : wb.frozen? ⟨w.heap.size + 1 + 1, 2, none⟩ = false := HP6.out.frozen 2
          have p3 : wb.cell? ⟨w.heap.size + 1 + 1, 3, none⟩ = some (.string ⟨#[]⟩) := HP6.out.cell 3
          have pf3 : wb.frozen? ⟨w.heap.size + 1 + 1, 3, none⟩ = false := HP6.out.frozen 3
          have p4 : wb.cell? ⟨w.heap.size + 1 + 1, 4, none⟩ = some (.string ⟨#[]⟩) := HP6.out.cell 4
          have pf4 : wb.frozen? ⟨w.heap.size + 1 + 1, 4, none⟩ = false := HP6.out.frozen 4
          have p5 : wb.cell? ⟨w.heap.size + 1 + 1, 5, none⟩ = some (.int .i64 0) := HP6.out.cell 5
          have pf5 : wb.frozen? ⟨w.heap.size + 1 + 1, 5, none⟩ = false := HP6.out.frozen 5
          have p6 : wb.cell? ⟨w.heap.size + 1 + 1, 6, none⟩ = some (.int .i64 0) := HP6.out.cell 6
          have pf6 : wb.frozen? ⟨w.heap.size + 1 + 1, 6, none⟩ = false := HP6.out.frozen 6
          go_wp2_with fail
          refine gen_e (fun W9 hW9 => ?_)
          have HP9 := Lib.hid (show Bk W9 (w.heap.size + 1 + 1) [.int .i64 0, .int .i64 0, .int .i64 0, .string ⟨#[]⟩, .string ⟨#[]⟩, .int .i64 0, .int .i64 0] 53 by rw [hW9.out]; exact Bk.below (((((((HP6.out.put 0 (.int .i64 0)).put 1 (.int .i64 0)).put 2 (.int .i64 0)).put 3 (.string ⟨#[]⟩)).put 4 (.string ⟨#[]⟩)).put 5 (.int .i64 0)).put 6 (.int .i64 0)) (by repeat (first | with_reducible (first | exact bA .. | assumption | exact bJ .. | exact bK .. | exact bL .. | exact bM .. | exact bN .. | refine bB ?_ | refine bC ?_ _ | refine bD _ _ ?_ | refine bE _ ?_ | refine bF ?_ ?_ _ | refine bG ?_ ?_ _ | refine bH _ _ _ ?_ ?_) | omega | (simp; done) | (simp; omega))))
          have hb9 : Below w.heap.size w W9 := by rw [hW9.out]; exact (by repeat (first | with_reducible (first | exact bA .. | assumption | exact bJ .. | exact bK .. | exact bL .. | exact bM .. | exact bN .. | refine bB ?_ | refine bC ?_ _ | refine bD _ _ ?_ | refine bE _ ?_ | refine bF ?_ ?_ _ | refine bG ?_ ?_ _ | refine bH _ _ _ ?_ ?_) | omega | (simp; done) | (simp; omega)))
          clear hW9 HP6 p0 p1 p2 p3 p4 p5 p6 pf0 pf1 pf2 pf3 pf4 pf5 pf6
          have p0 : W9.cell? ⟨w.heap.size + 1 + 1, 0, none⟩ = some (.int .i64 0) := HP9.out.cell 0
          have p1 : W9.cell? ⟨w.heap.size + 1 + 1, 1, none⟩ = some (.int .i64 0) := HP9.out.cell 1
          have p2 : W9.cell? ⟨w.heap.size + 1 + 1, 2, none⟩ = some (.int .i64 0) := HP9.out.cell 2
          have p3 : W9.cell? ⟨w.heap.size + 1 + 1, 3, none⟩ = some (.string ⟨#[]⟩) := HP9.out.cell 3
          have p4 : W9.cell? ⟨w.heap.size + 1 + 1, 4, none⟩ = some (.string ⟨#[]⟩) := HP9.out.cell 4
          have p5 : W9.cell? ⟨w.heap.size + 1 + 1, 5, none⟩ = some (.int .i64 0) := HP9.out.cell 5
          have p6 : W9.cell? ⟨w.heap.size + 1 + 1, 6, none⟩ = some (.int .i64 0) := HP9.out.cell 6
          refine bodyPost_ret (v := .tuple #[.agg #[.int .i64 0, .int .i64 0, .int .i64 0, .string ⟨#[]⟩, .string ⟨#[]⟩, .int .i64 0, .int .i64 0], .int .i64 4]) (by simp [results, Tryz.results14, go_sem, p0, p1, p2, p3, p4, p5, p6]) rfl ?_
          unfold PrepIs
          rw [HEX.out, HXX.out]
          exact ⟨rfl, hb9⟩
theorem trPrepare (z : Int) (v v2 : Value) (l : List Node) (ss : List Int) (zz : Int) (r : Request) (w : World) (h : Sl cNode 9 w v l) (h2 : Sl cInt 1 w v2 ss) (hn : l.length * 88 ≤ 140737488355328) (hn2 : ss.length * 8 ≤ 140737488355320) (hz : ∀ n ∈ l, n.path.size ≤ 9223372036854775807) (hp : r.path.size ≤ 4611686018427387904) :
    Calls Tryz.prog 14 #[.agg #[.int .i64 z, v, v2], .int .i64 zz, reqV r] w (PrepIs ⟨z, l, ss⟩ zz r w) := by
  cases ha : asked ⟨z, l, ss⟩ zz r with
  | false => exact trPrepare_no z v v2 l ss zz r w h h2 hn (by omega) hz ha
  | true => exact trPrepare_yes z v v2 l ss zz r w h h2 hn hn2 hz hp ha
end Go.Proofs.YtchgpijfebilbaaGreatDoor

/- store.Commit: what it holds while it goes through the log. -/
namespace Go.Proofs.YtchgpijfebilbaaGreatDoor
open Go.RowKit Go.ChangeShapes Go.WideShapes Go.ChangeAt
def pS (p0 : Nat → Prop) (gs gr : Nat) (av : Value) : Nat → Prop := fun q => p0 q ∨ q = gs ∨ q = gr ∨ av.ownBlock = some q
abbrev srvZ : List Value := [.bool false, .slice none 0 0, .int .i64 0, .int .i64 0, .slice none 0 0, .int .i64 0, .int .i64 0, .slice none 0 0, .slice none 0 0, .slice none 0 0]
structure Cm (p0 : Nat → Prop) (W1 : World) (gs gr : Nat) (up : Bool) (dv lv : Value) (id ep dn : Int) (D : List File) (L : List Txn) (w : World) (t : Tr) (nv sv wv : Value) (ws : List Watch) (av : Value) (notes : List Note) : Prop where
  ne : gs ≠ gr
  o1 : W1.heap.size ≤ gs
  o2 : W1.heap.size ≤ gr
  bel : Below W1.heap.size W1 w
  box : Bk w gs [.bool up, dv, .int .i64 id, .int .i64 ep, lv, .int .i64 dn, .int .i64 t.zxid, nv, sv, wv] 36
  res : Bk w gr srvZ 36
  dsk : SlA (pS p0 gs gr av) cFile 3 w dv D
  log : SlA (pS p0 gs gr av) cTxn 7 w lv L
  nod : SlA (pS p0 gs gr av) cNode 9 w nv t.nodes
  ses : SlA (pS p0 gs gr av) cInt 1 w sv t.sess
  wat : SlA (pS p0 gs gr av) cWatch 3 w wv ws
  all : Ow cNote 3 102 w W1.heap.size av notes
theorem ow_typeC {α : Type} {f : α → List Value} {s0 : Nat} {e t : TypeId} {w : World} {B g : Nat} {v : Value} {L : List α} {pp : List Value} (ho : Ow f s0 e w B v L) (hb : Bk w g pp t) (ht : t ≠ e) : v.ownBlock ≠ some g := by
  intro hq
  rcases ho.1.2 with ⟨rfl, _⟩ | ⟨k, cap, cur, rfl, hb2, hg, _⟩
  · cases hq
  · have e1 : k = g := by simpa [Value.ownBlock] using hq
    subst e1
    unfold Bk at hb
    rw [hg] at hb
    injection hb with hb
    injection hb with _ hb _
    exact ht hb.symm
theorem SlA.grow {α : Type} {p p' : Nat → Prop} {f : α → List Value} {s : Nat} {w w' : World} {v : Value} {l : List α} {r : Option Nat} (h : SlA p f s w v l) (hg : w.grownBy w' r) (hr : ∀ q, r = some q → p q) (hp : ∀ q, p' q → p q ∨ w.heap.size ≤ q) : SlA p' f s w' v l := by
  have h2 := h.more hp
  refine ⟨?_, h2.2⟩
  obtain ⟨A, c, hv, h1, h2, h3, h4⟩ := h.1
  refine ⟨A, c, hv, h1, h2, h3, fun h0 => ?_⟩
  obtain ⟨b, off, rfl, hb, hc⟩ := h4 h0
  have hnp : some b ≠ r := by
    intro e
    have hp := hr b e.symm
    rcases h.2 with h5 | h5
    · rw [h5] at h0; simp at h0
    · exact h5 b hp (by rw [hv]; rfl)
  exact ⟨b, off, rfl, Nat.lt_of_lt_of_le hb hg.size, fun i x hx j u hu => (World.cell?_of_block (hg.block b hb hnp)).trans (hc i x hx j u hu)⟩
section
variable {p0 : Nat → Prop} {W1 : World} {gs gr : Nat} {up : Bool} {dv lv : Value} {id ep dn : Int} {D : List File} {L : List Txn} {w w' : World} {t t' : Tr} {nv sv wv nv' sv' wv' : Value} {ws ws' : List Watch} {av : Value} {notes : List Note}
theorem Cm.below (h : Cm p0 W1 gs gr up dv lv id ep dn D L w t nv sv wv ws av notes) (hb : Below w.heap.size w w') : Cm p0 W1 gs gr up dv lv id ep dn D L w' t nv sv wv ws av notes :=
  ⟨h.ne, h.o1, h.o2, h.bel.trans (hb.mono h.bel.size), h.box.below hb, h.res.below hb, h.dsk.below hb, h.log.below hb, h.nod.below hb, h.ses.below hb, h.wat.below hb, h.all.below hb⟩
theorem below_set {W1 x : World} {g j : Nat} {u : Value} (hb : Below W1.heap.size W1 x) (ho : W1.heap.size ≤ g) : Below W1.heap.size W1 (x.setCell ⟨g, j, none⟩ u) :=
  hb.grown (grownBy_setCell x g j u) hb.size (fun k hk => by injection hk with hk; exact hk ▸ ho)
theorem Cm.put (h : Cm p0 W1 gs gr up dv lv id ep dn D L w t nv sv wv ws av notes) (hn : SlA (pS p0 gs gr av) cNode 9 w nv' t'.nodes) (hs : SlA (pS p0 gs gr av) cInt 1 w sv' t'.sess) (hw : SlA (pS p0 gs gr av) cWatch 3 w wv' ws') :
    Cm p0 W1 gs gr up dv lv id ep dn D L ((((w.setCell ⟨gs, 6, none⟩ (.int .i64 t'.zxid)).setCell ⟨gs, 7, none⟩ nv').setCell ⟨gs, 8, none⟩ sv').setCell ⟨gs, 9, none⟩ wv') t' nv' sv' wv' ws' av notes := by
  have hsw : Swap (pS p0 gs gr av) w ((((w.setCell ⟨gs, 6, none⟩ (.int .i64 t'.zxid)).setCell ⟨gs, 7, none⟩ nv').setCell ⟨gs, 8, none⟩ sv').setCell ⟨gs, 9, none⟩ wv') :=
    ((((Swap.refl _ w).set gs 6 _ (.inr (.inl rfl))).set gs 7 _ (.inr (.inl rfl))).set gs 8 _ (.inr (.inl rfl))).set gs 9 _ (.inr (.inl rfl))
  have k := ow_typeC h.all h.box (by decide)
  exact ⟨h.ne, h.o1, h.o2, below_set (below_set (below_set (below_set h.bel h.o1) h.o1) h.o1) h.o1, (((h.box.put 6 _).put 7 _).put 8 _).put 9 _, (((h.res.far h.ne.symm).far h.ne.symm).far h.ne.symm).far h.ne.symm, h.dsk.swap hsw, h.log.swap hsw, hn.swap hsw, hs.swap hsw, hw.swap hsw, (((h.all.far2 k).far2 k).far2 k).far2 k⟩
theorem Cm.push {av' : Value} {notes' : List Note} (h : Cm p0 W1 gs gr up dv lv id ep dn D L w t nv sv wv ws av notes) (hg : w.grownBy w' av.ownBlock) (ho : Ow cNote 3 102 w' W1.heap.size av' notes') (ha : av'.ownBlock = av.ownBlock ∨ ∃ q, av'.ownBlock = some q ∧ w.heap.size ≤ q) : Cm p0 W1 gs gr up dv lv id ep dn D L w' t nv sv wv ws av' notes' := by
  have hr : ∀ q, av.ownBlock = some q → pS p0 gs gr av q := fun q hq => .inr (.inr (.inr hq))
  have hp : ∀ q, pS p0 gs gr av' q → pS p0 gs gr av q ∨ w.heap.size ≤ q := by
    intro q hq
    rcases hq with hq | hq | hq | hq
    · exact .inl (.inl hq)
    · exact .inl (.inr (.inl hq))
    · exact .inl (.inr (.inr (.inl hq)))
    · rcases ha with e | ⟨q', e, hle⟩
      · exact .inl (.inr (.inr (.inr (e ▸ hq))))
      · rw [hq] at e
        injection e with e
        exact .inr (e ▸ hle)
  exact ⟨h.ne, h.o1, h.o2, h.bel.grown hg h.bel.size (fun k hk => (h.all.own_in hk).1), h.box.grown hg (fun e => ow_typeC h.all h.box (by decide) e.symm), h.res.grown hg (fun e => ow_typeC h.all h.res (by decide) e.symm), h.dsk.grow hg hr hp, h.log.grow hg hr hp, h.nod.grow hg hr hp, h.ses.grow hg hr hp, h.wat.grow hg hr hp, ho⟩
end
end Go.Proofs.YtchgpijfebilbaaGreatDoor

/- watch.Fire, and that what is left lies in new memory. -/
namespace Go.Proofs.YtchgpijfebilbaaGreatDoor
open Go.RowKit Go.ChangeShapes Go.WideShapes Go.ChangeAt
def FireAt (l : List Watch) (evs : List Event) (w : World) (e : Ending) (w' : World) : Prop :=
  ∃ A c A2, e = .returned (.tuple #[.slice A (fireS l evs).1.length c, .slice A2 (fireS l evs).2.length (fireS l evs).2.length]) ∧ Ow cNote 3 102 w' w.heap.size (.slice A (fireS l evs).1.length c) (fireS l evs).1 ∧ Sl cWatch 3 w' (.slice A2 (fireS l evs).2.length (fireS l evs).2.length) (fireS l evs).2 ∧ Below w.heap.size w w' ∧ ((fireS l evs).2 = [] ∨ ∃ g, A2 = some ⟨g, 0, none⟩ ∧ w.heap.size ≤ g)
set_option maxHeartbeats 2000000 in
theorem fire_at (v v2 : Value) (l : List Watch) (evs : List Event) (w : World) (h : Sl cWatch 3 w v l) (h2 : Sl cEvent 2 w v2 evs) (hn : (l.length + 1) * 32 ≤ 140737488355328) (hm : evs.length ≤ 140737488355328) :
    Calls Tryz.prog 17 #[v, v2] w (FireAt l evs w) := by
  obtain ⟨A, c, rfl, hc1, hc2⟩ := h.form
  obtain ⟨A2, c2, rfl, hc3, hc4⟩ := h2.form
  have H := Lib.hid h
  have H2 := Lib.hid h2
  have HD := Lib.hid (fun (ev : Event) (W : World) (bn be c : Nat) (A : Option Addr) (l : List Watch) (notes : List Note) (cs : List Value) (hcs : cs = cEvent ev) (h : LeftIs w W bn A c notes l) (hbe : be = W.heap.size) (hc : l.length ≤ c) (hcm : c ≤ 9223372036854775807) (hn : (notes.length + l.length + 1) * 32 ≤ 140737488355328) => deleteLeft ev w W bn be c A l notes cs hcs h hbe hc hcm hn)
  clear h h2
  go_enter Tryz.func17, Tryz.ntmps17
  go_wp2_with fail
  refine (cloneWatch _ l _ H.out (by omega) (by simp [maxLen]; omega)).mono ?_
  rintro e w1 ⟨A1, c1, rfl, ho, hb⟩
  have hW2 : Below w.heap.size w (w1.alloc (.cells #[.slice none 0 0] 42)) := hb.alloc hb.size _
  have hstart : (A1 = none → c1 = 0) ∧ l.length ≤ c1 ∧ c1 ≤ maxLen ∧ LeftIs w (w1.alloc (.cells #[.slice none 0 0] 42)) w1.heap.size A1 c1 [] l := by
    have hbn : Bk (w1.alloc (.cells #[.slice none 0 0] 42)) w1.heap.size [.slice none 0 0] 42 := by unfold Bk; show (w1.heap.push _)[w1.heap.size]? = _; simp
    have hsz := hb.size
    obtain ⟨A', c', e1, f1, f2, f3, f4⟩ := ho.form
    injection e1 with e1 e2 e3
    subst e1
    subst e3
    refine ⟨fun e => (f3 e).2, f1, f2, ?_⟩
    rcases Nat.eq_zero_or_pos l.length with h0 | h0
    · obtain rfl := List.eq_nil_of_length_eq_zero h0
      exact .inl ⟨rfl, fun e => (f3 e).2, none, 0, hW2, hsz, hbn, Ow.nil _ _ _ _ _, by simp [Value.ownBlock], by simp⟩
    · obtain ⟨g, J, rfl, hg, hbk, _, _, _, _⟩ := ho.blk h0
      have hbk2 := hbk.below (below_alloc0 (.cells #[.slice none 0 0] 42) (Below.refl _ _))
      refine .inr ⟨g, J, rfl, hg, none, 0, hW2, hsz, hbn, Ow.nil _ _ _ _ _, by simp [Value.ownBlock], fun b hm => ?_⟩
      obtain rfl := List.mem_singleton.1 hm
      exact ⟨hbk2, by have := hbk.lt; show g ≠ _; omega, by simp [Value.ownBlock]⟩
  have HST := Lib.hid hstart
  have HSZ := Lib.hid hb.size
  clear hb hW2 hstart ho
  go_wp2_with fail
  have hl0 : l = (fireS l (evs.take 0)).2 := rfl
  go_loopw [6, 14] (fun s i wr => ∃ (k : Nat) (A' : Option Addr) (c' : Nat), k ≤ evs.length ∧ i = .int .i64 k ∧ s = .slice A' (fireS l (evs.take k)).2.length c' ∧ (fireS l (evs.take k)).2.length ≤ c' ∧ c' ≤ 9223372036854775807 ∧ Hid (LeftIs w wr w1.heap.size A' c' (fireS l (evs.take k)).1 (fireS l (evs.take k)).2)) (fun _ i _ => evs.length - (intOf i).toNat)
  case atStart => exact ⟨0, A1, c1, Nat.zero_le _, rfl, rfl, HST.out.2.1, Nat.le_trans HST.out.2.2.1 (by decide), Lib.hid HST.out.2.2.2⟩
  case round =>
    obtain ⟨k, A', c', hk, rfl, rfl, hc', hcm', hleft⟩ := hrel
    clear hl0
    have HLEN := Lib.hid (fireS_len l (evs.take k))
    have hbase : Below w.heap.size w wr := by
      rcases hleft.out with ⟨_, _, hf⟩ | ⟨_, _, _, _, hf⟩ <;> exact hf.base
    by_cases hlt : k < evs.length
    · have hx : evs[k]? = some (evs[k]'hlt) := List.getElem?_eq_getElem _
      have HSUC := Lib.hid (fireS_succ (l := l) hx)
      obtain ⟨b, off, rfl, _, c0, c1'⟩ := (H2.out.below hbase).Event_at hx
      generalize hxe : evs[k]'hlt = x at hx c0 c1' HSUC
      generalize hNS : (fireS l (evs.take k)).1 = NS at *
      generalize hL : (fireS l (evs.take k)).2 = L at *
      have hbound : (NS.length + L.length + 1) * 32 ≤ 140737488355328 := by rw [HLEN.out]; exact hn
      have HCALL := Lib.hid (HD.out x wr w1.heap.size wr.heap.size c' A' L NS (cEvent x) rfl hleft.out rfl hc' hcm' hbound)
      have HXE := Lib.hid hx
      clear hbase hx hxe hNS hL hbound
      go_wp2_with (first | (go_at_call 38; refine (HCALL.out).mono ?_; rintro e w2 ⟨c5, rfl, hc5, hcm5, hl5⟩; skip))
      go_roundw
      case rel => exact ⟨k + 1, A', c5, by omega, by go_num, by rw [HSUC.out], by rw [HSUC.out]; exact hc5, hcm5, by rw [HSUC.out]; exact hl5⟩
      case measure => simp [intOf]; omega
    · have hk' : k = evs.length := by omega
      subst hk'
      rw [List.take_length] at hleft hc' HLEN ⊢
      have hA : A' = none → c' = 0 := by
        rcases hleft.out with ⟨_, h, _⟩ | ⟨_, _, h, _⟩
        · exact h
        · intro e; rw [e] at h; cases h
      have hsl : Sl cWatch 3 wr (.slice A' (fireS l evs).2.length (fireS l evs).2.length) (fireS l evs).2 := by
        rcases hleft.out with ⟨h, _, _⟩ | ⟨g, J, rfl, _, hf⟩
        · rw [h]; exact Sl.empty _ _ _ _ (by decide)
        · exact Sl.of_bk (hf.bk List.mem_cons_self) (fun _ => rfl) (Nat.le_refl _) (by have := HLEN.out; simp [maxLen]; omega)
      have hfs : FS w wr w1.heap.size (fireS l evs).1 [] := by
        rcases hleft.out with ⟨_, _, hf⟩ | ⟨_, _, _, _, hf⟩
        · exact hf
        · exact hf.sub (by simp)
      obtain ⟨An, cn, _, _, hnb, hown, _, _⟩ := hfs
      have n0 : wr.cell? ⟨w1.heap.size, 0, none⟩ = some (.slice An (fireS l evs).1.length cn) := hnb.cell 0
      have HCL := Lib.hid (fun (W : World) => clipWatch A' (fireS l evs).2.length c' W hc' hA hcm')
      have HSL := Lib.hid hsl
      have HOW := Lib.hid hown
      have HAT : Hid ((fireS l evs).2 = [] ∨ ∃ g, A' = some ⟨g, 0, none⟩ ∧ w.heap.size ≤ g) := Lib.hid (by
        rcases hleft.out with ⟨h, _, _⟩ | ⟨g, J, rfl, hg, _⟩
        · exact .inl h
        · exact .inr ⟨g, rfl, hg⟩)
      have HBA := Lib.hid hbase
      clear hA hsl hnb hown hbase
      generalize hS : fireS l evs = S at *
      have HSE := Lib.hid hS
      clear hS
      go_wp2_with fail
      go_quiet (first | (go_at_call 41; with_reducible refine Calls.quiet_of_same ((HCL.out _).mono fun e w' h => ⟨h.1, h.2.symm⟩)))
      go_wp2_with fail
      refine bodyPost_ret (v := .tuple #[.slice An S.1.length cn, .slice A' S.2.length S.2.length]) (by simp [results, Tryz.results17, go_sem]) rfl ?_
      unfold FireAt
      rw [HSE.out]
      exact ⟨An, cn, A', rfl, HOW.out.drewN _, HSL.out.drewN _, Below.drewN' HBA.out _, HAT.out⟩
end Go.Proofs.YtchgpijfebilbaaGreatDoor
