/- Lemmas for the statement: Wrong, HandK, HandR, HandC, T4I, T5I. -/
import Derived.Test.YtchgpijfebilbaaGreatDoorPt1
import Derived.Test.YtchgpijfebilbaaGreatDoorPt2
import Derived.Test.YtchgpijfebilbaaGreatDoorPt3
import Derived.Test.YtchgpijfebilbaaGreatDoorPt4
import Derived.Test.YtchgpijfebilbaaGreatDoorPt5
import Derived.Test.YtchgpijfebilbaaGreatDoorPt6
import Derived.Test.YtchgpijfebilbaaGreatDoorPt7
import Derived.Test.YtchgpijfebilbaaGreatDoorPt8
/- package tree: wrong. -/
namespace Go.Proofs.YtchgpijfebilbaaGreatDoor
open Go.RowKit Go.ChangeShapes Go.WideShapes Go.ChangeAt
set_option maxRecDepth 100000 in
set_option maxHeartbeats 10000000 in
theorem trWrong (z : Int) (v v2 : Value) (l : List Node) (ss : List Int) (x : Txn) (w : World) (h : Sl cNode 9 w v l) (h2 : Sl cInt 1 w v2 ss) (hn : l.length ≤ 140737488355328) (hn2 : ss.length ≤ 140737488355328) (hz : ∀ n ∈ l, n.path.size ≤ 9223372036854775807) (hp : x.path.size ≤ 9223372036854775807) :
    Calls Tryz.prog 19 #[.agg #[.int .i64 z, v, v2], txnV x] w fun e w' => e = .returned (.int .i64 (wrongE ⟨z, l, ss⟩ x)) ∧ Below w.heap.size w w' := by
  obtain ⟨A, c, rfl, h1, h1b⟩ := h.form
  obtain ⟨A2, c2, rfl, h3, h3b⟩ := h2.form
  have HV := Lib.hid h
  have HS := Lib.hid h2
  have HGD := Lib.hid (fun (W : World) (h : Sl cNode 9 W (.slice A l.length c) l) (h2 : Sl cInt 1 W (.slice A2 ss.length c2) ss) => trGood z (.slice A l.length c) (.slice A2 ss.length c2) l ss W h h2 hn2 hz)
  have HWG := Lib.hid (fun (W : World) => tgood_any x W hp)
  have HOP := Lib.hid (fun (W : World) (h : Sl cInt 1 W (.slice A2 ss.length c2) ss) => trOpen z (.slice A2 ss.length c2) A l.length c ss x.session W h hn2)
  have HGT := Lib.hid (fun (W : World) (h : Sl cNode 9 W (.slice A l.length c) l) => trGet z (.slice A l.length c) A2 ss.length c2 l x.path W h hn)
  have HLK := Lib.hid (fun (W : World) (h : Sl cNode 9 W (.slice A l.length c) l) (h2 : Sl cInt 1 W (.slice A2 ss.length c2) ss) => trLacks z (.slice A l.length c) (.slice A2 ss.length c2) l ss x (getE l x.path) W h h2 hn hp)
  have hle := lacks_is ⟨z, l, ss⟩ x
  simp only at hle
  unfold wrongE
  rw [← hle]
  have hver : goodTree ⟨z, l, ss⟩ = true → hasN l x.path = true → 0 ≤ (getN l x.path).version ∧ (getN l x.path).version ≤ 2147483647 := fun hg hk => by
    have := (good_parts hg).1.stat _ (get_mem hk).1
    omega
  clear h h2 hz hle
  generalize lacksX l x (getE l x.path) = lk at *
  generalize goodT x = tg at *
  unfold getE at HGT HLK
  obtain ⟨xz, xo, xs, xp, xd, xv, xw⟩ := x
  simp only at *
  generalize goodTree ⟨z, l, ss⟩ = gt at *
  generalize getN l xp = g at *
  generalize isI ss xs = op at *
  obtain ⟨gp, gd, g1, g2, g3, g4, g5, go, gk⟩ := g
  simp only at hver HGT
  cases gt with
  | false =>
    rw [if_pos rfl]
    clear hver
    go_enter Tryz.func19, Tryz.ntmps19
    go_wp2_with (first | (go_at_call 29; refine (HGD.out _ (HV.out.below (by repeat (first | with_reducible (first | exact bA .. | assumption | exact bJ .. | exact bK .. | exact bL .. | exact bM .. | exact bN .. | refine bB ?_ | refine bC ?_ _ | refine bD _ _ ?_ | refine bE _ ?_ | refine bF ?_ ?_ _ | refine bG ?_ ?_ _ | refine bH _ _ _ ?_ ?_) | omega | (simp; done) | (simp; omega)))) (HS.out.below (by repeat (first | with_reducible (first | exact bA .. | assumption | exact bJ .. | exact bK .. | exact bL .. | exact bM .. | exact bN .. | refine bB ?_ | refine bC ?_ _ | refine bD _ _ ?_ | refine bE _ ?_ | refine bF ?_ ?_ _ | refine bG ?_ ?_ _ | refine bH _ _ _ ?_ ?_) | omega | (simp; done) | (simp; omega))))).mono ?_; rintro e w1 ⟨rfl, hb⟩; obtain ⟨ext1, d1, rfl⟩ := Below.grown_eq _ hb; clear hb) | (go_at_call 42; refine (HWG.out _).mono ?_; rintro e w1 ⟨rfl, hb⟩; obtain ⟨ext2, d2, rfl⟩ := Below.grown_eq _ hb; clear hb) | (go_at_call 43; refine (HOP.out _ (HS.out.below (by repeat (first | with_reducible (first | exact bA .. | assumption | exact bJ .. | exact bK .. | exact bL .. | exact bM .. | exact bN .. | refine bB ?_ | refine bC ?_ _ | refine bD _ _ ?_ | refine bE _ ?_ | refine bF ?_ ?_ _ | refine bG ?_ ?_ _ | refine bH _ _ _ ?_ ?_) | omega | (simp; done) | (simp; omega))))).mono ?_; rintro e w1 ⟨rfl, hb⟩; obtain ⟨ext3, d3, rfl⟩ := Below.grown_eq _ hb; clear hb) | (go_at_call 44; refine (HGT.out _ (HV.out.below (by repeat (first | with_reducible (first | exact bA .. | assumption | exact bJ .. | exact bK .. | exact bL .. | exact bM .. | exact bN .. | refine bB ?_ | refine bC ?_ _ | refine bD _ _ ?_ | refine bE _ ?_ | refine bF ?_ ?_ _ | refine bG ?_ ?_ _ | refine bH _ _ _ ?_ ?_) | omega | (simp; done) | (simp; omega))))).mono ?_; rintro e w1 ⟨rfl, hb⟩; obtain ⟨ext4, d4, rfl⟩ := Below.grown_eq _ hb; clear hb) | (go_at_call 45; refine (HLK.out _ (HV.out.below (by repeat (first | with_reducible (first | exact bA .. | assumption | exact bJ .. | exact bK .. | exact bL .. | exact bM .. | exact bN .. | refine bB ?_ | refine bC ?_ _ | refine bD _ _ ?_ | refine bE _ ?_ | refine bF ?_ ?_ _ | refine bG ?_ ?_ _ | refine bH _ _ _ ?_ ?_) | omega | (simp; done) | (simp; omega)))) (HS.out.below (by repeat (first | with_reducible (first | exact bA .. | assumption | exact bJ .. | exact bK .. | exact bL .. | exact bM .. | exact bN .. | refine bB ?_ | refine bC ?_ _ | refine bD _ _ ?_ | refine bE _ ?_ | refine bF ?_ ?_ _ | refine bG ?_ ?_ _ | refine bH _ _ _ ?_ ?_) | omega | (simp; done) | (simp; omega))))).mono ?_; rintro e w1 ⟨rfl, hb⟩; obtain ⟨ext5, d5, rfl⟩ := Below.grown_eq _ hb; clear hb))
    go_ret
    exact ⟨rfl, (by repeat (first | with_reducible (first | exact bA .. | assumption | exact bJ .. | exact bK .. | exact bL .. | exact bM .. | exact bN .. | refine bB ?_ | refine bC ?_ _ | refine bD _ _ ?_ | refine bE _ ?_ | refine bF ?_ ?_ _ | refine bG ?_ ?_ _ | refine bH _ _ _ ?_ ?_) | omega | (simp; done) | (simp; omega)))⟩
  | true =>
    rw [if_neg (by simp)]
    by_cases a1 : tg = 0
    case neg =>
      rw [if_pos a1]
      have q1 : (tg == 0) = false := beq_eq_false_iff_ne.2 a1
      clear hver
      go_enter Tryz.func19, Tryz.ntmps19
      go_wp2_with (first | (go_at_call 29; refine (HGD.out _ (HV.out.below (by repeat (first | with_reducible (first | exact bA .. | assumption | exact bJ .. | exact bK .. | exact bL .. | exact bM .. | exact bN .. | refine bB ?_ | refine bC ?_ _ | refine bD _ _ ?_ | refine bE _ ?_ | refine bF ?_ ?_ _ | refine bG ?_ ?_ _ | refine bH _ _ _ ?_ ?_) | omega | (simp; done) | (simp; omega)))) (HS.out.below (by repeat (first | with_reducible (first | exact bA .. | assumption | exact bJ .. | exact bK .. | exact bL .. | exact bM .. | exact bN .. | refine bB ?_ | refine bC ?_ _ | refine bD _ _ ?_ | refine bE _ ?_ | refine bF ?_ ?_ _ | refine bG ?_ ?_ _ | refine bH _ _ _ ?_ ?_) | omega | (simp; done) | (simp; omega))))).mono ?_; rintro e w1 ⟨rfl, hb⟩; obtain ⟨ext1, d1, rfl⟩ := Below.grown_eq _ hb; clear hb) | (go_at_call 42; refine (HWG.out _).mono ?_; rintro e w1 ⟨rfl, hb⟩; obtain ⟨ext2, d2, rfl⟩ := Below.grown_eq _ hb; clear hb) | (go_at_call 43; refine (HOP.out _ (HS.out.below (by repeat (first | with_reducible (first | exact bA .. | assumption | exact bJ .. | exact bK .. | exact bL .. | exact bM .. | exact bN .. | refine bB ?_ | refine bC ?_ _ | refine bD _ _ ?_ | refine bE _ ?_ | refine bF ?_ ?_ _ | refine bG ?_ ?_ _ | refine bH _ _ _ ?_ ?_) | omega | (simp; done) | (simp; omega))))).mono ?_; rintro e w1 ⟨rfl, hb⟩; obtain ⟨ext3, d3, rfl⟩ := Below.grown_eq _ hb; clear hb) | (go_at_call 44; refine (HGT.out _ (HV.out.below (by repeat (first | with_reducible (first | exact bA .. | assumption | exact bJ .. | exact bK .. | exact bL .. | exact bM .. | exact bN .. | refine bB ?_ | refine bC ?_ _ | refine bD _ _ ?_ | refine bE _ ?_ | refine bF ?_ ?_ _ | refine bG ?_ ?_ _ | refine bH _ _ _ ?_ ?_) | omega | (simp; done) | (simp; omega))))).mono ?_; rintro e w1 ⟨rfl, hb⟩; obtain ⟨ext4, d4, rfl⟩ := Below.grown_eq _ hb; clear hb) | (go_at_call 45; refine (HLK.out _ (HV.out.below (by repeat (first | with_reducible (first | exact bA .. | assumption | exact bJ .. | exact bK .. | exact bL .. | exact bM .. | exact bN .. | refine bB ?_ | refine bC ?_ _ | refine bD _ _ ?_ | refine bE _ ?_ | refine bF ?_ ?_ _ | refine bG ?_ ?_ _ | refine bH _ _ _ ?_ ?_) | omega | (simp; done) | (simp; omega)))) (HS.out.below (by repeat (first | with_reducible (first | exact bA .. | assumption | exact bJ .. | exact bK .. | exact bL .. | exact bM .. | exact bN .. | refine bB ?_ | refine bC ?_ _ | refine bD _ _ ?_ | refine bE _ ?_ | refine bF ?_ ?_ _ | refine bG ?_ ?_ _ | refine bH _ _ _ ?_ ?_) | omega | (simp; done) | (simp; omega))))).mono ?_; rintro e w1 ⟨rfl, hb⟩; obtain ⟨ext5, d5, rfl⟩ := Below.grown_eq _ hb; clear hb))
      go_ret
      exact ⟨rfl, (by repeat (first | with_reducible (first | exact bA .. | assumption | exact bJ .. | exact bK .. | exact bL .. | exact bM .. | exact bN .. | refine bB ?_ | refine bC ?_ _ | refine bD _ _ ?_ | refine bE _ ?_ | refine bF ?_ ?_ _ | refine bG ?_ ?_ _ | refine bH _ _ _ ?_ ?_) | omega | (simp; done) | (simp; omega)))⟩
    subst a1
    rw [if_neg (by simp)]
    by_cases a2 : xz ≤ z
    · rw [if_pos a2]
      have q2 : decide (xz ≤ z) = true := decide_eq_true a2
      clear hver
      go_enter Tryz.func19, Tryz.ntmps19
      go_wp2_with (first | (go_at_call 29; refine (HGD.out _ (HV.out.below (by repeat (first | with_reducible (first | exact bA .. | assumption | exact bJ .. | exact bK .. | exact bL .. | exact bM .. | exact bN .. | refine bB ?_ | refine bC ?_ _ | refine bD _ _ ?_ | refine bE _ ?_ | refine bF ?_ ?_ _ | refine bG ?_ ?_ _ | refine bH _ _ _ ?_ ?_) | omega | (simp; done) | (simp; omega)))) (HS.out.below (by repeat (first | with_reducible (first | exact bA .. | assumption | exact bJ .. | exact bK .. | exact bL .. | exact bM .. | exact bN .. | refine bB ?_ | refine bC ?_ _ | refine bD _ _ ?_ | refine bE _ ?_ | refine bF ?_ ?_ _ | refine bG ?_ ?_ _ | refine bH _ _ _ ?_ ?_) | omega | (simp; done) | (simp; omega))))).mono ?_; rintro e w1 ⟨rfl, hb⟩; obtain ⟨ext1, d1, rfl⟩ := Below.grown_eq _ hb; clear hb) | (go_at_call 42; refine (HWG.out _).mono ?_; rintro e w1 ⟨rfl, hb⟩; obtain ⟨ext2, d2, rfl⟩ := Below.grown_eq _ hb; clear hb) | (go_at_call 43; refine (HOP.out _ (HS.out.below (by repeat (first | with_reducible (first | exact bA .. | assumption | exact bJ .. | exact bK .. | exact bL .. | exact bM .. | exact bN .. | refine bB ?_ | refine bC ?_ _ | refine bD _ _ ?_ | refine bE _ ?_ | refine bF ?_ ?_ _ | refine bG ?_ ?_ _ | refine bH _ _ _ ?_ ?_) | omega | (simp; done) | (simp; omega))))).mono ?_; rintro e w1 ⟨rfl, hb⟩; obtain ⟨ext3, d3, rfl⟩ := Below.grown_eq _ hb; clear hb) | (go_at_call 44; refine (HGT.out _ (HV.out.below (by repeat (first | with_reducible (first | exact bA .. | assumption | exact bJ .. | exact bK .. | exact bL .. | exact bM .. | exact bN .. | refine bB ?_ | refine bC ?_ _ | refine bD _ _ ?_ | refine bE _ ?_ | refine bF ?_ ?_ _ | refine bG ?_ ?_ _ | refine bH _ _ _ ?_ ?_) | omega | (simp; done) | (simp; omega))))).mono ?_; rintro e w1 ⟨rfl, hb⟩; obtain ⟨ext4, d4, rfl⟩ := Below.grown_eq _ hb; clear hb) | (go_at_call 45; refine (HLK.out _ (HV.out.below (by repeat (first | with_reducible (first | exact bA .. | assumption | exact bJ .. | exact bK .. | exact bL .. | exact bM .. | exact bN .. | refine bB ?_ | refine bC ?_ _ | refine bD _ _ ?_ | refine bE _ ?_ | refine bF ?_ ?_ _ | refine bG ?_ ?_ _ | refine bH _ _ _ ?_ ?_) | omega | (simp; done) | (simp; omega)))) (HS.out.below (by repeat (first | with_reducible (first | exact bA .. | assumption | exact bJ .. | exact bK .. | exact bL .. | exact bM .. | exact bN .. | refine bB ?_ | refine bC ?_ _ | refine bD _ _ ?_ | refine bE _ ?_ | refine bF ?_ ?_ _ | refine bG ?_ ?_ _ | refine bH _ _ _ ?_ ?_) | omega | (simp; done) | (simp; omega))))).mono ?_; rintro e w1 ⟨rfl, hb⟩; obtain ⟨ext5, d5, rfl⟩ := Below.grown_eq _ hb; clear hb))
      go_ret
      exact ⟨rfl, (by repeat (first | with_reducible (first | exact bA .. | assumption | exact bJ .. | exact bK .. | exact bL .. | exact bM .. | exact bN .. | refine bB ?_ | refine bC ?_ _ | refine bD _ _ ?_ | refine bE _ ?_ | refine bF ?_ ?_ _ | refine bG ?_ ?_ _ | refine bH _ _ _ ?_ ?_) | omega | (simp; done) | (simp; omega)))⟩
    · rw [if_neg a2]
      have q2 : decide (xz ≤ z) = false := decide_eq_false a2
      by_cases a3 : xo = 1
      · subst a3
        rw [if_pos rfl]
        clear hver
        cases op with
        | true =>
          rw [if_pos rfl]
          go_enter Tryz.func19, Tryz.ntmps19
          go_wp2_with (first | (go_at_call 29; refine (HGD.out _ (HV.out.below (by repeat (first | with_reducible (first | exact bA .. | assumption | exact bJ .. | exact bK .. | exact bL .. | exact bM .. | exact bN .. | refine bB ?_ | refine bC ?_ _ | refine bD _ _ ?_ | refine bE _ ?_ | refine bF ?_ ?_ _ | refine bG ?_ ?_ _ | refine bH _ _ _ ?_ ?_) | omega | (simp; done) | (simp; omega)))) (HS.out.below (by repeat (first | with_reducible (first | exact bA .. | assumption | exact bJ .. | exact bK .. | exact bL .. | exact bM .. | exact bN .. | refine bB ?_ | refine bC ?_ _ | refine bD _ _ ?_ | refine bE _ ?_ | refine bF ?_ ?_ _ | refine bG ?_ ?_ _ | refine bH _ _ _ ?_ ?_) | omega | (simp; done) | (simp; omega))))).mono ?_; rintro e w1 ⟨rfl, hb⟩; obtain ⟨ext1, d1, rfl⟩ := Below.grown_eq _ hb; clear hb) | (go_at_call 42; refine (HWG.out _).mono ?_; rintro e w1 ⟨rfl, hb⟩; obtain ⟨ext2, d2, rfl⟩ := Below.grown_eq _ hb; clear hb) | (go_at_call 43; refine (HOP.out _ (HS.out.below (by repeat (first | with_reducible (first | exact bA .. | assumption | exact bJ .. | exact bK .. | exact bL .. | exact bM .. | exact bN .. | refine bB ?_ | refine bC ?_ _ | refine bD _ _ ?_ | refine bE _ ?_ | refine bF ?_ ?_ _ | refine bG ?_ ?_ _ | refine bH _ _ _ ?_ ?_) | omega | (simp; done) | (simp; omega))))).mono ?_; rintro e w1 ⟨rfl, hb⟩; obtain ⟨ext3, d3, rfl⟩ := Below.grown_eq _ hb; clear hb) | (go_at_call 44; refine (HGT.out _ (HV.out.below (by repeat (first | with_reducible (first | exact bA .. | assumption | exact bJ .. | exact bK .. | exact bL .. | exact bM .. | exact bN .. | refine bB ?_ | refine bC ?_ _ | refine bD _ _ ?_ | refine bE _ ?_ | refine bF ?_ ?_ _ | refine bG ?_ ?_ _ | refine bH _ _ _ ?_ ?_) | omega | (simp; done) | (simp; omega))))).mono ?_; rintro e w1 ⟨rfl, hb⟩; obtain ⟨ext4, d4, rfl⟩ := Below.grown_eq _ hb; clear hb) | (go_at_call 45; refine (HLK.out _ (HV.out.below (by repeat (first | with_reducible (first | exact bA .. | assumption | exact bJ .. | exact bK .. | exact bL .. | exact bM .. | exact bN .. | refine bB ?_ | refine bC ?_ _ | refine bD _ _ ?_ | refine bE _ ?_ | refine bF ?_ ?_ _ | refine bG ?_ ?_ _ | refine bH _ _ _ ?_ ?_) | omega | (simp; done) | (simp; omega)))) (HS.out.below (by repeat (first | with_reducible (first | exact bA .. | assumption | exact bJ .. | exact bK .. | exact bL .. | exact bM .. | exact bN .. | refine bB ?_ | refine bC ?_ _ | refine bD _ _ ?_ | refine bE _ ?_ | refine bF ?_ ?_ _ | refine bG ?_ ?_ _ | refine bH _ _ _ ?_ ?_) | omega | (simp; done) | (simp; omega))))).mono ?_; rintro e w1 ⟨rfl, hb⟩; obtain ⟨ext5, d5, rfl⟩ := Below.grown_eq _ hb; clear hb))
          go_ret
          exact ⟨rfl, (by repeat (first | with_reducible (first | exact bA .. | assumption | exact bJ .. | exact bK .. | exact bL .. | exact bM .. | exact bN .. | refine bB ?_ | refine bC ?_ _ | refine bD _ _ ?_ | refine bE _ ?_ | refine bF ?_ ?_ _ | refine bG ?_ ?_ _ | refine bH _ _ _ ?_ ?_) | omega | (simp; done) | (simp; omega)))⟩
        | false =>
          rw [if_neg (by simp)]
          go_enter Tryz.func19, Tryz.ntmps19
          go_wp2_with (first | (go_at_call 29; refine (HGD.out _ (HV.out.below (by repeat (first | with_reducible (first | exact bA .. | assumption | exact bJ .. | exact bK .. | exact bL .. | exact bM .. | exact bN .. | refine bB ?_ | refine bC ?_ _ | refine bD _ _ ?_ | refine bE _ ?_ | refine bF ?_ ?_ _ | refine bG ?_ ?_ _ | refine bH _ _ _ ?_ ?_) | omega | (simp; done) | (simp; omega)))) (HS.out.below (by repeat (first | with_reducible (first | exact bA .. | assumption | exact bJ .. | exact bK .. | exact bL .. | exact bM .. | exact bN .. | refine bB ?_ | refine bC ?_ _ | refine bD _ _ ?_ | refine bE _ ?_ | refine bF ?_ ?_ _ | refine bG ?_ ?_ _ | refine bH _ _ _ ?_ ?_) | omega | (simp; done) | (simp; omega))))).mono ?_; rintro e w1 ⟨rfl, hb⟩; obtain ⟨ext1, d1, rfl⟩ := Below.grown_eq _ hb; clear hb) | (go_at_call 42; refine (HWG.out _).mono ?_; rintro e w1 ⟨rfl, hb⟩; obtain ⟨ext2, d2, rfl⟩ := Below.grown_eq _ hb; clear hb) | (go_at_call 43; refine (HOP.out _ (HS.out.below (by repeat (first | with_reducible (first | exact bA .. | assumption | exact bJ .. | exact bK .. | exact bL .. | exact bM .. | exact bN .. | refine bB ?_ | refine bC ?_ _ | refine bD _ _ ?_ | refine bE _ ?_ | refine bF ?_ ?_ _ | refine bG ?_ ?_ _ | refine bH _ _ _ ?_ ?_) | omega | (simp; done) | (simp; omega))))).mono ?_; rintro e w1 ⟨rfl, hb⟩; obtain ⟨ext3, d3, rfl⟩ := Below.grown_eq _ hb; clear hb) | (go_at_call 44; refine (HGT.out _ (HV.out.below (by repeat (first | with_reducible (first | exact bA .. | assumption | exact bJ .. | exact bK .. | exact bL .. | exact bM .. | exact bN .. | refine bB ?_ | refine bC ?_ _ | refine bD _ _ ?_ | refine bE _ ?_ | refine bF ?_ ?_ _ | refine bG ?_ ?_ _ | refine bH _ _ _ ?_ ?_) | omega | (simp; done) | (simp; omega))))).mono ?_; rintro e w1 ⟨rfl, hb⟩; obtain ⟨ext4, d4, rfl⟩ := Below.grown_eq _ hb; clear hb) | (go_at_call 45; refine (HLK.out _ (HV.out.below (by repeat (first | with_reducible (first | exact bA .. | assumption | exact bJ .. | exact bK .. | exact bL .. | exact bM .. | exact bN .. | refine bB ?_ | refine bC ?_ _ | refine bD _ _ ?_ | refine bE _ ?_ | refine bF ?_ ?_ _ | refine bG ?_ ?_ _ | refine bH _ _ _ ?_ ?_) | omega | (simp; done) | (simp; omega)))) (HS.out.below (by repeat (first | with_reducible (first | exact bA .. | assumption | exact bJ .. | exact bK .. | exact bL .. | exact bM .. | exact bN .. | refine bB ?_ | refine bC ?_ _ | refine bD _ _ ?_ | refine bE _ ?_ | refine bF ?_ ?_ _ | refine bG ?_ ?_ _ | refine bH _ _ _ ?_ ?_) | omega | (simp; done) | (simp; omega))))).mono ?_; rintro e w1 ⟨rfl, hb⟩; obtain ⟨ext5, d5, rfl⟩ := Below.grown_eq _ hb; clear hb))
          go_ret
          exact ⟨rfl, (by repeat (first | with_reducible (first | exact bA .. | assumption | exact bJ .. | exact bK .. | exact bL .. | exact bM .. | exact bN .. | refine bB ?_ | refine bC ?_ _ | refine bD _ _ ?_ | refine bE _ ?_ | refine bF ?_ ?_ _ | refine bG ?_ ?_ _ | refine bH _ _ _ ?_ ?_) | omega | (simp; done) | (simp; omega)))⟩
      · rw [if_neg a3]
        have q3 : (xo == 1) = false := beq_eq_false_iff_ne.2 a3
        cases op with
        | false =>
          rw [if_pos rfl]
          clear hver
          go_enter Tryz.func19, Tryz.ntmps19
          go_wp2_with (first | (go_at_call 29; refine (HGD.out _ (HV.out.below (by repeat (first | with_reducible (first | exact bA .. | assumption | exact bJ .. | exact bK .. | exact bL .. | exact bM .. | exact bN .. | refine bB ?_ | refine bC ?_ _ | refine bD _ _ ?_ | refine bE _ ?_ | refine bF ?_ ?_ _ | refine bG ?_ ?_ _ | refine bH _ _ _ ?_ ?_) | omega | (simp; done) | (simp; omega)))) (HS.out.below (by repeat (first | with_reducible (first | exact bA .. | assumption | exact bJ .. | exact bK .. | exact bL .. | exact bM .. | exact bN .. | refine bB ?_ | refine bC ?_ _ | refine bD _ _ ?_ | refine bE _ ?_ | refine bF ?_ ?_ _ | refine bG ?_ ?_ _ | refine bH _ _ _ ?_ ?_) | omega | (simp; done) | (simp; omega))))).mono ?_; rintro e w1 ⟨rfl, hb⟩; obtain ⟨ext1, d1, rfl⟩ := Below.grown_eq _ hb; clear hb) | (go_at_call 42; refine (HWG.out _).mono ?_; rintro e w1 ⟨rfl, hb⟩; obtain ⟨ext2, d2, rfl⟩ := Below.grown_eq _ hb; clear hb) | (go_at_call 43; refine (HOP.out _ (HS.out.below (by repeat (first | with_reducible (first | exact bA .. | assumption | exact bJ .. | exact bK .. | exact bL .. | exact bM .. | exact bN .. | refine bB ?_ | refine bC ?_ _ | refine bD _ _ ?_ | refine bE _ ?_ | refine bF ?_ ?_ _ | refine bG ?_ ?_ _ | refine bH _ _ _ ?_ ?_) | omega | (simp; done) | (simp; omega))))).mono ?_; rintro e w1 ⟨rfl, hb⟩; obtain ⟨ext3, d3, rfl⟩ := Below.grown_eq _ hb; clear hb) | (go_at_call 44; refine (HGT.out _ (HV.out.below (by repeat (first | with_reducible (first | exact bA .. | assumption | exact bJ .. | exact bK .. | exact bL .. | exact bM .. | exact bN .. | refine bB ?_ | refine bC ?_ _ | refine bD _ _ ?_ | refine bE _ ?_ | refine bF ?_ ?_ _ | refine bG ?_ ?_ _ | refine bH _ _ _ ?_ ?_) | omega | (simp; done) | (simp; omega))))).mono ?_; rintro e w1 ⟨rfl, hb⟩; obtain ⟨ext4, d4, rfl⟩ := Below.grown_eq _ hb; clear hb) | (go_at_call 45; refine (HLK.out _ (HV.out.below (by repeat (first | with_reducible (first | exact bA .. | assumption | exact bJ .. | exact bK .. | exact bL .. | exact bM .. | exact bN .. | refine bB ?_ | refine bC ?_ _ | refine bD _ _ ?_ | refine bE _ ?_ | refine bF ?_ ?_ _ | refine bG ?_ ?_ _ | refine bH _ _ _ ?_ ?_) | omega | (simp; done) | (simp; omega)))) (HS.out.below (by repeat (first | with_reducible (first | exact bA .. | assumption | exact bJ .. | exact bK .. | exact bL .. | exact bM .. | exact bN .. | refine bB ?_ | refine bC ?_ _ | refine bD _ _ ?_ | refine bE _ ?_ | refine bF ?_ ?_ _ | refine bG ?_ ?_ _ | refine bH _ _ _ ?_ ?_) | omega | (simp; done) | (simp; omega))))).mono ?_; rintro e w1 ⟨rfl, hb⟩; obtain ⟨ext5, d5, rfl⟩ := Below.grown_eq _ hb; clear hb))
          go_ret
          exact ⟨rfl, (by repeat (first | with_reducible (first | exact bA .. | assumption | exact bJ .. | exact bK .. | exact bL .. | exact bM .. | exact bN .. | refine bB ?_ | refine bC ?_ _ | refine bD _ _ ?_ | refine bE _ ?_ | refine bF ?_ ?_ _ | refine bG ?_ ?_ _ | refine bH _ _ _ ?_ ?_) | omega | (simp; done) | (simp; omega)))⟩
        | true =>
          rw [if_neg (by simp)]
          by_cases a4 : xo = 3
          · subst a4
            rw [if_pos rfl]
            clear hver
            cases hk : hasN l xp
            all_goals rw [hk] at HGT HLK
            all_goals simp only [if_true, Bool.false_eq_true, if_false] at HGT HLK
            all_goals clear hk
            case false =>
              go_enter Tryz.func19, Tryz.ntmps19
              go_wp2_with (first | (go_at_call 29; refine (HGD.out _ (HV.out.below (by repeat (first | with_reducible (first | exact bA .. | assumption | exact bJ .. | exact bK .. | exact bL .. | exact bM .. | exact bN .. | refine bB ?_ | refine bC ?_ _ | refine bD _ _ ?_ | refine bE _ ?_ | refine bF ?_ ?_ _ | refine bG ?_ ?_ _ | refine bH _ _ _ ?_ ?_) | omega | (simp; done) | (simp; omega)))) (HS.out.below (by repeat (first | with_reducible (first | exact bA .. | assumption | exact bJ .. | exact bK .. | exact bL .. | exact bM .. | exact bN .. | refine bB ?_ | refine bC ?_ _ | refine bD _ _ ?_ | refine bE _ ?_ | refine bF ?_ ?_ _ | refine bG ?_ ?_ _ | refine bH _ _ _ ?_ ?_) | omega | (simp; done) | (simp; omega))))).mono ?_; rintro e w1 ⟨rfl, hb⟩; obtain ⟨ext1, d1, rfl⟩ := Below.grown_eq _ hb; clear hb) | (go_at_call 42; refine (HWG.out _).mono ?_; rintro e w1 ⟨rfl, hb⟩; obtain ⟨ext2, d2, rfl⟩ := Below.grown_eq _ hb; clear hb) | (go_at_call 43; refine (HOP.out _ (HS.out.below (by repeat (first | with_reducible (first | exact bA .. | assumption | exact bJ .. | exact bK .. | exact bL .. | exact bM .. | exact bN .. | refine bB ?_ | refine bC ?_ _ | refine bD _ _ ?_ | refine bE _ ?_ | refine bF ?_ ?_ _ | refine bG ?_ ?_ _ | refine bH _ _ _ ?_ ?_) | omega | (simp; done) | (simp; omega))))).mono ?_; rintro e w1 ⟨rfl, hb⟩; obtain ⟨ext3, d3, rfl⟩ := Below.grown_eq _ hb; clear hb) | (go_at_call 44; refine (HGT.out _ (HV.out.below (by repeat (first | with_reducible (first | exact bA .. | assumption | exact bJ .. | exact bK .. | exact bL .. | exact bM .. | exact bN .. | refine bB ?_ | refine bC ?_ _ | refine bD _ _ ?_ | refine bE _ ?_ | refine bF ?_ ?_ _ | refine bG ?_ ?_ _ | refine bH _ _ _ ?_ ?_) | omega | (simp; done) | (simp; omega))))).mono ?_; rintro e w1 ⟨rfl, hb⟩; obtain ⟨ext4, d4, rfl⟩ := Below.grown_eq _ hb; clear hb) | (go_at_call 45; refine (HLK.out _ (HV.out.below (by repeat (first | with_reducible (first | exact bA .. | assumption | exact bJ .. | exact bK .. | exact bL .. | exact bM .. | exact bN .. | refine bB ?_ | refine bC ?_ _ | refine bD _ _ ?_ | refine bE _ ?_ | refine bF ?_ ?_ _ | refine bG ?_ ?_ _ | refine bH _ _ _ ?_ ?_) | omega | (simp; done) | (simp; omega)))) (HS.out.below (by repeat (first | with_reducible (first | exact bA .. | assumption | exact bJ .. | exact bK .. | exact bL .. | exact bM .. | exact bN .. | refine bB ?_ | refine bC ?_ _ | refine bD _ _ ?_ | refine bE _ ?_ | refine bF ?_ ?_ _ | refine bG ?_ ?_ _ | refine bH _ _ _ ?_ ?_) | omega | (simp; done) | (simp; omega))))).mono ?_; rintro e w1 ⟨rfl, hb⟩; obtain ⟨ext5, d5, rfl⟩ := Below.grown_eq _ hb; clear hb))
              go_ret
              exact ⟨rfl, (by repeat (first | with_reducible (first | exact bA .. | assumption | exact bJ .. | exact bK .. | exact bL .. | exact bM .. | exact bN .. | refine bB ?_ | refine bC ?_ _ | refine bD _ _ ?_ | refine bE _ ?_ | refine bF ?_ ?_ _ | refine bG ?_ ?_ _ | refine bH _ _ _ ?_ ?_) | omega | (simp; done) | (simp; omega)))⟩
            case true =>
              go_enter Tryz.func19, Tryz.ntmps19
              go_wp2_with (first | (go_at_call 29; refine (HGD.out _ (HV.out.below (by repeat (first | with_reducible (first | exact bA .. | assumption | exact bJ .. | exact bK .. | exact bL .. | exact bM .. | exact bN .. | refine bB ?_ | refine bC ?_ _ | refine bD _ _ ?_ | refine bE _ ?_ | refine bF ?_ ?_ _ | refine bG ?_ ?_ _ | refine bH _ _ _ ?_ ?_) | omega | (simp; done) | (simp; omega)))) (HS.out.below (by repeat (first | with_reducible (first | exact bA .. | assumption | exact bJ .. | exact bK .. | exact bL .. | exact bM .. | exact bN .. | refine bB ?_ | refine bC ?_ _ | refine bD _ _ ?_ | refine bE _ ?_ | refine bF ?_ ?_ _ | refine bG ?_ ?_ _ | refine bH _ _ _ ?_ ?_) | omega | (simp; done) | (simp; omega))))).mono ?_; rintro e w1 ⟨rfl, hb⟩; obtain ⟨ext1, d1, rfl⟩ := Below.grown_eq _ hb; clear hb) | (go_at_call 42; refine (HWG.out _).mono ?_; rintro e w1 ⟨rfl, hb⟩; obtain ⟨ext2, d2, rfl⟩ := Below.grown_eq _ hb; clear hb) | (go_at_call 43; refine (HOP.out _ (HS.out.below (by repeat (first | with_reducible (first | exact bA .. | assumption | exact bJ .. | exact bK .. | exact bL .. | exact bM .. | exact bN .. | refine bB ?_ | refine bC ?_ _ | refine bD _ _ ?_ | refine bE _ ?_ | refine bF ?_ ?_ _ | refine bG ?_ ?_ _ | refine bH _ _ _ ?_ ?_) | omega | (simp; done) | (simp; omega))))).mono ?_; rintro e w1 ⟨rfl, hb⟩; obtain ⟨ext3, d3, rfl⟩ := Below.grown_eq _ hb; clear hb) | (go_at_call 44; refine (HGT.out _ (HV.out.below (by repeat (first | with_reducible (first | exact bA .. | assumption | exact bJ .. | exact bK .. | exact bL .. | exact bM .. | exact bN .. | refine bB ?_ | refine bC ?_ _ | refine bD _ _ ?_ | refine bE _ ?_ | refine bF ?_ ?_ _ | refine bG ?_ ?_ _ | refine bH _ _ _ ?_ ?_) | omega | (simp; done) | (simp; omega))))).mono ?_; rintro e w1 ⟨rfl, hb⟩; obtain ⟨ext4, d4, rfl⟩ := Below.grown_eq _ hb; clear hb) | (go_at_call 45; refine (HLK.out _ (HV.out.below (by repeat (first | with_reducible (first | exact bA .. | assumption | exact bJ .. | exact bK .. | exact bL .. | exact bM .. | exact bN .. | refine bB ?_ | refine bC ?_ _ | refine bD _ _ ?_ | refine bE _ ?_ | refine bF ?_ ?_ _ | refine bG ?_ ?_ _ | refine bH _ _ _ ?_ ?_) | omega | (simp; done) | (simp; omega)))) (HS.out.below (by repeat (first | with_reducible (first | exact bA .. | assumption | exact bJ .. | exact bK .. | exact bL .. | exact bM .. | exact bN .. | refine bB ?_ | refine bC ?_ _ | refine bD _ _ ?_ | refine bE _ ?_ | refine bF ?_ ?_ _ | refine bG ?_ ?_ _ | refine bH _ _ _ ?_ ?_) | omega | (simp; done) | (simp; omega))))).mono ?_; rintro e w1 ⟨rfl, hb⟩; obtain ⟨ext5, d5, rfl⟩ := Below.grown_eq _ hb; clear hb))
              go_ret
              exact ⟨rfl, (by repeat (first | with_reducible (first | exact bA .. | assumption | exact bJ .. | exact bK .. | exact bL .. | exact bM .. | exact bN .. | refine bB ?_ | refine bC ?_ _ | refine bD _ _ ?_ | refine bE _ ?_ | refine bF ?_ ?_ _ | refine bG ?_ ?_ _ | refine bH _ _ _ ?_ ?_) | omega | (simp; done) | (simp; omega)))⟩
          · rw [if_neg a4]
            have q4 : (xo == 3) = false := beq_eq_false_iff_ne.2 a4
            clear HLK
            by_cases a5 : xo = 4
            · subst a5
              rw [if_pos rfl]
              clear hver
              cases hk : hasN l xp with
              | false =>
                rw [hk] at HGT
                simp only [Bool.false_eq_true, if_false] at HGT ⊢
                clear hk
                go_enter Tryz.func19, Tryz.ntmps19
                go_wp2_with (first | (go_at_call 29; refine (HGD.out _ (HV.out.below (by repeat (first | with_reducible (first | exact bA .. | assumption | exact bJ .. | exact bK .. | exact bL .. | exact bM .. | exact bN .. | refine bB ?_ | refine bC ?_ _ | refine bD _ _ ?_ | refine bE _ ?_ | refine bF ?_ ?_ _ | refine bG ?_ ?_ _ | refine bH _ _ _ ?_ ?_) | omega | (simp; done) | (simp; omega)))) (HS.out.below (by repeat (first | with_reducible (first | exact bA .. | assumption | exact bJ .. | exact bK .. | exact bL .. | exact bM .. | exact bN .. | refine bB ?_ | refine bC ?_ _ | refine bD _ _ ?_ | refine bE _ ?_ | refine bF ?_ ?_ _ | refine bG ?_ ?_ _ | refine bH _ _ _ ?_ ?_) | omega | (simp; done) | (simp; omega))))).mono ?_; rintro e w1 ⟨rfl, hb⟩; obtain ⟨ext1, d1, rfl⟩ := Below.grown_eq _ hb; clear hb) | (go_at_call 42; refine (HWG.out _).mono ?_; rintro e w1 ⟨rfl, hb⟩; obtain ⟨ext2, d2, rfl⟩ := Below.grown_eq _ hb; clear hb) | (go_at_call 43; refine (HOP.out _ (HS.out.below (by repeat (first | with_reducible (first | exact bA .. | assumption | exact bJ .. | exact bK .. | exact bL .. | exact bM .. | exact bN .. | refine bB ?_ | refine bC ?_ _ | refine bD _ _ ?_ | refine bE _ ?_ | refine bF ?_ ?_ _ | refine bG ?_ ?_ _ | refine bH _ _ _ ?_ ?_) | omega | (simp; done) | (simp; omega))))).mono ?_; rintro e w1 ⟨rfl, hb⟩; obtain ⟨ext3, d3, rfl⟩ := Below.grown_eq _ hb; clear hb) | (go_at_call 44; refine (HGT.out _ (HV.out.below (by repeat (first | with_reducible (first | exact bA .. | assumption | exact bJ .. | exact bK .. | exact bL .. | exact bM .. | exact bN .. | refine bB ?_ | refine bC ?_ _ | refine bD _ _ ?_ | refine bE _ ?_ | refine bF ?_ ?_ _ | refine bG ?_ ?_ _ | refine bH _ _ _ ?_ ?_) | omega | (simp; done) | (simp; omega))))).mono ?_; rintro e w1 ⟨rfl, hb⟩; obtain ⟨ext4, d4, rfl⟩ := Below.grown_eq _ hb; clear hb) | (go_at_call 45; refine (HLK.out _ (HV.out.below (by repeat (first | with_reducible (first | exact bA .. | assumption | exact bJ .. | exact bK .. | exact bL .. | exact bM .. | exact bN .. | refine bB ?_ | refine bC ?_ _ | refine bD _ _ ?_ | refine bE _ ?_ | refine bF ?_ ?_ _ | refine bG ?_ ?_ _ | refine bH _ _ _ ?_ ?_) | omega | (simp; done) | (simp; omega)))) (HS.out.below (by repeat (first | with_reducible (first | exact bA .. | assumption | exact bJ .. | exact bK .. | exact bL .. | exact bM .. | exact bN .. | refine bB ?_ | refine bC ?_ _ | refine bD _ _ ?_ | refine bE _ ?_ | refine bF ?_ ?_ _ | refine bG ?_ ?_ _ | refine bH _ _ _ ?_ ?_) | omega | (simp; done) | (simp; omega))))).mono ?_; rintro e w1 ⟨rfl, hb⟩; obtain ⟨ext5, d5, rfl⟩ := Below.grown_eq _ hb; clear hb))
                go_ret
                exact ⟨rfl, (by repeat (first | with_reducible (first | exact bA .. | assumption | exact bJ .. | exact bK .. | exact bL .. | exact bM .. | exact bN .. | refine bB ?_ | refine bC ?_ _ | refine bD _ _ ?_ | refine bE _ ?_ | refine bF ?_ ?_ _ | refine bG ?_ ?_ _ | refine bH _ _ _ ?_ ?_) | omega | (simp; done) | (simp; omega)))⟩
              | true =>
                rw [hk] at HGT
                simp only [if_true] at HGT ⊢
                clear hk
                by_cases a6 : 0 < gk
                · rw [if_pos a6]
                  have q6 : decide (0 < gk) = true := decide_eq_true a6
                  go_enter Tryz.func19, Tryz.ntmps19
                  go_wp2_with (first | (go_at_call 29; refine (HGD.out _ (HV.out.below (by repeat (first | with_reducible (first | exact bA .. | assumption | exact bJ .. | exact bK .. | exact bL .. | exact bM .. | exact bN .. | refine bB ?_ | refine bC ?_ _ | refine bD _ _ ?_ | refine bE _ ?_ | refine bF ?_ ?_ _ | refine bG ?_ ?_ _ | refine bH _ _ _ ?_ ?_) | omega | (simp; done) | (simp; omega)))) (HS.out.below (by repeat (first | with_reducible (first | exact bA .. | assumption | exact bJ .. | exact bK .. | exact bL .. | exact bM .. | exact bN .. | refine bB ?_ | refine bC ?_ _ | refine bD _ _ ?_ | refine bE _ ?_ | refine bF ?_ ?_ _ | refine bG ?_ ?_ _ | refine bH _ _ _ ?_ ?_) | omega | (simp; done) | (simp; omega))))).mono ?_; rintro e w1 ⟨rfl, hb⟩; obtain ⟨ext1, d1, rfl⟩ := Below.grown_eq _ hb; clear hb) | (go_at_call 42; refine (HWG.out _).mono ?_; rintro e w1 ⟨rfl, hb⟩; obtain ⟨ext2, d2, rfl⟩ := Below.grown_eq _ hb; clear hb) | (go_at_call 43; refine (HOP.out _ (HS.out.below (by repeat (first | with_reducible (first | exact bA .. | assumption | exact bJ .. | exact bK .. | exact bL .. | exact bM .. | exact bN .. | refine bB ?_ | refine bC ?_ _ | refine bD _ _ ?_ | refine bE _ ?_ | refine bF ?_ ?_ _ | refine bG ?_ ?_ _ | refine bH _ _ _ ?_ ?_) | omega | (simp; done) | (simp; omega))))).mono ?_; rintro e w1 ⟨rfl, hb⟩; obtain ⟨ext3, d3, rfl⟩ := Below.grown_eq _ hb; clear hb) | (go_at_call 44; refine (HGT.out _ (HV.out.below (by repeat (first | with_reducible (first | exact bA .. | assumption | exact bJ .. | exact bK .. | exact bL .. | exact bM .. | exact bN .. | refine bB ?_ | refine bC ?_ _ | refine bD _ _ ?_ | refine bE _ ?_ | refine bF ?_ ?_ _ | refine bG ?_ ?_ _ | refine bH _ _ _ ?_ ?_) | omega | (simp; done) | (simp; omega))))).mono ?_; rintro e w1 ⟨rfl, hb⟩; obtain ⟨ext4, d4, rfl⟩ := Below.grown_eq _ hb; clear hb) | (go_at_call 45; refine (HLK.out _ (HV.out.below (by repeat (first | with_reducible (first | exact bA .. | assumption | exact bJ .. | exact bK .. | exact bL .. | exact bM .. | exact bN .. | refine bB ?_ | refine bC ?_ _ | refine bD _ _ ?_ | refine bE _ ?_ | refine bF ?_ ?_ _ | refine bG ?_ ?_ _ | refine bH _ _ _ ?_ ?_) | omega | (simp; done) | (simp; omega)))) (HS.out.below (by repeat (first | with_reducible (first | exact bA .. | assumption | exact bJ .. | exact bK .. | exact bL .. | exact bM .. | exact bN .. | refine bB ?_ | refine bC ?_ _ | refine bD _ _ ?_ | refine bE _ ?_ | refine bF ?_ ?_ _ | refine bG ?_ ?_ _ | refine bH _ _ _ ?_ ?_) | omega | (simp; done) | (simp; omega))))).mono ?_; rintro e w1 ⟨rfl, hb⟩; obtain ⟨ext5, d5, rfl⟩ := Below.grown_eq _ hb; clear hb))
                  go_ret
                  exact ⟨rfl, (by repeat (first | with_reducible (first | exact bA .. | assumption | exact bJ .. | exact bK .. | exact bL .. | exact bM .. | exact bN .. | refine bB ?_ | refine bC ?_ _ | refine bD _ _ ?_ | refine bE _ ?_ | refine bF ?_ ?_ _ | refine bG ?_ ?_ _ | refine bH _ _ _ ?_ ?_) | omega | (simp; done) | (simp; omega)))⟩
                · rw [if_neg a6]
                  have q6 : decide (0 < gk) = false := decide_eq_false a6
                  go_enter Tryz.func19, Tryz.ntmps19
                  go_wp2_with (first | (go_at_call 29; refine (HGD.out _ (HV.out.below (by repeat (first | with_reducible (first | exact bA .. | assumption | exact bJ .. | exact bK .. | exact bL .. | exact bM .. | exact bN .. | refine bB ?_ | refine bC ?_ _ | refine bD _ _ ?_ | refine bE _ ?_ | refine bF ?_ ?_ _ | refine bG ?_ ?_ _ | refine bH _ _ _ ?_ ?_) | omega | (simp; done) | (simp; omega)))) (HS.out.below (by repeat (first | with_reducible (first | exact bA .. | assumption | exact bJ .. | exact bK .. | exact bL .. | exact bM .. | exact bN .. | refine bB ?_ | refine bC ?_ _ | refine bD _ _ ?_ | refine bE _ ?_ | refine bF ?_ ?_ _ | refine bG ?_ ?_ _ | refine bH _ _ _ ?_ ?_) | omega | (simp; done) | (simp; omega))))).mono ?_; rintro e w1 ⟨rfl, hb⟩; obtain ⟨ext1, d1, rfl⟩ := Below.grown_eq _ hb; clear hb) | (go_at_call 42; refine (HWG.out _).mono ?_; rintro e w1 ⟨rfl, hb⟩; obtain ⟨ext2, d2, rfl⟩ := Below.grown_eq _ hb; clear hb) | (go_at_call 43; refine (HOP.out _ (HS.out.below (by repeat (first | with_reducible (first | exact bA .. | assumption | exact bJ .. | exact bK .. | exact bL .. | exact bM .. | exact bN .. | refine bB ?_ | refine bC ?_ _ | refine bD _ _ ?_ | refine bE _ ?_ | refine bF ?_ ?_ _ | refine bG ?_ ?_ _ | refine bH _ _ _ ?_ ?_) | omega | (simp; done) | (simp; omega))))).mono ?_; rintro e w1 ⟨rfl, hb⟩; obtain ⟨ext3, d3, rfl⟩ := Below.grown_eq _ hb; clear hb) | (go_at_call 44; refine (HGT.out _ (HV.out.below (by repeat (first | with_reducible (first | exact bA .. | assumption | exact bJ .. | exact bK .. | exact bL .. | exact bM .. | exact bN .. | refine bB ?_ | refine bC ?_ _ | refine bD _ _ ?_ | refine bE _ ?_ | refine bF ?_ ?_ _ | refine bG ?_ ?_ _ | refine bH _ _ _ ?_ ?_) | omega | (simp; done) | (simp; omega))))).mono ?_; rintro e w1 ⟨rfl, hb⟩; obtain ⟨ext4, d4, rfl⟩ := Below.grown_eq _ hb; clear hb) | (go_at_call 45; refine (HLK.out _ (HV.out.below (by repeat (first | with_reducible (first | exact bA .. | assumption | exact bJ .. | exact bK .. | exact bL .. | exact bM .. | exact bN .. | refine bB ?_ | refine bC ?_ _ | refine bD _ _ ?_ | refine bE _ ?_ | refine bF ?_ ?_ _ | refine bG ?_ ?_ _ | refine bH _ _ _ ?_ ?_) | omega | (simp; done) | (simp; omega)))) (HS.out.below (by repeat (first | with_reducible (first | exact bA .. | assumption | exact bJ .. | exact bK .. | exact bL .. | exact bM .. | exact bN .. | refine bB ?_ | refine bC ?_ _ | refine bD _ _ ?_ | refine bE _ ?_ | refine bF ?_ ?_ _ | refine bG ?_ ?_ _ | refine bH _ _ _ ?_ ?_) | omega | (simp; done) | (simp; omega))))).mono ?_; rintro e w1 ⟨rfl, hb⟩; obtain ⟨ext5, d5, rfl⟩ := Below.grown_eq _ hb; clear hb))
                  go_ret
                  exact ⟨rfl, (by repeat (first | with_reducible (first | exact bA .. | assumption | exact bJ .. | exact bK .. | exact bL .. | exact bM .. | exact bN .. | refine bB ?_ | refine bC ?_ _ | refine bD _ _ ?_ | refine bE _ ?_ | refine bF ?_ ?_ _ | refine bG ?_ ?_ _ | refine bH _ _ _ ?_ ?_) | omega | (simp; done) | (simp; omega)))⟩
            · rw [if_neg a5]
              have q5 : (xo == 4) = false := beq_eq_false_iff_ne.2 a5
              by_cases a7 : xo = 5
              · subst a7
                rw [if_pos rfl]
                cases hk : hasN l xp with
                | false =>
                  rw [hk] at HGT
                  simp only [Bool.false_eq_true, if_false] at HGT ⊢
                  clear hk hver
                  go_enter Tryz.func19, Tryz.ntmps19
                  go_wp2_with (first | (go_at_call 29; refine (HGD.out _ (HV.out.below (by repeat (first | with_reducible (first | exact bA .. | assumption | exact bJ .. | exact bK .. | exact bL .. | exact bM .. | exact bN .. | refine bB ?_ | refine bC ?_ _ | refine bD _ _ ?_ | refine bE _ ?_ | refine bF ?_ ?_ _ | refine bG ?_ ?_ _ | refine bH _ _ _ ?_ ?_) | omega | (simp; done) | (simp; omega)))) (HS.out.below (by repeat (first | with_reducible (first | exact bA .. | assumption | exact bJ .. | exact bK .. | exact bL .. | exact bM .. | exact bN .. | refine bB ?_ | refine bC ?_ _ | refine bD _ _ ?_ | refine bE _ ?_ | refine bF ?_ ?_ _ | refine bG ?_ ?_ _ | refine bH _ _ _ ?_ ?_) | omega | (simp; done) | (simp; omega))))).mono ?_; rintro e w1 ⟨rfl, hb⟩; obtain ⟨ext1, d1, rfl⟩ := Below.grown_eq _ hb; clear hb) | (go_at_call 42; refine (HWG.out _).mono ?_; rintro e w1 ⟨rfl, hb⟩; obtain ⟨ext2, d2, rfl⟩ := Below.grown_eq _ hb; clear hb) | (go_at_call 43; refine (HOP.out _ (HS.out.below (by repeat (first | with_reducible (first | exact bA .. | assumption | exact bJ .. | exact bK .. | exact bL .. | exact bM .. | exact bN .. | refine bB ?_ | refine bC ?_ _ | refine bD _ _ ?_ | refine bE _ ?_ | refine bF ?_ ?_ _ | refine bG ?_ ?_ _ | refine bH _ _ _ ?_ ?_) | omega | (simp; done) | (simp; omega))))).mono ?_; rintro e w1 ⟨rfl, hb⟩; obtain ⟨ext3, d3, rfl⟩ := Below.grown_eq _ hb; clear hb) | (go_at_call 44; refine (HGT.out _ (HV.out.below (by repeat (first | with_reducible (first | exact bA .. | assumption | exact bJ .. | exact bK .. | exact bL .. | exact bM .. | exact bN .. | refine bB ?_ | refine bC ?_ _ | refine bD _ _ ?_ | refine bE _ ?_ | refine bF ?_ ?_ _ | refine bG ?_ ?_ _ | refine bH _ _ _ ?_ ?_) | omega | (simp; done) | (simp; omega))))).mono ?_; rintro e w1 ⟨rfl, hb⟩; obtain ⟨ext4, d4, rfl⟩ := Below.grown_eq _ hb; clear hb) | (go_at_call 45; refine (HLK.out _ (HV.out.below (by repeat (first | with_reducible (first | exact bA .. | assumption | exact bJ .. | exact bK .. | exact bL .. | exact bM .. | exact bN .. | refine bB ?_ | refine bC ?_ _ | refine bD _ _ ?_ | refine bE _ ?_ | refine bF ?_ ?_ _ | refine bG ?_ ?_ _ | refine bH _ _ _ ?_ ?_) | omega | (simp; done) | (simp; omega)))) (HS.out.below (by repeat (first | with_reducible (first | exact bA .. | assumption | exact bJ .. | exact bK .. | exact bL .. | exact bM .. | exact bN .. | refine bB ?_ | refine bC ?_ _ | refine bD _ _ ?_ | refine bE _ ?_ | refine bF ?_ ?_ _ | refine bG ?_ ?_ _ | refine bH _ _ _ ?_ ?_) | omega | (simp; done) | (simp; omega))))).mono ?_; rintro e w1 ⟨rfl, hb⟩; obtain ⟨ext5, d5, rfl⟩ := Below.grown_eq _ hb; clear hb))
                  go_ret
                  exact ⟨rfl, (by repeat (first | with_reducible (first | exact bA .. | assumption | exact bJ .. | exact bK .. | exact bL .. | exact bM .. | exact bN .. | refine bB ?_ | refine bC ?_ _ | refine bD _ _ ?_ | refine bE _ ?_ | refine bF ?_ ?_ _ | refine bG ?_ ?_ _ | refine bH _ _ _ ?_ ?_) | omega | (simp; done) | (simp; omega)))⟩
                | true =>
                  obtain ⟨v1, v2⟩ := hver rfl hk
                  rw [hk] at HGT
                  simp only [if_true] at HGT ⊢
                  clear hk hver
                  have hw : IntKind.i64.wrap (g4 + 1) = g4 + 1 := by unfold IntKind.wrap; simp [IntKind.signed, IntKind.bits]; omega
                  by_cases a8 : xv = g4 + 1
                  · subst a8
                    rw [if_neg (by simp)]
                    go_enter Tryz.func19, Tryz.ntmps19
                    go_wp2_with (first | (go_at_call 29; refine (HGD.out _ (HV.out.below (by repeat (first | with_reducible (first | exact bA .. | assumption | exact bJ .. | exact bK .. | exact bL .. | exact bM .. | exact bN .. | refine bB ?_ | refine bC ?_ _ | refine bD _ _ ?_ | refine bE _ ?_ | refine bF ?_ ?_ _ | refine bG ?_ ?_ _ | refine bH _ _ _ ?_ ?_) | omega | (simp; done) | (simp; omega)))) (HS.out.below (by repeat (first | with_reducible (first | exact bA .. | assumption | exact bJ .. | exact bK .. | exact bL .. | exact bM .. | exact bN .. | refine bB ?_ | refine bC ?_ _ | refine bD _ _ ?_ | refine bE _ ?_ | refine bF ?_ ?_ _ | refine bG ?_ ?_ _ | refine bH _ _ _ ?_ ?_) | omega | (simp; done) | (simp; omega))))).mono ?_; rintro e w1 ⟨rfl, hb⟩; obtain ⟨ext1, d1, rfl⟩ := Below.grown_eq _ hb; clear hb) | (go_at_call 42; refine (HWG.out _).mono ?_; rintro e w1 ⟨rfl, hb⟩; obtain ⟨ext2, d2, rfl⟩ := Below.grown_eq _ hb; clear hb) | (go_at_call 43; refine (HOP.out _ (HS.out.below (by repeat (first | with_reducible (first | exact bA .. | assumption | exact bJ .. | exact bK .. | exact bL .. | exact bM .. | exact bN .. | refine bB ?_ | refine bC ?_ _ | refine bD _ _ ?_ | refine bE _ ?_ | refine bF ?_ ?_ _ | refine bG ?_ ?_ _ | refine bH _ _ _ ?_ ?_) | omega | (simp; done) | (simp; omega))))).mono ?_; rintro e w1 ⟨rfl, hb⟩; obtain ⟨ext3, d3, rfl⟩ := Below.grown_eq _ hb; clear hb) | (go_at_call 44; refine (HGT.out _ (HV.out.below (by repeat (first | with_reducible (first | exact bA .. | assumption | exact bJ .. | exact bK .. | exact bL .. | exact bM .. | exact bN .. | refine bB ?_ | refine bC ?_ _ | refine bD _ _ ?_ | refine bE _ ?_ | refine bF ?_ ?_ _ | refine bG ?_ ?_ _ | refine bH _ _ _ ?_ ?_) | omega | (simp; done) | (simp; omega))))).mono ?_; rintro e w1 ⟨rfl, hb⟩; obtain ⟨ext4, d4, rfl⟩ := Below.grown_eq _ hb; clear hb) | (go_at_call 45; refine (HLK.out _ (HV.out.below (by repeat (first | with_reducible (first | exact bA .. | assumption | exact bJ .. | exact bK .. | exact bL .. | exact bM .. | exact bN .. | refine bB ?_ | refine bC ?_ _ | refine bD _ _ ?_ | refine bE _ ?_ | refine bF ?_ ?_ _ | refine bG ?_ ?_ _ | refine bH _ _ _ ?_ ?_) | omega | (simp; done) | (simp; omega)))) (HS.out.below (by repeat (first | with_reducible (first | exact bA .. | assumption | exact bJ .. | exact bK .. | exact bL .. | exact bM .. | exact bN .. | refine bB ?_ | refine bC ?_ _ | refine bD _ _ ?_ | refine bE _ ?_ | refine bF ?_ ?_ _ | refine bG ?_ ?_ _ | refine bH _ _ _ ?_ ?_) | omega | (simp; done) | (simp; omega))))).mono ?_; rintro e w1 ⟨rfl, hb⟩; obtain ⟨ext5, d5, rfl⟩ := Below.grown_eq _ hb; clear hb))
                    go_ret
                    exact ⟨rfl, (by repeat (first | with_reducible (first | exact bA .. | assumption | exact bJ .. | exact bK .. | exact bL .. | exact bM .. | exact bN .. | refine bB ?_ | refine bC ?_ _ | refine bD _ _ ?_ | refine bE _ ?_ | refine bF ?_ ?_ _ | refine bG ?_ ?_ _ | refine bH _ _ _ ?_ ?_) | omega | (simp; done) | (simp; omega)))⟩
                  · rw [if_pos a8]
                    have q8 : (xv == g4 + 1) = false := beq_eq_false_iff_ne.2 a8
                    have q8b : (xv != g4 + 1) = true := bne_iff_ne.2 a8
                    go_enter Tryz.func19, Tryz.ntmps19
                    go_wp2_with (first | (go_at_call 29; refine (HGD.out _ (HV.out.below (by repeat (first | with_reducible (first | exact bA .. | assumption | exact bJ .. | exact bK .. | exact bL .. | exact bM .. | exact bN .. | refine bB ?_ | refine bC ?_ _ | refine bD _ _ ?_ | refine bE _ ?_ | refine bF ?_ ?_ _ | refine bG ?_ ?_ _ | refine bH _ _ _ ?_ ?_) | omega | (simp; done) | (simp; omega)))) (HS.out.below (by repeat (first | with_reducible (first | exact bA .. | assumption | exact bJ .. | exact bK .. | exact bL .. | exact bM .. | exact bN .. | refine bB ?_ | refine bC ?_ _ | refine bD _ _ ?_ | refine bE _ ?_ | refine bF ?_ ?_ _ | refine bG ?_ ?_ _ | refine bH _ _ _ ?_ ?_) | omega | (simp; done) | (simp; omega))))).mono ?_; rintro e w1 ⟨rfl, hb⟩; obtain ⟨ext1, d1, rfl⟩ := Below.grown_eq _ hb; clear hb) | (go_at_call 42; refine (HWG.out _).mono ?_; rintro e w1 ⟨rfl, hb⟩; obtain ⟨ext2, d2, rfl⟩ := Below.grown_eq _ hb; clear hb) | (go_at_call 43; refine (HOP.out _ (HS.out.below (by repeat (first | with_reducible (first | exact bA .. | assumption | exact bJ .. | exact bK .. | exact bL .. | exact bM .. | exact bN .. | refine bB ?_ | refine bC ?_ _ | refine bD _ _ ?_ | refine bE _ ?_ | refine bF ?_ ?_ _ | refine bG ?_ ?_ _ | refine bH _ _ _ ?_ ?_) | omega | (simp; done) | (simp; omega))))).mono ?_; rintro e w1 ⟨rfl, hb⟩; obtain ⟨ext3, d3, rfl⟩ := Below.grown_eq _ hb; clear hb) | (go_at_call 44; refine (HGT.out _ (HV.out.below (by repeat (first | with_reducible (first | exact bA .. | assumption | exact bJ .. | exact bK .. | exact bL .. | exact bM .. | exact bN .. | refine bB ?_ | refine bC ?_ _ | refine bD _ _ ?_ | refine bE _ ?_ | refine bF ?_ ?_ _ | refine bG ?_ ?_ _ | refine bH _ _ _ ?_ ?_) | omega | (simp; done) | (simp; omega))))).mono ?_; rintro e w1 ⟨rfl, hb⟩; obtain ⟨ext4, d4, rfl⟩ := Below.grown_eq _ hb; clear hb) | (go_at_call 45; refine (HLK.out _ (HV.out.below (by repeat (first | with_reducible (first | exact bA .. | assumption | exact bJ .. | exact bK .. | exact bL .. | exact bM .. | exact bN .. | refine bB ?_ | refine bC ?_ _ | refine bD _ _ ?_ | refine bE _ ?_ | refine bF ?_ ?_ _ | refine bG ?_ ?_ _ | refine bH _ _ _ ?_ ?_) | omega | (simp; done) | (simp; omega)))) (HS.out.below (by repeat (first | with_reducible (first | exact bA .. | assumption | exact bJ .. | exact bK .. | exact bL .. | exact bM .. | exact bN .. | refine bB ?_ | refine bC ?_ _ | refine bD _ _ ?_ | refine bE _ ?_ | refine bF ?_ ?_ _ | refine bG ?_ ?_ _ | refine bH _ _ _ ?_ ?_) | omega | (simp; done) | (simp; omega))))).mono ?_; rintro e w1 ⟨rfl, hb⟩; obtain ⟨ext5, d5, rfl⟩ := Below.grown_eq _ hb; clear hb))
                    go_ret
                    exact ⟨rfl, (by repeat (first | with_reducible (first | exact bA .. | assumption | exact bJ .. | exact bK .. | exact bL .. | exact bM .. | exact bN .. | refine bB ?_ | refine bC ?_ _ | refine bD _ _ ?_ | refine bE _ ?_ | refine bF ?_ ?_ _ | refine bG ?_ ?_ _ | refine bH _ _ _ ?_ ?_) | omega | (simp; done) | (simp; omega)))⟩
              · rw [if_neg a7]
                have q7 : (xo == 5) = false := beq_eq_false_iff_ne.2 a7
                clear hver
                cases hk : hasN l xp
                all_goals rw [hk] at HGT
                all_goals simp only [if_true, Bool.false_eq_true, if_false] at HGT
                all_goals clear hk
                case false =>
                  go_enter Tryz.func19, Tryz.ntmps19
                  go_wp2_with (first | (go_at_call 29; refine (HGD.out _ (HV.out.below (by repeat (first | with_reducible (first | exact bA .. | assumption | exact bJ .. | exact bK .. | exact bL .. | exact bM .. | exact bN .. | refine bB ?_ | refine bC ?_ _ | refine bD _ _ ?_ | refine bE _ ?_ | refine bF ?_ ?_ _ | refine bG ?_ ?_ _ | refine bH _ _ _ ?_ ?_) | omega | (simp; done) | (simp; omega)))) (HS.out.below (by repeat (first | with_reducible (first | exact bA .. | assumption | exact bJ .. | exact bK .. | exact bL .. | exact bM .. | exact bN .. | refine bB ?_ | refine bC ?_ _ | refine bD _ _ ?_ | refine bE _ ?_ | refine bF ?_ ?_ _ | refine bG ?_ ?_ _ | refine bH _ _ _ ?_ ?_) | omega | (simp; done) | (simp; omega))))).mono ?_; rintro e w1 ⟨rfl, hb⟩; obtain ⟨ext1, d1, rfl⟩ := Below.grown_eq _ hb; clear hb) | (go_at_call 42; refine (HWG.out _).mono ?_; rintro e w1 ⟨rfl, hb⟩; obtain ⟨ext2, d2, rfl⟩ := Below.grown_eq _ hb; clear hb) | (go_at_call 43; refine (HOP.out _ (HS.out.below (by repeat (first | with_reducible (first | exact bA .. | assumption | exact bJ .. | exact bK .. | exact bL .. | exact bM .. | exact bN .. | refine bB ?_ | refine bC ?_ _ | refine bD _ _ ?_ | refine bE _ ?_ | refine bF ?_ ?_ _ | refine bG ?_ ?_ _ | refine bH _ _ _ ?_ ?_) | omega | (simp; done) | (simp; omega))))).mono ?_; rintro e w1 ⟨rfl, hb⟩; obtain ⟨ext3, d3, rfl⟩ := Below.grown_eq _ hb; clear hb) | (go_at_call 44; refine (HGT.out _ (HV.out.below (by repeat (first | with_reducible (first | exact bA .. | assumption | exact bJ .. | exact bK .. | exact bL .. | exact bM .. | exact bN .. | refine bB ?_ | refine bC ?_ _ | refine bD _ _ ?_ | refine bE _ ?_ | refine bF ?_ ?_ _ | refine bG ?_ ?_ _ | refine bH _ _ _ ?_ ?_) | omega | (simp; done) | (simp; omega))))).mono ?_; rintro e w1 ⟨rfl, hb⟩; obtain ⟨ext4, d4, rfl⟩ := Below.grown_eq _ hb; clear hb) | (go_at_call 45; refine (HLK.out _ (HV.out.below (by repeat (first | with_reducible (first | exact bA .. | assumption | exact bJ .. | exact bK .. | exact bL .. | exact bM .. | exact bN .. | refine bB ?_ | refine bC ?_ _ | refine bD _ _ ?_ | refine bE _ ?_ | refine bF ?_ ?_ _ | refine bG ?_ ?_ _ | refine bH _ _ _ ?_ ?_) | omega | (simp; done) | (simp; omega)))) (HS.out.below (by repeat (first | with_reducible (first | exact bA .. | assumption | exact bJ .. | exact bK .. | exact bL .. | exact bM .. | exact bN .. | refine bB ?_ | refine bC ?_ _ | refine bD _ _ ?_ | refine bE _ ?_ | refine bF ?_ ?_ _ | refine bG ?_ ?_ _ | refine bH _ _ _ ?_ ?_) | omega | (simp; done) | (simp; omega))))).mono ?_; rintro e w1 ⟨rfl, hb⟩; obtain ⟨ext5, d5, rfl⟩ := Below.grown_eq _ hb; clear hb))
                  go_ret
                  exact ⟨rfl, (by repeat (first | with_reducible (first | exact bA .. | assumption | exact bJ .. | exact bK .. | exact bL .. | exact bM .. | exact bN .. | refine bB ?_ | refine bC ?_ _ | refine bD _ _ ?_ | refine bE _ ?_ | refine bF ?_ ?_ _ | refine bG ?_ ?_ _ | refine bH _ _ _ ?_ ?_) | omega | (simp; done) | (simp; omega)))⟩
                case true =>
                  go_enter Tryz.func19, Tryz.ntmps19
                  go_wp2_with (first | (go_at_call 29; refine (HGD.out _ (HV.out.below (by repeat (first | with_reducible (first | exact bA .. | assumption | exact bJ .. | exact bK .. | exact bL .. | exact bM .. | exact bN .. | refine bB ?_ | refine bC ?_ _ | refine bD _ _ ?_ | refine bE _ ?_ | refine bF ?_ ?_ _ | refine bG ?_ ?_ _ | refine bH _ _ _ ?_ ?_) | omega | (simp; done) | (simp; omega)))) (HS.out.below (by repeat (first | with_reducible (first | exact bA .. | assumption | exact bJ .. | exact bK .. | exact bL .. | exact bM .. | exact bN .. | refine bB ?_ | refine bC ?_ _ | refine bD _ _ ?_ | refine bE _ ?_ | refine bF ?_ ?_ _ | refine bG ?_ ?_ _ | refine bH _ _ _ ?_ ?_) | omega | (simp; done) | (simp; omega))))).mono ?_; rintro e w1 ⟨rfl, hb⟩; obtain ⟨ext1, d1, rfl⟩ := Below.grown_eq _ hb; clear hb) | (go_at_call 42; refine (HWG.out _).mono ?_; rintro e w1 ⟨rfl, hb⟩; obtain ⟨ext2, d2, rfl⟩ := Below.grown_eq _ hb; clear hb) | (go_at_call 43; refine (HOP.out _ (HS.out.below (by repeat (first | with_reducible (first | exact bA .. | assumption | exact bJ .. | exact bK .. | exact bL .. | exact bM .. | exact bN .. | refine bB ?_ | refine bC ?_ _ | refine bD _ _ ?_ | refine bE _ ?_ | refine bF ?_ ?_ _ | refine bG ?_ ?_ _ | refine bH _ _ _ ?_ ?_) | omega | (simp; done) | (simp; omega))))).mono ?_; rintro e w1 ⟨rfl, hb⟩; obtain ⟨ext3, d3, rfl⟩ := Below.grown_eq _ hb; clear hb) | (go_at_call 44; refine (HGT.out _ (HV.out.below (by repeat (first | with_reducible (first | exact bA .. | assumption | exact bJ .. | exact bK .. | exact bL .. | exact bM .. | exact bN .. | refine bB ?_ | refine bC ?_ _ | refine bD _ _ ?_ | refine bE _ ?_ | refine bF ?_ ?_ _ | refine bG ?_ ?_ _ | refine bH _ _ _ ?_ ?_) | omega | (simp; done) | (simp; omega))))).mono ?_; rintro e w1 ⟨rfl, hb⟩; obtain ⟨ext4, d4, rfl⟩ := Below.grown_eq _ hb; clear hb) | (go_at_call 45; refine (HLK.out _ (HV.out.below (by repeat (first | with_reducible (first | exact bA .. | assumption | exact bJ .. | exact bK .. | exact bL .. | exact bM .. | exact bN .. | refine bB ?_ | refine bC ?_ _ | refine bD _ _ ?_ | refine bE _ ?_ | refine bF ?_ ?_ _ | refine bG ?_ ?_ _ | refine bH _ _ _ ?_ ?_) | omega | (simp; done) | (simp; omega)))) (HS.out.below (by repeat (first | with_reducible (first | exact bA .. | assumption | exact bJ .. | exact bK .. | exact bL .. | exact bM .. | exact bN .. | refine bB ?_ | refine bC ?_ _ | refine bD _ _ ?_ | refine bE _ ?_ | refine bF ?_ ?_ _ | refine bG ?_ ?_ _ | refine bH _ _ _ ?_ ?_) | omega | (simp; done) | (simp; omega))))).mono ?_; rintro e w1 ⟨rfl, hb⟩; obtain ⟨ext5, d5, rfl⟩ := Below.grown_eq _ hb; clear hb))
                  go_ret
                  exact ⟨rfl, (by repeat (first | with_reducible (first | exact bA .. | assumption | exact bJ .. | exact bK .. | exact bL .. | exact bM .. | exact bN .. | refine bB ?_ | refine bC ?_ _ | refine bD _ _ ?_ | refine bE _ ?_ | refine bF ?_ ?_ _ | refine bG ?_ ?_ _ | refine bH _ _ _ ?_ ?_) | omega | (simp; done) | (simp; omega)))⟩
end Go.Proofs.YtchgpijfebilbaaGreatDoor

/- package tree: hand.kid. -/
namespace Go.Proofs.YtchgpijfebilbaaGreatDoor
open Go.RowKit Go.ChangeShapes Go.WideShapes Go.ChangeAt
def HandRes (w : World) (B b : Nat) (t : Tr) (ev : List Event) (e : Ending) (w' : World) : Prop := ∃ nv sv vv, e = .returned (.tuple #[]) ∧ Hand w' B b t ev nv sv vv ∧ Below B w w'
theorem kidN_no {l : List Node} {d : ByteArray} (h : hasN l d = false) (more z : Int) : kidN l d more z = l := by unfold kidN; rw [h]; rfl
theorem kidN_yes {l : List Node} {d : ByteArray} (h : hasN l d = true) {x : Node} (hx : l[posN l d]? = some x) (more z : Int) : kidN l d more z = l.set (posN l d) (bump x more z) := by
  unfold kidN
  rw [h, if_pos rfl, List.getD_eq_getElem?_getD, hx]
  rfl
set_option maxHeartbeats 4000000 in
set_option maxRecDepth 100000 in
theorem handKid (z : Int) (l : List Node) (ss : List Int) (ev : List Event) (p : ByteArray) (more zx : Int) (nv sv vv : Value) (w : World) (B b : Nat) (h : Hand w B b ⟨z, l, ss⟩ ev nv sv vv) (hB : B ≤ w.heap.size) (hp : p.size ≤ 9223372036854775807) (hn : l.length ≤ 140737488355328)
    (hev : (ev.length + 1) * 24 ≤ 140737488355328) (hmore : more = 1 ∨ more = -1) (hbd : ∀ n ∈ l, -4000000000 ≤ n.kids ∧ n.kids ≤ 4000000000 ∧ -4000000000 ≤ n.cversion ∧ n.cversion ≤ 4000000000) :
    Calls Tryz.prog 53 #[.pointer (some ⟨b, 0, none⟩), .string p, .int .i64 more, .int .i64 zx] w (HandRes w B b ⟨z, kidN l (splitR p).1 more zx, ss⟩ (ev ++ [⟨4, (splitR p).1⟩])) := by
  obtain ⟨A, c, rfl, h1, h1b, _⟩ := h.nodes.form
  obtain ⟨A2, c2, rfl, h2, h2b, _⟩ := h.sess.form
  obtain ⟨A3, c3, rfl, h3, h3b, _⟩ := h.evs.form
  have HBZ := Lib.hid hB
  have HH := Lib.hid h
  have HSP := Lib.hid (fun (W : World) => split_any p W hp)
  have HFD := Lib.hid (fun (W : World) (h : Sl cNode 9 W (.slice A l.length c) l) => trFind z (.slice A l.length c) A2 ss.length c2 l (splitR p).1 W h hn)
  obtain ⟨b0, b1, b2, b3, bf1, bf2, bf3, bf0, blt⟩ := h.cells
  generalize splitR p = sp at *
  obtain ⟨sd, st, se⟩ := sp
  simp only at *
  clear h
  cases hk : hasN l sd with
  | false =>
    rw [kidN_no hk]
    rw [hk] at HFD
    clear hk hbd hmore
    generalize posN l sd = q at *
    go_enter Tryz.func53, Tryz.ntmps53
    go_upto_region 7 with (first | (go_at_call 60; refine (HSP.out _).mono ?_; rintro e w1 ⟨rfl, hb⟩; obtain ⟨ext1, d1, rfl⟩ := Below.grown_eq _ hb; clear hb) | (go_at_call 26; refine (HFD.out _ (HH.out.nodes.sl.below (by repeat (first | with_reducible (first | exact bA .. | assumption | exact bJ .. | exact bK .. | exact bL .. | exact bM .. | exact bN .. | refine bB ?_ | refine bC ?_ _ | refine bD _ _ ?_ | refine bE _ ?_ | refine bF ?_ ?_ _ | refine bG ?_ ?_ _ | refine bH _ _ _ ?_ ?_) | omega | (simp; done) | (simp; omega))))).mono ?_; rintro e w1 ⟨rfl, hb⟩; obtain ⟨ext2, d2, rfl⟩ := Below.grown_eq _ hb; clear hb))
    refine gen_w (fun W1 hW1 => ?_)
    have hbW1 : Below w.heap.size w W1 := by rw [hW1.out]; exact (by repeat (first | with_reducible (first | exact bA .. | assumption | exact bJ .. | exact bK .. | exact bL .. | exact bM .. | exact bN .. | refine bB ?_ | refine bC ?_ _ | refine bD _ _ ?_ | refine bE _ ?_ | refine bF ?_ ?_ _ | refine bG ?_ ?_ _ | refine bH _ _ _ ?_ ?_) | omega | (simp; done) | (simp; omega)))
    clear hW1 b0 b1 b2 b3 bf1 bf2 bf3 bf0 HSP HFD
    have HHW := Lib.hid (HH.out.below hbW1)
    have HBW := Lib.hid (hbW1.mono hB)
    obtain ⟨d0, d1, d2, d3, df1, df2, df3, df0, dlt⟩ := HHW.out.cells
    have hBW : B ≤ W1.heap.size := Nat.le_trans HHW.out.base (Nat.le_of_lt dlt)
    have HEV := Lib.hid (fun (X : World) (hX : Below W1.heap.size W1 X) => (HHW.out.evs.below hX))
    go_wp2_with (at_builtin; go_loud (refine wpList_app _ rfl (.tmp 61) (.tmp 64) _ rfl elEvent (B := B) (l := ev) (m := [⟨4, sd⟩]) rfl rfl (HEV.out _ (by repeat (first | with_reducible (first | exact bA .. | assumption | exact bJ .. | exact bK .. | exact bL .. | exact bM .. | exact bN .. | refine bB ?_ | refine bC ?_ _ | refine bD _ _ ?_ | refine bE _ ?_ | refine bF ?_ ?_ _ | refine bG ?_ ?_ _ | refine bH _ _ _ ?_ ?_) | omega | (simp; done) | (simp; omega)))) (Sl.one_at cEvent 2 _ _ _ rfl _ rfl (by omega) (by simp)) cEvent_one (by simp [maxLen]; omega) (by simp; omega) (by simp; omega) ?_; intro v2 w2 hown2 hg2 hat2; obtain ⟨A4, c4, rfl, _⟩ := hown2.form; have HX3 := Lib.hid (hand_push HHW.out HBW.out (by repeat (first | with_reducible (first | exact bA .. | assumption | exact bJ .. | exact bK .. | exact bL .. | exact bM .. | exact bN .. | refine bB ?_ | refine bC ?_ _ | refine bD _ _ ?_ | refine bE _ ?_ | refine bF ?_ ?_ _ | refine bG ?_ ?_ _ | refine bH _ _ _ ?_ ?_) | omega | (simp; done) | (simp; omega))) hown2 hg2 hat2); obtain ⟨_, _, hs3, hf3, hl3⟩ := HX3.out; clear hown2 hg2 hat2))
    go_end0
    simp only [List.length_append, List.length_cons, List.length_nil, Nat.zero_add] at HX3
    exact ⟨_, _, _, rfl, HX3.out.1, HX3.out.2.1⟩
  | true =>
    have hx := getN_at hk
    generalize getN l sd = x at hx
    rw [kidN_yes hk hx]
    rw [hk] at HFD
    obtain ⟨bk1, bk2, bc1, bc2⟩ := hbd x (List.mem_of_getElem? hx)
    clear hbd hk
    generalize posN l sd = q at *
    have hql := (List.getElem?_eq_some_iff.1 hx).1
    obtain ⟨g, J, rfl, hBg, _, _, hnc, _, _⟩ := HH.out.nodes.blk (by omega)
    have hqc : q < c := by omega
    obtain ⟨xp, xd, xz, xm, xq, xv, xc, xo, xk⟩ := x
    simp only at bk1 bk2 bc1 bc2
    go_enter Tryz.func53, Tryz.ntmps53
    go_upto_region 4 with (first | (go_at_call 60; refine (HSP.out _).mono ?_; rintro e w1 ⟨rfl, hb⟩; obtain ⟨ext1, d1, rfl⟩ := Below.grown_eq _ hb; clear hb) | (go_at_call 26; refine (HFD.out _ (HH.out.nodes.sl.below (by repeat (first | with_reducible (first | exact bA .. | assumption | exact bJ .. | exact bK .. | exact bL .. | exact bM .. | exact bN .. | refine bB ?_ | refine bC ?_ _ | refine bD _ _ ?_ | refine bE _ ?_ | refine bF ?_ ?_ _ | refine bG ?_ ?_ _ | refine bH _ _ _ ?_ ?_) | omega | (simp; done) | (simp; omega))))).mono ?_; rintro e w1 ⟨rfl, hb⟩; obtain ⟨ext2, d2, rfl⟩ := Below.grown_eq _ hb; clear hb))
    refine gen_w (fun W1 hW1 => ?_)
    have hbW1 : Below w.heap.size w W1 := by rw [hW1.out]; exact (by repeat (first | with_reducible (first | exact bA .. | assumption | exact bJ .. | exact bK .. | exact bL .. | exact bM .. | exact bN .. | refine bB ?_ | refine bC ?_ _ | refine bD _ _ ?_ | refine bE _ ?_ | refine bF ?_ ?_ _ | refine bG ?_ ?_ _ | refine bH _ _ _ ?_ ?_) | omega | (simp; done) | (simp; omega)))
    have H1 := Lib.hid (HH.out.below hbW1)
    clear hW1 b0 b1 b2 b3 bf1 bf2 bf3 bf0 HSP HFD
    obtain ⟨e1, e1f⟩ := H1.out.nodes.at_cell (j := 8) (o := q * 9 + 2 + 6) hx rfl (by omega)
    have hmw : IntKind.i64.wrap (xk + more) = xk + more := by unfold IntKind.wrap; simp [IntKind.signed, IntKind.bits]; omega
    have hcw : IntKind.i64.wrap (xc + 1) = xc + 1 := by unfold IntKind.wrap; simp [IntKind.signed, IntKind.bits]; omega
    clear hmore
    go_upto_region 5 with fail
    refine gen_w (fun W2 hW2 => ?_)
    have hbW2 : Below B w W2 := by rw [hW2.out]; exact Below.set_up (hbW1.mono hB) hBg
    have H2 := Lib.hid (show Hand W2 B b _ ev _ _ _ from hW2.out ▸ H1.out.put (k := q) (j := 8) (x' := ⟨xp, xd, xz, xm, xq, xv, xc, xo, xk + more⟩) hx (by omega) (by omega) rfl)
    clear hW2 e1 e1f H1
    have hx2 := List.getElem?_set_self (a := (⟨xp, xd, xz, xm, xq, xv, xc, xo, xk + more⟩ : Node)) hql
    obtain ⟨e1, e1f⟩ := H2.out.nodes.at_cell (j := 6) (o := q * 9 + 2 + 4) hx2 rfl (by omega)
    go_upto_region 6 with fail
    refine gen_w (fun W3 hW3 => ?_)
    have hbW3 : Below B w W3 := by rw [hW3.out]; exact Below.set_up hbW2 hBg
    have H3 := Lib.hid (show Hand W3 B b _ ev _ _ _ from hW3.out ▸ H2.out.put (k := q) (j := 6) (x' := ⟨xp, xd, xz, xm, xq, xv, xc + 1, xo, xk + more⟩) hx2 (by omega) (by omega) rfl)
    rw [List.set_set] at H3
    clear hW3 e1 e1f H2 hx2 hbW2
    have hx3 := List.getElem?_set_self (a := (⟨xp, xd, xz, xm, xq, xv, xc + 1, xo, xk + more⟩ : Node)) hql
    obtain ⟨e1, e1f⟩ := H3.out.nodes.at_cell (j := 4) (o := q * 9 + 2 + 2) hx3 rfl (by omega)
    go_upto_region 7 with fail
    refine gen_w (fun W4 hW4 => ?_)
    have hbW4 : Below B w W4 := by rw [hW4.out]; exact Below.set_up hbW3 hBg
    have H4 := Lib.hid (show Hand W4 B b _ ev _ _ _ from hW4.out ▸ H3.out.put (k := q) (j := 4) (x' := ⟨xp, xd, xz, xm, zx, xv, xc + 1, xo, xk + more⟩) hx3 (by omega) (by omega) rfl)
    rw [List.set_set] at H4
    clear hW4 e1 e1f H3 hx3 hbW3 hmw hcw hbW1
    have HHW := Lib.hid H4.out
    have HBW := Lib.hid hbW4
    obtain ⟨d0, d1, d2, d3, df1, df2, df3, df0, dlt⟩ := HHW.out.cells
    have hBW : B ≤ W4.heap.size := Nat.le_trans HHW.out.base (Nat.le_of_lt dlt)
    have HEV := Lib.hid (fun (X : World) (hX : Below W4.heap.size W4 X) => (HHW.out.evs.below hX))
    go_wp2_with (at_builtin; go_loud (refine wpList_app _ rfl (.tmp 61) (.tmp 64) _ rfl elEvent (B := B) (l := ev) (m := [⟨4, sd⟩]) rfl rfl (HEV.out _ (by repeat (first | with_reducible (first | exact bA .. | assumption | exact bJ .. | exact bK .. | exact bL .. | exact bM .. | exact bN .. | refine bB ?_ | refine bC ?_ _ | refine bD _ _ ?_ | refine bE _ ?_ | refine bF ?_ ?_ _ | refine bG ?_ ?_ _ | refine bH _ _ _ ?_ ?_) | omega | (simp; done) | (simp; omega)))) (Sl.one_at cEvent 2 _ _ _ rfl _ rfl (by omega) (by simp)) cEvent_one (by simp [maxLen]; omega) (by simp; omega) (by simp; omega) ?_; intro v2 w2 hown2 hg2 hat2; obtain ⟨A4, c4, rfl, _⟩ := hown2.form; have HX3 := Lib.hid (hand_push HHW.out HBW.out (by repeat (first | with_reducible (first | exact bA .. | assumption | exact bJ .. | exact bK .. | exact bL .. | exact bM .. | exact bN .. | refine bB ?_ | refine bC ?_ _ | refine bD _ _ ?_ | refine bE _ ?_ | refine bF ?_ ?_ _ | refine bG ?_ ?_ _ | refine bH _ _ _ ?_ ?_) | omega | (simp; done) | (simp; omega))) hown2 hg2 hat2); obtain ⟨_, _, hs3, hf3, hl3⟩ := HX3.out; clear hown2 hg2 hat2))
    go_end0
    simp only [List.length_append, List.length_cons, List.length_nil, Nat.zero_add] at HX3
    exact ⟨_, _, _, rfl, HX3.out.1, HX3.out.2.1⟩
end Go.Proofs.YtchgpijfebilbaaGreatDoor

/- package tree: hand.remove. -/
namespace Go.Proofs.YtchgpijfebilbaaGreatDoor
open Go.RowKit Go.ChangeShapes Go.WideShapes Go.ChangeAt
theorem own_same (A : Option Addr) (n c m d : Nat) : (Value.slice A n c).ownBlock = (Value.slice A m d).ownBlock := by
  cases A with
  | none => rfl
  | some a => rfl
theorem mem_delN {l : List Node} {p : ByteArray} {n : Node} (h : n ∈ delN l p) : n ∈ l := by
  unfold delN at h
  rcases List.mem_append.1 h with h | h
  · exact List.mem_of_mem_take h
  · exact List.mem_of_mem_drop h
theorem delN_len {l : List Node} {p : ByteArray} (h : posN l p < l.length) : (delN l p).length = l.length - 1 := by
  unfold delN
  rw [List.length_append, List.length_take, List.length_drop]
  omega
set_option maxHeartbeats 4000000 in
set_option maxRecDepth 100000 in
theorem handRemove (z : Int) (l : List Node) (ss : List Int) (ev : List Event) (p : ByteArray) (zx : Int) (nv sv vv : Value) (w : World) (B b : Nat) (h : Hand w B b ⟨z, l, ss⟩ ev nv sv vv) (hB : B ≤ w.heap.size) (hk : hasN l p = true) (hp : p.size ≤ 9223372036854775807) (hn : l.length ≤ 140737488355328)
    (hev : (ev.length + 2) * 24 ≤ 140737488355328) (hbd : ∀ n ∈ l, -4000000000 ≤ n.kids ∧ n.kids ≤ 4000000000 ∧ -4000000000 ≤ n.cversion ∧ n.cversion ≤ 4000000000) :
    Calls Tryz.prog 24 #[.pointer (some ⟨b, 0, none⟩), .string p, .int .i64 zx] w (HandRes w B b ⟨z, goneN l p zx, ss⟩ (ev ++ goneV p)) := by
  obtain ⟨A, c, rfl, h1, h1b, _⟩ := h.nodes.form
  obtain ⟨A2, c2, rfl, h2, h2b, _⟩ := h.sess.form
  obtain ⟨A3, c3, rfl, h3, h3b, _⟩ := h.evs.form
  have HH := Lib.hid h
  have HFD := Lib.hid (fun (W : World) (h : Sl cNode 9 W (.slice A l.length c) l) => trFind z (.slice A l.length c) A2 ss.length c2 l p W h hn)
  rw [hk] at HFD
  have hql := hasN_lt hk
  have hdl := delN_len hql
  have HBD := Lib.hid (fun n (h : n ∈ delN l p) => hbd n (mem_delN h))
  have hdd : delN l p = l.take (posN l p) ++ l.drop (posN l p + 1) := rfl
  unfold goneN goneV parent
  generalize delN l p = L at *
  generalize posN l p = q at *
  obtain ⟨b0, b1, b2, b3, bf1, bf2, bf3, bf0, blt⟩ := h.cells
  clear h hk hbd
  go_enter Tryz.func24, Tryz.ntmps24
  go_upto_region 1 with ((go_at_call 26; refine (HFD.out _ (HH.out.nodes.sl.below (by repeat (first | with_reducible (first | exact bA .. | assumption | exact bJ .. | exact bK .. | exact bL .. | exact bM .. | exact bN .. | refine bB ?_ | refine bC ?_ _ | refine bD _ _ ?_ | refine bE _ ?_ | refine bF ?_ ?_ _ | refine bG ?_ ?_ _ | refine bH _ _ _ ?_ ?_) | omega | (simp; done) | (simp; omega))))).mono ?_; rintro e w1 ⟨rfl, hb⟩; obtain ⟨ext2, d2, rfl⟩ := Below.grown_eq _ hb; clear hb))
  refine gen_w (fun W1 hW1 => ?_)
  have hbW1 : Below w.heap.size w W1 := by rw [hW1.out]; exact (by repeat (first | with_reducible (first | exact bA .. | assumption | exact bJ .. | exact bK .. | exact bL .. | exact bM .. | exact bN .. | refine bB ?_ | refine bC ?_ _ | refine bD _ _ ?_ | refine bE _ ?_ | refine bF ?_ ?_ _ | refine bG ?_ ?_ _ | refine bH _ _ _ ?_ ?_) | omega | (simp; done) | (simp; omega)))
  have H1 := Lib.hid (HH.out.below hbW1)
  clear hW1 b0 b1 b2 b3 bf1 bf2 bf3 bf0 HFD
  obtain ⟨b0, b1, b2, b3, bf1, bf2, bf3, bf0, blt1⟩ := H1.out.cells
  go_upto_region 2 with (go_at_call 52; go_loud ((with_reducible refine (delNode _ _ _ _ l _ B H1.out.nodes hql (by simpa [maxLen] using h1b)).mono ?_); rintro e w2 ⟨rfl, hd⟩; have HX := Lib.hid (hand_rows (v2 := .slice A (l.length - 1) c) H1.out (hbW1.mono hB) (Below.refl _ _) hd.out.1 hd.out.2 (Or.inl (own_same A _ _ _ _))); obtain ⟨_, _, hs3, hf3, hl3⟩ := HX.out; clear hd))
  refine gen_w (fun W2 hW2 => ?_)
  rw [← hW2.out, ← hdd] at HX
  have H2 := Lib.hid HX.out.1
  have hb2 : Below B w W2 := HX.out.2.1
  clear hW2 HX hs3 hf3 hl3 H1 b0 b1 b2 b3 bf1 bf2 bf3 bf0
  obtain ⟨b0, b1, b2, b3, bf1, bf2, bf3, bf0, blt2⟩ := H2.out.cells
  have hBW : B ≤ W2.heap.size := Nat.le_trans H2.out.base (Nat.le_of_lt blt2)
  have HEV := Lib.hid (fun (X : World) (hX : Below W2.heap.size W2 X) => (H2.out.evs.below hX))
  go_upto_region 3 with (at_builtin; refine wpList_app _ rfl (.tmp 34) (.tmp 37) _ rfl elEvent (B := B) (l := ev) (m := [⟨2, p⟩]) rfl rfl (HEV.out _ (by repeat (first | with_reducible (first | exact bA .. | assumption | exact bJ .. | exact bK .. | exact bL .. | exact bM .. | exact bN .. | refine bB ?_ | refine bC ?_ _ | refine bD _ _ ?_ | refine bE _ ?_ | refine bF ?_ ?_ _ | refine bG ?_ ?_ _ | refine bH _ _ _ ?_ ?_) | omega | (simp; done) | (simp; omega)))) (Sl.one_at cEvent 2 _ _ _ rfl _ rfl (by omega) (by simp)) cEvent_one (by simp [maxLen]; omega) (by simp; omega) (by simp; omega) ?_; intro v2 w2 hown2 hg2 hat2; obtain ⟨A4, c4, rfl, _⟩ := hown2.form; have HX3 := Lib.hid (hand_push H2.out hb2 (by repeat (first | with_reducible (first | exact bA .. | assumption | exact bJ .. | exact bK .. | exact bL .. | exact bM .. | exact bN .. | refine bB ?_ | refine bC ?_ _ | refine bD _ _ ?_ | refine bE _ ?_ | refine bF ?_ ?_ _ | refine bG ?_ ?_ _ | refine bH _ _ _ ?_ ?_) | omega | (simp; done) | (simp; omega))) hown2 hg2 hat2); obtain ⟨_, _, hs3, hf3, hl3⟩ := HX3.out; clear hown2 hg2 hat2)
  refine gen_w (fun W3 hW3 => ?_)
  simp only [List.length_append, List.length_cons, List.length_nil, Nat.zero_add] at HX3
  rw [← hW3.out] at HX3
  have H3 := Lib.hid HX3.out.1
  have hb3 : Below B w W3 := HX3.out.2.1
  clear hW3 HX3 hs3 hf3 hl3 H2 b0 b1 b2 b3 bf1 bf2 bf3 bf0 HEV
  have hBW3 : B ≤ W3.heap.size := Nat.le_trans H3.out.base (Nat.le_of_lt H3.out.bk.lt)
  go_wp2_with (go_at_call 53; (with_reducible refine (handKid z L ss (ev ++ [⟨2, p⟩]) p (-1) zx _ _ _ W3 B b H3.out hBW3 hp (by omega) (by simp; omega) (Or.inr rfl) HBD.out).mono ?_); rintro e w4 ⟨nv4, sv4, vv4, rfl, hh4, hb4⟩; have HH4 := Lib.hid hh4; clear hh4)
  go_end0
  have hfin := HH4.out
  rw [List.append_assoc] at hfin
  exact ⟨_, _, _, rfl, hfin, hb3.trans hb4⟩
end Go.Proofs.YtchgpijfebilbaaGreatDoor

/- package tree: hand.create. -/
namespace Go.Proofs.YtchgpijfebilbaaGreatDoor
open Go.RowKit Go.ChangeShapes Go.WideShapes Go.ChangeAt
theorem Bk.new (w : World) (cs : Array Value) (t : TypeId) {g : Nat} (hg : g = w.heap.size) : Bk (w.alloc (.cells cs t)) g cs.toList t := by
  subst hg
  unfold Bk
  simp only [Array.toArray_toList]
  exact heap_alloc_new w _
theorem own_lt {α : Type} {f : α → List Value} {s : Nat} {e : TypeId} {w : World} {B : Nat} {v : Value} {l : List α} (h : Ow f s e w B v l) {g : Nat} (hg : w.heap.size ≤ g) : v.ownBlock ≠ some g := fun e => by have := h.lt g e; omega
set_option maxHeartbeats 4000000 in
set_option maxRecDepth 100000 in
theorem handCreate (z : Int) (l : List Node) (ss : List Int) (ev : List Event) (x : Txn) (nv sv vv : Value) (w : World) (B b : Nat) (h : Hand w B b ⟨z, l, ss⟩ ev nv sv vv) (hB : B ≤ w.heap.size) (hk : hasN l x.path = false) (hp : x.path.size ≤ 9223372036854775807) (hn : (l.length + 1) * 88 ≤ 140737488355328)
    (hev : (ev.length + 2) * 24 ≤ 140737488355328) (hbd : ∀ n ∈ l, -4000000000 ≤ n.kids ∧ n.kids ≤ 4000000000 ∧ -4000000000 ≤ n.cversion ∧ n.cversion ≤ 4000000000) :
    Calls Tryz.prog 25 #[.pointer (some ⟨b, 0, none⟩), txnV x] w (HandRes w B b ⟨z, makeN l x, ss⟩ (ev ++ makeV x.path)) := by
  obtain ⟨A, c, rfl, h1, h1b, _⟩ := h.nodes.form
  obtain ⟨A2, c2, rfl, h2, h2b, _⟩ := h.sess.form
  obtain ⟨A3, c3, rfl, h3, h3b, _⟩ := h.evs.form
  have HH := Lib.hid h
  have hne1 := own_lt h.nodes (Nat.le_refl _)
  have hne3 := own_lt h.evs (Nat.le_refl _)
  have HFD := Lib.hid (fun (W : World) (h : Sl cNode 9 W (.slice A l.length c) l) => trFind z (.slice A l.length c) A2 ss.length c2 l x.path W h (by omega))
  rw [hk] at HFD
  have hql : posN l x.path ≤ l.length := by
    have := posK_le' (l.map Node.path) x.path
    rwa [List.length_map] at this
  have hdd : insN l (nodeOf x) = l.take (posN l x.path) ++ nodeOf x :: l.drop (posN l x.path) := rfl
  have HBD : Hid (∀ n ∈ insN l (nodeOf x), -4000000000 ≤ n.kids ∧ n.kids ≤ 4000000000 ∧ -4000000000 ≤ n.cversion ∧ n.cversion ≤ 4000000000) := Lib.hid (fun n hn => by
    rw [hdd] at hn
    rcases List.mem_append.1 hn with hn | hn
    · exact hbd n (List.mem_of_mem_take hn)
    · rcases List.mem_cons.1 hn with rfl | hn
      · simp only [nodeOf]; omega
      · exact hbd n (List.mem_of_mem_drop hn))
  have hLl : (insN l (nodeOf x)).length = l.length + 1 := by
    rw [hdd, List.length_append, List.length_cons, List.length_take, List.length_drop]
    omega
  unfold makeN makeV parent
  obtain ⟨xz, xo, xs, xp, xd, xv, xw⟩ := x
  simp only at *
  obtain ⟨L, hL⟩ : ∃ L, L = insN l (nodeOf ⟨xz, xo, xs, xp, xd, xv, xw⟩) := ⟨_, rfl⟩
  rw [← hL] at hdd HBD hLl ⊢
  generalize posN l xp = q at *
  obtain ⟨b0, b1, b2, b3, bf1, bf2, bf3, bf0, blt⟩ := h.cells
  clear h hk hbd hL
  go_enter Tryz.func25, Tryz.ntmps25
  go_upto_region 1 with fail
  refine wp_region_grow (by kernel_rfl) (by kernel_rfl) ?_
  try simp only [List.append]
  repeat' (first | go_big_quiet_skip | (go_big_quiet_want; go_big_quiet_op; first | go_big_quiet_on | (apply Exists.intro; refine ⟨fun _ => ?hqg1, ?hqg2⟩; (case hqg1 => (go_at_call 26; refine Calls.grow_of (HFD.out _ (HH.out.nodes.sl.below (by repeat (first | with_reducible (first | exact bA .. | assumption | exact bJ .. | exact bK .. | exact bL .. | exact bM .. | exact bN .. | refine bB ?_ | refine bC ?_ _ | refine bD _ _ ?_ | refine bE _ ?_ | refine bF ?_ ?_ _ | refine bG ?_ ?_ _ | refine bH _ _ _ ?_ ?_) | omega | (simp; done) | (simp; omega))))))); go_big_quiet_on)))
  all_goals refine wpQuiet_nil ?_
  all_goals rintro _ ⟨⟨extq, dq⟩, rfl⟩
  all_goals dsimp only
  go_upto_region 2 with fail
  refine gen_w (fun W1 hW1 => ?_)
  have hbW1 : Below w.heap.size w W1 := by rw [hW1.out]; exact (by repeat (first | with_reducible (first | exact bA .. | assumption | exact bJ .. | exact bK .. | exact bL .. | exact bM .. | exact bN .. | refine bB ?_ | refine bC ?_ _ | refine bD _ _ ?_ | refine bE _ ?_ | refine bF ?_ ?_ _ | refine bG ?_ ?_ _ | refine bH _ _ _ ?_ ?_) | omega | (simp; done) | (simp; omega)))
  have H1 := Lib.hid (HH.out.below hbW1)
  have HX1 : Hid (Bk W1 w.heap.size (cTxn ⟨xz, xo, xs, xp, xd, xv, xw⟩) 53) := Lib.hid (by rw [hW1.out]; exact (Bk.new w _ _ rfl).below (by repeat (first | with_reducible (first | exact bA .. | assumption | exact bJ .. | exact bK .. | exact bL .. | exact bM .. | exact bN .. | refine bB ?_ | refine bC ?_ _ | refine bD _ _ ?_ | refine bE _ ?_ | refine bF ?_ ?_ _ | refine bG ?_ ?_ _ | refine bH _ _ _ ?_ ?_) | omega | (simp; done) | (simp; omega))))
  have hs1 : w.heap.size < W1.heap.size := HX1.out.lt
  clear hW1 b0 b1 b2 b3 bf1 bf2 bf3 bf0 HFD HH
  obtain ⟨b0, b1, b2, b3, bf1, bf2, bf3, bf0, blt1⟩ := H1.out.cells
  have x0 := HX1.out.cell 0
  have x1 := HX1.out.cell 1
  have x2 := HX1.out.cell 2
  have x3 := HX1.out.cell 3
  have x4 := HX1.out.cell 4
  have x5 := HX1.out.cell 5
  have x6 := HX1.out.cell 6
  simp only [cTxn, List.getElem?_cons_succ, List.getElem?_cons_zero] at x0 x1 x2 x3 x4 x5 x6
  refine wp_region_noPanic ?_
  refine wp_region_W (by kernel_rfl) (fun W hW => ?_)
  have cl0 : W.cell? ⟨b, 1, none⟩ = some (.slice A l.length c) := by rw [hW.out]; go_simp
  have cl1 : W.cell? ⟨w.heap.size, 0, none⟩ = some (.int .i64 xz) := by rw [hW.out]; go_simp
  have cl2 : W.cell? ⟨w.heap.size, 1, none⟩ = some (.int .i64 xo) := by rw [hW.out]; go_simp
  have cl3 : W.cell? ⟨w.heap.size, 2, none⟩ = some (.int .i64 xs) := by rw [hW.out]; go_simp
  have cl4 : W.cell? ⟨w.heap.size, 3, none⟩ = some (.string xp) := by rw [hW.out]; go_simp
  have cl5 : W.cell? ⟨w.heap.size, 4, none⟩ = some (.string xd) := by rw [hW.out]; go_simp
  have cl6 : W.cell? ⟨w.heap.size, 5, none⟩ = some (.int .i64 xv) := by rw [hW.out]; go_simp
  have cl7 : W.cell? ⟨w.heap.size, 6, none⟩ = some (.int .i64 xw) := by rw [hW.out]; go_simp
  refine wpAny_S (fun w' => w'.cell? ⟨b, 1, none⟩ = some (.slice A l.length c) ∧ w'.cell? ⟨w.heap.size, 0, none⟩ = some (.int .i64 xz) ∧ w'.cell? ⟨w.heap.size, 1, none⟩ = some (.int .i64 xo) ∧ w'.cell? ⟨w.heap.size, 2, none⟩ = some (.int .i64 xs) ∧ w'.cell? ⟨w.heap.size, 3, none⟩ = some (.string xp) ∧ w'.cell? ⟨w.heap.size, 4, none⟩ = some (.string xd) ∧ w'.cell? ⟨w.heap.size, 5, none⟩ = some (.int .i64 xv) ∧ w'.cell? ⟨w.heap.size, 6, none⟩ = some (.int .i64 xw)) (fun i => i == 26) (by (try dsimp only); (refine ⟨?_, ?_, ?_, ?_, ?_, ?_, ?_, ?_⟩ <;> go_simp)) (fun hHeld => ?_)
  (refine wpE_takeP (i := 0) (v := ?gV1_1) (by simp only [zD]; rfl) (by kernel_rfl) (by kernel_rfl) (by kernel_rfl) (by rfl) (fun _ _ _ h => h) (Or.inl ⟨by rfl, ?gY1_1⟩) (by assumption) ?gR1_1; case gY1_1 => (intro w hSw; (try dsimp only at hSw); go_simp <;> with_reducible rfl))
  try simp only [Act.put, zA, zB, zC]
  (refine wpE_takeP (i := 1) (v := ?gV1_2) (by simp only [zD]; rfl) (by kernel_rfl) (by kernel_rfl) (by kernel_rfl) (by rfl) (fun _ _ _ h => h) (Or.inl ⟨by rfl, ?gY1_2⟩) (by assumption) ?gR1_2; case gY1_2 => (intro w hSw; (try dsimp only at hSw); go_simp <;> with_reducible rfl))
  try simp only [Act.put, zA, zB, zC]
  (refine wpE_takeP (i := 2) (v := ?gV1_3) (by simp only [zD]; rfl) (by kernel_rfl) (by kernel_rfl) (by kernel_rfl) (by rfl) (fun _ _ _ h => h) (Or.inl ⟨by rfl, ?gY1_3⟩) (by assumption) ?gR1_3; case gY1_3 => (intro w hSw; (try dsimp only at hSw); go_simp <;> with_reducible rfl))
  try simp only [Act.put, zA, zB, zC]
  (refine wpE_takeP (i := 3) (v := ?gV1_4) (by simp only [zD]; rfl) (by kernel_rfl) (by kernel_rfl) (by kernel_rfl) (by rfl) (fun _ _ _ h => h) (Or.inl ⟨by rfl, ?gY1_4⟩) (by assumption) ?gR1_4; case gY1_4 => (intro w hSw; (try dsimp only at hSw); go_simp <;> with_reducible rfl))
  try simp only [Act.put, zA, zB, zC]
  (refine wpE_takeP (i := 4) (v := ?gV1_5) (by simp only [zD]; rfl) (by kernel_rfl) (by kernel_rfl) (by kernel_rfl) (by rfl) (fun _ _ _ h => h) (Or.inl ⟨by rfl, ?gY1_5⟩) (by assumption) ?gR1_5; case gY1_5 => (intro w hSw; (try dsimp only at hSw); go_simp <;> with_reducible rfl))
  try simp only [Act.put, zA, zB, zC]
  (refine wpE_take (i := 5) (v := ?gV1_6) (by simp only [zD]; rfl) (by kernel_rfl) (by kernel_rfl) (by kernel_rfl) (by kernel_rfl) (by kernel_rfl) (by rfl) (fun _ _ _ h => h) (Or.inl ⟨by rfl, ?gY1_6⟩) (by assumption) ?gR1_6; case gY1_6 => (intro w hSw; (try dsimp only at hSw); go_simp <;> with_reducible rfl))
  try simp only [Act.put, zA, zB, zC]
  (refine wpE_takeP (i := 6) (v := ?gV1_7) (by simp only [zD]; rfl) (by kernel_rfl) (by kernel_rfl) (by kernel_rfl) (by rfl) (fun _ _ _ h => h) (Or.inl ⟨by rfl, ?gY1_7⟩) (by assumption) ?gR1_7; case gY1_7 => (intro w hSw; (try dsimp only at hSw); go_simp <;> with_reducible rfl))
  try simp only [Act.put, zA, zB, zC]
  (refine wpE_takeP (i := 7) (v := ?gV1_8) (by simp only [zD]; rfl) (by kernel_rfl) (by kernel_rfl) (by kernel_rfl) (by rfl) (fun _ _ _ h => h) (Or.inl ⟨by rfl, ?gY1_8⟩) (by assumption) ?gR1_8; case gY1_8 => (intro w hSw; (try dsimp only at hSw); go_simp <;> with_reducible rfl))
  try simp only [Act.put, zA, zB, zC]
  (refine wpE_take (i := 8) (v := ?gV1_9) (by simp only [zD]; rfl) (by kernel_rfl) (by kernel_rfl) (by kernel_rfl) (by kernel_rfl) (by kernel_rfl) (by rfl) (fun _ _ _ h => h) (Or.inl ⟨by rfl, ?gY1_9⟩) (by assumption) ?gR1_9; case gY1_9 => (intro w hSw; (try dsimp only at hSw); go_simp <;> with_reducible rfl))
  try simp only [Act.put, zA, zB, zC]
  (refine wpE_takeP (i := 9) (v := ?gV1_10) (by simp only [zD]; rfl) (by kernel_rfl) (by kernel_rfl) (by kernel_rfl) (by rfl) (fun _ _ _ h => h) (Or.inl ⟨by rfl, ?gY1_10⟩) (by assumption) ?gR1_10; case gY1_10 => (intro w hSw; (try dsimp only at hSw); go_simp <;> with_reducible rfl))
  try simp only [Act.put, zA, zB, zC]
  (refine wpE_take (i := 10) (v := ?gV1_11) (by simp only [zD]; rfl) (by kernel_rfl) (by kernel_rfl) (by kernel_rfl) (by kernel_rfl) (by kernel_rfl) (by rfl) (fun _ _ _ h => h) (Or.inl ⟨by rfl, ?gY1_11⟩) (by assumption) ?gR1_11; case gY1_11 => (intro w hSw; (try dsimp only at hSw); go_simp <;> with_reducible rfl))
  try simp only [Act.put, zA, zB, zC]
  (refine wpE_takeP (i := 11) (v := ?gV1_12) (by simp only [zD]; rfl) (by kernel_rfl) (by kernel_rfl) (by kernel_rfl) (by rfl) (fun _ _ _ h => h) (Or.inl ⟨by rfl, ?gY1_12⟩) (by assumption) ?gR1_12; case gY1_12 => (intro w hSw; (try dsimp only at hSw); go_simp <;> with_reducible rfl))
  try simp only [Act.put, zA, zB, zC]
  (refine wpE_take (i := 12) (v := ?gV1_13) (by simp only [zD]; rfl) (by kernel_rfl) (by kernel_rfl) (by kernel_rfl) (by kernel_rfl) (by kernel_rfl) (by rfl) (fun _ _ _ h => h) (Or.inl ⟨by rfl, ?gY1_13⟩) (by assumption) ?gR1_13; case gY1_13 => (intro w hSw; (try dsimp only at hSw); go_simp <;> with_reducible rfl))
  try simp only [Act.put, zA, zB, zC]
  (refine wpE_takeP (i := 13) (v := ?gV1_14) (by simp only [zD]; rfl) (by kernel_rfl) (by kernel_rfl) (by kernel_rfl) (by rfl) (fun _ _ _ h => h) (Or.inl ⟨by rfl, ?gY1_14⟩) (by assumption) ?gR1_14; case gY1_14 => (intro w hSw; (try dsimp only at hSw); go_simp <;> with_reducible rfl))
  try simp only [Act.put, zA, zB, zC]
  (refine wpE_take (i := 14) (v := ?gV1_15) (by simp only [zD]; rfl) (by kernel_rfl) (by kernel_rfl) (by kernel_rfl) (by kernel_rfl) (by kernel_rfl) (by rfl) (fun _ _ _ h => h) (Or.inl ⟨by rfl, ?gY1_15⟩) (by assumption) ?gR1_15; case gY1_15 => (intro w hSw; (try dsimp only at hSw); go_simp <;> with_reducible rfl))
  try simp only [Act.put, zA, zB, zC]
  (refine wpE_takeP (i := 15) (v := ?gV1_16) (by simp only [zD]; rfl) (by kernel_rfl) (by kernel_rfl) (by kernel_rfl) (by rfl) (fun _ _ _ h => h) (Or.inl ⟨by rfl, ?gY1_16⟩) (by assumption) ?gR1_16; case gY1_16 => (intro w hSw; (try dsimp only at hSw); go_simp <;> with_reducible rfl))
  try simp only [Act.put, zA, zB, zC]
  (refine wpE_take (i := 16) (v := ?gV1_17) (by simp only [zD]; rfl) (by kernel_rfl) (by kernel_rfl) (by kernel_rfl) (by kernel_rfl) (by kernel_rfl) (by rfl) (fun _ _ _ h => h) (Or.inl ⟨by rfl, ?gY1_17⟩) (by assumption) ?gR1_17; case gY1_17 => (intro w hSw; (try dsimp only at hSw); go_simp <;> with_reducible rfl))
  try simp only [Act.put, zA, zB, zC]
  (refine wpE_takeP (i := 17) (v := ?gV1_18) (by simp only [zD]; rfl) (by kernel_rfl) (by kernel_rfl) (by kernel_rfl) (by rfl) (fun _ _ _ h => h) (Or.inl ⟨by rfl, ?gY1_18⟩) (by assumption) ?gR1_18; case gY1_18 => (intro w hSw; (try dsimp only at hSw); go_simp <;> with_reducible rfl))
  try simp only [Act.put, zA, zB, zC]
  (refine wpE_take (i := 18) (v := ?gV1_19) (by simp only [zD]; rfl) (by kernel_rfl) (by kernel_rfl) (by kernel_rfl) (by kernel_rfl) (by kernel_rfl) (by rfl) (fun _ _ _ h => h) (Or.inl ⟨by rfl, ?gY1_19⟩) (by assumption) ?gR1_19; case gY1_19 => (intro w hSw; (try dsimp only at hSw); go_simp <;> with_reducible rfl))
  try simp only [Act.put, zA, zB, zC]
  (refine wpE_takeP (i := 19) (v := ?gV1_20) (by simp only [zD]; rfl) (by kernel_rfl) (by kernel_rfl) (by kernel_rfl) (by rfl) (fun _ _ _ h => h) (Or.inl ⟨by rfl, ?gY1_20⟩) (by assumption) ?gR1_20; case gY1_20 => (intro w hSw; (try dsimp only at hSw); go_simp <;> with_reducible rfl))
  try simp only [Act.put, zA, zB, zC]
  (refine wpE_takeP (i := 20) (v := ?gV1_21) (by simp only [zD]; rfl) (by kernel_rfl) (by kernel_rfl) (by kernel_rfl) (by rfl) (fun _ _ _ h => h) (Or.inl ⟨by rfl, ?gY1_21⟩) (by assumption) ?gR1_21; case gY1_21 => (intro w hSw; (try dsimp only at hSw); go_simp <;> with_reducible rfl))
  try simp only [Act.put, zA, zB, zC]
  refine wpE_ready (rs := [21]) (by kernel_rfl) (by simp) ?_
  refine AllE.cons (by simp only [zD]; rfl) (fun K hK => ?_) AllE.nil
  go_simp
  refine hK.out _ _ ?gT1_22 (fun hHeld => ?_)
  case gT1_22 => ((try dsimp only); (refine ⟨?_, ?_, ?_, ?_, ?_, ?_, ?_, ?_⟩ <;> go_simp))
  clear hK K
  try simp only [Act.put, zA, zB, zC]
  refine wpE_ready (rs := [22]) (by kernel_rfl) (by simp) ?_
  refine AllE.cons (by simp only [zD]; rfl) (fun K hK => ?_) AllE.nil
  go_simp
  (go_at_call 54; (with_reducible refine (insNode _ q l (nodeOf ⟨xz, xo, xs, xp, xd, xv, xw⟩) _ B W.heap.size (H1.out.nodes.below (by rw [hW.out]; exact (by repeat (first | with_reducible (first | exact bA .. | assumption | exact bJ .. | exact bK .. | exact bL .. | exact bM .. | exact bN .. | refine bB ?_ | refine bC ?_ _ | refine bD _ _ ?_ | refine bE _ ?_ | refine bF ?_ ?_ _ | refine bG ?_ ?_ _ | refine bH _ _ _ ?_ ?_) | omega | (simp; done) | (simp; omega))))) hql (show Bk (W.alloc (.cells #[.string xp, .string xd, .int .i64 xz, .int .i64 xz, .int .i64 xz, .int .i64 0, .int .i64 0, .int .i64 xw, .int .i64 0] 68)) W.heap.size (cNode (nodeOf ⟨xz, xo, xs, xp, xd, xv, xw⟩)) 68 from Bk.new W #[.string xp, .string xd, .int .i64 xz, .int .i64 xz, .int .i64 xz, .int .i64 0, .int .i64 0, .int .i64 xw, .int .i64 0] _ rfl) (own_lt H1.out.nodes (by rw [hW.out]; simp)) (by rw [hW.out]; simp; omega) hn).mono ?_); rintro e w2 ⟨A5, c5, rfl, hown5, hg5, hat5⟩; rw [← hdd] at hown5; have HX := Lib.hid (hand_rows (l' := L) H1.out (hbW1.mono hB) (by rw [hW.out]; exact (by repeat (first | with_reducible (first | exact bA .. | assumption | exact bJ .. | exact bK .. | exact bL .. | exact bM .. | exact bN .. | refine bB ?_ | refine bC ?_ _ | refine bD _ _ ?_ | refine bE _ ?_ | refine bF ?_ ?_ _ | refine bG ?_ ?_ _ | refine bH _ _ _ ?_ ?_) | omega | (simp; done) | (simp; omega)))) hown5 hg5 hat5); have hB2 := (HX1.out.below (by rw [hW.out]; exact (by repeat (first | with_reducible (first | exact bA .. | assumption | exact bJ .. | exact bK .. | exact bL .. | exact bM .. | exact bN .. | refine bB ?_ | refine bC ?_ _ | refine bD _ _ ?_ | refine bE _ ?_ | refine bF ?_ ?_ _ | refine bG ?_ ?_ _ | refine bH _ _ _ ?_ ?_) | omega | (simp; done) | (simp; omega))))).grown hg5 (fun e => hne1 e.symm); have y0 := hB2.cell 0; have y1 := hB2.cell 1; have y2 := hB2.cell 2; have y3 := hB2.cell 3; have y4 := hB2.cell 4; have y5 := hB2.cell 5; have y6 := hB2.cell 6; simp only [cTxn, List.getElem?_cons_succ, List.getElem?_cons_zero] at y0 y1 y2 y3 y4 y5 y6; have HBX := Lib.hid (hB2.far (g2 := b) (j := 1) (v := .slice A5 (l.length + 1) c5) (by omega)); clear hB2; obtain ⟨_, _, hs3, hf3, hl3⟩ := HX.out; clear hown5 hg5 hat5)
  refine hK.out _ _ ?gT1_23 (fun hHeld => ?_)
  case gT1_23 => ((try dsimp only); (refine ⟨?_, ?_, ?_, ?_, ?_, ?_, ?_, ?_⟩ <;> go_simp))
  clear hK K
  try simp only [Act.put, zA, zB, zC]
  (refine wpE_takeP (i := 23) (v := ?gV1_24) (by simp only [zD]; rfl) (by kernel_rfl) (by kernel_rfl) (by kernel_rfl) (by rfl) (fun _ _ _ h => h) (Or.inl ⟨by rfl, ?gY1_24⟩) (by assumption) ?gR1_24; case gY1_24 => (intro w hSw; (try dsimp only at hSw); go_simp <;> with_reducible rfl))
  try simp only [Act.put, zA, zB, zC]
  (refine wpE_takeP (i := 24) (v := ?gV1_25) (by simp only [zD]; rfl) (by kernel_rfl) (by kernel_rfl) (by kernel_rfl) (by rfl) (fun _ _ _ h => h) (Or.inl ⟨by rfl, ?gY1_25⟩) (by assumption) ?gR1_25; case gY1_25 => (intro w hSw; (try dsimp only at hSw); go_simp <;> with_reducible rfl))
  try simp only [Act.put, zA, zB, zC]
  (refine wpE_takeP (i := 25) (v := ?gV1_26) (by simp only [zD]; rfl) (by kernel_rfl) (by kernel_rfl) (by kernel_rfl) (by rfl) (fun _ _ _ h => h) (Or.inl ⟨by rfl, ?gY1_26⟩) (by assumption) ?gR1_26; case gY1_26 => (intro w hSw; (try dsimp only at hSw); go_simp <;> with_reducible rfl))
  try simp only [Act.put, zA, zB, zC]
  refine wpE_ready (rs := [26]) (by kernel_rfl) (by simp) ?_
  refine AllE.last (by simp only [zD]; rfl) (by kernel_rfl) (fun K hK => ?_) AllE.nil
  go_simp
  refine hK.out _ _ ?_
  clear hK K
  try simp only [Act.put, zA, zB, zC]
  refine wpE_done (by kernel_rfl) ?_ _
  refine NoPanic.normal ?_
  go_upto_region 3 with fail
  refine gen_w (fun W2 hW2 => ?_)
  rw [← hW2.out] at HX HBX
  have H2 := Lib.hid HX.out.1
  have hb2 : Below B w W2 := HX.out.2.1
  clear hW2 HX hs3 hf3 hl3 y0 y1 y2 y3 y4 y5 y6 H1 b0 b1 b2 b3 bf1 bf2 bf3 bf0 x0 x1 x2 x3 x4 x5 x6 HX1 hW cl0 cl1 cl2 cl3 cl4 cl5 cl6 cl7 hHeld
  obtain ⟨b0, b1, b2, b3, bf1, bf2, bf3, bf0, blt2⟩ := H2.out.cells
  have x3 := HBX.out.cell 3
  have x0 := HBX.out.cell 0
  have hs2 := HBX.out.lt
  simp only [cTxn, List.getElem?_cons_succ, List.getElem?_cons_zero] at x0 x3
  have hBW : B ≤ W2.heap.size := Nat.le_trans H2.out.base (Nat.le_of_lt blt2)
  refine wp_region_noPanic ?_
  refine wp_region_W (by kernel_rfl) (fun W hW => ?_)
  have cl0 : W.cell? ⟨b, 3, none⟩ = some (.slice A3 ev.length c3) := by rw [hW.out]; go_simp
  have cl1 : W.cell? ⟨w.heap.size, 3, none⟩ = some (.string xp) := by rw [hW.out]; go_simp
  refine wpAny_S (fun w' => w'.cell? ⟨b, 3, none⟩ = some (.slice A3 ev.length c3) ∧ w'.cell? ⟨w.heap.size, 3, none⟩ = some (.string xp)) (fun i => i == 12) (by (try dsimp only); (refine ⟨?_, ?_⟩ <;> go_simp)) (fun hHeld => ?_)
  (refine wpE_takeP (i := 0) (v := ?gV2_1) (by simp only [zD]; rfl) (by kernel_rfl) (by kernel_rfl) (by kernel_rfl) (by rfl) (fun _ _ _ h => h) (Or.inl ⟨by rfl, ?gY2_1⟩) (by assumption) ?gR2_1; case gY2_1 => (intro w hSw; (try dsimp only at hSw); go_simp <;> with_reducible rfl))
  try simp only [Act.put, zA, zB, zC]
  (refine wpE_takeP (i := 1) (v := ?gV2_2) (by simp only [zD]; rfl) (by kernel_rfl) (by kernel_rfl) (by kernel_rfl) (by rfl) (fun _ _ _ h => h) (Or.inl ⟨by rfl, ?gY2_2⟩) (by assumption) ?gR2_2; case gY2_2 => (intro w hSw; (try dsimp only at hSw); go_simp <;> with_reducible rfl))
  try simp only [Act.put, zA, zB, zC]
  (refine wpE_takeP (i := 2) (v := ?gV2_3) (by simp only [zD]; rfl) (by kernel_rfl) (by kernel_rfl) (by kernel_rfl) (by rfl) (fun _ _ _ h => h) (Or.inl ⟨by rfl, ?gY2_3⟩) (by assumption) ?gR2_3; case gY2_3 => (intro w hSw; (try dsimp only at hSw); go_simp <;> with_reducible rfl))
  try simp only [Act.put, zA, zB, zC]
  (refine wpE_takeP (i := 3) (v := ?gV2_4) (by simp only [zD]; rfl) (by kernel_rfl) (by kernel_rfl) (by kernel_rfl) (by rfl) (fun _ _ _ h => h) (Or.inl ⟨by rfl, ?gY2_4⟩) (by assumption) ?gR2_4; case gY2_4 => (intro w hSw; (try dsimp only at hSw); go_simp <;> with_reducible rfl))
  try simp only [Act.put, zA, zB, zC]
  (refine wpE_take (i := 4) (v := ?gV2_5) (by simp only [zD]; rfl) (by kernel_rfl) (by kernel_rfl) (by kernel_rfl) (by kernel_rfl) (by kernel_rfl) (by rfl) (fun _ _ _ h => h) (Or.inl ⟨by rfl, ?gY2_5⟩) (by assumption) ?gR2_5; case gY2_5 => (intro w hSw; (try dsimp only at hSw); go_simp <;> with_reducible rfl))
  try simp only [Act.put, zA, zB, zC]
  (refine wpE_takeP (i := 5) (v := ?gV2_6) (by simp only [zD]; rfl) (by kernel_rfl) (by kernel_rfl) (by kernel_rfl) (by rfl) (fun _ _ _ h => h) (Or.inl ⟨by rfl, ?gY2_6⟩) (by assumption) ?gR2_6; case gY2_6 => (intro w hSw; (try dsimp only at hSw); go_simp <;> with_reducible rfl))
  try simp only [Act.put, zA, zB, zC]
  (refine wpE_take (i := 6) (v := ?gV2_7) (by simp only [zD]; rfl) (by kernel_rfl) (by kernel_rfl) (by kernel_rfl) (by kernel_rfl) (by kernel_rfl) (by rfl) (fun _ _ _ h => h) (Or.inl ⟨by rfl, ?gY2_7⟩) (by assumption) ?gR2_7; case gY2_7 => (intro w hSw; (try dsimp only at hSw); go_simp <;> with_reducible rfl))
  try simp only [Act.put, zA, zB, zC]
  (refine wpE_takeP (i := 7) (v := ?gV2_8) (by simp only [zD]; rfl) (by kernel_rfl) (by kernel_rfl) (by kernel_rfl) (by rfl) (fun _ _ _ h => h) (Or.inl ⟨by rfl, ?gY2_8⟩) (by assumption) ?gR2_8; case gY2_8 => (intro w hSw; (try dsimp only at hSw); go_simp <;> with_reducible rfl))
  try simp only [Act.put, zA, zB, zC]
  refine wpE_ready (rs := [8]) (by kernel_rfl) (by simp) ?_
  refine AllE.cons (by simp only [zD]; rfl) (fun K hK => ?_) AllE.nil
  go_simp
  refine hK.out _ _ ?gT2_9 (fun hHeld => ?_)
  case gT2_9 => ((try dsimp only); (refine ⟨?_, ?_⟩ <;> go_simp))
  clear hK K
  try simp only [Act.put, zA, zB, zC]
  refine wpE_ready (rs := [9]) (by kernel_rfl) (by simp) ?_
  refine AllE.cons (by simp only [zD]; rfl) (fun K hK => ?_) AllE.nil
  (refine stepE_app (by rfl) (.tmp 46) (.tmp 50) _ rfl elEvent (B := B) (l := ev) (m := [⟨1, xp⟩]) rfl rfl (H2.out.evs.below (by rw [hW.out]; exact (by repeat (first | with_reducible (first | exact bA .. | assumption | exact bJ .. | exact bK .. | exact bL .. | exact bM .. | exact bN .. | refine bB ?_ | refine bC ?_ _ | refine bD _ _ ?_ | refine bE _ ?_ | refine bF ?_ ?_ _ | refine bG ?_ ?_ _ | refine bH _ _ _ ?_ ?_) | omega | (simp; done) | (simp; omega))))) (Sl.one_at cEvent 2 _ _ _ rfl _ rfl (by omega) (by simp)) cEvent_one (by simp [maxLen]; omega) (by simp; omega) (by rw [hW.out]; simp; omega) ?_; intro v2 w2 hown2 hg2 hat2; obtain ⟨A4, c4, rfl, _⟩ := hown2.form; have HX3 := Lib.hid (hand_push H2.out hb2 (by rw [hW.out]; exact (by repeat (first | with_reducible (first | exact bA .. | assumption | exact bJ .. | exact bK .. | exact bL .. | exact bM .. | exact bN .. | refine bB ?_ | refine bC ?_ _ | refine bD _ _ ?_ | refine bE _ ?_ | refine bF ?_ ?_ _ | refine bG ?_ ?_ _ | refine bH _ _ _ ?_ ?_) | omega | (simp; done) | (simp; omega)))) hown2 hg2 hat2); have hB3 := (HBX.out.below (by rw [hW.out]; exact (by repeat (first | with_reducible (first | exact bA .. | assumption | exact bJ .. | exact bK .. | exact bL .. | exact bM .. | exact bN .. | refine bB ?_ | refine bC ?_ _ | refine bD _ _ ?_ | refine bE _ ?_ | refine bF ?_ ?_ _ | refine bG ?_ ?_ _ | refine bH _ _ _ ?_ ?_) | omega | (simp; done) | (simp; omega))))).grown hg2 (fun e => hne3 e.symm); have y3 := hB3.cell 3; simp only [cTxn, List.getElem?_cons_succ, List.getElem?_cons_zero] at y3; have HBX3 := Lib.hid (hB3.far (g2 := b) (j := 3) (v := .slice A4 (ev ++ [(⟨1, xp⟩ : Event)]).length c4) (by omega)); obtain ⟨_, _, hs3, hf3, hl3⟩ := HX3.out; clear hown2 hg2 hat2)
  refine hK.out _ _ ?gT2_10 (fun hHeld => ?_)
  case gT2_10 => ((try dsimp only); (refine ⟨?_, ?_⟩ <;> go_simp))
  clear hK K
  try simp only [Act.put, zA, zB, zC]
  (refine wpE_takeP (i := 10) (v := ?gV2_11) (by simp only [zD]; rfl) (by kernel_rfl) (by kernel_rfl) (by kernel_rfl) (by rfl) (fun _ _ _ h => h) (Or.inl ⟨by rfl, ?gY2_11⟩) (by assumption) ?gR2_11; case gY2_11 => (intro w hSw; (try dsimp only at hSw); go_simp <;> with_reducible rfl))
  try simp only [Act.put, zA, zB, zC]
  (refine wpE_takeP (i := 11) (v := ?gV2_12) (by simp only [zD]; rfl) (by kernel_rfl) (by kernel_rfl) (by kernel_rfl) (by rfl) (fun _ _ _ h => h) (Or.inl ⟨by rfl, ?gY2_12⟩) (by assumption) ?gR2_12; case gY2_12 => (intro w hSw; (try dsimp only at hSw); go_simp <;> with_reducible rfl))
  try simp only [Act.put, zA, zB, zC]
  refine wpE_ready (rs := [12]) (by kernel_rfl) (by simp) ?_
  refine AllE.last (by simp only [zD]; rfl) (by kernel_rfl) (fun K hK => ?_) AllE.nil
  go_simp
  refine hK.out _ _ ?_
  clear hK K
  try simp only [Act.put, zA, zB, zC]
  refine wpE_done (by kernel_rfl) ?_ _
  refine NoPanic.normal ?_
  go_upto_region 4 with fail
  refine gen_w (fun W3 hW3 => ?_)
  simp only [List.length_append, List.length_cons, List.length_nil, Nat.zero_add] at HX3 HBX3
  rw [← hW3.out] at HX3 HBX3
  have H3 := Lib.hid HX3.out.1
  have hb3 : Below B w W3 := HX3.out.2.1
  clear hW3 HX3 hs3 hf3 hl3 y3 H2 b0 b1 b2 b3 bf1 bf2 bf3 bf0 x0 x3 HBX hW cl0 cl1 hHeld
  have x3 := HBX3.out.cell 3
  have x0 := HBX3.out.cell 0
  have hs3 := HBX3.out.lt
  simp only [cTxn, List.getElem?_cons_succ, List.getElem?_cons_zero] at x0 x3
  have hBW3 : B ≤ W3.heap.size := Nat.le_trans H3.out.base (Nat.le_of_lt H3.out.bk.lt)
  rw [← hLl] at H3
  go_wp2_with (go_at_call 53; (with_reducible refine (handKid z L ss (ev ++ [⟨1, xp⟩]) xp 1 xz _ _ _ W3 B b H3.out hBW3 hp (by omega) (by simp; omega) (Or.inl rfl) HBD.out).mono ?_); rintro e w4 ⟨nv4, sv4, vv4, rfl, hh4, hb4⟩; have HH4 := Lib.hid hh4; clear hh4)
  go_end0
  have hfin := HH4.out
  rw [List.append_assoc] at hfin
  exact ⟨_, _, _, rfl, hfin, hb3.trans hb4⟩
end Go.Proofs.YtchgpijfebilbaaGreatDoor

/- made by geninst.py from XT4.src -/
namespace Go.Proofs.YtchgpijfebilbaaGreatDoor
open Go.RowKit
set_option maxHeartbeats 1000000 in
theorem insInt_end (A : Option Addr) (n c : Nat) (l : List Int) (x : Int) (w : World) (B vb : Nat) (hown : Ow cInt 1 3 w B (.slice A n c) l) (hl : n = l.length) (hv : Bk w vb (cInt x) 3)
    (hB : B ≤ w.heap.size) (hn : (n + 1) * 8 ≤ 140737488355328) :
    Calls Tryz.prog 22 #[.slice A n c, .int .i64 n, .slice (some ⟨vb, 0, none⟩) 1 1] w (Rowed cInt 1 3 B (n + 1) (l ++ [x]) (Value.slice A n c).ownBlock w) := by
  have H := Lib.hid hown
  obtain ⟨A', c', hf1, hf2, hf3, hf4, hf5⟩ := hown.form
  injection hf1 with e1 e2 e3
  subst e1; subst e3
  have HL := Lib.hid hl
  rw [← hl] at hf2
  have HN := Lib.hid hf4
  clear hl e2 hown hf4 hf5
  by_cases hcn : c = n
  · subst hcn
    go_enter Tryz.func22, Tryz.ntmps22
    go_wp2_with (at_builtin; refine wpList_app _ rfl (.tmp 23) (.tmp 24) _ rfl elInt (l := l) (m := [x]) rfl rfl H.out (Sl.blk rfl hv) cInt_one (by have := HL.out; simp [maxLen]; omega) (by have := HL.out; simp; omega) hB ?_; intro v' w1 hown1 hg1 hat1; obtain ⟨A1, c1, rfl⟩ := Ow.is_slice (m := c + 1) hown1 (by simpa using HL.out.symm); have HO := Lib.hid hown1; have HG := Lib.hid hg1; have HT := Lib.hid hat1; clear hown1 hg1 hat1)
    go_ret
    exact ⟨A1, c1, rfl, HO.out, HG.out, HT.out⟩
  · go_enter Tryz.func22, Tryz.ntmps22
    go_wp2_with (at_builtin; refine wpList_app _ rfl (.tmp 23) (.tmp 24) _ rfl elInt (l := l) (m := [x]) rfl rfl H.out (Sl.blk rfl hv) cInt_one (by have := HL.out; simp [maxLen]; omega) (by have := HL.out; simp; omega) hB ?_; intro v' w1 hown1 hg1 hat1; obtain ⟨A1, c1, rfl⟩ := Ow.is_slice (m := n + 1) hown1 (by simpa using HL.out.symm); have HO := Lib.hid hown1; have HG := Lib.hid hg1; have HT := Lib.hid hat1; clear hown1 hg1 hat1)
    go_ret
    exact ⟨A1, c1, rfl, HO.out, HG.out, HT.out⟩
set_option maxRecDepth 100000 in
set_option maxHeartbeats 1000000 in
theorem insInt_grow (A : Option Addr) (n k : Nat) (l : List Int) (x : Int) (w : World) (B vb : Nat) (hown : Ow cInt 1 3 w B (.slice A n n) l) (hk : k < n) (hv : Bk w vb (cInt x) 3)
    (hB : B ≤ w.heap.size) (hn : (n + 1) * 8 ≤ 140737488355328) :
    Calls Tryz.prog 22 #[.slice A n n, .int .i64 k, .slice (some ⟨vb, 0, none⟩) 1 1] w (Rowed cInt 1 3 B (n + 1) (l.take k ++ x :: l.drop k) (Value.slice A n n).ownBlock w) := by
  obtain ⟨g, J, rfl, hBg, hbk, hbl, _, hcm, hnl⟩ := hown.blk (by omega)
  have H2 := Lib.hid hown.2
  generalize hcur : l.flatMap cInt ++ J = cur at hbk hbl
  have HC := Lib.hid hcur
  have HL := Lib.hid hnl
  have HBL := Lib.hid hbl
  clear hcur hown hnl hbl
  have ecnt := Lib.hid (show (((n + 1 - k : Nat) : Nat) : Int) = (n : Int) + 1 - (k : Int) by omega)
  have hne : ((k : Int) == (n : Int)) = false := by simp; omega
  have F1 := Lib.hid (flatMap_split H2.out k)
  go_enter Tryz.func22, Tryz.ntmps22
  have hkc : k + (n + 1 - k) = n + 1 := by omega
  have hvg : g < w.heap.size := hbk.lt
  have hvv : vb < w.heap.size := hv.lt
  go_wp2_with (first | (with_reducible refine wpList_atcp ?_); go_loud (refine wpList_cp rfl (.tmp 43) (.tmp 44) _ _ rfl elInt (cs := cInt x) rfl rfl hb1 (by rw [show ∀ q, 1 ≤ q → Nat.min 1 q = 1 from fun q h => Nat.min_eq_left h] <;> first | rfl | omega) (fun j v hj => by show w1.cell? _ = _; rw [Addr.add_lit, Nat.zero_add, (hv.grown hg1 (by simp)).cell]; exact hj) (by have := HBL.out; simp [hz1, cInt]; omega) (cInt_one x) ?_; intro w2 hb2 hg2 hs2) | at_builtin; go_loud (refine wpList_appz rfl (.tmp 34) (.tmp 39) _ _ rfl elInt Tryz.underlying3 (k := k) (c := n) (cnt := n + 1 - k) rfl (by show Value.int _ _ = _; rw [ecnt.out]) hbk (by have := HBL.out; omega) (by omega) (by omega) (by simp [maxLen]; omega) (by omega) ?_; intro w1 Z cap hb1 hz1 hc1 hc2 hg1 hs1))
  have e1 : IntKind.i64.wrap ((k : Int) + 1) = (k : Int) + 1 := by rw [IntKind.wrap_i64]; simp [maxLen] at hcm; omega
  have e2 : ((k : Int) + 1).toNat = k + 1 := by omega
  have e3 : (0 : Int) ≤ (k : Int) + 1 := by omega
  have e4 : (k : Int) + 1 ≤ (n : Int) + 1 := by omega
  have e5 : ¬ cap = k + 1 := by omega
  have e6 : ¬ n = k := by omega
  have e7 : k ≤ n := by omega
  have hcsl : ((l.drop k).flatMap cInt).length = (n - k) * 1 := by rw [flatMap_length (fun y hy => H2.out y (List.mem_of_mem_drop hy)), List.length_drop, HL.out]
  have hcs1 : ∀ v ∈ (l.drop k).flatMap cInt, v.oneCell' = true := by intro v hv; obtain ⟨y, _, hy⟩ := List.mem_flatMap.1 hv; exact cInt_one y v hy
  have hlt : (cur.take (k * 1)).length = k * 1 := by rw [List.length_take, HBL.out]; omega
  have hsl : (splice (cur.take (k * 1) ++ Z) (k * 1) (cInt x)).length = k * 1 + (cap - k) * 1 := by rw [splice_length _ _ _ (by simp only [List.length_append, hlt, hz1]; show k * 1 + 1 ≤ _; omega), List.length_append, hlt, hz1]
  have hgs : Bk w2 g cur 3 := (hbk.grown hg1 (by simp)).grown hg2 (by simp; omega)
  have hsrc : ∀ (j : Nat) (v : Value), ((l.drop k).flatMap cInt)[j]? = some v → cur[k * 1 + j]? = some v := by
    intro j v hj
    rw [F1.out.2, List.getElem?_drop] at hj
    rw [← HC.out, List.getElem?_append_left (List.getElem?_eq_some_iff.1 hj).1]
    exact hj
  have HS := Lib.hid hsl
  have HSR := Lib.hid hsrc
  have HCL := Lib.hid hcsl
  clear hsl hsrc hcsl
  have hb2d : Bk w2.drew w.heap.size (splice (cur.take (k * 1) ++ Z) (k * 1) (cInt x)) 3 := by rw [Nat.mul_one]; rw [Nat.mul_one] at hb2; exact hb2
  go_region_law (go_loud (refine step_cp rfl _ _ _ _ rfl elInt (cs := (l.drop k).flatMap cInt) (off := (k + 1) * 1) (dLen := n + 1 - (k + 1)) (dCap := cap - (k + 1)) (ad := ⟨g, k * 1, none⟩) (sLen := n - k) (sCap := n - k) (by simp [Act.eval, Act.put]) (by simp [Act.eval, Act.put]) hb2d (by rw [HCL.out, show Nat.min (n - k) (n + 1 - (k + 1)) = n - k from Nat.min_eq_left (by omega)]) (fun j v hj => by show w2.cell? _ = _; rw [Addr.add_lit, hgs.cell]; exact HSR.out j v hj) (by rw [HS.out, HCL.out]; omega) hcs1 ?_; intro w3 hb3 hg3 hs3))
  go_wp2
  go_ret
  refine ⟨some ⟨w.heap.size, 0, none⟩, cap, rfl, ?_, ((hg1.but _).andThen hg2 (by simp)).andThen (show w2.grownBy w3 (some w.heap.size) from ⟨hg3.os, hg3.tape, hg3.output, hg3.size, hg3.block⟩) (by simp), .inr rfl⟩
  have hta : cur.take (k * 1) = (l.take k).flatMap cInt := by rw [F1.out.1, ← HC.out, List.take_append_of_le_length (by rw [flatMap_length H2.out, ← HL.out]; omega)]
  have hall : ∀ y ∈ l.take k ++ x :: l.drop k, (cInt y).length = 1 := fun y _ => rfl
  have hlen : (l.take k ++ x :: l.drop k).length = n + 1 := by rw [List.length_append, List.length_take, List.length_cons, List.length_drop, ← HL.out]; omega
  have := Ow.of_blk (B := B) (g := w.heap.size) (c := cap) (J := Z.drop (1 + ((l.drop k).flatMap cInt).length)) hall hB hb3 (by
    have h := ins2 (cur.take (k * 1)) Z ((l.drop k).flatMap cInt) (cInt x)
    rw [hlt] at h
    rw [show (k + 1) * 1 = k * 1 + (cInt x).length from by show _ = k * 1 + 1; omega, h, hta, List.flatMap_append, List.flatMap_cons]
    simp only [List.append_assoc]
    rfl) (by rw [splice_length _ _ _ (by rw [HS.out, HCL.out]; omega), HS.out]; omega) (by rw [hlen]; omega) hc2
  rw [hlen] at this
  exact this
set_option maxRecDepth 100000 in
set_option maxHeartbeats 1000000 in
theorem insInt_room (A : Option Addr) (n k c : Nat) (l : List Int) (x : Int) (w : World) (B vb : Nat) (hown : Ow cInt 1 3 w B (.slice A n c) l) (hk : k < n) (hc : n < c) (hv : Bk w vb (cInt x) 3) (hvA : (Value.slice A n c).ownBlock ≠ some vb) :
    Calls Tryz.prog 22 #[.slice A n c, .int .i64 k, .slice (some ⟨vb, 0, none⟩) 1 1] w (Rowed cInt 1 3 B (n + 1) (l.take k ++ x :: l.drop k) (Value.slice A n c).ownBlock w) := by
  obtain ⟨g, J, rfl, hBg, hbk, hbl, _, hcm, hnl⟩ := hown.blk (by omega)
  have H2 := Lib.hid hown.2
  have hvg : vb ≠ g := by intro h; exact hvA (by rw [h]; rfl)
  generalize hcur : l.flatMap cInt ++ J = cur at hbk hbl
  have HC := Lib.hid hcur
  have HL := Lib.hid hnl
  have HBL := Lib.hid hbl
  clear hcur hown hnl hbl
  have hne : ((k : Int) == (n : Int)) = false := by simp; omega
  have F1 := Lib.hid (flatMap_split H2.out k)
  have d1 : IntKind.i64.wrap ((n : Int) + 1) = (n : Int) + 1 := by rw [IntKind.wrap_i64]; simp [maxLen] at hcm; omega
  have d2 : ((n : Int) + 1).toNat = n + 1 := by omega
  have d3 : (0 : Int) ≤ (n : Int) + 1 := by omega
  have d4 : (n : Int) + 1 ≤ (c : Int) := by omega
  have d5 : ¬ (c : Int) < (n : Int) + 1 := by omega
  have e1 : IntKind.i64.wrap ((k : Int) + 1) = (k : Int) + 1 := by rw [IntKind.wrap_i64]; simp [maxLen] at hcm; omega
  have e2 : ((k : Int) + 1).toNat = k + 1 := by omega
  have e3 : (0 : Int) ≤ (k : Int) + 1 := by omega
  have e4 : (k : Int) + 1 ≤ (n : Int) + 1 := by omega
  have e5 : ¬ c = k + 1 := by omega
  have e6 : ¬ c = k := by omega
  have e7 : (k : Int) ≤ (n : Int) + 1 := by omega
  have e8 : k ≤ n := by omega
  have hov := fun (off lb cb : Nat) => overlaps_no elInt Tryz.func50 (by kernel_rfl) (by kernel_rfl) (by kernel_rfl) (tB := 4) (by kernel_rfl) hv hbk hvg (by have := HBL.out; omega) off 1 1 lb cb
  go_enter Tryz.func22, Tryz.ntmps22
  go_wp2_with (simp only [hov])
  have hcsl : ((l.drop k).flatMap cInt).length = (n - k) * 1 := by rw [flatMap_length (fun y hy => H2.out y (List.mem_of_mem_drop hy)), List.length_drop, HL.out]
  have hcs1 : ∀ v ∈ (l.drop k).flatMap cInt, v.oneCell' = true := by intro v hv; obtain ⟨y, _, hy⟩ := List.mem_flatMap.1 hv; exact cInt_one y v hy
  have hsl : (splice cur ((k + 1) * 1) ((l.drop k).flatMap cInt)).length = c * 1 := by rw [splice_length _ _ _ (by rw [hcsl, HBL.out]; omega), HBL.out]
  have hsrc : ∀ (j : Nat) (v : Value), ((l.drop k).flatMap cInt)[j]? = some v → cur[k * 1 + j]? = some v := by
    intro j v hj
    rw [F1.out.2, List.getElem?_drop] at hj
    rw [← HC.out, List.getElem?_append_left (List.getElem?_eq_some_iff.1 hj).1]
    exact hj
  have HS := Lib.hid hsl
  have HSR := Lib.hid hsrc
  have HCL := Lib.hid hcsl
  clear hsl hsrc hcsl
  have hbd : Bk w.drew g cur 3 := hbk
  have hvd : Bk w.drew vb (cInt x) 3 := hv
  go_region_law (go_loud (refine step_cp rfl _ _ _ _ rfl elInt (cs := (l.drop k).flatMap cInt) (off := (k + 1) * 1) (dLen := n - k) (dCap := c - (k + 1)) (ad := ⟨g, k * 1, none⟩) (sLen := n + 1 - k) (sCap := c - k) (by simp [Act.eval, Act.put]) (by simp [Act.eval, Act.put]) hbd (by rw [HCL.out, show Nat.min (n + 1 - k) (n - k) = n - k from Nat.min_eq_right (by omega)]) (fun j v hj => by rw [Addr.add_lit, hbd.cell]; exact HSR.out j v hj) (by rw [HBL.out, HCL.out]; omega) hcs1 ?_; intro w3 hb3 hg3 hs3))
  go_wp2_with (first | (with_reducible refine wpList_atcp ?_); go_loud (refine wpList_cp rfl (.tmp 80) (.tmp 81) _ _ rfl elInt (cs := cInt x) (off := k * 1) (dLen := n + 1 - k) (dCap := c - k) (by first | rfl | simp [Act.eval]) rfl hb3 (by rw [show ∀ q, 1 ≤ q → Nat.min 1 q = 1 from fun q h => Nat.min_eq_left h] <;> first | rfl | omega) (fun j v hj => by rw [Addr.add_lit, Nat.zero_add, (hvd.grown hg3 (by simp; exact hvg)).cell]; exact hj) (by rw [HS.out]; show k * 1 + 1 ≤ _; omega) (cInt_one x) ?_; intro w4 hb4 hg4 hs4))
  go_ret
  refine ⟨some ⟨g, 0, none⟩, c, rfl, ?_, (show w.grownBy w3 (some g) from ⟨hg3.os, hg3.tape, hg3.output, hg3.size, hg3.block⟩).trans hg4, .inl rfl⟩
  have hta : cur = (l.take k).flatMap cInt ++ (l.drop k).flatMap cInt ++ J := by rw [← List.flatMap_append, List.take_append_drop, HC.out]
  have hlt : ((l.take k).flatMap cInt).length = k * 1 := by rw [flatMap_length (fun y hy => H2.out y (List.mem_of_mem_take hy)), List.length_take, ← HL.out, Nat.min_eq_left (by omega)]
  have hJ : (cInt x).length ≤ J.length := by
    have h := HBL.out
    rw [hta, List.length_append, List.length_append, hlt, HCL.out] at h
    show 1 ≤ _
    omega
  have hall : ∀ y ∈ l.take k ++ x :: l.drop k, (cInt y).length = 1 := fun y _ => rfl
  have hlen : (l.take k ++ x :: l.drop k).length = n + 1 := by rw [List.length_append, List.length_take, List.length_cons, List.length_drop, ← HL.out]; omega
  have := Ow.of_blk (B := B) (g := g) (c := c) (J := J.drop (cInt x).length) hall hBg hb4 (by
    have h := ins1 ((l.take k).flatMap cInt) ((l.drop k).flatMap cInt) J (cInt x) hJ
    rw [hlt, ← hta] at h
    rw [show (k + 1) * 1 = k * 1 + (cInt x).length from by show _ = k * 1 + 1; omega, h, List.flatMap_append, List.flatMap_cons]
    simp only [List.append_assoc]) (by rw [splice_length _ _ _ (by rw [HS.out]; show k * 1 + 1 ≤ _; omega), HS.out]) (by rw [hlen]; omega) hcm
  rw [hlen] at this
  exact this
theorem insInt (v : Value) (k : Nat) (l : List Int) (x : Int) (w : World) (B vb : Nat) (hown : Ow cInt 1 3 w B v l) (hk : k ≤ l.length) (hv : Bk w vb (cInt x) 3) (hvA : v.ownBlock ≠ some vb)
    (hB : B ≤ w.heap.size) (hn : (l.length + 1) * 8 ≤ 140737488355328) :
    Calls Tryz.prog 22 #[v, .int .i64 k, .slice (some ⟨vb, 0, none⟩) 1 1] w (Rowed cInt 1 3 B (l.length + 1) (l.take k ++ x :: l.drop k) v.ownBlock w) := by
  obtain ⟨A, c, rfl, h2⟩ := hown.form
  rcases Nat.lt_or_ge k l.length with h | h
  · obtain ⟨g, J, rfl, _, _, _, hnc, _, _⟩ := hown.blk (by omega)
    by_cases hc : c = l.length
    · subst hc
      exact insInt_grow _ _ k l x w B vb hown h hv hB hn
    · exact insInt_room _ _ k c l x w B vb hown h (by omega) hv hvA
  · obtain rfl : k = l.length := by omega
    rw [List.take_length, List.drop_length]
    exact insInt_end _ _ c l x w B vb hown rfl hv hB hn
end Go.Proofs.YtchgpijfebilbaaGreatDoor

/- made by geninst.py from XT5.src -/
namespace Go.Proofs.YtchgpijfebilbaaGreatDoor
open Go.RowKit
set_option maxRecDepth 100000 in
set_option maxHeartbeats 1000000 in
theorem delInt_core (g n c k j m q : Nat) (cur news : List Value) (w : World) (hb : Bk w g cur 3) (hnews : news.length = m * 1) (hsrc : ∀ (i : Nat) (v : Value), news[i]? = some v → cur[j * 1 + i]? = some v)
    (hone : ∀ v ∈ news, v.oneCell' = true) (hlen : cur.length = c * 1) (hj : j = k + 1) (hm : k + m = q) (hn : n = q + 1) (hnc : n ≤ c) (hc : c ≤ 9223372036854775807) :
    Calls Tryz.prog 23 #[.slice (some ⟨g, 0, none⟩) n c, .int .i64 k, .int .i64 j] w fun e w' => e = .returned (.slice (some ⟨g, 0, none⟩) q c) ∧
      Hid (∃ cur', Bk w' g cur' 3 ∧ cur'.length = cur.length ∧ cur'.take (q * 1) = (splice cur (k * 1) news).take (q * 1) ∧ w.grownBy w' (some g)) := by
  have HB := Lib.hid hb
  have HO := Lib.hid hone
  have HN := Lib.hid hnews
  have HS := Lib.hid hsrc
  have HL := Lib.hid hlen
  have hkc : (k : Int) ≤ (c : Int) := by omega
  have hjn : (j : Int) ≤ (n : Int) := by omega
  have hnci : (n : Int) ≤ (c : Int) := by omega
  have hqn : (q : Int) ≤ (n : Int) := by omega
  have hqc : (q : Int) ≤ (c : Int) := by omega
  have hkj : (k : Int) ≤ (j : Int) := by omega
  have hkk : ((k : Int) == (j : Int)) = false := beq_eq_false_iff_ne.2 (by omega)
  have hnq : n - q = 1 := by omega
  have HQ := Lib.hid hn
  have HJ := Lib.hid hj
  have HBD : Hid (Bk w.drew g cur 3) := HB
  clear hb hone hnews hsrc hlen
  by_cases hcj : c = j
  · have hm0 : m = 0 := by omega
    subst hm0
    rw [Nat.add_zero] at hm
    subst hm
    have hn0 : news = [] := List.eq_nil_of_length_eq_zero (by simpa using HN.out)
    have HN0 := Lib.hid hn0
    have hnj : n = j := by omega
    subst hnj
    subst hcj
    clear hn hj hn0
    go_enter Tryz.func23, Tryz.ntmps23
    go_wp2_with fail
    go_region_law (first | (refine step_apr rfl (.tmp 22) (.tmp 25) _ rfl elInt (g := g) (k := k) (c := c) (off := 0) (m := 0) (cc := 0) (news := news) (by simp [Act.eval, Act.put]) (by simp [Act.eval, Act.put]) HBD.out (by rw [HN0.out]; rfl) (by rw [HN0.out]; simp) (by omega) (by rw [HN0.out, HL.out]; simp; omega) HO.out ?_; intro w2 hb2 hg2 hz2; have HB2 := Lib.hid hb2; have HG2 := Lib.hid hg2; have HZ2 := Lib.hid hz2; clear hb2 hg2 hz2))
    have hsl : (splice cur (k * 1) news).length = c * 1 := by rw [splice_length _ _ _ (by rw [HN0.out, HL.out]; simp; omega), HL.out]
    have HSL := Lib.hid hsl
    clear hsl
    go_wp2_with (first | (with_reducible refine wpList_atclr ?_); (refine wpList_clr rfl (.tmp 31) _ rfl elInt (off := k * 1) (n := 1) (by rw [Nat.mul_one]; rfl) HB2.out (by decide) (by rw [HSL.out]; omega) ?_; intro w3 cur3 hb3 hl3 ht3 hg3 _; have HB3 := Lib.hid hb3; have HL3 := Lib.hid hl3; have HT3 := Lib.hid ht3; have HG3 := Lib.hid hg3; clear hb3 hl3 ht3 hg3))
    refine bodyPost_ret (v := .slice (some ⟨g, 0, none⟩) k c) (by simp [results, Tryz.results23, go_sem]) rfl ⟨rfl, Lib.hid ⟨cur3, HB3.out, by rw [HL3.out, HSL.out, HL.out], HT3.out, ?_⟩⟩
    exact (show w.grownBy w2 (some g) from ⟨HG2.out.os, HG2.out.tape, HG2.out.output, HG2.out.size, HG2.out.block⟩).trans HG3.out
  · clear hn hj
    go_enter Tryz.func23, Tryz.ntmps23
    go_wp2_with fail
    go_region_law (first | (refine step_apr rfl (.tmp 22) (.tmp 25) _ rfl elInt (g := g) (k := k) (c := c) (off := j * 1) (m := m) (cc := c - j) (news := news) (by simp [Act.eval, Act.put]) (by simp [Act.eval, Act.put]; have := HQ.out; have := HJ.out; omega) HBD.out HN.out HS.out (by have := HQ.out; omega) (by rw [HN.out, HL.out]; have := HQ.out; omega) HO.out ?_; intro w2 hb2 hg2 hz2; have HB2 := Lib.hid hb2; have HG2 := Lib.hid hg2; have HZ2 := Lib.hid hz2; clear hb2 hg2 hz2))
    have hsl : (splice cur (k * 1) news).length = c * 1 := by rw [splice_length _ _ _ (by rw [HN.out, HL.out]; have := HQ.out; omega), HL.out]
    have HSL := Lib.hid hsl
    clear hsl
    go_wp2_with (first | (with_reducible refine wpList_atclr ?_); (refine wpList_clr rfl (.tmp 31) _ rfl elInt (off := q * 1) (n := 1) (by rw [Nat.mul_one]; rfl) HB2.out (by decide) (by rw [HSL.out]; have := HQ.out; omega) ?_; intro w3 cur3 hb3 hl3 ht3 hg3 _; have HB3 := Lib.hid hb3; have HL3 := Lib.hid hl3; have HT3 := Lib.hid ht3; have HG3 := Lib.hid hg3; clear hb3 hl3 ht3 hg3))
    refine bodyPost_ret (v := .slice (some ⟨g, 0, none⟩) q c) (by simp [results, Tryz.results23, go_sem]) rfl ⟨rfl, Lib.hid ⟨cur3, HB3.out, by rw [HL3.out, HSL.out, HL.out], HT3.out, ?_⟩⟩
    exact (show w.grownBy w2 (some g) from ⟨HG2.out.os, HG2.out.tape, HG2.out.output, HG2.out.size, HG2.out.block⟩).trans HG3.out
theorem delInt (A : Option Addr) (n c k : Nat) (l : List Int) (w : World) (B : Nat) (hown : Ow cInt 1 3 w B (.slice A n c) l) (hk : k < l.length) (hc : c ≤ 9223372036854775807) :
    Calls Tryz.prog 23 #[.slice A n c, .int .i64 k, .int .i64 (k + 1)] w fun e w' => e = .returned (.slice A (n - 1) c) ∧ Hid (Ow cInt 1 3 w' B (.slice A (n - 1) c) (l.take k ++ l.drop (k + 1)) ∧ w.grownBy w' (Value.slice A n c).ownBlock) := by
  have hnl : n = l.length := by obtain ⟨_, _, h, _⟩ := hown.form; injection h
  obtain ⟨g, J, rfl, hBg, hbk, hbl, hnc, hcm, _⟩ := hown.blk (by omega)
  have hf : ∀ x ∈ l, (cInt x).length = 1 := fun _ _ => rfl
  have hsp := drop_rows hf (k + 1)
  have hnews : ((l.drop (k + 1)).flatMap cInt).length = (n - (k + 1)) * 1 := by rw [flatMap_length (f := cInt) (s := 1) (fun _ _ => rfl), List.length_drop, hnl]
  have hsrc : ∀ (i : Nat) (v : Value), ((l.drop (k + 1)).flatMap cInt)[i]? = some v → (l.flatMap cInt ++ J)[(k + 1) * 1 + i]? = some v := by
    intro i v hj
    rw [← hsp, List.getElem?_drop] at hj
    rw [List.getElem?_append_left (List.getElem?_eq_some_iff.1 hj).1]
    exact hj
  have hone : ∀ v ∈ (l.drop (k + 1)).flatMap cInt, v.oneCell' = true := by intro v hv; obtain ⟨y, _, hy⟩ := List.mem_flatMap.1 hv; exact cInt_one y v hy
  have htake := take_rows2 hf (Nat.le_of_lt hk) J
  have hlen : (l.take k ++ l.drop (k + 1)).length = n - 1 := by rw [List.length_append, List.length_take, List.length_drop]; omega
  rw [show (k : Int) + 1 = ((k + 1 : Nat) : Int) from by omega]
  refine (delInt_core g n c k (k + 1) (n - (k + 1)) (n - 1) _ _ w hbk hnews hsrc hone hbl rfl (by omega) (by omega) hnc hc).mono ?_
  rintro e w' ⟨rfl, h⟩
  obtain ⟨cur', hb', hl', ht', hg'⟩ := h.out
  refine ⟨rfl, Lib.hid ⟨?_, hg'⟩⟩
  have hlt : ((l.take k).flatMap cInt).length = k * 1 := by rw [flatMap_length (f := cInt) (s := 1) (fun _ _ => rfl), List.length_take, Nat.min_eq_left (by omega)]
  have hpre : cur'.take ((n - 1) * 1) = (l.take k ++ l.drop (k + 1)).flatMap cInt := by
    rw [ht']
    unfold splice
    rw [htake, List.flatMap_append]
    have e : (n - 1) * 1 = ((l.take k).flatMap cInt ++ (l.drop (k + 1)).flatMap cInt).length := by rw [List.length_append, hlt, hnews]; omega
    rw [e, ← List.append_assoc, List.take_left]
  have hcur : cur' = (l.take k ++ l.drop (k + 1)).flatMap cInt ++ cur'.drop ((n - 1) * 1) := by rw [← hpre, List.take_append_drop]
  have := Ow.of_blk (f := cInt) (s := 1) (B := B) (fun _ _ => rfl) hBg hb' hcur (by rw [hl']; exact hbl) (by rw [hlen]; omega) hcm
  rw [hlen] at this
  exact this
end Go.Proofs.YtchgpijfebilbaaGreatDoor
