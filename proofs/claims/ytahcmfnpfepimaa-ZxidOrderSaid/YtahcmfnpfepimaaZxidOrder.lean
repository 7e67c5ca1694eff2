/- The law ZxidOrder is true for every input; no conditions. -/
import Derived.Test.YtahcmfnpfepimaaZxid
namespace Go.Proofs.Ytahcmfnpfepimaa
open Go.ChangeShapes Go.WideShapes Go.ChangeAt Go.RowKit
theorem zxidOrder_ok (a b c d : Int) (w : World) (ha : Half a) (hb : Half b) (hc : Half c) (hd : Half d) :
    Calls Try.prog 4 #[.int .i64 a, .int .i64 b, .int .i64 c, .int .i64 d] w fun e w' => e = .returned (.bool true) ∧ w = w' := by
  have ha0 := ha.1
  have ha1 := ha.2
  have hb0 := hb.1
  have hb1 := hb.2
  have hc0 := hc.1
  have hc1 := hc.2
  have hd0 := hd.1
  have hd1 := hd.2
  have hx : Zx (a * 2147483648 + b) := ⟨by omega, by omega⟩
  have he : (a * 2147483648 + b) / 2147483648 = a := by omega
  have hm : (a * 2147483648 + b) % 2147483648 = b := by omega
  have HE := Lib.hid he
  have HM := Lib.hid hm
  clear he hm
  by_cases hac : a = c
  · subst hac
    by_cases hbd : b = d
    · subst hbd
      go_enter Try.func4, Try.ntmps4
      go_wp2_with (first | (go_at_call 17; refine (zmake_ok _ _ _ (by assumption) (by assumption)).mono ?_; rintro e w' ⟨rfl, rfl⟩) | (go_at_call 18; refine (numbers_any _).mono ?_; rintro e w' ⟨rfl, rfl⟩) | (go_at_call 19; refine (zepoch_ok _ _ hx).mono ?_; rw [HE.out]; rintro e w' ⟨rfl, rfl⟩) | (go_at_call 20; refine (zcount_ok _ _ hx).mono ?_; rw [HM.out]; rintro e w' ⟨rfl, rfl⟩))
      go_ret
      exact ⟨rfl, rfl⟩
    · have hbd' : (b == d) = false := by simp [hbd]
      have hne : ((a * 2147483648 + b) == (a * 2147483648 + d)) = false := by simp; omega
      by_cases hlt : b < d
      all_goals
        go_enter Try.func4, Try.ntmps4
        go_wp2_with (first | (go_at_call 17; refine (zmake_ok _ _ _ (by assumption) (by assumption)).mono ?_; rintro e w' ⟨rfl, rfl⟩) | (go_at_call 18; refine (numbers_any _).mono ?_; rintro e w' ⟨rfl, rfl⟩) | (go_at_call 19; refine (zepoch_ok _ _ hx).mono ?_; rw [HE.out]; rintro e w' ⟨rfl, rfl⟩) | (go_at_call 20; refine (zcount_ok _ _ hx).mono ?_; rw [HM.out]; rintro e w' ⟨rfl, rfl⟩))
        go_ret
        exact ⟨ret_bool (by simp; try omega), rfl⟩
  · have hac' : (a == c) = false := by simp [hac]
    have hne : ((a * 2147483648 + b) == (c * 2147483648 + d)) = false := by simp; omega
    by_cases hlt : a < c
    all_goals
      go_enter Try.func4, Try.ntmps4
      go_wp2_with (first | (go_at_call 17; refine (zmake_ok _ _ _ (by assumption) (by assumption)).mono ?_; rintro e w' ⟨rfl, rfl⟩) | (go_at_call 18; refine (numbers_any _).mono ?_; rintro e w' ⟨rfl, rfl⟩) | (go_at_call 19; refine (zepoch_ok _ _ hx).mono ?_; rw [HE.out]; rintro e w' ⟨rfl, rfl⟩) | (go_at_call 20; refine (zcount_ok _ _ hx).mono ?_; rw [HM.out]; rintro e w' ⟨rfl, rfl⟩))
      go_ret
      exact ⟨ret_bool (by simp; try omega), rfl⟩
theorem zxidOrder_any (a b c d : Int) (w : World) :
    Calls Try.prog 4 #[.int .i64 a, .int .i64 b, .int .i64 c, .int .i64 d] w fun e w' => e = .returned (.bool true) ∧ w = w' := by
  by_cases h1 : Half a ∧ Half b
  · by_cases h2 : Half c ∧ Half d
    · exact zxidOrder_ok a b c d w h1.1 h1.2 h2.1 h2.2
    · have H1 := Lib.hid h1
      have H2 := Lib.hid h2
      clear h1 h2
      go_enter Try.func4, Try.ntmps4
      go_wp2_with fail
      refine (zmake_ok a b _ H1.out.1 H1.out.2).mono ?_
      rintro e w' ⟨rfl, rfl⟩
      go_wp2_with fail
      refine (zmake_no c d _ H2.out).mono ?_
      rintro e w' ⟨rfl, rfl⟩
      go_wp2_with (go_at_call 18; refine (numbers_any _).mono ?_; rintro e w' ⟨rfl, rfl⟩)
      go_ret
      exact ⟨rfl, rfl⟩
  · have H1 := Lib.hid h1
    clear h1
    by_cases h2 : Half c ∧ Half d
    all_goals
      have H2 := Lib.hid h2
      clear h2
      go_enter Try.func4, Try.ntmps4
      go_wp2_with fail
      refine (zmake_no a b _ H1.out).mono ?_
      rintro e w' ⟨rfl, rfl⟩
      go_wp2_with fail
      first | refine (zmake_no c d _ H2.out).mono ?_ | refine (zmake_ok c d _ H2.out.1 H2.out.2).mono ?_
      rintro e w' ⟨rfl, rfl⟩
      go_wp2_with (go_at_call 18; refine (numbers_any _).mono ?_; rintro e w' ⟨rfl, rfl⟩)
      go_ret
      exact ⟨rfl, rfl⟩
namespace zxidOrder
theorem own : ownKnob Try.prog.godebug = none := by kernel_rfl
theorem laidOut : laidOutB Try.prog = true := by kernel_rfl
set_option maxRecDepth 100000 in
set_option maxHeartbeats 1000000 in
theorem lifted (os : Os) (started : os.Started) (H : Type) (enc : TypeId × Value → H) :
    ReturnsInHanded {} Try.checked os 4 .any (Rows.zxidOrderSpec.pre6 enc Try.prog Try.f4 Rows.zxidOrderRow.domain false) (Rows.zxidOrderSpec.post enc Try.prog Try.f4 false true false false) := by
  refine returnsInHanded_of_change_sized (C := Try.checked) own started (by kernel_rfl) Try.func4
    (ChangeSpec.witness6 (enc := enc) (C := Try.checked) false ⟨#[], #[.int .i64 0, .int .i64 0, .int .i64 0, .int .i64 0], []⟩ 8 (by kernel_rfl) (by kernel_rfl) (by kernel_rfl) (by kernel_rfl)) ?_
  intro W base args ds gs before hval0 hW0 _ hsz0 _
  have hval : ∀ (j : Nat) t v, Try.f4.params[j]? = some t → args[j]? = some v → Value.okWide Try.prog W .any base t v := hval0
  have hW : DataW.Whole enc Try.prog Try.f4.params.toList Rows.zxidOrderSpec.vars false W args.toList ds gs before := hW0
  have hlt : ∀ p ∈ before, p.block < W.heap.size := fun p hp => hW.lt p hp
  have hW1 := hW
  obtain ⟨p, q, hA0, hV, rfl, hfz, hnd⟩ := hW1
  have hA : DataW.TrodAll enc Try.prog W 0 (fun _ => true) true Try.f4.params.toList args.toList ds p := hA0
  obtain ⟨rfl, rfl⟩ := trodVars_none hV
  rw [Try.params4] at hA hval
  obtain ⟨v0, vs0, d0, ds0, p0, q0, hargs, rfl, rfl, h0, r0⟩ := trodAll_cons hA
  obtain ⟨v1, vs1, d1, ds1, p1, q1, rfl, rfl, rfl, h1, r1⟩ := trodAll_cons r0
  obtain ⟨v2, vs2, d2, ds2, p2, q2, rfl, rfl, rfl, h2, r2⟩ := trodAll_cons r1
  obtain ⟨v3, vs3, d3, ds3, p3, q3, rfl, rfl, rfl, h3, r3⟩ := trodAll_cons r2
  obtain ⟨rfl, rfl, rfl⟩ := trodAll_nil r3
  obtain rfl : args = #[v0, v1, v2, v3] := by cases args; simp_all
  have hsz : (DataW.weightsEach Try.prog [3, 3, 3, 3] [d0, d1, d2, d3]).all (· ≤ reachBytes) = true := hsz0
  have close : ∀ e W', (e = Ending.returned (.bool true) ∧ Below W.heap.size W W') → ∃ v, e = .returned v ∧ Rows.zxidOrderSpec.post enc Try.prog Try.f4 false true false false W #[v0, v1, v2, v3] v W' :=
    fun e W' ⟨he, hb⟩ => ⟨_, he, law_post laidOut (of_decide_eq_true (by kernel_rfl)) rfl rfl Try.underlying4 hW rfl hb⟩
  clear hA0 hsz0 hval0 hW0 hA hV hW hfz hnd
  obtain ⟨a0, rfl, hd0, _, wf0⟩ := open_int Try.underlying3 (hval 0 3 v0 rfl rfl) h0
  obtain ⟨a1, rfl, hd1, _, wf1⟩ := open_int Try.underlying3 (hval 1 3 v1 rfl rfl) h1
  obtain ⟨a2, rfl, hd2, _, wf2⟩ := open_int Try.underlying3 (hval 2 3 v2 rfl rfl) h2
  obtain ⟨a3, rfl, hd3, _, wf3⟩ := open_int Try.underlying3 (hval 3 3 v3 rfl rfl) h3
  exact (zxidOrder_any a0 a1 a2 a3 W).mono fun e W' ⟨he, hw⟩ => close e W' ⟨he, by rw [← hw]; exact Below.refl _ _⟩
theorem proved : Rows.ZxidOrderSaid :=
  OpenClaim.holds_of_wide 4 Try.f4 rfl rfl rfl rfl rfl rfl rfl ⟨rfl, rfl, rfl, rfl, rfl⟩ rfl rfl rfl rfl rfl (by kernel_rfl) Try.func4 (by kernel_rfl)
    (of_decide_eq_true (by kernel_rfl)) (by unfold Func.isWrapper; first | (rw [if_pos (by decide +kernel)]; kernel_rfl) | (rw [if_neg (by decide +kernel)]; exact ⟨rfl, rfl⟩))
    (fun os started H enc _ => lifted os started H enc)
end zxidOrder
end Go.Proofs.Ytahcmfnpfepimaa
