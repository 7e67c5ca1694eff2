/- The law ZxidSteps is true for every input; no conditions. -/
import Derived.Test.YtahcmfnpfepimaaZxid
namespace Go.Proofs.Ytahcmfnpfepimaa
open Go.ChangeShapes Go.WideShapes Go.ChangeAt Go.RowKit
set_option maxHeartbeats 1000000 in
theorem zxidSteps_any (z : Int) (w : World) :
    Calls Try.prog 7 #[.int .i64 z] w fun e w' => e = .returned (.bool true) ∧ w = w' := by
  by_cases hz : Zx z
  · have hz0 := hz.1
    have hz1 := hz.2
    obtain ⟨e, c, he0, he1, hc0, hc1, rfl⟩ : ∃ e c : Int, 0 ≤ e ∧ e ≤ 2147483647 ∧ 0 ≤ c ∧ c ≤ 2147483647 ∧ z = e * 2147483648 + c :=
      ⟨z / 2147483648, z % 2147483648, by omega, by omega, by omega, by omega, by omega⟩
    have E1 := Lib.hid (show (e * 2147483648 + c) / 2147483648 = e by omega)
    have E2 := Lib.hid (show (e * 2147483648 + c) % 2147483648 = c by omega)
    have E5 := Lib.hid (show ((e + 1) * 2147483648) / 2147483648 = e + 1 by omega)
    have E6 := Lib.hid (show ((e + 1) * 2147483648) % 2147483648 = 0 by omega)
    have hdc : (c + 1 - c != 1) = false := by simp; omega
    have hde : (e + 1 - e != 1) = false := by simp; omega
    by_cases hc : c < 2147483647
    · have E3 := Lib.hid (show (e * 2147483648 + c + 1) / 2147483648 = e by omega)
      have E4 := Lib.hid (show (e * 2147483648 + c + 1) % 2147483648 = c + 1 by omega)
      have hn : Zx (e * 2147483648 + c + 1) := ⟨by omega, by omega⟩
      by_cases he : e < 2147483647
      · have hb : Zx ((e + 1) * 2147483648) := ⟨by omega, by omega⟩
        go_enter Try.func7, Try.ntmps7
        go_wp2_with fail
        refine (znext_ok _ _ hz (by rw [E2.out]; exact hc)).mono ?_
        rintro e' w' ⟨rfl, rfl⟩
        go_wp2_with fail
        refine (zbegin_ok _ _ hz (by rw [E1.out]; exact he)).mono ?_
        rw [E1.out]
        rintro e' w' ⟨rfl, rfl⟩
        go_wp2_with (first | (go_at_call 18; refine (numbers_any _).mono ?_; rintro e w' ⟨rfl, rfl⟩) | (go_at_call 19; refine (zepoch_ok _ _ (by assumption)).mono ?_; first | rw [E1.out] | rw [E3.out] | rw [E5.out]) | (go_at_call 20; refine (zcount_ok _ _ (by assumption)).mono ?_; first | rw [E2.out] | rw [E4.out] | rw [E6.out]) | (go_at_call 28; refine (zgood_yes _ _ hz).mono ?_; rintro e w' ⟨rfl, rfl⟩) | (rintro e w' ⟨rfl, rfl⟩))
        all_goals
          go_ret
          exact ⟨rfl, rfl⟩
      · have he' := Lib.hid he
        clear he
        go_enter Try.func7, Try.ntmps7
        go_wp2_with fail
        refine (znext_ok _ _ hz (by rw [E2.out]; exact hc)).mono ?_
        rintro e' w' ⟨rfl, rfl⟩
        go_wp2_with fail
        refine (zbegin_full _ _ hz (by rw [E1.out]; have := he'.out; omega)).mono ?_
        rintro e' w' ⟨rfl, rfl⟩
        go_wp2_with (first | (go_at_call 18; refine (numbers_any _).mono ?_; rintro e w' ⟨rfl, rfl⟩) | (go_at_call 19; refine (zepoch_ok _ _ (by assumption)).mono ?_; first | rw [E1.out] | rw [E3.out] | rw [E5.out]) | (go_at_call 20; refine (zcount_ok _ _ (by assumption)).mono ?_; first | rw [E2.out] | rw [E4.out] | rw [E6.out]) | (go_at_call 28; refine (zgood_yes _ _ hz).mono ?_; rintro e w' ⟨rfl, rfl⟩) | (rintro e w' ⟨rfl, rfl⟩))
        all_goals
          go_ret
          exact ⟨rfl, rfl⟩
    · have E3 := Lib.hid (show (0 : Int) = 0 from rfl)
      have E4 := Lib.hid (show (0 : Int) = 0 from rfl)
      have hc' := Lib.hid hc
      clear hc
      by_cases he : e < 2147483647
      · have hb : Zx ((e + 1) * 2147483648) := ⟨by omega, by omega⟩
        go_enter Try.func7, Try.ntmps7
        go_wp2_with fail
        refine (znext_full _ _ hz (by rw [E2.out]; have := hc'.out; omega)).mono ?_
        rintro e' w' ⟨rfl, rfl⟩
        go_wp2_with fail
        refine (zbegin_ok _ _ hz (by rw [E1.out]; exact he)).mono ?_
        rw [E1.out]
        rintro e' w' ⟨rfl, rfl⟩
        go_wp2_with (first | (go_at_call 18; refine (numbers_any _).mono ?_; rintro e w' ⟨rfl, rfl⟩) | (go_at_call 19; refine (zepoch_ok _ _ (by assumption)).mono ?_; first | rw [E1.out] | rw [E3.out] | rw [E5.out]) | (go_at_call 20; refine (zcount_ok _ _ (by assumption)).mono ?_; first | rw [E2.out] | rw [E4.out] | rw [E6.out]) | (go_at_call 28; refine (zgood_yes _ _ hz).mono ?_; rintro e w' ⟨rfl, rfl⟩) | (rintro e w' ⟨rfl, rfl⟩))
        all_goals
          go_ret
          exact ⟨rfl, rfl⟩
      · have he' := Lib.hid he
        clear he
        go_enter Try.func7, Try.ntmps7
        go_wp2_with fail
        refine (znext_full _ _ hz (by rw [E2.out]; have := hc'.out; omega)).mono ?_
        rintro e' w' ⟨rfl, rfl⟩
        go_wp2_with fail
        refine (zbegin_full _ _ hz (by rw [E1.out]; have := he'.out; omega)).mono ?_
        rintro e' w' ⟨rfl, rfl⟩
        go_wp2_with (first | (go_at_call 18; refine (numbers_any _).mono ?_; rintro e w' ⟨rfl, rfl⟩) | (go_at_call 19; refine (zepoch_ok _ _ (by assumption)).mono ?_; first | rw [E1.out] | rw [E3.out] | rw [E5.out]) | (go_at_call 20; refine (zcount_ok _ _ (by assumption)).mono ?_; first | rw [E2.out] | rw [E4.out] | rw [E6.out]) | (go_at_call 28; refine (zgood_yes _ _ hz).mono ?_; rintro e w' ⟨rfl, rfl⟩) | (rintro e w' ⟨rfl, rfl⟩))
        all_goals
          go_ret
          exact ⟨rfl, rfl⟩
  · have H := Lib.hid hz
    clear hz
    go_enter Try.func7, Try.ntmps7
    go_wp2_with (first | (go_at_call 18; refine (numbers_any _).mono ?_; rintro e w' ⟨rfl, rfl⟩) | (go_at_call 26; refine (znext_no _ _ H.out).mono ?_; rintro e w' ⟨rfl, rfl⟩) | (go_at_call 27; refine (zbegin_no _ _ H.out).mono ?_; rintro e w' ⟨rfl, rfl⟩) | (go_at_call 28; refine (zgood_no _ _ H.out).mono ?_; rintro e w' ⟨rfl, rfl⟩))
    all_goals
      go_ret
      exact ⟨rfl, rfl⟩
namespace zxidSteps
theorem own : ownKnob Try.prog.godebug = none := by kernel_rfl
theorem laidOut : laidOutB Try.prog = true := by kernel_rfl
set_option maxRecDepth 100000 in
set_option maxHeartbeats 1000000 in
theorem lifted (os : Os) (started : os.Started) (H : Type) (enc : TypeId × Value → H) :
    ReturnsInHanded {} Try.checked os 7 .any (Rows.zxidStepsSpec.pre6 enc Try.prog Try.f7 Rows.zxidStepsRow.domain false) (Rows.zxidStepsSpec.post enc Try.prog Try.f7 false true false false) := by
  refine returnsInHanded_of_change_sized (C := Try.checked) own started (by kernel_rfl) Try.func7
    (ChangeSpec.witness6 (enc := enc) (C := Try.checked) false ⟨#[], #[.int .i64 0], []⟩ 8 (by kernel_rfl) (by kernel_rfl) (by kernel_rfl) (by kernel_rfl)) ?_
  intro W base args ds gs before hval0 hW0 _ hsz0 _
  have hval : ∀ (j : Nat) t v, Try.f7.params[j]? = some t → args[j]? = some v → Value.okWide Try.prog W .any base t v := hval0
  have hW : DataW.Whole enc Try.prog Try.f7.params.toList Rows.zxidStepsSpec.vars false W args.toList ds gs before := hW0
  have hlt : ∀ p ∈ before, p.block < W.heap.size := fun p hp => hW.lt p hp
  have hW1 := hW
  obtain ⟨p, q, hA0, hV, rfl, hfz, hnd⟩ := hW1
  have hA : DataW.TrodAll enc Try.prog W 0 (fun _ => true) true Try.f7.params.toList args.toList ds p := hA0
  obtain ⟨rfl, rfl⟩ := trodVars_none hV
  rw [Try.params7] at hA hval
  obtain ⟨v0, vs0, d0, ds0, p0, q0, hargs, rfl, rfl, h0, r0⟩ := trodAll_cons hA
  obtain ⟨rfl, rfl, rfl⟩ := trodAll_nil r0
  obtain rfl : args = #[v0] := by cases args; simp_all
  have hsz : (DataW.weightsEach Try.prog [3] [d0]).all (· ≤ reachBytes) = true := hsz0
  have close : ∀ e W', (e = Ending.returned (.bool true) ∧ Below W.heap.size W W') → ∃ v, e = .returned v ∧ Rows.zxidStepsSpec.post enc Try.prog Try.f7 false true false false W #[v0] v W' :=
    fun e W' ⟨he, hb⟩ => ⟨_, he, law_post laidOut (of_decide_eq_true (by kernel_rfl)) rfl rfl Try.underlying4 hW rfl hb⟩
  clear hA0 hsz0 hval0 hW0 hA hV hW hfz hnd
  obtain ⟨a0, rfl, hd0, _, wf0⟩ := open_int Try.underlying3 (hval 0 3 v0 rfl rfl) h0
  exact (zxidSteps_any a0 W).mono fun e W' ⟨he, hw⟩ => close e W' ⟨he, by rw [← hw]; exact Below.refl _ _⟩
theorem proved : Rows.ZxidStepsSaid :=
  OpenClaim.holds_of_wide 7 Try.f7 rfl rfl rfl rfl rfl rfl rfl ⟨rfl, rfl, rfl, rfl, rfl⟩ rfl rfl rfl rfl rfl (by kernel_rfl) Try.func7 (by kernel_rfl)
    (of_decide_eq_true (by kernel_rfl)) (by unfold Func.isWrapper; first | (rw [if_pos (by decide +kernel)]; kernel_rfl) | (rw [if_neg (by decide +kernel)]; exact ⟨rfl, rfl⟩))
    (fun os started H enc _ => lifted os started H enc)
end zxidSteps
end Go.Proofs.Ytahcmfnpfepimaa
