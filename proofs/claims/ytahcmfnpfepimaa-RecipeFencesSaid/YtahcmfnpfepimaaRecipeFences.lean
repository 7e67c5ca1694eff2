/- The law RecipeFences is true for every input: proved from the walk recipeFences_any; no conditions. -/
import Derived.Test.YtahcmfnpfepimaaFence
namespace Go.Proofs.Ytahcmfnpfepimaa
open Go.ChangeShapes Go.WideShapes Go.ChangeAt Go.RowKit
namespace recipeFences
theorem own : ownKnob Try.prog.godebug = none := by kernel_rfl
theorem laidOut : laidOutB Try.prog = true := by kernel_rfl
set_option maxRecDepth 100000 in
set_option maxHeartbeats 1000000 in
theorem lifted (os : Os) (started : os.Started) (H : Type) (enc : TypeId × Value → H) :
    ReturnsInHanded {} Try.checked os 3 .any (Rows.recipeFencesSpec.pre6 enc Try.prog Try.f3 Rows.recipeFencesRow.domain false) (Rows.recipeFencesSpec.post enc Try.prog Try.f3 false true false false) := by
  refine returnsInHanded_of_change_sized (C := Try.checked) own started (by kernel_rfl) Try.func3
    (ChangeSpec.witness6 (enc := enc) (C := Try.checked) false ⟨#[], #[.int .i64 0, .slice none 0 0], []⟩ 8 (by kernel_rfl) (by kernel_rfl) (by kernel_rfl) (by kernel_rfl)) ?_
  intro W base args ds gs before hval0 hW0 _ hsz0 _
  have hval : ∀ (j : Nat) t v, Try.f3.params[j]? = some t → args[j]? = some v → Value.okWide Try.prog W .any base t v := hval0
  have hW : DataW.Whole enc Try.prog Try.f3.params.toList Rows.recipeFencesSpec.vars false W args.toList ds gs before := hW0
  have hlt : ∀ p ∈ before, p.block < W.heap.size := fun p hp => hW.lt p hp
  have hW1 := hW
  obtain ⟨p, q, hA0, hV, rfl, hfz, hnd⟩ := hW1
  have hA : DataW.TrodAll enc Try.prog W 0 (fun _ => true) true Try.f3.params.toList args.toList ds p := hA0
  obtain ⟨rfl, rfl⟩ := trodVars_none hV
  rw [Try.params3] at hA hval
  obtain ⟨v0, vs0, d0, ds0, p0, q0, hargs, rfl, rfl, h0, r0⟩ := trodAll_cons hA
  obtain ⟨v1, vs1, d1, ds1, p1, q1, rfl, rfl, rfl, h1, r1⟩ := trodAll_cons r0
  obtain ⟨rfl, rfl, rfl⟩ := trodAll_nil r1
  obtain rfl : args = #[v0, v1] := by cases args; simp_all
  have hsz : (DataW.weightsEach Try.prog [3, 22] [d0, d1]).all (· ≤ reachBytes) = true := hsz0
  have close : ∀ e W', (e = Ending.returned (.bool true) ∧ Below W.heap.size W W') → ∃ v, e = .returned v ∧ Rows.recipeFencesSpec.post enc Try.prog Try.f3 false true false false W #[v0, v1] v W' :=
    fun e W' ⟨he, hb⟩ => ⟨_, he, law_post laidOut (of_decide_eq_true (by kernel_rfl)) rfl rfl Try.underlying4 hW rfl hb⟩
  clear hA0 hsz0 hval0 hW0 hA hV hW hfz hnd
  obtain ⟨a0, rfl, hd0, _, wf0⟩ := open_int Try.underlying3 (hval 0 3 v0 rfl rfl) h0
  obtain ⟨xs1, hr1, hf1, els1, sp1, he1⟩ := open_rows (ks := [.i .i64]) 9 Try.underlying22 (by kernel_rfl) (hval 1 22 v1 rfl rfl) h1 (fun x hx => hlt x (by simp [hx])) (by decide)
  have rb1 : xs1.length * 8 ≤ 140737488351232 := by
    rcases he1 with ⟨_, rfl⟩ | ⟨hd, hl⟩
    · simp
    · rw [hd] at hsz
      have := sized_slice hsz (j := 1) rfl rfl Try.underlying22
      rw [show Try.prog.bytesOf 3 = 8 from by kernel_rfl] at this
      simp only [reachBytes] at this
      rw [hl] at this
      exact Nat.le_trans (Nat.mul_le_mul_right _ (Nat.le_add_right _ _)) this
  obtain ⟨zs, rfl, _⟩ := typed (fun x hx => fits_int (hf1 x hx))
  have hs : Sl cInt 1 W v1 zs := hr1
  obtain ⟨A, c, rfl, hlc, hcm⟩ := hs.form
  simp only [List.length_map] at rb1
  refine (recipeFences_any a0 A zs.length c W (by omega) ?_).mono fun e W' ⟨he, hw⟩ => close e W' ⟨he, by rw [← hw]; exact Below.refl _ _⟩
  intro i hi
  obtain ⟨a, x, ha, _, hx⟩ := hs.int_at i hi
  exact ⟨a, x, ha, hx⟩
theorem proved : Rows.RecipeFencesSaid :=
  OpenClaim.holds_of_wide 3 Try.f3 rfl rfl rfl rfl rfl rfl rfl ⟨rfl, rfl, rfl, rfl, rfl⟩ rfl rfl rfl rfl rfl (by kernel_rfl) Try.func3 (by kernel_rfl)
    (of_decide_eq_true (by kernel_rfl)) (by unfold Func.isWrapper; first | (rw [if_pos (by decide +kernel)]; kernel_rfl) | (rw [if_neg (by decide +kernel)]; exact ⟨rfl, rfl⟩))
    (fun os started H enc _ => lifted os started H enc)
end recipeFences
end Go.Proofs.Ytahcmfnpfepimaa
