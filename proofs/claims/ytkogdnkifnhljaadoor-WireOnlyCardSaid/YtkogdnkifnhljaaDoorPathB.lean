/- joins; plain laws of Under. -/
import Derived.Test.YtkogdnkifnhljaaDoorPath
namespace Go.Proofs.YtkogdnkifnhljaaDoor
open Go.RowKit
theorem joins_is (w : World) :
    Calls Tryd.prog 13 #[] w fun e w' => e = .returned (.bool true) ∧ Below w.heap.size w w' := by
  have hj : joinR ⟨#[47, 97]⟩ ⟨#[98]⟩ = (⟨#[47, 97, 47, 98]⟩, 0) := by
    have h1 : goodP ⟨#[47, 97]⟩ = true := by
      have h2 : (⟨#[47, 97]⟩ : ByteArray).extract 1 (⟨#[47, 97]⟩ : ByteArray).size = ⟨#[97]⟩ := by kernel_rfl
      have h3 : stepsB ⟨#[97]⟩ = [⟨#[97]⟩] := stepsB_no (by decide)
      have h4 : named (bs ⟨#[97]⟩) = true := by kernel_rfl
      have h5 : Lib.hasPrefix (⟨#[47, 97]⟩ : ByteArray).data.toList [47] = true := by kernel_rfl
      have h6 : (⟨#[47, 97]⟩ : ByteArray).size ≤ 200 := by decide
      unfold goodP
      rw [h2, h3, h5, decide_eq_true h6]
      simp [h4]
    have h7 : named (bs ⟨#[98]⟩) = true := by kernel_rfl
    have h8 : joinT ⟨#[47, 97]⟩ ⟨#[98]⟩ = ⟨#[47, 97, 47, 98]⟩ := by kernel_rfl
    unfold joinR
    rw [h1, h7, h8, Bool.and_self, if_pos rfl, if_neg (by decide)]
  have HJ := Lib.hid (fun (W : World) => by
    have h := join_any ⟨#[47, 97]⟩ ⟨#[98]⟩ W (by decide) (by decide)
    rw [hj] at h
    exact h)
  clear hj
  go_enter Tryd.func13, Tryd.ntmps13
  go_wp2_with (go_at_call 17; refine (HJ.out _).mono ?_; rintro e w1 ⟨rfl, hb⟩; obtain ⟨ext1, d1, rfl⟩ := Below.grown_eq _ hb; clear hb)
  go_ret
  exact ⟨rfl, (by repeat (first | exact Below.refl _ _ | assumption | refine Below.drew ?_ | refine Below.drewN' ?_ _ | refine below_grow0 _ _ ?_ | refine below_alloc0 _ ?_ | refine Below.alloc ?_ (by first | omega | (simp; done) | (simp; omega)) _ | refine Below.setCell ?_ (by first | omega | (simp; done) | (simp; omega)) _ | refine Below.grow _ _ _ ?_ (by first | omega | (simp; done) | (simp; omega))))⟩
theorem under_self (a : ByteArray) : underB a a = false := by unfold underB; simp
theorem good_nil : goodP ⟨#[]⟩ = false := by
  cases h : goodP ⟨#[]⟩ with
  | false => rfl
  | true => have := (goodP_size h).1; cases this
theorem under_parts {s t : ByteArray} (h : underB s t = true) : goodP s = true ∧ goodP t = true ∧ s ≠ t ∧ (t = slash ∨ ∃ r, s.data.toList = t.data.toList ++ 47 :: r) := by
  unfold underB at h
  simp only [Bool.and_eq_true, Bool.or_eq_true, decide_eq_true_iff] at h
  obtain ⟨⟨⟨h1, h2⟩, h3⟩, h4⟩ := h
  refine ⟨h1, h2, h3, h4.imp id fun h => ?_⟩
  have := List.isPrefixOf_iff_prefix.1 h
  obtain ⟨r, hr⟩ := this
  exact ⟨r, by rw [← hr, ByteArray.data_append]; simp [slash]⟩
theorem good_len {s : ByteArray} (h : goodP s = true) : 1 ≤ s.data.toList.length := by
  have := (goodP_size h).1
  have h2 : s.data.toList.length = s.size := by simp
  omega
theorem slash_under {t : ByteArray} (h : underB slash t = true) : False := by
  obtain ⟨h1, h2, h3, h4⟩ := under_parts h
  rcases h4 with h | ⟨r, h⟩
  · exact h3 h.symm
  · have := congrArg List.length h
    have h5 := good_len h2
    simp [slash] at this
    simp at h5
    omega
theorem under_both {a b : ByteArray} (h : underB a b = true) (k : underB b a = true) : False := by
  obtain ⟨_, _, _, h4⟩ := under_parts h
  obtain ⟨_, _, _, k4⟩ := under_parts k
  rcases h4 with rfl | ⟨r, h5⟩
  · exact slash_under k
  · rcases k4 with rfl | ⟨q, k5⟩
    · exact slash_under h
    · have := congrArg List.length h5
      have := congrArg List.length k5
      simp at *
      omega
theorem under_trans {a b c : ByteArray} (h : underB a b = true) (k : underB b c = true) : underB a c = true := by
  obtain ⟨h1, h2, h3, h4⟩ := under_parts h
  obtain ⟨k1, k2, k3, k4⟩ := under_parts k
  have hac : a ≠ c := by
    rintro rfl
    exact under_both h k
  have hor : (decide (c = slash) || Lib.hasPrefix a.data.toList (c ++ slash).data.toList) = true := by
    rcases k4 with rfl | ⟨q, k4⟩
    · simp
    · rcases h4 with rfl | ⟨r, h4⟩
      · exact absurd k (fun k => slash_under k)
      · rw [Bool.or_eq_true]
        refine .inr (List.isPrefixOf_iff_prefix.2 ⟨q ++ 47 :: r, ?_⟩)
        rw [h4, k4, ByteArray.data_append]
        simp [slash]
  unfold underB
  rw [h1, k2, decide_eq_true hac, hor]
  rfl
end Go.Proofs.YtkogdnkifnhljaaDoor
