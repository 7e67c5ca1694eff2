/- What Join gives: plain laws. -/
import Derived.Test.YtkogdnkifnhljaaDoorPathC
namespace Go.Proofs.YtkogdnkifnhljaaDoor
open Go.RowKit
theorem join_parts {d n : ByteArray} (h : (joinR d n).2 = 0) : goodP d = true ∧ named (bs n) = true ∧ (joinT d n).size ≤ 200 ∧ joinR d n = (joinT d n, 0) := by
  unfold joinR at h ⊢
  cases h1 : goodP d with
  | false => rw [h1] at h; simp at h
  | true =>
    cases h2 : named (bs n) with
    | false => rw [h1, h2] at h; simp at h
    | true =>
      rw [h1, h2] at h
      by_cases h3 : 200 < (joinT d n).size
      · simp [h3] at h
      · exact ⟨rfl, rfl, by omega, by simp [h3]⟩
theorem joinR_not {d n : ByteArray} (h : (joinR d n).2 ≠ 0) : (joinR d n).1 = ⟨#[]⟩ := by
  unfold joinR at h ⊢
  split
  · split
    · rfl
    · rename_i h1 h2; rw [if_pos h1, if_neg h2] at h; simp at h
  · rfl
theorem count_none {l : List UInt8} (h : (47 : UInt8) ∉ l) : Lib.countByte l 47 = 0 := by
  unfold Lib.countByte
  exact List.count_eq_zero.2 h
theorem join_all {d n : ByteArray} (h : (joinR d n).2 = 0) : goodP (joinT d n) = true ∧ splitR (joinT d n) = (d, n, 0) ∧ depthR (joinT d n) = ((depthR d).1 + 1, 0) ∧ (depthR d).2 = 0 ∧ underB (joinT d n) d = true ∧ underB d (joinT d n) = false := by
  obtain ⟨h1, h2, h3, _⟩ := join_parts h
  obtain ⟨hn, hn1, hn2⟩ := named_no h2
  have key : goodP (joinT d n) = true ∧ splitR (joinT d n) = (d, n, 0) ∧ depthR (joinT d n) = ((depthR d).1 + 1, 0) ∧ (depthR d).2 = 0 ∧ underB (joinT d n) d = true := by
    by_cases hd : d = slash
    · subst hd
      have hb : bs (joinT slash n) = 47 :: bs n := by
        unfold joinT
        rw [if_pos rfl, bs_append, slash_bs]
        rfl
      have hsz := size_bs (joinT slash n)
      generalize joinT slash n = s at *
      have hp := pre_of_bs hb
      have hg : goodP s = true := by
        rw [goodP_L, hb, goodL_root (bs n) hn (by rw [← hb, length_bs]; exact h3), h2]
        simp
      have hne : s ≠ slash := by
        intro e
        rw [e, slash_bs] at hb
        injection hb with _ hb
        rw [← hb] at hn1
        simp at hn1
      have hk : lastP s = 0 := lastP_of (d := []) (n := bs n) hb hn hp
      have hn3 : s.extract 1 s.size = n := by
        apply bs_inj
        rw [bs_extract, List.take_of_length_le (by rw [length_bs]; exact Nat.le_refl _), hb]
        rfl
      refine ⟨hg, ?_, ?_, ?_, ?_⟩
      · unfold splitR
        rw [if_pos hg, if_neg hne, if_pos hk, hn3]
      · unfold depthR
        rw [if_pos hg, if_neg hne, if_pos good_slash, if_pos rfl]
        show (((Lib.countByte (bs s) 47 : Nat) : Int), (0 : Int)) = _
        have := count_none hn
        unfold Lib.countByte at this ⊢
        rw [hb, List.count_cons_self, this]
        rfl
      · unfold depthR
        rw [if_pos good_slash, if_pos rfl]
      · unfold underB
        rw [hg, good_slash, decide_eq_true hne, decide_eq_true rfl]
        rfl
    · have hb : bs (joinT d n) = bs d ++ 47 :: bs n := by
        unfold joinT
        rw [if_neg hd, bs_append, bs_append, slash_bs]
        simp
      generalize joinT d n = s at *
      obtain ⟨r, hr⟩ := bs_pre (goodP_pre h1 hd).1
      have hds : 47 :: r ≠ [47] := by
        intro e
        exact hd (bs_inj (by rw [hr, e]; rfl))
      have hb2 : bs s = 47 :: (r ++ 47 :: bs n) := by rw [hb, hr]; rfl
      have hp := pre_of_bs hb2
      have hg : goodP s = true := by
        have h4 := goodL_deep 47 r (bs n) hds hn (by rw [show 47 :: r ++ 47 :: bs n = bs s from hb2.symm, length_bs]; exact h3)
        rw [goodP_L, hb2]
        rw [goodP_L, hr] at h1
        rw [h1, h2] at h4
        exact h4
      have hk : lastP s = (bs d).length := lastP_of hb hn hp
      have hne : s ≠ slash := by
        intro e
        rw [e, slash_bs] at hb2
        injection hb2 with _ hb2
        simp at hb2
      have hk0 : lastP s ≠ 0 := by rw [hk, hr]; simp
      have hd3 : s.extract 0 (lastP s) = d := by
        apply bs_inj
        rw [bs_extract, hk, hb]
        simp
      have hn3 : s.extract (lastP s + 1) s.size = n := by
        apply bs_inj
        rw [bs_extract, List.take_of_length_le (by rw [length_bs]; exact Nat.le_refl _), hk, hb]
        rw [List.drop_append, List.drop_of_length_le (by omega), show (bs d).length + 1 - (bs d).length = 1 from by omega]
        rfl
      refine ⟨hg, ?_, ?_, ?_, ?_⟩
      · unfold splitR
        rw [if_pos hg, if_neg hne, if_neg hk0, hd3, hn3]
      · unfold depthR
        rw [if_pos hg, if_neg hne, if_pos h1, if_neg hd]
        show (((Lib.countByte (bs s) 47 : Nat) : Int), (0 : Int)) = (((Lib.countByte (bs d) 47 : Nat) : Int) + 1, 0)
        have := count_none hn
        unfold Lib.countByte at this ⊢
        rw [hb, List.count_append, List.count_cons_self, this]
        rfl
      · unfold depthR
        rw [if_pos h1, if_neg hd]
      · unfold underB
        have hsd : s ≠ d := by
          intro e
          have := congrArg List.length hb
          rw [e] at this
          simp at this
        have hpp : Lib.hasPrefix s.data.toList (d ++ slash).data.toList = true := by
          show Lib.hasPrefix (bs s) (bs (d ++ slash)) = true
          refine List.isPrefixOf_iff_prefix.2 ⟨bs n, ?_⟩
          rw [bs_append, slash_bs, hb]
          simp
        rw [hg, h1, decide_eq_true hsd, hpp]
        simp
  obtain ⟨k1, k2, k3, k4, k5⟩ := key
  refine ⟨k1, k2, k3, k4, k5, ?_⟩
  cases hu : underB d (joinT d n) with
  | false => rfl
  | true => exact (under_both k5 hu).elim
end Go.Proofs.YtkogdnkifnhljaaDoor
