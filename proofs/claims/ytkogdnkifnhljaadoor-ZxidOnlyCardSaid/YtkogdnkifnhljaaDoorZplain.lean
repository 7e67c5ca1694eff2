/- A zxid from its text, and back: plain laws. -/
import Derived.Test.YtkogdnkifnhljaaDoorZread
import Derived.Test.YtkogdnkifnhljaaDoorPathC
namespace Go.Proofs.YtkogdnkifnhljaaDoor
open Go.RowKit
theorem itoa_dec {u : Int} (h : 0 ≤ u) : Lib.itoa u = Lib.decDigits u.toNat := by unfold Lib.itoa; rw [if_neg (by omega)]
theorem text_bs {z : Int} (h : Zx z) : bs (textB z) = Lib.decDigits (z / 2147483648).toNat ++ 46 :: Lib.decDigits (z % 2147483648).toNat := by
  have h2 := h
  unfold Zx at h2
  unfold textB
  rw [bs_append, bs_append, itoa_dec (by omega), itoa_dec (by omega)]
  show Lib.decDigits _ ++ [46] ++ Lib.decDigits _ = _
  simp
theorem digit_dot {l : List UInt8} (h : l.all digit = true) : (46 : UInt8) ∉ l := by
  intro hm
  have := List.all_eq_true.1 h _ hm
  revert this
  decide
theorem index_mid {x y : List UInt8} (h : (46 : UInt8) ∉ x) : Lib.indexByte (x ++ 46 :: y) 46 = x.length := by
  have hge := Lib.indexByte_ge (x ++ 46 :: y) 46
  rcases Int.lt_or_le (Lib.indexByte (x ++ 46 :: y) 46) 0 with hi | hi
  · exfalso
    have := Lib.indexByte_none (show Lib.indexByte (x ++ 46 :: y) 46 = -1 by omega) x.length
    exact this (by rw [List.getElem?_append_right (Nat.le_refl _), Nat.sub_self]; rfl)
  · obtain ⟨o, ho⟩ := Int.eq_ofNat_of_zero_le hi
    obtain ⟨h1, h2⟩ := Lib.indexByte_some ho
    rw [ho]
    congr 1
    rcases Nat.lt_trichotomy o x.length with hlt | heq | hgt
    · exfalso
      rw [List.getElem?_append_left hlt] at h1
      exact h (List.mem_iff_getElem?.2 ⟨o, h1⟩)
    · exact heq
    · exact absurd (by rw [List.getElem?_append_right (Nat.le_refl _), Nat.sub_self]; rfl) (h2 x.length hgt)
theorem cut_mid {s : ByteArray} {x y : List UInt8} (hb : bs s = x ++ 46 :: y) (h : (46 : UInt8) ∉ x) : bs (cutR s).1 = x ∧ bs (cutR s).2.1 = y ∧ (cutR s).2.2 = true := by
  have hi : Lib.indexByte s.data.toList 46 = (x.length : Int) := by
    have : s.data.toList = x ++ 46 :: y := hb
    rw [this]
    exact index_mid h
  unfold cutR
  rw [hi, if_neg (by omega), Int.toNat_natCast]
  refine ⟨?_, ?_, rfl⟩
  · rw [bs_extract, hb]
    simp
  · rw [bs_extract, List.take_of_length_le (by rw [length_bs]; exact Nat.le_refl _), hb, List.drop_append, List.drop_of_length_le (by omega), show x.length + 1 - x.length = 1 from by omega]
    rfl
theorem read_text {z : Int} (h : Zx z) : readR (textB z) = (z, 0) := by
  have h2 := h
  unfold Zx at h2
  have d1 := dec_digits (z / 2147483648).toNat
  obtain ⟨c1, c2, c3⟩ := cut_mid (text_bs h) (digit_dot d1.1)
  have e1 := dec_small (u := (z / 2147483648).toNat) (by omega)
  have e2 := dec_small (u := (z % 2147483648).toNat) (by omega)
  unfold readR
  rw [c1, c2, c3, e1.1, e1.2, e2.1, e2.2]
  simp only [Bool.and_self, if_true]
  unfold makeR
  rw [if_pos ⟨⟨by omega, by omega⟩, ⟨by omega, by omega⟩⟩]
  congr 1
  omega
theorem cut_back {s : ByteArray} (h : (cutR s).2.2 = true) : bs s = bs (cutR s).1 ++ 46 :: bs (cutR s).2.1 := by
  unfold cutR at h ⊢
  rcases Int.lt_or_le (Lib.indexByte s.data.toList 46) 0 with hi | hi
  · rw [if_pos hi] at h; cases h
  · rw [if_neg (Int.not_lt.2 hi)]
    obtain ⟨o, ho⟩ := Int.eq_ofNat_of_zero_le hi
    have hso : (bs s)[o]? = some 46 := (Lib.indexByte_some ho).1
    have hcut : bs s = (bs s).take o ++ 46 :: (bs s).drop (o + 1) := by
      obtain ⟨h1, h2⟩ := List.getElem?_eq_some_iff.1 hso
      rw [← h2, List.getElem_cons_drop, List.take_append_drop]
    have hfull : (bs s).take s.size = bs s := List.take_of_length_le (by rw [length_bs]; exact Nat.le_refl _)
    rw [ho, Int.toNat_natCast]
    show bs s = bs (s.extract 0 o) ++ 46 :: bs (s.extract (o + 1) s.size)
    rw [bs_extract, bs_extract, hfull]
    exact hcut
theorem read_only {s : ByteArray} (h : (readR s).2 = 0) : Zx (readR s).1 ∧ textB (readR s).1 = s := by
  unfold readR at h ⊢
  cases hc : (cutR s).2.2 && (smallOk (bs (cutR s).1) && smallOk (bs (cutR s).2.1)) with
  | false => rw [hc] at h; simp at h
  | true =>
    rw [hc] at h
    rw [if_pos rfl] at h ⊢
    simp only [Bool.and_eq_true] at hc
    obtain ⟨c1, c2, c3⟩ := hc
    obtain ⟨va, a1, a2, _⟩ := small_dec c2
    obtain ⟨vb, b1, b2, _⟩ := small_dec c3
    have hcut := cut_back c1
    rw [a1, b1] at h ⊢
    unfold makeR at h ⊢
    by_cases hh : Half (va : Int) ∧ Half (vb : Int)
    · rw [if_pos hh]
      obtain ⟨⟨h1, h2⟩, ⟨h3, h4⟩⟩ := hh
      have hz : Zx ((va : Int) * 2147483648 + vb) := ⟨by omega, by omega⟩
      refine ⟨hz, bs_inj ?_⟩
      rw [text_bs hz, show (((va : Int) * 2147483648 + vb) / 2147483648).toNat = va by omega, show (((va : Int) * 2147483648 + vb) % 2147483648).toNat = vb by omega, a2, b2]
      exact hcut.symm
    · rw [if_neg hh] at h
      simp at h
theorem readR_not {s : ByteArray} (h : (readR s).2 ≠ 0) : (readR s).1 = 0 := by
  unfold readR makeR at *
  split
  · rename_i h1
    rw [if_pos h1] at h
    split
    · rename_i h2; rw [if_pos h2] at h; simp at h
    · rfl
  · rfl
end Go.Proofs.YtkogdnkifnhljaaDoor
