/- Decimal numerals, written and read: plain laws. -/
import Derived.Test.YtkogdnkifnhljaaDoorSmall
import Derived.Lib.ItoaNum
namespace Go.Proofs.YtkogdnkifnhljaaDoor
open Go.RowKit
theorem dec_digits (u : Nat) : (Lib.decDigits u).all digit = true ∧ valD (Lib.decDigits u) = u := by
  induction u using Nat.strongRecOn with
  | ind u ih =>
    have one : ∀ d, d < 10 → digit (UInt8.ofNat (48 + d)) = true ∧ (UInt8.ofNat (48 + d)).toNat = 48 + d := by
      intro d hd
      have : (UInt8.ofNat (48 + d)).toNat = 48 + d := by simp; omega
      refine ⟨?_, this⟩
      unfold digit
      rw [this]
      exact decide_eq_true (by omega)
    by_cases h : u < 10
    · rw [Lib.decDigits, dif_pos h]
      obtain ⟨h1, h2⟩ := one u h
      refine ⟨by rw [List.all_cons, h1]; rfl, ?_⟩
      show 0 * 10 + ((UInt8.ofNat (48 + u)).toNat - 48) = u
      rw [h2]; omega
    · rw [Lib.decDigits, dif_neg h]
      obtain ⟨h1, h2⟩ := one (u % 10) (by omega)
      obtain ⟨i1, i2⟩ := ih (u / 10) (by omega)
      refine ⟨by rw [List.all_append, i1, List.all_cons, h1]; rfl, ?_⟩
      rw [valD_snoc, i2, h2]
      omega
theorem dec_len : ∀ (k u : Nat), u < 10 ^ (k + 1) → (Lib.decDigits u).length ≤ k + 1
  | 0, u, h => by rw [Lib.decDigits, dif_pos (by simpa using h)]; simp
  | k + 1, u, h => by
    by_cases h10 : u < 10
    · rw [Lib.decDigits, dif_pos h10]; simp
    · rw [Lib.decDigits, dif_neg h10, List.length_append]
      have := dec_len k (u / 10) (by rw [Nat.pow_succ] at h; omega)
      simp
      omega
theorem dec_ne (u : Nat) : 0 < (Lib.decDigits u).length := by
  rw [Lib.decDigits]
  split <;> simp
theorem dec_head (u : Nat) (h : 1 ≤ u) : (Lib.decDigits u)[0]? ≠ some 48 := by
  induction u using Nat.strongRecOn with
  | ind u ih =>
    by_cases h10 : u < 10
    · rw [Lib.decDigits, dif_pos h10]
      intro e
      have e2 : UInt8.ofNat (48 + u) = 48 := by simpa using e
      have := congrArg UInt8.toNat e2
      simp at this
      omega
    · rw [Lib.decDigits, dif_neg h10, List.getElem?_append_left (dec_ne _)]
      exact ih (u / 10) (by omega) (by omega)
theorem dec_small {u : Nat} (h : u < 10000000000) : smallOk (Lib.decDigits u) = true ∧ smallV (Lib.decDigits u) = u := by
  obtain ⟨h1, h2⟩ := dec_digits u
  have hl := dec_len 9 u h
  have hn := dec_ne u
  have hok : smallOk (Lib.decDigits u) = true := by
    unfold smallOk
    have hne : Lib.decDigits u ≠ [] := by intro e; rw [e] at hn; simp at hn
    rw [decide_eq_true hne, decide_eq_true hl, h1]
    have : (decide (1 < (Lib.decDigits u).length) && decide ((Lib.decDigits u)[0]? = some 48)) = false := by
      by_cases hu : 1 ≤ u
      · rw [decide_eq_false (dec_head u hu)]; simp
      · have : u = 0 := by omega
        subst this
        rw [Lib.decDigits, dif_pos (by decide)]
        rfl
    rw [this]
    rfl
  exact ⟨hok, by unfold smallV; rw [hok, h2]; rfl⟩
theorem fold_ge : ∀ (l : List UInt8) (n : Nat), 1 ≤ n → 1 ≤ l.foldl (fun n c => n * 10 + (c.toNat - 48)) n
  | [], _, h => h
  | c :: r, n, h => fold_ge r (n * 10 + (c.toNat - 48)) (by omega)
theorem valD_pos {l : List UInt8} (hd : l.all digit = true) (h0 : 0 < l.length) (h48 : l[0]? ≠ some 48) : 1 ≤ valD l := by
  cases l with
  | nil => simp at h0
  | cons c r =>
    have hc : digit c = true := List.all_eq_true.1 hd c List.mem_cons_self
    unfold digit at hc
    rw [decide_eq_true_iff] at hc
    have : c.toNat ≠ 48 := fun e => h48 (by
      have e2 : c = 48 := UInt8.toNat_inj.1 e
      rw [e2]; rfl)
    exact fold_ge r (0 * 10 + (c.toNat - 48)) (by omega)
theorem dec_val : ∀ (n : Nat) (l : List UInt8), l.length = n + 1 → l.all digit = true → (1 < l.length → l[0]? ≠ some 48) → Lib.decDigits (valD l) = l := by
  intro n
  induction n with
  | zero =>
    intro l hl hd _
    obtain ⟨c, rfl⟩ := List.length_eq_one_iff.1 hl
    have hc : digit c = true := by simpa using hd
    unfold digit at hc
    rw [decide_eq_true_iff] at hc
    have hv : valD [c] = c.toNat - 48 := by unfold valD; simp
    rw [hv, Lib.decDigits, dif_pos (by omega), show 48 + (c.toNat - 48) = c.toNat by omega]
    simp
  | succ n ih =>
    intro l hl hd hz
    obtain ⟨i, c, rfl⟩ : ∃ i c, l = i ++ [c] := ⟨l.dropLast, l.getLast (by intro e; rw [e] at hl; simp at hl), (List.dropLast_concat_getLast _).symm⟩
    have hil : i.length = n + 1 := by simpa using hl
    rw [List.all_append, Bool.and_eq_true] at hd
    have hc : digit c = true := by simpa using hd.2
    unfold digit at hc
    rw [decide_eq_true_iff] at hc
    have h0 : (i ++ [c])[0]? = i[0]? := List.getElem?_append_left (by omega)
    have hz2 : i[0]? ≠ some 48 := by rw [← h0]; exact hz (by simp; omega)
    have hp := valD_pos hd.1 (by omega) hz2
    have hr := ih i hil hd.1 (fun _ => hz2)
    rw [valD_snoc, Lib.decDigits, dif_neg (by omega)]
    have e1 : (valD i * 10 + (c.toNat - 48)) / 10 = valD i := by omega
    have e2 : (valD i * 10 + (c.toNat - 48)) % 10 = c.toNat - 48 := by omega
    rw [e1, e2, hr, show 48 + (c.toNat - 48) = c.toNat by omega]
    simp
theorem small_dec {l : List UInt8} (h : smallOk l = true) : ∃ v : Nat, smallV l = v ∧ Lib.decDigits v = l ∧ v < 10000000000 := by
  have hv : smallV l = (valD l : Nat) := by unfold smallV; rw [h]; rfl
  unfold smallOk at h
  simp only [Bool.and_eq_true, decide_eq_true_iff, Bool.not_eq_true', Bool.and_eq_false_iff, decide_eq_false_iff_not] at h
  obtain ⟨h1, h2, h3, h4⟩ := h
  have h0 : 0 < l.length := by cases l with
    | nil => exact absurd rfl h1
    | cons _ _ => simp
  refine ⟨valD l, hv, ?_, ?_⟩
  · refine dec_val (l.length - 1) l (by omega) h4 fun hlt => ?_
    rcases h3 with h | h
    · exact absurd hlt h
    · exact h
  · have := valD_lt l h4 l.length (Nat.le_refl _)
    rw [List.take_length] at this
    exact Nat.lt_of_lt_of_le this (Nat.pow_le_pow_right (by decide) h2)
end Go.Proofs.YtkogdnkifnhljaaDoor
