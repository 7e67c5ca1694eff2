/- wire.Decode as a function of bytes. -/
import Derived.Test.YtkogdnkifnhljaaDoorEnc2
import Derived.Test.YtkogdnkifnhljaaDoorNumber
namespace Go.Proofs.YtkogdnkifnhljaaDoor
open Go.RowKit
abbrev txn0 : Txn := ⟨0, 0, 0, ⟨#[]⟩, ⟨#[]⟩, 0, 0⟩
def dB10 (n z o ss v ow : Int) (p d s : ByteArray) (b : Bool) : Txn × Int × Int :=
  bif b || !s.toList.isEmpty then (txn0, 0, 2) else bif goodT ⟨z, o, ss, p, d, v, ow⟩ != 0 then (txn0, 0, goodT ⟨z, o, ss, p, d, v, ow⟩) else (⟨z, o, ss, p, d, v, ow⟩, n + 7, 0)
def dB9 (n z o ss v ow : Int) (p : ByteArray) (dl : Nat) (s : ByteArray) (b : Bool) : Txn × Int × Int := dB10 n z o ss v ow p (takeT s b dl) (restT s b dl) (badT s b dl)
def dB8 (n z o ss v ow : Int) (p s : ByteArray) (b : Bool) : Txn × Int × Int := dB9 n z o ss v ow p (valI (bs (takeT s b 2))).toNat (restT s b 2) (badT s b 2)
def dB7 (n z o ss v ow : Int) (pl : Nat) (s : ByteArray) (b : Bool) : Txn × Int × Int := dB8 n z o ss v ow (takeT s b pl) (restT s b pl) (badT s b pl)
def dB6 (n z o ss v ow : Int) (s : ByteArray) (b : Bool) : Txn × Int × Int := dB7 n z o ss v ow (valI (bs (takeT s b 1))).toNat (restT s b 1) (badT s b 1)
def dB5 (n z o ss v : Int) (s : ByteArray) (b : Bool) : Txn × Int × Int := dB6 n z o ss v (valI (bs (takeT s b 4))) (restT s b 4) (badT s b 4)
def dB4 (n z o ss : Int) (s : ByteArray) (b : Bool) : Txn × Int × Int := dB5 n z o ss (valI (bs (takeT s b 4))) (restT s b 4) (badT s b 4)
def dB3 (n z o : Int) (s : ByteArray) (b : Bool) : Txn × Int × Int := dB4 n z o (valI (bs (takeT s b 4))) (restT s b 4) (badT s b 4)
def dB2 (n z : Int) (s : ByteArray) (b : Bool) : Txn × Int × Int := dB3 n z (valI (bs (takeT s b 1))) (restT s b 1) (badT s b 1)
def dB1 (n : Int) (s : ByteArray) (b : Bool) : Txn × Int × Int := dB2 n (valI (bs (takeT s b 8))) (restT s b 8) (badT s b 8)
def dec4 (s : ByteArray) (n : Nat) (B : ByteArray) (sum : Int) (b4 : Bool) : Txn × Int × Int :=
  bif b4 then (txn0, 0, 2) else bif ((sumN (bs (s.extract 0 (3 + n))) : Nat) : Int) != sum then (txn0, 0, 5) else dB1 n B false
def dec3 (s : ByteArray) (n : Nat) (B s3 : ByteArray) (b3 : Bool) : Txn × Int × Int := dec4 s n B (valI (bs (takeT s3 b3 4))) (badT s3 b3 4)
def dec2 (s : ByteArray) (n : Nat) (s2 : ByteArray) (b2 : Bool) : Txn × Int × Int :=
  bif b2 || decide (1024 < (n : Int)) then (txn0, 0, 2) else dec3 s n (takeT s2 b2 n) (restT s2 b2 n) (badT s2 b2 n)
def dec1 (s t1 s1 : ByteArray) (b1 : Bool) : Txn × Int × Int :=
  bif !(t1.toList == [84]) then (txn0, 0, 2) else dec2 s (valI (bs (takeT s1 b1 2))).toNat (restT s1 b1 2) (badT s1 b1 2)
/-- what Decode answers -/
def decR (s : ByteArray) : Txn × Int × Int := dec1 s (takeT s false 1) (restT s false 1) (badT s false 1)
theorem dec1_bad {s t1 s1 : ByteArray} {b1 : Bool} (h : (!(t1.toList == [84])) = true) : dec1 s t1 s1 b1 = (txn0, 0, 2) := by unfold dec1; rw [h]; rfl
theorem dec1_ok {s t1 s1 : ByteArray} {b1 : Bool} (h : (!(t1.toList == [84])) = false) {n : Nat} (hn : valI (bs (takeT s1 b1 2)) = (n : Int)) : dec1 s t1 s1 b1 = dec2 s n (restT s1 b1 2) (badT s1 b1 2) := by unfold dec1; rw [h, hn]; rfl
theorem dec2_bad {s s2 : ByteArray} {n : Nat} {b2 : Bool} (h : b2 = true) : dec2 s n s2 b2 = (txn0, 0, 2) := by unfold dec2; rw [h]; rfl
theorem dec2_big {s s2 : ByteArray} {n : Nat} {b2 : Bool} (h : 1024 < (n : Int)) : dec2 s n s2 b2 = (txn0, 0, 2) := by unfold dec2; rw [decide_eq_true h, Bool.or_true]; rfl
theorem dec2_ok {s s2 : ByteArray} {n : Nat} {b2 : Bool} (h : ¬ b2 = true) (h' : (n : Int) ≤ 1024) : dec2 s n s2 b2 = dec3 s n (takeT s2 b2 n) (restT s2 b2 n) (badT s2 b2 n) := by
  unfold dec2; rw [Bool.eq_false_iff.2 h, decide_eq_false (by omega)]; rfl
theorem dec4_bad {s B : ByteArray} {n : Nat} {sum : Int} {b4 : Bool} (h : b4 = true) : dec4 s n B sum b4 = (txn0, 0, 2) := by unfold dec4; rw [h]; rfl
theorem dec4_sum {s B : ByteArray} {n : Nat} {sum : Int} {b4 : Bool} (h : b4 = false) (h' : (((sumN (bs (s.extract 0 (3 + n))) : Nat) : Int) != sum) = true) : dec4 s n B sum b4 = (txn0, 0, 5) := by unfold dec4; rw [h, h']; rfl
theorem dec4_ok {s B : ByteArray} {n : Nat} {sum : Int} {b4 : Bool} (h : b4 = false) (h' : (((sumN (bs (s.extract 0 (3 + n))) : Nat) : Int) != sum) = false) : dec4 s n B sum b4 = dB1 n B false := by unfold dec4; rw [h, h']; rfl
theorem dB10_bad {n z o ss v ow : Int} {p d s : ByteArray} {b : Bool} (h : b = true) : dB10 n z o ss v ow p d s b = (txn0, 0, 2) := by unfold dB10; rw [h]; rfl
theorem dB10_more {n z o ss v ow : Int} {p d s : ByteArray} {b : Bool} (h : (!s.toList.isEmpty) = true) : dB10 n z o ss v ow p d s b = (txn0, 0, 2) := by unfold dB10; rw [h, Bool.or_true]; rfl
theorem dB10_not {n z o ss v ow : Int} {p d s : ByteArray} {b : Bool} (h : ¬ b = true) (h' : (!s.toList.isEmpty) = false) (hg : (goodT ⟨z, o, ss, p, d, v, ow⟩ != 0) = true) : dB10 n z o ss v ow p d s b = (txn0, 0, goodT ⟨z, o, ss, p, d, v, ow⟩) := by unfold dB10; rw [Bool.eq_false_iff.2 h, h', hg]; rfl
theorem dB10_ok {n z o ss v ow : Int} {p d s : ByteArray} {b : Bool} (h : ¬ b = true) (h' : (!s.toList.isEmpty) = false) (hg : (goodT ⟨z, o, ss, p, d, v, ow⟩ != 0) = false) : dB10 n z o ss v ow p d s b = (⟨z, o, ss, p, d, v, ow⟩, n + 7, 0) := by unfold dB10; rw [Bool.eq_false_iff.2 h, h', hg]; rfl
def valN (l : List UInt8) : Nat := l.foldl (fun v c => v * 256 + c.toNat) 0
theorem valN_snoc (l : List UInt8) (c : UInt8) : valN (l ++ [c]) = valN l * 256 + c.toNat := by unfold valN; rw [List.foldl_append]; rfl
theorem list_snoc_rec {P : List UInt8 → Prop} (h0 : P []) (h1 : ∀ l c, P l → P (l ++ [c])) (l : List UInt8) : P l := by
  rw [← List.reverse_reverse l]
  induction l.reverse with
  | nil => exact h0
  | cons c r ih => rw [List.reverse_cons]; exact h1 _ _ ih
theorem valN_lt (l : List UInt8) : valN l < 256 ^ l.length := by
  refine list_snoc_rec (P := fun l => valN l < 256 ^ l.length) ?_ ?_ l
  · exact Nat.one_pos
  · intro l c h
    have := c.toNat_lt
    rw [valN_snoc, List.length_append, List.length_singleton, Nat.pow_succ]
    omega
theorem valI_nat (l : List UInt8) (h : l.length ≤ 7) : valI l = (valN l : Int) := by
  revert h
  refine list_snoc_rec (P := fun l => l.length ≤ 7 → valI l = (valN l : Int)) ?_ ?_ l
  · intro _; rfl
  · intro l c ih h
    rw [List.length_append, List.length_singleton] at h
    have hl : valN (l ++ [c]) < 256 ^ 7 := Nat.lt_of_lt_of_le (valN_lt _) (Nat.pow_le_pow_right (by decide) (by rw [List.length_append, List.length_singleton]; exact h))
    rw [valI_snoc, ih (by omega), valN_snoc]
    rw [valN_snoc] at hl
    unfold wrap64
    omega
theorem takeT_len (s : ByteArray) (b : Bool) (n : Nat) : (bs (takeT s b n)).length ≤ n := by
  unfold takeT
  split
  · exact Nat.zero_le _
  · rw [length_bs, ByteArray.size_extract]; omega
theorem valT (s : ByteArray) (b : Bool) (n : Nat) (hn : n ≤ 7) : ∃ k : Nat, valI (bs (takeT s b n)) = (k : Int) ∧ k < 256 ^ n :=
  ⟨valN _, valI_nat _ (Nat.le_trans (takeT_len s b n) hn), Nat.lt_of_lt_of_le (valN_lt _) (Nat.pow_le_pow_right (by decide) (takeT_len s b n))⟩
theorem restT_size (s : ByteArray) (b : Bool) (n : Nat) : (restT s b n).size ≤ s.size := by
  unfold restT
  split
  · exact Nat.le_refl _
  · rw [ByteArray.size_extract]; omega
theorem bs_extractTD (s : ByteArray) (i j : Nat) : bs (s.extract i j) = ((bs s).take j).drop i := by
  unfold bs
  simp [ByteArray.data_extract, List.drop_take]
theorem tk_ok {s : ByteArray} {b : Bool} {n : Nat} (h : badT s b n = false) : b = false ∧ bs (takeT s b n) = (bs s).take n ∧ bs (restT s b n) = (bs s).drop n ∧ n ≤ s.size := by
  have hb := h
  unfold badT at h
  rw [Bool.or_eq_false_iff] at h
  obtain ⟨h1, h2⟩ := h
  have h3 : n ≤ s.size := by have := of_decide_eq_false h2; omega
  refine ⟨h1, ?_, ?_, h3⟩
  · unfold takeT
    rw [hb]
    simp only [Bool.false_eq_true, if_false]
    rw [bs_extractTD, List.drop_zero]
  · unfold restT
    rw [hb]
    simp only [Bool.false_eq_true, if_false]
    rw [bs_extractTD, List.take_of_length_le (by rw [length_bs]; exact Nat.le_refl _)]
end Go.Proofs.YtkogdnkifnhljaaDoor
