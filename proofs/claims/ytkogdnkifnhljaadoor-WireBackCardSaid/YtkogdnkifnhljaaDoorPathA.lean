/- Contracts of package path that reach no library: Named, Serial. -/
import Derived.Test.YtkogdnkifnhljaaDoorTypes
import Derived.Lib.ConvBytes
import Derived.Laws.IdiomStrings
namespace Go.Proofs.YtkogdnkifnhljaaDoor
open Go.RowKit

theorem ret_bool' {a b : Bool} (h : a = b) : Ending.returned (.bool a) = Ending.returned (.bool b) := by rw [h]
/-- a letter, a digit, '-' or '_' -/
def okc (c : UInt8) : Bool := decide ((97 ≤ c.toNat ∧ c.toNat ≤ 122) ∨ (48 ≤ c.toNat ∧ c.toNat ≤ 57) ∨ c.toNat = 45 ∨ c.toNat = 95)
/-- may these bytes be one step of a path? -/
def named (l : List UInt8) : Bool := l.all okc && decide (0 < l.length) && decide (l.length ≤ 40)
def bs (s : ByteArray) : List UInt8 := s.data.toList
@[simp] theorem length_bs (s : ByteArray) : (bs s).length = s.size := by
  show s.data.toList.length = s.data.size
  simp
theorem bs_get (s : ByteArray) (k : Nat) (h : k < s.size) : (bs s)[k]'(by simpa using h) = s[k] := rfl

theorem all_take_succ (s : ByteArray) (k : Nat) (h : k < s.size) : ((bs s).take (k + 1)).all okc = (((bs s).take k).all okc && okc s[k]) := by
  rw [List.take_succ_eq_append_getElem (by simpa using h), List.all_append, bs_get s k h]
  simp
theorem not_named_of {s : ByteArray} {k : Nat} (h : k < s.size) (hk : okc s[k] = false) : named (bs s) = false := by
  have : (bs s).all okc = false := by
    rw [List.all_eq_false]
    exact ⟨(bs s)[k]'(by simpa using h), List.getElem_mem _, by rw [bs_get s k h, hk]; simp⟩
  simp [named, this]
theorem named_round {k : Nat} {s : ByteArray} (h : k < s.size) (hall : ((bs s).take k).all okc = true) (hk : okc s[k] = true) : ((bs s).take (k + 1)).all okc = true := by
  rw [all_take_succ s k h, hall, hk]; rfl
theorem named_end {k : Nat} {s : ByteArray} (h : ¬ k < s.size) (hk : k ≤ s.size) (hall : ((bs s).take k).all okc = true) : (!s.toList.isEmpty && decide ((s.size : Int) ≤ 40)) = named (bs s) := by
  obtain rfl : k = s.size := by omega
  rw [List.take_of_length_le (by simp)] at hall
  have h1 : (!s.toList.isEmpty) = decide (0 < (bs s).length) := by
    rw [ByteArray.toList_eq]
    show (!(bs s).isEmpty) = _
    cases bs s <;> simp
  have h2 : decide ((s.size : Int) ≤ 40) = decide ((bs s).length ≤ 40) := by rw [length_bs]; simp; omega
  rw [named, hall, h1, h2]
  simp
theorem named_any (s : ByteArray) (w : World) (hs : s.size ≤ 9223372036854775807) :
    Calls Tryd.prog 18 #[.string s] w fun e w' => e = .returned (.bool (named (bs s))) ∧ w = w' := by
  go_enter Tryd.func18, Tryd.ntmps18
  go_wp2
  go_loop [3] (fun i => ∃ k : Nat, k ≤ s.size ∧ i = .int .i64 k ∧ Hid (((bs s).take k).all okc = true)) (fun i => s.size - (intOf i).toNat)
  case atStart => exact ⟨0, Nat.zero_le _, rfl, rfl⟩
  case round =>
    obtain ⟨k, hk, rfl, hall⟩ := hrel
    by_cases hlt : k < s.size
    · by_cases hok : okc s[k] = true
      · have hok' : (97 ≤ s[k].toNat ∧ s[k].toNat ≤ 122) ∨ (48 ≤ s[k].toNat ∧ s[k].toNat ≤ 57) ∨ s[k].toNat = 45 ∨ s[k].toNat = 95 := of_decide_eq_true hok
        have H := Lib.hid (named_round hlt hall.out hok)
        clear hok hall
        rcases hok' with ⟨h1, h2⟩ | ⟨h1, h2⟩ | h1 | h1
        · have g1 : (97 : Int) ≤ (s[k].toNat : Int) := by omega
          have g2 : (s[k].toNat : Int) ≤ 122 := by omega
          clear h1 h2
          go_wp2
          go_round
          case rel => exact ⟨k + 1, by omega, by go_num, H.out⟩
          case measure => simp [intOf]; omega
        · have g0 : (s[k].toNat : Int) < 97 := by omega
          have g1 : (48 : Int) ≤ (s[k].toNat : Int) := by omega
          have g2 : (s[k].toNat : Int) ≤ 57 := by omega
          clear h1 h2
          go_wp2
          go_round
          case rel => exact ⟨k + 1, by omega, by go_num, H.out⟩
          case measure => simp [intOf]; omega
        · have g0 : (s[k].toNat : Int) < 48 := by omega
          have g1 : ((s[k].toNat : Int) != 45) = false := by simp; omega
          clear h1
          go_wp2
          go_round
          case rel => exact ⟨k + 1, by omega, by go_num, H.out⟩
          case measure => simp [intOf]; omega
        · have g0 : (s[k].toNat : Int) < 97 := by omega
          have g3 : (57 : Int) < (s[k].toNat : Int) := by omega
          have g1 : ((s[k].toNat : Int) != 45) = true := by simp; omega
          have g2 : ((s[k].toNat : Int) != 95) = false := by simp; omega
          clear h1
          go_wp2
          go_round
          case rel => exact ⟨k + 1, by omega, by go_num, H.out⟩
          case measure => simp [intOf]; omega
      · have hok' : ¬ ((97 ≤ s[k].toNat ∧ s[k].toNat ≤ 122) ∨ (48 ≤ s[k].toNat ∧ s[k].toNat ≤ 57) ∨ s[k].toNat = 45 ∨ s[k].toNat = 95) := fun h => hok (decide_eq_true h)
        have H := Lib.hid (not_named_of hlt (by simpa using hok))
        clear hok hall
        have g1 : ((s[k].toNat : Int) != 45) = true := by simp; omega
        have g2 : ((s[k].toNat : Int) != 95) = true := by simp; omega
        rcases (by omega : s[k].toNat < 48 ∨ (57 < s[k].toNat ∧ s[k].toNat < 97) ∨ 122 < s[k].toNat) with h1 | ⟨h1, h2⟩ | h1
        · have g3 : (s[k].toNat : Int) < 48 := by omega
          clear hok' h1
          go_wp2
          go_ret
          exact ⟨ret_bool' H.out.symm, rfl⟩
        · have g3 : (57 : Int) < (s[k].toNat : Int) := by omega
          have g4 : (s[k].toNat : Int) < 97 := by omega
          clear hok' h1 h2
          go_wp2
          go_ret
          exact ⟨ret_bool' H.out.symm, rfl⟩
        · have g3 : (122 : Int) < (s[k].toNat : Int) := by omega
          clear hok' h1
          go_wp2
          go_ret
          exact ⟨ret_bool' H.out.symm, rfl⟩
    · have H := Lib.hid (named_end hlt hk hall.out)
      clear hall
      go_wp2
      all_goals
        go_ret
        refine ⟨ret_bool' (Eq.trans ?_ H.out), rfl⟩
        first | rfl | simp [*]
/-- ten digits of a number, the highest first -/
def digs : Nat → Nat → List UInt8
  | 0, _ => []
  | k + 1, n => digs k (n / 10) ++ [UInt8.ofNat (48 + n % 10)]
theorem length_digs (k n : Nat) : (digs k n).length = k := by
  induction k generalizing n with
  | zero => rfl
  | succ k ih => simp [digs, ih]
theorem digs_left (k : Nat) : ∀ n : Nat, digs (k + 1) n = UInt8.ofNat (48 + n / 10 ^ k % 10) :: digs k n := by
  induction k with
  | zero => intro n; simp [digs]
  | succ k ih =>
    intro n
    rw [digs, ih (n / 10)]
    rw [digs, List.cons_append, Nat.div_div_eq_div_mul, Nat.pow_succ, Nat.mul_comm 10]
theorem digs_zero (k : Nat) : digs k 0 = List.replicate k 48 := by
  induction k with
  | zero => rfl
  | succ k ih => rw [digs_left, ih]; simp [List.replicate_succ]
/-- where nothing is left of a number, noughts stand ahead of its digits -/
theorem digs_pad (k j n : Nat) (h : n / 10 ^ j = 0) : digs (j + k) n = List.replicate k 48 ++ digs j n := by
  induction k with
  | zero => simp
  | succ k ih =>
    rw [show j + (k + 1) = (j + k) + 1 from by omega, digs_left, ih, List.replicate_succ, List.cons_append]
    have : n / 10 ^ (j + k) = 0 := by rw [Nat.pow_add, ← Nat.div_div_eq_div_mul, h, Nat.zero_div]
    rw [this]
    rfl
/-- what stands behind the name when j digits are laid -/
def part (j n : Nat) : List UInt8 := List.replicate (10 - j) 48 ++ digs j n
theorem length_part (j n : Nat) (h : j ≤ 10) : (part j n).length = 10 := by simp [part, length_digs]; omega
theorem part_end (j n : Nat) (hj : j ≤ 10) (h : n / 10 ^ j = 0) : part j n = digs 10 n := by
  rw [part, ← digs_pad (10 - j) j n h, show j + (10 - j) = 10 from by omega]
theorem part_set (j n : Nat) (hj : j < 10) : (part j n).set (9 - j) (UInt8.ofNat (48 + n / 10 ^ j % 10)) = part (j + 1) n := by
  unfold part
  rw [digs_left, show 10 - j = (9 - j) + 1 from by omega, List.replicate_succ', List.append_assoc, List.set_append_right _ _ (by simp), show 10 - (j + 1) = 9 - j from by omega]
  simp
theorem lt_ten {n j : Nat} (hn : n ≤ 2147483647) (h : 0 < n / 10 ^ j) : j < 10 := by
  rcases Nat.lt_or_ge j 10 with h1 | h1
  · exact h1
  · have h2 : 10 ^ 10 ≤ 10 ^ j := Nat.pow_le_pow_right (by omega) h1
    have : n / 10 ^ j = 0 := Nat.div_eq_of_lt (by omega)
    omega
end Go.Proofs.YtkogdnkifnhljaaDoor
