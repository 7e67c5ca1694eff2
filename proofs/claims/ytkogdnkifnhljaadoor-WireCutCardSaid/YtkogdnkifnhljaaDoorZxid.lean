/- Contracts of package zxid (numbers alone), and of the laws' 'numbers'. -/
import Derived.Test.YtkogdnkifnhljaaDoorBase
import Derived.Laws.BitsAllLaws
import Derived.Laws.BitsLemmas
namespace Go.Proofs.YtkogdnkifnhljaaDoor
open Go.RowKit

theorem ret_int {k : IntKind} {a b : Int} (h : a = b) : Ending.returned (.int k a) = Ending.returned (.int k b) := by rw [h]
theorem ret_bool {a b : Bool} (h : a = b) : Ending.returned (.bool a) = Ending.returned (.bool b) := by rw [h]
theorem ret_ii {k k' : IntKind} {a b c d : Int} (h : a = b) (h' : c = d) : Ending.returned (.tuple #[.int k a, .int k' c]) = Ending.returned (.tuple #[.int k b, .int k' d]) := by rw [h, h']

theorem bv_nat (a : Nat) (ha : a < 9223372036854775808) : (BitVec.ofInt 64 (a : Int)).toNat = a := by
  rw [BitVec.ofInt_natCast, BitVec.toNat_ofNat]
  exact Nat.mod_eq_of_lt (by omega)
theorem bits_mask (a : Int) (h0 : 0 ≤ a) (h1 : a < 4611686018427387904) : bits .and .i64 a 2147483647 = a % 2147483648 := by
  obtain ⟨n, rfl⟩ := Int.eq_ofNat_of_zero_le h0
  have hx : n &&& 2147483647 = n % 2147483648 := Nat.and_two_pow_sub_one_eq_mod n 31
  show IntKind.i64.wrap ((BitVec.ofInt 64 (n : Int) &&& BitVec.ofInt 64 ((2147483647 : Nat) : Int)).toNat : Int) = _
  rw [BitVec.toNat_and, bv_nat n (by omega), bv_nat 2147483647 (by omega), hx, IntKind.wrap_i64]
  omega
theorem bits_join (a b : Int) (h0 : 0 ≤ a) (h1 : a ≤ 2147483647) (h2 : 0 ≤ b) (h3 : b ≤ 2147483647) : bits .or .i64 (a * 2147483648) b = a * 2147483648 + b := by
  obtain ⟨n, rfl⟩ := Int.eq_ofNat_of_zero_le h0
  obtain ⟨m, rfl⟩ := Int.eq_ofNat_of_zero_le h2
  have hx : n * 2147483648 ||| m = n * 2147483648 + m := by
    have := Nat.shiftLeft_add_eq_or_of_lt (b := m) (i := 31) (by omega) n
    rw [Nat.shiftLeft_eq] at this
    exact this.symm
  show IntKind.i64.wrap ((BitVec.ofInt 64 (((n * 2147483648 : Nat) : Int)) ||| BitVec.ofInt 64 (m : Int)).toNat : Int) = _
  rw [BitVec.toNat_or, bv_nat _ (by omega), bv_nat m (by omega), hx, IntKind.wrap_i64]
  omega

/-- a zxid -/
def Zx (a : Int) : Prop := 0 ≤ a ∧ a < 4611686018427387904
/-- an epoch, a count -/
def Half (a : Int) : Prop := 0 ≤ a ∧ a ≤ 2147483647

theorem zmake_ok (a b : Int) (w : World) (ha : Half a) (hb : Half b) :
    Calls Tryd.prog 34 #[.int .i64 a, .int .i64 b] w fun e w' => e = .returned (.tuple #[.int .i64 (a * 2147483648 + b), .int .i64 0]) ∧ w = w' := by
  obtain ⟨h0, h1⟩ := ha
  obtain ⟨h2, h3⟩ := hb
  go_enter Tryd.func34, Tryd.ntmps34
  go_wp2
  go_ret2
  exact ⟨ret_ii (bits_join a b h0 h1 h2 h3) rfl, rfl⟩
theorem zmake_no (a b : Int) (w : World) (h : ¬ (Half a ∧ Half b)) :
    Calls Tryd.prog 34 #[.int .i64 a, .int .i64 b] w fun e w' => e = .returned (.tuple #[.int .i64 0, .int .i64 3]) ∧ w = w' := by
  have h' : a < 0 ∨ 2147483647 < a ∨ b < 0 ∨ 2147483647 < b := by unfold Half at h; omega
  clear h
  go_enter Tryd.func34, Tryd.ntmps34
  go_wp2
  all_goals
    go_ret2
    exact ⟨rfl, rfl⟩
theorem zgood_yes (a : Int) (w : World) (h : Zx a) :
    Calls Tryd.prog 32 #[.int .i64 a] w fun e w' => e = .returned (.bool true) ∧ w = w' := by
  obtain ⟨ha, ha'⟩ := h
  go_enter Tryd.func32, Tryd.ntmps32
  go_wp2
  go_ret
  exact ⟨rfl, rfl⟩
theorem zgood_no (a : Int) (w : World) (h : ¬ Zx a) :
    Calls Tryd.prog 32 #[.int .i64 a] w fun e w' => e = .returned (.bool false) ∧ w = w' := by
  have ha : a < 0 ∨ (0 ≤ a ∧ ¬ a < 4611686018427387904) := by unfold Zx at h; omega
  clear h
  rcases ha with ha | ⟨h0, ha⟩
  · go_enter Tryd.func32, Tryd.ntmps32
    go_wp2
    go_ret
    exact ⟨rfl, rfl⟩
  · go_enter Tryd.func32, Tryd.ntmps32
    go_wp2
    go_ret
    exact ⟨ret_bool (by simp), rfl⟩
theorem zepoch_ok (a : Int) (w : World) (h : Zx a) :
    Calls Tryd.prog 35 #[.int .i64 a] w fun e w' => e = .returned (.int .i64 (a / 2147483648)) ∧ w = w' := by
  have ha := h.1
  have ha' := h.2
  go_enter Tryd.func35, Tryd.ntmps35
  go_wp2_with (go_at_call 32; refine (zgood_yes _ _ h).mono ?_; rintro e w' ⟨rfl, rfl⟩)
  go_ret
  exact ⟨rfl, rfl⟩
theorem zepoch_no (a : Int) (w : World) (h : ¬ Zx a) :
    Calls Tryd.prog 35 #[.int .i64 a] w fun e w' => e = .returned (.int .i64 0) ∧ w = w' := by
  have H := Lib.hid h
  clear h
  go_enter Tryd.func35, Tryd.ntmps35
  go_wp2_with (go_at_call 32; refine (zgood_no _ _ H.out).mono ?_; rintro e w' ⟨rfl, rfl⟩)
  go_ret
  exact ⟨rfl, rfl⟩
theorem zcount_ok (a : Int) (w : World) (h : Zx a) :
    Calls Tryd.prog 36 #[.int .i64 a] w fun e w' => e = .returned (.int .i64 (a % 2147483648)) ∧ w = w' := by
  have ha := h.1
  have ha' := h.2
  go_enter Tryd.func36, Tryd.ntmps36
  go_wp2_with (go_at_call 32; refine (zgood_yes _ _ h).mono ?_; rintro e w' ⟨rfl, rfl⟩)
  go_ret
  exact ⟨ret_int (bits_mask a ha ha'), rfl⟩
theorem zcount_no (a : Int) (w : World) (h : ¬ Zx a) :
    Calls Tryd.prog 36 #[.int .i64 a] w fun e w' => e = .returned (.int .i64 0) ∧ w = w' := by
  have H := Lib.hid h
  clear h
  go_enter Tryd.func36, Tryd.ntmps36
  go_wp2_with (go_at_call 32; refine (zgood_no _ _ H.out).mono ?_; rintro e w' ⟨rfl, rfl⟩)
  go_ret
  exact ⟨rfl, rfl⟩
theorem numbers_any (w : World) :
    Calls Tryd.prog 31 #[] w fun e w' => e = .returned (.bool true) ∧ w = w' := by
  go_enter Tryd.func31, Tryd.ntmps31
  go_wp2_with (first | (go_at_call 34; refine (zmake_ok _ _ _ ⟨by omega, by omega⟩ ⟨by omega, by omega⟩).mono ?_; rintro e w' ⟨rfl, rfl⟩) | (go_at_call 32; refine (zgood_yes _ _ ⟨by omega, by omega⟩).mono ?_; rintro e w' ⟨rfl, rfl⟩))
  go_ret
  exact ⟨rfl, rfl⟩
end Go.Proofs.YtkogdnkifnhljaaDoor
