/- wire.Sum: the cyclic sum of 32 bits. -/
import Derived.Test.YtkogdnkifnhljaaDoorPathA
namespace Go.Proofs.YtkogdnkifnhljaaDoor
open Go.RowKit
def rnd (c : Nat) : Nat := if c % 2 = 1 then (c / 2) ^^^ 3988292384 else c / 2
def rndN : Nat → Nat → Nat
  | 0, c => c
  | n + 1, c => rnd (rndN n c)
def sumK (l : List UInt8) (c : Nat) : Nat := l.foldl (fun c b => rndN 8 (c ^^^ b.toNat)) c
def sumN (l : List UInt8) : Nat := 4294967295 - sumK l 4294967295
theorem xor_lt {a b : Nat} (ha : a < 4294967296) (hb : b < 4294967296) : a ^^^ b < 4294967296 := Nat.xor_lt_two_pow (n := 32) ha hb
theorem rnd_lt {c : Nat} (h : c < 4294967296) : rnd c < 4294967296 := by
  unfold rnd
  split
  · exact xor_lt (by omega) (by omega)
  · omega
theorem rndN_lt {c : Nat} (h : c < 4294967296) : ∀ n, rndN n c < 4294967296
  | 0 => h
  | n + 1 => rnd_lt (rndN_lt h n)
theorem sumK_lt : ∀ (l : List UInt8) {c : Nat}, c < 4294967296 → sumK l c < 4294967296
  | [], _, h => h
  | b :: r, c, h => by
    have hb : b.toNat < 256 := b.toNat_lt
    exact sumK_lt r (rndN_lt (xor_lt h (by omega)) 8)
theorem sumK_snoc (l : List UInt8) (b : UInt8) (c : Nat) : sumK (l ++ [b]) c = rndN 8 (sumK l c ^^^ b.toNat) := by unfold sumK; rw [List.foldl_append]; rfl
theorem bv32 (a : Nat) (ha : a < 4294967296) : (BitVec.ofInt 32 (a : Int)).toNat = a := by
  rw [BitVec.ofInt_natCast, BitVec.toNat_ofNat]
  exact Nat.mod_eq_of_lt (by omega)
theorem wrap32n (a : Nat) (h : a < 4294967296) : IntKind.u32.wrap (a : Int) = a := by
  unfold IntKind.wrap
  simp [IntKind.signed, IntKind.bits]
  omega
theorem bits_xor32 (a b : Nat) (ha : a < 4294967296) (hb : b < 4294967296) : bits .xor .u32 (a : Int) (b : Int) = ((a ^^^ b : Nat) : Int) := by
  show IntKind.u32.wrap ((BitVec.ofInt 32 (a : Int) ^^^ BitVec.ofInt 32 (b : Int)).toNat : Int) = _
  rw [BitVec.toNat_xor, bv32 a ha, bv32 b hb, wrap32n _ (xor_lt ha hb)]
theorem bits_and1 (a : Nat) (ha : a < 4294967296) : bits .and .u32 (a : Int) 1 = ((a % 2 : Nat) : Int) := by
  show IntKind.u32.wrap ((BitVec.ofInt 32 (a : Int) &&& BitVec.ofInt 32 ((1 : Nat) : Int)).toNat : Int) = _
  rw [BitVec.toNat_and, bv32 a ha, bv32 1 (by omega), Nat.and_one_is_mod, wrap32n _ (by omega)]
theorem bits_not32 (a : Nat) (ha : a < 4294967296) : bits .xor .u32 IntKind.u32.max (a : Int) = ((4294967295 - a : Nat) : Int) := by
  show IntKind.u32.wrap ((BitVec.ofInt 32 ((4294967295 : Nat) : Int) ^^^ BitVec.ofInt 32 (a : Int)).toNat : Int) = _
  have h1 : BitVec.ofInt 32 ((4294967295 : Nat) : Int) = BitVec.allOnes 32 := by decide
  rw [h1, BitVec.xor_comm, BitVec.xor_allOnes, BitVec.toNat_not, bv32 a ha, wrap32n _ (by omega)]
set_option maxHeartbeats 1000000 in
theorem sum_any (s : ByteArray) (w : World) (hs : s.size ≤ 9223372036854775807) :
    Calls Tryd.prog 44 #[.string s] w fun e w' => e = .returned (.int .i64 (sumN (bs s))) ∧ w = w' := by
  go_enter Tryd.func44, Tryd.ntmps44
  go_wp2
  go_loop [3, 4] (fun c i => ∃ k : Nat, k ≤ s.size ∧ c = .int .u32 (sumK ((bs s).take k) 4294967295 : Nat) ∧ i = .int .i64 k) (fun _ i => s.size - (intOf i).toNat)
  case atStart => exact ⟨0, Nat.zero_le _, rfl, rfl⟩
  case round =>
    obtain ⟨k, hk, rfl, rfl⟩ := hrel
    have hlt0 := sumK_lt ((bs s).take k) (c := 4294967295) (by omega)
    by_cases hlt : k < s.size
    · have hx : (bs s)[k]? = some (s[k]) := List.getElem?_eq_getElem (by rw [length_bs]; exact hlt)
      have htk : (bs s).take (k + 1) = (bs s).take k ++ [s[k]] := by rw [List.take_add_one, hx]; rfl
      have hsn := sumK_snoc ((bs s).take k) s[k] 4294967295
      rw [← htk] at hsn
      have hc : s[k].toNat < 256 := s[k].toNat_lt
      have hxb := bits_xor32 (sumK ((bs s).take k) 4294967295) s[k].toNat hlt0 (by omega)
      have hx2 : sumK ((bs s).take k) 4294967295 ^^^ s[k].toNat < 4294967296 := xor_lt hlt0 (by omega)
      have HSN := Lib.hid hsn
      generalize sumK ((bs s).take k) 4294967295 = c0 at *
      clear htk hsn hx
      go_wp2
      generalize c0 ^^^ s[k].toNat = y at *
      go_loop [3, 18] (fun c j => ∃ n : Nat, n ≤ 8 ∧ c = .int .u32 (rndN n y : Nat) ∧ j = .int .i64 n) (fun _ j => 8 - (intOf j).toNat)
      case atStart => exact ⟨0, by omega, rfl, rfl⟩
      case round =>
        obtain ⟨n, hn, rfl, rfl⟩ := hrel
        have hr := rndN_lt hx2 n
        by_cases h8 : n < 8
        · have hand := bits_and1 (rndN n y) hr
          have hrd : rndN (n + 1) y = rnd (rndN n y) := rfl
          have hh : rndN n y / 2 < 4294967296 := by omega
          have hxr : bits .xor .u32 ((rndN n y : Int) / 2) 3988292384 = ((rndN n y / 2 ^^^ 3988292384 : Nat) : Int) := bits_xor32 (rndN n y / 2) 3988292384 hh (by omega)
          have HRD := Lib.hid hrd
          generalize rndN n y = z at *
          clear hrd
          rcases Nat.mod_two_eq_zero_or_one z with h2 | h2
          · have hz : rnd z = z / 2 := by unfold rnd; rw [if_neg (by omega)]
            have HZ := Lib.hid hz
            clear hz
            rw [h2] at hand
            go_wp2
            exact ⟨⟨n + 1, by omega, by rw [HRD.out, HZ.out] <;> rfl, by go_num⟩, by simp [intOf]; omega⟩
          · have hz : rnd z = (z / 2) ^^^ 3988292384 := by unfold rnd; rw [if_pos h2]
            have HZ := Lib.hid hz
            clear hz
            rw [h2] at hand
            go_wp2
            exact ⟨⟨n + 1, by omega, by rw [HRD.out, HZ.out], by go_num⟩, by simp [intOf]; omega⟩
        · have hn8 : n = 8 := by omega
          subst hn8
          go_wp2
          go_round
          case rel => exact ⟨k + 1, by omega, by rw [HSN.out], by go_num⟩
          case measure => simp [intOf]; omega
    · have hk' : k = s.size := by omega
      subst hk'
      have hfull : (bs s).take s.size = bs s := List.take_of_length_le (by rw [length_bs]; exact Nat.le_refl _)
      rw [hfull] at hlt0 ⊢
      have HSU := Lib.hid (show sumN (bs s) = 4294967295 - sumK (bs s) 4294967295 from rfl)
      generalize sumK (bs s) 4294967295 = c0 at *
      have hnot := bits_not32 c0 hlt0
      have hw : wrap64 (((4294967295 - c0 : Nat) : Int)) = ((4294967295 - c0 : Nat) : Int) := by unfold wrap64; omega
      generalize hd : 4294967295 - c0 = d at *
      clear hfull hd
      go_wp2
      go_ret
      exact ⟨by rw [HSU.out]; rfl, rfl⟩
end Go.Proofs.YtkogdnkifnhljaaDoor
