/- Lemmas for the statement: Sum, Encode, Enc2, Small, Cursor, Number, DecP, WLaw, WLaw2, WLaw3, LastZ, ScanL, WalL. -/
import Derived.Deep.RegionHeld3
import Derived.Deep.Cut
import Derived.Lib.ConvBytes
import Derived.Test.YtkoemhdchoicaaaDoorPt1
import Derived.Test.YtkoemhdchoicaaaDoorPt2
import Derived.Test.YtkoemhdchoicaaaDoorPt3
import Derived.Test.YtkoemhdchoicaaaDoorPt4
/- wire.Sum: the cyclic sum of 32 bits. -/
namespace Go.Proofs.YtkoemhdchoicaaaDoor
open Go.RowKit
def rnd (c : Nat) : Nat := if c % 2 = 1 then (c / 2) ^^^ 3988292384 else c / 2
def rndN : Nat → Nat → Nat
  | 0, c => c
  | n + 1, c => rnd (rndN n c)
def sumK (l : List UInt8) (c : Nat) : Nat := l.foldl (fun c b => rndN 8 (c ^^^ b.toNat)) c
def sumN (l : List UInt8) : Nat := 4294967295 - sumK l 4294967295
theorem xor_lt {a b : Nat} (ha : a < 4294967296) (hb : b < 4294967296) : a ^^^ b < 4294967296 := Nat.xor_lt_two_pow (n := 32) ha hb
theorem rnd_lt {c : Nat} (h : c < 4294967296) : rnd c < 4294967296 := by
  unfold rnd
  split
  · exact xor_lt (by omega) (by omega)
  · omega
theorem rndN_lt {c : Nat} (h : c < 4294967296) : ∀ n, rndN n c < 4294967296
  | 0 => h
  | n + 1 => rnd_lt (rndN_lt h n)
theorem sumK_lt : ∀ (l : List UInt8) {c : Nat}, c < 4294967296 → sumK l c < 4294967296
  | [], _, h => h
  | b :: r, c, h => by
    have hb : b.toNat < 256 := b.toNat_lt
    exact sumK_lt r (rndN_lt (xor_lt h (by omega)) 8)
theorem sumK_snoc (l : List UInt8) (b : UInt8) (c : Nat) : sumK (l ++ [b]) c = rndN 8 (sumK l c ^^^ b.toNat) := by unfold sumK; rw [List.foldl_append]; rfl
theorem bv32 (a : Nat) (ha : a < 4294967296) : (BitVec.ofInt 32 (a : Int)).toNat = a := by
  rw [BitVec.ofInt_natCast, BitVec.toNat_ofNat]
  exact Nat.mod_eq_of_lt (by omega)
theorem wrap32n (a : Nat) (h : a < 4294967296) : IntKind.u32.wrap (a : Int) = a := by
  unfold IntKind.wrap
  simp [IntKind.signed, IntKind.bits]
  omega
theorem bits_xor32 (a b : Nat) (ha : a < 4294967296) (hb : b < 4294967296) : bits .xor .u32 (a : Int) (b : Int) = ((a ^^^ b : Nat) : Int) := by
  show IntKind.u32.wrap ((BitVec.ofInt 32 (a : Int) ^^^ BitVec.ofInt 32 (b : Int)).toNat : Int) = _
  rw [BitVec.toNat_xor, bv32 a ha, bv32 b hb, wrap32n _ (xor_lt ha hb)]
theorem bits_and1 (a : Nat) (ha : a < 4294967296) : bits .and .u32 (a : Int) 1 = ((a % 2 : Nat) : Int) := by
  show IntKind.u32.wrap ((BitVec.ofInt 32 (a : Int) &&& BitVec.ofInt 32 ((1 : Nat) : Int)).toNat : Int) = _
  rw [BitVec.toNat_and, bv32 a ha, bv32 1 (by omega), Nat.and_one_is_mod, wrap32n _ (by omega)]
theorem bits_not32 (a : Nat) (ha : a < 4294967296) : bits .xor .u32 IntKind.u32.max (a : Int) = ((4294967295 - a : Nat) : Int) := by
  show IntKind.u32.wrap ((BitVec.ofInt 32 ((4294967295 : Nat) : Int) ^^^ BitVec.ofInt 32 (a : Int)).toNat : Int) = _
  have h1 : BitVec.ofInt 32 ((4294967295 : Nat) : Int) = BitVec.allOnes 32 := by decide
  rw [h1, BitVec.xor_comm, BitVec.xor_allOnes, BitVec.toNat_not, bv32 a ha, wrap32n _ (by omega)]
set_option maxHeartbeats 1000000 in
theorem sum_any (s : ByteArray) (w : World) (hs : s.size ≤ 9223372036854775807) :
    Calls Tryd.prog 25 #[.string s] w fun e w' => e = .returned (.int .i64 (sumN (bs s))) ∧ w = w' := by
  go_enter Tryd.func25, Tryd.ntmps25
  go_wp2
  go_loop [3, 4] (fun c i => ∃ k : Nat, k ≤ s.size ∧ c = .int .u32 (sumK ((bs s).take k) 4294967295 : Nat) ∧ i = .int .i64 k) (fun _ i => s.size - (intOf i).toNat)
  case atStart => exact ⟨0, Nat.zero_le _, rfl, rfl⟩
  case round =>
    obtain ⟨k, hk, rfl, rfl⟩ := hrel
    have hlt0 := sumK_lt ((bs s).take k) (c := 4294967295) (by omega)
    by_cases hlt : k < s.size
    · have hx : (bs s)[k]? = some (s[k]) := List.getElem?_eq_getElem (by rw [length_bs]; exact hlt)
      have htk : (bs s).take (k + 1) = (bs s).take k ++ [s[k]] := by rw [List.take_add_one, hx]; rfl
      have hsn := sumK_snoc ((bs s).take k) s[k] 4294967295
      rw [← htk] at hsn
      have hc : s[k].toNat < 256 := s[k].toNat_lt
      have hxb := bits_xor32 (sumK ((bs s).take k) 4294967295) s[k].toNat hlt0 (by omega)
      have hx2 : sumK ((bs s).take k) 4294967295 ^^^ s[k].toNat < 4294967296 := xor_lt hlt0 (by omega)
      have HSN := Lib.hid hsn
      generalize sumK ((bs s).take k) 4294967295 = c0 at *
      clear htk hsn hx
      go_wp2
      generalize c0 ^^^ s[k].toNat = y at *
      go_loop [3, 18] (fun c j => ∃ n : Nat, n ≤ 8 ∧ c = .int .u32 (rndN n y : Nat) ∧ j = .int .i64 n) (fun _ j => 8 - (intOf j).toNat)
      case atStart => exact ⟨0, by omega, rfl, rfl⟩
      case round =>
        obtain ⟨n, hn, rfl, rfl⟩ := hrel
        have hr := rndN_lt hx2 n
        by_cases h8 : n < 8
        · have hand := bits_and1 (rndN n y) hr
          have hrd : rndN (n + 1) y = rnd (rndN n y) := rfl
          have hh : rndN n y / 2 < 4294967296 := by omega
          have hxr : bits .xor .u32 ((rndN n y : Int) / 2) 3988292384 = ((rndN n y / 2 ^^^ 3988292384 : Nat) : Int) := bits_xor32 (rndN n y / 2) 3988292384 hh (by omega)
          have HRD := Lib.hid hrd
          generalize rndN n y = z at *
          clear hrd
          rcases Nat.mod_two_eq_zero_or_one z with h2 | h2
          · have hz : rnd z = z / 2 := by unfold rnd; rw [if_neg (by omega)]
            have HZ := Lib.hid hz
            clear hz
            rw [h2] at hand
            go_wp2
            exact ⟨⟨n + 1, by omega, by rw [HRD.out, HZ.out] <;> rfl, by go_num⟩, by simp [intOf]; omega⟩
          · have hz : rnd z = (z / 2) ^^^ 3988292384 := by unfold rnd; rw [if_pos h2]
            have HZ := Lib.hid hz
            clear hz
            rw [h2] at hand
            go_wp2
            exact ⟨⟨n + 1, by omega, by rw [HRD.out, HZ.out], by go_num⟩, by simp [intOf]; omega⟩
        · have hn8 : n = 8 := by omega
          subst hn8
          go_wp2
          go_round
          case rel => exact ⟨k + 1, by omega, by rw [HSN.out], by go_num⟩
          case measure => simp [intOf]; omega
    · have hk' : k = s.size := by omega
      subst hk'
      have hfull : (bs s).take s.size = bs s := List.take_of_length_le (by rw [length_bs]; exact Nat.le_refl _)
      rw [hfull] at hlt0 ⊢
      have HSU := Lib.hid (show sumN (bs s) = 4294967295 - sumK (bs s) 4294967295 from rfl)
      generalize sumK (bs s) 4294967295 = c0 at *
      have hnot := bits_not32 c0 hlt0
      have hw : wrap64 (((4294967295 - c0 : Nat) : Int)) = ((4294967295 - c0 : Nat) : Int) := by unfold wrap64; omega
      generalize hd : 4294967295 - c0 = d at *
      clear hfull hd
      go_wp2
      go_ret
      exact ⟨by rw [HSU.out]; rfl, rfl⟩
end Go.Proofs.YtkoemhdchoicaaaDoor

/- wire.Encode: a transaction's bytes. -/
namespace Go.Proofs.YtkoemhdchoicaaaDoor
open Go.RowKit Go.ChangeShapes Go.WideShapes Go.ChangeAt
def headL (B : List UInt8) : List UInt8 := [84] ++ be 2 B.length ++ B
def recL (B : List UInt8) : List UInt8 := headL B ++ be 4 (sumN (headL B))
def bodyL (z o s v ow : Nat) (p d : List UInt8) : List UInt8 := be 8 z ++ [UInt8.ofNat o] ++ be 4 s ++ be 4 v ++ be 4 ow ++ [UInt8.ofNat p.length] ++ p ++ be 2 d.length ++ d
theorem bodyL_length (z o s v ow : Nat) (p d : List UInt8) : (bodyL z o s v ow p d).length = 24 + p.length + d.length := by
  simp [bodyL, be_length]
  omega
theorem sumN_lt (l : List UInt8) : sumN l < 4294967296 := by unfold sumN; omega
theorem str_snoc (S : ByteArray) (l : List UInt8) : S ++ (⟨l.toArray⟩ : ByteArray) = ⟨(bs S ++ l).toArray⟩ := by
  apply ByteArray.ext
  simp [bs]
set_option maxRecDepth 100000 in
set_option maxHeartbeats 600000 in
theorem encode_walk (z o s v ow : Nat) (p d : ByteArray) (w : World) (hg : goodT ⟨z, o, s, p, d, v, ow⟩ = 0) (hz : z < 4611686018427387904) (ho : o < 6) (hs : s < 2147483648) (hv : v < 2147483648) (how : ow < 2147483648) (hp : p.size ≤ 200) (hd : d.size ≤ 256) :
    Calls Tryd.prog 14 #[.agg #[.int .i64 z, .int .i64 o, .int .i64 s, .string p, .string d, .int .i64 v, .int .i64 ow]] w fun e w' => e = .returned (.tuple #[.string ⟨(recL (bodyL z o s v ow (bs p) (bs d))).toArray⟩, .int .i64 0]) ∧ Below w.heap.size w w' := by
  have HG := Lib.hid (fun w => tgood_any ⟨z, o, s, p, d, v, ow⟩ w (by show p.size ≤ _; omega))
  rw [hg] at HG
  clear hg
  go_enter Tryd.func14, Tryd.ntmps14
  go_wp2_with (first | (go_at_call 23; refine (HG.out _).mono ?_; rintro e w1 ⟨rfl, hb1⟩; obtain ⟨ext1, d1, rfl⟩ := Below.grown_eq _ hb1; clear hb1 HG) | (go_at_call 24; refine (put_any (World.alloc w _) _ [] z 8 _ (by exact (by repeat (first | exact Below.refl _ _ | assumption | refine Below.drew ?_ | refine Below.drewN' ?_ _ | refine below_grow0 _ _ ?_ | refine below_alloc0 _ ?_ | refine Below.alloc ?_ (by first | omega | (simp; done) | (simp; omega)) _ | refine Below.setCell ?_ (by first | omega | (simp; done) | (simp; omega)) _ | refine Below.grow _ _ _ ?_ (by first | omega | (simp; done) | (simp; omega))))) (by exact Ow.nil _ _ _ _ _) (by omega) (by omega) (by simp)).mono ?_; rintro e w1 ⟨A2, c2, rfl, ho2, hb2⟩; obtain ⟨ext2, d2, rfl⟩ := Below.grown_eq _ hb2; have HO2 := Lib.hid ho2; clear ho2 hb2))
  have e1 : (World.alloc w (.cells #[.int .i64 z, .int .i64 o, .int .i64 s, .string p, .string d, .int .i64 v, .int .i64 ow] 47)).cell? ⟨w.heap.size, 1, none⟩ = some (.int .i64 o) := by go_simp
  have e2 : (World.alloc w (.cells #[.int .i64 z, .int .i64 o, .int .i64 s, .string p, .string d, .int .i64 v, .int .i64 ow] 47)).cell? ⟨w.heap.size, 2, none⟩ = some (.int .i64 s) := by go_simp
  have e3 : (World.alloc w (.cells #[.int .i64 z, .int .i64 o, .int .i64 s, .string p, .string d, .int .i64 v, .int .i64 ow] 47)).cell? ⟨w.heap.size, 3, none⟩ = some (.string p) := by go_simp
  have e4 : (World.alloc w (.cells #[.int .i64 z, .int .i64 o, .int .i64 s, .string p, .string d, .int .i64 v, .int .i64 ow] 47)).cell? ⟨w.heap.size, 4, none⟩ = some (.string d) := by go_simp
  have e5 : (World.alloc w (.cells #[.int .i64 z, .int .i64 o, .int .i64 s, .string p, .string d, .int .i64 v, .int .i64 ow] 47)).cell? ⟨w.heap.size, 5, none⟩ = some (.int .i64 v) := by go_simp
  have e6 : (World.alloc w (.cells #[.int .i64 z, .int .i64 o, .int .i64 s, .string p, .string d, .int .i64 v, .int .i64 ow] 47)).cell? ⟨w.heap.size, 6, none⟩ = some (.int .i64 ow) := by go_simp
  have hB1 : Below w.heap.size w (World.alloc w (.cells #[.int .i64 z, .int .i64 o, .int .i64 s, .string p, .string d, .int .i64 v, .int .i64 ow] 47)) := (by repeat (first | exact Below.refl _ _ | assumption | refine Below.drew ?_ | refine Below.drewN' ?_ _ | refine below_grow0 _ _ ?_ | refine below_alloc0 _ ?_ | refine Below.alloc ?_ (by first | omega | (simp; done) | (simp; omega)) _ | refine Below.setCell ?_ (by first | omega | (simp; done) | (simp; omega)) _ | refine Below.grow _ _ _ ?_ (by first | omega | (simp; done) | (simp; omega))))
  have HB1 := Lib.hid hB1
  have HBW := Lib.hid hB1.size
  clear hB1
  generalize World.alloc w (.cells #[.int .i64 z, .int .i64 o, .int .i64 s, .string p, .string d, .int .i64 v, .int .i64 ow] 47) = W1 at *
  generalize hbw : w.heap.size = b at *
  have HBE := Lib.hid hbw
  clear hbw
  rw [List.nil_append] at *
  have HLZ := Lib.hid (be_length 8 z)
  have HL2 := Lib.hid (show (be 8 z).length = 8 from be_length 8 z)
  generalize hL2 : be 8 z = L2 at *
  have HE2 := Lib.hid hL2
  clear hL2
  have HB0 := Lib.hid (show [Value.int .u8 ((o : Int) % 256)] = cByte (UInt8.ofNat o) from by simp [cByte])
  have HB1' := Lib.hid (show [Value.int .u8 ((p.size : Int) % 256)] = cByte (UInt8.ofNat p.size) from by simp [cByte])
  have P4 := Lib.hid (put_any W1)
  have P5 := Lib.hid (put_any W1)
  have P6 := Lib.hid (put_any W1)
  have P9 := Lib.hid (put_any W1)
  have P11 := Lib.hid (put_any W1)
  have P13 := Lib.hid (put_any W1)
  go_region_held3 (fun w' => w'.cell? ⟨b, 1, none⟩ = some (.int .i64 o) ∧ w'.cell? ⟨b, 2, none⟩ = some (.int .i64 s)) ((refine ⟨?_, ?_⟩ <;> go_simp)) (first | (refine step_app _ rfl (.tmp 16) (.tmp 20) _ rfl elByte (B := W1.heap.size) (v := .slice A2 L2.length c2) (l := L2) (m := [UInt8.ofNat o]) rfl rfl (by exact (HO2.out.below (by repeat (first | exact Below.refl _ _ | exact below_regrow _ _ _ _ | assumption | refine Below.drew ?_ | refine Below.drewN' ?_ _ | refine below_grow0 _ _ ?_ | refine below_alloc0 _ ?_ | refine Below.alloc ?_ (by first | omega | (simp; done) | (simp; omega)) _ | refine Below.setCell ?_ (by first | omega | (simp; done) | (simp; omega)) _ | refine Below.grow _ _ _ ?_ (by first | omega | (simp; done) | (simp; omega)))))) (by exact Sl.one_at cByte 1 _ _ _ rfl _ (by exact HB0.out) (by omega) (by simp)) cByte_ones (by simp [HL2.out, maxLen] <;> omega) (by simp [HL2.out] <;> omega) (by simp <;> omega) ?_; intro v3 w3 hown3 hg3 _; obtain ⟨A3, c3, rfl, _⟩ := hown3.form; obtain ⟨ext3, d3, rfl⟩ := grown_after (W := W1) (by repeat (first | exact Below.refl _ _ | exact below_regrow _ _ _ _ | assumption | refine Below.drew ?_ | refine Below.drewN' ?_ _ | refine below_grow0 _ _ ?_ | refine below_alloc0 _ ?_ | refine Below.alloc ?_ (by first | omega | (simp; done) | (simp; omega)) _ | refine Below.setCell ?_ (by first | omega | (simp; done) | (simp; omega)) _ | refine Below.grow _ _ _ ?_ (by first | omega | (simp; done) | (simp; omega)))) hg3 (fun k hk => (HO2.out.own_in hk).1); have HO3 := Lib.hid hown3; clear hown3 hg3; have HL3 := Lib.hid (show (L2 ++ [UInt8.ofNat o]).length = 9 by simp [HL2.out]); generalize hE3 : L2 ++ [UInt8.ofNat o] = L3 at *; have HE3 := Lib.hid hE3; clear hE3) | (go_at_call 24; (refine (P4.out _ L3 s 4 _ (by exact (by repeat (first | exact Below.refl _ _ | exact below_regrow _ _ _ _ | assumption | refine Below.drew ?_ | refine Below.drewN' ?_ _ | refine below_grow0 _ _ ?_ | refine below_alloc0 _ ?_ | refine Below.alloc ?_ (by first | omega | (simp; done) | (simp; omega)) _ | refine Below.setCell ?_ (by first | omega | (simp; done) | (simp; omega)) _ | refine Below.grow _ _ _ ?_ (by first | omega | (simp; done) | (simp; omega))))) (by exact HO3.out.below (by repeat (first | exact Below.refl _ _ | exact below_regrow _ _ _ _ | assumption | refine Below.drew ?_ | refine Below.drewN' ?_ _ | refine below_grow0 _ _ ?_ | refine below_alloc0 _ ?_ | refine Below.alloc ?_ (by first | omega | (simp; done) | (simp; omega)) _ | refine Below.setCell ?_ (by first | omega | (simp; done) | (simp; omega)) _ | refine Below.grow _ _ _ ?_ (by first | omega | (simp; done) | (simp; omega))))) (by omega) (by omega) (by rw [HL3.out]; omega)).mono ?_); rintro e w4 ⟨A4, c4, rfl, ho4, hb4⟩; obtain ⟨ext4, d4, rfl⟩ := Below.grown_eq _ hb4; have HO4 := Lib.hid ho4; clear ho4 hb4 P4; have HL4 := Lib.hid (show (L3 ++ be 4 s).length = 13 by rw [List.length_append, HL3.out, be_length] <;> omega); generalize hE4 : L3 ++ be 4 s = L4 at *; have HE4 := Lib.hid hE4; clear hE4))
  go_wp2_with fail
  go_region_held3 (fun w' => w'.cell? ⟨b, 5, none⟩ = some (.int .i64 v) ∧ w'.cell? ⟨b, 6, none⟩ = some (.int .i64 ow)) ((refine ⟨?_, ?_⟩ <;> go_simp)) (first | (go_at_call 24; (refine (P5.out _ L4 v 4 _ (by exact (by repeat (first | exact Below.refl _ _ | exact below_regrow _ _ _ _ | assumption | refine Below.drew ?_ | refine Below.drewN' ?_ _ | refine below_grow0 _ _ ?_ | refine below_alloc0 _ ?_ | refine Below.alloc ?_ (by first | omega | (simp; done) | (simp; omega)) _ | refine Below.setCell ?_ (by first | omega | (simp; done) | (simp; omega)) _ | refine Below.grow _ _ _ ?_ (by first | omega | (simp; done) | (simp; omega))))) (by exact HO4.out.below (by repeat (first | exact Below.refl _ _ | exact below_regrow _ _ _ _ | assumption | refine Below.drew ?_ | refine Below.drewN' ?_ _ | refine below_grow0 _ _ ?_ | refine below_alloc0 _ ?_ | refine Below.alloc ?_ (by first | omega | (simp; done) | (simp; omega)) _ | refine Below.setCell ?_ (by first | omega | (simp; done) | (simp; omega)) _ | refine Below.grow _ _ _ ?_ (by first | omega | (simp; done) | (simp; omega))))) (by omega) (by omega) (by rw [HL4.out]; omega)).mono ?_); rintro e w5 ⟨A5, c5, rfl, ho5, hb5⟩; obtain ⟨ext5, d5, rfl⟩ := Below.grown_eq _ hb5; have HO5 := Lib.hid ho5; clear ho5 hb5 P5; have HL5 := Lib.hid (show (L4 ++ be 4 v).length = 17 by rw [List.length_append, HL4.out, be_length] <;> omega); generalize hE5 : L4 ++ be 4 v = L5 at *; have HE5 := Lib.hid hE5; clear hE5) | (go_at_call 24; (refine (P6.out _ L5 ow 4 _ (by exact (by repeat (first | exact Below.refl _ _ | exact below_regrow _ _ _ _ | assumption | refine Below.drew ?_ | refine Below.drewN' ?_ _ | refine below_grow0 _ _ ?_ | refine below_alloc0 _ ?_ | refine Below.alloc ?_ (by first | omega | (simp; done) | (simp; omega)) _ | refine Below.setCell ?_ (by first | omega | (simp; done) | (simp; omega)) _ | refine Below.grow _ _ _ ?_ (by first | omega | (simp; done) | (simp; omega))))) (by exact HO5.out.below (by repeat (first | exact Below.refl _ _ | exact below_regrow _ _ _ _ | assumption | refine Below.drew ?_ | refine Below.drewN' ?_ _ | refine below_grow0 _ _ ?_ | refine below_alloc0 _ ?_ | refine Below.alloc ?_ (by first | omega | (simp; done) | (simp; omega)) _ | refine Below.setCell ?_ (by first | omega | (simp; done) | (simp; omega)) _ | refine Below.grow _ _ _ ?_ (by first | omega | (simp; done) | (simp; omega))))) (by omega) (by omega) (by rw [HL5.out]; omega)).mono ?_); rintro e w6 ⟨A6, c6, rfl, ho6, hb6⟩; obtain ⟨ext6, d6, rfl⟩ := Below.grown_eq _ hb6; have HO6 := Lib.hid ho6; clear ho6 hb6 P6; have HL6 := Lib.hid (show (L5 ++ be 4 ow).length = 21 by rw [List.length_append, HL5.out, be_length] <;> omega); generalize hE6 : L5 ++ be 4 ow = L6 at *; have HE6 := Lib.hid hE6; clear hE6))
  go_upto_region 7 with (fail)
  go_region_held3 (fun w' => w'.cell? ⟨b, 3, none⟩ = some (.string p)) (go_simp) (first | (refine step_app _ rfl (.tmp 32) (.tmp 37) _ rfl elByte (B := W1.heap.size) (v := .slice A6 L6.length c6) (l := L6) (m := [UInt8.ofNat p.size]) rfl rfl (by exact (HO6.out.below (by repeat (first | exact Below.refl _ _ | exact below_regrow _ _ _ _ | assumption | refine Below.drew ?_ | refine Below.drewN' ?_ _ | refine below_grow0 _ _ ?_ | refine below_alloc0 _ ?_ | refine Below.alloc ?_ (by first | omega | (simp; done) | (simp; omega)) _ | refine Below.setCell ?_ (by first | omega | (simp; done) | (simp; omega)) _ | refine Below.grow _ _ _ ?_ (by first | omega | (simp; done) | (simp; omega)))))) (by exact Sl.one_at cByte 1 _ _ _ rfl _ (by exact HB1'.out) (by omega) (by simp)) cByte_ones (by simp [HL6.out, maxLen] <;> omega) (by simp [HL6.out] <;> omega) (by simp <;> omega) ?_; intro v7 w7 hown7 hg7 _; obtain ⟨A7, c7, rfl, _⟩ := hown7.form; obtain ⟨ext7, d7, rfl⟩ := grown_after (W := W1) (by repeat (first | exact Below.refl _ _ | exact below_regrow _ _ _ _ | assumption | refine Below.drew ?_ | refine Below.drewN' ?_ _ | refine below_grow0 _ _ ?_ | refine below_alloc0 _ ?_ | refine Below.alloc ?_ (by first | omega | (simp; done) | (simp; omega)) _ | refine Below.setCell ?_ (by first | omega | (simp; done) | (simp; omega)) _ | refine Below.grow _ _ _ ?_ (by first | omega | (simp; done) | (simp; omega)))) hg7 (fun k hk => (HO6.out.own_in hk).1); have HO7 := Lib.hid hown7; clear hown7 hg7; have HL7 := Lib.hid (show (L6 ++ [UInt8.ofNat p.size]).length = 22 by simp [HL6.out]); generalize hE7 : L6 ++ [UInt8.ofNat p.size] = L7 at *; have HE7 := Lib.hid hE7; clear hE7) | (refine step_apps _ rfl (.tmp 38) (.tmp 40) _ _ rfl elByte rfl Tryd.underlying9 (B := W1.heap.size) (v := .slice A7 L7.length c7) (l := L7) p rfl rfl (by exact (HO7.out.below (by repeat (first | exact Below.refl _ _ | exact below_regrow _ _ _ _ | assumption | refine Below.drew ?_ | refine Below.drewN' ?_ _ | refine below_grow0 _ _ ?_ | refine below_alloc0 _ ?_ | refine Below.alloc ?_ (by first | omega | (simp; done) | (simp; omega)) _ | refine Below.setCell ?_ (by first | omega | (simp; done) | (simp; omega)) _ | refine Below.grow _ _ _ ?_ (by first | omega | (simp; done) | (simp; omega)))))) (by simp [HL7.out, maxLen] <;> omega) (by simp [HL7.out] <;> omega) (by simp <;> omega) ?_; intro v8 w8 hown8 hg8; obtain ⟨A8, c8, rfl, _⟩ := hown8.form; obtain ⟨ext8, d8, rfl⟩ := grown_after (W := W1) (by repeat (first | exact Below.refl _ _ | exact below_regrow _ _ _ _ | assumption | refine Below.drew ?_ | refine Below.drewN' ?_ _ | refine below_grow0 _ _ ?_ | refine below_alloc0 _ ?_ | refine Below.alloc ?_ (by first | omega | (simp; done) | (simp; omega)) _ | refine Below.setCell ?_ (by first | omega | (simp; done) | (simp; omega)) _ | refine Below.grow _ _ _ ?_ (by first | omega | (simp; done) | (simp; omega)))) hg8 (fun k hk => (HO7.out.own_in hk).1); have HO8 := Lib.hid hown8; clear hown8 hg8; have HL8 := Lib.hid (show (L7 ++ bs p).length = 22 + p.size by rw [List.length_append, HL7.out, length_bs] <;> omega); generalize hE8 : L7 ++ bs p = L8 at *; have HE8 := Lib.hid hE8; clear hE8))
  go_upto_region 8 with (fail)
  go_region_held3 (fun w' => w'.cell? ⟨b, 4, none⟩ = some (.string d)) (go_simp) (first | (go_at_call 24; (refine (P9.out _ L8 d.size 2 _ (by exact (by repeat (first | exact Below.refl _ _ | exact below_regrow _ _ _ _ | assumption | refine Below.drew ?_ | refine Below.drewN' ?_ _ | refine below_grow0 _ _ ?_ | refine below_alloc0 _ ?_ | refine Below.alloc ?_ (by first | omega | (simp; done) | (simp; omega)) _ | refine Below.setCell ?_ (by first | omega | (simp; done) | (simp; omega)) _ | refine Below.grow _ _ _ ?_ (by first | omega | (simp; done) | (simp; omega))))) (by exact HO8.out.below (by repeat (first | exact Below.refl _ _ | exact below_regrow _ _ _ _ | assumption | refine Below.drew ?_ | refine Below.drewN' ?_ _ | refine below_grow0 _ _ ?_ | refine below_alloc0 _ ?_ | refine Below.alloc ?_ (by first | omega | (simp; done) | (simp; omega)) _ | refine Below.setCell ?_ (by first | omega | (simp; done) | (simp; omega)) _ | refine Below.grow _ _ _ ?_ (by first | omega | (simp; done) | (simp; omega))))) (by omega) (by omega) (by rw [HL8.out]; omega)).mono ?_); rintro e w9 ⟨A9, c9, rfl, ho9, hb9⟩; obtain ⟨ext9, d9, rfl⟩ := Below.grown_eq _ hb9; have HO9 := Lib.hid ho9; clear ho9 hb9 P9; have HL9 := Lib.hid (show (L8 ++ be 2 d.size).length = 24 + p.size by rw [List.length_append, HL8.out, be_length] <;> omega); generalize hE9 : L8 ++ be 2 d.size = L9 at *; have HE9 := Lib.hid hE9; clear hE9) | (refine step_apps _ rfl (.tmp 46) (.tmp 48) _ _ rfl elByte rfl Tryd.underlying9 (B := W1.heap.size) (v := .slice A9 L9.length c9) (l := L9) d rfl rfl (by exact (HO9.out.below (by repeat (first | exact Below.refl _ _ | exact below_regrow _ _ _ _ | assumption | refine Below.drew ?_ | refine Below.drewN' ?_ _ | refine below_grow0 _ _ ?_ | refine below_alloc0 _ ?_ | refine Below.alloc ?_ (by first | omega | (simp; done) | (simp; omega)) _ | refine Below.setCell ?_ (by first | omega | (simp; done) | (simp; omega)) _ | refine Below.grow _ _ _ ?_ (by first | omega | (simp; done) | (simp; omega)))))) (by simp [HL9.out, maxLen] <;> omega) (by simp [HL9.out] <;> omega) (by simp <;> omega) ?_; intro v10 w10 hown10 hg10; obtain ⟨A10, c10, rfl, _⟩ := hown10.form; obtain ⟨ext10, d10, rfl⟩ := grown_after (W := W1) (by repeat (first | exact Below.refl _ _ | exact below_regrow _ _ _ _ | assumption | refine Below.drew ?_ | refine Below.drewN' ?_ _ | refine below_grow0 _ _ ?_ | refine below_alloc0 _ ?_ | refine Below.alloc ?_ (by first | omega | (simp; done) | (simp; omega)) _ | refine Below.setCell ?_ (by first | omega | (simp; done) | (simp; omega)) _ | refine Below.grow _ _ _ ?_ (by first | omega | (simp; done) | (simp; omega)))) hg10 (fun k hk => (HO9.out.own_in hk).1); have HO10 := Lib.hid hown10; clear hown10 hg10; have HL10 := Lib.hid (show (L9 ++ bs d).length = 24 + p.size + d.size by rw [List.length_append, HL9.out, length_bs] <;> omega); generalize hE10 : L9 ++ bs d = L10 at *; have HE10 := Lib.hid hE10; clear hE10))
  have P11 := Lib.hid (put_any (grow W1 ext10 d10))
  have HSUM := Lib.hid (fun (s : ByteArray) (w : World) (h : s.size ≤ 9223372036854775807) => show Calls Tryd.prog 25 #[.string s] w fun e w' => ∃ n : Nat, e = .returned (.int .i64 n) ∧ n < 4294967296 ∧ Hid (sumN (bs s) = n) ∧ w = w' from (sum_any s w h).mono fun e w' h => ⟨_, h.1, sumN_lt _, Lib.hid rfl, h.2⟩)
  go_upto_region 11 with (first | (go_at_call 24; (refine (P11.out _ [84] L10.length 2 _ (by exact (by repeat (first | exact Below.refl _ _ | exact below_regrow _ _ _ _ | assumption | refine Below.drew ?_ | refine Below.drewN' ?_ _ | refine below_grow0 _ _ ?_ | refine below_alloc0 _ ?_ | refine Below.alloc ?_ (by first | omega | (simp; done) | (simp; omega)) _ | refine Below.setCell ?_ (by first | omega | (simp; done) | (simp; omega)) _ | refine Below.grow _ _ _ ?_ (by first | omega | (simp; done) | (simp; omega))))) (by exact ow_lit1 _ _ _ (by simp) (by simp)) (by rw [HL10.out]; omega) (by omega) (by simp)).mono ?_); rintro e w11 ⟨A11, c11, rfl, ho11, hb11⟩; have HO10b := Lib.hid (HO10.out.below (Below.own (by repeat (first | exact Below.refl _ _ | exact below_regrow _ _ _ _ | assumption | refine Below.drew ?_ | refine Below.drewN' ?_ _ | refine below_grow0 _ _ ?_ | refine below_alloc0 _ ?_ | refine Below.alloc ?_ (by first | omega | (simp; done) | (simp; omega)) _ | refine Below.setCell ?_ (by first | omega | (simp; done) | (simp; omega)) _ | refine Below.grow _ _ _ ?_ (by first | omega | (simp; done) | (simp; omega)))) hb11)); obtain ⟨ext11, d11, rfl⟩ := Below.grown_eq (grow W1 ext10 d10) hb11; have HO11 := Lib.hid ho11; clear ho11 hb11 P11; have HL11 := Lib.hid (show ([84] ++ be 2 L10.length).length = 3 by simp [be_length]); generalize hE11 : [84] ++ be 2 L10.length = L11 at *; have HE11 := Lib.hid hE11; clear hE11) | (at_builtin; go_must (refine wpList_app _ rfl (.tmp 54) (.tmp 55) _ rfl elByte (B := (grow W1 ext10 d10).heap.size) (v := .slice A11 L11.length c11) (l := L11) (m := L10) rfl rfl (by exact (HO11.out.below (by repeat (first | exact Below.refl _ _ | exact below_regrow _ _ _ _ | assumption | refine Below.drew ?_ | refine Below.drewN' ?_ _ | refine below_grow0 _ _ ?_ | refine below_alloc0 _ ?_ | refine Below.alloc ?_ (by first | omega | (simp; done) | (simp; omega)) _ | refine Below.setCell ?_ (by first | omega | (simp; done) | (simp; omega)) _ | refine Below.grow _ _ _ ?_ (by first | omega | (simp; done) | (simp; omega)))))) (by exact (HO10b.out.below (by repeat (first | exact Below.refl _ _ | exact below_regrow _ _ _ _ | assumption | refine Below.drew ?_ | refine Below.drewN' ?_ _ | refine below_grow0 _ _ ?_ | refine below_alloc0 _ ?_ | refine Below.alloc ?_ (by first | omega | (simp; done) | (simp; omega)) _ | refine Below.setCell ?_ (by first | omega | (simp; done) | (simp; omega)) _ | refine Below.grow _ _ _ ?_ (by first | omega | (simp; done) | (simp; omega))))).sl) cByte_ones (by simp [HL11.out, HL10.out, maxLen] <;> omega) (by simp [HL11.out, HL10.out] <;> omega) (by simp <;> omega) ?_); intro v12 w12 hown12 hg12 _; obtain ⟨A12, c12, rfl, _⟩ := hown12.form; obtain ⟨ext12, d12, rfl⟩ := grown_after (W := W1) (by repeat (first | exact Below.refl _ _ | exact below_regrow _ _ _ _ | assumption | refine Below.drew ?_ | refine Below.drewN' ?_ _ | refine below_grow0 _ _ ?_ | refine below_alloc0 _ ?_ | refine Below.alloc ?_ (by first | omega | (simp; done) | (simp; omega)) _ | refine Below.setCell ?_ (by first | omega | (simp; done) | (simp; omega)) _ | refine Below.grow _ _ _ ?_ (by first | omega | (simp; done) | (simp; omega)))) hg12 (fun k hk => Nat.le_trans (by simp) (HO11.out.own_in hk).1); have HO12 := Lib.hid hown12; clear hown12 hg12; have HL12 := Lib.hid (show (L11 ++ L10).length = 27 + p.size + d.size by rw [List.length_append, HL11.out, HL10.out]; omega); generalize hE12 : L11 ++ L10 = L12 at *; have HE12 := Lib.hid hE12; clear hE12; have hrow12 := run_row_text (P := Tryd.prog) (src := 63) (dst := 9) (HO12.out) Tryd.underlying63 Tryd.underlying5 Tryd.underlying9))
  have HB2 := Lib.hid (show Below b w (grow W1 ext12 d12) from HB1.out.trans (Below.mono (show Below W1.heap.size W1 (grow W1 ext12 d12) from (by repeat (first | exact Below.refl _ _ | assumption | refine Below.drew ?_ | refine Below.drewN' ?_ _ | refine below_grow0 _ _ ?_ | refine below_alloc0 _ ?_ | refine Below.alloc ?_ (by first | omega | (simp; done) | (simp; omega)) _ | refine Below.setCell ?_ (by first | omega | (simp; done) | (simp; omega)) _ | refine Below.grow _ _ _ ?_ (by first | omega | (simp; done) | (simp; omega))))) HBW.out))
  have HS12 := Lib.hid (show (⟨L12.toArray⟩ : ByteArray).size = 27 + p.size + d.size by show L12.toArray.size = _; rw [List.size_toArray, HL12.out])
  have HT12 := Lib.hid (show bs (⟨L12.toArray⟩ : ByteArray) = L12 from rfl)
  have HW2 := Lib.hid (show W1.heap.size ≤ (grow W1 ext12 d12).heap.size by simp)
  clear HO2 HO3 HO4 HO5 HO6 HO7 HO8 HO9 HO10 HO10b HO11 HO12 hrow12 HB0 HB1' P13 HB1 e1 e2 e3 e4 e5 e6
  generalize grow W1 ext12 d12 = W2 at *
  generalize (⟨L12.toArray⟩ : ByteArray) = S12 at *
  have P13 := Lib.hid (put_any W2)
  go_wp2_with (first | (go_at_call 25; go_must (refine (HSUM.out S12 _ (by rw [HS12.out]; omega)).mono ?_); rintro e w13 ⟨sm, rfl, hsm, HSM, rfl⟩) | (go_at_call 24; (refine (P13.out _ [] (sm) 4 _ (by exact (by repeat (first | exact Below.refl _ _ | exact below_regrow _ _ _ _ | assumption | refine Below.drew ?_ | refine Below.drewN' ?_ _ | refine below_grow0 _ _ ?_ | refine below_alloc0 _ ?_ | refine Below.alloc ?_ (by first | omega | (simp; done) | (simp; omega)) _ | refine Below.setCell ?_ (by first | omega | (simp; done) | (simp; omega)) _ | refine Below.grow _ _ _ ?_ (by first | omega | (simp; done) | (simp; omega))))) (by exact Ow.nil _ _ _ _ _) (by omega) (by omega) (by simp)).mono ?_); rintro e w14 ⟨A13, c13, rfl, ho13, hb13⟩; obtain ⟨ext13, d13, rfl⟩ := Below.grown_eq _ hb13; rw [List.nil_append] at ho13; have HO13 := Lib.hid ho13; clear ho13 hb13 P13; have HL13 := Lib.hid (show (be 4 (sm)).length = 4 by exact be_length _ _); generalize hE13 : be 4 (sm) = L13 at *; have HE13 := Lib.hid hE13; clear hE13; have hrow13 := run_row_text (P := Tryd.prog) (src := 63) (dst := 9) (HO13.out) Tryd.underlying63 Tryd.underlying5 Tryd.underlying9; have hS13 : (⟨L13.toArray⟩ : ByteArray).size = 4 := (show L13.toArray.size = 4 by rw [List.size_toArray, HL13.out]); have hS12 : S12.size = 27 + p.size + d.size := HS12.out))
  go_ret2
  refine ⟨?_, ?_⟩
  · have h10 : L10 = bodyL z o s v ow (bs p) (bs d) := by
      rw [← HE10.out, ← HE9.out, ← HE8.out, ← HE7.out, ← HE6.out, ← HE5.out, ← HE4.out, ← HE3.out, ← HE2.out]
      unfold bodyL
      rw [length_bs, length_bs]
    have h12 : L12 = headL (bodyL z o s v ow (bs p) (bs d)) := by
      rw [← HE12.out, ← HE11.out, h10]; rfl
    have e : S12 ++ (⟨L13.toArray⟩ : ByteArray) = ⟨(recL (bodyL z o s v ow (bs p) (bs d))).toArray⟩ := by
      rw [str_snoc, HT12.out, ← HE13.out, ← HSM.out, HT12.out, h12]; rfl
    rw [← e]
    rfl
  · rw [HBE.out]
    exact HB2.out.trans (Below.mono (show Below W2.heap.size W2 _ from (by repeat (first | exact Below.refl _ _ | assumption | refine Below.drew ?_ | refine Below.drewN' ?_ _ | refine below_grow0 _ _ ?_ | refine below_alloc0 _ ?_ | refine Below.alloc ?_ (by first | omega | (simp; done) | (simp; omega)) _ | refine Below.setCell ?_ (by first | omega | (simp; done) | (simp; omega)) _ | refine Below.grow _ _ _ ?_ (by first | omega | (simp; done) | (simp; omega))))) (Nat.le_trans HBW.out HW2.out))
end Go.Proofs.YtkoemhdchoicaaaDoor

/- wire.Encode: the contract for every transaction. -/
namespace Go.Proofs.YtkoemhdchoicaaaDoor
open Go.RowKit Go.ChangeShapes Go.WideShapes Go.ChangeAt
abbrev vTxn (t : Txn) : Value := .agg #[.int .i64 t.zxid, .int .i64 t.op, .int .i64 t.session, .string t.path, .string t.data, .int .i64 t.version, .int .i64 t.owner]
/-- a good transaction's record -/
def recT (t : Txn) : List UInt8 := recL (bodyL t.zxid.toNat t.op.toNat t.session.toNat t.version.toNat t.owner.toNat (bs t.path) (bs t.data))
def encR (t : Txn) : ByteArray := if goodT t = 0 then ⟨(recT t).toArray⟩ else ⟨#[]⟩
structure GoodF (t : Txn) : Prop where
  z0 : 0 ≤ t.zxid
  z1 : t.zxid < 4611686018427387904
  o0 : 1 ≤ t.op
  o1 : t.op ≤ 5
  s0 : 1 ≤ t.session
  s1 : t.session ≤ 2147483647
  v0 : 0 ≤ t.version
  v1 : t.version ≤ 2147483647
  w0 : 0 ≤ t.owner
  w1 : t.owner ≤ 2147483647
  d1 : t.data.size ≤ 256
  p1 : t.path.size ≤ 200
theorem goodT_facts (t : Txn) (h : goodT t = 0) : GoodF t := by
  unfold goodT at h
  split at h
  · exact absurd h (by decide)
  rename_i a1
  split at h
  · exact absurd h (by decide)
  rename_i a2
  split at h
  · exact absurd h (by decide)
  rename_i a3
  split at h
  · exact absurd h (by decide)
  rename_i a4
  split at h
  · exact absurd h (by decide)
  rename_i a5
  clear h
  refine ⟨by omega, by omega, by omega, by omega, by omega, by omega, by omega, by omega, by omega, by omega, by omega, ?_⟩
  by_cases h2 : t.op ≤ 2
  · have h3 : t.path.toList = [] := by
      rcases Classical.em (t.path.toList = []) with e | e
      · exact e
      · exact absurd ⟨h2, .inl e⟩ a4
    rw [ByteArray.toList_eq] at h3
    have h4 := length_bs t.path
    unfold bs at h4
    rw [h3] at h4
    simp at h4
    omega
  · have h3 : goodP t.path = true := by
      cases e : goodP t.path with
      | true => rfl
      | false => exact absurd ⟨by omega, .inl e⟩ a5
    exact (goodP_size h3).2
set_option maxHeartbeats 600000 in
theorem encode_no (t : Txn) (w : World) (hp : t.path.size ≤ 9223372036854775807) (hg : goodT t ≠ 0) :
    Calls Tryd.prog 14 #[vTxn t] w fun e w' => e = .returned (.tuple #[.string ⟨#[]⟩, .int .i64 (goodT t)]) ∧ Below w.heap.size w w' := by
  have HG := Lib.hid (fun w => tgood_any t w hp)
  have hne : (goodT t != 0) = true := bne_iff_ne.2 hg
  generalize goodT t = g at *
  clear hg
  obtain ⟨z, o, s, p, d, v, ow⟩ := t
  dsimp only at *
  go_enter Tryd.func14, Tryd.ntmps14
  go_wp2_with (go_at_call 23; refine (HG.out _).mono ?_; rintro e w1 ⟨rfl, hb1⟩; obtain ⟨ext1, d1, rfl⟩ := Below.grown_eq _ hb1; clear hb1 HG)
  go_ret2
  exact ⟨rfl, (by repeat (first | exact Below.refl _ _ | assumption | refine Below.drew ?_ | refine Below.drewN' ?_ _ | refine below_grow0 _ _ ?_ | refine below_alloc0 _ ?_ | refine Below.alloc ?_ (by first | omega | (simp; done) | (simp; omega)) _ | refine Below.setCell ?_ (by first | omega | (simp; done) | (simp; omega)) _ | refine Below.grow _ _ _ ?_ (by first | omega | (simp; done) | (simp; omega))))⟩
theorem encode_any (t : Txn) (w : World) (hp : t.path.size ≤ 9223372036854775807) :
    Calls Tryd.prog 14 #[vTxn t] w fun e w' => e = .returned (.tuple #[.string (encR t), .int .i64 (goodT t)]) ∧ Below w.heap.size w w' := by
  by_cases hg : goodT t = 0
  · obtain ⟨z0, z1, o0, o1, s0, s1, v0, v1, w0, w1, d1, p1⟩ := goodT_facts t hg
    have e : encR t = ⟨(recT t).toArray⟩ := if_pos hg
    rw [e, hg]
    unfold recT vTxn
    obtain ⟨z, o, s, p, d, v, ow⟩ := t
    dsimp only at *
    obtain ⟨z, rfl⟩ := Int.eq_ofNat_of_zero_le z0
    obtain ⟨o, rfl⟩ := Int.eq_ofNat_of_zero_le (show 0 ≤ o by omega)
    obtain ⟨s, rfl⟩ := Int.eq_ofNat_of_zero_le (show 0 ≤ s by omega)
    obtain ⟨v, rfl⟩ := Int.eq_ofNat_of_zero_le v0
    obtain ⟨ow, rfl⟩ := Int.eq_ofNat_of_zero_le w0
    exact encode_walk z o s v ow p d w hg (by omega) (by omega) (by omega) (by omega) (by omega) p1 d1
  · have e : encR t = ⟨#[]⟩ := if_neg hg
    rw [e]
    exact encode_no t w hp hg
end Go.Proofs.YtkoemhdchoicaaaDoor

/- zxid.small: a number of at most ten digits, without noughts ahead. -/
namespace Go.Proofs.YtkoemhdchoicaaaDoor
open Go.RowKit
def digit (c : UInt8) : Bool := decide (48 ≤ c.toNat ∧ c.toNat ≤ 57)
def valD (l : List UInt8) : Nat := l.foldl (fun n c => n * 10 + (c.toNat - 48)) 0
def smallOk (l : List UInt8) : Bool := decide (l ≠ []) && (decide (l.length ≤ 10) && (!(decide (1 < l.length) && decide (l[0]? = some 48)) && l.all digit))
def smallV (l : List UInt8) : Int := if smallOk l then (valD l : Nat) else 0
theorem valD_snoc (l : List UInt8) (c : UInt8) : valD (l ++ [c]) = valD l * 10 + (c.toNat - 48) := by unfold valD; rw [List.foldl_append]; rfl
theorem valD_lt (l : List UInt8) (h : l.all digit = true) : ∀ k, k ≤ l.length → valD (l.take k) < 10 ^ k
  | 0, _ => by simp [valD]
  | k + 1, hk => by
    have ih := valD_lt l h k (by omega)
    have hx := List.getElem?_eq_getElem (l := l) (i := k) (by omega)
    have h2 : digit l[k] = true := List.all_eq_true.1 h _ (List.getElem_mem (by omega))
    unfold digit at h2
    rw [decide_eq_true_iff] at h2
    rw [List.take_add_one, hx, Option.toList_some, valD_snoc, Nat.pow_succ]
    omega
theorem valD_lt' (l : List UInt8) : ∀ k, (l.take k).all digit = true → k ≤ l.length → valD (l.take k) < 10 ^ k := by
  intro k h hk
  have := valD_lt (l.take k) h k (by rw [List.length_take]; omega)
  rwa [List.take_take, Nat.min_self] at this
theorem bs_inj0 {s : ByteArray} (h : bs s = []) : s = ⟨#[]⟩ := ByteArray.ext (Array.toList_inj.mp h)
theorem bytes_row (s : ByteArray) (cap : Nat) : bytesRow s cap = ((bs s).map (fun c : UInt8 => Value.int .u8 (c.toNat : Int)) ++ List.replicate (cap - s.size) (Value.int .u8 0)).toArray := by
  apply Array.ext'
  simp only [bytesRow, Array.toList_append, Array.toList_map, Array.toList_replicate]
  rfl
theorem row_cell (w : World) (s : ByteArray) (cap e : Nat) (f : Nat × Nat) (j : Nat) (c : UInt8) (h : (bs s)[j]? = some c) : ((w.drew).alloc (.cells (bytesRow s cap) e f)).cell? ⟨w.heap.size, j, none⟩ = some (.int .u8 (c.toNat : Int)) := by
  have h1 : ((w.drew).alloc (.cells (bytesRow s cap) e f)).heap[w.heap.size]? = some (.cells (bytesRow s cap) e f) := heap_alloc_new w.drew _
  unfold World.cell?
  simp only [h1]
  rw [bytes_row]
  have hj : j < (bs s).length := (List.getElem?_eq_some_iff.1 h).1
  simp only [List.getElem?_toArray]
  rw [List.getElem?_append_left (by simpa using hj), List.getElem?_map, h]
  rfl
set_option maxHeartbeats 1000000 in
theorem small_loop (s : ByteArray) (w : World) (h0 : 0 < s.size) (h10 : s.size ≤ 10) (hz : ¬ (1 < s.size ∧ (bs s)[0]? = some 48)) :
    Calls Tryd.prog 46 #[.string s] w fun e w' => e = .returned (.tuple #[.int .i64 (smallV (bs s)), .bool (smallOk (bs s))]) ∧ Below w.heap.size w w' := by
  have hconv := fun (w : World) (s : ByteArray) => run_bytes_of_string (P := Tryd.prog) w 9 63 5 s Tryd.underlying9 Tryd.underlying63 Tryd.underlying5
  have hemp : s.toList.isEmpty = false := by
    rw [ByteArray.toList_eq]
    cases hd : s.data.toList with
    | nil => have := length_bs s; unfold bs at this; rw [hd] at this; simp at this; omega
    | cons _ _ => rfl
  have h10i : (decide ((10 : Int) < (s.size : Int))) = false := decide_eq_false (by omega)
  have hok : smallOk (bs s) = (bs s).all digit := by
    unfold smallOk
    have hne : bs s ≠ [] := by intro e; have := length_bs s; rw [e] at this; simp at this; omega
    rw [decide_eq_true hne, decide_eq_true (show (bs s).length ≤ 10 by rw [length_bs]; exact h10)]
    have hzz : (decide (1 < (bs s).length) && decide ((bs s)[0]? = some 48)) = false := by
      rw [length_bs]
      by_cases h1 : 1 < s.size
      · rw [decide_eq_false (fun h => hz ⟨h1, h⟩)]; simp
      · rw [decide_eq_false h1]; rfl
    rw [hzz]
    rfl
  have HOK := Lib.hid hok
  have hbr : (decide ((1 : Int) < (s.size : Int))) = false ∨ ((decide ((1 : Int) < (s.size : Int))) = true ∧ ∀ h : 0 < s.size, ((((s[0]'h).toNat : Nat) : Int) == 48) = false) := by
    by_cases h1 : 1 < s.size
    · refine .inr ⟨decide_eq_true (by omega), fun h => beq_eq_false_iff_ne.2 fun e => hz ⟨h1, ?_⟩⟩
      have hb : (bs s)[0]? = some s[0] := List.getElem?_eq_getElem (by rw [length_bs]; exact h0)
      rw [hb]
      congr 1
      apply UInt8.toNat_inj.1
      have : (48 : UInt8).toNat = 48 := rfl
      omega
    · exact .inl (decide_eq_false (by omega))
  have hcell : ∀ (cap e : Nat) (f : Nat × Nat) (j : Nat) (c : UInt8), (bs s)[j]? = some c → ((w.drew).alloc (.cells (bytesRow s cap) e f)).cell? ⟨w.heap.size, j, none⟩ = some (.int .u8 (c.toNat : Int)) := fun cap e f j c h => row_cell w s cap e f j c h
  have HC := Lib.hid hcell
  clear hok hz hcell
  rcases hbr with hb1 | ⟨hb1, hb2⟩
  · go_enter Tryd.func46, Tryd.ntmps46
    go_wp2_with fail
    have HC1 := Lib.hid (fun (j : Nat) (c : UInt8) (h : (bs s)[j]? = some c) => show ((w.alloc (.cells (bytesRow s (grownCap w s.size 0 5)) 5 ((bytesRow s (grownCap w s.size 0 5)).size, (bytesRow s (grownCap w s.size 0 5)).size + 1))).drew).cell? ⟨w.heap.size, j, none⟩ = some (.int .u8 (c.toNat : Int)) from HC.out _ _ _ j c h)
    have hB1 : Below w.heap.size w ((w.alloc (.cells (bytesRow s (grownCap w s.size 0 5)) 5 ((bytesRow s (grownCap w s.size 0 5)).size, (bytesRow s (grownCap w s.size 0 5)).size + 1))).drew) := (by repeat (first | exact Below.refl _ _ | assumption | refine Below.drew ?_ | refine Below.drewN' ?_ _ | refine below_grow0 _ _ ?_ | refine below_alloc0 _ ?_ | refine Below.alloc ?_ (by first | omega | (simp; done) | (simp; omega)) _ | refine Below.setCell ?_ (by first | omega | (simp; done) | (simp; omega)) _ | refine Below.grow _ _ _ ?_ (by first | omega | (simp; done) | (simp; omega))))
    generalize ((w.alloc (.cells (bytesRow s (grownCap w s.size 0 5)) 5 ((bytesRow s (grownCap w s.size 0 5)).size, (bytesRow s (grownCap w s.size 0 5)).size + 1))).drew) = W1 at *
    generalize grownCap w s.size 0 5 = cap at *
    go_loopw [4, 27] (fun n i wr => ∃ k : Nat, k ≤ s.size ∧ n = .int .i64 (valD ((bs s).take k)) ∧ i = .int .i64 k ∧ wr = W1 ∧ Hid (((bs s).take k).all digit = true)) (fun _ i _ => s.size - (intOf i).toNat)
    case atStart => exact ⟨0, Nat.zero_le _, rfl, rfl, rfl, Lib.hid rfl⟩
    case round =>
      obtain ⟨k, hk, rfl, rfl, rfl, hd⟩ := hrel
      have hlen := length_bs s
      by_cases hlt : k < s.size
      · have hx : (bs s)[k]? = some ((bs s)[k]'(by omega)) := List.getElem?_eq_getElem _
        have hc := HC1.out k _ hx
        have htk : (bs s).take (k + 1) = (bs s).take k ++ [(bs s)[k]'(by omega)] := by rw [List.take_add_one, hx]; rfl
        have hmem : (bs s)[k]'(by omega) ∈ bs s := List.getElem_mem _
        generalize (bs s)[k]'(by omega) = c at *
        have hvl := valD_lt' (bs s) k hd.out (by omega)
        have hp : 10 ^ k ≤ 10 ^ 10 := Nat.pow_le_pow_right (by decide) (by omega)
        have hv9 : valD ((bs s).take k) < 10000000000 := Nat.lt_of_lt_of_le hvl hp
        have hc255 : c.toNat < 256 := c.toNat_lt
        cases hdc : digit c with
        | true =>
          have hcd : 48 ≤ c.toNat ∧ c.toNat ≤ 57 := by unfold digit at hdc; rwa [decide_eq_true_iff] at hdc
          have hval : ((valD ((bs s).take (k + 1)) : Nat) : Int) = (valD ((bs s).take k) : Int) * 10 + ((c.toNat : Int) - 48) := by rw [htk, valD_snoc]; omega
          have HV := Lib.hid hval
          have HD := Lib.hid (show ((bs s).take (k + 1)).all digit = true by rw [htk, List.all_append, hd.out]; simp [hdc])
          have hl1 : (decide ((c.toNat : Int) < 48)) = false := decide_eq_false (by omega)
          have hl2 : (decide ((57 : Int) < (c.toNat : Int))) = false := decide_eq_false (by omega)
          have hws : IntKind.u8.wrap ((c.toNat : Int) - 48) = (c.toNat : Int) - 48 := by unfold IntKind.wrap; simp [IntKind.signed, IntKind.bits]; omega
          generalize valD ((bs s).take k) = n at *
          clear hval htk hmem hx hvl hp
          go_wp2_with fail
          go_roundw
          case rel => exact ⟨k + 1, by omega, by rw [HV.out] <;> go_num, by go_num, by first | rfl | trivial, HD⟩
          case measure => simp [intOf]; omega
        | false =>
          have hno : smallOk (bs s) = false := by rw [HOK.out, List.all_eq_false]; exact ⟨c, hmem, by simp [hdc]⟩
          have hsv : smallV (bs s) = 0 := by unfold smallV; rw [hno]; rfl
          have HNO := Lib.hid hno
          have HSV := Lib.hid hsv
          have hcd : c.toNat < 48 ∨ (48 ≤ c.toNat ∧ 57 < c.toNat) := by unfold digit at hdc; rw [decide_eq_false_iff_not] at hdc; omega
          generalize valD ((bs s).take k) = n at *
          clear htk hmem hx hvl hp hno hsv
          rcases hcd with hcd | ⟨hcd1, hcd2⟩
          · have hl1 : (decide ((c.toNat : Int) < 48)) = true := decide_eq_true (by omega)
            go_wp2_with fail
            go_ret2
            exact ⟨by rw [HNO.out, HSV.out]; rfl, hB1⟩
          · have hl1 : (decide ((c.toNat : Int) < 48)) = false := decide_eq_false (by omega)
            have hl2 : (decide ((57 : Int) < (c.toNat : Int))) = true := decide_eq_true (by omega)
            go_wp2_with fail
            go_ret2
            exact ⟨by rw [HNO.out, HSV.out]; rfl, hB1⟩
      · have hk' : k = s.size := by omega
        subst hk'
        have hd1 := hd.out
        rw [List.take_of_length_le (by omega)] at hd1
        have hyes : smallOk (bs s) = true := by rw [HOK.out]; exact hd1
        have hsv : smallV (bs s) = (valD (bs s) : Nat) := by unfold smallV; rw [hyes]; rfl
        rw [List.take_of_length_le (by omega)]
        have HNO := Lib.hid hyes
        have HSV := Lib.hid hsv
        clear hyes hsv hd1
        generalize valD (bs s) = n at *
        go_wp2_with fail
        go_ret2
        exact ⟨by rw [HNO.out, HSV.out]; rfl, hB1⟩
  · go_enter Tryd.func46, Tryd.ntmps46
    go_wp2_with fail
    have HC1 := Lib.hid (fun (j : Nat) (c : UInt8) (h : (bs s)[j]? = some c) => show ((w.alloc (.cells (bytesRow s (grownCap w s.size 0 5)) 5 ((bytesRow s (grownCap w s.size 0 5)).size, (bytesRow s (grownCap w s.size 0 5)).size + 1))).drew).cell? ⟨w.heap.size, j, none⟩ = some (.int .u8 (c.toNat : Int)) from HC.out _ _ _ j c h)
    have hB1 : Below w.heap.size w ((w.alloc (.cells (bytesRow s (grownCap w s.size 0 5)) 5 ((bytesRow s (grownCap w s.size 0 5)).size, (bytesRow s (grownCap w s.size 0 5)).size + 1))).drew) := (by repeat (first | exact Below.refl _ _ | assumption | refine Below.drew ?_ | refine Below.drewN' ?_ _ | refine below_grow0 _ _ ?_ | refine below_alloc0 _ ?_ | refine Below.alloc ?_ (by first | omega | (simp; done) | (simp; omega)) _ | refine Below.setCell ?_ (by first | omega | (simp; done) | (simp; omega)) _ | refine Below.grow _ _ _ ?_ (by first | omega | (simp; done) | (simp; omega))))
    generalize ((w.alloc (.cells (bytesRow s (grownCap w s.size 0 5)) 5 ((bytesRow s (grownCap w s.size 0 5)).size, (bytesRow s (grownCap w s.size 0 5)).size + 1))).drew) = W1 at *
    generalize grownCap w s.size 0 5 = cap at *
    go_loopw [4, 27] (fun n i wr => ∃ k : Nat, k ≤ s.size ∧ n = .int .i64 (valD ((bs s).take k)) ∧ i = .int .i64 k ∧ wr = W1 ∧ Hid (((bs s).take k).all digit = true)) (fun _ i _ => s.size - (intOf i).toNat)
    case atStart => exact ⟨0, Nat.zero_le _, rfl, rfl, rfl, Lib.hid rfl⟩
    case round =>
      obtain ⟨k, hk, rfl, rfl, rfl, hd⟩ := hrel
      have hlen := length_bs s
      by_cases hlt : k < s.size
      · have hx : (bs s)[k]? = some ((bs s)[k]'(by omega)) := List.getElem?_eq_getElem _
        have hc := HC1.out k _ hx
        have htk : (bs s).take (k + 1) = (bs s).take k ++ [(bs s)[k]'(by omega)] := by rw [List.take_add_one, hx]; rfl
        have hmem : (bs s)[k]'(by omega) ∈ bs s := List.getElem_mem _
        generalize (bs s)[k]'(by omega) = c at *
        have hvl := valD_lt' (bs s) k hd.out (by omega)
        have hp : 10 ^ k ≤ 10 ^ 10 := Nat.pow_le_pow_right (by decide) (by omega)
        have hv9 : valD ((bs s).take k) < 10000000000 := Nat.lt_of_lt_of_le hvl hp
        have hc255 : c.toNat < 256 := c.toNat_lt
        cases hdc : digit c with
        | true =>
          have hcd : 48 ≤ c.toNat ∧ c.toNat ≤ 57 := by unfold digit at hdc; rwa [decide_eq_true_iff] at hdc
          have hval : ((valD ((bs s).take (k + 1)) : Nat) : Int) = (valD ((bs s).take k) : Int) * 10 + ((c.toNat : Int) - 48) := by rw [htk, valD_snoc]; omega
          have HV := Lib.hid hval
          have HD := Lib.hid (show ((bs s).take (k + 1)).all digit = true by rw [htk, List.all_append, hd.out]; simp [hdc])
          have hl1 : (decide ((c.toNat : Int) < 48)) = false := decide_eq_false (by omega)
          have hl2 : (decide ((57 : Int) < (c.toNat : Int))) = false := decide_eq_false (by omega)
          have hws : IntKind.u8.wrap ((c.toNat : Int) - 48) = (c.toNat : Int) - 48 := by unfold IntKind.wrap; simp [IntKind.signed, IntKind.bits]; omega
          generalize valD ((bs s).take k) = n at *
          clear hval htk hmem hx hvl hp
          go_wp2_with fail
          go_roundw
          case rel => exact ⟨k + 1, by omega, by rw [HV.out] <;> go_num, by go_num, by first | rfl | trivial, HD⟩
          case measure => simp [intOf]; omega
        | false =>
          have hno : smallOk (bs s) = false := by rw [HOK.out, List.all_eq_false]; exact ⟨c, hmem, by simp [hdc]⟩
          have hsv : smallV (bs s) = 0 := by unfold smallV; rw [hno]; rfl
          have HNO := Lib.hid hno
          have HSV := Lib.hid hsv
          have hcd : c.toNat < 48 ∨ (48 ≤ c.toNat ∧ 57 < c.toNat) := by unfold digit at hdc; rw [decide_eq_false_iff_not] at hdc; omega
          generalize valD ((bs s).take k) = n at *
          clear htk hmem hx hvl hp hno hsv
          rcases hcd with hcd | ⟨hcd1, hcd2⟩
          · have hl1 : (decide ((c.toNat : Int) < 48)) = true := decide_eq_true (by omega)
            go_wp2_with fail
            go_ret2
            exact ⟨by rw [HNO.out, HSV.out]; rfl, hB1⟩
          · have hl1 : (decide ((c.toNat : Int) < 48)) = false := decide_eq_false (by omega)
            have hl2 : (decide ((57 : Int) < (c.toNat : Int))) = true := decide_eq_true (by omega)
            go_wp2_with fail
            go_ret2
            exact ⟨by rw [HNO.out, HSV.out]; rfl, hB1⟩
      · have hk' : k = s.size := by omega
        subst hk'
        have hd1 := hd.out
        rw [List.take_of_length_le (by omega)] at hd1
        have hyes : smallOk (bs s) = true := by rw [HOK.out]; exact hd1
        have hsv : smallV (bs s) = (valD (bs s) : Nat) := by unfold smallV; rw [hyes]; rfl
        rw [List.take_of_length_le (by omega)]
        have HNO := Lib.hid hyes
        have HSV := Lib.hid hsv
        clear hyes hsv hd1
        generalize valD (bs s) = n at *
        go_wp2_with fail
        go_ret2
        exact ⟨by rw [HNO.out, HSV.out]; rfl, hB1⟩
set_option maxHeartbeats 1000000 in
theorem small_any (s : ByteArray) (w : World) (hs : s.size ≤ 9223372036854775807) :
    Calls Tryd.prog 46 #[.string s] w fun e w' => e = .returned (.tuple #[.int .i64 (smallV (bs s)), .bool (smallOk (bs s))]) ∧ Below w.heap.size w w' := by
  have hlen := length_bs s
  by_cases h0 : 0 < s.size
  · by_cases h10 : s.size ≤ 10
    · by_cases hz : 1 < s.size ∧ (bs s)[0]? = some 48
      · have hno : smallOk (bs s) = false := by
          unfold smallOk
          rw [hlen, decide_eq_true hz.1, decide_eq_true hz.2]
          simp
        have hsv : smallV (bs s) = 0 := by unfold smallV; rw [hno]; rfl
        rw [hno, hsv]
        have h1i : (decide ((1 : Int) < (s.size : Int))) = true := decide_eq_true (by omega)
        have h10i : (decide ((10 : Int) < (s.size : Int))) = false := decide_eq_false (by omega)
        have hemp : s.toList.isEmpty = false := by
          rw [ByteArray.toList_eq]
          cases hd : s.data.toList with
          | nil => unfold bs at hlen; rw [hd] at hlen; simp at hlen; omega
          | cons _ _ => rfl
        have hb2 : ∀ h : 0 < s.size, ((((s[0]'h).toNat : Nat) : Int) == 48) = true := by
          intro h
          have hb : (bs s)[0]? = some s[0] := List.getElem?_eq_getElem (by rw [length_bs]; exact h0)
          rw [hz.2] at hb
          injection hb with hb
          rw [← hb]; rfl
        clear hno hsv hz
        go_enter Tryd.func46, Tryd.ntmps46
        go_wp2_with fail
        go_ret2
        exact ⟨rfl, (by repeat (first | exact Below.refl _ _ | assumption | refine Below.drew ?_ | refine Below.drewN' ?_ _ | refine below_grow0 _ _ ?_ | refine below_alloc0 _ ?_ | refine Below.alloc ?_ (by first | omega | (simp; done) | (simp; omega)) _ | refine Below.setCell ?_ (by first | omega | (simp; done) | (simp; omega)) _ | refine Below.grow _ _ _ ?_ (by first | omega | (simp; done) | (simp; omega))))⟩
      · exact small_loop s w h0 h10 hz
    · have hno : smallOk (bs s) = false := by
        unfold smallOk
        rw [hlen, decide_eq_false h10]
        simp
      have hsv : smallV (bs s) = 0 := by unfold smallV; rw [hno]; rfl
      rw [hno, hsv]
      have h10i : (decide ((10 : Int) < (s.size : Int))) = true := decide_eq_true (by omega)
      have hemp : s.toList.isEmpty = false := by
        rw [ByteArray.toList_eq]
        cases hd : s.data.toList with
        | nil => unfold bs at hlen; rw [hd] at hlen; simp at hlen; omega
        | cons _ _ => rfl
      clear hno hsv
      go_enter Tryd.func46, Tryd.ntmps46
      go_wp2_with fail
      go_ret2
      exact ⟨rfl, (by repeat (first | exact Below.refl _ _ | assumption | refine Below.drew ?_ | refine Below.drewN' ?_ _ | refine below_grow0 _ _ ?_ | refine below_alloc0 _ ?_ | refine Below.alloc ?_ (by first | omega | (simp; done) | (simp; omega)) _ | refine Below.setCell ?_ (by first | omega | (simp; done) | (simp; omega)) _ | refine Below.grow _ _ _ ?_ (by first | omega | (simp; done) | (simp; omega))))⟩
  · have hnil : bs s = [] := List.eq_nil_of_length_eq_zero (by omega)
    rw [hnil]
    have hs0 : s = ⟨#[]⟩ := bs_inj0 hnil
    subst hs0
    go_enter Tryd.func46, Tryd.ntmps46
    go_wp2_with fail
    go_ret2
    exact ⟨rfl, (by repeat (first | exact Below.refl _ _ | assumption | refine Below.drew ?_ | refine Below.drewN' ?_ _ | refine below_grow0 _ _ ?_ | refine below_alloc0 _ ?_ | refine Below.alloc ?_ (by first | omega | (simp; done) | (simp; omega)) _ | refine Below.setCell ?_ (by first | omega | (simp; done) | (simp; omega)) _ | refine Below.grow _ _ _ ?_ (by first | omega | (simp; done) | (simp; omega))))⟩
end Go.Proofs.YtkoemhdchoicaaaDoor

/- wire's cursor: text, number. -/
namespace Go.Proofs.YtkoemhdchoicaaaDoor
open Go.RowKit Go.ChangeShapes Go.WideShapes Go.ChangeAt
/-- a cursor in the block g -/
def Cur (w : World) (g : Nat) (s : ByteArray) (bad : Bool) : Prop := w.cell? ⟨g, 0, none⟩ = some (.string s) ∧ w.cell? ⟨g, 1, none⟩ = some (.bool bad) ∧ w.frozen? ⟨g, 0, none⟩ = false ∧ w.frozen? ⟨g, 1, none⟩ = false
def badT (s : ByteArray) (bad : Bool) (n : Nat) : Bool := bad || decide (s.size < n)
def takeT (s : ByteArray) (bad : Bool) (n : Nat) : ByteArray := if badT s bad n then ⟨#[]⟩ else s.extract 0 n
def restT (s : ByteArray) (bad : Bool) (n : Nat) : ByteArray := if badT s bad n then s else s.extract n s.size
theorem cur_set0 {w : World} {g : Nat} {s : ByteArray} {bad : Bool} (h : Cur w g s bad) (t : ByteArray) : Cur (w.setCell ⟨g, 0, none⟩ (.string t)) g t bad := by
  obtain ⟨h1, h2, h3, h4⟩ := h
  exact ⟨World.cell?_setCell_same' _ _ _ (by rw [h1]; rfl), (World.cell?_setCell_other _ _ _ _ (fun e => by injection e with _ e; exact absurd e (by decide))).trans h2, (World.frozen?_setCell ..).trans h3, (World.frozen?_setCell ..).trans h4⟩
theorem cur_set1 {w : World} {g : Nat} {s : ByteArray} {bad : Bool} (h : Cur w g s bad) (b : Bool) : Cur (w.setCell ⟨g, 1, none⟩ (.bool b)) g s b := by
  obtain ⟨h1, h2, h3, h4⟩ := h
  exact ⟨(World.cell?_setCell_other _ _ _ _ (fun e => by injection e with _ e; exact absurd e (by decide))).trans h1, World.cell?_setCell_same' _ _ _ (by rw [h2]; rfl), (World.frozen?_setCell ..).trans h3, (World.frozen?_setCell ..).trans h4⟩
set_option maxHeartbeats 1000000 in
theorem text_any (g : Nat) (s : ByteArray) (bad : Bool) (n : Nat) (w : World) (h : Cur w g s bad) (hn : n < 4611686018427387904) (_hs : s.size ≤ 4611686018427387904) :
    Calls Tryd.prog 63 #[.pointer (some ⟨g, 0, none⟩), .int .i64 n] w fun e w' => e = .returned (.string (takeT s bad n)) ∧ Cur w' g (restT s bad n) (badT s bad n) ∧ w.grownBy w' (some g) := by
  have HC := Lib.hid h
  obtain ⟨h1, h2, h3, h4⟩ := h
  unfold takeT restT
  cases bad with
  | true =>
    have hb : badT s true n = true := rfl
    rw [hb]
    simp only [if_true]
    go_enter Tryd.func63, Tryd.ntmps63
    go_wp2_with fail
    go_ret
    exact ⟨rfl, cur_set1 HC.out true, grownBy_setCell _ _ _ _⟩
  | false =>
    by_cases hlt : s.size < n
    · have hb : badT s false n = true := by unfold badT; rw [decide_eq_true hlt]; rfl
      rw [hb]
      simp only [if_true]
      have hi : (decide ((s.size : Int) < (n : Int))) = true := decide_eq_true (by omega)
      clear hb
      go_enter Tryd.func63, Tryd.ntmps63
      go_wp2_with fail
      go_ret
      exact ⟨rfl, cur_set1 HC.out true, grownBy_setCell _ _ _ _⟩
    · have hb : badT s false n = false := by unfold badT; rw [decide_eq_false hlt]; rfl
      rw [hb]
      simp only [Bool.false_eq_true, if_false]
      have hi : (decide ((s.size : Int) < (n : Int))) = false := decide_eq_false (by omega)
      clear hb
      go_enter Tryd.func63, Tryd.ntmps63
      go_wp2_with fail
      go_ret
      exact ⟨rfl, cur_set0 HC.out _, grownBy_setCell _ _ _ _⟩
end Go.Proofs.YtkoemhdchoicaaaDoor

/- wire's cursor: number. -/
namespace Go.Proofs.YtkoemhdchoicaaaDoor
open Go.RowKit Go.ChangeShapes Go.WideShapes Go.ChangeAt
def valI (l : List UInt8) : Int := l.foldl (fun v c => wrap64 (v * 256 + (c.toNat : Int))) 0
theorem valI_snoc (l : List UInt8) (c : UInt8) : valI (l ++ [c]) = wrap64 (valI l * 256 + (c.toNat : Int)) := by unfold valI; rw [List.foldl_append]; rfl
theorem ofInt64_toNat (a : Int) : (BitVec.ofInt 64 a).toNat = (a % 18446744073709551616).toNat := by
  simp [BitVec.ofInt, Int.emod_def]
theorem bits_or8 (n : Int) (c : Nat) (hc : c < 256) : bits .or .i64 (wrap64 (n * 256)) (c : Int) = wrap64 (n * 256 + (c : Int)) := by
  have h1 : (BitVec.ofInt 64 (wrap64 (n * 256))).toNat = ((n % 72057594037927936).toNat) * 256 := by
    rw [ofInt64_toNat]; unfold wrap64; omega
  have h2 : (BitVec.ofInt 64 (c : Int)).toNat = c := by rw [ofInt64_toNat]; omega
  show IntKind.i64.wrap ((BitVec.ofInt 64 (wrap64 (n * 256)) ||| BitVec.ofInt 64 (c : Int)).toNat : Int) = _
  rw [BitVec.toNat_or, h1, h2]
  have h3 : (n % 72057594037927936).toNat * 256 ||| c = (n % 72057594037927936).toNat * 256 + c := by
    have := Nat.two_pow_add_eq_or_of_lt (i := 8) (b := c) (by omega) ((n % 72057594037927936).toNat)
    rw [Nat.mul_comm] at this
    exact this.symm
  rw [h3]
  unfold IntKind.wrap wrap64
  simp [IntKind.signed, IntKind.bits]
  omega
theorem takeT_size (s : ByteArray) (bad : Bool) (n : Nat) : (takeT s bad n).size ≤ s.size := by
  unfold takeT
  split
  · exact Nat.zero_le _
  · rw [ByteArray.size_extract]; omega
theorem cur_below {w w' : World} {g : Nat} {s : ByteArray} {bad : Bool} (h : Cur w g s bad) (hb : Below w.heap.size w w') : Cur w' g s bad := by
  obtain ⟨h1, h2, h3, h4⟩ := h
  have hg : g < w.heap.size := World.block_lt_of_cell? w _ h1
  exact ⟨(hb.cell (p := ⟨g, 0, none⟩) hg).trans h1, (hb.cell (p := ⟨g, 1, none⟩) hg).trans h2, (World.frozen?_of_block (a := ⟨g, 0, none⟩) (hb.block g hg)).trans h3, (World.frozen?_of_block (a := ⟨g, 1, none⟩) (hb.block g hg)).trans h4⟩
theorem below_grownBy {w w' : World} (hb : Below w.heap.size w w') (g : Nat) : w.grownBy w' (some g) := ⟨hb.os, hb.tape, hb.output, hb.size, fun k hk _ => hb.block k hk⟩
set_option maxHeartbeats 1000000 in
theorem number_any (g : Nat) (s : ByteArray) (bad : Bool) (n : Nat) (w : World) (h : Cur w g s bad) (hn : n < 4611686018427387904) (hs : s.size ≤ 4611686018427387904) :
    Calls Tryd.prog 64 #[.pointer (some ⟨g, 0, none⟩), .int .i64 n] w fun e w' => e = .returned (.int .i64 (valI (bs (takeT s bad n)))) ∧ Cur w' g (restT s bad n) (badT s bad n) ∧ w.grownBy w' (some g) := by
  have hconv := fun (w : World) (s : ByteArray) => run_bytes_of_string (P := Tryd.prog) w 9 63 5 s Tryd.underlying9 Tryd.underlying63 Tryd.underlying5
  have HT := Lib.hid (text_any g s bad n w h hn hs)
  have hz := takeT_size s bad n
  generalize takeT s bad n = t at *
  generalize restT s bad n = r at *
  generalize badT s bad n = b' at *
  clear h
  go_enter Tryd.func64, Tryd.ntmps64
  go_wp2_with (go_at_call 63; refine (HT.out).mono ?_; rintro e w1 ⟨rfl, hc1, hg1⟩; have HC1 := Lib.hid hc1; have HG1 := Lib.hid hg1; clear hc1 hg1 HT)
  have HC2 := Lib.hid (fun (j : Nat) (c : UInt8) (h : (bs t)[j]? = some c) => show ((w1.alloc (.cells (bytesRow t (grownCap w1 t.size 0 5)) 5 ((bytesRow t (grownCap w1 t.size 0 5)).size, (bytesRow t (grownCap w1 t.size 0 5)).size + 1))).drew).cell? ⟨w1.heap.size, j, none⟩ = some (.int .u8 (c.toNat : Int)) from row_cell w1 t _ _ _ j c h)
  have hB1 : Below w1.heap.size w1 ((w1.alloc (.cells (bytesRow t (grownCap w1 t.size 0 5)) 5 ((bytesRow t (grownCap w1 t.size 0 5)).size, (bytesRow t (grownCap w1 t.size 0 5)).size + 1))).drew) := (by repeat (first | exact Below.refl _ _ | assumption | refine Below.drew ?_ | refine Below.drewN' ?_ _ | refine below_grow0 _ _ ?_ | refine below_alloc0 _ ?_ | refine Below.alloc ?_ (by first | omega | (simp; done) | (simp; omega)) _ | refine Below.setCell ?_ (by first | omega | (simp; done) | (simp; omega)) _ | refine Below.grow _ _ _ ?_ (by first | omega | (simp; done) | (simp; omega))))
  have HCU := Lib.hid (cur_below HC1.out hB1)
  have HGR := Lib.hid (HG1.out.trans (below_grownBy hB1 g))
  clear HC1 HG1 hB1
  generalize ((w1.alloc (.cells (bytesRow t (grownCap w1 t.size 0 5)) 5 ((bytesRow t (grownCap w1 t.size 0 5)).size, (bytesRow t (grownCap w1 t.size 0 5)).size + 1))).drew) = W1 at *
  generalize grownCap w1 t.size 0 5 = cap at *
  go_loopw [5, 13] (fun v i wr => ∃ k : Nat, k ≤ t.size ∧ v = .int .i64 (valI ((bs t).take k)) ∧ i = .int .i64 k ∧ wr = W1) (fun _ i _ => t.size - (intOf i).toNat)
  case atStart => exact ⟨0, Nat.zero_le _, rfl, rfl, rfl⟩
  case round =>
    obtain ⟨k, hk, rfl, rfl, rfl⟩ := hrel
    have hlen := length_bs t
    by_cases hlt : k < t.size
    · have hx : (bs t)[k]? = some ((bs t)[k]'(by omega)) := List.getElem?_eq_getElem _
      have hc := HC2.out k _ hx
      have htk : (bs t).take (k + 1) = (bs t).take k ++ [(bs t)[k]'(by omega)] := by rw [List.take_add_one, hx]; rfl
      generalize (bs t)[k]'(by omega) = c at *
      have hc255 : c.toNat < 256 := c.toNat_lt
      have HV := Lib.hid (show valI ((bs t).take (k + 1)) = wrap64 (valI ((bs t).take k) * 256 + (c.toNat : Int)) by rw [htk, valI_snoc])
      generalize valI ((bs t).take k) = n0 at *
      clear htk hx
      go_wp2_with fail
      exact ⟨⟨k + 1, by omega, by rw [HV.out, bits_or8 n0 c.toNat hc255], by go_num, trivial⟩, by simp [intOf]; omega⟩
    · have hk' : k = t.size := by omega
      subst hk'
      rw [List.take_of_length_le (by omega)]
      go_wp2_with fail
      go_ret
      exact ⟨rfl, HCU.out, HGR.out⟩
end Go.Proofs.YtkoemhdchoicaaaDoor

/- wire.Decode as a function of bytes. -/
namespace Go.Proofs.YtkoemhdchoicaaaDoor
open Go.RowKit
abbrev txn0 : Txn := ⟨0, 0, 0, ⟨#[]⟩, ⟨#[]⟩, 0, 0⟩
def dB10 (n z o ss v ow : Int) (p d s : ByteArray) (b : Bool) : Txn × Int × Int :=
  bif b || !s.toList.isEmpty then (txn0, 0, 2) else bif goodT ⟨z, o, ss, p, d, v, ow⟩ != 0 then (txn0, 0, goodT ⟨z, o, ss, p, d, v, ow⟩) else (⟨z, o, ss, p, d, v, ow⟩, n + 7, 0)
def dB9 (n z o ss v ow : Int) (p : ByteArray) (dl : Nat) (s : ByteArray) (b : Bool) : Txn × Int × Int := dB10 n z o ss v ow p (takeT s b dl) (restT s b dl) (badT s b dl)
def dB8 (n z o ss v ow : Int) (p s : ByteArray) (b : Bool) : Txn × Int × Int := dB9 n z o ss v ow p (valI (bs (takeT s b 2))).toNat (restT s b 2) (badT s b 2)
def dB7 (n z o ss v ow : Int) (pl : Nat) (s : ByteArray) (b : Bool) : Txn × Int × Int := dB8 n z o ss v ow (takeT s b pl) (restT s b pl) (badT s b pl)
def dB6 (n z o ss v ow : Int) (s : ByteArray) (b : Bool) : Txn × Int × Int := dB7 n z o ss v ow (valI (bs (takeT s b 1))).toNat (restT s b 1) (badT s b 1)
def dB5 (n z o ss v : Int) (s : ByteArray) (b : Bool) : Txn × Int × Int := dB6 n z o ss v (valI (bs (takeT s b 4))) (restT s b 4) (badT s b 4)
def dB4 (n z o ss : Int) (s : ByteArray) (b : Bool) : Txn × Int × Int := dB5 n z o ss (valI (bs (takeT s b 4))) (restT s b 4) (badT s b 4)
def dB3 (n z o : Int) (s : ByteArray) (b : Bool) : Txn × Int × Int := dB4 n z o (valI (bs (takeT s b 4))) (restT s b 4) (badT s b 4)
def dB2 (n z : Int) (s : ByteArray) (b : Bool) : Txn × Int × Int := dB3 n z (valI (bs (takeT s b 1))) (restT s b 1) (badT s b 1)
def dB1 (n : Int) (s : ByteArray) (b : Bool) : Txn × Int × Int := dB2 n (valI (bs (takeT s b 8))) (restT s b 8) (badT s b 8)
def dec4 (s : ByteArray) (n : Nat) (B : ByteArray) (sum : Int) (b4 : Bool) : Txn × Int × Int :=
  bif b4 then (txn0, 0, 2) else bif ((sumN (bs (s.extract 0 (3 + n))) : Nat) : Int) != sum then (txn0, 0, 5) else dB1 n B false
def dec3 (s : ByteArray) (n : Nat) (B s3 : ByteArray) (b3 : Bool) : Txn × Int × Int := dec4 s n B (valI (bs (takeT s3 b3 4))) (badT s3 b3 4)
def dec2 (s : ByteArray) (n : Nat) (s2 : ByteArray) (b2 : Bool) : Txn × Int × Int :=
  bif b2 || decide (1024 < (n : Int)) then (txn0, 0, 2) else dec3 s n (takeT s2 b2 n) (restT s2 b2 n) (badT s2 b2 n)
def dec1 (s t1 s1 : ByteArray) (b1 : Bool) : Txn × Int × Int :=
  bif !(t1.toList == [84]) then (txn0, 0, 2) else dec2 s (valI (bs (takeT s1 b1 2))).toNat (restT s1 b1 2) (badT s1 b1 2)
/-- what Decode answers -/
def decR (s : ByteArray) : Txn × Int × Int := dec1 s (takeT s false 1) (restT s false 1) (badT s false 1)
theorem dec1_bad {s t1 s1 : ByteArray} {b1 : Bool} (h : (!(t1.toList == [84])) = true) : dec1 s t1 s1 b1 = (txn0, 0, 2) := by unfold dec1; rw [h]; rfl
theorem dec1_ok {s t1 s1 : ByteArray} {b1 : Bool} (h : (!(t1.toList == [84])) = false) {n : Nat} (hn : valI (bs (takeT s1 b1 2)) = (n : Int)) : dec1 s t1 s1 b1 = dec2 s n (restT s1 b1 2) (badT s1 b1 2) := by unfold dec1; rw [h, hn]; rfl
theorem dec2_bad {s s2 : ByteArray} {n : Nat} {b2 : Bool} (h : b2 = true) : dec2 s n s2 b2 = (txn0, 0, 2) := by unfold dec2; rw [h]; rfl
theorem dec2_big {s s2 : ByteArray} {n : Nat} {b2 : Bool} (h : 1024 < (n : Int)) : dec2 s n s2 b2 = (txn0, 0, 2) := by unfold dec2; rw [decide_eq_true h, Bool.or_true]; rfl
theorem dec2_ok {s s2 : ByteArray} {n : Nat} {b2 : Bool} (h : ¬ b2 = true) (h' : (n : Int) ≤ 1024) : dec2 s n s2 b2 = dec3 s n (takeT s2 b2 n) (restT s2 b2 n) (badT s2 b2 n) := by
  unfold dec2; rw [Bool.eq_false_iff.2 h, decide_eq_false (by omega)]; rfl
theorem dec4_bad {s B : ByteArray} {n : Nat} {sum : Int} {b4 : Bool} (h : b4 = true) : dec4 s n B sum b4 = (txn0, 0, 2) := by unfold dec4; rw [h]; rfl
theorem dec4_sum {s B : ByteArray} {n : Nat} {sum : Int} {b4 : Bool} (h : b4 = false) (h' : (((sumN (bs (s.extract 0 (3 + n))) : Nat) : Int) != sum) = true) : dec4 s n B sum b4 = (txn0, 0, 5) := by unfold dec4; rw [h, h']; rfl
theorem dec4_ok {s B : ByteArray} {n : Nat} {sum : Int} {b4 : Bool} (h : b4 = false) (h' : (((sumN (bs (s.extract 0 (3 + n))) : Nat) : Int) != sum) = false) : dec4 s n B sum b4 = dB1 n B false := by unfold dec4; rw [h, h']; rfl
theorem dB10_bad {n z o ss v ow : Int} {p d s : ByteArray} {b : Bool} (h : b = true) : dB10 n z o ss v ow p d s b = (txn0, 0, 2) := by unfold dB10; rw [h]; rfl
theorem dB10_more {n z o ss v ow : Int} {p d s : ByteArray} {b : Bool} (h : (!s.toList.isEmpty) = true) : dB10 n z o ss v ow p d s b = (txn0, 0, 2) := by unfold dB10; rw [h, Bool.or_true]; rfl
theorem dB10_not {n z o ss v ow : Int} {p d s : ByteArray} {b : Bool} (h : ¬ b = true) (h' : (!s.toList.isEmpty) = false) (hg : (goodT ⟨z, o, ss, p, d, v, ow⟩ != 0) = true) : dB10 n z o ss v ow p d s b = (txn0, 0, goodT ⟨z, o, ss, p, d, v, ow⟩) := by unfold dB10; rw [Bool.eq_false_iff.2 h, h', hg]; rfl
theorem dB10_ok {n z o ss v ow : Int} {p d s : ByteArray} {b : Bool} (h : ¬ b = true) (h' : (!s.toList.isEmpty) = false) (hg : (goodT ⟨z, o, ss, p, d, v, ow⟩ != 0) = false) : dB10 n z o ss v ow p d s b = (⟨z, o, ss, p, d, v, ow⟩, n + 7, 0) := by unfold dB10; rw [Bool.eq_false_iff.2 h, h', hg]; rfl
def valN (l : List UInt8) : Nat := l.foldl (fun v c => v * 256 + c.toNat) 0
theorem valN_snoc (l : List UInt8) (c : UInt8) : valN (l ++ [c]) = valN l * 256 + c.toNat := by unfold valN; rw [List.foldl_append]; rfl
theorem list_snoc_rec {P : List UInt8 → Prop} (h0 : P []) (h1 : ∀ l c, P l → P (l ++ [c])) (l : List UInt8) : P l := by
  rw [← List.reverse_reverse l]
  induction l.reverse with
  | nil => exact h0
  | cons c r ih => rw [List.reverse_cons]; exact h1 _ _ ih
theorem valN_lt (l : List UInt8) : valN l < 256 ^ l.length := by
  refine list_snoc_rec (P := fun l => valN l < 256 ^ l.length) ?_ ?_ l
  · exact Nat.one_pos
  · intro l c h
    have := c.toNat_lt
    rw [valN_snoc, List.length_append, List.length_singleton, Nat.pow_succ]
    omega
theorem valI_nat (l : List UInt8) (h : l.length ≤ 7) : valI l = (valN l : Int) := by
  revert h
  refine list_snoc_rec (P := fun l => l.length ≤ 7 → valI l = (valN l : Int)) ?_ ?_ l
  · intro _; rfl
  · intro l c ih h
    rw [List.length_append, List.length_singleton] at h
    have hl : valN (l ++ [c]) < 256 ^ 7 := Nat.lt_of_lt_of_le (valN_lt _) (Nat.pow_le_pow_right (by decide) (by rw [List.length_append, List.length_singleton]; exact h))
    rw [valI_snoc, ih (by omega), valN_snoc]
    rw [valN_snoc] at hl
    unfold wrap64
    omega
theorem takeT_len (s : ByteArray) (b : Bool) (n : Nat) : (bs (takeT s b n)).length ≤ n := by
  unfold takeT
  split
  · exact Nat.zero_le _
  · rw [length_bs, ByteArray.size_extract]; omega
theorem valT (s : ByteArray) (b : Bool) (n : Nat) (hn : n ≤ 7) : ∃ k : Nat, valI (bs (takeT s b n)) = (k : Int) ∧ k < 256 ^ n :=
  ⟨valN _, valI_nat _ (Nat.le_trans (takeT_len s b n) hn), Nat.lt_of_lt_of_le (valN_lt _) (Nat.pow_le_pow_right (by decide) (takeT_len s b n))⟩
theorem restT_size (s : ByteArray) (b : Bool) (n : Nat) : (restT s b n).size ≤ s.size := by
  unfold restT
  split
  · exact Nat.le_refl _
  · rw [ByteArray.size_extract]; omega
theorem bs_extractTD (s : ByteArray) (i j : Nat) : bs (s.extract i j) = ((bs s).take j).drop i := by
  unfold bs
  simp [ByteArray.data_extract, List.drop_take]
theorem tk_ok {s : ByteArray} {b : Bool} {n : Nat} (h : badT s b n = false) : b = false ∧ bs (takeT s b n) = (bs s).take n ∧ bs (restT s b n) = (bs s).drop n ∧ n ≤ s.size := by
  have hb := h
  unfold badT at h
  rw [Bool.or_eq_false_iff] at h
  obtain ⟨h1, h2⟩ := h
  have h3 : n ≤ s.size := by have := of_decide_eq_false h2; omega
  refine ⟨h1, ?_, ?_, h3⟩
  · unfold takeT
    rw [hb]
    simp only [Bool.false_eq_true, if_false]
    rw [bs_extractTD, List.drop_zero]
  · unfold restT
    rw [hb]
    simp only [Bool.false_eq_true, if_false]
    rw [bs_extractTD, List.take_of_length_le (by rw [length_bs]; exact Nat.le_refl _)]
end Go.Proofs.YtkoemhdchoicaaaDoor

/- The plain law of wire's records: what is written is read, and what is read was written so. -/
namespace Go.Proofs.YtkoemhdchoicaaaDoor
open Go.RowKit
abbrev bS (l : List UInt8) : ByteArray := ⟨l.toArray⟩
theorem bs_bS (l : List UInt8) : bs (bS l) = l := rfl
theorem bS_bs (s : ByteArray) : bS (bs s) = s := by
  apply ByteArray.ext
  simp [bs]
theorem bS_add (l : List UInt8) (m : ByteArray) : bS l ++ m = bS (l ++ bs m) := by
  apply ByteArray.ext
  simp [bs]
theorem bS_size (l : List UInt8) : (bS l).size = l.length := by show l.toArray.size = _; simp
theorem valN_cons (c : UInt8) (l : List UInt8) : valN (c :: l) = c.toNat * 256 ^ l.length + valN l := by
  refine list_snoc_rec (P := fun l => valN (c :: l) = c.toNat * 256 ^ l.length + valN l) ?_ ?_ l
  · show 0 * 256 + c.toNat = c.toNat * 1 + 0
    omega
  · intro l d ih
    rw [← List.cons_append, valN_snoc, ih, valN_snoc, List.length_append, List.length_singleton, Nat.pow_succ, Nat.add_mul, ← Nat.mul_assoc]
    omega
theorem valN_be : ∀ (n x : Nat), valN (be n x) = x % 256 ^ n
  | 0, x => by rw [Nat.pow_zero, Nat.mod_one]; rfl
  | n + 1, x => by
    have h : be (n + 1) x = UInt8.ofNat (x / 256 ^ n) :: be n x := rfl
    rw [h, valN_cons, valN_be n x, be_length, Nat.mod_pow_succ, Nat.mul_comm, Nat.add_comm]
    congr 2
theorem be_add : ∀ (n a v : Nat), be n (a * 256 ^ n + v) = be n v
  | 0, _, _ => rfl
  | n + 1, a, v => by
    have e : a * 256 ^ (n + 1) + v = (a * 256) * 256 ^ n + v := by rw [Nat.pow_succ, Nat.mul_comm (256 ^ n), Nat.mul_assoc]
    rw [e]
    show UInt8.ofNat (((a * 256) * 256 ^ n + v) / 256 ^ n) :: be n ((a * 256) * 256 ^ n + v) = UInt8.ofNat (v / 256 ^ n) :: be n v
    rw [be_add n (a * 256) v, Nat.add_comm, Nat.add_mul_div_right _ _ (Nat.pow_pos (by decide))]
    congr 1
    apply UInt8.toNat_inj.1
    simp
theorem be_valN : ∀ (l : List UInt8), be l.length (valN l) = l
  | [] => rfl
  | c :: l => by
    have h : valN (c :: l) = c.toNat * 256 ^ l.length + valN l := valN_cons c l
    have hl := valN_lt l
    rw [h]
    show UInt8.ofNat ((c.toNat * 256 ^ l.length + valN l) / 256 ^ l.length) :: be l.length (c.toNat * 256 ^ l.length + valN l) = _
    rw [be_add, be_valN l, Nat.add_comm, Nat.add_mul_div_right _ _ (Nat.pow_pos (by decide)), Nat.div_eq_of_lt hl]
    congr 1
    apply UInt8.toNat_inj.1
    simp
theorem valI_wrap (l : List UInt8) : valI l = wrap64 (valN l : Int) := by
  refine list_snoc_rec (P := fun l => valI l = wrap64 (valN l : Int)) ?_ ?_ l
  · show (0 : Int) = wrap64 0
    unfold wrap64
    omega
  · intro l c ih
    rw [valI_snoc, ih, valN_snoc]
    unfold wrap64
    omega
theorem be_one (x : Nat) : be 1 x = [UInt8.ofNat x] := by
  show [UInt8.ofNat (x / 256 ^ 0)] = _
  rw [Nat.pow_zero, Nat.div_one]
theorem eat {x y : List UInt8} {n : Nat} (h : x.length = n) : badT (bS (x ++ y)) false n = false ∧ takeT (bS (x ++ y)) false n = bS x ∧ restT (bS (x ++ y)) false n = bS y := by
  have hb : badT (bS (x ++ y)) false n = false := by
    unfold badT
    rw [Bool.false_or, bS_size, List.length_append]
    exact decide_eq_false (by omega)
  obtain ⟨_, h2, h3, _⟩ := tk_ok hb
  refine ⟨hb, bs_inj ?_, bs_inj ?_⟩
  · rw [h2, bs_bS, bs_bS, ← h, List.take_left]
  · rw [h3, bs_bS, bs_bS, ← h, List.drop_left]
theorem dec_shape (B C more : List UInt8) (n : Nat) (hn : n ≤ 1024) (hB : B.length = n) (hC : C.length = 4) :
    decR (bS ([84] ++ (be 2 n ++ (B ++ (C ++ more))))) = bif ((sumN ([84] ++ be 2 n ++ B) : Nat) : Int) != (valN C : Int) then (txn0, 0, 5) else dB1 n (bS B) false := by
  have e1 := eat (x := [84]) (y := be 2 n ++ (B ++ (C ++ more))) (n := 1) rfl
  have e2 := eat (x := be 2 n) (y := B ++ (C ++ more)) (n := 2) (be_length _ _)
  have e3 := eat (x := B) (y := C ++ more) (n := n) hB
  have e4 := eat (x := C) (y := more) (n := 4) hC
  have hv : valI (bs (bS (be 2 n))) = (n : Int) := by
    rw [bs_bS, valI_nat _ (by rw [be_length]; decide), valN_be, Nat.mod_eq_of_lt (by omega)]
  have hx : bs ((bS ([84] ++ (be 2 n ++ (B ++ (C ++ more))))).extract 0 (3 + n)) = [84] ++ be 2 n ++ B := by
    rw [bs_extractTD, List.drop_zero, bs_bS]
    have : [84] ++ (be 2 n ++ (B ++ (C ++ more))) = ([84] ++ be 2 n ++ B) ++ (C ++ more) := by simp only [List.append_assoc]
    rw [this, List.take_left' (by simp [be_length]; omega)]
  unfold decR
  rw [e1.1, e1.2.1, e1.2.2]
  have h0 : (!((bS [84]).toList == [84])) = false := by rw [ByteArray.toList_eq]; rfl
  rw [dec1_ok h0 (n := n) (by rw [e2.2.1]; exact hv), e2.1, e2.2.2, dec2_ok (by decide) (by omega), e3.1, e3.2.1, e3.2.2]
  unfold dec3
  rw [e4.1, e4.2.1, bs_bS, valI_nat _ (by omega)]
  unfold dec4
  rw [hx]
  rfl
theorem dB1_eval (n : Int) (z o s v ow : Nat) (p d : List UInt8) (hz : z < 4611686018427387904) (ho : o < 256) (hs : s < 4294967296) (hv : v < 4294967296) (how : ow < 4294967296) (hp : p.length < 256) (hd : d.length < 65536) :
    dB1 n (bS (bodyL z o s v ow p d)) false = dB10 n z o s v ow (bS p) (bS d) (bS []) false := by
  have hb : bodyL z o s v ow p d = be 8 z ++ (be 1 o ++ (be 4 s ++ (be 4 v ++ (be 4 ow ++ (be 1 p.length ++ (p ++ (be 2 d.length ++ (d ++ [])))))))) := by
    unfold bodyL
    simp only [List.append_assoc, be_one, List.append_nil]
  have f8 : valI (bs (bS (be 8 z))) = (z : Int) := by
    rw [bs_bS, valI_wrap, valN_be, Nat.mod_eq_of_lt (by omega)]
    unfold wrap64
    omega
  have fk : ∀ (k x : Nat), k ≤ 7 → x < 256 ^ k → valI (bs (bS (be k x))) = (x : Int) := by
    intro k x hk hx
    rw [bs_bS, valI_nat _ (by rw [be_length]; exact hk), valN_be, Nat.mod_eq_of_lt hx]
  rw [hb]
  unfold dB1
  have e := eat (x := be 8 z) (y := be 1 o ++ (be 4 s ++ (be 4 v ++ (be 4 ow ++ (be 1 p.length ++ (p ++ (be 2 d.length ++ (d ++ [])))))))) (n := 8) (be_length _ _)
  rw [e.1, e.2.1, e.2.2, f8]
  unfold dB2
  have e := eat (x := be 1 o) (y := be 4 s ++ (be 4 v ++ (be 4 ow ++ (be 1 p.length ++ (p ++ (be 2 d.length ++ (d ++ []))))))) (n := 1) (be_length _ _)
  rw [e.1, e.2.1, e.2.2, fk 1 o (by decide) (by omega)]
  unfold dB3
  have e := eat (x := be 4 s) (y := be 4 v ++ (be 4 ow ++ (be 1 p.length ++ (p ++ (be 2 d.length ++ (d ++ [])))))) (n := 4) (be_length _ _)
  rw [e.1, e.2.1, e.2.2, fk 4 s (by decide) (by omega)]
  unfold dB4
  have e := eat (x := be 4 v) (y := be 4 ow ++ (be 1 p.length ++ (p ++ (be 2 d.length ++ (d ++ []))))) (n := 4) (be_length _ _)
  rw [e.1, e.2.1, e.2.2, fk 4 v (by decide) (by omega)]
  unfold dB5
  have e := eat (x := be 4 ow) (y := be 1 p.length ++ (p ++ (be 2 d.length ++ (d ++ [])))) (n := 4) (be_length _ _)
  rw [e.1, e.2.1, e.2.2, fk 4 ow (by decide) (by omega)]
  unfold dB6
  have e := eat (x := be 1 p.length) (y := p ++ (be 2 d.length ++ (d ++ []))) (n := 1) (be_length _ _)
  rw [e.1, e.2.1, e.2.2, fk 1 p.length (by decide) (by omega), Int.toNat_natCast]
  unfold dB7
  have e := eat (x := p) (y := be 2 d.length ++ (d ++ [])) (n := p.length) rfl
  rw [e.1, e.2.1, e.2.2]
  unfold dB8
  have e := eat (x := be 2 d.length) (y := d ++ []) (n := 2) (be_length _ _)
  rw [e.1, e.2.1, e.2.2, fk 2 d.length (by decide) (by omega), Int.toNat_natCast]
  unfold dB9
  have e := eat (x := d) (y := []) (n := d.length) rfl
  rw [e.1, e.2.1, e.2.2]
end Go.Proofs.YtkoemhdchoicaaaDoor

/- The plain laws of wire's records, together. -/
namespace Go.Proofs.YtkoemhdchoicaaaDoor
open Go.RowKit
theorem goodT_mk {z o s v ow : Int} {p d : ByteArray} (h : goodT ⟨z, o, s, p, d, v, ow⟩ = 0) : GoodF ⟨z, o, s, p, d, v, ow⟩ := goodT_facts _ h
theorem recT_length (t : Txn) : (recT t).length = (bodyL t.zxid.toNat t.op.toNat t.session.toNat t.version.toNat t.owner.toNat (bs t.path) (bs t.data)).length + 7 := by
  unfold recT recL headL
  simp [be_length]
  omega
theorem body_small (t : Txn) (h : goodT t = 0) : (bodyL t.zxid.toNat t.op.toNat t.session.toNat t.version.toNat t.owner.toNat (bs t.path) (bs t.data)).length ≤ 1024 := by
  have f := goodT_facts t h
  have := f.d1
  have := f.p1
  rw [bodyL_length, length_bs, length_bs]
  omega
theorem body_eval (t : Txn) (h : goodT t = 0) (n : Int) : dB1 n (bS (bodyL t.zxid.toNat t.op.toNat t.session.toNat t.version.toNat t.owner.toNat (bs t.path) (bs t.data))) false = (t, n + 7, 0) := by
  have f := goodT_facts t h
  have f1 := f.d1
  have f2 := f.p1
  have f3 := f.z0
  have f4 := f.z1
  have f5 := f.o0
  have f6 := f.o1
  have f7 := f.s0
  have f8 := f.s1
  have f9 := f.v0
  have f10 := f.v1
  have f11 := f.w0
  have f12 := f.w1
  rw [dB1_eval n _ _ _ _ _ _ _ (by omega) (by omega) (by omega) (by omega) (by omega) (by rw [length_bs]; omega) (by rw [length_bs]; omega)]
  rw [Int.toNat_of_nonneg f3, Int.toNat_of_nonneg (show 0 ≤ t.op by omega), Int.toNat_of_nonneg (show 0 ≤ t.session by omega), Int.toNat_of_nonneg f9, Int.toNat_of_nonneg f11, bS_bs, bS_bs]
  exact dB10_ok (by decide) (by rw [ByteArray.toList_eq]; rfl) (by show (goodT t != 0) = false; rw [h]; rfl)
theorem dec_back (t : Txn) (h : goodT t = 0) (more : List UInt8) : decR (bS (recT t ++ more)) = (t, ((recT t).length : Int), 0) := by
  have hB := body_small t h
  have hl := recT_length t
  have he := fun n => body_eval t h n
  rw [hl]
  unfold recT
  generalize bodyL t.zxid.toNat t.op.toNat t.session.toNat t.version.toNat t.owner.toNat (bs t.path) (bs t.data) = B at *
  have e : recL B ++ more = [84] ++ (be 2 B.length ++ (B ++ (be 4 (sumN (headL B)) ++ more))) := by
    unfold recL headL
    simp only [List.append_assoc]
  rw [e, dec_shape B _ more B.length hB rfl (be_length _ _), valN_be, Nat.mod_eq_of_lt (show sumN (headL B) < 256 ^ 4 from sumN_lt _)]
  have e2 : (((sumN ([84] ++ be 2 B.length ++ B) : Nat) : Int) != ((sumN (headL B) : Nat) : Int)) = false := by unfold headL; simp
  rw [e2, he]
  simp
theorem badT_true (s : ByteArray) (n : Nat) : badT s true n = true := rfl
theorem badT_short {l : List UInt8} {n : Nat} (h : l.length < n) : badT (bS l) false n = true := by
  unfold badT
  rw [bS_size, decide_eq_true h]
  rfl
theorem takeT_bad {s : ByteArray} {b : Bool} {n : Nat} (h : badT s b n = true) : takeT s b n = ⟨#[]⟩ := by unfold takeT; rw [h]; rfl
theorem dec_none : decR (bS []) = (txn0, 0, 2) := by
  unfold decR
  have h := badT_short (l := []) (n := 1) (by decide)
  rw [h, takeT_bad h]
  exact dec1_bad (by rw [ByteArray.toList_eq]; rfl)
theorem wdec_len {y : List UInt8} (h : y.length < 2) : decR (bS ([84] ++ y)) = (txn0, 0, 2) := by
  have e1 := eat (x := [84]) (y := y) (n := 1) rfl
  have hb := badT_short (l := y) (n := 2) h
  unfold decR
  rw [e1.1, e1.2.1, e1.2.2]
  have h0 : (!((bS [84]).toList == [84])) = false := by rw [ByteArray.toList_eq]; rfl
  rw [dec1_ok h0 (n := 0) (by rw [takeT_bad hb]; rfl), hb]
  exact dec2_bad rfl
theorem dec_short {y : List UInt8} {n : Nat} (hn : n ≤ 1024) (h : y.length < n + 4) : decR (bS ([84] ++ (be 2 n ++ y))) = (txn0, 0, 2) := by
  have e1 := eat (x := [84]) (y := be 2 n ++ y) (n := 1) rfl
  have e2 := eat (x := be 2 n) (y := y) (n := 2) (be_length _ _)
  have hv : valI (bs (bS (be 2 n))) = (n : Int) := by
    rw [bs_bS, valI_nat _ (by rw [be_length]; decide), valN_be, Nat.mod_eq_of_lt (by omega)]
  unfold decR
  rw [e1.1, e1.2.1, e1.2.2]
  have h0 : (!((bS [84]).toList == [84])) = false := by rw [ByteArray.toList_eq]; rfl
  rw [dec1_ok h0 (n := n) (by rw [e2.2.1]; exact hv), e2.1, e2.2.2, dec2_ok (by decide) (by omega)]
  unfold dec3
  refine dec4_bad ?_
  by_cases hy : y.length < n
  · rw [badT_short hy, badT_true]
  · have e3 := eat (x := y.take n) (y := y.drop n) (n := n) (by rw [List.length_take]; omega)
    rw [List.take_append_drop] at e3
    rw [e3.1, e3.2.2]
    exact badT_short (by rw [List.length_drop]; omega)
theorem dec_cut (t : Txn) (h : goodT t = 0) (k : Nat) (hk : k < (recT t).length) : decR (bS ((recT t).take k)) = (txn0, 0, 2) := by
  have hB := body_small t h
  rw [recT_length t] at hk
  unfold recT
  generalize bodyL t.zxid.toNat t.op.toNat t.session.toNat t.version.toNat t.owner.toNat (bs t.path) (bs t.data) = B at *
  have e : recL B = [84] ++ (be 2 B.length ++ (B ++ be 4 (sumN (headL B)))) := by
    unfold recL headL
    simp only [List.append_assoc]
  rw [e]
  match k, hk with
  | 0, _ => exact dec_none
  | 1, _ => exact wdec_len (y := []) (by decide)
  | 2, _ =>
    rw [List.take_append, List.take_of_length_le (show ([84] : List UInt8).length ≤ 2 by decide)]
    exact wdec_len (by rw [List.length_take]; show min 1 _ < 2; omega)
  | k + 3, hk =>
    rw [List.take_append, List.take_of_length_le (show ([84] : List UInt8).length ≤ k + 3 by simp), List.take_append, List.take_of_length_le (show (be 2 B.length).length ≤ _ by rw [be_length]; simp)]
    refine dec_short hB ?_
    rw [List.length_take, be_length]
    simp
    omega
theorem xor_can {a b p : Nat} (h : a ^^^ p = b ^^^ p) : a = b := by
  have h2 := congrArg (· ^^^ p) h
  simpa [Nat.xor_assoc] using h2
theorem xor_top {a : Nat} (h : a < 2147483648) : 2147483648 ≤ a ^^^ 3988292384 := by
  refine Nat.ge_two_pow_of_testBit (i := 31) ?_
  rw [Nat.testBit_xor, Nat.testBit_lt_two_pow (show a < 2 ^ 31 from h)]
  decide
theorem rnd_inj {a b : Nat} (ha : a < 4294967296) (hb : b < 4294967296) (h : rnd a = rnd b) : a = b := by
  unfold rnd at h
  have t1 := xor_top (a := a / 2) (by omega)
  have t2 := xor_top (a := b / 2) (by omega)
  split at h
  · split at h
    · have := xor_can h
      omega
    · omega
  · split at h
    · omega
    · omega
theorem rndN_inj {a b : Nat} (ha : a < 4294967296) (hb : b < 4294967296) : ∀ n, rndN n a = rndN n b → a = b
  | 0, h => h
  | n + 1, h => rndN_inj ha hb n (rnd_inj (rndN_lt ha n) (rndN_lt hb n) h)
theorem sumK_inj : ∀ (l : List UInt8) {a b : Nat}, a < 4294967296 → b < 4294967296 → sumK l a = sumK l b → a = b
  | [], _, _, _, _, h => h
  | x :: r, a, b, ha, hb, h => by
    have hx : x.toNat < 256 := x.toNat_lt
    have h1 := sumK_inj r (rndN_lt (xor_lt ha (by omega)) 8) (rndN_lt (xor_lt hb (by omega)) 8) h
    exact xor_can (rndN_inj (xor_lt ha (by omega)) (xor_lt hb (by omega)) 8 h1)
theorem sumK_app (l m : List UInt8) (c : Nat) : sumK (l ++ m) c = sumK m (sumK l c) := by unfold sumK; rw [List.foldl_append]
theorem sumN_diff (l m : List UInt8) (x y : UInt8) (h : x ≠ y) : sumN (l ++ x :: m) ≠ sumN (l ++ y :: m) := by
  intro e
  have h1 := sumK_lt (l ++ x :: m) (c := 4294967295) (by decide)
  have h2 := sumK_lt (l ++ y :: m) (c := 4294967295) (by decide)
  have h3 : sumK (l ++ x :: m) 4294967295 = sumK (l ++ y :: m) 4294967295 := by unfold sumN at e; omega
  rw [sumK_app, sumK_app] at h3
  have hl := sumK_lt l (c := 4294967295) (by decide)
  have hx : x.toNat < 256 := x.toNat_lt
  have hy : y.toNat < 256 := y.toNat_lt
  have h4 := sumK_inj m (rndN_lt (xor_lt hl (show x.toNat < 4294967296 by omega)) 8) (rndN_lt (xor_lt hl (show y.toNat < 4294967296 by omega)) 8) h3
  have h5 := rndN_inj (xor_lt hl (by omega)) (xor_lt hl (by omega)) 8 h4
  rw [Nat.xor_comm, Nat.xor_comm _ y.toNat] at h5
  exact h (UInt8.toNat_inj.1 (xor_can h5))
end Go.Proofs.YtkoemhdchoicaaaDoor

/- The plain laws of wire's records: a byte that is changed, and what is read at all. -/
namespace Go.Proofs.YtkoemhdchoicaaaDoor
open Go.RowKit
theorem list_at {l : List UInt8} {i : Nat} {c : UInt8} (h : l[i]? = some c) : l = l.take i ++ c :: l.drop (i + 1) := by
  obtain ⟨hlt, hc⟩ := List.getElem?_eq_some_iff.1 h
  have := List.take_append_drop i l
  rw [List.drop_eq_getElem_cons hlt, hc] at this
  exact this.symm
theorem valN_inj {a b : List UInt8} (hl : a.length = b.length) (h : valN a = valN b) : a = b := by
  rw [← be_valN a, ← be_valN b, h, hl]
theorem turned_shape (B C : List UInt8) (hB : B.length ≤ 1024) (hC : C.length = 4) (hs : sumN ([84] ++ be 2 B.length ++ B) = valN C) (i : Nat) (c c' : UInt8) (hc : (B ++ C)[i]? = some c) (hne : c' ≠ c) :
    decR (bS ([84] ++ (be 2 B.length ++ ((B ++ C).take i ++ c' :: (B ++ C).drop (i + 1))))) = (txn0, 0, 5) := by
  by_cases hi : i < B.length
  · have hcB : B[i]? = some c := by rw [List.getElem?_append_left hi] at hc; exact hc
    have eB := list_at hcB
    have e1 : (B ++ C).take i ++ c' :: (B ++ C).drop (i + 1) = (B.take i ++ c' :: B.drop (i + 1)) ++ (C ++ []) := by
      rw [List.take_append_of_le_length (by omega), List.drop_append_of_le_length (by omega)]
      simp
    have hl : (B.take i ++ c' :: B.drop (i + 1)).length = B.length := by
      simp
      omega
    rw [e1, dec_shape _ C [] B.length hB hl hC, ← hs]
    have hd : sumN ([84] ++ be 2 B.length ++ (B.take i ++ c' :: B.drop (i + 1))) ≠ sumN ([84] ++ be 2 B.length ++ B) := by
      have := sumN_diff ([84] ++ be 2 B.length ++ B.take i) (B.drop (i + 1)) c' c hne
      rw [List.append_assoc, List.append_assoc ([84] ++ be 2 B.length), ← eB] at this
      exact this
    rw [show (((sumN ([84] ++ be 2 B.length ++ (B.take i ++ c' :: B.drop (i + 1))) : Nat) : Int) != ((sumN ([84] ++ be 2 B.length ++ B) : Nat) : Int)) = true from bne_iff_ne.2 (fun e => hd (by omega))]
    rfl
  · have hj : (B ++ C)[i]? = C[i - B.length]? := List.getElem?_append_right (by omega)
    rw [hj] at hc
    have eC := list_at hc
    have e1 : (B ++ C).take i ++ c' :: (B ++ C).drop (i + 1) = B ++ ((C.take (i - B.length) ++ c' :: C.drop (i - B.length + 1)) ++ []) := by
      rw [List.take_append, List.take_of_length_le (by omega), List.drop_append, List.drop_of_length_le (by omega), show i + 1 - B.length = i - B.length + 1 by omega]
      simp
    obtain ⟨hlt, _⟩ := List.getElem?_eq_some_iff.1 hc
    have hl : (C.take (i - B.length) ++ c' :: C.drop (i - B.length + 1)).length = 4 := by
      simp
      omega
    rw [e1, dec_shape B _ [] B.length hB rfl hl, hs]
    have hd : valN C ≠ valN (C.take (i - B.length) ++ c' :: C.drop (i - B.length + 1)) := by
      intro e
      have e2 := valN_inj (by rw [hl, hC]) e
      have e3 := congrArg (fun l => l[i - B.length]?) e2
      rw [hc, List.getElem?_append_right (by rw [List.length_take]; omega), List.length_take, Nat.min_eq_left (by omega), Nat.sub_self] at e3
      simp at e3
      exact hne e3.symm
    rw [show (((valN C : Nat) : Int) != ((valN (C.take (i - B.length) ++ c' :: C.drop (i - B.length + 1)) : Nat) : Int)) = true from bne_iff_ne.2 (fun e => hd (by omega))]
    rfl
theorem dec_turned (t : Txn) (h : goodT t = 0) (i : Nat) (c c' : UInt8) (hc : (recT t)[i + 3]? = some c) (hne : c' ≠ c) :
    decR (bS ((recT t).take (i + 3) ++ c' :: (recT t).drop (i + 4))) = (txn0, 0, 5) := by
  have hB := body_small t h
  unfold recT at *
  generalize bodyL t.zxid.toNat t.op.toNat t.session.toNat t.version.toNat t.owner.toNat (bs t.path) (bs t.data) = B at *
  have e : recL B = ([84] ++ be 2 B.length) ++ (B ++ be 4 (sumN (headL B))) := by
    unfold recL headL
    simp only [List.append_assoc]
  have h3 : ([84] ++ be 2 B.length).length = 3 := by simp [be_length]
  rw [e, List.getElem?_append_right (by omega), h3, Nat.add_sub_cancel] at hc
  have hv : sumN ([84] ++ be 2 B.length ++ B) = valN (be 4 (sumN (headL B))) := by
    rw [valN_be, Nat.mod_eq_of_lt (show sumN (headL B) < 256 ^ 4 from sumN_lt _)]
    rfl
  have e2 := turned_shape B (be 4 (sumN (headL B))) hB (be_length _ _) hv i c c' hc hne
  have e3 : (recL B).take (i + 3) ++ c' :: (recL B).drop (i + 4) = [84] ++ (be 2 B.length ++ ((B ++ be 4 (sumN (headL B))).take i ++ c' :: (B ++ be 4 (sumN (headL B))).drop (i + 1))) := by
    rw [e, List.take_append, List.take_of_length_le (by omega), List.drop_append, List.drop_of_length_le (by omega), h3, Nat.add_sub_cancel, show i + 4 - 3 = i + 1 by omega]
    simp only [List.append_assoc, List.nil_append]
  rw [e3]
  exact e2
theorem tk_two {s : ByteArray} {b : Bool} {n : Nat} (h : badT s b n = false) : b = false ∧ bs s = bs (takeT s b n) ++ bs (restT s b n) ∧ (bs (takeT s b n)).length = n := by
  obtain ⟨h1, h2, h3, h4⟩ := tk_ok h
  refine ⟨h1, ?_, ?_⟩
  · rw [h2, h3, List.take_append_drop]
  · rw [h2, List.length_take, length_bs]
    omega
theorem val7 {l : List UInt8} {n : Nat} (h : l.length = n) (hn : n ≤ 7) : be n (valI l).toNat = l := by
  rw [valI_nat l (by omega), Int.toNat_natCast, ← h, be_valN]
theorem val8 {l : List UInt8} (h : l.length = 8) (h0 : 0 ≤ valI l) : be 8 (valI l).toNat = l := by
  have hl := valN_lt l
  rw [h] at hl
  have e : (valI l).toNat = valN l := by
    rw [valI_wrap] at *
    unfold wrap64 at *
    omega
  rw [e, ← h, be_valN]
theorem dB1_inv (n : Int) (B : ByteArray) : (∃ t, goodT t = 0 ∧ bs B = bodyL t.zxid.toNat t.op.toNat t.session.toNat t.version.toNat t.owner.toNat (bs t.path) (bs t.data) ∧ dB1 n B false = (t, n + 7, 0)) ∨ ∃ e, e ≠ 0 ∧ dB1 n B false = (txn0, 0, e) := by
  unfold dB1 dB2 dB3 dB4 dB5 dB6 dB7 dB8 dB9
  generalize hu1 : restT B false 8 = u1
  generalize hc1 : badT B false 8 = c1
  generalize hu2 : restT u1 c1 1 = u2
  generalize hc2 : badT u1 c1 1 = c2
  generalize hu3 : restT u2 c2 4 = u3
  generalize hc3 : badT u2 c2 4 = c3
  generalize hu4 : restT u3 c3 4 = u4
  generalize hc4 : badT u3 c3 4 = c4
  generalize hu5 : restT u4 c4 4 = u5
  generalize hc5 : badT u4 c4 4 = c5
  generalize hu6 : restT u5 c5 1 = u6
  generalize hc6 : badT u5 c5 1 = c6
  generalize hpl : (valI (bs (takeT u5 c5 1))).toNat = pl
  generalize hu7 : restT u6 c6 pl = u7
  generalize hc7 : badT u6 c6 pl = c7
  generalize hu8 : restT u7 c7 2 = u8
  generalize hc8 : badT u7 c7 2 = c8
  generalize hdl : (valI (bs (takeT u7 c7 2))).toNat = dl
  generalize hu9 : restT u8 c8 dl = u9
  generalize hc9 : badT u8 c8 dl = c9
  cases hb : c9 with
  | true => exact .inr ⟨2, by decide, dB10_bad rfl⟩
  | false =>
    cases hm : !u9.toList.isEmpty with
    | true => exact .inr ⟨2, by decide, dB10_more hm⟩
    | false =>
      cases hg : goodT ⟨valI (bs (takeT B false 8)), valI (bs (takeT u1 c1 1)), valI (bs (takeT u2 c2 4)), takeT u6 c6 pl, takeT u8 c8 dl, valI (bs (takeT u3 c3 4)), valI (bs (takeT u4 c4 4))⟩ != 0 with
      | true => exact .inr ⟨_, bne_iff_ne.1 hg, dB10_not (by decide) hm hg⟩
      | false =>
        have hg0 : goodT ⟨valI (bs (takeT B false 8)), valI (bs (takeT u1 c1 1)), valI (bs (takeT u2 c2 4)), takeT u6 c6 pl, takeT u8 c8 dl, valI (bs (takeT u3 c3 4)), valI (bs (takeT u4 c4 4))⟩ = 0 := by simpa using hg
        refine .inl ⟨_, hg0, ?_, dB10_ok (by decide) hm hg⟩
        have f := goodT_facts _ hg0
        have f0 := f.z0
        dsimp only at f0 ⊢
        have k9 := tk_two (hc9.trans hb)
        have k8 := tk_two (hc8.trans k9.1)
        have k7 := tk_two (hc7.trans k8.1)
        have k6 := tk_two (hc6.trans k7.1)
        have k5 := tk_two (hc5.trans k6.1)
        have k4 := tk_two (hc4.trans k5.1)
        have k3 := tk_two (hc3.trans k4.1)
        have k2 := tk_two (hc2.trans k3.1)
        have k1 := tk_two (hc1.trans k2.1)
        have h9 : bs u9 = [] := by
          rw [ByteArray.toList_eq] at hm
          unfold bs
          simpa using hm
        have v1 := val8 k1.2.2 f0
        have v2 := val7 k2.2.2 (by decide)
        have v3 := val7 k3.2.2 (by decide)
        have v4 := val7 k4.2.2 (by decide)
        have v5 := val7 k5.2.2 (by decide)
        have v6 := val7 k6.2.2 (by decide)
        have v8 := val7 k8.2.2 (by decide)
        rw [hpl] at v6
        rw [hdl] at v8
        rw [k1.2.1, hu1, k2.2.1, hu2, k3.2.1, hu3, k4.2.1, hu4, k5.2.1, hu5, k6.2.1, hu6, k7.2.1, hu7, k8.2.1, hu8, k9.2.1, hu9, h9]
        unfold bodyL
        rw [v1, ← be_one, v2, v3, v4, v5, k7.2.2, ← be_one, v6, k9.2.2, v8]
        simp only [List.append_assoc, List.append_nil]
theorem dec_inv (s : ByteArray) : (∃ t rest, goodT t = 0 ∧ bs s = recT t ++ rest ∧ decR s = (t, ((recT t).length : Int), 0)) ∨ ∃ e, e ≠ 0 ∧ decR s = (txn0, 0, e) := by
  unfold decR
  generalize hu1 : restT s false 1 = s1
  generalize hc1 : badT s false 1 = b1
  cases h1 : !((takeT s false 1).toList == [84]) with
  | true => exact .inr ⟨2, by decide, dec1_bad h1⟩
  | false =>
    obtain ⟨n, hn, _⟩ := valT s1 b1 2 (by decide)
    rw [dec1_ok h1 hn]
    generalize hu2 : restT s1 b1 2 = s2
    generalize hc2 : badT s1 b1 2 = b2
    cases hb2 : b2 with
    | true => exact .inr ⟨2, by decide, dec2_bad rfl⟩
    | false =>
      by_cases hbig : 1024 < (n : Int)
      · exact .inr ⟨2, by decide, dec2_big hbig⟩
      · rw [dec2_ok (by decide) (by omega)]
        unfold dec3
        rw [← hb2]
        generalize hu3 : restT s2 b2 n = s3
        generalize hc3 : badT s2 b2 n = b3
        generalize hc4 : badT s3 b3 4 = b4
        cases hb4 : b4 with
        | true => exact .inr ⟨2, by decide, dec4_bad rfl⟩
        | false =>
          cases hs : ((sumN (bs (s.extract 0 (3 + n))) : Nat) : Int) != valI (bs (takeT s3 b3 4)) with
          | true => exact .inr ⟨5, by decide, dec4_sum rfl hs⟩
          | false =>
            rw [dec4_ok rfl hs]
            rcases dB1_inv n (takeT s2 b2 n) with ⟨t, hg, hB, hd⟩ | h
            · have k4 := tk_two (hc4.trans hb4)
              have k3 := tk_two (hc3.trans k4.1)
              have k2 := tk_two (hc2.trans hb2)
              have k1 := tk_two (hc1.trans k2.1)
              have ht : bs (takeT s false 1) = [84] := by
                rw [ByteArray.toList_eq] at h1
                unfold bs
                simpa using h1
              have hn2 := val7 k2.2.2 (by decide)
              rw [hn, Int.toNat_natCast] at hn2
              have hv4 := val7 k4.2.2 (by decide)
              have es : bs s = [84] ++ (be 2 n ++ (bs (takeT s2 b2 n) ++ (bs (takeT s3 b3 4) ++ bs (restT s3 b3 4)))) := by
                rw [k1.2.1, hu1, ht, k2.2.1, hu2, ← hn2, k3.2.1, hu3, k4.2.1]
              have hlen := k3.2.2
              generalize bs (takeT s2 b2 n) = B at *
              have hx : bs (s.extract 0 (3 + n)) = [84] ++ be 2 n ++ B := by
                rw [bs_extractTD, List.drop_zero, es]
                have : [84] ++ (be 2 n ++ (B ++ (bs (takeT s3 b3 4) ++ bs (restT s3 b3 4)))) = ([84] ++ be 2 n ++ B) ++ (bs (takeT s3 b3 4) ++ bs (restT s3 b3 4)) := by simp only [List.append_assoc]
                rw [this, List.take_left' (by simp [be_length]; omega)]
              rw [hx] at hs
              have hs2 : ((sumN ([84] ++ be 2 n ++ B) : Nat) : Int) = valI (bs (takeT s3 b3 4)) := by simpa using hs
              rw [← hs2, Int.toNat_natCast] at hv4
              have er : recT t = [84] ++ (be 2 n ++ (B ++ bs (takeT s3 b3 4))) := by
                unfold recT recL headL
                rw [← hB, hlen, hv4]
                simp only [List.append_assoc]
              refine .inl ⟨t, bs (restT s3 b3 4), hg, ?_, ?_⟩
              · rw [es, er]
                simp only [List.append_assoc]
              · rw [hd, er]
                simp [be_length, hlen, k4.2.2]
                omega
            · exact .inr h
end Go.Proofs.YtkoemhdchoicaaaDoor

/- The number of a log's last transaction. -/
namespace Go.Proofs.YtkoemhdchoicaaaDoor
def lastZ (l : List Txn) : Int := match l.getLast? with | some t => t.zxid | none => 0
theorem lastZ_nil : lastZ [] = 0 := rfl
theorem lastZ_at {l : List Txn} {m : Nat} {t : Txn} (hm : l.length = m + 1) (ht : l[m]? = some t) : lastZ l = t.zxid := by
  unfold lastZ
  rw [List.getLast?_eq_getElem?, hm, Nat.add_sub_cancel, ht]
end Go.Proofs.YtkoemhdchoicaaaDoor

/- A log's bytes: the plain law of scanning. -/
namespace Go.Proofs.YtkoemhdchoicaaaDoor
open Go.RowKit
/-- transactions that can stand in a log -/
def LogOk (l : List Txn) : Prop := (∀ t ∈ l, goodT t = 0) ∧ l.Pairwise (fun a b => a.zxid < b.zxid)
def recs (l : List Txn) : List UInt8 := l.flatMap recT
theorem recs_cons (t : Txn) (l : List Txn) : recs (t :: l) = recT t ++ recs l := rfl
theorem recs_app (l m : List Txn) : recs (l ++ m) = recs l ++ recs m := by unfold recs; rw [List.flatMap_append]
theorem recs_one (t : Txn) : recs [t] = recT t := by unfold recs; simp
theorem recT_prefix {a b : Txn} (ha : goodT a = 0) (hb : goodT b = 0) {x y : List UInt8} (h : recT a ++ x = recT b ++ y) : a = b ∧ x = y := by
  have h1 := dec_back a ha x
  rw [h, dec_back b hb y] at h1
  have e : b = a := congrArg Prod.fst h1
  subst e
  exact ⟨rfl, List.append_cancel_left h⟩
theorem recT_pos (t : Txn) : 7 ≤ (recT t).length := by rw [recT_length]; omega
theorem lastZ_snoc (l : List Txn) (t : Txn) : lastZ (l ++ [t]) = t.zxid := by unfold lastZ; simp
theorem lastZ_mem {l : List Txn} (h : l ≠ []) : ∃ t ∈ l, lastZ l = t.zxid := by
  refine ⟨l.getLast h, List.getLast_mem h, ?_⟩
  unfold lastZ
  rw [List.getLast?_eq_some_getLast h]
theorem lastZ_two (a b : Txn) (r : List Txn) : lastZ (a :: b :: r) = lastZ (b :: r) := by unfold lastZ; rw [List.getLast?_cons_cons]
theorem logOk_snoc {l : List Txn} {t : Txn} (h : LogOk l) (ht : goodT t = 0) (hz : l = [] ∨ lastZ l < t.zxid) : LogOk (l ++ [t]) := by
  refine ⟨fun x hx => ?_, ?_⟩
  · rcases List.mem_append.1 hx with hx | hx
    · exact h.1 x hx
    · rw [List.mem_singleton.1 hx]; exact ht
  · rw [List.pairwise_append]
    refine ⟨h.2, List.pairwise_singleton _ _, fun a ha b hb => ?_⟩
    rw [List.mem_singleton.1 hb]
    rcases hz with rfl | hz
    · cases ha
    · refine Int.lt_of_le_of_lt ?_ hz
      have key : ∀ (l : List Txn), l.Pairwise (fun a b => a.zxid < b.zxid) → ∀ a ∈ l, a.zxid ≤ lastZ l := by
        intro l
        induction l with
        | nil => intro _ a ha; cases ha
        | cons x r ih =>
          intro hp a ha
          cases r with
          | nil => rw [List.mem_singleton.1 ha]; exact Int.le_refl _
          | cons y r =>
            have hp2 := List.pairwise_cons.1 hp
            rcases List.mem_cons.1 ha with rfl | ha
            · obtain ⟨t, ht, e⟩ := lastZ_mem (l := y :: r) (by simp)
              rw [lastZ_two, e]
              exact Int.le_of_lt (hp2.1 t ht)
            · rw [lastZ_two]; exact ih hp2.2 a ha
      exact key l h.2 a ha
/-- no record of a transaction that could come next begins here -/
def NoNext (l : List Txn) (s : List UInt8) : Prop := ∀ t rest, goodT t = 0 → s = recT t ++ rest → l ≠ [] ∧ t.zxid ≤ lastZ l
/-- what is scanned -/
def ScanIs (s : List UInt8) (l : List Txn) (n : Nat) : Prop := LogOk l ∧ n = (recs l).length ∧ ∃ rest, s = recs l ++ rest ∧ NoNext l rest
theorem scan_uniq_aux : ∀ (l m p : List Txn) (x y : List UInt8), LogOk (p ++ l) → LogOk (p ++ m) → recs l ++ x = recs m ++ y → NoNext (p ++ l) x → NoNext (p ++ m) y → l = m
  | [], [], _, _, _, _, _, _, _, _ => rfl
  | [], b :: m, p, x, y, hl, hm, h, hx, _ => by
    exfalso
    rw [List.append_nil] at hx
    have hb : goodT b = 0 := hm.1 b (by simp)
    rw [recs_cons, List.append_assoc] at h
    obtain ⟨h1, h2⟩ := hx b _ hb h
    obtain ⟨t, ht, e⟩ := lastZ_mem h1
    have h3 := (List.pairwise_append.1 hm.2).2.2 t ht b (by simp)
    omega
  | a :: l, [], p, x, y, hl, hm, h, _, hy => by
    exfalso
    rw [List.append_nil] at hy
    have hb : goodT a = 0 := hl.1 a (by simp)
    rw [recs_cons, List.append_assoc] at h
    obtain ⟨h1, h2⟩ := hy a _ hb h.symm
    obtain ⟨t, ht, e⟩ := lastZ_mem h1
    have h3 := (List.pairwise_append.1 hl.2).2.2 t ht a (by simp)
    omega
  | a :: l, b :: m, p, x, y, hl, hm, h, hx, hy => by
    rw [recs_cons, recs_cons, List.append_assoc, List.append_assoc] at h
    obtain ⟨rfl, h2⟩ := recT_prefix (hl.1 a (by simp)) (hm.1 b (by simp)) h
    have e : ∀ q : List Txn, p ++ a :: q = (p ++ [a]) ++ q := fun q => by simp
    rw [e] at hl hm hx hy
    rw [scan_uniq_aux l m (p ++ [a]) x y hl hm h2 hx hy]
theorem scan_uniq {s : List UInt8} {l m : List Txn} {n k : Nat} (h1 : ScanIs s l n) (h2 : ScanIs s m k) : l = m ∧ n = k := by
  obtain ⟨a1, a2, x, a3, a4⟩ := h1
  obtain ⟨b1, b2, y, b3, b4⟩ := h2
  have e := scan_uniq_aux l m [] x y a1 b1 (a3.symm.trans b3) a4 b4
  exact ⟨e, by rw [a2, b2, e]⟩
theorem noNext_nil (l : List Txn) : NoNext l [] := by
  intro t rest _ h
  have := recT_pos t
  have h2 := congrArg List.length h
  simp at h2
  omega
theorem noNext_cut {t : Txn} (ht : goodT t = 0) (l : List Txn) {k : Nat} (hk : k < (recT t).length) : NoNext l ((recT t).take k) := by
  intro x rest hx h
  exfalso
  have e : recT t ++ [] = recT x ++ (rest ++ (recT t).drop k) := by
    rw [← List.append_assoc, ← h, List.take_append_drop, List.append_nil]
  obtain ⟨rfl, e2⟩ := recT_prefix ht hx e
  have h3 := congrArg List.length e2
  simp at h3
  omega
theorem scan_of {l : List Txn} (h : LogOk l) {rest : List UInt8} (hr : NoNext l rest) : ScanIs (recs l ++ rest) l (recs l).length := ⟨h, rfl, rest, rfl, hr⟩
theorem scan_recs {l : List Txn} (h : LogOk l) : ScanIs (recs l) l (recs l).length := by
  have := scan_of h (noNext_nil l)
  rwa [List.append_nil] at this
theorem recs_len {l : List Txn} (h : ∀ t ∈ l, goodT t = 0) : (recs l).length ≤ l.length * 1031 ∧ l.length * 31 ≤ (recs l).length := by
  induction l with
  | nil => exact ⟨Nat.le_refl _, Nat.le_refl _⟩
  | cons a r ih =>
    have h1 := ih (fun t ht => h t (List.mem_cons_of_mem _ ht))
    have h2 := body_small a (h a (by simp))
    rw [recs_cons, List.length_append, List.length_cons, recT_length]
    rw [bodyL_length] at *
    omega
end Go.Proofs.YtkoemhdchoicaaaDoor

/- The plain laws of a log on a disk. -/
namespace Go.Proofs.YtkoemhdchoicaaaDoor
open Go.RowKit
abbrev logN : ByteArray := ⟨#[108, 111, 103]⟩
abbrev noB : ByteArray := ⟨#[]⟩
def logD (m : List Txn) : List File := if m.isEmpty then [] else [⟨logN, bS (recs m), noB⟩]
theorem named_log : named (bs logN) = true := by kernel_rfl
theorem one_good {S T : ByteArray} (h : S.size + T.size ≤ 1048576) : goodD [⟨logN, S, T⟩] = true := by
  refine (goodD_iff _).2 ⟨by simp, fun x hx => ?_, List.pairwise_singleton _ _⟩
  rw [List.mem_singleton.1 hx]
  unfold okF
  rw [named_log, Bool.true_and]
  exact decide_eq_true h
theorem nil_good : goodD [] = true := by kernel_rfl
theorem one_at (S T : ByteArray) : isK ([⟨logN, S, T⟩].map File.name) logN = true ∧ fileAt [⟨logN, S, T⟩] logN = ⟨logN, S, T⟩ ∧ posK ([⟨logN, S, T⟩].map File.name) logN = 0 := by
  have h := lookF_of (List.pairwise_singleton ltF (⟨logN, S, T⟩ : File)) (y := ⟨logN, S, T⟩) (by simp)
  have hp := isK_in_file (l := [⟨logN, S, T⟩]) h.1
  refine ⟨h.1, h.2, ?_⟩
  simp only [List.length_singleton] at hp
  omega
theorem put_one (S T S' T' : ByteArray) : putL [⟨logN, S, T⟩] ⟨logN, S', T'⟩ = [⟨logN, S', T'⟩] := by
  unfold putL
  have h := one_at S T
  rw [if_pos h.1, h.2.2]
  rfl
theorem nil_at (p : ByteArray) : isK (([] : List File).map File.name) p = false ∧ posK (([] : List File).map File.name) p = 0 := by
  refine ⟨noneF_of p (by simp), ?_⟩
  unfold posK
  have := bsr_le (ltK (([] : List File).map File.name) p) 0
  simpa using this
theorem put_nil (S T : ByteArray) : putL [] ⟨logN, S, T⟩ = [⟨logN, S, T⟩] := by
  unfold putL
  have h := nil_at logN
  show (if isK (([] : List File).map File.name) logN = true then _ else _) = _
  rw [h.1]
  simp
theorem put_log (m : List Txn) (S T : ByteArray) : putL (logD m) ⟨logN, S, T⟩ = [⟨logN, S, T⟩] := by
  unfold logD
  split
  · exact put_nil S T
  · exact put_one _ _ S T
theorem logD_nil : logD [] = [] := rfl
theorem logD_cons (a : Txn) (r : List Txn) : logD (a :: r) = [⟨logN, bS (recs (a :: r)), noB⟩] := rfl
theorem log_or (m : List Txn) : fileOr (logD m) logN = ⟨logN, bS (recs m), noB⟩ := by
  cases m with
  | nil =>
    rw [logD_nil]
    unfold fileOr
    rw [(nil_at logN).1]
    rfl
  | cons a r =>
    rw [logD_cons]
    unfold fileOr
    have h := one_at (bS (recs (a :: r))) noB
    rw [if_pos h.1, h.2.1]
theorem log_good {m : List Txn} (h : (recs m).length ≤ 1048576) : goodD (logD m) = true := by
  unfold logD
  split
  · exact nil_good
  · exact one_good (by rw [bS_size]; exact h)
theorem log_write {m : List Txn} {s : ByteArray} (h : (recs m).length + s.size ≤ 1048576) : writeE (logD m) logN s = 0 ∧ writeL (logD m) logN s = [⟨logN, bS (recs m), s⟩] := by
  have e : writeE (logD m) logN s = 0 := by
    unfold writeE
    rw [log_good (by omega), named_log, if_pos rfl, if_pos rfl]
    have ho := log_or m
    unfold fileOr at ho
    cases hk : isK ((logD m).map File.name) logN with
    | true =>
      rw [hk, if_pos rfl] at ho
      rw [if_pos rfl, ho, if_pos]
      show (bS (recs m)).size + noB.size + s.size ≤ 1048576
      rw [bS_size]
      exact h
    | false =>
      rw [if_neg (by decide), if_neg ?_, if_pos (by omega)]
      unfold logD
      split <;> simp
  obtain ⟨h1, h2, h3⟩ := write_ok e
  refine ⟨e, ?_⟩
  rw [h2, log_or, put_log]
  congr 2
theorem one_read {S T : ByteArray} (h : S.size + T.size ≤ 1048576) : readE [⟨logN, S, T⟩] logN = 0 ∧ readS [⟨logN, S, T⟩] logN = S ++ T := read_mem (one_good h) (x := ⟨logN, S, T⟩) (by simp)
theorem one_sync {S T : ByteArray} (h : S.size + T.size ≤ 1048576) : syncL [⟨logN, S, T⟩] logN = [⟨logN, S ++ T, noB⟩] := by
  rw [(sync_ok (one_read h).1).1, (one_at S T).2.1, put_one]
theorem one_crash {S T : ByteArray} (h : S.size + T.size ≤ 1048576) (n : Nat) : crashE [⟨logN, S, T⟩] n = 0 ∧ crashL [⟨logN, S, T⟩] n = [⟨logN, S ++ T.extract 0 (min n T.size), noB⟩] := by
  have := crash_is (one_good h) n
  exact ⟨this.1, this.2⟩
def appL (l : List File) (t : Txn) (safe : Bool) : List File := if goodT t = 0 then (if writeE l logN (encR t) = 0 ∧ safe = true then syncL (writeL l logN (encR t)) logN else writeL l logN (encR t)) else []
def appE (l : List File) (t : Txn) (safe : Bool) : Int := if goodT t = 0 then (if writeE l logN (encR t) = 0 ∧ safe = true then readE (writeL l logN (encR t)) logN else writeE l logN (encR t)) else goodT t
theorem recs_snoc (m : List Txn) (t : Txn) : bS (recs (m ++ [t])) = bS (recs m) ++ bS (recT t) := by
  rw [recs_app, recs_one, bS_add]
  rfl
theorem app_safe {m : List Txn} {t : Txn} (ht : goodT t = 0) (h : (recs (m ++ [t])).length ≤ 1048576) : appL (logD m) t true = logD (m ++ [t]) ∧ appE (logD m) t true = 0 := by
  have he : encR t = bS (recT t) := if_pos ht
  rw [recs_app, recs_one, List.length_append] at h
  have hw := log_write (m := m) (s := bS (recT t)) (by rw [bS_size]; exact h)
  have hz : (bS (recs m)).size + (bS (recT t)).size ≤ 1048576 := by rw [bS_size, bS_size]; exact h
  unfold appL appE
  rw [if_pos ht, if_pos ht, he, hw.1, hw.2, if_pos ⟨rfl, rfl⟩, if_pos ⟨rfl, rfl⟩, one_sync hz, (one_read hz).1]
  refine ⟨?_, rfl⟩
  unfold logD
  rw [if_neg (by simp), recs_snoc]
theorem app_torn {m : List Txn} {t : Txn} (ht : goodT t = 0) (h : (recs (m ++ [t])).length ≤ 1048576) : appL (logD m) t false = [⟨logN, bS (recs m), bS (recT t)⟩] ∧ appE (logD m) t false = 0 := by
  have he : encR t = bS (recT t) := if_pos ht
  rw [recs_app, recs_one, List.length_append] at h
  have hw := log_write (m := m) (s := bS (recT t)) (by rw [bS_size]; exact h)
  unfold appL appE
  rw [if_pos ht, if_pos ht, he, hw.1, hw.2, if_neg (by simp), if_neg (by simp)]
  exact ⟨rfl, rfl⟩
/-- what Recover answers -/
def RecIs (f : List File) (l : List Txn) (f' : List File) (e : Int) : Prop :=
  (readE f logN = 7 ∧ l = [] ∧ f' = writeL f logN noB ∧ e = writeE f logN noB) ∨
  (readE f logN ≠ 7 ∧ readE f logN ≠ 0 ∧ l = [] ∧ f' = [] ∧ e = readE f logN) ∨
  (readE f logN = 0 ∧ e = 0 ∧ ∃ n, ScanIs (bs (readS f logN)) l n ∧ f' = cutL f logN n)
theorem cut_is {f : List File} (h : readE f logN = 0) {n : Nat} (hn : n ≤ (readS f logN).size) : cutE f logN n = 0 := by
  obtain ⟨h1, h2⟩ := readE_0 h
  unfold cutE
  rw [if_pos h1, if_pos h2, if_pos]
  refine ⟨by omega, ?_⟩
  have : readS f logN = (fileAt f logN).safe ++ (fileAt f logN).tail := by
    unfold readS
    rw [h1, h2]
    rfl
  rw [← this]
  omega
theorem scan_le {s : List UInt8} {l : List Txn} {n : Nat} (h : ScanIs s l n) : n ≤ s.length ∧ s.take n = recs l := by
  obtain ⟨_, h2, r, h3, _⟩ := h
  rw [h3, h2, List.length_append, List.take_left]
  exact ⟨by omega, rfl⟩
theorem put_same {f : List File} (hg : goodD f = true) {y : File} (hy : y ∈ f) : putL f y = f := by
  have h3 := ((goodD_iff f).1 hg).2.2
  obtain ⟨k, hk⟩ := List.mem_iff_getElem?.1 hy
  obtain ⟨h1, h2⟩ := atF_of h3 hk
  unfold putL
  rw [if_pos h2, h1]
  obtain ⟨hlt, e⟩ := List.getElem?_eq_some_iff.1 hk
  rw [← e, List.set_getElem_self]
/-- a disk that was recovered: its log has just the records -/
theorem rec_again {f : List File} {a : List Txn} {b : List File} (h : RecIs f a b 0) : LogOk a ∧ goodD b = true ∧ readE b logN = 0 ∧ readS b logN = bS (recs a) ∧ (⟨logN, bS (recs a), noB⟩ : File) ∈ b := by
  have fin : ∀ {f b : List File} {S : ByteArray}, goodD f = true → b = putL f ⟨logN, S, noB⟩ → goodD b = true → readE b logN = 0 ∧ readS b logN = S ∧ (⟨logN, S, noB⟩ : File) ∈ b := by
    intro f b S hf hb hgb
    have hm : (⟨logN, S, noB⟩ : File) ∈ b := by
      rw [hb]
      exact (mem_putL ((goodD_iff f).1 hf).2.2 _ _).2 (.inl rfl)
    have := read_mem hgb hm
    exact ⟨this.1, this.2.trans ByteArray.append_empty, hm⟩
  rcases h with ⟨h1, rfl, h3, h4⟩ | ⟨_, h2, _, _, h5⟩ | ⟨h1, _, n, hs, hb⟩
  · obtain ⟨k1, k2, k3⟩ := write_ok h4.symm
    have ho : fileOr f logN = noFile logN := by
      unfold fileOr
      unfold readE at h1
      rw [if_pos k1] at h1
      cases hk : isK (f.map File.name) logN with
      | true => rw [hk] at h1; simp at h1
      | false => rfl
    rw [ho] at k2
    have k4 := fin k1 (b := b) (S := noB) (by rw [h3, k2]; rfl) (by rw [h3]; exact k3)
    exact ⟨⟨by simp, List.Pairwise.nil⟩, by rw [h3]; exact k3, k4.1, k4.2.1, k4.2.2⟩
  · exact absurd h5.symm h2
  · have hle := scan_le hs
    rw [length_bs] at hle
    obtain ⟨_, _, _, c4, c5⟩ := cut_ok (cut_is h1 hle.1)
    have hx : (readS f logN).extract 0 ((n : Int)).toNat = bS (recs a) := by
      apply bs_inj
      rw [bs_extractTD, List.drop_zero, Int.toNat_natCast]
      exact hle.2
    rw [hx] at c4
    have k4 := fin (readE_0 h1).1 (hb.trans c4) (by rw [hb]; exact c5)
    exact ⟨hs.1, by rw [hb]; exact c5, k4.1, k4.2.1, k4.2.2⟩
theorem rec_fix {b : List File} {a c : List Txn} {x : List File} {e : Int} (hl : LogOk a) (hg : goodD b = true) (hr : readE b logN = 0) (hs : readS b logN = bS (recs a)) (hm : (⟨logN, bS (recs a), noB⟩ : File) ∈ b) (h : RecIs b c x e) : e = 0 ∧ c = a ∧ x = b := by
  rcases h with ⟨h1, _⟩ | ⟨_, h2, _⟩ | ⟨_, h2, n, h3, h4⟩
  · rw [hr] at h1
    exact absurd h1 (by decide)
  · exact absurd hr h2
  · rw [hs, bs_bS] at h3
    obtain ⟨rfl, rfl⟩ := scan_uniq h3 (scan_recs hl)
    refine ⟨h2, rfl, ?_⟩
    have hn : (recs c).length ≤ (readS b logN).size := by rw [hs, bS_size]; exact Nat.le_refl _
    obtain ⟨_, _, _, c4, _⟩ := cut_ok (cut_is hr hn)
    have hx : (readS b logN).extract 0 (((recs c).length : Nat) : Int).toNat = bS (recs c) := by
      apply bs_inj
      rw [bs_extractTD, List.drop_zero, Int.toNat_natCast, hs, bs_bS, List.take_length]
    rw [h4, c4, hx]
    exact put_same hg hm
/-- a log and bytes behind it in which no record begins that could come next -/
theorem rec_one {S T : ByteArray} {m l : List Txn} {rest : List UInt8} {f' : List File} {e : Int} (hm : LogOk m) (hz : S.size + T.size ≤ 1048576) (hb : bs (S ++ T) = recs m ++ rest) (hr : NoNext m rest) (h : RecIs [⟨logN, S, T⟩] l f' e) : e = 0 ∧ l = m ∧ f' = [⟨logN, bS (recs m), noB⟩] := by
  have hrd := one_read hz
  rcases h with ⟨h1, _⟩ | ⟨_, h2, _⟩ | ⟨_, h2, n, h3, h4⟩
  · rw [hrd.1] at h1
    exact absurd h1 (by decide)
  · exact absurd hrd.1 h2
  · rw [hrd.2, hb] at h3
    obtain ⟨rfl, rfl⟩ := scan_uniq h3 (scan_of hm hr)
    refine ⟨h2, rfl, ?_⟩
    have hn : (recs l).length ≤ (readS [⟨logN, S, T⟩] logN).size := by rw [hrd.2, ← length_bs, hb, List.length_append]; omega
    obtain ⟨_, _, _, c4, _⟩ := cut_ok (cut_is hrd.1 hn)
    have hx : (readS [⟨logN, S, T⟩] logN).extract 0 (((recs l).length : Nat) : Int).toNat = bS (recs l) := by
      apply bs_inj
      rw [bs_extractTD, List.drop_zero, Int.toNat_natCast, hrd.2, hb, bs_bS, List.take_left]
    rw [h4, c4, hx, put_one]
theorem rec_log {m l : List Txn} {f' : List File} {e : Int} (hm : LogOk m) (hz : (recs m).length ≤ 1048576) (h : RecIs (logD m) l f' e) : e = 0 ∧ l = m ∧ f' = [⟨logN, bS (recs m), noB⟩] := by
  cases m with
  | cons a r =>
    refine rec_one hm (S := bS (recs (a :: r))) (T := noB) (rest := []) ?_ ?_ (noNext_nil _) h
    · rw [bS_size]
      exact hz
    · rw [bS_add]
      rfl
  | nil =>
    have hrd : readE [] logN = 7 := (read_none nil_good (by simp)).1
    have hw := log_write (m := []) (s := noB) (by decide)
    rcases h with ⟨_, h1, h2, h3⟩ | ⟨h1, _⟩ | ⟨h1, _⟩
    · exact ⟨h3.trans hw.1, h1, h2.trans hw.2⟩
    · exact absurd hrd h1
    · rw [show logD [] = [] from rfl, hrd] at h1
      exact absurd h1 (by decide)
end Go.Proofs.YtkoemhdchoicaaaDoor
