/- strings.Cut at a dot; zxid.Read, zxid.Text. -/
import Derived.Test.YtkogdnkifnhljaaDoorDec
import Derived.Lib.SmallJoins
namespace Go.Proofs.YtkogdnkifnhljaaDoor
open Go.RowKit
def cutR (s : ByteArray) : ByteArray × ByteArray × Bool := if Lib.indexByte s.data.toList 46 < 0 then (s, ⟨#[]⟩, false) else (s.extract 0 (Lib.indexByte s.data.toList 46).toNat, s.extract ((Lib.indexByte s.data.toList 46).toNat + 1) s.size, true)
set_option maxHeartbeats 1000000 in
theorem scut_any (s : ByteArray) (w : World) (hs : s.size ≤ 4611686018427387904) :
    Calls Tryd.prog 64 #[.string s, .string ⟨#[46]⟩] w fun e w' => e = .returned (.tuple #[.string (cutR s).1, .string (cutR s).2.1, .bool (cutR s).2.2]) ∧ Below w.heap.size w w' := by
  have HI := Lib.hid (fun (W : World) => Tryd.stringslite_Index_one s 46 W)
  have hge := Lib.indexByte_ge s.data.toList 46
  unfold cutR
  rcases Int.lt_or_le (Lib.indexByte s.data.toList 46) 0 with hi | hi
  · simp only [if_pos hi]
    have hi1 : Lib.indexByte s.data.toList 46 = -1 := by omega
    rw [hi1] at HI
    clear hi hge hi1
    go_enter Tryd.func64, Tryd.ntmps64
    go_wp2_with (go_at_call 67; refine (HI.out _).mono ?_; rintro e w1 ⟨rfl, rfl⟩; skip)
    refine bodyPost_ret (v := .tuple #[.string s, .string ⟨#[]⟩, .bool false]) (by simp [results, Tryd.results64, go_sem]) rfl ⟨rfl, (by repeat (first | exact Below.refl _ _ | assumption | refine Below.drew ?_ | refine Below.drewN' ?_ _ | refine below_grow0 _ _ ?_ | refine below_alloc0 _ ?_ | refine Below.alloc ?_ (by first | omega | (simp; done) | (simp; omega)) _ | refine Below.setCell ?_ (by first | omega | (simp; done) | (simp; omega)) _ | refine Below.grow _ _ _ ?_ (by first | omega | (simp; done) | (simp; omega))))⟩
  · simp only [if_neg (Int.not_lt.2 hi)]
    obtain ⟨o, ho⟩ := Int.eq_ofNat_of_zero_le hi
    have hlt : o < s.size := by
      have := (Lib.indexByte_some ho).1
      have h2 := (List.getElem?_eq_some_iff.1 this).1
      simpa using h2
    rw [ho] at HI ⊢
    have hgi : (decide ((o : Int) ≥ 0)) = true := decide_eq_true (by omega)
    clear hi hge ho
    rw [Int.toNat_natCast]
    go_enter Tryd.func64, Tryd.ntmps64
    go_wp2_with (go_at_call 67; refine (HI.out _).mono ?_; rintro e w1 ⟨rfl, rfl⟩; skip)
    go_region
    go_wp2_with fail
    refine bodyPost_ret (v := .tuple #[.string (s.extract 0 o), .string (s.extract (o + 1) s.size), .bool true]) (by simp [results, Tryd.results64, go_sem]) rfl ⟨rfl, (by repeat (first | exact Below.refl _ _ | assumption | refine Below.drew ?_ | refine Below.drewN' ?_ _ | refine below_grow0 _ _ ?_ | refine below_alloc0 _ ?_ | refine Below.alloc ?_ (by first | omega | (simp; done) | (simp; omega)) _ | refine Below.setCell ?_ (by first | omega | (simp; done) | (simp; omega)) _ | refine Below.grow _ _ _ ?_ (by first | omega | (simp; done) | (simp; omega))))⟩
theorem cutR_size (s : ByteArray) : (cutR s).1.size ≤ s.size ∧ (cutR s).2.1.size ≤ s.size := by
  unfold cutR
  split
  · exact ⟨Nat.le_refl _, Nat.zero_le _⟩
  · simp only [ByteArray.size_extract]
    omega
theorem cut_any (s : ByteArray) (w : World) (hs : s.size ≤ 4611686018427387904) :
    Calls Tryd.prog 49 #[.string s, .string ⟨#[46]⟩] w fun e w' => e = .returned (.tuple #[.string (cutR s).1, .string (cutR s).2.1, .bool (cutR s).2.2]) ∧ Below w.heap.size w w' := by
  have HC := Lib.hid (fun (W : World) => scut_any s W hs)
  generalize cutR s = r at *
  go_enter Tryd.func49, Tryd.ntmps49
  go_wp2_with (go_at_call 64; refine (HC.out _).mono ?_; rintro e w1 ⟨rfl, hb⟩; obtain ⟨ext1, d1, rfl⟩ := Below.grown_eq _ hb; clear hb)
  refine bodyPost_ret (v := .tuple #[.string r.1, .string r.2.1, .bool r.2.2]) (by simp [results, Tryd.results49, go_sem]) rfl ⟨rfl, (by repeat (first | exact Below.refl _ _ | assumption | refine Below.drew ?_ | refine Below.drewN' ?_ _ | refine below_grow0 _ _ ?_ | refine below_alloc0 _ ?_ | refine Below.alloc ?_ (by first | omega | (simp; done) | (simp; omega)) _ | refine Below.setCell ?_ (by first | omega | (simp; done) | (simp; omega)) _ | refine Below.grow _ _ _ ?_ (by first | omega | (simp; done) | (simp; omega))))⟩
instance (a : Int) : Decidable (Half a) := by unfold Half; exact inferInstance
def makeR (a b : Int) : Int × Int := if Half a ∧ Half b then (a * 2147483648 + b, 0) else (0, 3)
theorem zmake_any (a b : Int) (w : World) :
    Calls Tryd.prog 34 #[.int .i64 a, .int .i64 b] w fun e w' => e = .returned (.tuple #[.int .i64 (makeR a b).1, .int .i64 (makeR a b).2]) ∧ w = w' := by
  unfold makeR
  by_cases h : Half a ∧ Half b
  · rw [if_pos h]; exact zmake_ok a b w h.1 h.2
  · rw [if_neg h]; exact zmake_no a b w h
def readR (s : ByteArray) : Int × Int := if (cutR s).2.2 && (smallOk (bs (cutR s).1) && smallOk (bs (cutR s).2.1)) then makeR (smallV (bs (cutR s).1)) (smallV (bs (cutR s).2.1)) else (0, 2)
set_option maxHeartbeats 1000000 in
theorem read_any (s : ByteArray) (w : World) (hs : s.size ≤ 4611686018427387904) :
    Calls Tryd.prog 33 #[.string s] w fun e w' => e = .returned (.tuple #[.int .i64 (readR s).1, .int .i64 (readR s).2]) ∧ Below w.heap.size w w' := by
  have hz := cutR_size s
  have HC := Lib.hid (fun (W : World) => cut_any s W hs)
  have HA := Lib.hid (fun (W : World) => small_any (cutR s).1 W (by omega))
  have HB := Lib.hid (fun (W : World) => small_any (cutR s).2.1 W (by omega))
  have HM := Lib.hid (fun (W : World) => zmake_any (smallV (bs (cutR s).1)) (smallV (bs (cutR s).2.1)) W)
  unfold readR
  generalize makeR (smallV (bs (cutR s).1)) (smallV (bs (cutR s).2.1)) = mk at *
  generalize smallV (bs (cutR s).1) = va at *
  generalize smallV (bs (cutR s).2.1) = vb at *
  generalize smallOk (bs (cutR s).1) = oa at *
  generalize smallOk (bs (cutR s).2.1) = ob at *
  generalize cutR s = r at *
  obtain ⟨ra, rb, rok⟩ := r
  simp only at *
  clear hz
  cases rok with
  | false =>
    simp only [Bool.false_and, Bool.false_eq_true, if_false]
    go_enter Tryd.func33, Tryd.ntmps33
    go_wp2_with
      (first | (go_at_call 49; refine (HC.out _).mono ?_; rintro e w1 ⟨rfl, hb⟩; obtain ⟨ext1, d1, rfl⟩ := Below.grown_eq w (Below.own (by repeat (first | exact Below.refl _ _ | assumption | refine Below.drew ?_ | refine Below.drewN' ?_ _ | refine below_grow0 _ _ ?_ | refine below_alloc0 _ ?_ | refine Below.alloc ?_ (by first | omega | (simp; done) | (simp; omega)) _ | refine Below.setCell ?_ (by first | omega | (simp; done) | (simp; omega)) _ | refine Below.grow _ _ _ ?_ (by first | omega | (simp; done) | (simp; omega)))) hb); clear hb HC) | (go_at_call 50; refine (HA.out _).mono ?_; rintro e w1 ⟨rfl, hb⟩; obtain ⟨ext1, d1, rfl⟩ := Below.grown_eq w (Below.own (by repeat (first | exact Below.refl _ _ | assumption | refine Below.drew ?_ | refine Below.drewN' ?_ _ | refine below_grow0 _ _ ?_ | refine below_alloc0 _ ?_ | refine Below.alloc ?_ (by first | omega | (simp; done) | (simp; omega)) _ | refine Below.setCell ?_ (by first | omega | (simp; done) | (simp; omega)) _ | refine Below.grow _ _ _ ?_ (by first | omega | (simp; done) | (simp; omega)))) hb); clear hb HA) | (go_at_call 50; refine (HB.out _).mono ?_; rintro e w1 ⟨rfl, hb⟩; obtain ⟨ext1, d1, rfl⟩ := Below.grown_eq w (Below.own (by repeat (first | exact Below.refl _ _ | assumption | refine Below.drew ?_ | refine Below.drewN' ?_ _ | refine below_grow0 _ _ ?_ | refine below_alloc0 _ ?_ | refine Below.alloc ?_ (by first | omega | (simp; done) | (simp; omega)) _ | refine Below.setCell ?_ (by first | omega | (simp; done) | (simp; omega)) _ | refine Below.grow _ _ _ ?_ (by first | omega | (simp; done) | (simp; omega)))) hb); clear hb HB) | (go_at_call 34; refine (HM.out _).mono ?_; rintro e w1 ⟨rfl, rfl⟩; skip))
    go_ret2
    exact ⟨rfl, (by repeat (first | exact Below.refl _ _ | assumption | refine Below.drew ?_ | refine Below.drewN' ?_ _ | refine below_grow0 _ _ ?_ | refine below_alloc0 _ ?_ | refine Below.alloc ?_ (by first | omega | (simp; done) | (simp; omega)) _ | refine Below.setCell ?_ (by first | omega | (simp; done) | (simp; omega)) _ | refine Below.grow _ _ _ ?_ (by first | omega | (simp; done) | (simp; omega))))⟩
  | true =>
    cases oa with
    | false =>
      simp only [Bool.false_and, Bool.and_false, Bool.false_eq_true, if_false]
      go_enter Tryd.func33, Tryd.ntmps33
      go_wp2_with
        (first | (go_at_call 49; refine (HC.out _).mono ?_; rintro e w1 ⟨rfl, hb⟩; obtain ⟨ext1, d1, rfl⟩ := Below.grown_eq w (Below.own (by repeat (first | exact Below.refl _ _ | assumption | refine Below.drew ?_ | refine Below.drewN' ?_ _ | refine below_grow0 _ _ ?_ | refine below_alloc0 _ ?_ | refine Below.alloc ?_ (by first | omega | (simp; done) | (simp; omega)) _ | refine Below.setCell ?_ (by first | omega | (simp; done) | (simp; omega)) _ | refine Below.grow _ _ _ ?_ (by first | omega | (simp; done) | (simp; omega)))) hb); clear hb HC) | (go_at_call 50; refine (HA.out _).mono ?_; rintro e w1 ⟨rfl, hb⟩; obtain ⟨ext1, d1, rfl⟩ := Below.grown_eq w (Below.own (by repeat (first | exact Below.refl _ _ | assumption | refine Below.drew ?_ | refine Below.drewN' ?_ _ | refine below_grow0 _ _ ?_ | refine below_alloc0 _ ?_ | refine Below.alloc ?_ (by first | omega | (simp; done) | (simp; omega)) _ | refine Below.setCell ?_ (by first | omega | (simp; done) | (simp; omega)) _ | refine Below.grow _ _ _ ?_ (by first | omega | (simp; done) | (simp; omega)))) hb); clear hb HA) | (go_at_call 50; refine (HB.out _).mono ?_; rintro e w1 ⟨rfl, hb⟩; obtain ⟨ext1, d1, rfl⟩ := Below.grown_eq w (Below.own (by repeat (first | exact Below.refl _ _ | assumption | refine Below.drew ?_ | refine Below.drewN' ?_ _ | refine below_grow0 _ _ ?_ | refine below_alloc0 _ ?_ | refine Below.alloc ?_ (by first | omega | (simp; done) | (simp; omega)) _ | refine Below.setCell ?_ (by first | omega | (simp; done) | (simp; omega)) _ | refine Below.grow _ _ _ ?_ (by first | omega | (simp; done) | (simp; omega)))) hb); clear hb HB) | (go_at_call 34; refine (HM.out _).mono ?_; rintro e w1 ⟨rfl, rfl⟩; skip))
      go_ret2
      exact ⟨rfl, (by repeat (first | exact Below.refl _ _ | assumption | refine Below.drew ?_ | refine Below.drewN' ?_ _ | refine below_grow0 _ _ ?_ | refine below_alloc0 _ ?_ | refine Below.alloc ?_ (by first | omega | (simp; done) | (simp; omega)) _ | refine Below.setCell ?_ (by first | omega | (simp; done) | (simp; omega)) _ | refine Below.grow _ _ _ ?_ (by first | omega | (simp; done) | (simp; omega))))⟩
    | true =>
      cases ob with
      | false =>
        simp only [Bool.and_false, Bool.false_eq_true, if_false]
        go_enter Tryd.func33, Tryd.ntmps33
        go_wp2_with
          (first | (go_at_call 49; refine (HC.out _).mono ?_; rintro e w1 ⟨rfl, hb⟩; obtain ⟨ext1, d1, rfl⟩ := Below.grown_eq w (Below.own (by repeat (first | exact Below.refl _ _ | assumption | refine Below.drew ?_ | refine Below.drewN' ?_ _ | refine below_grow0 _ _ ?_ | refine below_alloc0 _ ?_ | refine Below.alloc ?_ (by first | omega | (simp; done) | (simp; omega)) _ | refine Below.setCell ?_ (by first | omega | (simp; done) | (simp; omega)) _ | refine Below.grow _ _ _ ?_ (by first | omega | (simp; done) | (simp; omega)))) hb); clear hb HC) | (go_at_call 50; refine (HA.out _).mono ?_; rintro e w1 ⟨rfl, hb⟩; obtain ⟨ext1, d1, rfl⟩ := Below.grown_eq w (Below.own (by repeat (first | exact Below.refl _ _ | assumption | refine Below.drew ?_ | refine Below.drewN' ?_ _ | refine below_grow0 _ _ ?_ | refine below_alloc0 _ ?_ | refine Below.alloc ?_ (by first | omega | (simp; done) | (simp; omega)) _ | refine Below.setCell ?_ (by first | omega | (simp; done) | (simp; omega)) _ | refine Below.grow _ _ _ ?_ (by first | omega | (simp; done) | (simp; omega)))) hb); clear hb HA) | (go_at_call 50; refine (HB.out _).mono ?_; rintro e w1 ⟨rfl, hb⟩; obtain ⟨ext1, d1, rfl⟩ := Below.grown_eq w (Below.own (by repeat (first | exact Below.refl _ _ | assumption | refine Below.drew ?_ | refine Below.drewN' ?_ _ | refine below_grow0 _ _ ?_ | refine below_alloc0 _ ?_ | refine Below.alloc ?_ (by first | omega | (simp; done) | (simp; omega)) _ | refine Below.setCell ?_ (by first | omega | (simp; done) | (simp; omega)) _ | refine Below.grow _ _ _ ?_ (by first | omega | (simp; done) | (simp; omega)))) hb); clear hb HB) | (go_at_call 34; refine (HM.out _).mono ?_; rintro e w1 ⟨rfl, rfl⟩; skip))
        go_ret2
        exact ⟨rfl, (by repeat (first | exact Below.refl _ _ | assumption | refine Below.drew ?_ | refine Below.drewN' ?_ _ | refine below_grow0 _ _ ?_ | refine below_alloc0 _ ?_ | refine Below.alloc ?_ (by first | omega | (simp; done) | (simp; omega)) _ | refine Below.setCell ?_ (by first | omega | (simp; done) | (simp; omega)) _ | refine Below.grow _ _ _ ?_ (by first | omega | (simp; done) | (simp; omega))))⟩
      | true =>
        simp only [Bool.and_self, if_true]
        go_enter Tryd.func33, Tryd.ntmps33
        go_wp2_with
          (first | (go_at_call 49; refine (HC.out _).mono ?_; rintro e w1 ⟨rfl, hb⟩; obtain ⟨ext1, d1, rfl⟩ := Below.grown_eq w (Below.own (by repeat (first | exact Below.refl _ _ | assumption | refine Below.drew ?_ | refine Below.drewN' ?_ _ | refine below_grow0 _ _ ?_ | refine below_alloc0 _ ?_ | refine Below.alloc ?_ (by first | omega | (simp; done) | (simp; omega)) _ | refine Below.setCell ?_ (by first | omega | (simp; done) | (simp; omega)) _ | refine Below.grow _ _ _ ?_ (by first | omega | (simp; done) | (simp; omega)))) hb); clear hb HC) | (go_at_call 50; refine (HA.out _).mono ?_; rintro e w1 ⟨rfl, hb⟩; obtain ⟨ext1, d1, rfl⟩ := Below.grown_eq w (Below.own (by repeat (first | exact Below.refl _ _ | assumption | refine Below.drew ?_ | refine Below.drewN' ?_ _ | refine below_grow0 _ _ ?_ | refine below_alloc0 _ ?_ | refine Below.alloc ?_ (by first | omega | (simp; done) | (simp; omega)) _ | refine Below.setCell ?_ (by first | omega | (simp; done) | (simp; omega)) _ | refine Below.grow _ _ _ ?_ (by first | omega | (simp; done) | (simp; omega)))) hb); clear hb HA) | (go_at_call 50; refine (HB.out _).mono ?_; rintro e w1 ⟨rfl, hb⟩; obtain ⟨ext1, d1, rfl⟩ := Below.grown_eq w (Below.own (by repeat (first | exact Below.refl _ _ | assumption | refine Below.drew ?_ | refine Below.drewN' ?_ _ | refine below_grow0 _ _ ?_ | refine below_alloc0 _ ?_ | refine Below.alloc ?_ (by first | omega | (simp; done) | (simp; omega)) _ | refine Below.setCell ?_ (by first | omega | (simp; done) | (simp; omega)) _ | refine Below.grow _ _ _ ?_ (by first | omega | (simp; done) | (simp; omega)))) hb); clear hb HB) | (go_at_call 34; refine (HM.out _).mono ?_; rintro e w1 ⟨rfl, rfl⟩; skip))
        go_ret2
        exact ⟨rfl, (by repeat (first | exact Below.refl _ _ | assumption | refine Below.drew ?_ | refine Below.drewN' ?_ _ | refine below_grow0 _ _ ?_ | refine below_alloc0 _ ?_ | refine Below.alloc ?_ (by first | omega | (simp; done) | (simp; omega)) _ | refine Below.setCell ?_ (by first | omega | (simp; done) | (simp; omega)) _ | refine Below.grow _ _ _ ?_ (by first | omega | (simp; done) | (simp; omega))))⟩
theorem zgood_any (a : Int) (w : World) :
    Calls Tryd.prog 32 #[.int .i64 a] w fun e w' => e = .returned (.bool (decide (0 ≤ a ∧ a < 4611686018427387904))) ∧ w = w' := by
  by_cases h : Zx a
  · rw [decide_eq_true (show 0 ≤ a ∧ a < 4611686018427387904 from h)]; exact zgood_yes a w h
  · rw [decide_eq_false (show ¬ (0 ≤ a ∧ a < 4611686018427387904) from h)]; exact zgood_no a w h
def textB (z : Int) : ByteArray := ⟨(Lib.itoa (z / 2147483648)).toArray⟩ ++ ⟨#[46]⟩ ++ ⟨(Lib.itoa (z % 2147483648)).toArray⟩
theorem text_no (z : Int) (w : World) (h : ¬ Zx z) :
    Calls Tryd.prog 30 #[.int .i64 z] w fun e w' => e = .returned (.tuple #[.string ⟨#[]⟩, .int .i64 3]) ∧ w = w' := by
  have HG := Lib.hid (fun (W : World) => zgood_no z W h)
  clear h
  go_enter Tryd.func30, Tryd.ntmps30
  go_wp2_with (go_at_call 32; refine (HG.out _).mono ?_; rintro e w1 ⟨rfl, rfl⟩; skip)
  go_ret2
  exact ⟨rfl, rfl⟩
theorem itoa_size {u : Int} (h0 : 0 ≤ u) (h : u < 10000000000) : (⟨(Lib.itoa u).toArray⟩ : ByteArray).size ≤ 10 := by
  show (Lib.itoa u).toArray.size ≤ 10
  unfold Lib.itoa
  rw [if_neg (by omega)]
  have := dec_len 9 u.toNat (by omega)
  simpa using this
theorem itoa_any (n : Int) (h0 : 0 ≤ n) (h1 : n ≤ 9223372036854775807) (w : World) (htab : Lib.TabIs Tryd.prog w "internal/strconv.uint64pow10" .u64 Lib.pow10Tab) :
    Calls Tryd.prog 48 #[.int .i64 n] w fun e w' => e = .returned (.string ⟨(Lib.itoa n).toArray⟩) ∧ Below w.heap.size w w' := by
  refine (Tryd.strconv_Itoa n (by omega) h1 w htab).mono ?_
  rintro e w' ⟨rfl, k, os, rfl⟩
  exact ⟨rfl, below_grow0 (W := w) os (w.drewN k).drawn (Below.refl _ _)⟩
set_option maxHeartbeats 1000000 in
theorem text_yes (z : Int) (w : World) (h : Zx z) (htab : Lib.TabIs Tryd.prog w "internal/strconv.uint64pow10" .u64 Lib.pow10Tab) (g : Nat) (hg : Tryd.prog.globalNamed "internal/strconv.uint64pow10" = some g) :
    Calls Tryd.prog 30 #[.int .i64 z] w fun e w' => e = .returned (.tuple #[.string (textB z), .int .i64 0]) ∧ Below w.heap.size w w' := by
  have HG := Lib.hid (fun (W : World) => zgood_yes z W h)
  have HE := Lib.hid (fun (W : World) => zepoch_ok z W h)
  have HN := Lib.hid (fun (W : World) => zcount_ok z W h)
  have h2 := h
  unfold Zx at h2
  have HI1 := Lib.hid (fun (W : World) (hb : Below w.heap.size w W) => itoa_any (z / 2147483648) (by omega) (by omega) W (Joins.tab_stays hg htab hb (Nat.le_refl _)))
  have HI2 := Lib.hid (fun (W : World) (hb : Below w.heap.size w W) => itoa_any (z % 2147483648) (by omega) (by omega) W (Joins.tab_stays hg htab hb (Nat.le_refl _)))
  have s1 := itoa_size (u := z / 2147483648) (by omega) (by omega)
  have s2 := itoa_size (u := z % 2147483648) (by omega) (by omega)
  unfold textB
  generalize (⟨(Lib.itoa (z / 2147483648)).toArray⟩ : ByteArray) = a at *
  generalize (⟨(Lib.itoa (z % 2147483648)).toArray⟩ : ByteArray) = b at *
  generalize z / 2147483648 = ze at *
  generalize z % 2147483648 = zc at *
  clear h htab
  go_enter Tryd.func30, Tryd.ntmps30
  go_wp2_with (first | (go_at_call 32; refine (HG.out _).mono ?_; rintro e w1 ⟨rfl, rfl⟩; skip) | (go_at_call 35; refine (HE.out _).mono ?_; rintro e w1 ⟨rfl, rfl⟩; skip) | (go_at_call 36; refine (HN.out _).mono ?_; rintro e w1 ⟨rfl, rfl⟩; skip) | (go_at_call 48; refine (HI1.out _ (by repeat (first | exact Below.refl _ _ | assumption | refine Below.drew ?_ | refine Below.drewN' ?_ _ | refine below_grow0 _ _ ?_ | refine below_alloc0 _ ?_ | refine Below.alloc ?_ (by first | omega | (simp; done) | (simp; omega)) _ | refine Below.setCell ?_ (by first | omega | (simp; done) | (simp; omega)) _ | refine Below.grow _ _ _ ?_ (by first | omega | (simp; done) | (simp; omega))))).mono ?_; rintro e w1 ⟨rfl, hb⟩; obtain ⟨ext1, d1, rfl⟩ := Below.grown_eq w (Below.own (by repeat (first | exact Below.refl _ _ | assumption | refine Below.drew ?_ | refine Below.drewN' ?_ _ | refine below_grow0 _ _ ?_ | refine below_alloc0 _ ?_ | refine Below.alloc ?_ (by first | omega | (simp; done) | (simp; omega)) _ | refine Below.setCell ?_ (by first | omega | (simp; done) | (simp; omega)) _ | refine Below.grow _ _ _ ?_ (by first | omega | (simp; done) | (simp; omega)))) hb); clear hb HI1) | (go_at_call 48; refine (HI2.out _ (by repeat (first | exact Below.refl _ _ | assumption | refine Below.drew ?_ | refine Below.drewN' ?_ _ | refine below_grow0 _ _ ?_ | refine below_alloc0 _ ?_ | refine Below.alloc ?_ (by first | omega | (simp; done) | (simp; omega)) _ | refine Below.setCell ?_ (by first | omega | (simp; done) | (simp; omega)) _ | refine Below.grow _ _ _ ?_ (by first | omega | (simp; done) | (simp; omega))))).mono ?_; rintro e w1 ⟨rfl, hb⟩; obtain ⟨ext2, d2, rfl⟩ := Below.grown_eq w (Below.own (by repeat (first | exact Below.refl _ _ | assumption | refine Below.drew ?_ | refine Below.drewN' ?_ _ | refine below_grow0 _ _ ?_ | refine below_alloc0 _ ?_ | refine Below.alloc ?_ (by first | omega | (simp; done) | (simp; omega)) _ | refine Below.setCell ?_ (by first | omega | (simp; done) | (simp; omega)) _ | refine Below.grow _ _ _ ?_ (by first | omega | (simp; done) | (simp; omega)))) hb); clear hb HI2))
  go_ret2
  exact ⟨rfl, (by repeat (first | exact Below.refl _ _ | assumption | refine Below.drew ?_ | refine Below.drewN' ?_ _ | refine below_grow0 _ _ ?_ | refine below_alloc0 _ ?_ | refine Below.alloc ?_ (by first | omega | (simp; done) | (simp; omega)) _ | refine Below.setCell ?_ (by first | omega | (simp; done) | (simp; omega)) _ | refine Below.grow _ _ _ ?_ (by first | omega | (simp; done) | (simp; omega))))⟩
end Go.Proofs.YtkogdnkifnhljaaDoor
