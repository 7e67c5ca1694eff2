/- Lemmas for the statement: Zread, Zplain, Zep, StoreA, TreeNew, Boot, Deep, DiskArg, WalKeeps, TornL, Filled, Taken. -/
import Derived.Lib.SmallJoins
import Derived.Deep.RegionHeld3
import Derived.ChangeOld
import Derived.Deep.DeepCutAuto
import Derived.Test.YtkoemhdchoicaaaDoorCards
import Derived.Test.YtkoemhdchoicaaaDoorTie
import Derived.Lay
import Derived.LaidMore
import Derived.SevenTiedAt
import Derived.Test.YtkoemhdchoicaaaDoorPt1
import Derived.Test.YtkoemhdchoicaaaDoorPt2
import Derived.Test.YtkoemhdchoicaaaDoorPt3
import Derived.Test.YtkoemhdchoicaaaDoorPt4
import Derived.Test.YtkoemhdchoicaaaDoorPt5
import Derived.Test.YtkoemhdchoicaaaDoorPt6
import Derived.Test.YtkoemhdchoicaaaDoorPt7
import Derived.Test.YtkoemhdchoicaaaDoorPt8
/- strings.Cut at a dot; zxid.Read, zxid.Text. -/
namespace Go.Proofs.YtkoemhdchoicaaaDoor
open Go.RowKit
def cutR (s : ByteArray) : ByteArray × ByteArray × Bool := if Lib.indexByte s.data.toList 46 < 0 then (s, ⟨#[]⟩, false) else (s.extract 0 (Lib.indexByte s.data.toList 46).toNat, s.extract ((Lib.indexByte s.data.toList 46).toNat + 1) s.size, true)
set_option maxHeartbeats 1000000 in
theorem scut_any (s : ByteArray) (w : World) (hs : s.size ≤ 4611686018427387904) :
    Calls Tryd.prog 60 #[.string s, .string ⟨#[46]⟩] w fun e w' => e = .returned (.tuple #[.string (cutR s).1, .string (cutR s).2.1, .bool (cutR s).2.2]) ∧ Below w.heap.size w w' := by
  have HI := Lib.hid (fun (W : World) => Tryd.stringslite_Index_one s 46 W)
  have hge := Lib.indexByte_ge s.data.toList 46
  unfold cutR
  rcases Int.lt_or_le (Lib.indexByte s.data.toList 46) 0 with hi | hi
  · simp only [if_pos hi]
    have hi1 : Lib.indexByte s.data.toList 46 = -1 := by omega
    rw [hi1] at HI
    clear hi hge hi1
    go_enter Tryd.func60, Tryd.ntmps60
    go_wp2_with (go_at_call 69; refine (HI.out _).mono ?_; rintro e w1 ⟨rfl, rfl⟩; skip)
    refine bodyPost_ret (v := .tuple #[.string s, .string ⟨#[]⟩, .bool false]) (by simp [results, Tryd.results60, go_sem]) rfl ⟨rfl, (by repeat (first | exact Below.refl _ _ | assumption | refine Below.drew ?_ | refine Below.drewN' ?_ _ | refine below_grow0 _ _ ?_ | refine below_alloc0 _ ?_ | refine Below.alloc ?_ (by first | omega | (simp; done) | (simp; omega)) _ | refine Below.setCell ?_ (by first | omega | (simp; done) | (simp; omega)) _ | refine Below.grow _ _ _ ?_ (by first | omega | (simp; done) | (simp; omega))))⟩
  · simp only [if_neg (Int.not_lt.2 hi)]
    obtain ⟨o, ho⟩ := Int.eq_ofNat_of_zero_le hi
    have hlt : o < s.size := by
      have := (Lib.indexByte_some ho).1
      have h2 := (List.getElem?_eq_some_iff.1 this).1
      simpa using h2
    rw [ho] at HI ⊢
    have hgi : (decide ((o : Int) ≥ 0)) = true := decide_eq_true (by omega)
    clear hi hge ho
    rw [Int.toNat_natCast]
    go_enter Tryd.func60, Tryd.ntmps60
    go_wp2_with (go_at_call 69; refine (HI.out _).mono ?_; rintro e w1 ⟨rfl, rfl⟩; skip)
    go_region
    go_wp2_with fail
    refine bodyPost_ret (v := .tuple #[.string (s.extract 0 o), .string (s.extract (o + 1) s.size), .bool true]) (by simp [results, Tryd.results60, go_sem]) rfl ⟨rfl, (by repeat (first | exact Below.refl _ _ | assumption | refine Below.drew ?_ | refine Below.drewN' ?_ _ | refine below_grow0 _ _ ?_ | refine below_alloc0 _ ?_ | refine Below.alloc ?_ (by first | omega | (simp; done) | (simp; omega)) _ | refine Below.setCell ?_ (by first | omega | (simp; done) | (simp; omega)) _ | refine Below.grow _ _ _ ?_ (by first | omega | (simp; done) | (simp; omega))))⟩
theorem cutR_size (s : ByteArray) : (cutR s).1.size ≤ s.size ∧ (cutR s).2.1.size ≤ s.size := by
  unfold cutR
  split
  · exact ⟨Nat.le_refl _, Nat.zero_le _⟩
  · simp only [ByteArray.size_extract]
    omega
theorem cut_any (s : ByteArray) (w : World) (hs : s.size ≤ 4611686018427387904) :
    Calls Tryd.prog 45 #[.string s, .string ⟨#[46]⟩] w fun e w' => e = .returned (.tuple #[.string (cutR s).1, .string (cutR s).2.1, .bool (cutR s).2.2]) ∧ Below w.heap.size w w' := by
  have HC := Lib.hid (fun (W : World) => scut_any s W hs)
  generalize cutR s = r at *
  go_enter Tryd.func45, Tryd.ntmps45
  go_wp2_with (go_at_call 60; refine (HC.out _).mono ?_; rintro e w1 ⟨rfl, hb⟩; obtain ⟨ext1, d1, rfl⟩ := Below.grown_eq _ hb; clear hb)
  refine bodyPost_ret (v := .tuple #[.string r.1, .string r.2.1, .bool r.2.2]) (by simp [results, Tryd.results45, go_sem]) rfl ⟨rfl, (by repeat (first | exact Below.refl _ _ | assumption | refine Below.drew ?_ | refine Below.drewN' ?_ _ | refine below_grow0 _ _ ?_ | refine below_alloc0 _ ?_ | refine Below.alloc ?_ (by first | omega | (simp; done) | (simp; omega)) _ | refine Below.setCell ?_ (by first | omega | (simp; done) | (simp; omega)) _ | refine Below.grow _ _ _ ?_ (by first | omega | (simp; done) | (simp; omega))))⟩
instance (a : Int) : Decidable (Half a) := by unfold Half; exact inferInstance
def makeR (a b : Int) : Int × Int := if Half a ∧ Half b then (a * 2147483648 + b, 0) else (0, 3)
theorem zmake_any (a b : Int) (w : World) :
    Calls Tryd.prog 39 #[.int .i64 a, .int .i64 b] w fun e w' => e = .returned (.tuple #[.int .i64 (makeR a b).1, .int .i64 (makeR a b).2]) ∧ w = w' := by
  unfold makeR
  by_cases h : Half a ∧ Half b
  · rw [if_pos h]; exact zmake_ok a b w h.1 h.2
  · rw [if_neg h]; exact zmake_no a b w h
def readR (s : ByteArray) : Int × Int := if (cutR s).2.2 && (smallOk (bs (cutR s).1) && smallOk (bs (cutR s).2.1)) then makeR (smallV (bs (cutR s).1)) (smallV (bs (cutR s).2.1)) else (0, 2)
set_option maxHeartbeats 1000000 in
theorem read_any (s : ByteArray) (w : World) (hs : s.size ≤ 4611686018427387904) :
    Calls Tryd.prog 31 #[.string s] w fun e w' => e = .returned (.tuple #[.int .i64 (readR s).1, .int .i64 (readR s).2]) ∧ Below w.heap.size w w' := by
  have hz := cutR_size s
  have HC := Lib.hid (fun (W : World) => cut_any s W hs)
  have HA := Lib.hid (fun (W : World) => small_any (cutR s).1 W (by omega))
  have HB := Lib.hid (fun (W : World) => small_any (cutR s).2.1 W (by omega))
  have HM := Lib.hid (fun (W : World) => zmake_any (smallV (bs (cutR s).1)) (smallV (bs (cutR s).2.1)) W)
  unfold readR
  generalize makeR (smallV (bs (cutR s).1)) (smallV (bs (cutR s).2.1)) = mk at *
  generalize smallV (bs (cutR s).1) = va at *
  generalize smallV (bs (cutR s).2.1) = vb at *
  generalize smallOk (bs (cutR s).1) = oa at *
  generalize smallOk (bs (cutR s).2.1) = ob at *
  generalize cutR s = r at *
  obtain ⟨ra, rb, rok⟩ := r
  simp only at *
  clear hz
  cases rok with
  | false =>
    simp only [Bool.false_and, Bool.false_eq_true, if_false]
    go_enter Tryd.func31, Tryd.ntmps31
    go_wp2_with
      (first | (go_at_call 45; refine (HC.out _).mono ?_; rintro e w1 ⟨rfl, hb⟩; obtain ⟨ext1, d1, rfl⟩ := Below.grown_eq w (Below.own (by repeat (first | exact Below.refl _ _ | assumption | refine Below.drew ?_ | refine Below.drewN' ?_ _ | refine below_grow0 _ _ ?_ | refine below_alloc0 _ ?_ | refine Below.alloc ?_ (by first | omega | (simp; done) | (simp; omega)) _ | refine Below.setCell ?_ (by first | omega | (simp; done) | (simp; omega)) _ | refine Below.grow _ _ _ ?_ (by first | omega | (simp; done) | (simp; omega)))) hb); clear hb HC) | (go_at_call 46; refine (HA.out _).mono ?_; rintro e w1 ⟨rfl, hb⟩; obtain ⟨ext1, d1, rfl⟩ := Below.grown_eq w (Below.own (by repeat (first | exact Below.refl _ _ | assumption | refine Below.drew ?_ | refine Below.drewN' ?_ _ | refine below_grow0 _ _ ?_ | refine below_alloc0 _ ?_ | refine Below.alloc ?_ (by first | omega | (simp; done) | (simp; omega)) _ | refine Below.setCell ?_ (by first | omega | (simp; done) | (simp; omega)) _ | refine Below.grow _ _ _ ?_ (by first | omega | (simp; done) | (simp; omega)))) hb); clear hb HA) | (go_at_call 46; refine (HB.out _).mono ?_; rintro e w1 ⟨rfl, hb⟩; obtain ⟨ext1, d1, rfl⟩ := Below.grown_eq w (Below.own (by repeat (first | exact Below.refl _ _ | assumption | refine Below.drew ?_ | refine Below.drewN' ?_ _ | refine below_grow0 _ _ ?_ | refine below_alloc0 _ ?_ | refine Below.alloc ?_ (by first | omega | (simp; done) | (simp; omega)) _ | refine Below.setCell ?_ (by first | omega | (simp; done) | (simp; omega)) _ | refine Below.grow _ _ _ ?_ (by first | omega | (simp; done) | (simp; omega)))) hb); clear hb HB) | (go_at_call 39; refine (HM.out _).mono ?_; rintro e w1 ⟨rfl, rfl⟩; skip))
    go_ret2
    exact ⟨rfl, (by repeat (first | exact Below.refl _ _ | assumption | refine Below.drew ?_ | refine Below.drewN' ?_ _ | refine below_grow0 _ _ ?_ | refine below_alloc0 _ ?_ | refine Below.alloc ?_ (by first | omega | (simp; done) | (simp; omega)) _ | refine Below.setCell ?_ (by first | omega | (simp; done) | (simp; omega)) _ | refine Below.grow _ _ _ ?_ (by first | omega | (simp; done) | (simp; omega))))⟩
  | true =>
    cases oa with
    | false =>
      simp only [Bool.false_and, Bool.and_false, Bool.false_eq_true, if_false]
      go_enter Tryd.func31, Tryd.ntmps31
      go_wp2_with
        (first | (go_at_call 45; refine (HC.out _).mono ?_; rintro e w1 ⟨rfl, hb⟩; obtain ⟨ext1, d1, rfl⟩ := Below.grown_eq w (Below.own (by repeat (first | exact Below.refl _ _ | assumption | refine Below.drew ?_ | refine Below.drewN' ?_ _ | refine below_grow0 _ _ ?_ | refine below_alloc0 _ ?_ | refine Below.alloc ?_ (by first | omega | (simp; done) | (simp; omega)) _ | refine Below.setCell ?_ (by first | omega | (simp; done) | (simp; omega)) _ | refine Below.grow _ _ _ ?_ (by first | omega | (simp; done) | (simp; omega)))) hb); clear hb HC) | (go_at_call 46; refine (HA.out _).mono ?_; rintro e w1 ⟨rfl, hb⟩; obtain ⟨ext1, d1, rfl⟩ := Below.grown_eq w (Below.own (by repeat (first | exact Below.refl _ _ | assumption | refine Below.drew ?_ | refine Below.drewN' ?_ _ | refine below_grow0 _ _ ?_ | refine below_alloc0 _ ?_ | refine Below.alloc ?_ (by first | omega | (simp; done) | (simp; omega)) _ | refine Below.setCell ?_ (by first | omega | (simp; done) | (simp; omega)) _ | refine Below.grow _ _ _ ?_ (by first | omega | (simp; done) | (simp; omega)))) hb); clear hb HA) | (go_at_call 46; refine (HB.out _).mono ?_; rintro e w1 ⟨rfl, hb⟩; obtain ⟨ext1, d1, rfl⟩ := Below.grown_eq w (Below.own (by repeat (first | exact Below.refl _ _ | assumption | refine Below.drew ?_ | refine Below.drewN' ?_ _ | refine below_grow0 _ _ ?_ | refine below_alloc0 _ ?_ | refine Below.alloc ?_ (by first | omega | (simp; done) | (simp; omega)) _ | refine Below.setCell ?_ (by first | omega | (simp; done) | (simp; omega)) _ | refine Below.grow _ _ _ ?_ (by first | omega | (simp; done) | (simp; omega)))) hb); clear hb HB) | (go_at_call 39; refine (HM.out _).mono ?_; rintro e w1 ⟨rfl, rfl⟩; skip))
      go_ret2
      exact ⟨rfl, (by repeat (first | exact Below.refl _ _ | assumption | refine Below.drew ?_ | refine Below.drewN' ?_ _ | refine below_grow0 _ _ ?_ | refine below_alloc0 _ ?_ | refine Below.alloc ?_ (by first | omega | (simp; done) | (simp; omega)) _ | refine Below.setCell ?_ (by first | omega | (simp; done) | (simp; omega)) _ | refine Below.grow _ _ _ ?_ (by first | omega | (simp; done) | (simp; omega))))⟩
    | true =>
      cases ob with
      | false =>
        simp only [Bool.and_false, Bool.false_eq_true, if_false]
        go_enter Tryd.func31, Tryd.ntmps31
        go_wp2_with
          (first | (go_at_call 45; refine (HC.out _).mono ?_; rintro e w1 ⟨rfl, hb⟩; obtain ⟨ext1, d1, rfl⟩ := Below.grown_eq w (Below.own (by repeat (first | exact Below.refl _ _ | assumption | refine Below.drew ?_ | refine Below.drewN' ?_ _ | refine below_grow0 _ _ ?_ | refine below_alloc0 _ ?_ | refine Below.alloc ?_ (by first | omega | (simp; done) | (simp; omega)) _ | refine Below.setCell ?_ (by first | omega | (simp; done) | (simp; omega)) _ | refine Below.grow _ _ _ ?_ (by first | omega | (simp; done) | (simp; omega)))) hb); clear hb HC) | (go_at_call 46; refine (HA.out _).mono ?_; rintro e w1 ⟨rfl, hb⟩; obtain ⟨ext1, d1, rfl⟩ := Below.grown_eq w (Below.own (by repeat (first | exact Below.refl _ _ | assumption | refine Below.drew ?_ | refine Below.drewN' ?_ _ | refine below_grow0 _ _ ?_ | refine below_alloc0 _ ?_ | refine Below.alloc ?_ (by first | omega | (simp; done) | (simp; omega)) _ | refine Below.setCell ?_ (by first | omega | (simp; done) | (simp; omega)) _ | refine Below.grow _ _ _ ?_ (by first | omega | (simp; done) | (simp; omega)))) hb); clear hb HA) | (go_at_call 46; refine (HB.out _).mono ?_; rintro e w1 ⟨rfl, hb⟩; obtain ⟨ext1, d1, rfl⟩ := Below.grown_eq w (Below.own (by repeat (first | exact Below.refl _ _ | assumption | refine Below.drew ?_ | refine Below.drewN' ?_ _ | refine below_grow0 _ _ ?_ | refine below_alloc0 _ ?_ | refine Below.alloc ?_ (by first | omega | (simp; done) | (simp; omega)) _ | refine Below.setCell ?_ (by first | omega | (simp; done) | (simp; omega)) _ | refine Below.grow _ _ _ ?_ (by first | omega | (simp; done) | (simp; omega)))) hb); clear hb HB) | (go_at_call 39; refine (HM.out _).mono ?_; rintro e w1 ⟨rfl, rfl⟩; skip))
        go_ret2
        exact ⟨rfl, (by repeat (first | exact Below.refl _ _ | assumption | refine Below.drew ?_ | refine Below.drewN' ?_ _ | refine below_grow0 _ _ ?_ | refine below_alloc0 _ ?_ | refine Below.alloc ?_ (by first | omega | (simp; done) | (simp; omega)) _ | refine Below.setCell ?_ (by first | omega | (simp; done) | (simp; omega)) _ | refine Below.grow _ _ _ ?_ (by first | omega | (simp; done) | (simp; omega))))⟩
      | true =>
        simp only [Bool.and_self, if_true]
        go_enter Tryd.func31, Tryd.ntmps31
        go_wp2_with
          (first | (go_at_call 45; refine (HC.out _).mono ?_; rintro e w1 ⟨rfl, hb⟩; obtain ⟨ext1, d1, rfl⟩ := Below.grown_eq w (Below.own (by repeat (first | exact Below.refl _ _ | assumption | refine Below.drew ?_ | refine Below.drewN' ?_ _ | refine below_grow0 _ _ ?_ | refine below_alloc0 _ ?_ | refine Below.alloc ?_ (by first | omega | (simp; done) | (simp; omega)) _ | refine Below.setCell ?_ (by first | omega | (simp; done) | (simp; omega)) _ | refine Below.grow _ _ _ ?_ (by first | omega | (simp; done) | (simp; omega)))) hb); clear hb HC) | (go_at_call 46; refine (HA.out _).mono ?_; rintro e w1 ⟨rfl, hb⟩; obtain ⟨ext1, d1, rfl⟩ := Below.grown_eq w (Below.own (by repeat (first | exact Below.refl _ _ | assumption | refine Below.drew ?_ | refine Below.drewN' ?_ _ | refine below_grow0 _ _ ?_ | refine below_alloc0 _ ?_ | refine Below.alloc ?_ (by first | omega | (simp; done) | (simp; omega)) _ | refine Below.setCell ?_ (by first | omega | (simp; done) | (simp; omega)) _ | refine Below.grow _ _ _ ?_ (by first | omega | (simp; done) | (simp; omega)))) hb); clear hb HA) | (go_at_call 46; refine (HB.out _).mono ?_; rintro e w1 ⟨rfl, hb⟩; obtain ⟨ext1, d1, rfl⟩ := Below.grown_eq w (Below.own (by repeat (first | exact Below.refl _ _ | assumption | refine Below.drew ?_ | refine Below.drewN' ?_ _ | refine below_grow0 _ _ ?_ | refine below_alloc0 _ ?_ | refine Below.alloc ?_ (by first | omega | (simp; done) | (simp; omega)) _ | refine Below.setCell ?_ (by first | omega | (simp; done) | (simp; omega)) _ | refine Below.grow _ _ _ ?_ (by first | omega | (simp; done) | (simp; omega)))) hb); clear hb HB) | (go_at_call 39; refine (HM.out _).mono ?_; rintro e w1 ⟨rfl, rfl⟩; skip))
        go_ret2
        exact ⟨rfl, (by repeat (first | exact Below.refl _ _ | assumption | refine Below.drew ?_ | refine Below.drewN' ?_ _ | refine below_grow0 _ _ ?_ | refine below_alloc0 _ ?_ | refine Below.alloc ?_ (by first | omega | (simp; done) | (simp; omega)) _ | refine Below.setCell ?_ (by first | omega | (simp; done) | (simp; omega)) _ | refine Below.grow _ _ _ ?_ (by first | omega | (simp; done) | (simp; omega))))⟩
theorem zgood_any (a : Int) (w : World) :
    Calls Tryd.prog 37 #[.int .i64 a] w fun e w' => e = .returned (.bool (decide (0 ≤ a ∧ a < 4611686018427387904))) ∧ w = w' := by
  by_cases h : Zx a
  · rw [decide_eq_true (show 0 ≤ a ∧ a < 4611686018427387904 from h)]; exact zgood_yes a w h
  · rw [decide_eq_false (show ¬ (0 ≤ a ∧ a < 4611686018427387904) from h)]; exact zgood_no a w h
def textB (z : Int) : ByteArray := ⟨(Lib.itoa (z / 2147483648)).toArray⟩ ++ ⟨#[46]⟩ ++ ⟨(Lib.itoa (z % 2147483648)).toArray⟩
theorem text_no (z : Int) (w : World) (h : ¬ Zx z) :
    Calls Tryd.prog 40 #[.int .i64 z] w fun e w' => e = .returned (.tuple #[.string ⟨#[]⟩, .int .i64 3]) ∧ w = w' := by
  have HG := Lib.hid (fun (W : World) => zgood_no z W h)
  clear h
  go_enter Tryd.func40, Tryd.ntmps40
  go_wp2_with (go_at_call 37; refine (HG.out _).mono ?_; rintro e w1 ⟨rfl, rfl⟩; skip)
  go_ret2
  exact ⟨rfl, rfl⟩
theorem itoa_size {u : Int} (h0 : 0 ≤ u) (h : u < 10000000000) : (⟨(Lib.itoa u).toArray⟩ : ByteArray).size ≤ 10 := by
  show (Lib.itoa u).toArray.size ≤ 10
  unfold Lib.itoa
  rw [if_neg (by omega)]
  have := dec_len 9 u.toNat (by omega)
  simpa using this
theorem itoa_any (n : Int) (h0 : 0 ≤ n) (h1 : n ≤ 9223372036854775807) (w : World) (htab : Lib.TabIs Tryd.prog w "internal/strconv.uint64pow10" .u64 Lib.pow10Tab) :
    Calls Tryd.prog 54 #[.int .i64 n] w fun e w' => e = .returned (.string ⟨(Lib.itoa n).toArray⟩) ∧ Below w.heap.size w w' := by
  refine (Tryd.strconv_Itoa n (by omega) h1 w htab).mono ?_
  rintro e w' ⟨rfl, k, os, rfl⟩
  exact ⟨rfl, below_grow0 (W := w) os (w.drewN k).drawn (Below.refl _ _)⟩
set_option maxHeartbeats 1000000 in
theorem text_yes (z : Int) (w : World) (h : Zx z) (htab : Lib.TabIs Tryd.prog w "internal/strconv.uint64pow10" .u64 Lib.pow10Tab) (g : Nat) (hg : Tryd.prog.globalNamed "internal/strconv.uint64pow10" = some g) :
    Calls Tryd.prog 40 #[.int .i64 z] w fun e w' => e = .returned (.tuple #[.string (textB z), .int .i64 0]) ∧ Below w.heap.size w w' := by
  have HG := Lib.hid (fun (W : World) => zgood_yes z W h)
  have HE := Lib.hid (fun (W : World) => zepoch_ok z W h)
  have HN := Lib.hid (fun (W : World) => zcount_ok z W h)
  have h2 := h
  unfold Zx at h2
  have HI1 := Lib.hid (fun (W : World) (hb : Below w.heap.size w W) => itoa_any (z / 2147483648) (by omega) (by omega) W (Joins.tab_stays hg htab hb (Nat.le_refl _)))
  have HI2 := Lib.hid (fun (W : World) (hb : Below w.heap.size w W) => itoa_any (z % 2147483648) (by omega) (by omega) W (Joins.tab_stays hg htab hb (Nat.le_refl _)))
  have s1 := itoa_size (u := z / 2147483648) (by omega) (by omega)
  have s2 := itoa_size (u := z % 2147483648) (by omega) (by omega)
  unfold textB
  generalize (⟨(Lib.itoa (z / 2147483648)).toArray⟩ : ByteArray) = a at *
  generalize (⟨(Lib.itoa (z % 2147483648)).toArray⟩ : ByteArray) = b at *
  generalize z / 2147483648 = ze at *
  generalize z % 2147483648 = zc at *
  clear h htab
  go_enter Tryd.func40, Tryd.ntmps40
  go_wp2_with (first | (go_at_call 37; refine (HG.out _).mono ?_; rintro e w1 ⟨rfl, rfl⟩; skip) | (go_at_call 32; refine (HE.out _).mono ?_; rintro e w1 ⟨rfl, rfl⟩; skip) | (go_at_call 55; refine (HN.out _).mono ?_; rintro e w1 ⟨rfl, rfl⟩; skip) | (go_at_call 54; refine (HI1.out _ (by repeat (first | exact Below.refl _ _ | assumption | refine Below.drew ?_ | refine Below.drewN' ?_ _ | refine below_grow0 _ _ ?_ | refine below_alloc0 _ ?_ | refine Below.alloc ?_ (by first | omega | (simp; done) | (simp; omega)) _ | refine Below.setCell ?_ (by first | omega | (simp; done) | (simp; omega)) _ | refine Below.grow _ _ _ ?_ (by first | omega | (simp; done) | (simp; omega))))).mono ?_; rintro e w1 ⟨rfl, hb⟩; obtain ⟨ext1, d1, rfl⟩ := Below.grown_eq w (Below.own (by repeat (first | exact Below.refl _ _ | assumption | refine Below.drew ?_ | refine Below.drewN' ?_ _ | refine below_grow0 _ _ ?_ | refine below_alloc0 _ ?_ | refine Below.alloc ?_ (by first | omega | (simp; done) | (simp; omega)) _ | refine Below.setCell ?_ (by first | omega | (simp; done) | (simp; omega)) _ | refine Below.grow _ _ _ ?_ (by first | omega | (simp; done) | (simp; omega)))) hb); clear hb HI1) | (go_at_call 54; refine (HI2.out _ (by repeat (first | exact Below.refl _ _ | assumption | refine Below.drew ?_ | refine Below.drewN' ?_ _ | refine below_grow0 _ _ ?_ | refine below_alloc0 _ ?_ | refine Below.alloc ?_ (by first | omega | (simp; done) | (simp; omega)) _ | refine Below.setCell ?_ (by first | omega | (simp; done) | (simp; omega)) _ | refine Below.grow _ _ _ ?_ (by first | omega | (simp; done) | (simp; omega))))).mono ?_; rintro e w1 ⟨rfl, hb⟩; obtain ⟨ext2, d2, rfl⟩ := Below.grown_eq w (Below.own (by repeat (first | exact Below.refl _ _ | assumption | refine Below.drew ?_ | refine Below.drewN' ?_ _ | refine below_grow0 _ _ ?_ | refine below_alloc0 _ ?_ | refine Below.alloc ?_ (by first | omega | (simp; done) | (simp; omega)) _ | refine Below.setCell ?_ (by first | omega | (simp; done) | (simp; omega)) _ | refine Below.grow _ _ _ ?_ (by first | omega | (simp; done) | (simp; omega)))) hb); clear hb HI2))
  go_ret2
  exact ⟨rfl, (by repeat (first | exact Below.refl _ _ | assumption | refine Below.drew ?_ | refine Below.drewN' ?_ _ | refine below_grow0 _ _ ?_ | refine below_alloc0 _ ?_ | refine Below.alloc ?_ (by first | omega | (simp; done) | (simp; omega)) _ | refine Below.setCell ?_ (by first | omega | (simp; done) | (simp; omega)) _ | refine Below.grow _ _ _ ?_ (by first | omega | (simp; done) | (simp; omega))))⟩
end Go.Proofs.YtkoemhdchoicaaaDoor

/- A zxid from its text, and back: plain laws. -/
namespace Go.Proofs.YtkoemhdchoicaaaDoor
open Go.RowKit
theorem itoa_dec {u : Int} (h : 0 ≤ u) : Lib.itoa u = Lib.decDigits u.toNat := by unfold Lib.itoa; rw [if_neg (by omega)]
theorem text_bs {z : Int} (h : Zx z) : bs (textB z) = Lib.decDigits (z / 2147483648).toNat ++ 46 :: Lib.decDigits (z % 2147483648).toNat := by
  have h2 := h
  unfold Zx at h2
  unfold textB
  rw [bs_append, bs_append, itoa_dec (by omega), itoa_dec (by omega)]
  show Lib.decDigits _ ++ [46] ++ Lib.decDigits _ = _
  simp
theorem digit_dot {l : List UInt8} (h : l.all digit = true) : (46 : UInt8) ∉ l := by
  intro hm
  have := List.all_eq_true.1 h _ hm
  revert this
  decide
theorem index_mid {x y : List UInt8} (h : (46 : UInt8) ∉ x) : Lib.indexByte (x ++ 46 :: y) 46 = x.length := by
  have hge := Lib.indexByte_ge (x ++ 46 :: y) 46
  rcases Int.lt_or_le (Lib.indexByte (x ++ 46 :: y) 46) 0 with hi | hi
  · exfalso
    have := Lib.indexByte_none (show Lib.indexByte (x ++ 46 :: y) 46 = -1 by omega) x.length
    exact this (by rw [List.getElem?_append_right (Nat.le_refl _), Nat.sub_self]; rfl)
  · obtain ⟨o, ho⟩ := Int.eq_ofNat_of_zero_le hi
    obtain ⟨h1, h2⟩ := Lib.indexByte_some ho
    rw [ho]
    congr 1
    rcases Nat.lt_trichotomy o x.length with hlt | heq | hgt
    · exfalso
      rw [List.getElem?_append_left hlt] at h1
      exact h (List.mem_iff_getElem?.2 ⟨o, h1⟩)
    · exact heq
    · exact absurd (by rw [List.getElem?_append_right (Nat.le_refl _), Nat.sub_self]; rfl) (h2 x.length hgt)
theorem cut_mid {s : ByteArray} {x y : List UInt8} (hb : bs s = x ++ 46 :: y) (h : (46 : UInt8) ∉ x) : bs (cutR s).1 = x ∧ bs (cutR s).2.1 = y ∧ (cutR s).2.2 = true := by
  have hi : Lib.indexByte s.data.toList 46 = (x.length : Int) := by
    have : s.data.toList = x ++ 46 :: y := hb
    rw [this]
    exact index_mid h
  unfold cutR
  rw [hi, if_neg (by omega), Int.toNat_natCast]
  refine ⟨?_, ?_, rfl⟩
  · rw [bs_extract, hb]
    simp
  · rw [bs_extract, List.take_of_length_le (by rw [length_bs]; exact Nat.le_refl _), hb, List.drop_append, List.drop_of_length_le (by omega), show x.length + 1 - x.length = 1 from by omega]
    rfl
theorem read_text {z : Int} (h : Zx z) : readR (textB z) = (z, 0) := by
  have h2 := h
  unfold Zx at h2
  have d1 := dec_digits (z / 2147483648).toNat
  obtain ⟨c1, c2, c3⟩ := cut_mid (text_bs h) (digit_dot d1.1)
  have e1 := dec_small (u := (z / 2147483648).toNat) (by omega)
  have e2 := dec_small (u := (z % 2147483648).toNat) (by omega)
  unfold readR
  rw [c1, c2, c3, e1.1, e1.2, e2.1, e2.2]
  simp only [Bool.and_self, if_true]
  unfold makeR
  rw [if_pos ⟨⟨by omega, by omega⟩, ⟨by omega, by omega⟩⟩]
  congr 1
  omega
theorem cut_back {s : ByteArray} (h : (cutR s).2.2 = true) : bs s = bs (cutR s).1 ++ 46 :: bs (cutR s).2.1 := by
  unfold cutR at h ⊢
  rcases Int.lt_or_le (Lib.indexByte s.data.toList 46) 0 with hi | hi
  · rw [if_pos hi] at h; cases h
  · rw [if_neg (Int.not_lt.2 hi)]
    obtain ⟨o, ho⟩ := Int.eq_ofNat_of_zero_le hi
    have hso : (bs s)[o]? = some 46 := (Lib.indexByte_some ho).1
    have hcut : bs s = (bs s).take o ++ 46 :: (bs s).drop (o + 1) := by
      obtain ⟨h1, h2⟩ := List.getElem?_eq_some_iff.1 hso
      rw [← h2, List.getElem_cons_drop, List.take_append_drop]
    have hfull : (bs s).take s.size = bs s := List.take_of_length_le (by rw [length_bs]; exact Nat.le_refl _)
    rw [ho, Int.toNat_natCast]
    show bs s = bs (s.extract 0 o) ++ 46 :: bs (s.extract (o + 1) s.size)
    rw [bs_extract, bs_extract, hfull]
    exact hcut
theorem read_only {s : ByteArray} (h : (readR s).2 = 0) : Zx (readR s).1 ∧ textB (readR s).1 = s := by
  unfold readR at h ⊢
  cases hc : (cutR s).2.2 && (smallOk (bs (cutR s).1) && smallOk (bs (cutR s).2.1)) with
  | false => rw [hc] at h; simp at h
  | true =>
    rw [hc] at h
    rw [if_pos rfl] at h ⊢
    simp only [Bool.and_eq_true] at hc
    obtain ⟨c1, c2, c3⟩ := hc
    obtain ⟨va, a1, a2, _⟩ := small_dec c2
    obtain ⟨vb, b1, b2, _⟩ := small_dec c3
    have hcut := cut_back c1
    rw [a1, b1] at h ⊢
    unfold makeR at h ⊢
    by_cases hh : Half (va : Int) ∧ Half (vb : Int)
    · rw [if_pos hh]
      obtain ⟨⟨h1, h2⟩, ⟨h3, h4⟩⟩ := hh
      have hz : Zx ((va : Int) * 2147483648 + vb) := ⟨by omega, by omega⟩
      refine ⟨hz, bs_inj ?_⟩
      rw [text_bs hz, show (((va : Int) * 2147483648 + vb) / 2147483648).toNat = va by omega, show (((va : Int) * 2147483648 + vb) % 2147483648).toNat = vb by omega, a2, b2]
      exact hcut.symm
    · rw [if_neg hh] at h
      simp at h
theorem readR_not {s : ByteArray} (h : (readR s).2 ≠ 0) : (readR s).1 = 0 := by
  unfold readR makeR at *
  split
  · rename_i h1
    rw [if_pos h1] at h
    split
    · rename_i h2; rw [if_pos h2] at h; simp at h
    · rfl
  · rfl
end Go.Proofs.YtkoemhdchoicaaaDoor

/- zxid.Epoch, whatever the number. -/
namespace Go.Proofs.YtkoemhdchoicaaaDoor
open Go.RowKit Go.ChangeShapes Go.WideShapes Go.ChangeAt
def epochZ (a : Int) : Int := if 0 ≤ a ∧ a < 4611686018427387904 then a / 2147483648 else 0
theorem zepoch_any (a : Int) (w : World) :
    Calls Tryd.prog 32 #[.int .i64 a] w fun e w' => e = .returned (.int .i64 (epochZ a)) ∧ w = w' := by
  unfold epochZ
  by_cases h : 0 ≤ a ∧ a < 4611686018427387904
  · rw [if_pos h]; exact zepoch_ok a w h
  · rw [if_neg h]; exact zepoch_no a w h
theorem epochZ_range (a : Int) : 0 ≤ epochZ a ∧ epochZ a ≤ 2147483647 := by unfold epochZ; split <;> omega
end Go.Proofs.YtkoemhdchoicaaaDoor

/- store.Epoch, tree.New. -/
namespace Go.Proofs.YtkoemhdchoicaaaDoor
open Go.RowKit Go.ChangeShapes Go.WideShapes Go.ChangeAt
abbrev epN : ByteArray := ⟨#[101, 112, 111, 99, 104]⟩
def epochF (f : List File) : Int := if readE f epN = 0 then (if (readR (readS f epN)).2 = 0 then epochZ (readR (readS f epN)).1 else 0) else 0
theorem readS_small {f : List File} {p : ByteArray} (h : readE f p = 0) : (readS f p).size ≤ 1048576 := readS_size h
set_option maxHeartbeats 1000000 in
theorem storeEpoch (v : Value) (f : List File) (w : World) (h : Sl cFile 3 w v f) (hz : ∀ x ∈ f, x.sized) :
    Calls Tryd.prog 19 #[.agg #[v]] w fun e w' => e = .returned (.int .i64 (epochF f)) ∧ Below w.heap.size w w' := by
  obtain ⟨A, c, rfl, hc1, hc2⟩ := h.form
  have H := Lib.hid h
  have HR := Lib.hid (fun (W : World) (v : Value) (h : Sl cFile 3 W v f) => dkRead v f epN W h hz)
  unfold epochF
  by_cases h0 : readE f epN = 0
  · have hs := readS_size h0
    rw [if_pos h0]
    rw [h0] at HR
    generalize readS f epN = s at *
    have HZ := Lib.hid (fun (W : World) => read_any s W (by omega))
    have HEP := Lib.hid (fun (W : World) => zepoch_any (readR s).1 W)
    clear h hz h0
    by_cases h1 : (readR s).2 = 0
    · rw [if_pos h1]
      rw [h1] at HZ
      generalize (readR s).1 = z at *
      generalize epochZ z = ep at *
      clear h1
      go_enter Tryd.func19, Tryd.ntmps19
      go_wp2_with (first | (go_at_call 30; refine (HR.out _ _ (H.out.below (by repeat (first | exact Below.refl _ _ | assumption | refine Below.drew ?_ | refine Below.drewN' ?_ _ | refine below_grow0 _ _ ?_ | refine below_alloc0 _ ?_ | refine Below.alloc ?_ (by first | omega | (simp; done) | (simp; omega)) _ | refine Below.setCell ?_ (by first | omega | (simp; done) | (simp; omega)) _ | refine Below.grow _ _ _ ?_ (by first | omega | (simp; done) | (simp; omega)))))).mono ?_; rintro e w1 ⟨rfl, hb1⟩; obtain ⟨ext1, d1, rfl⟩ := Below.grown_eq _ hb1; clear hb1) | (go_at_call 31; refine (HZ.out _).mono ?_; rintro e w2 ⟨rfl, hb2⟩; obtain ⟨ext2, d2, rfl⟩ := Below.grown_eq _ hb2; clear hb2) | (go_at_call 32; refine (HEP.out _).mono ?_; rintro e w3 ⟨rfl, rfl⟩; skip))
      go_ret
      exact ⟨rfl, (by repeat (first | exact Below.refl _ _ | assumption | refine Below.drew ?_ | refine Below.drewN' ?_ _ | refine below_grow0 _ _ ?_ | refine below_alloc0 _ ?_ | refine Below.alloc ?_ (by first | omega | (simp; done) | (simp; omega)) _ | refine Below.setCell ?_ (by first | omega | (simp; done) | (simp; omega)) _ | refine Below.grow _ _ _ ?_ (by first | omega | (simp; done) | (simp; omega))))⟩
    · have hne : ((readR s).2 != 0) = true := bne_iff_ne.2 h1
      rw [if_neg h1]
      generalize (readR s).1 = z at *
      generalize (readR s).2 = q at *
      clear h1
      go_enter Tryd.func19, Tryd.ntmps19
      go_wp2_with (first | (go_at_call 30; refine (HR.out _ _ (H.out.below (by repeat (first | exact Below.refl _ _ | assumption | refine Below.drew ?_ | refine Below.drewN' ?_ _ | refine below_grow0 _ _ ?_ | refine below_alloc0 _ ?_ | refine Below.alloc ?_ (by first | omega | (simp; done) | (simp; omega)) _ | refine Below.setCell ?_ (by first | omega | (simp; done) | (simp; omega)) _ | refine Below.grow _ _ _ ?_ (by first | omega | (simp; done) | (simp; omega)))))).mono ?_; rintro e w1 ⟨rfl, hb1⟩; obtain ⟨ext1, d1, rfl⟩ := Below.grown_eq _ hb1; clear hb1) | (go_at_call 31; refine (HZ.out _).mono ?_; rintro e w2 ⟨rfl, hb2⟩; obtain ⟨ext2, d2, rfl⟩ := Below.grown_eq _ hb2; clear hb2))
      go_ret
      exact ⟨rfl, (by repeat (first | exact Below.refl _ _ | assumption | refine Below.drew ?_ | refine Below.drewN' ?_ _ | refine below_grow0 _ _ ?_ | refine below_alloc0 _ ?_ | refine Below.alloc ?_ (by first | omega | (simp; done) | (simp; omega)) _ | refine Below.setCell ?_ (by first | omega | (simp; done) | (simp; omega)) _ | refine Below.grow _ _ _ ?_ (by first | omega | (simp; done) | (simp; omega))))⟩
  · have hne : (readE f epN != 0) = true := bne_iff_ne.2 h0
    rw [if_neg h0]
    generalize readE f epN = q at *
    generalize readS f epN = s at *
    clear h hz h0
    go_enter Tryd.func19, Tryd.ntmps19
    go_wp2_with ((go_at_call 30; refine (HR.out _ _ (H.out.below (by repeat (first | exact Below.refl _ _ | assumption | refine Below.drew ?_ | refine Below.drewN' ?_ _ | refine below_grow0 _ _ ?_ | refine below_alloc0 _ ?_ | refine Below.alloc ?_ (by first | omega | (simp; done) | (simp; omega)) _ | refine Below.setCell ?_ (by first | omega | (simp; done) | (simp; omega)) _ | refine Below.grow _ _ _ ?_ (by first | omega | (simp; done) | (simp; omega)))))).mono ?_; rintro e w1 ⟨rfl, hb1⟩; obtain ⟨ext1, d1, rfl⟩ := Below.grown_eq _ hb1; clear hb1))
    go_ret
    exact ⟨rfl, (by repeat (first | exact Below.refl _ _ | assumption | refine Below.drew ?_ | refine Below.drewN' ?_ _ | refine below_grow0 _ _ ?_ | refine below_alloc0 _ ?_ | refine Below.alloc ?_ (by first | omega | (simp; done) | (simp; omega)) _ | refine Below.setCell ?_ (by first | omega | (simp; done) | (simp; omega)) _ | refine Below.grow _ _ _ ?_ (by first | omega | (simp; done) | (simp; omega))))⟩
end Go.Proofs.YtkoemhdchoicaaaDoor

/- tree.New. -/
namespace Go.Proofs.YtkoemhdchoicaaaDoor
open Go.RowKit Go.ChangeShapes Go.WideShapes Go.ChangeAt
def NewRes (w : World) (e : Ending) (w' : World) : Prop := ∃ A c, e = .returned (.agg #[.int .i64 0, .slice A 1 c, .slice none 0 0]) ∧ Ow cNode 9 74 w' w.heap.size (.slice A 1 c) [rootN] ∧ Below w.heap.size w w'
theorem treeNew (w : World) : Calls Tryd.prog 18 #[] w (NewRes w) := by
  go_enter Tryd.func18, Tryd.ntmps18
  go_wp2_with fail
  refine bodyPost_ret (v := .agg #[.int .i64 0, .slice (some ⟨w.heap.size + 1, 0, none⟩) 1 1, .slice none 0 0]) (by simp [results, Tryd.results18, go_sem]) rfl ⟨some ⟨w.heap.size + 1, 0, none⟩, 1, rfl, ?_, (by repeat (first | exact Below.refl _ _ | assumption | refine Below.drew ?_ | refine Below.drewN' ?_ _ | refine below_grow0 _ _ ?_ | refine below_alloc0 _ ?_ | refine Below.alloc ?_ (by first | omega | (simp; done) | (simp; omega)) _ | refine Below.setCell ?_ (by first | omega | (simp; done) | (simp; omega)) _ | refine Below.grow _ _ _ ?_ (by first | omega | (simp; done) | (simp; omega))))⟩
  exact Ow.one_at cNode 9 _ rootN _ rfl _ rfl (by simp) (by simp)
end Go.Proofs.YtkoemhdchoicaaaDoor

/- store.Boot, store.Crash. -/
namespace Go.Proofs.YtkoemhdchoicaaaDoor
open Go.RowKit Go.ChangeShapes Go.WideShapes Go.ChangeAt
def BootIs (id : Int) (f : List File) (s : Srv) (c : Int) : Prop := ∃ L f', RecIs f L f' c ∧ ((c = 0 ∧ s = ⟨true, f', id, epochF f, L, 0, 0, [rootN], [], []⟩) ∨ (c ≠ 0 ∧ s = noSrv))
def BootRes (p : Nat → Prop) (id : Int) (f : List File) (w : World) (e : Ending) (w' : World) : Prop := ∃ s c, BootIs id f s c ∧ SrvRes p s c w e w'
set_option maxRecDepth 100000 in
set_option maxHeartbeats 2000000 in
theorem storeBoot (p : Nat → Prop) (id : Int) (v : Value) (f : List File) (w : World) (h : Sl cFile 3 w v f) (hp : ∀ q, p q → q < w.heap.size) (hz : ∀ x ∈ f, x.sized) (h0 : 0 ≤ id) (h3 : id < 3) :
    Calls Tryd.prog 11 #[.int .i64 id, .agg #[v]] w (BootRes p id f w) := by
  obtain ⟨A, c, rfl, hc1, hc2⟩ := h.form
  have H := Lib.hid h
  have HP := Lib.hid hp
  have HE := Lib.hid (fun (W : World) (h : Sl cFile 3 W (.slice A f.length c) f) => storeEpoch _ f W h hz)
  have HR := Lib.hid (fun (W : World) (h : Sl cFile 3 W (.slice A f.length c) f) => recover_any _ f W h hz)
  have HB := Lib.hid (fun (L : List Txn) (f' : List File) (c : Int) (hr : RecIs f L f' c) (hc : c = 0) => show BootIs id f ⟨true, f', id, epochF f, L, 0, 0, [rootN], [], []⟩ c from ⟨L, f', hr, .inl ⟨hc, rfl⟩⟩)
  have HB2 := Lib.hid (fun (L : List Txn) (f' : List File) (c : Int) (hr : RecIs f L f' c) (hc : c ≠ 0) => show BootIs id f noSrv c from ⟨L, f', hr, .inr ⟨hc, rfl⟩⟩)
  generalize epochF f = ep at *
  have hd1 : decide (id < 0) = false := decide_eq_false (by omega)
  have hd2 : decide (3 ≤ id) = false := decide_eq_false (by omega)
  clear h hz hp
  go_enter Tryd.func11, Tryd.ntmps11
  go_upto_region 5 with (first | (go_at_call 19; refine (HE.out _ (H.out.below (by repeat (first | with_reducible exact Below.refl _ _ | with_reducible assumption | with_reducible exact below_d1 _ _ _ _ _ | with_reducible exact below_d2 _ _ _ _ _ _ _ _ | with_reducible exact below_d3 _ _ _ _ _ | with_reducible exact below_d4 _ _ _ _ _ _ _ _ | with_reducible exact below_d5 _ _ | with_reducible refine Below.drew ?_ | with_reducible refine Below.drewN' ?_ _ | with_reducible refine below_grow0 _ _ ?_ | with_reducible refine below_alloc0 _ ?_ | with_reducible refine Below.setCell ?_ ?_ _ | with_reducible refine Below.alloc ?_ ?_ _ | with_reducible refine Below.grow _ _ _ ?_ ?_ | omega | (simp; done) | (simp; omega))))).mono ?_; rintro e w1 ⟨rfl, hb1⟩; obtain ⟨ext1, d1, rfl⟩ := Below.grown_eq _ hb1; clear hb1) | (go_at_call 20; refine (HR.out _ (H.out.below (by repeat (first | with_reducible exact Below.refl _ _ | with_reducible assumption | with_reducible exact below_d1 _ _ _ _ _ | with_reducible exact below_d2 _ _ _ _ _ _ _ _ | with_reducible exact below_d3 _ _ _ _ _ | with_reducible exact below_d4 _ _ _ _ _ _ _ _ | with_reducible exact below_d5 _ _ | with_reducible refine Below.drew ?_ | with_reducible refine Below.drewN' ?_ _ | with_reducible refine below_grow0 _ _ ?_ | with_reducible refine below_alloc0 _ ?_ | with_reducible refine Below.setCell ?_ ?_ _ | with_reducible refine Below.alloc ?_ ?_ _ | with_reducible refine Below.grow _ _ _ ?_ ?_ | omega | (simp; done) | (simp; omega))))).mono ?_; rintro e w1 ⟨A2, c2, L, B, k, d, code, rfl, hr, ho2, ho3, hb2⟩; obtain ⟨ext2, d2, rfl⟩ := Below.grown_eq _ hb2; have HO2 := Lib.hid ho2; have HO3 := Lib.hid ho3; have HI := Lib.hid hr; clear ho2 ho3 hb2 hr HR))
  by_cases hc : code = 0
  · subst hc
    have HF := Lib.hid (HB.out L d 0 HI.out rfl)
    clear HB HB2 HI
    go_wp2_with fail
    refine wp_region_noPanic ?_
    refine wp_region_W (by kernel_rfl) (fun W hW => ?_)
    have cl0 : W.cell? ⟨w.heap.size, 0, none⟩ = some (.slice B d.length k) := by rw [hW.out]; go_simp
    refine wpAny_S (fun w' => w'.cell? ⟨w.heap.size, 0, none⟩ = some (.slice B d.length k)) (fun i => i == 7) (by (try dsimp only); go_simp) (fun hHeld => ?_)
    (refine wpE_take (i := 0) (v := ?gV1_1) (by simp only [List.getElem?_toArray]; rfl) (by kernel_rfl) (by kernel_rfl) (by kernel_rfl) (by kernel_rfl) (by kernel_rfl) (by rfl) (fun _ _ _ h => h) (Or.inl ⟨by rfl, ?gY1_1⟩) (by assumption) ?gR1_1; case gY1_1 => (intro w hSw; (try dsimp only at hSw); go_simp <;> with_reducible rfl))
    try simp only [Act.put, List.setIfInBounds_toArray, List.set_cons_zero, List.set_cons_succ]
    (refine wpE_takeP (i := 1) (v := ?gV1_2) (by simp only [List.getElem?_toArray]; rfl) (by kernel_rfl) (by kernel_rfl) (by kernel_rfl) (by rfl) (fun _ _ _ h => h) (Or.inl ⟨by rfl, ?gY1_2⟩) (by assumption) ?gR1_2; case gY1_2 => (intro w hSw; (try dsimp only at hSw); go_simp <;> with_reducible rfl))
    try simp only [Act.put, List.setIfInBounds_toArray, List.set_cons_zero, List.set_cons_succ]
    (refine wpE_takeP (i := 2) (v := ?gV1_3) (by simp only [List.getElem?_toArray]; rfl) (by kernel_rfl) (by kernel_rfl) (by kernel_rfl) (by rfl) (fun _ _ _ h => h) (Or.inl ⟨by rfl, ?gY1_3⟩) (by assumption) ?gR1_3; case gY1_3 => (intro w hSw; (try dsimp only at hSw); go_simp <;> with_reducible rfl))
    try simp only [Act.put, List.setIfInBounds_toArray, List.set_cons_zero, List.set_cons_succ]
    (refine wpE_takeP (i := 3) (v := ?gV1_4) (by simp only [List.getElem?_toArray]; rfl) (by kernel_rfl) (by kernel_rfl) (by kernel_rfl) (by rfl) (fun _ _ _ h => h) (Or.inl ⟨by rfl, ?gY1_4⟩) (by assumption) ?gR1_4; case gY1_4 => (intro w hSw; (try dsimp only at hSw); go_simp <;> with_reducible rfl))
    try simp only [Act.put, List.setIfInBounds_toArray, List.set_cons_zero, List.set_cons_succ]
    (refine wpE_takeP (i := 4) (v := ?gV1_5) (by simp only [List.getElem?_toArray]; rfl) (by kernel_rfl) (by kernel_rfl) (by kernel_rfl) (by rfl) (fun _ _ _ h => h) (Or.inl ⟨by rfl, ?gY1_5⟩) (by assumption) ?gR1_5; case gY1_5 => (intro w hSw; (try dsimp only at hSw); go_simp <;> with_reducible rfl))
    try simp only [Act.put, List.setIfInBounds_toArray, List.set_cons_zero, List.set_cons_succ]
    refine wpE_ready (rs := [5]) (by kernel_rfl) (by simp) ?_
    refine AllE.cons (by simp only [List.getElem?_toArray]; rfl) (fun K hK => ?_) AllE.nil
    go_simp
    (go_at_call 18; refine (treeNew _).mono ?_; rintro e w3 ⟨A3, c3, rfl, ho4, hb3⟩; obtain ⟨ext3, d3, rfl⟩ := Below.grown_eq W (Below.own (by repeat (first | with_reducible exact Below.refl _ _ | with_reducible assumption | with_reducible exact below_d1 _ _ _ _ _ | with_reducible exact below_d2 _ _ _ _ _ _ _ _ | with_reducible exact below_d3 _ _ _ _ _ | with_reducible exact below_d4 _ _ _ _ _ _ _ _ | with_reducible exact below_d5 _ _ | with_reducible refine Below.drew ?_ | with_reducible refine Below.drewN' ?_ _ | with_reducible refine below_grow0 _ _ ?_ | with_reducible refine below_alloc0 _ ?_ | with_reducible refine Below.setCell ?_ ?_ _ | with_reducible refine Below.alloc ?_ ?_ _ | with_reducible refine Below.grow _ _ _ ?_ ?_ | omega | (simp; done) | (simp; omega))) hb3); have HO4 := Lib.hid ho4; clear ho4 hb3; have hWW := hW.out; subst hWW)
    refine hK.out _ _ ?gT1_6 (fun hHeld => ?_)
    case gT1_6 => ((try dsimp only); go_simp)
    clear hK K
    try simp only [Act.put, List.setIfInBounds_toArray, List.set_cons_zero, List.set_cons_succ]
    (refine wpE_takeP (i := 6) (v := ?gV1_7) (by simp only [List.getElem?_toArray]; rfl) (by kernel_rfl) (by kernel_rfl) (by kernel_rfl) (by rfl) (fun _ _ _ h => h) (Or.inl ⟨by rfl, ?gY1_7⟩) (by assumption) ?gR1_7; case gY1_7 => (intro w hSw; (try dsimp only at hSw); go_simp <;> with_reducible rfl))
    try simp only [Act.put, List.setIfInBounds_toArray, List.set_cons_zero, List.set_cons_succ]
    refine wpE_ready (rs := [7]) (by kernel_rfl) (by simp) ?_
    refine AllE.last (by simp only [List.getElem?_toArray]; rfl) (by kernel_rfl) (fun K hK => ?_) AllE.nil
    go_simp
    refine hK.out _ _ ?_
    clear hK K
    try simp only [Act.put, List.setIfInBounds_toArray, List.set_cons_zero, List.set_cons_succ]
    (refine wpE_takeQ (i := 8) (v := ?gV1_9) (by simp only [List.getElem?_toArray]; rfl) (by kernel_rfl) (by kernel_rfl) (by kernel_rfl) (by rfl) (fun _ _ _ h => h) (Or.inl ⟨by rfl, ?gY1_9⟩) (by kernel_rfl) ?gR1_9; case gY1_9 => (intro w hSw; (try dsimp only at hSw); go_simp <;> with_reducible rfl))
    try simp only [Act.put, List.setIfInBounds_toArray, List.set_cons_zero, List.set_cons_succ]
    refine wpE_done (by kernel_rfl) ?_ _
    refine NoPanic.normal ?_
    go_wp2_with fail
    refine bodyPost_ret (v := .tuple #[vSrv ⟨true, d, id, ep, L, 0, 0, [rootN], [], []⟩ ⟨B, k, A2, c2, A3, c3, none, 0, none, 0⟩, .int .i64 0]) (by simp [results, Tryd.results11, go_sem]) rfl ⟨⟨true, d, id, ep, L, 0, 0, [rootN], [], []⟩, 0, HF.out, ⟨B, k, A2, c2, A3, c3, none, 0, none, 0⟩, rfl, ⟨?_, ?_, ?_, SlA.nil _ _ _ _, SlA.nil _ _ _ _⟩, (by repeat (first | with_reducible exact Below.refl _ _ | with_reducible assumption | with_reducible exact below_d1 _ _ _ _ _ | with_reducible exact below_d2 _ _ _ _ _ _ _ _ | with_reducible exact below_d3 _ _ _ _ _ | with_reducible exact below_d4 _ _ _ _ _ _ _ _ | with_reducible exact below_d5 _ _ | with_reducible refine Below.drew ?_ | with_reducible refine Below.drewN' ?_ _ | with_reducible refine below_grow0 _ _ ?_ | with_reducible refine below_alloc0 _ ?_ | with_reducible refine Below.setCell ?_ ?_ _ | with_reducible refine Below.alloc ?_ ?_ _ | with_reducible refine Below.grow _ _ _ ?_ ?_ | omega | (simp; done) | (simp; omega)))⟩
    · refine Ow.sla (Ow.moved (W' := ?w1) (d' := ?x1) HO3.out (Nat.le_refl _) ?b1 ?z1) (fun q hq => Nat.lt_of_lt_of_le (HP.out q hq) (by simp; omega))
      case b1 => exact (by repeat (first | with_reducible exact Below.refl _ _ | with_reducible assumption | with_reducible exact below_d1 _ _ _ _ _ | with_reducible exact below_d2 _ _ _ _ _ _ _ _ | with_reducible exact below_d3 _ _ _ _ _ | with_reducible exact below_d4 _ _ _ _ _ _ _ _ | with_reducible exact below_d5 _ _ | with_reducible refine Below.drew ?_ | with_reducible refine Below.drewN' ?_ _ | with_reducible refine below_grow0 _ _ ?_ | with_reducible refine below_alloc0 _ ?_ | with_reducible refine Below.setCell ?_ ?_ _ | with_reducible refine Below.alloc ?_ ?_ _ | with_reducible refine Below.grow _ _ _ ?_ ?_ | omega | (simp; done) | (simp; omega)))
      case z1 => simp
    · refine Ow.sla (Ow.moved (W' := ?w2) (d' := ?x2) HO2.out (Nat.le_refl _) ?b2 ?z2) (fun q hq => Nat.lt_of_lt_of_le (HP.out q hq) (by simp; omega))
      case b2 => exact (by repeat (first | with_reducible exact Below.refl _ _ | with_reducible assumption | with_reducible exact below_d1 _ _ _ _ _ | with_reducible exact below_d2 _ _ _ _ _ _ _ _ | with_reducible exact below_d3 _ _ _ _ _ | with_reducible exact below_d4 _ _ _ _ _ _ _ _ | with_reducible exact below_d5 _ _ | with_reducible refine Below.drew ?_ | with_reducible refine Below.drewN' ?_ _ | with_reducible refine below_grow0 _ _ ?_ | with_reducible refine below_alloc0 _ ?_ | with_reducible refine Below.setCell ?_ ?_ _ | with_reducible refine Below.alloc ?_ ?_ _ | with_reducible refine Below.grow _ _ _ ?_ ?_ | omega | (simp; done) | (simp; omega)))
      case z2 => simp
    · refine Ow.sla (Ow.moved (W' := ?w3) (d' := ?x3) HO4.out (Nat.le_refl _) ?b3 ?z3) (fun q hq => Nat.lt_of_lt_of_le (HP.out q hq) (by simp; omega))
      case b3 => exact (by repeat (first | with_reducible exact Below.refl _ _ | with_reducible assumption | with_reducible exact below_d1 _ _ _ _ _ | with_reducible exact below_d2 _ _ _ _ _ _ _ _ | with_reducible exact below_d3 _ _ _ _ _ | with_reducible exact below_d4 _ _ _ _ _ _ _ _ | with_reducible exact below_d5 _ _ | with_reducible refine Below.drew ?_ | with_reducible refine Below.drewN' ?_ _ | with_reducible refine below_grow0 _ _ ?_ | with_reducible refine below_alloc0 _ ?_ | with_reducible refine Below.setCell ?_ ?_ _ | with_reducible refine Below.alloc ?_ ?_ _ | with_reducible refine Below.grow _ _ _ ?_ ?_ | omega | (simp; done) | (simp; omega)))
      case z3 => simp
  · have hne : (code != 0) = true := bne_iff_ne.2 hc
    have HF := Lib.hid (HB2.out L d code HI.out hc)
    clear HB HB2 HI hc
    go_wp2_with fail
    refine bodyPost_ret (v := .tuple #[vSrv noSrv noSrvV, .int .i64 code]) (by simp [results, Tryd.results11, go_sem]) rfl ⟨noSrv, code, HF.out, noSrvV, rfl, noSrv_in _ _, (by repeat (first | with_reducible exact Below.refl _ _ | with_reducible assumption | with_reducible exact below_d1 _ _ _ _ _ | with_reducible exact below_d2 _ _ _ _ _ _ _ _ | with_reducible exact below_d3 _ _ _ _ _ | with_reducible exact below_d4 _ _ _ _ _ _ _ _ | with_reducible exact below_d5 _ _ | with_reducible refine Below.drew ?_ | with_reducible refine Below.drewN' ?_ _ | with_reducible refine below_grow0 _ _ ?_ | with_reducible refine below_alloc0 _ ?_ | with_reducible refine Below.setCell ?_ ?_ _ | with_reducible refine Below.alloc ?_ ?_ _ | with_reducible refine Below.grow _ _ _ ?_ ?_ | omega | (simp; done) | (simp; omega)))⟩
def crashS (s : Srv) (keep : Int) : Srv := if crashE s.disk keep = 0 then ⟨false, crashL s.disk keep, s.id, 0, [], 0, 0, [rootN], [], []⟩ else noSrv
set_option maxRecDepth 100000 in
set_option maxHeartbeats 2000000 in
theorem storeCrash (p p' : Nat → Prop) (s : Srv) (v : SrvV) (keep : Int) (w : World) (h : SrvIn p' w s v) (hp : ∀ q, p q → q < w.heap.size) (hz : ∀ x ∈ s.disk, x.sized) :
    Calls Tryd.prog 9 #[vSrv s v, .int .i64 keep] w (SrvRes p (crashS s keep) (crashE s.disk keep) w) := by
  have HP := Lib.hid hp
  obtain ⟨up, disk, id, ep, log, dn, tz, nodes, sess, wat⟩ := s
  obtain ⟨da, dc, la, lc, na, nc, sa, sc, wa, wc⟩ := v
  obtain ⟨hD, hG, hN, hS, hW⟩ := h
  simp only at hD hG hN hS hW hz
  have HD := Lib.hid hD
  have HA := Lib.hid (fun (W : World) (h : Sl cFile 3 W (.slice da disk.length dc) disk) => dkCrash (.slice da disk.length dc) disk keep W h hz)
  clear hD hG hN hS hW hp hz
  unfold crashS
  simp only
  generalize crashL disk keep = d at *
  generalize crashE disk keep = code at *
  by_cases hc : code = 0
  · subst hc
    rw [if_pos rfl]
    go_enter Tryd.func9, Tryd.ntmps9
    go_wp2_with ((go_at_call 17; refine (HA.out _ (HD.out.1.below (by repeat (first | with_reducible exact Below.refl _ _ | with_reducible assumption | with_reducible exact below_d1 _ _ _ _ _ | with_reducible exact below_d2 _ _ _ _ _ _ _ _ | with_reducible exact below_d3 _ _ _ _ _ | with_reducible exact below_d4 _ _ _ _ _ _ _ _ | with_reducible exact below_d5 _ _ | with_reducible refine Below.drew ?_ | with_reducible refine Below.drewN' ?_ _ | with_reducible refine below_grow0 _ _ ?_ | with_reducible refine below_alloc0 _ ?_ | with_reducible refine Below.setCell ?_ ?_ _ | with_reducible refine Below.alloc ?_ ?_ _ | with_reducible refine Below.grow _ _ _ ?_ ?_ | omega | (simp; done) | (simp; omega))))).mono ?_; rintro e w1 ⟨A1, k1, rfl, ho1, hb1⟩; obtain ⟨ext1, d1, rfl⟩ := Below.grown_eq _ hb1; have HO1 := Lib.hid ho1; clear ho1 hb1))
    refine wp_region_noPanic ?_
    refine wp_region_W (by kernel_rfl) (fun W hW => ?_)
    have cl0 : W.cell? ⟨w.heap.size + 1 + 1 + ext1.size, 0, none⟩ = some (.slice A1 d.length k1) := by rw [hW.out]; go_simp
    have cl1 : W.cell? ⟨w.heap.size, 2, none⟩ = some (.int .i64 id) := by rw [hW.out]; go_simp
    refine wpAny_S (fun w' => w'.cell? ⟨w.heap.size + 1 + 1 + ext1.size, 0, none⟩ = some (.slice A1 d.length k1) ∧ w'.cell? ⟨w.heap.size, 2, none⟩ = some (.int .i64 id)) (fun i => i == 7) (by (try dsimp only); (refine ⟨?_, ?_⟩ <;> go_simp)) (fun hHeld => ?_)
    (refine wpE_take (i := 0) (v := ?gV2_1) (by simp only [List.getElem?_toArray]; rfl) (by kernel_rfl) (by kernel_rfl) (by kernel_rfl) (by kernel_rfl) (by kernel_rfl) (by rfl) (fun _ _ _ h => h) (Or.inl ⟨by rfl, ?gY2_1⟩) (by assumption) ?gR2_1; case gY2_1 => (intro w hSw; (try dsimp only at hSw); go_simp <;> with_reducible rfl))
    try simp only [Act.put, List.setIfInBounds_toArray, List.set_cons_zero, List.set_cons_succ]
    (refine wpE_takeP (i := 1) (v := ?gV2_2) (by simp only [List.getElem?_toArray]; rfl) (by kernel_rfl) (by kernel_rfl) (by kernel_rfl) (by rfl) (fun _ _ _ h => h) (Or.inl ⟨by rfl, ?gY2_2⟩) (by assumption) ?gR2_2; case gY2_2 => (intro w hSw; (try dsimp only at hSw); go_simp <;> with_reducible rfl))
    try simp only [Act.put, List.setIfInBounds_toArray, List.set_cons_zero, List.set_cons_succ]
    (refine wpE_takeP (i := 2) (v := ?gV2_3) (by simp only [List.getElem?_toArray]; rfl) (by kernel_rfl) (by kernel_rfl) (by kernel_rfl) (by rfl) (fun _ _ _ h => h) (Or.inl ⟨by rfl, ?gY2_3⟩) (by assumption) ?gR2_3; case gY2_3 => (intro w hSw; (try dsimp only at hSw); go_simp <;> with_reducible rfl))
    try simp only [Act.put, List.setIfInBounds_toArray, List.set_cons_zero, List.set_cons_succ]
    (refine wpE_take (i := 3) (v := ?gV2_4) (by simp only [List.getElem?_toArray]; rfl) (by kernel_rfl) (by kernel_rfl) (by kernel_rfl) (by kernel_rfl) (by kernel_rfl) (by rfl) (fun _ _ _ h => h) (Or.inl ⟨by rfl, ?gY2_4⟩) (by assumption) ?gR2_4; case gY2_4 => (intro w hSw; (try dsimp only at hSw); go_simp <;> with_reducible rfl))
    try simp only [Act.put, List.setIfInBounds_toArray, List.set_cons_zero, List.set_cons_succ]
    (refine wpE_takeP (i := 4) (v := ?gV2_5) (by simp only [List.getElem?_toArray]; rfl) (by kernel_rfl) (by kernel_rfl) (by kernel_rfl) (by rfl) (fun _ _ _ h => h) (Or.inl ⟨by rfl, ?gY2_5⟩) (by assumption) ?gR2_5; case gY2_5 => (intro w hSw; (try dsimp only at hSw); go_simp <;> with_reducible rfl))
    try simp only [Act.put, List.setIfInBounds_toArray, List.set_cons_zero, List.set_cons_succ]
    refine wpE_ready (rs := [5]) (by kernel_rfl) (by simp) ?_
    refine AllE.cons (by simp only [List.getElem?_toArray]; rfl) (fun K hK => ?_) AllE.nil
    go_simp
    (go_at_call 18; refine (treeNew _).mono ?_; rintro e w3 ⟨A3, c3, rfl, ho4, hb3⟩; obtain ⟨ext3, d3, rfl⟩ := Below.grown_eq W (Below.own (by repeat (first | with_reducible exact Below.refl _ _ | with_reducible assumption | with_reducible exact below_d1 _ _ _ _ _ | with_reducible exact below_d2 _ _ _ _ _ _ _ _ | with_reducible exact below_d3 _ _ _ _ _ | with_reducible exact below_d4 _ _ _ _ _ _ _ _ | with_reducible exact below_d5 _ _ | with_reducible refine Below.drew ?_ | with_reducible refine Below.drewN' ?_ _ | with_reducible refine below_grow0 _ _ ?_ | with_reducible refine below_alloc0 _ ?_ | with_reducible refine Below.setCell ?_ ?_ _ | with_reducible refine Below.alloc ?_ ?_ _ | with_reducible refine Below.grow _ _ _ ?_ ?_ | omega | (simp; done) | (simp; omega))) hb3); have HO4 := Lib.hid ho4; clear ho4 hb3; have hWW := hW.out; subst hWW)
    refine hK.out _ _ ?gT2_6 (fun hHeld => ?_)
    case gT2_6 => ((try dsimp only); (refine ⟨?_, ?_⟩ <;> go_simp))
    clear hK K
    try simp only [Act.put, List.setIfInBounds_toArray, List.set_cons_zero, List.set_cons_succ]
    (refine wpE_takeP (i := 6) (v := ?gV2_7) (by simp only [List.getElem?_toArray]; rfl) (by kernel_rfl) (by kernel_rfl) (by kernel_rfl) (by rfl) (fun _ _ _ h => h) (Or.inl ⟨by rfl, ?gY2_7⟩) (by assumption) ?gR2_7; case gY2_7 => (intro w hSw; (try dsimp only at hSw); go_simp <;> with_reducible rfl))
    try simp only [Act.put, List.setIfInBounds_toArray, List.set_cons_zero, List.set_cons_succ]
    refine wpE_ready (rs := [7]) (by kernel_rfl) (by simp) ?_
    refine AllE.last (by simp only [List.getElem?_toArray]; rfl) (by kernel_rfl) (fun K hK => ?_) AllE.nil
    go_simp
    refine hK.out _ _ ?_
    clear hK K
    try simp only [Act.put, List.setIfInBounds_toArray, List.set_cons_zero, List.set_cons_succ]
    (refine wpE_takeQ (i := 8) (v := ?gV2_9) (by simp only [List.getElem?_toArray]; rfl) (by kernel_rfl) (by kernel_rfl) (by kernel_rfl) (by rfl) (fun _ _ _ h => h) (Or.inl ⟨by rfl, ?gY2_9⟩) (by kernel_rfl) ?gR2_9; case gY2_9 => (intro w hSw; (try dsimp only at hSw); go_simp <;> with_reducible rfl))
    try simp only [Act.put, List.setIfInBounds_toArray, List.set_cons_zero, List.set_cons_succ]
    refine wpE_done (by kernel_rfl) ?_ _
    refine NoPanic.normal ?_
    go_wp2_with fail
    refine bodyPost_ret (v := .tuple #[vSrv ⟨false, d, id, 0, [], 0, 0, [rootN], [], []⟩ ⟨A1, k1, none, 0, A3, c3, none, 0, none, 0⟩, .int .i64 0]) (by simp [results, Tryd.results9, go_sem]) rfl ⟨⟨A1, k1, none, 0, A3, c3, none, 0, none, 0⟩, rfl, ⟨?_, SlA.nil _ _ _ _, ?_, SlA.nil _ _ _ _, SlA.nil _ _ _ _⟩, (by repeat (first | with_reducible exact Below.refl _ _ | with_reducible assumption | with_reducible exact below_d1 _ _ _ _ _ | with_reducible exact below_d2 _ _ _ _ _ _ _ _ | with_reducible exact below_d3 _ _ _ _ _ | with_reducible exact below_d4 _ _ _ _ _ _ _ _ | with_reducible exact below_d5 _ _ | with_reducible refine Below.drew ?_ | with_reducible refine Below.drewN' ?_ _ | with_reducible refine below_grow0 _ _ ?_ | with_reducible refine below_alloc0 _ ?_ | with_reducible refine Below.setCell ?_ ?_ _ | with_reducible refine Below.alloc ?_ ?_ _ | with_reducible refine Below.grow _ _ _ ?_ ?_ | omega | (simp; done) | (simp; omega)))⟩
    · refine Ow.sla (Ow.moved (W' := ?w1) (d' := ?x1) HO1.out (Nat.le_refl _) ?b1 ?z1) (fun q hq => Nat.lt_of_lt_of_le (HP.out q hq) (by simp; omega))
      case b1 => exact (by repeat (first | with_reducible exact Below.refl _ _ | with_reducible assumption | with_reducible exact below_d1 _ _ _ _ _ | with_reducible exact below_d2 _ _ _ _ _ _ _ _ | with_reducible exact below_d3 _ _ _ _ _ | with_reducible exact below_d4 _ _ _ _ _ _ _ _ | with_reducible exact below_d5 _ _ | with_reducible refine Below.drew ?_ | with_reducible refine Below.drewN' ?_ _ | with_reducible refine below_grow0 _ _ ?_ | with_reducible refine below_alloc0 _ ?_ | with_reducible refine Below.setCell ?_ ?_ _ | with_reducible refine Below.alloc ?_ ?_ _ | with_reducible refine Below.grow _ _ _ ?_ ?_ | omega | (simp; done) | (simp; omega)))
      case z1 => simp
    · refine Ow.sla (Ow.moved (W' := ?w3) (d' := ?x3) HO4.out (Nat.le_refl _) ?b3 ?z3) (fun q hq => Nat.lt_of_lt_of_le (HP.out q hq) (by simp; omega))
      case b3 => exact (by repeat (first | with_reducible exact Below.refl _ _ | with_reducible assumption | with_reducible exact below_d1 _ _ _ _ _ | with_reducible exact below_d2 _ _ _ _ _ _ _ _ | with_reducible exact below_d3 _ _ _ _ _ | with_reducible exact below_d4 _ _ _ _ _ _ _ _ | with_reducible exact below_d5 _ _ | with_reducible refine Below.drew ?_ | with_reducible refine Below.drewN' ?_ _ | with_reducible refine below_grow0 _ _ ?_ | with_reducible refine below_alloc0 _ ?_ | with_reducible refine Below.setCell ?_ ?_ _ | with_reducible refine Below.alloc ?_ ?_ _ | with_reducible refine Below.grow _ _ _ ?_ ?_ | omega | (simp; done) | (simp; omega)))
      case z3 => simp
  · have hne : (code != 0) = true := bne_iff_ne.2 hc
    rw [if_neg hc]
    clear hc
    go_enter Tryd.func9, Tryd.ntmps9
    go_wp2_with ((go_at_call 17; refine (HA.out _ (HD.out.1.below (by repeat (first | with_reducible exact Below.refl _ _ | with_reducible assumption | with_reducible exact below_d1 _ _ _ _ _ | with_reducible exact below_d2 _ _ _ _ _ _ _ _ | with_reducible exact below_d3 _ _ _ _ _ | with_reducible exact below_d4 _ _ _ _ _ _ _ _ | with_reducible exact below_d5 _ _ | with_reducible refine Below.drew ?_ | with_reducible refine Below.drewN' ?_ _ | with_reducible refine below_grow0 _ _ ?_ | with_reducible refine below_alloc0 _ ?_ | with_reducible refine Below.setCell ?_ ?_ _ | with_reducible refine Below.alloc ?_ ?_ _ | with_reducible refine Below.grow _ _ _ ?_ ?_ | omega | (simp; done) | (simp; omega))))).mono ?_; rintro e w1 ⟨A1, k1, rfl, ho1, hb1⟩; obtain ⟨ext1, d1, rfl⟩ := Below.grown_eq _ hb1; have HO1 := Lib.hid ho1; clear ho1 hb1))
    refine bodyPost_ret (v := .tuple #[vSrv noSrv noSrvV, .int .i64 code]) (by simp [results, Tryd.results9, go_sem]) rfl ⟨noSrvV, rfl, noSrv_in _ _, (by repeat (first | with_reducible exact Below.refl _ _ | with_reducible assumption | with_reducible exact below_d1 _ _ _ _ _ | with_reducible exact below_d2 _ _ _ _ _ _ _ _ | with_reducible exact below_d3 _ _ _ _ _ | with_reducible exact below_d4 _ _ _ _ _ _ _ _ | with_reducible exact below_d5 _ _ | with_reducible refine Below.drew ?_ | with_reducible refine Below.drewN' ?_ _ | with_reducible refine below_grow0 _ _ ?_ | with_reducible refine below_alloc0 _ ?_ | with_reducible refine Below.setCell ?_ ?_ _ | with_reducible refine Below.alloc ?_ ?_ _ | with_reducible refine Below.grow _ _ _ ?_ ?_ | omega | (simp; done) | (simp; omega)))⟩
end Go.Proofs.YtkoemhdchoicaaaDoor

/- Arguments that hold slices in structs, or slices of slices: what a reading says of them, down to the leaves. No program is in sight but by variable. -/
namespace Go.Proofs.YtkoemhdchoicaaaDoor
open Go.RowKit Go.ChangeShapes Go.WideShapes Go.Deep
set_option linter.unusedVariables false
/-- cells of a type, down to 'n' levels -/
def Deep (P : Program) (w : World) : Nat → TypeId → List Value → Prop
  | 0, _, _ => True
  | n + 1, t, cs => match P.underlying t with
    | some .bool => ∃ b, cs = [.bool b]
    | some (.int k) => ∃ m, cs = [.int k m] ∧ (Lit.int k m).wf = true
    | some .string => ∃ s : ByteArray, cs = [.string s] ∧ s.size ≤ reachBytes
    | some (.struct fs) => cs.length = P.cellsOf t ∧ ∀ (i : Nat) (f : Field), fs[i]? = some f → Deep P w n f.type ((cs.drop f.offset).take (P.cellsOf f.type))
    | some (.slice e) => ∃ v xs, cs = [v] ∧ (0 < P.cellsOf e → Row w (P.cellsOf e) v xs) ∧ xs.length * P.bytesOf e ≤ reachBytes ∧ ∀ x ∈ xs, Deep P w n e x
    | _ => True
section
variable {H : Type} {enc : TypeId × Value → H} {P : Program} {w : World} {spare : Nat → Bool} {held : Bool}
theorem weightsAll_mem {e : TypeId} : ∀ {l : List (DataW H)} {d : DataW H}, d ∈ l → ∀ m ∈ d.weights P e, m ∈ DataW.weightsAll P e l
  | x :: l, d, h, m, hm => by
    simp only [DataW.weightsAll, List.mem_append]
    rcases List.mem_cons.1 h with rfl | h
    · exact .inl hm
    · exact .inr (weightsAll_mem h m hm)
/-- a row of cells, element by element -/
theorem row_of_cells {e : TypeId} {a : Addr} {len cap : Nat} {Q : List Value → Prop} (h0 : 0 < P.cellsOf e) (hl : len ≤ cap) (hm : cap ≤ maxLen) (ha : 0 < len → a.block < w.heap.size)
    (hex : ∀ i, i < len → ∃ cs', w.cells? 0 (a.add (i * P.cellsOf e)) (P.cellsOf e) = some cs' ∧ Q cs') :
    ∃ xs : List (List Value), xs.length = len ∧ Row w (P.cellsOf e) (.slice (some a) len cap) xs ∧ ∀ x ∈ xs, Q x := by
  have hch : ∃ g : Nat → List Value, ∀ i, i < len → w.cells? 0 (a.add (i * P.cellsOf e)) (P.cellsOf e) = some (g i) ∧ Q (g i) :=
    ⟨fun i => if h : i < len then Classical.choose (hex i h) else [], fun i hil => by simp only [hil, dif_pos]; exact Classical.choose_spec (hex i hil)⟩
  obtain ⟨g, hg⟩ := hch
  have hg1 : ∀ i, i < len → (g i).length = P.cellsOf e ∧ ∀ j u, (g i)[j]? = some u → w.cell? (a.add (i * P.cellsOf e + j)) = some u := by
    intro i hi
    obtain ⟨_, hcl, hat⟩ := World.cells?_some (hg i hi).1
    refine ⟨hcl, fun j u hu => ?_⟩
    have hj : j < P.cellsOf e := by have := (List.getElem?_eq_some_iff.1 hu).1; omega
    rw [← Go.Deep.add_add, hat j hj, hu]
  refine ⟨(List.range len).map g, by simp, ⟨some a, cap, by simp, by simpa using hl, hm, ?_, ?_⟩, ?_⟩
  · intro x hx
    simp at hx
    obtain ⟨i, hil, rfl⟩ := hx
    exact (hg1 i hil).1
  · intro hpos
    simp at hpos
    have h00 : ∃ u, w.cell? a = some u := by
      obtain ⟨h01, h02⟩ := hg1 0 hpos
      have hu : (g 0)[0]? = some ((g 0)[0]'(by omega)) := List.getElem?_eq_getElem _
      exact ⟨_, by simpa [add_zero'] using h02 0 _ hu⟩
    obtain ⟨u0, hu0⟩ := h00
    have hsp := spot_none hu0
    refine ⟨a.block, a.off, by rw [← hsp], ha hpos, ?_⟩
    intro i x hx j u hu
    have hil : i < len := by have := (List.getElem?_eq_some_iff.1 hx).1; simpa using this
    simp [hil] at hx
    subst hx
    have := (hg1 i hil).2 j u hu
    rw [hsp] at this
    have hadd : (⟨a.block, a.off, none⟩ : Addr).add (i * P.cellsOf e + j) = ⟨a.block, a.off + i * P.cellsOf e + j, none⟩ := by
      unfold Addr.add
      split
      · rename_i h0'; rw [Nat.add_assoc, h0']; rfl
      · rw [Nat.add_assoc]
    rwa [hadd] at this
  · intro x hx
    simp at hx
    obtain ⟨i, hil, rfl⟩ := hx
    exact (hg i hil).2
theorem deep_trod : ∀ (n : Nat) {t : TypeId} {fuel : Nat} {cs : List Value} {d : DataW H} {pl : List MemPlace}, DataW.trod enc P w 0 spare held fuel t cs = some (d, pl) →
    (∀ m ∈ d.weights P t, m ≤ reachBytes) → Deep P w n t cs
  | 0, _, _, _, _, _, _, _ => trivial
  | n + 1, t, fuel, cs, d, pl, hx, hw => by
    unfold Deep
    split
    · rename_i hu
      obtain ⟨b, rfl, _⟩ := DataW.trod_bool hu hx
      exact ⟨b, rfl⟩
    · rename_i k hu
      obtain ⟨m, rfl, _, hm⟩ := DataW.trod_int hu hx
      exact ⟨m, rfl, hm⟩
    · rename_i hu
      obtain ⟨s, rfl, hd, hm⟩ := DataW.trod_string hu hx
      injection hd with hd _
      subst hd
      exact ⟨s, rfl, by simpa [DataW.weights] using hw⟩
    · rename_i fs hu
      obtain ⟨xs, m, _, hd, hlen, hxl, hf⟩ := DataW.trod_struct hu hx
      injection hd with hd _
      subst hd
      refine ⟨hlen, fun i f hif => ?_⟩
      have hi : i < xs.length := by have := (Array.getElem?_eq_some_iff.1 hif).1; omega
      have hy : xs[i]? = some xs[i] := List.getElem?_eq_getElem hi
      have h1 := hf i f hif
      rw [hy] at h1
      refine deep_trod n (d := xs[i].1) (pl := xs[i].2) h1 fun m hm => hw m ?_
      simp only [DataW.weights, hu]
      exact DataW.weights_mem_each (j := i) (t := f.type) (d := xs[i].1) (by simp [hif]) (by simp [hy]) m hm
    · rename_i e hu
      rcases Go.Deep.open_slice hu hx with ⟨rfl, hx'⟩ | ⟨a, len, cap, m, fu, D, Pl, rfl, _, hl, hm, hmm, hx', hi⟩
      · exact ⟨_, [], rfl, fun _ => Row.nil _ _, by simp, by simp⟩
      · injection hx' with hd hpl
        subst hd
        have hml : len ≤ m := by rw [hmm]; split <;> omega
        have hwt : (len + (m - len)) * P.bytesOf e ≤ reachBytes := hw _ (by simp [DataW.weights, hu])
        have hwt' : len * P.bytesOf e ≤ reachBytes := Nat.le_trans (Nat.mul_le_mul_right _ (Nat.le_add_right _ _)) hwt
        have hel : ∀ i, i < len → ∃ cs', w.cells? 0 (a.add (i * P.cellsOf e)) (P.cellsOf e) = some cs' ∧ Deep P w n e cs' := by
          intro i hil
          obtain ⟨cs', hc', ht'⟩ := hi i (by omega)
          refine ⟨cs', hc', deep_trod n ht' fun q hq => hw q ?_⟩
          simp only [DataW.weights, hu]
          refine List.mem_cons_of_mem _ (List.mem_append.2 (.inl ?_))
          exact weightsAll_mem (List.mem_map.2 ⟨i, List.mem_range.2 hil, rfl⟩) q hq
        by_cases h0 : 0 < P.cellsOf e
        · have hb : 0 < len → a.block < w.heap.size := by
            intro hpos
            have hp : MemPlace.cell a.block a.off ∈ pl := by
              rw [hpl]
              refine List.mem_append.2 (.inl ?_)
              have hpos' : 0 < m * P.cellsOf e := Nat.mul_pos (by omega) h0
              simp only [MemPlace.row, List.mem_map, List.mem_range]
              exact ⟨0, hpos', by simp⟩
            exact DataW.trod_lt _ _ _ _ hx _ hp
          obtain ⟨xs, hxs, hrow, hall⟩ := row_of_cells h0 hl hm hb hel
          exact ⟨_, xs, rfl, fun _ => hrow, by rw [hxs]; exact hwt', hall⟩
        · exact ⟨_, [], rfl, fun h => absurd h h0, by simp, by simp⟩
    · trivial
/-- an argument -/
theorem open_deep {t : TypeId} {v : Value} {d : DataW H} {p : List MemPlace} (n : Nat) (h : DataW.Trod enc P w 0 spare held t v d p) (hw : ∀ m ∈ d.weights P t, m ≤ reachBytes) : Deep P w n t v.cells.toList := by
  obtain ⟨fuel, hf⟩ := h
  exact deep_trod n hf hw
theorem sized_arg {ts : List TypeId} {ds : List (DataW H)} (h : (DataW.weightsEach P ts ds).all (· ≤ reachBytes) = true) (j : Nat) {t : TypeId} {d : DataW H} (ht : ts[j]? = some t) (hd : ds[j]? = some d) :
    ∀ m ∈ d.weights P t, m ≤ reachBytes := fun m hm => by
  have := List.all_eq_true.1 h _ (DataW.weights_mem_each ht hd m hm)
  simpa using this
end
section
variable {P : Program} {w : World} {n : Nat} {t : TypeId} {cs : List Value}
theorem deep_int {k : IntKind} (hu : P.underlying t = some (.int k)) (h : Deep P w (n + 1) t cs) : ∃ m, cs = [.int k m] ∧ (Lit.int k m).wf = true := by unfold Deep at h; rw [hu] at h; exact h
theorem deep_bool (hu : P.underlying t = some .bool) (h : Deep P w (n + 1) t cs) : ∃ b, cs = [.bool b] := by unfold Deep at h; rw [hu] at h; exact h
theorem deep_string (hu : P.underlying t = some .string) (h : Deep P w (n + 1) t cs) : ∃ s : ByteArray, cs = [.string s] ∧ s.size ≤ reachBytes := by unfold Deep at h; rw [hu] at h; exact h
theorem deep_struct {fs : Array Field} (hu : P.underlying t = some (.struct fs)) (h : Deep P w (n + 1) t cs) : cs.length = P.cellsOf t ∧ ∀ (i : Nat) (f : Field), fs[i]? = some f → Deep P w n f.type ((cs.drop f.offset).take (P.cellsOf f.type)) := by unfold Deep at h; rw [hu] at h; exact h
theorem deep_slice {e : TypeId} (hu : P.underlying t = some (.slice e)) (h : Deep P w (n + 1) t cs) : ∃ v xs, cs = [v] ∧ (0 < P.cellsOf e → Row w (P.cellsOf e) v xs) ∧ xs.length * P.bytesOf e ≤ reachBytes ∧ ∀ x ∈ xs, Deep P w n e x := by unfold Deep at h; rw [hu] at h; exact h
end
theorem deep_at {P : Program} {w : World} {n : Nat} {cs : List Value} {fs : Array Field} (hf : ∀ (i : Nat) (f : Field), fs[i]? = some f → Deep P w n f.type ((cs.drop f.offset).take (P.cellsOf f.type))) (i : Nat) (t : TypeId) (off c : Nat)
    (ht : (fs[i]?).map (fun f => (f.type, f.offset)) = some (t, off)) (hc : P.cellsOf t = c) : Deep P w n t ((cs.drop off).take c) := by
  simp only [Option.map_eq_some_iff, Prod.mk.injEq] at ht
  obtain ⟨f, h0, rfl, rfl⟩ := ht
  subst hc
  exact hf i f h0
/-- what is flat fits its kinds -/
theorem deep_fits {P : Program} {w : World} : ∀ (n : Nat) {t : TypeId} {ks : List Kd} {cs : List Value}, flat P n t = some ks → Deep P w n t cs → Fits ks cs
  | 0, _, _, _, h, _ => by simp [flat] at h
  | n + 1, t, ks, cs, h, hd => by
    unfold flat at h
    split at h
    · rename_i hu
      obtain ⟨b, rfl⟩ := deep_bool hu hd
      split at h
      · simp at h; subst h; exact ⟨⟨b, rfl⟩, trivial⟩
      · simp at h
    · rename_i k hu
      obtain ⟨m, rfl, hm⟩ := deep_int hu hd
      split at h
      · simp at h; subst h; exact ⟨⟨m, rfl, hm⟩, trivial⟩
      · simp at h
    · rename_i hu
      obtain ⟨m, rfl, hm⟩ := deep_string hu hd
      split at h
      · simp at h; subst h; exact ⟨⟨m, rfl, Nat.le_trans hm (by decide)⟩, trivial⟩
      · simp at h
    · rename_i fs hu
      obtain ⟨hlen, hf⟩ := deep_struct hu hd
      split at h
      · rename_i ls hls
        split at h
        · rename_i hc
          simp only [Option.some.injEq] at h
          subst h
          have key : ∀ (l : List Field) (k off : Nat) (qs : List Kd), (∀ i f, l[i]? = some f → fs[k + i]? = some f) → flatAll (flat P n) off l = some qs → off + qs.length = cs.length → Fits qs (cs.drop off) := by
            intro l
            induction l with
            | nil =>
              intro k off qs _ hq ho
              simp [flatAll] at hq
              subst hq
              simp at ho
              rw [List.drop_eq_nil_of_le (by omega)]
              trivial
            | cons f l ih =>
              intro k off qs hi hq ho
              simp only [flatAll] at hq
              split at hq
              · rename_i rs hr
                split at hq
                · rename_i hoff
                  simp only [Option.map_eq_some_iff] at hq
                  obtain ⟨ts, hts, rfl⟩ := hq
                  have hcf := flat_length n hr
                  have h0 := hi 0 f rfl
                  rw [Nat.add_zero] at h0
                  have hfk := hf k f h0
                  rw [hoff, hcf] at hfk
                  have hfit := deep_fits n hr hfk
                  have hrest := ih (k + 1) (off + rs.length) ts (fun i g hg => by have := hi (i + 1) g (by simpa using hg); rwa [show k + 1 + i = k + (i + 1) from by omega]) hts (by simp at ho; omega)
                  have hsplit : cs.drop off = (cs.drop off).take rs.length ++ cs.drop (off + rs.length) := by
                    rw [← List.drop_drop, List.take_append_drop]
                  rw [hsplit]
                  exact hfit.append hrest
                · simp at hq
              · simp at hq
          simpa using key fs.toList 0 0 ls (fun i f hi => by simpa using hi) hls (by simp [hlen, hc])
        · simp at h
      · simp at h
    · simp at h
/-- a slice of flat elements within -/
theorem deep_flats {P : Program} {w : World} {n : Nat} {t e : TypeId} {cs : List Value} {ks : List Kd} (hu : P.underlying t = some (.slice e)) (hk : flat P n e = some ks) (h0 : 0 < ks.length) (h : Deep P w (n + 1) t cs) :
    ∃ v xs, cs = [v] ∧ Row w ks.length v xs ∧ xs.length * P.bytesOf e ≤ reachBytes ∧ ∀ x ∈ xs, Fits ks x := by
  obtain ⟨v, xs, rfl, hr, hb, hx⟩ := deep_slice hu h
  rw [flat_length n hk] at hr
  exact ⟨v, xs, rfl, hr h0, hb, fun x hxm => deep_fits n hk (hx x hxm)⟩
end Go.Proofs.YtkoemhdchoicaaaDoor

/- A disk that comes from outside, opened. -/
namespace Go.Proofs.YtkoemhdchoicaaaDoor
open Go.RowKit Go.ChangeShapes Go.WideShapes Go.ChangeAt
theorem Ow.regrow1 {α : Type} {f : α → List Value} {s : Nat} {e : TypeId} {W W' : World} {ext : Array Obj} {d d' B : Nat} {v : Value} {l : List α} (h : Ow f s e (grow W ext d) B v l) (hB : W.heap.size ≤ B) (hs : W'.heap.size = W.heap.size) : Sl f s (grow W' ext d') v l :=
  (h.regrow hB hs).sl
theorem Ow.regrow2 {α : Type} {f : α → List Value} {s : Nat} {e : TypeId} {W W' : World} {ext e1 : Array Obj} {d d' d1 B : Nat} {v : Value} {l : List α} (h : Ow f s e (grow W ext d) B v l) (hB : W.heap.size ≤ B) (hs : W'.heap.size = W.heap.size) : Sl f s (grow (grow W' ext d') e1 d1) v l :=
  ((h.regrow (W' := W') (d' := d') hB hs).below (below_grow0 _ _ (Below.refl _ _))).sl
set_option maxRecDepth 100000 in
theorem open_file {w : World} {n : Nat} {cs : List Value} (h : Deep Tryd.prog w (n + 2) 70 cs) : ∃ x : File, cs = cFile x ∧ x.sized := by
  obtain ⟨hl, hf⟩ := deep_struct Tryd.underlying70 h
  rw [show Tryd.prog.cellsOf 70 = 3 from by kernel_rfl] at hl
  obtain ⟨c0, c1, c2, rfl⟩ : ∃ a b c, cs = [a, b, c] := by
    rcases cs with _ | ⟨a, _ | ⟨b, _ | ⟨c, _ | ⟨d, cs⟩⟩⟩⟩ <;> simp at hl
    exact ⟨a, b, c, rfl⟩
  obtain ⟨m0, e0, s0⟩ := deep_string Tryd.underlying9 (deep_at hf 0 9 0 1 rfl (by kernel_rfl))
  obtain ⟨m1, e1, s1⟩ := deep_string Tryd.underlying9 (deep_at hf 1 9 1 1 rfl (by kernel_rfl))
  obtain ⟨m2, e2, s2⟩ := deep_string Tryd.underlying9 (deep_at hf 2 9 2 1 rfl (by kernel_rfl))
  simp only [List.drop_zero, List.drop_succ_cons, List.take_succ_cons, List.take_zero, List.cons.injEq, and_true] at e0 e1 e2
  subst e0 e1 e2
  simp only [reachBytes] at s0 s1 s2
  exact ⟨⟨m0, m1, m2⟩, rfl, by show m0.size ≤ _; omega, by show m1.size ≤ _; omega, by show m2.size ≤ _; omega⟩
set_option maxRecDepth 100000 in
theorem open_disk {w : World} {n : Nat} {cs : List Value} (h : Deep Tryd.prog w (n + 10) 26 cs) : ∃ (v : Value) (l : List File), cs = [v] ∧ Sl cFile 3 w v l ∧ (∀ x ∈ l, x.sized) ∧ l.length * 48 ≤ 140737488355328 := by
  obtain ⟨hl, hf⟩ := deep_struct Tryd.underlying26 h
  rw [show Tryd.prog.cellsOf 26 = 1 from by kernel_rfl] at hl
  obtain ⟨c0, rfl⟩ : ∃ a, cs = [a] := by
    rcases cs with _ | ⟨a, _ | ⟨b, cs⟩⟩ <;> simp at hl
    exact ⟨a, rfl⟩
  obtain ⟨v, xs, e, hr, hb, hx⟩ := deep_slice Tryd.underlying24 (deep_at hf 0 24 0 1 rfl (by kernel_rfl))
  simp only [List.drop_zero, List.take_succ_cons, List.take_zero, List.cons.injEq, and_true] at e
  subst e
  rw [show Tryd.prog.bytesOf 70 = 48 from by kernel_rfl] at hb
  rw [show Tryd.prog.cellsOf 70 = 3 from by kernel_rfl] at hr
  obtain ⟨l, rfl, hz⟩ := typed (fun x hxm => open_file (hx x hxm))
  have hs : Sl cFile 3 w c0 l := hr (by decide)
  exact ⟨c0, l, rfl, hs, hz, Nat.le_trans (by simpa [reachBytes] using hb) (by decide)⟩
end Go.Proofs.YtkoemhdchoicaaaDoor

/- The law WalKeeps is true for every input; no conditions. -/
namespace Go.Proofs.YtkoemhdchoicaaaDoor
open Go.RowKit Go.ChangeShapes Go.WideShapes Go.ChangeAt
theorem upZ_prefix (z : Int) (l : List Txn) : ∃ r, l = upZ z l ++ r := ⟨l.dropWhile (fun t => decide (t.zxid ≤ z)), (List.takeWhile_append_dropWhile (p := fun t : Txn => decide (t.zxid ≤ z)) (l := l)).symm⟩
theorem upZ_ok {z : Int} {l : List Txn} (h : LogOk l) : LogOk (upZ z l) := ⟨fun t ht => h.1 t ((List.takeWhile_sublist _).subset ht), h.2.sublist (List.takeWhile_sublist _)⟩
theorem upZ_length (z : Int) (l : List Txn) : (upZ z l).length ≤ l.length := (List.takeWhile_sublist _).length_le
theorem upZ_filter {z : Int} : ∀ {l : List Txn}, l.Pairwise (fun a b => a.zxid < b.zxid) → l.filter (fun t => decide (t.zxid ≤ z)) = upZ z l
  | [], _ => rfl
  | a :: r, h => by
    have h2 := List.pairwise_cons.1 h
    unfold upZ
    by_cases ha : a.zxid ≤ z
    · rw [List.filter_cons_of_pos (by simpa using ha), List.takeWhile_cons_of_pos (by simpa using ha)]
      exact congrArg _ (upZ_filter h2.2)
    · rw [List.filter_cons_of_neg (by simpa using ha), List.takeWhile_cons_of_neg (by simpa using ha)]
      refine List.filter_eq_nil_iff.2 (fun b hb => ?_)
      have := h2.1 b hb
      simp only [decide_eq_true_eq]
      omega
theorem keep_log {m : List Txn} {z : Int} {f' : List File} {e : Int} (hm : LogOk m) (hn : m.length ≤ 41) (h : KeepIs (logD m) z f' e) : e = 0 ∧ f' = logF (upZ z m) := by
  obtain ⟨L, d, c, hr, h⟩ := h
  have hs := recs_small hm hn
  obtain ⟨rfl, rfl, rfl⟩ := rec_log hm (by omega) hr
  rcases h with ⟨h0, _⟩ | ⟨_, h1, h2⟩
  · exact absurd rfl h0
  · have hrd := one_read (S := bS (recs L)) (T := noB) (by rw [bS_size]; show _ + 0 ≤ _; omega)
    have hrs : readS (logF L) logN = bS (recs L) := hrd.2.trans ByteArray.append_empty
    obtain ⟨r, hrr⟩ := upZ_prefix z L
    have hrec : recs L = recs (upZ z L) ++ recs r := by rw [← recs_app, ← hrr]
    have hle : keepN z L ≤ (readS (logF L) logN).size := by
      rw [hrs, bS_size, hrec, List.length_append]
      unfold keepN
      omega
    have hc := cut_is hrd.1 hle
    obtain ⟨_, _, _, c4, _⟩ := cut_ok hc
    refine ⟨h2.trans hc, ?_⟩
    rw [h1, c4, put_one]
    have hx : (readS (logF L) logN).extract 0 ((keepN z L : Nat) : Int).toNat = bS (recs (upZ z L)) := by
      apply bs_inj
      rw [bs_extractTD, List.drop_zero, Int.toNat_natCast, hrs, bs_bS, bs_bS, hrec]
      unfold keepN
      rw [List.take_left]
    rw [hx]
theorem keepLog (v : Value) (m : List Txn) (z : Int) (w : World) (h : Sl cFile 3 w v (logD m)) (hm : LogOk m) (hn : m.length ≤ 41) :
    Calls Tryd.prog 26 #[.agg #[v], .int .i64 z] w (DkRes (logF (upZ z m)) 0 w) := by
  refine (keep_any v (logD m) z w h (logD_sized _ (recs_small hm hn))).mono ?_
  rintro e w' ⟨B, k, f', code, rfl, hr, h1, h2⟩
  obtain ⟨rfl, rfl⟩ := keep_log hm hn hr
  exact ⟨B, k, rfl, h1, h2⟩
theorem logF_sized (l : List Txn) (h : (recs l).length ≤ 42271) : ∀ x ∈ logF l, x.sized := by
  intro x hx
  rw [List.mem_singleton.1 hx]
  refine ⟨(by decide : logN.size ≤ _), ?_, (by decide : noB.size ≤ _)⟩
  show (bS (recs l)).size ≤ _
  rw [bS_size]
  omega
theorem recover_logF (v : Value) (m : List Txn) (w : World) (h : Sl cFile 3 w v (logF m)) (hm : LogOk m) (hn : m.length ≤ 41) :
    Calls Tryd.prog 20 #[.agg #[v]] w (RecD m (logF m) w) := by
  have hs := recs_small hm hn
  refine (recover_any v (logF m) w h (logF_sized _ hs)).mono ?_
  rintro e w' ⟨A, c, L, B, k, f', code, rfl, hr, h1, h2, h3⟩
  obtain ⟨rfl, rfl, rfl⟩ := rec_one hm (S := bS (recs m)) (T := noB) (rest := []) (by rw [bS_size]; show _ + 0 ≤ _; omega) (by rw [bS_add]; rfl) (noNext_nil _) hr
  exact ⟨A, c, B, k, rfl, h1, h2, h3⟩
namespace walKeeps
theorem own : ownKnob Tryd.prog.godebug = none := by kernel_rfl
theorem laidOut : laidOutB Tryd.prog = true := by kernel_rfl
end walKeeps
end Go.Proofs.YtkoemhdchoicaaaDoor

/- Plain laws for a log whose last transaction was not made safe. -/
namespace Go.Proofs.YtkoemhdchoicaaaDoor
open Go.RowKit Go.ChangeShapes Go.WideShapes Go.ChangeAt
theorem Sl.pre2 {α : Type} {f : α → List Value} {s : Nat} {w : World} {A : Option Addr} {n c : Nat} {l m : List α} (h : Sl f s w (.slice A n c) m) (hp : l <+: m) : Sl f s w (.slice A l.length c) l := by
  obtain ⟨t, rfl⟩ := hp
  obtain ⟨A', c', he, h1, h2, h3, h4⟩ := h
  injection he with e1 e2 e3
  subst e1; subst e3
  refine ⟨A, c, by simp, by simp at h1 ⊢; omega, h2, fun x hx => h3 x (by rw [List.map_append]; exact List.mem_append_left _ hx), fun hpos => ?_⟩
  obtain ⟨b, off, r1, r2, r3⟩ := h4 (by simp at hpos ⊢; omega)
  refine ⟨b, off, r1, r2, fun i x hx j u hu => r3 i x ?_ j u hu⟩
  rw [List.map_append, List.getElem?_append_left (List.getElem?_eq_some_iff.1 hx).1, hx]
theorem noB_add (s : ByteArray) : noB ++ s = s := by
  apply bs_inj
  rw [bs_append]
  rfl
theorem one_write {S T s : ByteArray} (h : S.size + T.size + s.size ≤ 1048576) : writeE [⟨logN, S, T⟩] logN s = 0 ∧ writeL [⟨logN, S, T⟩] logN s = [⟨logN, S, T ++ s⟩] := by
  have hg := one_good (S := S) (T := T) (by omega)
  have e : writeE [⟨logN, S, T⟩] logN s = 0 := by
    unfold writeE
    rw [hg, named_log, if_pos rfl, if_pos rfl, (one_at S T).1, if_pos rfl, (one_at S T).2.1, if_pos]
    exact h
  obtain ⟨_, h2, _⟩ := write_ok e
  refine ⟨e, ?_⟩
  rw [h2, put_one]
  have ho : fileOr [⟨logN, S, T⟩] logN = ⟨logN, S, T⟩ := by
    unfold fileOr
    rw [(one_at S T).1, if_pos rfl, (one_at S T).2.1]
  rw [ho]
theorem logF_D (l : List Txn) (t : Txn) : logF (l ++ [t]) = logD (l ++ [t]) := by
  unfold logD
  rw [if_neg (by simp)]
theorem app_F {m : List Txn} {t : Txn} (ht : goodT t = 0) (h : (recs (m ++ [t])).length ≤ 1048576) : appL (logF m) t true = logD (m ++ [t]) ∧ appE (logF m) t true = 0 := by
  have he : encR t = bS (recT t) := if_pos ht
  rw [recs_app, recs_one, List.length_append] at h
  have hz : (bS (recs m)).size + (noB ++ bS (recT t)).size ≤ 1048576 := by
    rw [noB_add, bS_size, bS_size]; exact h
  have hw := one_write (S := bS (recs m)) (T := noB) (s := bS (recT t)) (by rw [bS_size (recs m), bS_size (recT t)]; show _ + 0 + _ ≤ _; omega)
  unfold appL appE
  rw [if_pos ht, if_pos ht, he, hw.1, hw.2, if_pos ⟨rfl, rfl⟩, if_pos ⟨rfl, rfl⟩, one_sync hz, (one_read hz).1]
  refine ⟨?_, rfl⟩
  unfold logD
  rw [if_neg (by simp), recs_snoc, noB_add]
/-- the disk behind a crash -/
abbrev tornF (m : List Txn) (t : Txn) (n : Nat) : List File := [⟨logN, bS (recs m) ++ (bS (recT t)).extract 0 (min n (bS (recT t)).size), noB⟩]
theorem torn_crash {m : List Txn} {t : Txn} (h : (recs (m ++ [t])).length ≤ 42271) (n : Nat) : crashE [⟨logN, bS (recs m), bS (recT t)⟩] n = 0 ∧ crashL [⟨logN, bS (recs m), bS (recT t)⟩] n = tornF m t n := by
  rw [recs_app, recs_one, List.length_append] at h
  exact one_crash (by rw [bS_size, bS_size]; omega) n
theorem torn_size {m : List Txn} {t : Txn} (h : (recs (m ++ [t])).length ≤ 42271) (n : Nat) : (bS (recs m) ++ (bS (recT t)).extract 0 (min n (bS (recT t)).size)).size ≤ 42271 := by
  rw [recs_app, recs_one, List.length_append] at h
  rw [ByteArray.size_append, ByteArray.size_extract, bS_size, bS_size]
  omega
theorem tornF_sized {m : List Txn} {t : Txn} (h : (recs (m ++ [t])).length ≤ 42271) (n : Nat) : ∀ x ∈ tornF m t n, x.sized := by
  intro x hx
  rw [List.mem_singleton.1 hx]
  refine ⟨(by decide : logN.size ≤ _), ?_, (by decide : noB.size ≤ _)⟩
  have := torn_size h n
  show (bS (recs m) ++ (bS (recT t)).extract 0 (min n (bS (recT t)).size)).size ≤ _
  omega
theorem torn_all {m : List Txn} {t : Txn} {n : Nat} {l : List Txn} {f' : List File} {e : Int} (hm : LogOk (m ++ [t])) (hz : (recs (m ++ [t])).length ≤ 42271) (hn : (bS (recT t)).size ≤ n) (h : RecIs (tornF m t n) l f' e) : e = 0 ∧ l = m ++ [t] ∧ f' = logF (m ++ [t]) := by
  refine rec_one hm (rest := []) ?_ ?_ (noNext_nil _) h
  · have := torn_size hz n
    show _ + 0 ≤ _
    omega
  · rw [Nat.min_eq_right hn, bs_append, bs_append, bs_extractTD, bs_bS, bs_bS, List.drop_zero, List.take_of_length_le (by rw [bS_size]; exact Nat.le_refl _), recs_app, recs_one, List.append_nil]
    exact List.append_nil _
theorem torn_some {m : List Txn} {t : Txn} {n : Nat} {l : List Txn} {f' : List File} {e : Int} (hm : LogOk (m ++ [t])) (hz : (recs (m ++ [t])).length ≤ 42271) (hn : n < (bS (recT t)).size) (h : RecIs (tornF m t n) l f' e) : e = 0 ∧ l = m ∧ f' = logF m := by
  have hm2 : LogOk m := ⟨fun x hx => hm.1 x (List.mem_append_left _ hx), hm.2.sublist (List.sublist_append_left _ _)⟩
  refine rec_one hm2 (rest := (recT t).take n) ?_ ?_ (noNext_cut (hm.1 t (by simp)) _ (by rw [bS_size] at hn; exact hn)) h
  · have := torn_size hz n
    show _ + 0 ≤ _
    omega
  · rw [Nat.min_eq_left (Nat.le_of_lt hn), bs_append, bs_append, bs_extractTD, bs_bS, bs_bS, List.drop_zero]
    exact List.append_nil _
end Go.Proofs.YtkoemhdchoicaaaDoor

/- the laws' filled, boots, taken. -/
namespace Go.Proofs.YtkoemhdchoicaaaDoor
open Go.RowKit Go.ChangeShapes Go.WideShapes Go.ChangeAt
abbrev fillS (id : Int) (m : List Txn) : Srv := ⟨true, logF m, id, 0, m, 0, 0, [rootN], [], []⟩
theorem take_fill {id : Int} {m : List Txn} {t : Txn} (hg : goodT t = 0) (hz : lastZ m < t.zxid) (hs : (recs (m ++ [t])).length ≤ 42271) : takeE (fillS id m) t true = 0 ∧ takeS (fillS id m) t true = fillS id (m ++ [t]) := by
  have h := app_F (m := m) hg (by omega)
  have e : takeE (fillS id m) t true = 0 := by
    unfold takeE
    simp only
    rw [if_neg (by omega)]
    exact h.2
  refine ⟨e, ?_⟩
  unfold takeS
  rw [if_pos e]
  simp only
  rw [h.1, ← logF_D]
theorem epoch_none {f : List File} (h : readE f epN ≠ 0) : epochF f = 0 := by unfold epochF; rw [if_neg h]
theorem epoch_log (S T : ByteArray) : epochF [⟨logN, S, T⟩] = 0 := by
  refine epoch_none ?_
  unfold readE
  split
  · have : isK ([⟨logN, S, T⟩].map File.name) epN = false := noneF_of (l := [⟨logN, S, T⟩]) epN (fun x hx => by rw [List.mem_singleton.1 hx]; show logN ≠ epN; decide)
    rw [this]
    decide
  · decide
theorem epoch_nil : epochF [] = 0 := by
  refine epoch_none ?_
  rw [(read_none nil_good (by simp)).1]
  decide
theorem boot_nil {id : Int} {s : Srv} {c : Int} (h : BootIs id [] s c) : c = 0 ∧ s = fillS id [] := by
  obtain ⟨L, f', hr, hc⟩ := h
  obtain ⟨rfl, rfl, rfl⟩ := rec_log (m := []) ⟨by simp, List.Pairwise.nil⟩ (by decide) hr
  rcases hc with ⟨_, hs⟩ | ⟨h, _⟩
  · rw [epoch_nil] at hs
    exact ⟨rfl, hs⟩
  · exact absurd rfl h
/-- the transactions of a log that a server can take -/
def LogP (m : List Txn) : Prop := LogOk m ∧ ∀ t ∈ m, 1 ≤ t.zxid
theorem logP_take {m : List Txn} (h : LogP m) (k : Nat) : LogP (m.take k) := ⟨logOk_take h.1 k, fun t ht => h.2 t (List.mem_of_mem_take ht)⟩
theorem last_lt {m : List Txn} (h : LogP m) {k : Nat} {x : Txn} (hx : m[k]? = some x) : lastZ (m.take k) < x.zxid := by
  obtain ⟨hk, rfl⟩ := List.getElem?_eq_some_iff.1 hx
  by_cases h0 : m.take k = []
  · rw [h0, lastZ_nil]
    have := h.2 _ (List.getElem_mem hk)
    omega
  · obtain ⟨t, ht, e⟩ := lastZ_mem h0
    rw [e]
    obtain ⟨i, hi⟩ := List.mem_iff_getElem?.1 ht
    rw [List.getElem?_take] at hi
    split at hi
    · obtain ⟨hi2, rfl⟩ := List.getElem?_eq_some_iff.1 hi
      exact List.pairwise_iff_getElem.1 h.1.2 i k hi2 hk (by assumption)
    · cases hi
def FillRes (p : Nat → Prop) (m : List Txn) (w : World) (e : Ending) (w' : World) : Prop := ∃ v, e = .returned (.tuple #[vSrv (fillS 0 m) v, .bool true]) ∧ SrvIn p w' (fillS 0 m) v ∧ Below w.heap.size w w'
theorem take_step {m : List Txn} (h : LogP m) (h40 : m.length ≤ 41) {k : Nat} {x : Txn} (hx : m[k]? = some x) (id : Int) : takeE (fillS id (m.take k)) x true = 0 ∧ takeS (fillS id (m.take k)) x true = fillS id (m.take (k + 1)) := by
  have e : m.take k ++ [x] = m.take (k + 1) := by rw [List.take_add_one, hx]; rfl
  have := take_fill (id := id) (m := m.take k) (h.1.1 x (List.mem_of_getElem? hx)) (last_lt h hx) (by rw [e]; exact recs_small (logOk_take h.1 _) (by rw [List.length_take]; omega))
  rw [e] at this
  exact this
abbrev vFill (id : Int) (k : Nat) (v : SrvV) : Value := .agg #[.bool true, .slice v.da 1 v.dc, .int .i64 id, .int .i64 0, .slice v.la k v.lc, .int .i64 0, .int .i64 0, .slice v.na 1 v.nc, .slice v.sa 0 v.sc, .slice v.wa 0 v.wc]
theorem vFill_take {l : List Txn} {k : Nat} (hk : k ≤ l.length) (id : Int) (v : SrvV) : vSrv (fillS id (l.take k)) v = vFill id k v := by
  have e : (l.take k).length = k := by rw [List.length_take]; omega
  simp only [vSrv, e]
  rfl
def TkRes (p : Nat → Prop) (l : List Txn) (k : Nat) (w : World) (e : Ending) (w' : World) : Prop := ∃ da dc la lc na nc sa sc wa wc, e = .returned (.tuple #[vFill 0 k ⟨da, dc, la, lc, na, nc, sa, sc, wa, wc⟩, .int .i64 0]) ∧ SrvIn p w' (fillS 0 (l.take k)) ⟨da, dc, la, lc, na, nc, sa, sc, wa, wc⟩ ∧ Below w.heap.size w w'
set_option maxRecDepth 100000 in
set_option maxHeartbeats 4000000 in
theorem filled_is (p : Nat → Prop) (v : Value) (l : List Txn) (w : World) (h : Sl cTxn 7 w v l) (hp : ∀ q, p q → q < w.heap.size) (hl : LogP l) (hn : l.length ≤ 41) :
    Calls Tryd.prog 7 #[v] w (FillRes p l w) := by
  obtain ⟨A, c, rfl, hc1, hc2⟩ := h.form
  have H := Lib.hid h
  have HP := Lib.hid hp
  have HB := Lib.hid (fun (p : Nat → Prop) (W : World) (hp : ∀ q, p q → q < W.heap.size) => (storeBoot p 0 (.slice none 0 0) [] W (Sl.nil _ _ _) hp (by simp) (by decide) (by decide)).mono (fun e w' hh => show TkRes p l 0 W e w' from by
    obtain ⟨s, c, hb, ⟨da, dc, la, lc, na, nc, sa, sc, wa, wc⟩, he, h2, h3⟩ := hh
    obtain ⟨rfl, rfl⟩ := boot_nil hb
    exact ⟨da, dc, la, lc, na, nc, sa, sc, wa, wc, he, h2, h3⟩))
  have HT := Lib.hid (fun (k : Nat) (x : Txn) (hx : l[k]? = some x) (p : Nat → Prop) (W : World) (v : SrvV) (h : SrvIn p W (fillS 0 (l.take k)) v) (hp : ∀ q, p q → q < W.heap.size) => show Calls Tryd.prog 13 #[vFill 0 k v, vTxn x, .bool true] W (TkRes p l (k + 1) W) from by
    have hk : k < l.length := (List.getElem?_eq_some_iff.1 hx).1
    have h1 := storeTake p (fillS 0 (l.take k)) v x true W h hp (logF_sized _ (recs_small (logOk_take hl.1 k) (by rw [List.length_take]; omega))) (by simp only [List.length_take]; omega) (good_path (hl.1.1 x (List.mem_of_getElem? hx)))
    have h2 := take_step hl hn hx 0
    rw [h2.1, h2.2, vFill_take (by omega)] at h1
    refine h1.mono fun e w' hh => ?_
    obtain ⟨⟨da, dc, la, lc, na, nc, sa, sc, wa, wc⟩, he, h3, h4⟩ := hh
    exact ⟨da, dc, la, lc, na, nc, sa, sc, wa, wc, by rw [he, vFill_take (by omega)], h3, h4⟩)
  have HE := Lib.hid (show l.take l.length = l from List.take_length)
  clear h hl hp
  go_enter Tryd.func7, Tryd.ntmps7
  go_wp2_with ((go_at_call 11; refine (HB.out (fun q => p q ∨ q = w.heap.size) _ (by rintro q (hq | rfl); exact Nat.lt_of_lt_of_le (HP.out q hq) (by simp); simp)).mono ?_; rintro e w1 ⟨da, dc, la, lc, na, nc, sa, sc, wa, wc, rfl, h1, hb1⟩; obtain ⟨ext1, d1, rfl⟩ := Below.grown_eq _ hb1; have H1 := Lib.hid h1; clear h1 hb1))
  go_loopw [5, 6] (fun e i wr => ∃ (k : Nat) (da : Option Addr) (dc : Nat) (la : Option Addr) (lc : Nat) (na : Option Addr) (nc : Nat) (sa : Option Addr) (sc : Nat) (wa : Option Addr) (wc : Nat) (ext : Array Obj) (d : Nat), k ≤ l.length ∧ e = .int .i64 0 ∧ i = .int .i64 k ∧
     wr = grow ((grow (w.alloc (.cells #[.bool false, .slice none 0 0, .int .i64 0, .int .i64 0, .slice none 0 0, .int .i64 0, .int .i64 0, .slice none 0 0, .slice none 0 0, .slice none 0 0] 35)) ext1 d1).alloc (.cells #[.bool true, .slice da 1 dc, .int .i64 0, .int .i64 0, .slice la k lc, .int .i64 0, .int .i64 0, .slice na 1 nc, .slice sa 0 sc, .slice wa 0 wc] 35)) ext d ∧ Hid (SrvIn (fun q => p q ∨ q = w.heap.size ∨ q = w.heap.size + 1 + ext1.size) wr (fillS 0 (l.take k)) ⟨da, dc, la, lc, na, nc, sa, sc, wa, wc⟩)) (fun _ i _ => l.length - (intOf i).toNat)
  case atStart => exact ⟨0, da, dc, la, lc, na, nc, sa, sc, wa, wc, _, _, Nat.zero_le _, rfl, rfl, grown_of (by repeat (first | with_reducible exact Below.refl _ _ | with_reducible assumption | with_reducible exact below_d1 _ _ _ _ _ | with_reducible exact below_d2 _ _ _ _ _ _ _ _ | with_reducible exact below_d3 _ _ _ _ _ | with_reducible exact below_d4 _ _ _ _ _ _ _ _ | with_reducible exact below_d5 _ _ | with_reducible refine Below.drew ?_ | with_reducible refine Below.drewN' ?_ _ | with_reducible refine below_grow0 _ _ ?_ | with_reducible refine below_alloc0 _ ?_ | with_reducible refine Below.setCell ?_ ?_ _ | with_reducible refine Below.alloc ?_ ?_ _ | with_reducible refine Below.grow _ _ _ ?_ ?_ | omega | (simp; done) | (simp; omega))), Lib.hid ((H1.out.more (p' := fun q => p q ∨ q = w.heap.size ∨ q = w.heap.size + 1 + ext1.size) (by rintro q (hq | rfl | rfl); exact .inl (.inl hq); exact .inl (.inr rfl); exact .inr (by simp))).below (by repeat (first | with_reducible exact Below.refl _ _ | with_reducible assumption | with_reducible exact below_d1 _ _ _ _ _ | with_reducible exact below_d2 _ _ _ _ _ _ _ _ | with_reducible exact below_d3 _ _ _ _ _ | with_reducible exact below_d4 _ _ _ _ _ _ _ _ | with_reducible exact below_d5 _ _ | with_reducible refine Below.drew ?_ | with_reducible refine Below.drewN' ?_ _ | with_reducible refine below_grow0 _ _ ?_ | with_reducible refine below_alloc0 _ ?_ | with_reducible refine Below.setCell ?_ ?_ _ | with_reducible refine Below.alloc ?_ ?_ _ | with_reducible refine Below.grow _ _ _ ?_ ?_ | omega | (simp; done) | (simp; omega))))⟩
  case round =>
    obtain ⟨k, da, dc, la, lc, na, nc, sa, sc, wa, wc, ext, d, hk, rfl, rfl, rfl, hs⟩ := hrel
    clear H1
    by_cases hlt : k < l.length
    · have hx : l[k]? = some (l[k]'hlt) := List.getElem?_eq_getElem _
      obtain ⟨b, off, rfl, hb, x0, x1, x2, x3, x4, x5, x6⟩ := H.out.Txn_at hx
      have HX := Lib.hid (HT.out k _ hx)
      generalize l[k]'hlt = x at *
      clear hx
      go_wp2_with fail
      refine wp_region_noPanic ?_
      refine wp_region_W (by kernel_rfl) (fun W hW => ?_)
      have cl0 : W.cell? ⟨w.heap.size + 1 + ext1.size, 0, none⟩ = some (.bool true) := by rw [hW.out]; go_simp
      have cl1 : W.cell? ⟨w.heap.size + 1 + ext1.size, 1, none⟩ = some (.slice da 1 dc) := by rw [hW.out]; go_simp
      have cl2 : W.cell? ⟨w.heap.size + 1 + ext1.size, 2, none⟩ = some (.int .i64 0) := by rw [hW.out]; go_simp
      have cl3 : W.cell? ⟨w.heap.size + 1 + ext1.size, 3, none⟩ = some (.int .i64 0) := by rw [hW.out]; go_simp
      have cl4 : W.cell? ⟨w.heap.size + 1 + ext1.size, 4, none⟩ = some (.slice la k lc) := by rw [hW.out]; go_simp
      have cl5 : W.cell? ⟨w.heap.size + 1 + ext1.size, 5, none⟩ = some (.int .i64 0) := by rw [hW.out]; go_simp
      have cl6 : W.cell? ⟨w.heap.size + 1 + ext1.size, 6, none⟩ = some (.int .i64 0) := by rw [hW.out]; go_simp
      have cl7 : W.cell? ⟨w.heap.size + 1 + ext1.size, 7, none⟩ = some (.slice na 1 nc) := by rw [hW.out]; go_simp
      have cl8 : W.cell? ⟨w.heap.size + 1 + ext1.size, 8, none⟩ = some (.slice sa 0 sc) := by rw [hW.out]; go_simp
      have cl9 : W.cell? ⟨w.heap.size + 1 + ext1.size, 9, none⟩ = some (.slice wa 0 wc) := by rw [hW.out]; go_simp
      have cl10 : W.cell? ⟨b, off + k * 7, none⟩ = some (.int .i64 x.zxid) := by rw [hW.out]; go_simp
      have cl11 : W.cell? ⟨b, off + k * 7 + 1, none⟩ = some (.int .i64 x.op) := by rw [hW.out]; go_simp
      have cl12 : W.cell? ⟨b, off + k * 7 + 2, none⟩ = some (.int .i64 x.session) := by rw [hW.out]; go_simp
      have cl13 : W.cell? ⟨b, off + k * 7 + 3, none⟩ = some (.string x.path) := by rw [hW.out]; go_simp
      have cl14 : W.cell? ⟨b, off + k * 7 + 4, none⟩ = some (.string x.data) := by rw [hW.out]; go_simp
      have cl15 : W.cell? ⟨b, off + k * 7 + 5, none⟩ = some (.int .i64 x.version) := by rw [hW.out]; go_simp
      have cl16 : W.cell? ⟨b, off + k * 7 + 6, none⟩ = some (.int .i64 x.owner) := by rw [hW.out]; go_simp
      have HPW : Hid (∀ q, (p q ∨ q = w.heap.size ∨ q = w.heap.size + 1 + ext1.size) → q < W.heap.size) := Lib.hid (by rw [hW.out]; rintro q (hq | rfl | rfl); have := HP.out q hq; simp; omega; simp; omega; simp; omega)
      have hsW := Lib.hid (hs.out.below (w' := W) (by rw [hW.out]; exact (by repeat (first | with_reducible exact Below.refl _ _ | with_reducible assumption | with_reducible exact below_d1 _ _ _ _ _ | with_reducible exact below_d2 _ _ _ _ _ _ _ _ | with_reducible exact below_d3 _ _ _ _ _ | with_reducible exact below_d4 _ _ _ _ _ _ _ _ | with_reducible exact below_d5 _ _ | with_reducible refine Below.drew ?_ | with_reducible refine Below.drewN' ?_ _ | with_reducible refine below_grow0 _ _ ?_ | with_reducible refine below_alloc0 _ ?_ | with_reducible refine Below.setCell ?_ ?_ _ | with_reducible refine Below.alloc ?_ ?_ _ | with_reducible refine Below.grow _ _ _ ?_ ?_ | omega | (simp; done) | (simp; omega)))))
      refine wpAny_S (fun w' => w'.cell? ⟨w.heap.size + 1 + ext1.size, 0, none⟩ = some (.bool true) ∧ w'.cell? ⟨w.heap.size + 1 + ext1.size, 1, none⟩ = some (.slice da 1 dc) ∧ w'.cell? ⟨w.heap.size + 1 + ext1.size, 2, none⟩ = some (.int .i64 0) ∧ w'.cell? ⟨w.heap.size + 1 + ext1.size, 3, none⟩ = some (.int .i64 0) ∧ w'.cell? ⟨w.heap.size + 1 + ext1.size, 4, none⟩ = some (.slice la k lc) ∧ w'.cell? ⟨w.heap.size + 1 + ext1.size, 5, none⟩ = some (.int .i64 0) ∧ w'.cell? ⟨w.heap.size + 1 + ext1.size, 6, none⟩ = some (.int .i64 0) ∧ w'.cell? ⟨w.heap.size + 1 + ext1.size, 7, none⟩ = some (.slice na 1 nc) ∧ w'.cell? ⟨w.heap.size + 1 + ext1.size, 8, none⟩ = some (.slice sa 0 sc) ∧ w'.cell? ⟨w.heap.size + 1 + ext1.size, 9, none⟩ = some (.slice wa 0 wc) ∧ w'.cell? ⟨b, off + k * 7, none⟩ = some (.int .i64 x.zxid) ∧ w'.cell? ⟨b, off + k * 7 + 1, none⟩ = some (.int .i64 x.op) ∧ w'.cell? ⟨b, off + k * 7 + 2, none⟩ = some (.int .i64 x.session) ∧ w'.cell? ⟨b, off + k * 7 + 3, none⟩ = some (.string x.path) ∧ w'.cell? ⟨b, off + k * 7 + 4, none⟩ = some (.string x.data) ∧ w'.cell? ⟨b, off + k * 7 + 5, none⟩ = some (.int .i64 x.version) ∧ w'.cell? ⟨b, off + k * 7 + 6, none⟩ = some (.int .i64 x.owner)) (fun i => i == 9) (by (try dsimp only); (refine ⟨?_, ?_, ?_, ?_, ?_, ?_, ?_, ?_, ?_, ?_, ?_, ?_, ?_, ?_, ?_, ?_, ?_⟩ <;> go_simp)) (fun hHeld => ?_)
      (refine wpE_take (i := 0) (v := ?gV1_1) (by simp only [List.getElem?_toArray]; rfl) (by kernel_rfl) (by kernel_rfl) (by kernel_rfl) (by kernel_rfl) (by kernel_rfl) (by rfl) (fun _ _ _ h => h) (Or.inl ⟨by rfl, ?gY1_1⟩) (by assumption) ?gR1_1; case gY1_1 => (intro w hSw; (try dsimp only at hSw); go_simp <;> with_reducible rfl))
      try simp only [Act.put, List.setIfInBounds_toArray, List.set_cons_zero, List.set_cons_succ]
      (refine wpE_takeP (i := 1) (v := ?gV1_2) (by simp only [List.getElem?_toArray]; rfl) (by kernel_rfl) (by kernel_rfl) (by kernel_rfl) (by rfl) (fun _ _ _ h => h) (Or.inl ⟨by rfl, ?gY1_2⟩) (by assumption) ?gR1_2; case gY1_2 => (intro w hSw; (try dsimp only at hSw); go_simp <;> with_reducible rfl))
      try simp only [Act.put, List.setIfInBounds_toArray, List.set_cons_zero, List.set_cons_succ]
      (refine wpE_takeP (i := 2) (v := ?gV1_3) (by simp only [List.getElem?_toArray]; rfl) (by kernel_rfl) (by kernel_rfl) (by kernel_rfl) (by rfl) (fun _ _ _ h => h) (Or.inl ⟨by rfl, ?gY1_3⟩) (by assumption) ?gR1_3; case gY1_3 => (intro w hSw; (try dsimp only at hSw); go_simp <;> with_reducible rfl))
      try simp only [Act.put, List.setIfInBounds_toArray, List.set_cons_zero, List.set_cons_succ]
      (refine wpE_takeP (i := 3) (v := ?gV1_4) (by simp only [List.getElem?_toArray]; rfl) (by kernel_rfl) (by kernel_rfl) (by kernel_rfl) (by rfl) (fun _ _ _ h => h) (Or.inl ⟨by rfl, ?gY1_4⟩) (by assumption) ?gR1_4; case gY1_4 => (intro w hSw; (try dsimp only at hSw); go_simp <;> with_reducible rfl))
      try simp only [Act.put, List.setIfInBounds_toArray, List.set_cons_zero, List.set_cons_succ]
      (refine wpE_take (i := 4) (v := ?gV1_5) (by simp only [List.getElem?_toArray]; rfl) (by kernel_rfl) (by kernel_rfl) (by kernel_rfl) (by kernel_rfl) (by kernel_rfl) (by rfl) (fun _ _ _ h => h) (Or.inl ⟨by rfl, ?gY1_5⟩) (by assumption) ?gR1_5; case gY1_5 => (intro w hSw; (try dsimp only at hSw); go_simp <;> with_reducible rfl))
      try simp only [Act.put, List.setIfInBounds_toArray, List.set_cons_zero, List.set_cons_succ]
      refine wpE_ready (rs := [5]) (by kernel_rfl) (by simp) ?_
      refine AllE.cons (by simp only [List.getElem?_toArray]; rfl) (fun K hK => ?_) AllE.nil
      go_simp
      (go_at_call 13; refine (HX.out (fun q => p q ∨ q = w.heap.size ∨ q = w.heap.size + 1 + ext1.size) _ ⟨da, dc, la, lc, na, nc, sa, sc, wa, wc⟩ (hsW.out.below (by repeat (first | with_reducible exact Below.refl _ _ | with_reducible assumption | with_reducible exact below_d1 _ _ _ _ _ | with_reducible exact below_d2 _ _ _ _ _ _ _ _ | with_reducible exact below_d3 _ _ _ _ _ | with_reducible exact below_d4 _ _ _ _ _ _ _ _ | with_reducible exact below_d5 _ _ | with_reducible refine Below.drew ?_ | with_reducible refine Below.drewN' ?_ _ | with_reducible refine below_grow0 _ _ ?_ | with_reducible refine below_alloc0 _ ?_ | with_reducible refine Below.setCell ?_ ?_ _ | with_reducible refine Below.alloc ?_ ?_ _ | with_reducible refine Below.grow _ _ _ ?_ ?_ | omega | (simp; done) | (simp; omega)))) (HPW.out)).mono ?_; rintro e w3 ⟨da2, dc2, la2, lc2, na2, nc2, sa2, sc2, wa2, wc2, rfl, h3, hb3⟩; obtain ⟨ext3, d3, rfl⟩ := Below.grown_eq W (Below.own (by repeat (first | with_reducible exact Below.refl _ _ | with_reducible assumption | with_reducible exact below_d1 _ _ _ _ _ | with_reducible exact below_d2 _ _ _ _ _ _ _ _ | with_reducible exact below_d3 _ _ _ _ _ | with_reducible exact below_d4 _ _ _ _ _ _ _ _ | with_reducible exact below_d5 _ _ | with_reducible refine Below.drew ?_ | with_reducible refine Below.drewN' ?_ _ | with_reducible refine below_grow0 _ _ ?_ | with_reducible refine below_alloc0 _ ?_ | with_reducible refine Below.setCell ?_ ?_ _ | with_reducible refine Below.alloc ?_ ?_ _ | with_reducible refine Below.grow _ _ _ ?_ ?_ | omega | (simp; done) | (simp; omega))) hb3); have H3 := Lib.hid h3; clear h3 hb3; have hWW := hW.out; subst hWW)
      refine hK.out _ _ ?gT1_6 (fun hHeld => ?_)
      case gT1_6 => ((try dsimp only); (refine ⟨?_, ?_, ?_, ?_, ?_, ?_, ?_, ?_, ?_, ?_, ?_, ?_, ?_, ?_, ?_, ?_, ?_⟩ <;> go_simp))
      clear hK K
      try simp only [Act.put, List.setIfInBounds_toArray, List.set_cons_zero, List.set_cons_succ]
      (refine wpE_takeP (i := 6) (v := ?gV1_7) (by simp only [List.getElem?_toArray]; rfl) (by kernel_rfl) (by kernel_rfl) (by kernel_rfl) (by rfl) (fun _ _ _ h => h) (Or.inl ⟨by rfl, ?gY1_7⟩) (by assumption) ?gR1_7; case gY1_7 => (intro w hSw; (try dsimp only at hSw); go_simp <;> with_reducible rfl))
      try simp only [Act.put, List.setIfInBounds_toArray, List.set_cons_zero, List.set_cons_succ]
      (refine wpE_takeP (i := 7) (v := ?gV1_8) (by simp only [List.getElem?_toArray]; rfl) (by kernel_rfl) (by kernel_rfl) (by kernel_rfl) (by rfl) (fun _ _ _ h => h) (Or.inl ⟨by rfl, ?gY1_8⟩) (by assumption) ?gR1_8; case gY1_8 => (intro w hSw; (try dsimp only at hSw); go_simp <;> with_reducible rfl))
      try simp only [Act.put, List.setIfInBounds_toArray, List.set_cons_zero, List.set_cons_succ]
      (refine wpE_takeP (i := 8) (v := ?gV1_9) (by simp only [List.getElem?_toArray]; rfl) (by kernel_rfl) (by kernel_rfl) (by kernel_rfl) (by rfl) (fun _ _ _ h => h) (Or.inl ⟨by rfl, ?gY1_9⟩) (by assumption) ?gR1_9; case gY1_9 => (intro w hSw; (try dsimp only at hSw); go_simp <;> with_reducible rfl))
      try simp only [Act.put, List.setIfInBounds_toArray, List.set_cons_zero, List.set_cons_succ]
      refine wpE_ready (rs := [9]) (by kernel_rfl) (by simp) ?_
      refine AllE.last (by simp only [List.getElem?_toArray]; rfl) (by kernel_rfl) (fun K hK => ?_) AllE.nil
      go_simp
      refine hK.out _ _ ?_
      clear hK K
      try simp only [Act.put, List.setIfInBounds_toArray, List.set_cons_zero, List.set_cons_succ]
      (refine wpE_takeQ (i := 10) (v := ?gV1_11) (by simp only [List.getElem?_toArray]; rfl) (by kernel_rfl) (by kernel_rfl) (by kernel_rfl) (by rfl) (fun _ _ _ h => h) (Or.inl ⟨by rfl, ?gY1_11⟩) (by kernel_rfl) ?gR1_11; case gY1_11 => (intro w hSw; (try dsimp only at hSw); go_simp <;> with_reducible rfl))
      try simp only [Act.put, List.setIfInBounds_toArray, List.set_cons_zero, List.set_cons_succ]
      refine wpE_done (by kernel_rfl) ?_ _
      refine NoPanic.normal ?_
      go_wp2_with fail
      go_roundw
      case rel => exact ⟨k + 1, da2, dc2, la2, lc2, na2, nc2, sa2, sc2, wa2, wc2, _, _, by omega, rfl, by go_num, grown_of (by repeat (first | with_reducible exact Below.refl _ _ | with_reducible assumption | with_reducible exact below_d1 _ _ _ _ _ | with_reducible exact below_d2 _ _ _ _ _ _ _ _ | with_reducible exact below_d3 _ _ _ _ _ | with_reducible exact below_d4 _ _ _ _ _ _ _ _ | with_reducible exact below_d5 _ _ | with_reducible refine Below.drew ?_ | with_reducible refine Below.drewN' ?_ _ | with_reducible refine below_grow0 _ _ ?_ | with_reducible refine below_alloc0 _ ?_ | with_reducible refine Below.setCell ?_ ?_ _ | with_reducible refine Below.alloc ?_ ?_ _ | with_reducible refine Below.grow _ _ _ ?_ ?_ | omega | (simp; done) | (simp; omega))), Lib.hid (H3.out.swap (by repeat (first | with_reducible exact Swap.refl _ _ | with_reducible refine Swap.drew1 ?_ | with_reducible refine Swap.drew2 ?_ | with_reducible refine Swap.drewN1 ?_ | with_reducible refine Swap.drewN2 ?_ | with_reducible refine Swap.grow ?_ _ _ _ | with_reducible refine Swap.alloc ?_ _ | with_reducible refine Swap.new ?_ _ _ ?_ | with_reducible refine Swap.set ?_ _ _ _ ?_ | (simp; done) | (simp; omega))))⟩
      case measure => simp [intOf]; omega
    · have hkl : k = l.length := by omega
      subst hkl
      have hs2 := hs.out
      rw [HE.out] at hs2
      have HS2 := Lib.hid hs2
      clear hs2 hs
      go_wp2_with fail
      refine bodyPost_ret (v := .tuple #[vFill 0 l.length ⟨da, dc, la, lc, na, nc, sa, sc, wa, wc⟩, .bool true]) (by simp [results, Tryd.results7, go_sem]) rfl ⟨⟨da, dc, la, lc, na, nc, sa, sc, wa, wc⟩, ?_, (HS2.out.swap (by repeat (first | with_reducible exact Swap.refl _ _ | with_reducible refine Swap.drew1 ?_ | with_reducible refine Swap.drew2 ?_ | with_reducible refine Swap.drewN1 ?_ | with_reducible refine Swap.drewN2 ?_ | with_reducible refine Swap.grow ?_ _ _ _ | with_reducible refine Swap.alloc ?_ _ | with_reducible refine Swap.new ?_ _ _ ?_ | with_reducible refine Swap.set ?_ _ _ _ ?_ | (simp; done) | (simp; omega)))).more (fun q hq => .inl (.inl hq)), (by repeat (first | with_reducible exact Below.refl _ _ | with_reducible assumption | with_reducible exact below_d1 _ _ _ _ _ | with_reducible exact below_d2 _ _ _ _ _ _ _ _ | with_reducible exact below_d3 _ _ _ _ _ | with_reducible exact below_d4 _ _ _ _ _ _ _ _ | with_reducible exact below_d5 _ _ | with_reducible refine Below.drew ?_ | with_reducible refine Below.drewN' ?_ _ | with_reducible refine below_grow0 _ _ ?_ | with_reducible refine below_alloc0 _ ?_ | with_reducible refine Below.setCell ?_ ?_ _ | with_reducible refine Below.alloc ?_ ?_ _ | with_reducible refine Below.grow _ _ _ ?_ ?_ | omega | (simp; done) | (simp; omega)))⟩
      rw [← vFill_take (Nat.le_refl _), HE.out]
end Go.Proofs.YtkoemhdchoicaaaDoor

/- the laws' boots, taken. -/
namespace Go.Proofs.YtkoemhdchoicaaaDoor
open Go.RowKit Go.ChangeShapes Go.WideShapes Go.ChangeAt
theorem boots_is (w : World) : Calls Tryd.prog 8 #[] w fun e w' => e = .returned (.bool true) ∧ Below w.heap.size w w' := by
  have HB := Lib.hid (fun (W : World) => (storeBoot (fun _ => False) 1 (.slice none 0 0) [] W (Sl.nil _ _ _) (by simp) (by simp) (by decide) (by decide)).mono (fun e w' hh => show ∃ da dc la lc na nc sa sc wa wc, e = .returned (.tuple #[vFill 1 0 ⟨da, dc, la, lc, na, nc, sa, sc, wa, wc⟩, .int .i64 0]) ∧ Below W.heap.size W w' from by
    obtain ⟨s, c, hb, ⟨da, dc, la, lc, na, nc, sa, sc, wa, wc⟩, he, h2, h3⟩ := hh
    obtain ⟨rfl, rfl⟩ := boot_nil hb
    exact ⟨da, dc, la, lc, na, nc, sa, sc, wa, wc, he, h3⟩))
  go_enter Tryd.func8, Tryd.ntmps8
  go_wp2_with ((go_at_call 11; refine (HB.out _).mono ?_; rintro e w1 ⟨da, dc, la, lc, na, nc, sa, sc, wa, wc, rfl, hb1⟩; obtain ⟨ext1, d1, rfl⟩ := Below.grown_eq _ hb1; clear hb1))
  go_ret
  exact ⟨rfl, (by repeat (first | with_reducible exact Below.refl _ _ | with_reducible assumption | with_reducible exact below_d1 _ _ _ _ _ | with_reducible exact below_d2 _ _ _ _ _ _ _ _ | with_reducible exact below_d3 _ _ _ _ _ | with_reducible exact below_d4 _ _ _ _ _ _ _ _ | with_reducible exact below_d5 _ _ | with_reducible refine Below.drew ?_ | with_reducible refine Below.drewN' ?_ _ | with_reducible refine below_grow0 _ _ ?_ | with_reducible refine below_alloc0 _ ?_ | with_reducible refine Below.setCell ?_ ?_ _ | with_reducible refine Below.alloc ?_ ?_ _ | with_reducible refine Below.grow _ _ _ ?_ ?_ | omega | (simp; done) | (simp; omega)))⟩
theorem Sl.caps {α : Type} {f : α → List Value} {s : Nat} {w : World} {A : Option Addr} {n c : Nat} {l : List α} (h : Sl f s w (.slice A n c) l) : l.length ≤ c ∧ c ≤ maxLen := by
  obtain ⟨_, _, e, h1, h2⟩ := h.form
  injection e with _ _ e3
  rw [e3]
  exact ⟨h1, h2⟩
theorem Sl.tail {α : Type} {f : α → List Value} {s : Nat} {w : World} {b off n c o : Nat} {x : α} {r : List α} (h : Sl f s w (.slice (some ⟨b, off, none⟩) n c) (x :: r)) (hn : n = r.length + 1) {m k : Nat} (hm : m = r.length) (hk : c = k + 1) (ho : o = off + s) : Sl f s w (.slice (some ⟨b, o, none⟩) m k) r := by
  subst hm hk ho
  obtain ⟨A, c', he, h1, h2, h3, h4⟩ := h
  injection he with e1 e2 e3
  subst e3
  simp only [List.map_cons, List.length_cons, List.length_map] at h1 h4
  obtain ⟨b', off', hA, hb, hc⟩ := h4 (by omega)
  rw [hA] at e1
  injection e1 with e1
  injection e1 with e4 e5
  subst e4 e5
  refine ⟨some ⟨b, off + s, none⟩, k, by simp, by simp; omega, by omega, fun y hy => h3 y (by simp only [List.map_cons]; exact List.mem_cons_of_mem _ hy), fun _ => ⟨b, off + s, rfl, hb, fun i y hy j u hu => ?_⟩⟩
  have := hc (i + 1) y (by simpa using hy) j u hu
  rw [show off + s + i * s + j = off + (i + 1) * s + j from by rw [Nat.succ_mul]; omega]
  exact this
def TakenRes (w : World) (e : Ending) (w' : World) : Prop := ∃ A c m, e = .returned (.slice A (List.length (α := Txn) m) c) ∧ LogP m ∧ m.length ≤ 40 ∧ Sl cTxn 7 w' (.slice A m.length c) m ∧ Below w.heap.size w w'
theorem logP_of {m : List Txn} (h : LogOk m) (h0 : ∀ x, m[0]? = some x → x.zxid ≠ 0) : LogP m := by
  refine ⟨h, fun t ht => ?_⟩
  obtain ⟨k, hk⟩ := List.mem_iff_getElem?.1 ht
  have hk2 := (List.getElem?_eq_some_iff.1 hk).1
  have hg : ∀ t ∈ m, 0 ≤ t.zxid := fun t ht => by
    exact (goodT_facts t (h.1 t ht)).z0
  have hx : m[0]? = some (m[0]'(by omega)) := List.getElem?_eq_getElem _
  have h1 := h0 _ hx
  have h2 := hg _ (List.getElem_mem (show 0 < m.length by omega))
  rcases Nat.eq_zero_or_pos k with rfl | hp
  · rw [hk] at hx
    injection hx with hx
    subst hx
    omega
  · have := List.pairwise_iff_getElem.1 h.2 0 k (by omega) hk2 hp
    rw [(List.getElem?_eq_some_iff.1 hk).2] at this
    omega
theorem logP_tail {x : Txn} {r : List Txn} (h : LogOk (x :: r)) (h0 : 0 ≤ x.zxid) : LogP r := by
  have hp := List.pairwise_cons.1 h.2
  exact ⟨⟨fun t ht => h.1 t (List.mem_cons_of_mem _ ht), hp.2⟩, fun t ht => by have := hp.1 t ht; omega⟩
set_option maxRecDepth 100000 in
set_option maxHeartbeats 2000000 in
theorem taken_any (v : Value) (l : List Txn) (w : World) (h : Sl cTxn 7 w v l) (hz : ∀ t ∈ l, t.path.size ≤ 9223372036854775807) :
    Calls Tryd.prog 6 #[v] w (TakenRes w) := by
  obtain ⟨A, c, rfl, hc1, hc2⟩ := h.form
  have H := Lib.hid h
  have HLO := Lib.hid (fun (W : World) (v : Value) (h : Sl cTxn 7 W v l) => logOf_any v l W h hz)
  clear h hz
  go_enter Tryd.func6, Tryd.ntmps6
  go_upto_region 2 with ((go_at_call 16; refine (HLO.out _ _ (H.out.below (by repeat (first | with_reducible exact Below.refl _ _ | with_reducible assumption | with_reducible exact below_d1 _ _ _ _ _ | with_reducible exact below_d2 _ _ _ _ _ _ _ _ | with_reducible exact below_d3 _ _ _ _ _ | with_reducible exact below_d4 _ _ _ _ _ _ _ _ | with_reducible exact below_d5 _ _ | with_reducible refine Below.drew ?_ | with_reducible refine Below.drewN' ?_ _ | with_reducible refine below_grow0 _ _ ?_ | with_reducible refine below_alloc0 _ ?_ | with_reducible refine Below.setCell ?_ ?_ _ | with_reducible refine Below.alloc ?_ ?_ _ | with_reducible refine Below.grow _ _ _ ?_ ?_ | omega | (simp; done) | (simp; omega))))).mono ?_; rintro e w1 ⟨A2, c2, m, rfl, hok, h40, ho, hb⟩; obtain ⟨ext1, d1, rfl⟩ := Below.grown_eq _ hb; have HOK := Lib.hid hok; have HM := Lib.hid ho.sl; clear ho hb hok HLO))
  cases m with
  | nil =>
    simp only [List.length_nil] at *
    go_wp2_with fail
    go_ret
    exact ⟨A2, c2, [], rfl, ⟨HOK.out, by simp⟩, by simp, HM.out.below (by repeat (first | with_reducible exact Below.refl _ _ | with_reducible assumption | with_reducible exact below_d1 _ _ _ _ _ | with_reducible exact below_d2 _ _ _ _ _ _ _ _ | with_reducible exact below_d3 _ _ _ _ _ | with_reducible exact below_d4 _ _ _ _ _ _ _ _ | with_reducible exact below_d5 _ _ | with_reducible refine Below.drew ?_ | with_reducible refine Below.drewN' ?_ _ | with_reducible refine below_grow0 _ _ ?_ | with_reducible refine below_alloc0 _ ?_ | with_reducible refine Below.setCell ?_ ?_ _ | with_reducible refine Below.alloc ?_ ?_ _ | with_reducible refine Below.grow _ _ _ ?_ ?_ | omega | (simp; done) | (simp; omega))), (by repeat (first | with_reducible exact Below.refl _ _ | with_reducible assumption | with_reducible exact below_d1 _ _ _ _ _ | with_reducible exact below_d2 _ _ _ _ _ _ _ _ | with_reducible exact below_d3 _ _ _ _ _ | with_reducible exact below_d4 _ _ _ _ _ _ _ _ | with_reducible exact below_d5 _ _ | with_reducible refine Below.drew ?_ | with_reducible refine Below.drewN' ?_ _ | with_reducible refine below_grow0 _ _ ?_ | with_reducible refine below_alloc0 _ ?_ | with_reducible refine Below.setCell ?_ ?_ _ | with_reducible refine Below.alloc ?_ ?_ _ | with_reducible refine Below.grow _ _ _ ?_ ?_ | omega | (simp; done) | (simp; omega)))⟩
  | cons x r =>
    obtain ⟨b, off, rfl, hb, x0, _⟩ := HM.out.Txn_at (i := 0) rfl
    have hx0 := (goodT_facts x (HOK.out.1 x (by simp))).z0
    obtain ⟨hc3, hc4⟩ := HM.out.caps
    simp only [Nat.zero_mul, Nat.add_zero] at x0
    have hnr : (x :: r).length = r.length + 1 := rfl
    have h41 : (x :: r).length ≤ 40 := h40
    generalize hn : (x :: r).length = n at *
    have hn1 : 0 < n := by omega
    have HN := Lib.hid hnr
    have HNN := Lib.hid hn
    clear hnr hn h40
    by_cases hz0 : x.zxid = 0
    · have HT := Lib.hid (logP_tail HOK.out hx0)
      rw [hz0] at x0
      clear hz0 hx0
      obtain ⟨k, hk1⟩ : ∃ k, c2 = k + 1 := ⟨c2 - 1, by omega⟩
      have hk : c2 ≤ 9223372036854775807 := by unfold maxLen at hc4; omega
      by_cases hk0 : c2 = 1
      · obtain rfl : n = 1 := by omega
        subst hk0
        have hr : r.length = 0 := by have := HN.out; omega
        obtain rfl := List.eq_nil_of_length_eq_zero hr
        clear hk1
        go_wp2_with fail
        go_ret
        exact ⟨_, _, [], rfl, HT.out, by simp, Sl.empty _ _ _ _ (by simp [maxLen]), (by repeat (first | with_reducible exact Below.refl _ _ | with_reducible assumption | with_reducible exact below_d1 _ _ _ _ _ | with_reducible exact below_d2 _ _ _ _ _ _ _ _ | with_reducible exact below_d3 _ _ _ _ _ | with_reducible exact below_d4 _ _ _ _ _ _ _ _ | with_reducible exact below_d5 _ _ | with_reducible refine Below.drew ?_ | with_reducible refine Below.drewN' ?_ _ | with_reducible refine below_grow0 _ _ ?_ | with_reducible refine below_alloc0 _ ?_ | with_reducible refine Below.setCell ?_ ?_ _ | with_reducible refine Below.alloc ?_ ?_ _ | with_reducible refine Below.grow _ _ _ ?_ ?_ | omega | (simp; done) | (simp; omega)))⟩
      · have hk2 : 1 < c2 := by omega
        have HK := Lib.hid hk1
        clear hk1 hk0
        go_wp2_with fail
        have hm : r.length = n - 1 := by have := HN.out; omega
        refine bodyPost_ret (v := .slice (some ⟨b, off + 7, none⟩) (n - 1) (c2 - 1)) (by simp [results, Tryd.results6, go_sem]) rfl ⟨some ⟨b, off + 7, none⟩, c2 - 1, r, by rw [hm], HT.out, by omega, ?_, (by repeat (first | with_reducible exact Below.refl _ _ | with_reducible assumption | with_reducible exact below_d1 _ _ _ _ _ | with_reducible exact below_d2 _ _ _ _ _ _ _ _ | with_reducible exact below_d3 _ _ _ _ _ | with_reducible exact below_d4 _ _ _ _ _ _ _ _ | with_reducible exact below_d5 _ _ | with_reducible refine Below.drew ?_ | with_reducible refine Below.drewN' ?_ _ | with_reducible refine below_grow0 _ _ ?_ | with_reducible refine below_alloc0 _ ?_ | with_reducible refine Below.setCell ?_ ?_ _ | with_reducible refine Below.alloc ?_ ?_ _ | with_reducible refine Below.grow _ _ _ ?_ ?_ | omega | (simp; done) | (simp; omega)))⟩
        rw [hm]
        exact (Sl.tail HM.out HN.out hm.symm (by omega) rfl).below (by repeat (first | with_reducible exact Below.refl _ _ | with_reducible assumption | with_reducible exact below_d1 _ _ _ _ _ | with_reducible exact below_d2 _ _ _ _ _ _ _ _ | with_reducible exact below_d3 _ _ _ _ _ | with_reducible exact below_d4 _ _ _ _ _ _ _ _ | with_reducible exact below_d5 _ _ | with_reducible refine Below.drew ?_ | with_reducible refine Below.drewN' ?_ _ | with_reducible refine below_grow0 _ _ ?_ | with_reducible refine below_alloc0 _ ?_ | with_reducible refine Below.setCell ?_ ?_ _ | with_reducible refine Below.alloc ?_ ?_ _ | with_reducible refine Below.grow _ _ _ ?_ ?_ | omega | (simp; done) | (simp; omega)))
    · have hne : (x.zxid == 0) = false := beq_eq_false_iff_ne.2 hz0
      have HT := Lib.hid (logP_of HOK.out (fun y hy => by simp at hy; subst hy; exact hz0))
      clear hz0 hx0
      go_wp2_with fail
      refine bodyPost_ret (v := .slice (some ⟨b, off, none⟩) n c2) (by simp [results, Tryd.results6, go_sem]) rfl ⟨some ⟨b, off, none⟩, c2, x :: r, by rw [HNN.out], HT.out, by rw [HNN.out]; exact h41, by rw [HNN.out]; exact HM.out.below (by repeat (first | with_reducible exact Below.refl _ _ | with_reducible assumption | with_reducible exact below_d1 _ _ _ _ _ | with_reducible exact below_d2 _ _ _ _ _ _ _ _ | with_reducible exact below_d3 _ _ _ _ _ | with_reducible exact below_d4 _ _ _ _ _ _ _ _ | with_reducible exact below_d5 _ _ | with_reducible refine Below.drew ?_ | with_reducible refine Below.drewN' ?_ _ | with_reducible refine below_grow0 _ _ ?_ | with_reducible refine below_alloc0 _ ?_ | with_reducible refine Below.setCell ?_ ?_ _ | with_reducible refine Below.alloc ?_ ?_ _ | with_reducible refine Below.grow _ _ _ ?_ ?_ | omega | (simp; done) | (simp; omega))), (by repeat (first | with_reducible exact Below.refl _ _ | with_reducible assumption | with_reducible exact below_d1 _ _ _ _ _ | with_reducible exact below_d2 _ _ _ _ _ _ _ _ | with_reducible exact below_d3 _ _ _ _ _ | with_reducible exact below_d4 _ _ _ _ _ _ _ _ | with_reducible exact below_d5 _ _ | with_reducible refine Below.drew ?_ | with_reducible refine Below.drewN' ?_ _ | with_reducible refine below_grow0 _ _ ?_ | with_reducible refine below_alloc0 _ ?_ | with_reducible refine Below.setCell ?_ ?_ _ | with_reducible refine Below.alloc ?_ ?_ _ | with_reducible refine Below.grow _ _ _ ?_ ?_ | omega | (simp; done) | (simp; omega)))⟩
end Go.Proofs.YtkoemhdchoicaaaDoor
