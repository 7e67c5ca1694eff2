/- zxid.small: a number of at most ten digits, without noughts ahead. -/
import Derived.Test.YtkogdnkifnhljaaDoorZxid
import Derived.Test.YtkogdnkifnhljaaDoorPath
import Derived.Test.YtkogdnkifnhljaaDoorOwn
import Derived.Lib.ConvBytes
namespace Go.Proofs.YtkogdnkifnhljaaDoor
open Go.RowKit
def digit (c : UInt8) : Bool := decide (48 ≤ c.toNat ∧ c.toNat ≤ 57)
def valD (l : List UInt8) : Nat := l.foldl (fun n c => n * 10 + (c.toNat - 48)) 0
def smallOk (l : List UInt8) : Bool := decide (l ≠ []) && (decide (l.length ≤ 10) && (!(decide (1 < l.length) && decide (l[0]? = some 48)) && l.all digit))
def smallV (l : List UInt8) : Int := if smallOk l then (valD l : Nat) else 0
theorem valD_snoc (l : List UInt8) (c : UInt8) : valD (l ++ [c]) = valD l * 10 + (c.toNat - 48) := by unfold valD; rw [List.foldl_append]; rfl
theorem valD_lt (l : List UInt8) (h : l.all digit = true) : ∀ k, k ≤ l.length → valD (l.take k) < 10 ^ k
  | 0, _ => by simp [valD]
  | k + 1, hk => by
    have ih := valD_lt l h k (by omega)
    have hx := List.getElem?_eq_getElem (l := l) (i := k) (by omega)
    have h2 : digit l[k] = true := List.all_eq_true.1 h _ (List.getElem_mem (by omega))
    unfold digit at h2
    rw [decide_eq_true_iff] at h2
    rw [List.take_add_one, hx, Option.toList_some, valD_snoc, Nat.pow_succ]
    omega
theorem valD_lt' (l : List UInt8) : ∀ k, (l.take k).all digit = true → k ≤ l.length → valD (l.take k) < 10 ^ k := by
  intro k h hk
  have := valD_lt (l.take k) h k (by rw [List.length_take]; omega)
  rwa [List.take_take, Nat.min_self] at this
theorem bs_inj0 {s : ByteArray} (h : bs s = []) : s = ⟨#[]⟩ := ByteArray.ext (Array.toList_inj.mp h)
theorem bytes_row (s : ByteArray) (cap : Nat) : bytesRow s cap = ((bs s).map (fun c : UInt8 => Value.int .u8 (c.toNat : Int)) ++ List.replicate (cap - s.size) (Value.int .u8 0)).toArray := by
  apply Array.ext'
  simp only [bytesRow, Array.toList_append, Array.toList_map, Array.toList_replicate]
  rfl
theorem row_cell (w : World) (s : ByteArray) (cap e : Nat) (f : Nat × Nat) (j : Nat) (c : UInt8) (h : (bs s)[j]? = some c) : ((w.drew).alloc (.cells (bytesRow s cap) e f)).cell? ⟨w.heap.size, j, none⟩ = some (.int .u8 (c.toNat : Int)) := by
  have h1 : ((w.drew).alloc (.cells (bytesRow s cap) e f)).heap[w.heap.size]? = some (.cells (bytesRow s cap) e f) := heap_alloc_new w.drew _
  unfold World.cell?
  simp only [h1]
  rw [bytes_row]
  have hj : j < (bs s).length := (List.getElem?_eq_some_iff.1 h).1
  simp only [List.getElem?_toArray]
  rw [List.getElem?_append_left (by simpa using hj), List.getElem?_map, h]
  rfl
set_option maxHeartbeats 1000000 in
theorem small_loop (s : ByteArray) (w : World) (h0 : 0 < s.size) (h10 : s.size ≤ 10) (hz : ¬ (1 < s.size ∧ (bs s)[0]? = some 48)) :
    Calls Tryd.prog 50 #[.string s] w fun e w' => e = .returned (.tuple #[.int .i64 (smallV (bs s)), .bool (smallOk (bs s))]) ∧ Below w.heap.size w w' := by
  have hconv := fun (w : World) (s : ByteArray) => run_bytes_of_string (P := Tryd.prog) w 9 67 5 s Tryd.underlying9 Tryd.underlying67 Tryd.underlying5
  have hemp : s.toList.isEmpty = false := by
    rw [ByteArray.toList_eq]
    cases hd : s.data.toList with
    | nil => have := length_bs s; unfold bs at this; rw [hd] at this; simp at this; omega
    | cons _ _ => rfl
  have h10i : (decide ((10 : Int) < (s.size : Int))) = false := decide_eq_false (by omega)
  have hok : smallOk (bs s) = (bs s).all digit := by
    unfold smallOk
    have hne : bs s ≠ [] := by intro e; have := length_bs s; rw [e] at this; simp at this; omega
    rw [decide_eq_true hne, decide_eq_true (show (bs s).length ≤ 10 by rw [length_bs]; exact h10)]
    have hzz : (decide (1 < (bs s).length) && decide ((bs s)[0]? = some 48)) = false := by
      rw [length_bs]
      by_cases h1 : 1 < s.size
      · rw [decide_eq_false (fun h => hz ⟨h1, h⟩)]; simp
      · rw [decide_eq_false h1]; rfl
    rw [hzz]
    rfl
  have HOK := Lib.hid hok
  have hbr : (decide ((1 : Int) < (s.size : Int))) = false ∨ ((decide ((1 : Int) < (s.size : Int))) = true ∧ ∀ h : 0 < s.size, ((((s[0]'h).toNat : Nat) : Int) == 48) = false) := by
    by_cases h1 : 1 < s.size
    · refine .inr ⟨decide_eq_true (by omega), fun h => beq_eq_false_iff_ne.2 fun e => hz ⟨h1, ?_⟩⟩
      have hb : (bs s)[0]? = some s[0] := List.getElem?_eq_getElem (by rw [length_bs]; exact h0)
      rw [hb]
      congr 1
      apply UInt8.toNat_inj.1
      have : (48 : UInt8).toNat = 48 := rfl
      omega
    · exact .inl (decide_eq_false (by omega))
  have hcell : ∀ (cap e : Nat) (f : Nat × Nat) (j : Nat) (c : UInt8), (bs s)[j]? = some c → ((w.drew).alloc (.cells (bytesRow s cap) e f)).cell? ⟨w.heap.size, j, none⟩ = some (.int .u8 (c.toNat : Int)) := fun cap e f j c h => row_cell w s cap e f j c h
  have HC := Lib.hid hcell
  clear hok hz hcell
  rcases hbr with hb1 | ⟨hb1, hb2⟩
  · go_enter Tryd.func50, Tryd.ntmps50
    go_wp2_with fail
    have HC1 := Lib.hid (fun (j : Nat) (c : UInt8) (h : (bs s)[j]? = some c) => show ((w.alloc (.cells (bytesRow s (grownCap w s.size 0 5)) 5 ((bytesRow s (grownCap w s.size 0 5)).size, (bytesRow s (grownCap w s.size 0 5)).size + 1))).drew).cell? ⟨w.heap.size, j, none⟩ = some (.int .u8 (c.toNat : Int)) from HC.out _ _ _ j c h)
    have hB1 : Below w.heap.size w ((w.alloc (.cells (bytesRow s (grownCap w s.size 0 5)) 5 ((bytesRow s (grownCap w s.size 0 5)).size, (bytesRow s (grownCap w s.size 0 5)).size + 1))).drew) := (by repeat (first | exact Below.refl _ _ | assumption | refine Below.drew ?_ | refine Below.drewN' ?_ _ | refine below_grow0 _ _ ?_ | refine below_alloc0 _ ?_ | refine Below.alloc ?_ (by first | omega | (simp; done) | (simp; omega)) _ | refine Below.setCell ?_ (by first | omega | (simp; done) | (simp; omega)) _ | refine Below.grow _ _ _ ?_ (by first | omega | (simp; done) | (simp; omega))))
    generalize ((w.alloc (.cells (bytesRow s (grownCap w s.size 0 5)) 5 ((bytesRow s (grownCap w s.size 0 5)).size, (bytesRow s (grownCap w s.size 0 5)).size + 1))).drew) = W1 at *
    generalize grownCap w s.size 0 5 = cap at *
    go_loopw [4, 27] (fun n i wr => ∃ k : Nat, k ≤ s.size ∧ n = .int .i64 (valD ((bs s).take k)) ∧ i = .int .i64 k ∧ wr = W1 ∧ Hid (((bs s).take k).all digit = true)) (fun _ i _ => s.size - (intOf i).toNat)
    case atStart => exact ⟨0, Nat.zero_le _, rfl, rfl, rfl, Lib.hid rfl⟩
    case round =>
      obtain ⟨k, hk, rfl, rfl, rfl, hd⟩ := hrel
      have hlen := length_bs s
      by_cases hlt : k < s.size
      · have hx : (bs s)[k]? = some ((bs s)[k]'(by omega)) := List.getElem?_eq_getElem _
        have hc := HC1.out k _ hx
        have htk : (bs s).take (k + 1) = (bs s).take k ++ [(bs s)[k]'(by omega)] := by rw [List.take_add_one, hx]; rfl
        have hmem : (bs s)[k]'(by omega) ∈ bs s := List.getElem_mem _
        generalize (bs s)[k]'(by omega) = c at *
        have hvl := valD_lt' (bs s) k hd.out (by omega)
        have hp : 10 ^ k ≤ 10 ^ 10 := Nat.pow_le_pow_right (by decide) (by omega)
        have hv9 : valD ((bs s).take k) < 10000000000 := Nat.lt_of_lt_of_le hvl hp
        have hc255 : c.toNat < 256 := c.toNat_lt
        cases hdc : digit c with
        | true =>
          have hcd : 48 ≤ c.toNat ∧ c.toNat ≤ 57 := by unfold digit at hdc; rwa [decide_eq_true_iff] at hdc
          have hval : ((valD ((bs s).take (k + 1)) : Nat) : Int) = (valD ((bs s).take k) : Int) * 10 + ((c.toNat : Int) - 48) := by rw [htk, valD_snoc]; omega
          have HV := Lib.hid hval
          have HD := Lib.hid (show ((bs s).take (k + 1)).all digit = true by rw [htk, List.all_append, hd.out]; simp [hdc])
          have hl1 : (decide ((c.toNat : Int) < 48)) = false := decide_eq_false (by omega)
          have hl2 : (decide ((57 : Int) < (c.toNat : Int))) = false := decide_eq_false (by omega)
          have hws : IntKind.u8.wrap ((c.toNat : Int) - 48) = (c.toNat : Int) - 48 := by unfold IntKind.wrap; simp [IntKind.signed, IntKind.bits]; omega
          generalize valD ((bs s).take k) = n at *
          clear hval htk hmem hx hvl hp
          go_wp2_with fail
          go_roundw
          case rel => exact ⟨k + 1, by omega, by rw [HV.out] <;> go_num, by go_num, by first | rfl | trivial, HD⟩
          case measure => simp [intOf]; omega
        | false =>
          have hno : smallOk (bs s) = false := by rw [HOK.out, List.all_eq_false]; exact ⟨c, hmem, by simp [hdc]⟩
          have hsv : smallV (bs s) = 0 := by unfold smallV; rw [hno]; rfl
          have HNO := Lib.hid hno
          have HSV := Lib.hid hsv
          have hcd : c.toNat < 48 ∨ (48 ≤ c.toNat ∧ 57 < c.toNat) := by unfold digit at hdc; rw [decide_eq_false_iff_not] at hdc; omega
          generalize valD ((bs s).take k) = n at *
          clear htk hmem hx hvl hp hno hsv
          rcases hcd with hcd | ⟨hcd1, hcd2⟩
          · have hl1 : (decide ((c.toNat : Int) < 48)) = true := decide_eq_true (by omega)
            go_wp2_with fail
            go_ret2
            exact ⟨by rw [HNO.out, HSV.out]; rfl, hB1⟩
          · have hl1 : (decide ((c.toNat : Int) < 48)) = false := decide_eq_false (by omega)
            have hl2 : (decide ((57 : Int) < (c.toNat : Int))) = true := decide_eq_true (by omega)
            go_wp2_with fail
            go_ret2
            exact ⟨by rw [HNO.out, HSV.out]; rfl, hB1⟩
      · have hk' : k = s.size := by omega
        subst hk'
        have hd1 := hd.out
        rw [List.take_of_length_le (by omega)] at hd1
        have hyes : smallOk (bs s) = true := by rw [HOK.out]; exact hd1
        have hsv : smallV (bs s) = (valD (bs s) : Nat) := by unfold smallV; rw [hyes]; rfl
        rw [List.take_of_length_le (by omega)]
        have HNO := Lib.hid hyes
        have HSV := Lib.hid hsv
        clear hyes hsv hd1
        generalize valD (bs s) = n at *
        go_wp2_with fail
        go_ret2
        exact ⟨by rw [HNO.out, HSV.out]; rfl, hB1⟩
  · go_enter Tryd.func50, Tryd.ntmps50
    go_wp2_with fail
    have HC1 := Lib.hid (fun (j : Nat) (c : UInt8) (h : (bs s)[j]? = some c) => show ((w.alloc (.cells (bytesRow s (grownCap w s.size 0 5)) 5 ((bytesRow s (grownCap w s.size 0 5)).size, (bytesRow s (grownCap w s.size 0 5)).size + 1))).drew).cell? ⟨w.heap.size, j, none⟩ = some (.int .u8 (c.toNat : Int)) from HC.out _ _ _ j c h)
    have hB1 : Below w.heap.size w ((w.alloc (.cells (bytesRow s (grownCap w s.size 0 5)) 5 ((bytesRow s (grownCap w s.size 0 5)).size, (bytesRow s (grownCap w s.size 0 5)).size + 1))).drew) := (by repeat (first | exact Below.refl _ _ | assumption | refine Below.drew ?_ | refine Below.drewN' ?_ _ | refine below_grow0 _ _ ?_ | refine below_alloc0 _ ?_ | refine Below.alloc ?_ (by first | omega | (simp; done) | (simp; omega)) _ | refine Below.setCell ?_ (by first | omega | (simp; done) | (simp; omega)) _ | refine Below.grow _ _ _ ?_ (by first | omega | (simp; done) | (simp; omega))))
    generalize ((w.alloc (.cells (bytesRow s (grownCap w s.size 0 5)) 5 ((bytesRow s (grownCap w s.size 0 5)).size, (bytesRow s (grownCap w s.size 0 5)).size + 1))).drew) = W1 at *
    generalize grownCap w s.size 0 5 = cap at *
    go_loopw [4, 27] (fun n i wr => ∃ k : Nat, k ≤ s.size ∧ n = .int .i64 (valD ((bs s).take k)) ∧ i = .int .i64 k ∧ wr = W1 ∧ Hid (((bs s).take k).all digit = true)) (fun _ i _ => s.size - (intOf i).toNat)
    case atStart => exact ⟨0, Nat.zero_le _, rfl, rfl, rfl, Lib.hid rfl⟩
    case round =>
      obtain ⟨k, hk, rfl, rfl, rfl, hd⟩ := hrel
      have hlen := length_bs s
      by_cases hlt : k < s.size
      · have hx : (bs s)[k]? = some ((bs s)[k]'(by omega)) := List.getElem?_eq_getElem _
        have hc := HC1.out k _ hx
        have htk : (bs s).take (k + 1) = (bs s).take k ++ [(bs s)[k]'(by omega)] := by rw [List.take_add_one, hx]; rfl
        have hmem : (bs s)[k]'(by omega) ∈ bs s := List.getElem_mem _
        generalize (bs s)[k]'(by omega) = c at *
        have hvl := valD_lt' (bs s) k hd.out (by omega)
        have hp : 10 ^ k ≤ 10 ^ 10 := Nat.pow_le_pow_right (by decide) (by omega)
        have hv9 : valD ((bs s).take k) < 10000000000 := Nat.lt_of_lt_of_le hvl hp
        have hc255 : c.toNat < 256 := c.toNat_lt
        cases hdc : digit c with
        | true =>
          have hcd : 48 ≤ c.toNat ∧ c.toNat ≤ 57 := by unfold digit at hdc; rwa [decide_eq_true_iff] at hdc
          have hval : ((valD ((bs s).take (k + 1)) : Nat) : Int) = (valD ((bs s).take k) : Int) * 10 + ((c.toNat : Int) - 48) := by rw [htk, valD_snoc]; omega
          have HV := Lib.hid hval
          have HD := Lib.hid (show ((bs s).take (k + 1)).all digit = true by rw [htk, List.all_append, hd.out]; simp [hdc])
          have hl1 : (decide ((c.toNat : Int) < 48)) = false := decide_eq_false (by omega)
          have hl2 : (decide ((57 : Int) < (c.toNat : Int))) = false := decide_eq_false (by omega)
          have hws : IntKind.u8.wrap ((c.toNat : Int) - 48) = (c.toNat : Int) - 48 := by unfold IntKind.wrap; simp [IntKind.signed, IntKind.bits]; omega
          generalize valD ((bs s).take k) = n at *
          clear hval htk hmem hx hvl hp
          go_wp2_with fail
          go_roundw
          case rel => exact ⟨k + 1, by omega, by rw [HV.out] <;> go_num, by go_num, by first | rfl | trivial, HD⟩
          case measure => simp [intOf]; omega
        | false =>
          have hno : smallOk (bs s) = false := by rw [HOK.out, List.all_eq_false]; exact ⟨c, hmem, by simp [hdc]⟩
          have hsv : smallV (bs s) = 0 := by unfold smallV; rw [hno]; rfl
          have HNO := Lib.hid hno
          have HSV := Lib.hid hsv
          have hcd : c.toNat < 48 ∨ (48 ≤ c.toNat ∧ 57 < c.toNat) := by unfold digit at hdc; rw [decide_eq_false_iff_not] at hdc; omega
          generalize valD ((bs s).take k) = n at *
          clear htk hmem hx hvl hp hno hsv
          rcases hcd with hcd | ⟨hcd1, hcd2⟩
          · have hl1 : (decide ((c.toNat : Int) < 48)) = true := decide_eq_true (by omega)
            go_wp2_with fail
            go_ret2
            exact ⟨by rw [HNO.out, HSV.out]; rfl, hB1⟩
          · have hl1 : (decide ((c.toNat : Int) < 48)) = false := decide_eq_false (by omega)
            have hl2 : (decide ((57 : Int) < (c.toNat : Int))) = true := decide_eq_true (by omega)
            go_wp2_with fail
            go_ret2
            exact ⟨by rw [HNO.out, HSV.out]; rfl, hB1⟩
      · have hk' : k = s.size := by omega
        subst hk'
        have hd1 := hd.out
        rw [List.take_of_length_le (by omega)] at hd1
        have hyes : smallOk (bs s) = true := by rw [HOK.out]; exact hd1
        have hsv : smallV (bs s) = (valD (bs s) : Nat) := by unfold smallV; rw [hyes]; rfl
        rw [List.take_of_length_le (by omega)]
        have HNO := Lib.hid hyes
        have HSV := Lib.hid hsv
        clear hyes hsv hd1
        generalize valD (bs s) = n at *
        go_wp2_with fail
        go_ret2
        exact ⟨by rw [HNO.out, HSV.out]; rfl, hB1⟩
set_option maxHeartbeats 1000000 in
theorem small_any (s : ByteArray) (w : World) (hs : s.size ≤ 9223372036854775807) :
    Calls Tryd.prog 50 #[.string s] w fun e w' => e = .returned (.tuple #[.int .i64 (smallV (bs s)), .bool (smallOk (bs s))]) ∧ Below w.heap.size w w' := by
  have hlen := length_bs s
  by_cases h0 : 0 < s.size
  · by_cases h10 : s.size ≤ 10
    · by_cases hz : 1 < s.size ∧ (bs s)[0]? = some 48
      · have hno : smallOk (bs s) = false := by
          unfold smallOk
          rw [hlen, decide_eq_true hz.1, decide_eq_true hz.2]
          simp
        have hsv : smallV (bs s) = 0 := by unfold smallV; rw [hno]; rfl
        rw [hno, hsv]
        have h1i : (decide ((1 : Int) < (s.size : Int))) = true := decide_eq_true (by omega)
        have h10i : (decide ((10 : Int) < (s.size : Int))) = false := decide_eq_false (by omega)
        have hemp : s.toList.isEmpty = false := by
          rw [ByteArray.toList_eq]
          cases hd : s.data.toList with
          | nil => unfold bs at hlen; rw [hd] at hlen; simp at hlen; omega
          | cons _ _ => rfl
        have hb2 : ∀ h : 0 < s.size, ((((s[0]'h).toNat : Nat) : Int) == 48) = true := by
          intro h
          have hb : (bs s)[0]? = some s[0] := List.getElem?_eq_getElem (by rw [length_bs]; exact h0)
          rw [hz.2] at hb
          injection hb with hb
          rw [← hb]; rfl
        clear hno hsv hz
        go_enter Tryd.func50, Tryd.ntmps50
        go_wp2_with fail
        go_ret2
        exact ⟨rfl, (by repeat (first | exact Below.refl _ _ | assumption | refine Below.drew ?_ | refine Below.drewN' ?_ _ | refine below_grow0 _ _ ?_ | refine below_alloc0 _ ?_ | refine Below.alloc ?_ (by first | omega | (simp; done) | (simp; omega)) _ | refine Below.setCell ?_ (by first | omega | (simp; done) | (simp; omega)) _ | refine Below.grow _ _ _ ?_ (by first | omega | (simp; done) | (simp; omega))))⟩
      · exact small_loop s w h0 h10 hz
    · have hno : smallOk (bs s) = false := by
        unfold smallOk
        rw [hlen, decide_eq_false h10]
        simp
      have hsv : smallV (bs s) = 0 := by unfold smallV; rw [hno]; rfl
      rw [hno, hsv]
      have h10i : (decide ((10 : Int) < (s.size : Int))) = true := decide_eq_true (by omega)
      have hemp : s.toList.isEmpty = false := by
        rw [ByteArray.toList_eq]
        cases hd : s.data.toList with
        | nil => unfold bs at hlen; rw [hd] at hlen; simp at hlen; omega
        | cons _ _ => rfl
      clear hno hsv
      go_enter Tryd.func50, Tryd.ntmps50
      go_wp2_with fail
      go_ret2
      exact ⟨rfl, (by repeat (first | exact Below.refl _ _ | assumption | refine Below.drew ?_ | refine Below.drewN' ?_ _ | refine below_grow0 _ _ ?_ | refine below_alloc0 _ ?_ | refine Below.alloc ?_ (by first | omega | (simp; done) | (simp; omega)) _ | refine Below.setCell ?_ (by first | omega | (simp; done) | (simp; omega)) _ | refine Below.grow _ _ _ ?_ (by first | omega | (simp; done) | (simp; omega))))⟩
  · have hnil : bs s = [] := List.eq_nil_of_length_eq_zero (by omega)
    rw [hnil]
    have hs0 : s = ⟨#[]⟩ := bs_inj0 hnil
    subst hs0
    go_enter Tryd.func50, Tryd.ntmps50
    go_wp2_with fail
    go_ret2
    exact ⟨rfl, (by repeat (first | exact Below.refl _ _ | assumption | refine Below.drew ?_ | refine Below.drewN' ?_ _ | refine below_grow0 _ _ ?_ | refine below_alloc0 _ ?_ | refine Below.alloc ?_ (by first | omega | (simp; done) | (simp; omega)) _ | refine Below.setCell ?_ (by first | omega | (simp; done) | (simp; omega)) _ | refine Below.grow _ _ _ ?_ (by first | omega | (simp; done) | (simp; omega))))⟩
end Go.Proofs.YtkogdnkifnhljaaDoor
