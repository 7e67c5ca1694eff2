/- Lemmas for the statement: Small, Cursor, Number, DecP, WLaw, WLaw2, WLaw3, LastZ, ScanL, WalL, DecS, Decode, Writes, AppendW, Last, Scan. -/
import Derived.Lib.ConvBytes
import Derived.RangeFuncBox
import Derived.Deep.Cut
import Derived.Deep.MidRow
import Derived.Laws.ResultCell
import Derived.Test.YtchgpijfebilbaaGreatDoorPt1
import Derived.Test.YtchgpijfebilbaaGreatDoorPt2
import Derived.Test.YtchgpijfebilbaaGreatDoorPt3
import Derived.Test.YtchgpijfebilbaaGreatDoorPt4
/- zxid.small: a number of at most ten digits, without noughts ahead. -/
namespace Go.Proofs.YtchgpijfebilbaaGreatDoor
open Go.RowKit
def digit (c : UInt8) : Bool := decide (48 ≤ c.toNat ∧ c.toNat ≤ 57)
def valD (l : List UInt8) : Nat := l.foldl (fun n c => n * 10 + (c.toNat - 48)) 0
def smallOk (l : List UInt8) : Bool := decide (l ≠ []) && (decide (l.length ≤ 10) && (!(decide (1 < l.length) && decide (l[0]? = some 48)) && l.all digit))
def smallV (l : List UInt8) : Int := if smallOk l then (valD l : Nat) else 0
theorem valD_snoc (l : List UInt8) (c : UInt8) : valD (l ++ [c]) = valD l * 10 + (c.toNat - 48) := by unfold valD; rw [List.foldl_append]; rfl
theorem valD_lt (l : List UInt8) (h : l.all digit = true) : ∀ k, k ≤ l.length → valD (l.take k) < 10 ^ k
  | 0, _ => by simp [valD]
  | k + 1, hk => by
    have ih := valD_lt l h k (by omega)
    have hx := List.getElem?_eq_getElem (l := l) (i := k) (by omega)
    have h2 : digit l[k] = true := List.all_eq_true.1 h _ (List.getElem_mem (by omega))
    unfold digit at h2
    rw [decide_eq_true_iff] at h2
    rw [List.take_add_one, hx, Option.toList_some, valD_snoc, Nat.pow_succ]
    omega
theorem valD_lt' (l : List UInt8) : ∀ k, (l.take k).all digit = true → k ≤ l.length → valD (l.take k) < 10 ^ k := by
  intro k h hk
  have := valD_lt (l.take k) h k (by rw [List.length_take]; omega)
  rwa [List.take_take, Nat.min_self] at this
theorem bs_inj0 {s : ByteArray} (h : bs s = []) : s = ⟨#[]⟩ := ByteArray.ext (Array.toList_inj.mp h)
theorem bytes_row (s : ByteArray) (cap : Nat) : bytesRow s cap = ((bs s).map (fun c : UInt8 => Value.int .u8 (c.toNat : Int)) ++ List.replicate (cap - s.size) (Value.int .u8 0)).toArray := by
  apply Array.ext'
  simp only [bytesRow, Array.toList_append, Array.toList_map, Array.toList_replicate]
  rfl
theorem row_cell (w : World) (s : ByteArray) (cap e : Nat) (f : Nat × Nat) (j : Nat) (c : UInt8) (h : (bs s)[j]? = some c) : ((w.drew).alloc (.cells (bytesRow s cap) e f)).cell? ⟨w.heap.size, j, none⟩ = some (.int .u8 (c.toNat : Int)) := by
  have h1 : ((w.drew).alloc (.cells (bytesRow s cap) e f)).heap[w.heap.size]? = some (.cells (bytesRow s cap) e f) := heap_alloc_new w.drew _
  unfold World.cell?
  simp only [h1]
  rw [bytes_row]
  have hj : j < (bs s).length := (List.getElem?_eq_some_iff.1 h).1
  simp only [List.getElem?_toArray]
  rw [List.getElem?_append_left (by simpa using hj), List.getElem?_map, h]
  rfl
set_option maxHeartbeats 1000000 in
theorem small_loop (s : ByteArray) (w : World) (h0 : 0 < s.size) (h10 : s.size ≤ 10) (hz : ¬ (1 < s.size ∧ (bs s)[0]? = some 48)) :
    Calls Tryz.prog 84 #[.string s] w fun e w' => e = .returned (.tuple #[.int .i64 (smallV (bs s)), .bool (smallOk (bs s))]) ∧ Below w.heap.size w w' := by
  have hconv := fun (w : World) (s : ByteArray) => run_bytes_of_string (P := Tryz.prog) w 9 147 5 s Tryz.underlying9 Tryz.underlying147 Tryz.underlying5
  have hemp : s.toList.isEmpty = false := by
    rw [ByteArray.toList_eq]
    cases hd : s.data.toList with
    | nil => have := length_bs s; unfold bs at this; rw [hd] at this; simp at this; omega
    | cons _ _ => rfl
  have h10i : (decide ((10 : Int) < (s.size : Int))) = false := decide_eq_false (by omega)
  have hok : smallOk (bs s) = (bs s).all digit := by
    unfold smallOk
    have hne : bs s ≠ [] := by intro e; have := length_bs s; rw [e] at this; simp at this; omega
    rw [decide_eq_true hne, decide_eq_true (show (bs s).length ≤ 10 by rw [length_bs]; exact h10)]
    have hzz : (decide (1 < (bs s).length) && decide ((bs s)[0]? = some 48)) = false := by
      rw [length_bs]
      by_cases h1 : 1 < s.size
      · rw [decide_eq_false (fun h => hz ⟨h1, h⟩)]; simp
      · rw [decide_eq_false h1]; rfl
    rw [hzz]
    rfl
  have HOK := Lib.hid hok
  have hbr : (decide ((1 : Int) < (s.size : Int))) = false ∨ ((decide ((1 : Int) < (s.size : Int))) = true ∧ ∀ h : 0 < s.size, ((((s[0]'h).toNat : Nat) : Int) == 48) = false) := by
    by_cases h1 : 1 < s.size
    · refine .inr ⟨decide_eq_true (by omega), fun h => beq_eq_false_iff_ne.2 fun e => hz ⟨h1, ?_⟩⟩
      have hb : (bs s)[0]? = some s[0] := List.getElem?_eq_getElem (by rw [length_bs]; exact h0)
      rw [hb]
      congr 1
      apply UInt8.toNat_inj.1
      have : (48 : UInt8).toNat = 48 := rfl
      omega
    · exact .inl (decide_eq_false (by omega))
  have hcell : ∀ (cap e : Nat) (f : Nat × Nat) (j : Nat) (c : UInt8), (bs s)[j]? = some c → ((w.drew).alloc (.cells (bytesRow s cap) e f)).cell? ⟨w.heap.size, j, none⟩ = some (.int .u8 (c.toNat : Int)) := fun cap e f j c h => row_cell w s cap e f j c h
  have HC := Lib.hid hcell
  clear hok hz hcell
  rcases hbr with hb1 | ⟨hb1, hb2⟩
  · go_enter Tryz.func84, Tryz.ntmps84
    go_wp2_with fail
    have HC1 := Lib.hid (fun (j : Nat) (c : UInt8) (h : (bs s)[j]? = some c) => show ((w.alloc (.cells (bytesRow s (grownCap w s.size 0 5)) 5 ((bytesRow s (grownCap w s.size 0 5)).size, (bytesRow s (grownCap w s.size 0 5)).size + 1))).drew).cell? ⟨w.heap.size, j, none⟩ = some (.int .u8 (c.toNat : Int)) from HC.out _ _ _ j c h)
    have hB1 : Below w.heap.size w ((w.alloc (.cells (bytesRow s (grownCap w s.size 0 5)) 5 ((bytesRow s (grownCap w s.size 0 5)).size, (bytesRow s (grownCap w s.size 0 5)).size + 1))).drew) := (by repeat (first | exact bA .. | assumption | refine bB ?_ | refine bC ?_ _ | refine bD _ _ ?_ | refine bE _ ?_ | refine bG ?_ (by first | omega | (simp; done) | (simp; omega)) _ | refine Below.setCell ?_ (by first | omega | (simp; done) | (simp; omega)) _ | refine Below.grow _ _ _ ?_ (by first | omega | (simp; done) | (simp; omega))))
    generalize ((w.alloc (.cells (bytesRow s (grownCap w s.size 0 5)) 5 ((bytesRow s (grownCap w s.size 0 5)).size, (bytesRow s (grownCap w s.size 0 5)).size + 1))).drew) = W1 at *
    generalize grownCap w s.size 0 5 = cap at *
    go_loopw [4, 27] (fun n i wr => ∃ k : Nat, k ≤ s.size ∧ n = .int .i64 (valD ((bs s).take k)) ∧ i = .int .i64 k ∧ wr = W1 ∧ Hid (((bs s).take k).all digit = true)) (fun _ i _ => s.size - (intOf i).toNat)
    case atStart => exact ⟨0, Nat.zero_le _, rfl, rfl, rfl, Lib.hid rfl⟩
    case round =>
      obtain ⟨k, hk, rfl, rfl, rfl, hd⟩ := hrel
      have hlen := length_bs s
      by_cases hlt : k < s.size
      · have hx : (bs s)[k]? = some ((bs s)[k]'(by omega)) := List.getElem?_eq_getElem _
        have hc := HC1.out k _ hx
        have htk : (bs s).take (k + 1) = (bs s).take k ++ [(bs s)[k]'(by omega)] := by rw [List.take_add_one, hx]; rfl
        have hmem : (bs s)[k]'(by omega) ∈ bs s := List.getElem_mem _
        generalize (bs s)[k]'(by omega) = c at *
        have hvl := valD_lt' (bs s) k hd.out (by omega)
        have hp : 10 ^ k ≤ 10 ^ 10 := Nat.pow_le_pow_right (by decide) (by omega)
        have hv9 : valD ((bs s).take k) < 10000000000 := Nat.lt_of_lt_of_le hvl hp
        have hc255 : c.toNat < 256 := c.toNat_lt
        cases hdc : digit c with
        | true =>
          have hcd : 48 ≤ c.toNat ∧ c.toNat ≤ 57 := by unfold digit at hdc; rwa [decide_eq_true_iff] at hdc
          have hval : ((valD ((bs s).take (k + 1)) : Nat) : Int) = (valD ((bs s).take k) : Int) * 10 + ((c.toNat : Int) - 48) := by rw [htk, valD_snoc]; omega
          have HV := Lib.hid hval
          have HD := Lib.hid (show ((bs s).take (k + 1)).all digit = true by rw [htk, List.all_append, hd.out]; simp [hdc])
          have hl1 : (decide ((c.toNat : Int) < 48)) = false := decide_eq_false (by omega)
          have hl2 : (decide ((57 : Int) < (c.toNat : Int))) = false := decide_eq_false (by omega)
          have hws : IntKind.u8.wrap ((c.toNat : Int) - 48) = (c.toNat : Int) - 48 := by unfold IntKind.wrap; simp [IntKind.signed, IntKind.bits]; omega
          generalize valD ((bs s).take k) = n at *
          clear hval htk hmem hx hvl hp
          go_wp2_with fail
          go_roundw
          case rel => exact ⟨k + 1, by omega, by rw [HV.out] <;> go_num, by go_num, by first | rfl | trivial, HD⟩
          case measure => simp [intOf]; omega
        | false =>
          have hno : smallOk (bs s) = false := by rw [HOK.out, List.all_eq_false]; exact ⟨c, hmem, by simp [hdc]⟩
          have hsv : smallV (bs s) = 0 := by unfold smallV; rw [hno]; rfl
          have HNO := Lib.hid hno
          have HSV := Lib.hid hsv
          have hcd : c.toNat < 48 ∨ (48 ≤ c.toNat ∧ 57 < c.toNat) := by unfold digit at hdc; rw [decide_eq_false_iff_not] at hdc; omega
          generalize valD ((bs s).take k) = n at *
          clear htk hmem hx hvl hp hno hsv
          rcases hcd with hcd | ⟨hcd1, hcd2⟩
          · have hl1 : (decide ((c.toNat : Int) < 48)) = true := decide_eq_true (by omega)
            go_wp2_with fail
            go_ret2
            exact ⟨by rw [HNO.out, HSV.out]; rfl, hB1⟩
          · have hl1 : (decide ((c.toNat : Int) < 48)) = false := decide_eq_false (by omega)
            have hl2 : (decide ((57 : Int) < (c.toNat : Int))) = true := decide_eq_true (by omega)
            go_wp2_with fail
            go_ret2
            exact ⟨by rw [HNO.out, HSV.out]; rfl, hB1⟩
      · have hk' : k = s.size := by omega
        subst hk'
        have hd1 := hd.out
        rw [List.take_of_length_le (by omega)] at hd1
        have hyes : smallOk (bs s) = true := by rw [HOK.out]; exact hd1
        have hsv : smallV (bs s) = (valD (bs s) : Nat) := by unfold smallV; rw [hyes]; rfl
        rw [List.take_of_length_le (by omega)]
        have HNO := Lib.hid hyes
        have HSV := Lib.hid hsv
        clear hyes hsv hd1
        generalize valD (bs s) = n at *
        go_wp2_with fail
        go_ret2
        exact ⟨by rw [HNO.out, HSV.out]; rfl, hB1⟩
  · go_enter Tryz.func84, Tryz.ntmps84
    go_wp2_with fail
    have HC1 := Lib.hid (fun (j : Nat) (c : UInt8) (h : (bs s)[j]? = some c) => show ((w.alloc (.cells (bytesRow s (grownCap w s.size 0 5)) 5 ((bytesRow s (grownCap w s.size 0 5)).size, (bytesRow s (grownCap w s.size 0 5)).size + 1))).drew).cell? ⟨w.heap.size, j, none⟩ = some (.int .u8 (c.toNat : Int)) from HC.out _ _ _ j c h)
    have hB1 : Below w.heap.size w ((w.alloc (.cells (bytesRow s (grownCap w s.size 0 5)) 5 ((bytesRow s (grownCap w s.size 0 5)).size, (bytesRow s (grownCap w s.size 0 5)).size + 1))).drew) := (by repeat (first | exact bA .. | assumption | refine bB ?_ | refine bC ?_ _ | refine bD _ _ ?_ | refine bE _ ?_ | refine bG ?_ (by first | omega | (simp; done) | (simp; omega)) _ | refine Below.setCell ?_ (by first | omega | (simp; done) | (simp; omega)) _ | refine Below.grow _ _ _ ?_ (by first | omega | (simp; done) | (simp; omega))))
    generalize ((w.alloc (.cells (bytesRow s (grownCap w s.size 0 5)) 5 ((bytesRow s (grownCap w s.size 0 5)).size, (bytesRow s (grownCap w s.size 0 5)).size + 1))).drew) = W1 at *
    generalize grownCap w s.size 0 5 = cap at *
    go_loopw [4, 27] (fun n i wr => ∃ k : Nat, k ≤ s.size ∧ n = .int .i64 (valD ((bs s).take k)) ∧ i = .int .i64 k ∧ wr = W1 ∧ Hid (((bs s).take k).all digit = true)) (fun _ i _ => s.size - (intOf i).toNat)
    case atStart => exact ⟨0, Nat.zero_le _, rfl, rfl, rfl, Lib.hid rfl⟩
    case round =>
      obtain ⟨k, hk, rfl, rfl, rfl, hd⟩ := hrel
      have hlen := length_bs s
      by_cases hlt : k < s.size
      · have hx : (bs s)[k]? = some ((bs s)[k]'(by omega)) := List.getElem?_eq_getElem _
        have hc := HC1.out k _ hx
        have htk : (bs s).take (k + 1) = (bs s).take k ++ [(bs s)[k]'(by omega)] := by rw [List.take_add_one, hx]; rfl
        have hmem : (bs s)[k]'(by omega) ∈ bs s := List.getElem_mem _
        generalize (bs s)[k]'(by omega) = c at *
        have hvl := valD_lt' (bs s) k hd.out (by omega)
        have hp : 10 ^ k ≤ 10 ^ 10 := Nat.pow_le_pow_right (by decide) (by omega)
        have hv9 : valD ((bs s).take k) < 10000000000 := Nat.lt_of_lt_of_le hvl hp
        have hc255 : c.toNat < 256 := c.toNat_lt
        cases hdc : digit c with
        | true =>
          have hcd : 48 ≤ c.toNat ∧ c.toNat ≤ 57 := by unfold digit at hdc; rwa [decide_eq_true_iff] at hdc
          have hval : ((valD ((bs s).take (k + 1)) : Nat) : Int) = (valD ((bs s).take k) : Int) * 10 + ((c.toNat : Int) - 48) := by rw [htk, valD_snoc]; omega
          have HV := Lib.hid hval
          have HD := Lib.hid (show ((bs s).take (k + 1)).all digit = true by rw [htk, List.all_append, hd.out]; simp [hdc])
          have hl1 : (decide ((c.toNat : Int) < 48)) = false := decide_eq_false (by omega)
          have hl2 : (decide ((57 : Int) < (c.toNat : Int))) = false := decide_eq_false (by omega)
          have hws : IntKind.u8.wrap ((c.toNat : Int) - 48) = (c.toNat : Int) - 48 := by unfold IntKind.wrap; simp [IntKind.signed, IntKind.bits]; omega
          generalize valD ((bs s).take k) = n at *
          clear hval htk hmem hx hvl hp
          go_wp2_with fail
          go_roundw
          case rel => exact ⟨k + 1, by omega, by rw [HV.out] <;> go_num, by go_num, by first | rfl | trivial, HD⟩
          case measure => simp [intOf]; omega
        | false =>
          have hno : smallOk (bs s) = false := by rw [HOK.out, List.all_eq_false]; exact ⟨c, hmem, by simp [hdc]⟩
          have hsv : smallV (bs s) = 0 := by unfold smallV; rw [hno]; rfl
          have HNO := Lib.hid hno
          have HSV := Lib.hid hsv
          have hcd : c.toNat < 48 ∨ (48 ≤ c.toNat ∧ 57 < c.toNat) := by unfold digit at hdc; rw [decide_eq_false_iff_not] at hdc; omega
          generalize valD ((bs s).take k) = n at *
          clear htk hmem hx hvl hp hno hsv
          rcases hcd with hcd | ⟨hcd1, hcd2⟩
          · have hl1 : (decide ((c.toNat : Int) < 48)) = true := decide_eq_true (by omega)
            go_wp2_with fail
            go_ret2
            exact ⟨by rw [HNO.out, HSV.out]; rfl, hB1⟩
          · have hl1 : (decide ((c.toNat : Int) < 48)) = false := decide_eq_false (by omega)
            have hl2 : (decide ((57 : Int) < (c.toNat : Int))) = true := decide_eq_true (by omega)
            go_wp2_with fail
            go_ret2
            exact ⟨by rw [HNO.out, HSV.out]; rfl, hB1⟩
      · have hk' : k = s.size := by omega
        subst hk'
        have hd1 := hd.out
        rw [List.take_of_length_le (by omega)] at hd1
        have hyes : smallOk (bs s) = true := by rw [HOK.out]; exact hd1
        have hsv : smallV (bs s) = (valD (bs s) : Nat) := by unfold smallV; rw [hyes]; rfl
        rw [List.take_of_length_le (by omega)]
        have HNO := Lib.hid hyes
        have HSV := Lib.hid hsv
        clear hyes hsv hd1
        generalize valD (bs s) = n at *
        go_wp2_with fail
        go_ret2
        exact ⟨by rw [HNO.out, HSV.out]; rfl, hB1⟩
set_option maxHeartbeats 1000000 in
theorem small_any (s : ByteArray) (w : World) (hs : s.size ≤ 9223372036854775807) :
    Calls Tryz.prog 84 #[.string s] w fun e w' => e = .returned (.tuple #[.int .i64 (smallV (bs s)), .bool (smallOk (bs s))]) ∧ Below w.heap.size w w' := by
  have hlen := length_bs s
  by_cases h0 : 0 < s.size
  · by_cases h10 : s.size ≤ 10
    · by_cases hz : 1 < s.size ∧ (bs s)[0]? = some 48
      · have hno : smallOk (bs s) = false := by
          unfold smallOk
          rw [hlen, decide_eq_true hz.1, decide_eq_true hz.2]
          simp
        have hsv : smallV (bs s) = 0 := by unfold smallV; rw [hno]; rfl
        rw [hno, hsv]
        have h1i : (decide ((1 : Int) < (s.size : Int))) = true := decide_eq_true (by omega)
        have h10i : (decide ((10 : Int) < (s.size : Int))) = false := decide_eq_false (by omega)
        have hemp : s.toList.isEmpty = false := by
          rw [ByteArray.toList_eq]
          cases hd : s.data.toList with
          | nil => unfold bs at hlen; rw [hd] at hlen; simp at hlen; omega
          | cons _ _ => rfl
        have hb2 : ∀ h : 0 < s.size, ((((s[0]'h).toNat : Nat) : Int) == 48) = true := by
          intro h
          have hb : (bs s)[0]? = some s[0] := List.getElem?_eq_getElem (by rw [length_bs]; exact h0)
          rw [hz.2] at hb
          injection hb with hb
          rw [← hb]; rfl
        clear hno hsv hz
        go_enter Tryz.func84, Tryz.ntmps84
        go_wp2_with fail
        go_ret2
        exact ⟨rfl, (by repeat (first | exact bA .. | assumption | refine bB ?_ | refine bC ?_ _ | refine bD _ _ ?_ | refine bE _ ?_ | refine bG ?_ (by first | omega | (simp; done) | (simp; omega)) _ | refine Below.setCell ?_ (by first | omega | (simp; done) | (simp; omega)) _ | refine Below.grow _ _ _ ?_ (by first | omega | (simp; done) | (simp; omega))))⟩
      · exact small_loop s w h0 h10 hz
    · have hno : smallOk (bs s) = false := by
        unfold smallOk
        rw [hlen, decide_eq_false h10]
        simp
      have hsv : smallV (bs s) = 0 := by unfold smallV; rw [hno]; rfl
      rw [hno, hsv]
      have h10i : (decide ((10 : Int) < (s.size : Int))) = true := decide_eq_true (by omega)
      have hemp : s.toList.isEmpty = false := by
        rw [ByteArray.toList_eq]
        cases hd : s.data.toList with
        | nil => unfold bs at hlen; rw [hd] at hlen; simp at hlen; omega
        | cons _ _ => rfl
      clear hno hsv
      go_enter Tryz.func84, Tryz.ntmps84
      go_wp2_with fail
      go_ret2
      exact ⟨rfl, (by repeat (first | exact bA .. | assumption | refine bB ?_ | refine bC ?_ _ | refine bD _ _ ?_ | refine bE _ ?_ | refine bG ?_ (by first | omega | (simp; done) | (simp; omega)) _ | refine Below.setCell ?_ (by first | omega | (simp; done) | (simp; omega)) _ | refine Below.grow _ _ _ ?_ (by first | omega | (simp; done) | (simp; omega))))⟩
  · have hnil : bs s = [] := List.eq_nil_of_length_eq_zero (by omega)
    rw [hnil]
    have hs0 : s = ⟨#[]⟩ := bs_inj0 hnil
    subst hs0
    go_enter Tryz.func84, Tryz.ntmps84
    go_wp2_with fail
    go_ret2
    exact ⟨rfl, (by repeat (first | exact bA .. | assumption | refine bB ?_ | refine bC ?_ _ | refine bD _ _ ?_ | refine bE _ ?_ | refine bG ?_ (by first | omega | (simp; done) | (simp; omega)) _ | refine Below.setCell ?_ (by first | omega | (simp; done) | (simp; omega)) _ | refine Below.grow _ _ _ ?_ (by first | omega | (simp; done) | (simp; omega))))⟩
end Go.Proofs.YtchgpijfebilbaaGreatDoor

/- wire's cursor: text, number. -/
namespace Go.Proofs.YtchgpijfebilbaaGreatDoor
open Go.RowKit Go.ChangeShapes Go.WideShapes Go.ChangeAt
def Cur (w : World) (g : Nat) (s : ByteArray) (bad : Bool) : Prop := w.cell? ⟨g, 0, none⟩ = some (.string s) ∧ w.cell? ⟨g, 1, none⟩ = some (.bool bad) ∧ w.frozen? ⟨g, 0, none⟩ = false ∧ w.frozen? ⟨g, 1, none⟩ = false
def badT (s : ByteArray) (bad : Bool) (n : Nat) : Bool := bad || decide (s.size < n)
def takeT (s : ByteArray) (bad : Bool) (n : Nat) : ByteArray := if badT s bad n then ⟨#[]⟩ else s.extract 0 n
def restT (s : ByteArray) (bad : Bool) (n : Nat) : ByteArray := if badT s bad n then s else s.extract n s.size
theorem cur_set0 {w : World} {g : Nat} {s : ByteArray} {bad : Bool} (h : Cur w g s bad) (t : ByteArray) : Cur (w.setCell ⟨g, 0, none⟩ (.string t)) g t bad := by
  obtain ⟨h1, h2, h3, h4⟩ := h
  exact ⟨World.cell?_setCell_same' _ _ _ (by rw [h1]; rfl), (World.cell?_setCell_other _ _ _ _ (fun e => by injection e with _ e; exact absurd e (by decide))).trans h2, (World.frozen?_setCell ..).trans h3, (World.frozen?_setCell ..).trans h4⟩
theorem cur_set1 {w : World} {g : Nat} {s : ByteArray} {bad : Bool} (h : Cur w g s bad) (b : Bool) : Cur (w.setCell ⟨g, 1, none⟩ (.bool b)) g s b := by
  obtain ⟨h1, h2, h3, h4⟩ := h
  exact ⟨(World.cell?_setCell_other _ _ _ _ (fun e => by injection e with _ e; exact absurd e (by decide))).trans h1, World.cell?_setCell_same' _ _ _ (by rw [h2]; rfl), (World.frozen?_setCell ..).trans h3, (World.frozen?_setCell ..).trans h4⟩
set_option maxHeartbeats 1000000 in
theorem text_any (g : Nat) (s : ByteArray) (bad : Bool) (n : Nat) (w : World) (h : Cur w g s bad) (hn : n < 4611686018427387904) (_hs : s.size ≤ 4611686018427387904) :
    Calls Tryz.prog 106 #[.pointer (some ⟨g, 0, none⟩), .int .i64 n] w fun e w' => e = .returned (.string (takeT s bad n)) ∧ Cur w' g (restT s bad n) (badT s bad n) ∧ w.grownBy w' (some g) := by
  have HC := Lib.hid h
  obtain ⟨h1, h2, h3, h4⟩ := h
  unfold takeT restT
  cases bad with
  | true =>
    have hb : badT s true n = true := rfl
    rw [hb]
    simp only [if_true]
    go_enter Tryz.func106, Tryz.ntmps106
    go_wp2_with fail
    go_ret
    exact ⟨rfl, cur_set1 HC.out true, grownBy_setCell _ _ _ _⟩
  | false =>
    by_cases hlt : s.size < n
    · have hb : badT s false n = true := by unfold badT; rw [decide_eq_true hlt]; rfl
      rw [hb]
      simp only [if_true]
      have hi : (decide ((s.size : Int) < (n : Int))) = true := decide_eq_true (by omega)
      clear hb
      go_enter Tryz.func106, Tryz.ntmps106
      go_wp2_with fail
      go_ret
      exact ⟨rfl, cur_set1 HC.out true, grownBy_setCell _ _ _ _⟩
    · have hb : badT s false n = false := by unfold badT; rw [decide_eq_false hlt]; rfl
      rw [hb]
      simp only [Bool.false_eq_true, if_false]
      have hi : (decide ((s.size : Int) < (n : Int))) = false := decide_eq_false (by omega)
      clear hb
      go_enter Tryz.func106, Tryz.ntmps106
      go_wp2_with fail
      go_ret
      exact ⟨rfl, cur_set0 HC.out _, grownBy_setCell _ _ _ _⟩
end Go.Proofs.YtchgpijfebilbaaGreatDoor

/- wire's cursor: number. -/
namespace Go.Proofs.YtchgpijfebilbaaGreatDoor
open Go.RowKit Go.ChangeShapes Go.WideShapes Go.ChangeAt
def valI (l : List UInt8) : Int := l.foldl (fun v c => wrap64 (v * 256 + (c.toNat : Int))) 0
theorem valI_snoc (l : List UInt8) (c : UInt8) : valI (l ++ [c]) = wrap64 (valI l * 256 + (c.toNat : Int)) := by unfold valI; rw [List.foldl_append]; rfl
theorem ofInt64_toNat (a : Int) : (BitVec.ofInt 64 a).toNat = (a % 18446744073709551616).toNat := by
  simp [BitVec.ofInt, Int.emod_def]
theorem bits_or8 (n : Int) (c : Nat) (hc : c < 256) : bits .or .i64 (wrap64 (n * 256)) (c : Int) = wrap64 (n * 256 + (c : Int)) := by
  have h1 : (BitVec.ofInt 64 (wrap64 (n * 256))).toNat = ((n % 72057594037927936).toNat) * 256 := by
    rw [ofInt64_toNat]; unfold wrap64; omega
  have h2 : (BitVec.ofInt 64 (c : Int)).toNat = c := by rw [ofInt64_toNat]; omega
  show IntKind.i64.wrap ((BitVec.ofInt 64 (wrap64 (n * 256)) ||| BitVec.ofInt 64 (c : Int)).toNat : Int) = _
  rw [BitVec.toNat_or, h1, h2]
  have h3 : (n % 72057594037927936).toNat * 256 ||| c = (n % 72057594037927936).toNat * 256 + c := by
    have := Nat.two_pow_add_eq_or_of_lt (i := 8) (b := c) (by omega) ((n % 72057594037927936).toNat)
    rw [Nat.mul_comm] at this
    exact this.symm
  rw [h3]
  unfold IntKind.wrap wrap64
  simp [IntKind.signed, IntKind.bits]
  omega
theorem takeT_size (s : ByteArray) (bad : Bool) (n : Nat) : (takeT s bad n).size ≤ s.size := by
  unfold takeT
  split
  · exact Nat.zero_le _
  · rw [ByteArray.size_extract]; omega
theorem cur_below {w w' : World} {g : Nat} {s : ByteArray} {bad : Bool} (h : Cur w g s bad) (hb : Below w.heap.size w w') : Cur w' g s bad := by
  obtain ⟨h1, h2, h3, h4⟩ := h
  have hg : g < w.heap.size := World.block_lt_of_cell? w _ h1
  exact ⟨(hb.cell (p := ⟨g, 0, none⟩) hg).trans h1, (hb.cell (p := ⟨g, 1, none⟩) hg).trans h2, (World.frozen?_of_block (a := ⟨g, 0, none⟩) (hb.block g hg)).trans h3, (World.frozen?_of_block (a := ⟨g, 1, none⟩) (hb.block g hg)).trans h4⟩
theorem below_grownBy {w w' : World} (hb : Below w.heap.size w w') (g : Nat) : w.grownBy w' (some g) := ⟨hb.os, hb.tape, hb.output, hb.size, fun k hk _ => hb.block k hk⟩
set_option maxHeartbeats 1000000 in
theorem number_any (g : Nat) (s : ByteArray) (bad : Bool) (n : Nat) (w : World) (h : Cur w g s bad) (hn : n < 4611686018427387904) (hs : s.size ≤ 4611686018427387904) :
    Calls Tryz.prog 107 #[.pointer (some ⟨g, 0, none⟩), .int .i64 n] w fun e w' => e = .returned (.int .i64 (valI (bs (takeT s bad n)))) ∧ Cur w' g (restT s bad n) (badT s bad n) ∧ w.grownBy w' (some g) := by
  have hconv := fun (w : World) (s : ByteArray) => run_bytes_of_string (P := Tryz.prog) w 9 147 5 s Tryz.underlying9 Tryz.underlying147 Tryz.underlying5
  have HT := Lib.hid (text_any g s bad n w h hn hs)
  have hz := takeT_size s bad n
  generalize takeT s bad n = t at *
  generalize restT s bad n = r at *
  generalize badT s bad n = b' at *
  clear h
  go_enter Tryz.func107, Tryz.ntmps107
  go_wp2_with (go_at_call 106; refine (HT.out).mono ?_; rintro e w1 ⟨rfl, hc1, hg1⟩; have HC1 := Lib.hid hc1; have HG1 := Lib.hid hg1; clear hc1 hg1 HT)
  have HC2 := Lib.hid (fun (j : Nat) (c : UInt8) (h : (bs t)[j]? = some c) => show ((w1.alloc (.cells (bytesRow t (grownCap w1 t.size 0 5)) 5 ((bytesRow t (grownCap w1 t.size 0 5)).size, (bytesRow t (grownCap w1 t.size 0 5)).size + 1))).drew).cell? ⟨w1.heap.size, j, none⟩ = some (.int .u8 (c.toNat : Int)) from row_cell w1 t _ _ _ j c h)
  have hB1 : Below w1.heap.size w1 ((w1.alloc (.cells (bytesRow t (grownCap w1 t.size 0 5)) 5 ((bytesRow t (grownCap w1 t.size 0 5)).size, (bytesRow t (grownCap w1 t.size 0 5)).size + 1))).drew) := (by repeat (first | exact bA .. | assumption | refine bB ?_ | refine bC ?_ _ | refine bD _ _ ?_ | refine bE _ ?_ | refine bG ?_ (by first | omega | (simp; done) | (simp; omega)) _ | refine Below.setCell ?_ (by first | omega | (simp; done) | (simp; omega)) _ | refine Below.grow _ _ _ ?_ (by first | omega | (simp; done) | (simp; omega))))
  have HCU := Lib.hid (cur_below HC1.out hB1)
  have HGR := Lib.hid (HG1.out.trans (below_grownBy hB1 g))
  clear HC1 HG1 hB1
  generalize ((w1.alloc (.cells (bytesRow t (grownCap w1 t.size 0 5)) 5 ((bytesRow t (grownCap w1 t.size 0 5)).size, (bytesRow t (grownCap w1 t.size 0 5)).size + 1))).drew) = W1 at *
  generalize grownCap w1 t.size 0 5 = cap at *
  go_loopw [5, 13] (fun v i wr => ∃ k : Nat, k ≤ t.size ∧ v = .int .i64 (valI ((bs t).take k)) ∧ i = .int .i64 k ∧ wr = W1) (fun _ i _ => t.size - (intOf i).toNat)
  case atStart => exact ⟨0, Nat.zero_le _, rfl, rfl, rfl⟩
  case round =>
    obtain ⟨k, hk, rfl, rfl, rfl⟩ := hrel
    have hlen := length_bs t
    by_cases hlt : k < t.size
    · have hx : (bs t)[k]? = some ((bs t)[k]'(by omega)) := List.getElem?_eq_getElem _
      have hc := HC2.out k _ hx
      have htk : (bs t).take (k + 1) = (bs t).take k ++ [(bs t)[k]'(by omega)] := by rw [List.take_add_one, hx]; rfl
      generalize (bs t)[k]'(by omega) = c at *
      have hc255 : c.toNat < 256 := c.toNat_lt
      have HV := Lib.hid (show valI ((bs t).take (k + 1)) = wrap64 (valI ((bs t).take k) * 256 + (c.toNat : Int)) by rw [htk, valI_snoc])
      generalize valI ((bs t).take k) = n0 at *
      clear htk hx
      go_wp2_with fail
      exact ⟨⟨k + 1, by omega, by rw [HV.out, bits_or8 n0 c.toNat hc255], by go_num, trivial⟩, by simp [intOf]; omega⟩
    · have hk' : k = t.size := by omega
      subst hk'
      rw [List.take_of_length_le (by omega)]
      go_wp2_with fail
      go_ret
      exact ⟨rfl, HCU.out, HGR.out⟩
end Go.Proofs.YtchgpijfebilbaaGreatDoor

/- wire.Decode as a function of bytes. -/
namespace Go.Proofs.YtchgpijfebilbaaGreatDoor
open Go.RowKit
abbrev txn0 : Txn := ⟨0, 0, 0, ⟨#[]⟩, ⟨#[]⟩, 0, 0⟩
def dB10 (n z o ss v ow : Int) (p d s : ByteArray) (b : Bool) : Txn × Int × Int :=
  bif b || !s.toList.isEmpty then (txn0, 0, 2) else bif goodT ⟨z, o, ss, p, d, v, ow⟩ != 0 then (txn0, 0, goodT ⟨z, o, ss, p, d, v, ow⟩) else (⟨z, o, ss, p, d, v, ow⟩, n + 7, 0)
def dB9 (n z o ss v ow : Int) (p : ByteArray) (dl : Nat) (s : ByteArray) (b : Bool) : Txn × Int × Int := dB10 n z o ss v ow p (takeT s b dl) (restT s b dl) (badT s b dl)
def dB8 (n z o ss v ow : Int) (p s : ByteArray) (b : Bool) : Txn × Int × Int := dB9 n z o ss v ow p (valI (bs (takeT s b 2))).toNat (restT s b 2) (badT s b 2)
def dB7 (n z o ss v ow : Int) (pl : Nat) (s : ByteArray) (b : Bool) : Txn × Int × Int := dB8 n z o ss v ow (takeT s b pl) (restT s b pl) (badT s b pl)
def dB6 (n z o ss v ow : Int) (s : ByteArray) (b : Bool) : Txn × Int × Int := dB7 n z o ss v ow (valI (bs (takeT s b 1))).toNat (restT s b 1) (badT s b 1)
def dB5 (n z o ss v : Int) (s : ByteArray) (b : Bool) : Txn × Int × Int := dB6 n z o ss v (valI (bs (takeT s b 4))) (restT s b 4) (badT s b 4)
def dB4 (n z o ss : Int) (s : ByteArray) (b : Bool) : Txn × Int × Int := dB5 n z o ss (valI (bs (takeT s b 4))) (restT s b 4) (badT s b 4)
def dB3 (n z o : Int) (s : ByteArray) (b : Bool) : Txn × Int × Int := dB4 n z o (valI (bs (takeT s b 4))) (restT s b 4) (badT s b 4)
def dB2 (n z : Int) (s : ByteArray) (b : Bool) : Txn × Int × Int := dB3 n z (valI (bs (takeT s b 1))) (restT s b 1) (badT s b 1)
def dB1 (n : Int) (s : ByteArray) (b : Bool) : Txn × Int × Int := dB2 n (valI (bs (takeT s b 8))) (restT s b 8) (badT s b 8)
def dec4 (s : ByteArray) (n : Nat) (B : ByteArray) (sum : Int) (b4 : Bool) : Txn × Int × Int :=
  bif b4 then (txn0, 0, 2) else bif ((sumN (bs (s.extract 0 (3 + n))) : Nat) : Int) != sum then (txn0, 0, 5) else dB1 n B false
def dec3 (s : ByteArray) (n : Nat) (B s3 : ByteArray) (b3 : Bool) : Txn × Int × Int := dec4 s n B (valI (bs (takeT s3 b3 4))) (badT s3 b3 4)
def dec2 (s : ByteArray) (n : Nat) (s2 : ByteArray) (b2 : Bool) : Txn × Int × Int :=
  bif b2 || decide (1024 < (n : Int)) then (txn0, 0, 2) else dec3 s n (takeT s2 b2 n) (restT s2 b2 n) (badT s2 b2 n)
def dec1 (s t1 s1 : ByteArray) (b1 : Bool) : Txn × Int × Int :=
  bif !(t1.toList == [84]) then (txn0, 0, 2) else dec2 s (valI (bs (takeT s1 b1 2))).toNat (restT s1 b1 2) (badT s1 b1 2)
def decR (s : ByteArray) : Txn × Int × Int := dec1 s (takeT s false 1) (restT s false 1) (badT s false 1)
theorem dec1_bad {s t1 s1 : ByteArray} {b1 : Bool} (h : (!(t1.toList == [84])) = true) : dec1 s t1 s1 b1 = (txn0, 0, 2) := by unfold dec1; rw [h]; rfl
theorem dec1_ok {s t1 s1 : ByteArray} {b1 : Bool} (h : (!(t1.toList == [84])) = false) {n : Nat} (hn : valI (bs (takeT s1 b1 2)) = (n : Int)) : dec1 s t1 s1 b1 = dec2 s n (restT s1 b1 2) (badT s1 b1 2) := by unfold dec1; rw [h, hn]; rfl
theorem dec2_bad {s s2 : ByteArray} {n : Nat} {b2 : Bool} (h : b2 = true) : dec2 s n s2 b2 = (txn0, 0, 2) := by unfold dec2; rw [h]; rfl
theorem dec2_big {s s2 : ByteArray} {n : Nat} {b2 : Bool} (h : 1024 < (n : Int)) : dec2 s n s2 b2 = (txn0, 0, 2) := by unfold dec2; rw [decide_eq_true h, Bool.or_true]; rfl
theorem dec2_ok {s s2 : ByteArray} {n : Nat} {b2 : Bool} (h : ¬ b2 = true) (h' : (n : Int) ≤ 1024) : dec2 s n s2 b2 = dec3 s n (takeT s2 b2 n) (restT s2 b2 n) (badT s2 b2 n) := by
  unfold dec2; rw [Bool.eq_false_iff.2 h, decide_eq_false (by omega)]; rfl
theorem dec4_bad {s B : ByteArray} {n : Nat} {sum : Int} {b4 : Bool} (h : b4 = true) : dec4 s n B sum b4 = (txn0, 0, 2) := by unfold dec4; rw [h]; rfl
theorem dec4_sum {s B : ByteArray} {n : Nat} {sum : Int} {b4 : Bool} (h : b4 = false) (h' : (((sumN (bs (s.extract 0 (3 + n))) : Nat) : Int) != sum) = true) : dec4 s n B sum b4 = (txn0, 0, 5) := by unfold dec4; rw [h, h']; rfl
theorem dec4_ok {s B : ByteArray} {n : Nat} {sum : Int} {b4 : Bool} (h : b4 = false) (h' : (((sumN (bs (s.extract 0 (3 + n))) : Nat) : Int) != sum) = false) : dec4 s n B sum b4 = dB1 n B false := by unfold dec4; rw [h, h']; rfl
theorem dB10_bad {n z o ss v ow : Int} {p d s : ByteArray} {b : Bool} (h : b = true) : dB10 n z o ss v ow p d s b = (txn0, 0, 2) := by unfold dB10; rw [h]; rfl
theorem dB10_more {n z o ss v ow : Int} {p d s : ByteArray} {b : Bool} (h : (!s.toList.isEmpty) = true) : dB10 n z o ss v ow p d s b = (txn0, 0, 2) := by unfold dB10; rw [h, Bool.or_true]; rfl
theorem dB10_not {n z o ss v ow : Int} {p d s : ByteArray} {b : Bool} (h : ¬ b = true) (h' : (!s.toList.isEmpty) = false) (hg : (goodT ⟨z, o, ss, p, d, v, ow⟩ != 0) = true) : dB10 n z o ss v ow p d s b = (txn0, 0, goodT ⟨z, o, ss, p, d, v, ow⟩) := by unfold dB10; rw [Bool.eq_false_iff.2 h, h', hg]; rfl
theorem dB10_ok {n z o ss v ow : Int} {p d s : ByteArray} {b : Bool} (h : ¬ b = true) (h' : (!s.toList.isEmpty) = false) (hg : (goodT ⟨z, o, ss, p, d, v, ow⟩ != 0) = false) : dB10 n z o ss v ow p d s b = (⟨z, o, ss, p, d, v, ow⟩, n + 7, 0) := by unfold dB10; rw [Bool.eq_false_iff.2 h, h', hg]; rfl
def valN (l : List UInt8) : Nat := l.foldl (fun v c => v * 256 + c.toNat) 0
theorem valN_snoc (l : List UInt8) (c : UInt8) : valN (l ++ [c]) = valN l * 256 + c.toNat := by unfold valN; rw [List.foldl_append]; rfl
theorem list_snoc_rec {P : List UInt8 → Prop} (h0 : P []) (h1 : ∀ l c, P l → P (l ++ [c])) (l : List UInt8) : P l := by
  rw [← List.reverse_reverse l]
  induction l.reverse with
  | nil => exact h0
  | cons c r ih => rw [List.reverse_cons]; exact h1 _ _ ih
theorem valN_lt (l : List UInt8) : valN l < 256 ^ l.length := by
  refine list_snoc_rec (P := fun l => valN l < 256 ^ l.length) ?_ ?_ l
  · exact Nat.one_pos
  · intro l c h
    have := c.toNat_lt
    rw [valN_snoc, List.length_append, List.length_singleton, Nat.pow_succ]
    omega
theorem valI_nat (l : List UInt8) (h : l.length ≤ 7) : valI l = (valN l : Int) := by
  revert h
  refine list_snoc_rec (P := fun l => l.length ≤ 7 → valI l = (valN l : Int)) ?_ ?_ l
  · intro _; rfl
  · intro l c ih h
    rw [List.length_append, List.length_singleton] at h
    have hl : valN (l ++ [c]) < 256 ^ 7 := Nat.lt_of_lt_of_le (valN_lt _) (Nat.pow_le_pow_right (by decide) (by rw [List.length_append, List.length_singleton]; exact h))
    rw [valI_snoc, ih (by omega), valN_snoc]
    rw [valN_snoc] at hl
    unfold wrap64
    omega
theorem takeT_len (s : ByteArray) (b : Bool) (n : Nat) : (bs (takeT s b n)).length ≤ n := by
  unfold takeT
  split
  · exact Nat.zero_le _
  · rw [length_bs, ByteArray.size_extract]; omega
theorem valT (s : ByteArray) (b : Bool) (n : Nat) (hn : n ≤ 7) : ∃ k : Nat, valI (bs (takeT s b n)) = (k : Int) ∧ k < 256 ^ n :=
  ⟨valN _, valI_nat _ (Nat.le_trans (takeT_len s b n) hn), Nat.lt_of_lt_of_le (valN_lt _) (Nat.pow_le_pow_right (by decide) (takeT_len s b n))⟩
theorem restT_size (s : ByteArray) (b : Bool) (n : Nat) : (restT s b n).size ≤ s.size := by
  unfold restT
  split
  · exact Nat.le_refl _
  · rw [ByteArray.size_extract]; omega
theorem bs_extractTD (s : ByteArray) (i j : Nat) : bs (s.extract i j) = ((bs s).take j).drop i := by
  unfold bs
  simp [ByteArray.data_extract, List.drop_take]
theorem tk_ok {s : ByteArray} {b : Bool} {n : Nat} (h : badT s b n = false) : b = false ∧ bs (takeT s b n) = (bs s).take n ∧ bs (restT s b n) = (bs s).drop n ∧ n ≤ s.size := by
  have hb := h
  unfold badT at h
  rw [Bool.or_eq_false_iff] at h
  obtain ⟨h1, h2⟩ := h
  have h3 : n ≤ s.size := by have := of_decide_eq_false h2; omega
  refine ⟨h1, ?_, ?_, h3⟩
  · unfold takeT
    rw [hb]
    simp only [Bool.false_eq_true, if_false]
    rw [bs_extractTD, List.drop_zero]
  · unfold restT
    rw [hb]
    simp only [Bool.false_eq_true, if_false]
    rw [bs_extractTD, List.take_of_length_le (by rw [length_bs]; exact Nat.le_refl _)]
end Go.Proofs.YtchgpijfebilbaaGreatDoor

/- The plain law of wire's records: what is written is read, and what is read was written so. -/
namespace Go.Proofs.YtchgpijfebilbaaGreatDoor
open Go.RowKit
abbrev bS (l : List UInt8) : ByteArray := ⟨l.toArray⟩
theorem bs_bS (l : List UInt8) : bs (bS l) = l := rfl
theorem bS_bs (s : ByteArray) : bS (bs s) = s := by
  apply ByteArray.ext
  simp [bs]
theorem bS_add (l : List UInt8) (m : ByteArray) : bS l ++ m = bS (l ++ bs m) := by
  apply ByteArray.ext
  simp [bs]
theorem bS_size (l : List UInt8) : (bS l).size = l.length := by show l.toArray.size = _; simp
theorem valN_cons (c : UInt8) (l : List UInt8) : valN (c :: l) = c.toNat * 256 ^ l.length + valN l := by
  refine list_snoc_rec (P := fun l => valN (c :: l) = c.toNat * 256 ^ l.length + valN l) ?_ ?_ l
  · show 0 * 256 + c.toNat = c.toNat * 1 + 0
    omega
  · intro l d ih
    rw [← List.cons_append, valN_snoc, ih, valN_snoc, List.length_append, List.length_singleton, Nat.pow_succ, Nat.add_mul, ← Nat.mul_assoc]
    omega
theorem valN_be : ∀ (n x : Nat), valN (be n x) = x % 256 ^ n
  | 0, x => by rw [Nat.pow_zero, Nat.mod_one]; rfl
  | n + 1, x => by
    have h : be (n + 1) x = UInt8.ofNat (x / 256 ^ n) :: be n x := rfl
    rw [h, valN_cons, valN_be n x, be_length, Nat.mod_pow_succ, Nat.mul_comm, Nat.add_comm]
    congr 2
theorem be_add : ∀ (n a v : Nat), be n (a * 256 ^ n + v) = be n v
  | 0, _, _ => rfl
  | n + 1, a, v => by
    have e : a * 256 ^ (n + 1) + v = (a * 256) * 256 ^ n + v := by rw [Nat.pow_succ, Nat.mul_comm (256 ^ n), Nat.mul_assoc]
    rw [e]
    show UInt8.ofNat (((a * 256) * 256 ^ n + v) / 256 ^ n) :: be n ((a * 256) * 256 ^ n + v) = UInt8.ofNat (v / 256 ^ n) :: be n v
    rw [be_add n (a * 256) v, Nat.add_comm, Nat.add_mul_div_right _ _ (Nat.pow_pos (by decide))]
    congr 1
    apply UInt8.toNat_inj.1
    simp
theorem be_valN : ∀ (l : List UInt8), be l.length (valN l) = l
  | [] => rfl
  | c :: l => by
    have h : valN (c :: l) = c.toNat * 256 ^ l.length + valN l := valN_cons c l
    have hl := valN_lt l
    rw [h]
    show UInt8.ofNat ((c.toNat * 256 ^ l.length + valN l) / 256 ^ l.length) :: be l.length (c.toNat * 256 ^ l.length + valN l) = _
    rw [be_add, be_valN l, Nat.add_comm, Nat.add_mul_div_right _ _ (Nat.pow_pos (by decide)), Nat.div_eq_of_lt hl]
    congr 1
    apply UInt8.toNat_inj.1
    simp
theorem valI_wrap (l : List UInt8) : valI l = wrap64 (valN l : Int) := by
  refine list_snoc_rec (P := fun l => valI l = wrap64 (valN l : Int)) ?_ ?_ l
  · show (0 : Int) = wrap64 0
    unfold wrap64
    omega
  · intro l c ih
    rw [valI_snoc, ih, valN_snoc]
    unfold wrap64
    omega
theorem be_one (x : Nat) : be 1 x = [UInt8.ofNat x] := by
  show [UInt8.ofNat (x / 256 ^ 0)] = _
  rw [Nat.pow_zero, Nat.div_one]
theorem eat {x y : List UInt8} {n : Nat} (h : x.length = n) : badT (bS (x ++ y)) false n = false ∧ takeT (bS (x ++ y)) false n = bS x ∧ restT (bS (x ++ y)) false n = bS y := by
  have hb : badT (bS (x ++ y)) false n = false := by
    unfold badT
    rw [Bool.false_or, bS_size, List.length_append]
    exact decide_eq_false (by omega)
  obtain ⟨_, h2, h3, _⟩ := tk_ok hb
  refine ⟨hb, bs_inj ?_, bs_inj ?_⟩
  · rw [h2, bs_bS, bs_bS, ← h, List.take_left]
  · rw [h3, bs_bS, bs_bS, ← h, List.drop_left]
theorem dec_shape (B C more : List UInt8) (n : Nat) (hn : n ≤ 1024) (hB : B.length = n) (hC : C.length = 4) :
    decR (bS ([84] ++ (be 2 n ++ (B ++ (C ++ more))))) = bif ((sumN ([84] ++ be 2 n ++ B) : Nat) : Int) != (valN C : Int) then (txn0, 0, 5) else dB1 n (bS B) false := by
  have e1 := eat (x := [84]) (y := be 2 n ++ (B ++ (C ++ more))) (n := 1) rfl
  have e2 := eat (x := be 2 n) (y := B ++ (C ++ more)) (n := 2) (be_length _ _)
  have e3 := eat (x := B) (y := C ++ more) (n := n) hB
  have e4 := eat (x := C) (y := more) (n := 4) hC
  have hv : valI (bs (bS (be 2 n))) = (n : Int) := by
    rw [bs_bS, valI_nat _ (by rw [be_length]; decide), valN_be, Nat.mod_eq_of_lt (by omega)]
  have hx : bs ((bS ([84] ++ (be 2 n ++ (B ++ (C ++ more))))).extract 0 (3 + n)) = [84] ++ be 2 n ++ B := by
    rw [bs_extractTD, List.drop_zero, bs_bS]
    have : [84] ++ (be 2 n ++ (B ++ (C ++ more))) = ([84] ++ be 2 n ++ B) ++ (C ++ more) := by simp only [List.append_assoc]
    rw [this, List.take_left' (by simp [be_length]; omega)]
  unfold decR
  rw [e1.1, e1.2.1, e1.2.2]
  have h0 : (!((bS [84]).toList == [84])) = false := by rw [ByteArray.toList_eq]; rfl
  rw [dec1_ok h0 (n := n) (by rw [e2.2.1]; exact hv), e2.1, e2.2.2, dec2_ok (by decide) (by omega), e3.1, e3.2.1, e3.2.2]
  unfold dec3
  rw [e4.1, e4.2.1, bs_bS, valI_nat _ (by omega)]
  unfold dec4
  rw [hx]
  rfl
theorem dB1_eval (n : Int) (z o s v ow : Nat) (p d : List UInt8) (hz : z < 4611686018427387904) (ho : o < 256) (hs : s < 4294967296) (hv : v < 4294967296) (how : ow < 4294967296) (hp : p.length < 256) (hd : d.length < 65536) :
    dB1 n (bS (bodyL z o s v ow p d)) false = dB10 n z o s v ow (bS p) (bS d) (bS []) false := by
  have hb : bodyL z o s v ow p d = be 8 z ++ (be 1 o ++ (be 4 s ++ (be 4 v ++ (be 4 ow ++ (be 1 p.length ++ (p ++ (be 2 d.length ++ (d ++ [])))))))) := by
    unfold bodyL
    simp only [List.append_assoc, be_one, List.append_nil]
  have f8 : valI (bs (bS (be 8 z))) = (z : Int) := by
    rw [bs_bS, valI_wrap, valN_be, Nat.mod_eq_of_lt (by omega)]
    unfold wrap64
    omega
  have fk : ∀ (k x : Nat), k ≤ 7 → x < 256 ^ k → valI (bs (bS (be k x))) = (x : Int) := by
    intro k x hk hx
    rw [bs_bS, valI_nat _ (by rw [be_length]; exact hk), valN_be, Nat.mod_eq_of_lt hx]
  rw [hb]
  unfold dB1
  have e := eat (x := be 8 z) (y := be 1 o ++ (be 4 s ++ (be 4 v ++ (be 4 ow ++ (be 1 p.length ++ (p ++ (be 2 d.length ++ (d ++ [])))))))) (n := 8) (be_length _ _)
  rw [e.1, e.2.1, e.2.2, f8]
  unfold dB2
  have e := eat (x := be 1 o) (y := be 4 s ++ (be 4 v ++ (be 4 ow ++ (be 1 p.length ++ (p ++ (be 2 d.length ++ (d ++ []))))))) (n := 1) (be_length _ _)
  rw [e.1, e.2.1, e.2.2, fk 1 o (by decide) (by omega)]
  unfold dB3
  have e := eat (x := be 4 s) (y := be 4 v ++ (be 4 ow ++ (be 1 p.length ++ (p ++ (be 2 d.length ++ (d ++ [])))))) (n := 4) (be_length _ _)
  rw [e.1, e.2.1, e.2.2, fk 4 s (by decide) (by omega)]
  unfold dB4
  have e := eat (x := be 4 v) (y := be 4 ow ++ (be 1 p.length ++ (p ++ (be 2 d.length ++ (d ++ []))))) (n := 4) (be_length _ _)
  rw [e.1, e.2.1, e.2.2, fk 4 v (by decide) (by omega)]
  unfold dB5
  have e := eat (x := be 4 ow) (y := be 1 p.length ++ (p ++ (be 2 d.length ++ (d ++ [])))) (n := 4) (be_length _ _)
  rw [e.1, e.2.1, e.2.2, fk 4 ow (by decide) (by omega)]
  unfold dB6
  have e := eat (x := be 1 p.length) (y := p ++ (be 2 d.length ++ (d ++ []))) (n := 1) (be_length _ _)
  rw [e.1, e.2.1, e.2.2, fk 1 p.length (by decide) (by omega), Int.toNat_natCast]
  unfold dB7
  have e := eat (x := p) (y := be 2 d.length ++ (d ++ [])) (n := p.length) rfl
  rw [e.1, e.2.1, e.2.2]
  unfold dB8
  have e := eat (x := be 2 d.length) (y := d ++ []) (n := 2) (be_length _ _)
  rw [e.1, e.2.1, e.2.2, fk 2 d.length (by decide) (by omega), Int.toNat_natCast]
  unfold dB9
  have e := eat (x := d) (y := []) (n := d.length) rfl
  rw [e.1, e.2.1, e.2.2]
end Go.Proofs.YtchgpijfebilbaaGreatDoor

/- The plain laws of wire's records, together. -/
namespace Go.Proofs.YtchgpijfebilbaaGreatDoor
open Go.RowKit
theorem recT_length (t : Txn) : (recT t).length = (bodyL t.zxid.toNat t.op.toNat t.session.toNat t.version.toNat t.owner.toNat (bs t.path) (bs t.data)).length + 7 := by
  unfold recT recL headL
  simp [be_length]
  omega
theorem body_small (t : Txn) (h : goodT t = 0) : (bodyL t.zxid.toNat t.op.toNat t.session.toNat t.version.toNat t.owner.toNat (bs t.path) (bs t.data)).length ≤ 1024 := by
  have f := goodT_facts t h
  have := f.d1
  have := f.p1
  rw [bodyL_length, length_bs, length_bs]
  omega
theorem body_eval (t : Txn) (h : goodT t = 0) (n : Int) : dB1 n (bS (bodyL t.zxid.toNat t.op.toNat t.session.toNat t.version.toNat t.owner.toNat (bs t.path) (bs t.data))) false = (t, n + 7, 0) := by
  have f := goodT_facts t h
  have f1 := f.d1
  have f2 := f.p1
  have f3 := f.z0
  have f4 := f.z1
  have f5 := f.o0
  have f6 := f.o1
  have f7 := f.s0
  have f8 := f.s1
  have f9 := f.v0
  have f10 := f.v1
  have f11 := f.w0
  have f12 := f.w1
  rw [dB1_eval n _ _ _ _ _ _ _ (by omega) (by omega) (by omega) (by omega) (by omega) (by rw [length_bs]; omega) (by rw [length_bs]; omega)]
  rw [Int.toNat_of_nonneg f3, Int.toNat_of_nonneg (show 0 ≤ t.op by omega), Int.toNat_of_nonneg (show 0 ≤ t.session by omega), Int.toNat_of_nonneg f9, Int.toNat_of_nonneg f11, bS_bs, bS_bs]
  exact dB10_ok (by decide) (by rw [ByteArray.toList_eq]; rfl) (by show (goodT t != 0) = false; rw [h]; rfl)
theorem dec_back (t : Txn) (h : goodT t = 0) (more : List UInt8) : decR (bS (recT t ++ more)) = (t, ((recT t).length : Int), 0) := by
  have hB := body_small t h
  have hl := recT_length t
  have he := fun n => body_eval t h n
  rw [hl]
  unfold recT
  generalize bodyL t.zxid.toNat t.op.toNat t.session.toNat t.version.toNat t.owner.toNat (bs t.path) (bs t.data) = B at *
  have e : recL B ++ more = [84] ++ (be 2 B.length ++ (B ++ (be 4 (sumN (headL B)) ++ more))) := by
    unfold recL headL
    simp only [List.append_assoc]
  rw [e, dec_shape B _ more B.length hB rfl (be_length _ _), valN_be, Nat.mod_eq_of_lt (show sumN (headL B) < 256 ^ 4 from sumN_lt _)]
  have e2 : (((sumN ([84] ++ be 2 B.length ++ B) : Nat) : Int) != ((sumN (headL B) : Nat) : Int)) = false := by unfold headL; simp
  rw [e2, he]
  simp
end Go.Proofs.YtchgpijfebilbaaGreatDoor

/- The plain laws of wire's records: a byte that is changed, and what is read at all. -/
namespace Go.Proofs.YtchgpijfebilbaaGreatDoor
open Go.RowKit
theorem tk_two {s : ByteArray} {b : Bool} {n : Nat} (h : badT s b n = false) : b = false ∧ bs s = bs (takeT s b n) ++ bs (restT s b n) ∧ (bs (takeT s b n)).length = n := by
  obtain ⟨h1, h2, h3, h4⟩ := tk_ok h
  refine ⟨h1, ?_, ?_⟩
  · rw [h2, h3, List.take_append_drop]
  · rw [h2, List.length_take, length_bs]
    omega
theorem val7 {l : List UInt8} {n : Nat} (h : l.length = n) (hn : n ≤ 7) : be n (valI l).toNat = l := by
  rw [valI_nat l (by omega), Int.toNat_natCast, ← h, be_valN]
theorem val8 {l : List UInt8} (h : l.length = 8) (h0 : 0 ≤ valI l) : be 8 (valI l).toNat = l := by
  have hl := valN_lt l
  rw [h] at hl
  have e : (valI l).toNat = valN l := by
    rw [valI_wrap] at *
    unfold wrap64 at *
    omega
  rw [e, ← h, be_valN]
theorem dB1_inv (n : Int) (B : ByteArray) : (∃ t, goodT t = 0 ∧ bs B = bodyL t.zxid.toNat t.op.toNat t.session.toNat t.version.toNat t.owner.toNat (bs t.path) (bs t.data) ∧ dB1 n B false = (t, n + 7, 0)) ∨ ∃ e, e ≠ 0 ∧ dB1 n B false = (txn0, 0, e) := by
  unfold dB1 dB2 dB3 dB4 dB5 dB6 dB7 dB8 dB9
  generalize hu1 : restT B false 8 = u1
  generalize hc1 : badT B false 8 = c1
  generalize hu2 : restT u1 c1 1 = u2
  generalize hc2 : badT u1 c1 1 = c2
  generalize hu3 : restT u2 c2 4 = u3
  generalize hc3 : badT u2 c2 4 = c3
  generalize hu4 : restT u3 c3 4 = u4
  generalize hc4 : badT u3 c3 4 = c4
  generalize hu5 : restT u4 c4 4 = u5
  generalize hc5 : badT u4 c4 4 = c5
  generalize hu6 : restT u5 c5 1 = u6
  generalize hc6 : badT u5 c5 1 = c6
  generalize hpl : (valI (bs (takeT u5 c5 1))).toNat = pl
  generalize hu7 : restT u6 c6 pl = u7
  generalize hc7 : badT u6 c6 pl = c7
  generalize hu8 : restT u7 c7 2 = u8
  generalize hc8 : badT u7 c7 2 = c8
  generalize hdl : (valI (bs (takeT u7 c7 2))).toNat = dl
  generalize hu9 : restT u8 c8 dl = u9
  generalize hc9 : badT u8 c8 dl = c9
  cases hb : c9 with
  | true => exact .inr ⟨2, by decide, dB10_bad rfl⟩
  | false =>
    cases hm : !u9.toList.isEmpty with
    | true => exact .inr ⟨2, by decide, dB10_more hm⟩
    | false =>
      cases hg : goodT ⟨valI (bs (takeT B false 8)), valI (bs (takeT u1 c1 1)), valI (bs (takeT u2 c2 4)), takeT u6 c6 pl, takeT u8 c8 dl, valI (bs (takeT u3 c3 4)), valI (bs (takeT u4 c4 4))⟩ != 0 with
      | true => exact .inr ⟨_, bne_iff_ne.1 hg, dB10_not (by decide) hm hg⟩
      | false =>
        have hg0 : goodT ⟨valI (bs (takeT B false 8)), valI (bs (takeT u1 c1 1)), valI (bs (takeT u2 c2 4)), takeT u6 c6 pl, takeT u8 c8 dl, valI (bs (takeT u3 c3 4)), valI (bs (takeT u4 c4 4))⟩ = 0 := by simpa using hg
        refine .inl ⟨_, hg0, ?_, dB10_ok (by decide) hm hg⟩
        have f := goodT_facts _ hg0
        have f0 := f.z0
        dsimp only at f0 ⊢
        have k9 := tk_two (hc9.trans hb)
        have k8 := tk_two (hc8.trans k9.1)
        have k7 := tk_two (hc7.trans k8.1)
        have k6 := tk_two (hc6.trans k7.1)
        have k5 := tk_two (hc5.trans k6.1)
        have k4 := tk_two (hc4.trans k5.1)
        have k3 := tk_two (hc3.trans k4.1)
        have k2 := tk_two (hc2.trans k3.1)
        have k1 := tk_two (hc1.trans k2.1)
        have h9 : bs u9 = [] := by
          rw [ByteArray.toList_eq] at hm
          unfold bs
          simpa using hm
        have v1 := val8 k1.2.2 f0
        have v2 := val7 k2.2.2 (by decide)
        have v3 := val7 k3.2.2 (by decide)
        have v4 := val7 k4.2.2 (by decide)
        have v5 := val7 k5.2.2 (by decide)
        have v6 := val7 k6.2.2 (by decide)
        have v8 := val7 k8.2.2 (by decide)
        rw [hpl] at v6
        rw [hdl] at v8
        rw [k1.2.1, hu1, k2.2.1, hu2, k3.2.1, hu3, k4.2.1, hu4, k5.2.1, hu5, k6.2.1, hu6, k7.2.1, hu7, k8.2.1, hu8, k9.2.1, hu9, h9]
        unfold bodyL
        rw [v1, ← be_one, v2, v3, v4, v5, k7.2.2, ← be_one, v6, k9.2.2, v8]
        simp only [List.append_assoc, List.append_nil]
theorem dec_inv (s : ByteArray) : (∃ t rest, goodT t = 0 ∧ bs s = recT t ++ rest ∧ decR s = (t, ((recT t).length : Int), 0)) ∨ ∃ e, e ≠ 0 ∧ decR s = (txn0, 0, e) := by
  unfold decR
  generalize hu1 : restT s false 1 = s1
  generalize hc1 : badT s false 1 = b1
  cases h1 : !((takeT s false 1).toList == [84]) with
  | true => exact .inr ⟨2, by decide, dec1_bad h1⟩
  | false =>
    obtain ⟨n, hn, _⟩ := valT s1 b1 2 (by decide)
    rw [dec1_ok h1 hn]
    generalize hu2 : restT s1 b1 2 = s2
    generalize hc2 : badT s1 b1 2 = b2
    cases hb2 : b2 with
    | true => exact .inr ⟨2, by decide, dec2_bad rfl⟩
    | false =>
      by_cases hbig : 1024 < (n : Int)
      · exact .inr ⟨2, by decide, dec2_big hbig⟩
      · rw [dec2_ok (by decide) (by omega)]
        unfold dec3
        rw [← hb2]
        generalize hu3 : restT s2 b2 n = s3
        generalize hc3 : badT s2 b2 n = b3
        generalize hc4 : badT s3 b3 4 = b4
        cases hb4 : b4 with
        | true => exact .inr ⟨2, by decide, dec4_bad rfl⟩
        | false =>
          cases hs : ((sumN (bs (s.extract 0 (3 + n))) : Nat) : Int) != valI (bs (takeT s3 b3 4)) with
          | true => exact .inr ⟨5, by decide, dec4_sum rfl hs⟩
          | false =>
            rw [dec4_ok rfl hs]
            rcases dB1_inv n (takeT s2 b2 n) with ⟨t, hg, hB, hd⟩ | h
            · have k4 := tk_two (hc4.trans hb4)
              have k3 := tk_two (hc3.trans k4.1)
              have k2 := tk_two (hc2.trans hb2)
              have k1 := tk_two (hc1.trans k2.1)
              have ht : bs (takeT s false 1) = [84] := by
                rw [ByteArray.toList_eq] at h1
                unfold bs
                simpa using h1
              have hn2 := val7 k2.2.2 (by decide)
              rw [hn, Int.toNat_natCast] at hn2
              have hv4 := val7 k4.2.2 (by decide)
              have es : bs s = [84] ++ (be 2 n ++ (bs (takeT s2 b2 n) ++ (bs (takeT s3 b3 4) ++ bs (restT s3 b3 4)))) := by
                rw [k1.2.1, hu1, ht, k2.2.1, hu2, ← hn2, k3.2.1, hu3, k4.2.1]
              have hlen := k3.2.2
              generalize bs (takeT s2 b2 n) = B at *
              have hx : bs (s.extract 0 (3 + n)) = [84] ++ be 2 n ++ B := by
                rw [bs_extractTD, List.drop_zero, es]
                have : [84] ++ (be 2 n ++ (B ++ (bs (takeT s3 b3 4) ++ bs (restT s3 b3 4)))) = ([84] ++ be 2 n ++ B) ++ (bs (takeT s3 b3 4) ++ bs (restT s3 b3 4)) := by simp only [List.append_assoc]
                rw [this, List.take_left' (by simp [be_length]; omega)]
              rw [hx] at hs
              have hs2 : ((sumN ([84] ++ be 2 n ++ B) : Nat) : Int) = valI (bs (takeT s3 b3 4)) := by simpa using hs
              rw [← hs2, Int.toNat_natCast] at hv4
              have er : recT t = [84] ++ (be 2 n ++ (B ++ bs (takeT s3 b3 4))) := by
                unfold recT recL headL
                rw [← hB, hlen, hv4]
                simp only [List.append_assoc]
              refine .inl ⟨t, bs (restT s3 b3 4), hg, ?_, ?_⟩
              · rw [es, er]
                simp only [List.append_assoc]
              · rw [hd, er]
                simp [be_length, hlen, k4.2.2]
                omega
            · exact .inr h
end Go.Proofs.YtchgpijfebilbaaGreatDoor

/- The number of a log's last transaction. -/
namespace Go.Proofs.YtchgpijfebilbaaGreatDoor
def lastZ (l : List Txn) : Int := match l.getLast? with | some t => t.zxid | none => 0
theorem lastZ_nil : lastZ [] = 0 := rfl
theorem lastZ_at {l : List Txn} {m : Nat} {t : Txn} (hm : l.length = m + 1) (ht : l[m]? = some t) : lastZ l = t.zxid := by
  unfold lastZ
  rw [List.getLast?_eq_getElem?, hm, Nat.add_sub_cancel, ht]
end Go.Proofs.YtchgpijfebilbaaGreatDoor

/- A log's bytes: the plain law of scanning. -/
namespace Go.Proofs.YtchgpijfebilbaaGreatDoor
open Go.RowKit
def LogOk (l : List Txn) : Prop := (∀ t ∈ l, goodT t = 0) ∧ l.Pairwise (fun a b => a.zxid < b.zxid)
def recs (l : List Txn) : List UInt8 := l.flatMap recT
theorem recs_cons (t : Txn) (l : List Txn) : recs (t :: l) = recT t ++ recs l := rfl
theorem recs_app (l m : List Txn) : recs (l ++ m) = recs l ++ recs m := by unfold recs; rw [List.flatMap_append]
theorem recs_one (t : Txn) : recs [t] = recT t := by unfold recs; simp
theorem recT_prefix {a b : Txn} (ha : goodT a = 0) (hb : goodT b = 0) {x y : List UInt8} (h : recT a ++ x = recT b ++ y) : a = b ∧ x = y := by
  have h1 := dec_back a ha x
  rw [h, dec_back b hb y] at h1
  have e : b = a := congrArg Prod.fst h1
  subst e
  exact ⟨rfl, List.append_cancel_left h⟩
theorem recT_pos (t : Txn) : 7 ≤ (recT t).length := by rw [recT_length]; omega
theorem lastZ_mem {l : List Txn} (h : l ≠ []) : ∃ t ∈ l, lastZ l = t.zxid := by
  refine ⟨l.getLast h, List.getLast_mem h, ?_⟩
  unfold lastZ
  rw [List.getLast?_eq_some_getLast h]
theorem lastZ_two (a b : Txn) (r : List Txn) : lastZ (a :: b :: r) = lastZ (b :: r) := by unfold lastZ; rw [List.getLast?_cons_cons]
theorem logOk_snoc {l : List Txn} {t : Txn} (h : LogOk l) (ht : goodT t = 0) (hz : l = [] ∨ lastZ l < t.zxid) : LogOk (l ++ [t]) := by
  refine ⟨fun x hx => ?_, ?_⟩
  · rcases List.mem_append.1 hx with hx | hx
    · exact h.1 x hx
    · rw [List.mem_singleton.1 hx]; exact ht
  · rw [List.pairwise_append]
    refine ⟨h.2, List.pairwise_singleton _ _, fun a ha b hb => ?_⟩
    rw [List.mem_singleton.1 hb]
    rcases hz with rfl | hz
    · cases ha
    · refine Int.lt_of_le_of_lt ?_ hz
      have key : ∀ (l : List Txn), l.Pairwise (fun a b => a.zxid < b.zxid) → ∀ a ∈ l, a.zxid ≤ lastZ l := by
        intro l
        induction l with
        | nil => intro _ a ha; cases ha
        | cons x r ih =>
          intro hp a ha
          cases r with
          | nil => rw [List.mem_singleton.1 ha]; exact Int.le_refl _
          | cons y r =>
            have hp2 := List.pairwise_cons.1 hp
            rcases List.mem_cons.1 ha with rfl | ha
            · obtain ⟨t, ht, e⟩ := lastZ_mem (l := y :: r) (by simp)
              rw [lastZ_two, e]
              exact Int.le_of_lt (hp2.1 t ht)
            · rw [lastZ_two]; exact ih hp2.2 a ha
      exact key l h.2 a ha
def NoNext (l : List Txn) (s : List UInt8) : Prop := ∀ t rest, goodT t = 0 → s = recT t ++ rest → l ≠ [] ∧ t.zxid ≤ lastZ l
def ScanIs (s : List UInt8) (l : List Txn) (n : Nat) : Prop := LogOk l ∧ n = (recs l).length ∧ ∃ rest, s = recs l ++ rest ∧ NoNext l rest
theorem scan_uniq_aux : ∀ (l m p : List Txn) (x y : List UInt8), LogOk (p ++ l) → LogOk (p ++ m) → recs l ++ x = recs m ++ y → NoNext (p ++ l) x → NoNext (p ++ m) y → l = m
  | [], [], _, _, _, _, _, _, _, _ => rfl
  | [], b :: m, p, x, y, hl, hm, h, hx, _ => by
    exfalso
    rw [List.append_nil] at hx
    have hb : goodT b = 0 := hm.1 b (by simp)
    rw [recs_cons, List.append_assoc] at h
    obtain ⟨h1, h2⟩ := hx b _ hb h
    obtain ⟨t, ht, e⟩ := lastZ_mem h1
    have h3 := (List.pairwise_append.1 hm.2).2.2 t ht b (by simp)
    omega
  | a :: l, [], p, x, y, hl, hm, h, _, hy => by
    exfalso
    rw [List.append_nil] at hy
    have hb : goodT a = 0 := hl.1 a (by simp)
    rw [recs_cons, List.append_assoc] at h
    obtain ⟨h1, h2⟩ := hy a _ hb h.symm
    obtain ⟨t, ht, e⟩ := lastZ_mem h1
    have h3 := (List.pairwise_append.1 hl.2).2.2 t ht a (by simp)
    omega
  | a :: l, b :: m, p, x, y, hl, hm, h, hx, hy => by
    rw [recs_cons, recs_cons, List.append_assoc, List.append_assoc] at h
    obtain ⟨rfl, h2⟩ := recT_prefix (hl.1 a (by simp)) (hm.1 b (by simp)) h
    have e : ∀ q : List Txn, p ++ a :: q = (p ++ [a]) ++ q := fun q => by simp
    rw [e] at hl hm hx hy
    rw [scan_uniq_aux l m (p ++ [a]) x y hl hm h2 hx hy]
theorem scan_uniq {s : List UInt8} {l m : List Txn} {n k : Nat} (h1 : ScanIs s l n) (h2 : ScanIs s m k) : l = m ∧ n = k := by
  obtain ⟨a1, a2, x, a3, a4⟩ := h1
  obtain ⟨b1, b2, y, b3, b4⟩ := h2
  have e := scan_uniq_aux l m [] x y a1 b1 (a3.symm.trans b3) a4 b4
  exact ⟨e, by rw [a2, b2, e]⟩
theorem noNext_nil (l : List Txn) : NoNext l [] := by
  intro t rest _ h
  have := recT_pos t
  have h2 := congrArg List.length h
  simp at h2
  omega
theorem scan_of {l : List Txn} (h : LogOk l) {rest : List UInt8} (hr : NoNext l rest) : ScanIs (recs l ++ rest) l (recs l).length := ⟨h, rfl, rest, rfl, hr⟩
theorem recs_len {l : List Txn} (h : ∀ t ∈ l, goodT t = 0) : (recs l).length ≤ l.length * 1031 ∧ l.length * 31 ≤ (recs l).length := by
  induction l with
  | nil => exact ⟨Nat.le_refl _, Nat.le_refl _⟩
  | cons a r ih =>
    have h1 := ih (fun t ht => h t (List.mem_cons_of_mem _ ht))
    have h2 := body_small a (h a (by simp))
    rw [recs_cons, List.length_append, List.length_cons, recT_length]
    rw [bodyL_length] at *
    omega
end Go.Proofs.YtchgpijfebilbaaGreatDoor

/- The plain laws of a log on a disk. -/
namespace Go.Proofs.YtchgpijfebilbaaGreatDoor
open Go.RowKit
abbrev logN : ByteArray := ⟨#[108, 111, 103]⟩
abbrev noB : ByteArray := ⟨#[]⟩
def logD (m : List Txn) : List File := if m.isEmpty then [] else [⟨logN, bS (recs m), noB⟩]
theorem named_log : named (bs logN) = true := by kernel_rfl
theorem one_good {S T : ByteArray} (h : S.size + T.size ≤ 1048576) : goodD [⟨logN, S, T⟩] = true := by
  refine (goodD_iff _).2 ⟨by simp, fun x hx => ?_, List.pairwise_singleton _ _⟩
  rw [List.mem_singleton.1 hx]
  unfold okF
  rw [named_log, Bool.true_and]
  exact decide_eq_true h
theorem nil_good : goodD [] = true := by kernel_rfl
theorem one_at (S T : ByteArray) : isK ([⟨logN, S, T⟩].map File.name) logN = true ∧ fileAt [⟨logN, S, T⟩] logN = ⟨logN, S, T⟩ ∧ posK ([⟨logN, S, T⟩].map File.name) logN = 0 := by
  have h := lookF_of (List.pairwise_singleton ltF (⟨logN, S, T⟩ : File)) (y := ⟨logN, S, T⟩) (by simp)
  have hp := isK_in_file (l := [⟨logN, S, T⟩]) h.1
  refine ⟨h.1, h.2, ?_⟩
  simp only [List.length_singleton] at hp
  omega
theorem put_one (S T S' T' : ByteArray) : putL [⟨logN, S, T⟩] ⟨logN, S', T'⟩ = [⟨logN, S', T'⟩] := by
  unfold putL
  have h := one_at S T
  rw [if_pos h.1, h.2.2]
  rfl
theorem nil_at (p : ByteArray) : isK (([] : List File).map File.name) p = false ∧ posK (([] : List File).map File.name) p = 0 := by
  refine ⟨noneF_of p (by simp), ?_⟩
  unfold posK
  have := bsr_le (ltK (([] : List File).map File.name) p) 0
  simpa using this
theorem put_nil (S T : ByteArray) : putL [] ⟨logN, S, T⟩ = [⟨logN, S, T⟩] := by
  unfold putL
  have h := nil_at logN
  show (if isK (([] : List File).map File.name) logN = true then _ else _) = _
  rw [h.1]
  simp
theorem put_log (m : List Txn) (S T : ByteArray) : putL (logD m) ⟨logN, S, T⟩ = [⟨logN, S, T⟩] := by
  unfold logD
  split
  · exact put_nil S T
  · exact put_one _ _ S T
theorem logD_nil : logD [] = [] := rfl
theorem logD_cons (a : Txn) (r : List Txn) : logD (a :: r) = [⟨logN, bS (recs (a :: r)), noB⟩] := rfl
theorem log_or (m : List Txn) : fileOr (logD m) logN = ⟨logN, bS (recs m), noB⟩ := by
  cases m with
  | nil =>
    rw [logD_nil]
    unfold fileOr
    rw [(nil_at logN).1]
    rfl
  | cons a r =>
    rw [logD_cons]
    unfold fileOr
    have h := one_at (bS (recs (a :: r))) noB
    rw [if_pos h.1, h.2.1]
theorem log_good {m : List Txn} (h : (recs m).length ≤ 1048576) : goodD (logD m) = true := by
  unfold logD
  split
  · exact nil_good
  · exact one_good (by rw [bS_size]; exact h)
theorem log_write {m : List Txn} {s : ByteArray} (h : (recs m).length + s.size ≤ 1048576) : writeE (logD m) logN s = 0 ∧ writeL (logD m) logN s = [⟨logN, bS (recs m), s⟩] := by
  have e : writeE (logD m) logN s = 0 := by
    unfold writeE
    rw [log_good (by omega), named_log, if_pos rfl, if_pos rfl]
    have ho := log_or m
    unfold fileOr at ho
    cases hk : isK ((logD m).map File.name) logN with
    | true =>
      rw [hk, if_pos rfl] at ho
      rw [if_pos rfl, ho, if_pos]
      show (bS (recs m)).size + noB.size + s.size ≤ 1048576
      rw [bS_size]
      exact h
    | false =>
      rw [if_neg (by decide), if_neg ?_, if_pos (by omega)]
      unfold logD
      split <;> simp
  obtain ⟨h1, h2, h3⟩ := write_ok e
  refine ⟨e, ?_⟩
  rw [h2, log_or, put_log]
  congr 2
theorem one_read {S T : ByteArray} (h : S.size + T.size ≤ 1048576) : readE [⟨logN, S, T⟩] logN = 0 ∧ readS [⟨logN, S, T⟩] logN = S ++ T := read_mem (one_good h) (x := ⟨logN, S, T⟩) (by simp)
theorem one_sync {S T : ByteArray} (h : S.size + T.size ≤ 1048576) : syncL [⟨logN, S, T⟩] logN = [⟨logN, S ++ T, noB⟩] := by
  rw [(sync_ok (one_read h).1).1, (one_at S T).2.1, put_one]
def appL (l : List File) (t : Txn) (safe : Bool) : List File := if goodT t = 0 then (if writeE l logN (encR t) = 0 ∧ safe = true then syncL (writeL l logN (encR t)) logN else writeL l logN (encR t)) else []
def appE (l : List File) (t : Txn) (safe : Bool) : Int := if goodT t = 0 then (if writeE l logN (encR t) = 0 ∧ safe = true then readE (writeL l logN (encR t)) logN else writeE l logN (encR t)) else goodT t
theorem recs_snoc (m : List Txn) (t : Txn) : bS (recs (m ++ [t])) = bS (recs m) ++ bS (recT t) := by
  rw [recs_app, recs_one, bS_add]
  rfl
def RecIs (f : List File) (l : List Txn) (f' : List File) (e : Int) : Prop :=
  (readE f logN = 7 ∧ l = [] ∧ f' = writeL f logN noB ∧ e = writeE f logN noB) ∨
  (readE f logN ≠ 7 ∧ readE f logN ≠ 0 ∧ l = [] ∧ f' = [] ∧ e = readE f logN) ∨
  (readE f logN = 0 ∧ e = 0 ∧ ∃ n, ScanIs (bs (readS f logN)) l n ∧ f' = cutL f logN n)
theorem cut_is {f : List File} (h : readE f logN = 0) {n : Nat} (hn : n ≤ (readS f logN).size) : cutE f logN n = 0 := by
  obtain ⟨h1, h2⟩ := readE_0 h
  unfold cutE
  rw [if_pos h1, if_pos h2, if_pos]
  refine ⟨by omega, ?_⟩
  have : readS f logN = (fileAt f logN).safe ++ (fileAt f logN).tail := by
    unfold readS
    rw [h1, h2]
    rfl
  rw [← this]
  omega
theorem scan_le {s : List UInt8} {l : List Txn} {n : Nat} (h : ScanIs s l n) : n ≤ s.length ∧ s.take n = recs l := by
  obtain ⟨_, h2, r, h3, _⟩ := h
  rw [h3, h2, List.length_append, List.take_left]
  exact ⟨by omega, rfl⟩
theorem rec_one {S T : ByteArray} {m l : List Txn} {rest : List UInt8} {f' : List File} {e : Int} (hm : LogOk m) (hz : S.size + T.size ≤ 1048576) (hb : bs (S ++ T) = recs m ++ rest) (hr : NoNext m rest) (h : RecIs [⟨logN, S, T⟩] l f' e) : e = 0 ∧ l = m ∧ f' = [⟨logN, bS (recs m), noB⟩] := by
  have hrd := one_read hz
  rcases h with ⟨h1, _⟩ | ⟨_, h2, _⟩ | ⟨_, h2, n, h3, h4⟩
  · rw [hrd.1] at h1
    exact absurd h1 (by decide)
  · exact absurd hrd.1 h2
  · rw [hrd.2, hb] at h3
    obtain ⟨rfl, rfl⟩ := scan_uniq h3 (scan_of hm hr)
    refine ⟨h2, rfl, ?_⟩
    have hn : (recs l).length ≤ (readS [⟨logN, S, T⟩] logN).size := by rw [hrd.2, ← length_bs, hb, List.length_append]; omega
    obtain ⟨_, _, _, c4, _⟩ := cut_ok (cut_is hrd.1 hn)
    have hx : (readS [⟨logN, S, T⟩] logN).extract 0 (((recs l).length : Nat) : Int).toNat = bS (recs l) := by
      apply bs_inj
      rw [bs_extractTD, List.drop_zero, Int.toNat_natCast, hrd.2, hb, bs_bS, List.take_left]
    rw [h4, c4, hx, put_one]
theorem rec_log {m l : List Txn} {f' : List File} {e : Int} (hm : LogOk m) (hz : (recs m).length ≤ 1048576) (h : RecIs (logD m) l f' e) : e = 0 ∧ l = m ∧ f' = [⟨logN, bS (recs m), noB⟩] := by
  cases m with
  | cons a r =>
    refine rec_one hm (S := bS (recs (a :: r))) (T := noB) (rest := []) ?_ ?_ (noNext_nil _) h
    · rw [bS_size]
      exact hz
    · rw [bS_add]
      rfl
  | nil =>
    have hrd : readE [] logN = 7 := (read_none nil_good (by simp)).1
    have hw := log_write (m := []) (s := noB) (by decide)
    rcases h with ⟨_, h1, h2, h3⟩ | ⟨h1, _⟩ | ⟨h1, _⟩
    · exact ⟨h3.trans hw.1, h1, h2.trans hw.2⟩
    · exact absurd hrd h1
    · rw [show logD [] = [] from rfl, hrd] at h1
      exact absurd h1 (by decide)
end Go.Proofs.YtchgpijfebilbaaGreatDoor

/- Blocks of cells, and Decode's worlds. -/
namespace Go.Proofs.YtchgpijfebilbaaGreatDoor
open Go.RowKit Go.ChangeShapes Go.WideShapes Go.ChangeAt
def Blk (W : World) (B : Nat) (cs : Array Value) (t : TypeId) : Prop := W.heap[B]? = some (.cells cs t (0, 0))
theorem Blk.lt {W : World} {B : Nat} {cs : Array Value} {t : TypeId} (h : Blk W B cs t) : B < W.heap.size := (Array.getElem?_eq_some_iff.1 h).1
theorem Blk.cell {W : World} {B : Nat} {cs : Array Value} {t : TypeId} (h : Blk W B cs t) (i : Nat) : W.cell? ⟨B, i, none⟩ = cs[i]? := by simp [World.cell?, show W.heap[B]? = _ from h]
theorem Blk.frozen {W : World} {B : Nat} {cs : Array Value} {t : TypeId} (h : Blk W B cs t) (i : Nat) : W.frozen? ⟨B, i, none⟩ = false := by simp [World.frozen?, show W.heap[B]? = _ from h]
theorem Blk.new (W : World) (t : TypeId) (cs : Array Value) : Blk (W.alloc (.cells cs t)) W.heap.size cs t := World.alloc_heap_new W _
theorem Blk.kept {W W' : World} {row : Option Nat} {B : Nat} {cs : Array Value} {t : TypeId} (h : Blk W B cs t) (hg : W.grownBy W' row) (hne : some B ≠ row) : Blk W' B cs t := (hg.block B h.lt hne).trans h
theorem Blk.alloc {W : World} {B : Nat} {cs : Array Value} {t : TypeId} (h : Blk W B cs t) (o : Obj) : Blk (W.alloc o) B cs t := h.kept (World.grownBy_alloc W o none) (by simp)
theorem Blk.below {W W' : World} {B : Nat} {cs : Array Value} {t : TypeId} (h : Blk W B cs t) (hb : Below W.heap.size W W') : Blk W' B cs t := (hb.block B h.lt).trans h
theorem Blk.set {W : World} {B : Nat} {cs : Array Value} {t : TypeId} (h : Blk W B cs t) (i : Nat) (v : Value) : Blk (W.setCell ⟨B, i, none⟩ v) B (cs.setIfInBounds i v) t := by
  obtain ⟨hlt, hk⟩ := Array.getElem?_eq_some_iff.1 h
  show (W.heap.modify B _)[B]? = _
  rw [Array.getElem?_eq_getElem (by rw [Array.size_modify]; exact hlt), Array.getElem_modify_self, hk]
  rfl
theorem Blk.other {W : World} {B B' : Nat} {cs : Array Value} {t : TypeId} (h : Blk W B cs t) (hne : B ≠ B') (i : Nat) (u : Value) : Blk (W.setCell ⟨B', i, none⟩ u) B cs t := h.kept (grownBy_setCell _ _ _ _) (fun e => hne (by cases e; rfl))
theorem cur_new (W : World) (s : ByteArray) (b : Bool) (t : TypeId) : Cur (W.alloc (.cells #[.string s, .bool b] t)) W.heap.size s b :=
  ⟨(Blk.new W t _).cell 0, (Blk.new W t _).cell 1, (Blk.new W t _).frozen 0, (Blk.new W t _).frozen 1⟩
theorem cur_kept {W W' : World} {row : Option Nat} {g : Nat} {s : ByteArray} {b : Bool} (h : Cur W g s b) (hg : W.grownBy W' row) (hne : some g ≠ row) : Cur W' g s b := by
  have hlt : g < W.heap.size := World.block_lt_of_cell? W _ h.1
  have e := hg.block g hlt hne
  exact ⟨(World.cell?_of_block (w := W) (a := ⟨g, 0, none⟩) e).trans h.1, (World.cell?_of_block (w := W) (a := ⟨g, 1, none⟩) e).trans h.2.1, (World.frozen?_of_block (a := ⟨g, 0, none⟩) e).trans h.2.2.1, (World.frozen?_of_block (a := ⟨g, 1, none⟩) e).trans h.2.2.2⟩
structure DSt (w W : World) (s : ByteArray) (bad : Bool) : Prop where
  bel : Below w.heap.size w W
  z : Blk W w.heap.size #[.int .i64 0, .int .i64 0, .int .i64 0, .string ⟨#[]⟩, .string ⟨#[]⟩, .int .i64 0, .int .i64 0] 53
  c : Cur W (w.heap.size + 1) s bad
theorem DSt.lt {w W : World} {s : ByteArray} {b : Bool} (h : DSt w W s b) : w.heap.size + 1 < W.heap.size := World.block_lt_of_cell? W _ h.c.1
theorem DSt.step {w W W' : World} {s s' : ByteArray} {b b' : Bool} (h : DSt w W s b) (hc : Cur W' (w.heap.size + 1) s' b') (hg : W.grownBy W' (some (w.heap.size + 1))) : DSt w W' s' b' :=
  ⟨h.bel.grown hg (by have := h.lt; omega) (fun k e => by cases e; omega), h.z.kept hg (by simp), hc⟩
theorem DSt.keep {w W W' : World} {s : ByteArray} {b : Bool} (h : DSt w W s b) (hb : Below W.heap.size W W') : DSt w W' s b :=
  ⟨h.bel.trans (hb.mono (by have := h.lt; omega)), h.z.below hb, cur_below h.c hb⟩
theorem DSt.other {w W W' : World} {g : Nat} {s : ByteArray} {b : Bool} (h : DSt w W s b) (hg : W.grownBy W' (some g)) (hlt : w.heap.size + 1 < g) : DSt w W' s b :=
  ⟨h.bel.grown hg (by have := h.lt; omega) (fun k e => by cases e; omega), h.z.kept hg (by simp; omega), cur_kept h.c hg (by simp; omega)⟩
structure DBt (w W : World) (g : Nat) (s : ByteArray) (bad : Bool) : Prop where
  bel : Below w.heap.size w W
  z : Blk W w.heap.size #[.int .i64 0, .int .i64 0, .int .i64 0, .string ⟨#[]⟩, .string ⟨#[]⟩, .int .i64 0, .int .i64 0] 53
  c : Cur W g s bad
  gt : w.heap.size < g
theorem DBt.lt {w W : World} {g : Nat} {s : ByteArray} {b : Bool} (h : DBt w W g s b) : g < W.heap.size := World.block_lt_of_cell? W _ h.c.1
theorem DBt.step {w W W' : World} {g : Nat} {s s' : ByteArray} {b b' : Bool} (h : DBt w W g s b) (hc : Cur W' g s' b') (hg : W.grownBy W' (some g)) : DBt w W' g s' b' :=
  ⟨h.bel.grown hg (by have := h.lt; have := h.gt; omega) (fun k e => by cases e; have := h.gt; omega), h.z.kept hg (by have := h.gt; simp; omega), hc, h.gt⟩
theorem DBt.keep {w W W' : World} {g : Nat} {s : ByteArray} {b : Bool} (h : DBt w W g s b) (hb : Below W.heap.size W W') : DBt w W' g s b :=
  ⟨h.bel.trans (hb.mono (by have := h.lt; have := h.gt; omega)), h.z.below hb, cur_below h.c hb, h.gt⟩
theorem DBt.other {w W W' : World} {g k : Nat} {s : ByteArray} {b : Bool} (h : DBt w W g s b) (hg : W.grownBy W' (some k)) (hlt : g < k) : DBt w W' g s b :=
  ⟨h.bel.grown hg (by have := h.lt; have := h.gt; omega) (fun j e => by cases e; have := h.gt; omega), h.z.kept hg (by have := h.gt; simp; omega), cur_kept h.c hg (by simp; omega), h.gt⟩
theorem Blk.range {W : World} {B : Nat} {cs : Array Value} {t : TypeId} (h : Blk W B cs t) : W.rangeAt B 0 cs.toList := by
  intro j v hv
  rw [Nat.zero_add, h.cell, ← Array.getElem?_toList, hv]
abbrev set7 (W : World) (B : Nat) (t : Txn) : World := ((((((W.setCell ⟨B, 0, none⟩ (.int .i64 t.zxid)).setCell ⟨B, 1, none⟩ (.int .i64 t.op)).setCell ⟨B, 2, none⟩ (.int .i64 t.session)).setCell ⟨B, 3, none⟩ (.string t.path)).setCell ⟨B, 4, none⟩ (.string t.data)).setCell ⟨B, 5, none⟩ (.int .i64 t.version)).setCell ⟨B, 6, none⟩ (.int .i64 t.owner)
theorem Blk.put {W : World} {B : Nat} {cs : Array Value} {ty : TypeId} (h : Blk W B cs ty) (i : Nat) (v : Value) (cs' : Array Value) (e : cs' = cs.setIfInBounds i v) : Blk (W.setCell ⟨B, i, none⟩ v) B cs' ty := by
  rw [e]; exact h.set i v
theorem blk_set7 {W : World} {B : Nat} {x0 x1 x2 x3 x4 x5 x6 : Value} {ty : TypeId} (h : Blk W B #[x0, x1, x2, x3, x4, x5, x6] ty) (t : Txn) : Blk (set7 W B t) B #[.int .i64 t.zxid, .int .i64 t.op, .int .i64 t.session, .string t.path, .string t.data, .int .i64 t.version, .int .i64 t.owner] ty := by
  unfold set7
  generalize Value.int .i64 t.zxid = v0
  generalize Value.int .i64 t.op = v1
  generalize Value.int .i64 t.session = v2
  generalize Value.string t.path = v3
  generalize Value.string t.data = v4
  generalize Value.int .i64 t.version = v5
  generalize Value.int .i64 t.owner = v6
  have h0 := h.put 0 v0 #[v0, x1, x2, x3, x4, x5, x6] rfl
  have h1 := h0.put 1 v1 #[v0, v1, x2, x3, x4, x5, x6] rfl
  have h2 := h1.put 2 v2 #[v0, v1, v2, x3, x4, x5, x6] rfl
  have h3 := h2.put 3 v3 #[v0, v1, v2, v3, x4, x5, x6] rfl
  have h4 := h3.put 4 v4 #[v0, v1, v2, v3, v4, x5, x6] rfl
  have h5 := h4.put 5 v5 #[v0, v1, v2, v3, v4, v5, x6] rfl
  exact h5.put 6 v6 #[v0, v1, v2, v3, v4, v5, v6] rfl
theorem below_set7 {w W : World} {B : Nat} (h : Below B w W) {C : Nat} (hC : B ≤ C) (t : Txn) : Below B w (set7 W C t) :=
  ((((((h.setCell (p := ⟨C, 0, none⟩) hC _).setCell (p := ⟨C, 1, none⟩) hC _).setCell (p := ⟨C, 2, none⟩) hC _).setCell (p := ⟨C, 3, none⟩) hC _).setCell (p := ⟨C, 4, none⟩) hC _).setCell (p := ⟨C, 5, none⟩) hC _).setCell (p := ⟨C, 6, none⟩) hC _
theorem results_cell_tmp2 {fn : Func} {p u v : Tmp} {ty : TypeId} (h : fn.results = #[.cell p ty, .tmp u, .tmp v]) (tmps : Array Value) (P : Program) (w : World) (a : Addr) (ha : tmps.getD p undef = .pointer (some a)) (x : Value) (hl : (loadVar ty a).run P w = .ok x w) :
    (results fn tmps).run P w = .ok (.tuple #[x, tmps.getD u undef, tmps.getD v undef]) w := by
  simp only [results, h]
  have ha' : tmps[p]?.getD undef = .pointer (some a) := by simpa using ha
  simp [Result.andThen, ha', asAddr, hl]
theorem dec_ret {s : ByteArray} {w W : World} {a : Act} {t : Txn} {n e : Int} (hr : decR s = (t, n, e)) (bel : Below w.heap.size w W) {x0 x1 x2 x3 x4 x5 x6 : Value} (z : Blk W w.heap.size #[x0, x1, x2, x3, x4, x5, x6] 53)
    (hd : a.defers = []) (h2 : a.tmps.getD 2 undef = .pointer (some ⟨w.heap.size, 0, none⟩)) (h3 : a.tmps.getD 3 undef = .int .i64 n) (h4 : a.tmps.getD 4 undef = .int .i64 e) :
    bodyPost Tryz.prog Tryz.f88 (fun e w' => e = .returned (.tuple #[vTxn (decR s).1, .int .i64 (decR s).2.1, .int .i64 (decR s).2.2]) ∧ Below w.heap.size w w') Exit.ret a (set7 W w.heap.size t) := by
  refine bodyPost_ret (results_cell_tmp2 rfl a.tmps Tryz.prog _ _ h2 _ (run_loadVar_mid _ _ _ _ _ _ (Blk.range (blk_set7 z t)) Tryz.underlying53 rfl (by kernel_rfl))) hd ?_
  rw [hr, h3, h4]
  exact ⟨rfl, below_set7 bel (Nat.le_refl _) t⟩
end Go.Proofs.YtchgpijfebilbaaGreatDoor

/- wire.Decode: the walk. -/
namespace Go.Proofs.YtchgpijfebilbaaGreatDoor
open Go.RowKit Go.ChangeShapes Go.WideShapes Go.ChangeAt
set_option maxHeartbeats 1000000 in
theorem decode_any (s : ByteArray) (w : World) (hs : s.size ≤ 281474976710656) :
    Calls Tryz.prog 88 #[.string s] w fun e w' => e = .returned (.tuple #[vTxn (decR s).1, .int .i64 (decR s).2.1, .int .i64 (decR s).2.2]) ∧ Below w.heap.size w w' := by
  have HSUM := Lib.hid (fun (s : ByteArray) (w : World) (h : s.size ≤ 9223372036854775807) => show Calls Tryz.prog 92 #[.string s] w fun e w' => ∃ n : Nat, e = .returned (.int .i64 n) ∧ n < 4294967296 ∧ Hid (sumN (bs s) = n) ∧ w = w' from (sum_any s w h).mono fun e w' h => ⟨_, h.1, sumN_lt _, Lib.hid rfl, h.2⟩)
  have D0 := Lib.hid (show DSt w ((w.alloc (.cells #[.int .i64 0, .int .i64 0, .int .i64 0, .string ⟨#[]⟩, .string ⟨#[]⟩, .int .i64 0, .int .i64 0] 53)).alloc (.cells #[.string s, .bool false] 174)) s false from ⟨(by repeat (first | exact bA .. | assumption | refine bB ?_ | refine bC ?_ _ | refine bD _ _ ?_ | refine bE _ ?_ | refine bG ?_ (by first | omega | (simp; done) | (simp; omega)) _ | refine Below.setCell ?_ (by first | omega | (simp; done) | (simp; omega)) _ | refine Below.grow _ _ _ ?_ (by first | omega | (simp; done) | (simp; omega)))), (Blk.new w _ _).alloc _, (by have h := cur_new (w.alloc (.cells #[.int .i64 0, .int .i64 0, .int .i64 0, .string ⟨#[]⟩, .string ⟨#[]⟩, .int .i64 0, .int .i64 0] 53)) s false 174; simpa using h)⟩)
  go_enter Tryz.func88, Tryz.ntmps88
  go_upto_region 2 with (fail)
  generalize ((w.alloc (.cells #[.int .i64 0, .int .i64 0, .int .i64 0, .string ⟨#[]⟩, .string ⟨#[]⟩, .int .i64 0, .int .i64 0] 53)).alloc (.cells #[.string s, .bool false] 174)) = W0 at *
  go_upto_region 5 with (first | (go_at_call 106; (refine (text_any _ s false 1 _ D0.out.c (by decide) (by omega)).mono ?_); rintro e W1 ⟨rfl, hc, hg⟩; have D1 := Lib.hid (D0.out.step hc hg); clear hc hg D0; have HR1 := Lib.hid (show decR s = dec1 s (takeT s false 1) (restT s false 1) (badT s false 1) from rfl); have hs1 := restT_size s false 1; generalize ht1 : takeT s false 1 = t1 at *; generalize hs1e : restT s false 1 = s1 at *; generalize hb1e : badT s false 1 = b1 at *; have z0 := D1.out.z.cell 0; have z1 := D1.out.z.cell 1; have z2 := D1.out.z.cell 2; have z3 := D1.out.z.cell 3; have z4 := D1.out.z.cell 4; have z5 := D1.out.z.cell 5; have z6 := D1.out.z.cell 6; have zf := D1.out.z.frozen) | (go_at_call 107; (refine (number_any _ s1 b1 2 _ D1.out.c (by decide) (by omega)).mono ?_); rintro e W2 ⟨rfl, hc, hg⟩; have D2 := Lib.hid (D1.out.step hc hg); clear hc hg D1; clear z0 z1 z2 z3 z4 z5 z6 zf; obtain ⟨n, hn, hnl⟩ := valT s1 b1 2 (by decide); have HR2 := Lib.hid (HR1.out.trans (dec1_ok ‹(!t1.toList == [84]) = false› hn)); clear HR1; generalize valI (bs (takeT s1 b1 2)) = x at *; subst hn; have hs2 := restT_size s1 b1 2; generalize hs2e : restT s1 b1 2 = s2 at *; generalize hb2e : badT s1 b1 2 = b2 at *; have zb := D2.out.c.2.1; have z0 := D2.out.z.cell 0; have z1 := D2.out.z.cell 1; have z2 := D2.out.z.cell 2; have z3 := D2.out.z.cell 3; have z4 := D2.out.z.cell 4; have z5 := D2.out.z.cell 5; have z6 := D2.out.z.cell 6; have zf := D2.out.z.frozen))
  all_goals try (exact dec_ret (t := txn0) (n := 0) (e := 2) (HR1.out.trans (dec1_bad ‹(!t1.toList == [84]) = true›)) D1.out.bel D1.out.z rfl rfl rfl rfl)
  go_upto_region 7 with (fail)
  all_goals try (exact dec_ret (t := txn0) (n := 0) (e := 2) (HR2.out.trans (dec2_bad ‹b2 = true›)) D2.out.bel D2.out.z rfl rfl rfl rfl)
  all_goals try (exact dec_ret (t := txn0) (n := 0) (e := 2) (HR2.out.trans (dec2_big ‹1024 < (n : Int)›)) D2.out.bel D2.out.z rfl rfl rfl rfl)
  go_upto_region 8 with (first | (go_at_call 106; (refine (text_any _ s2 b2 n _ D2.out.c (by omega) (by omega)).mono ?_); rintro e W3 ⟨rfl, hc, hg⟩; have D3 := Lib.hid (D2.out.step hc hg); clear hc hg D2 zb; clear z0 z1 z2 z3 z4 z5 z6 zf; have HR3 := Lib.hid (HR2.out.trans (dec2_ok ‹¬ b2 = true› ‹(n : Int) ≤ 1024›)); clear HR2; have ht3 := takeT_size s2 b2 n; have hs3 := restT_size s2 b2 n; generalize ht3 : takeT s2 b2 n = t3 at *; generalize hs3e : restT s2 b2 n = s3 at *; generalize hb3e : badT s2 b2 n = b3 at *))
  go_upto_region 11 with (first | (go_at_call 107; have HC3 := Lib.hid (cur_new W3 t3 false 174); have D3b := Lib.hid (D3.out.keep (show Below W3.heap.size W3 (World.alloc W3 (.cells #[.string t3, .bool false] 174)) from (by repeat (first | exact bA .. | assumption | refine bB ?_ | refine bC ?_ _ | refine bD _ _ ?_ | refine bE _ ?_ | refine bG ?_ (by first | omega | (simp; done) | (simp; omega)) _ | refine Below.setCell ?_ (by first | omega | (simp; done) | (simp; omega)) _ | refine Below.grow _ _ _ ?_ (by first | omega | (simp; done) | (simp; omega)))))); have hgt := D3.out.lt; (refine (number_any _ s3 b3 4 _ D3b.out.c (by decide) (by omega)).mono ?_); rintro e W4 ⟨rfl, hc, hg⟩; have D4 := Lib.hid (D3b.out.step hc hg); have HC4 := Lib.hid (cur_kept HC3.out hg (by simp; omega)); clear hc hg D3 D3b HC3; generalize W3.heap.size = g at *; obtain ⟨m, hm, hml⟩ := valT s3 b3 4 (by decide); have HR4 := Lib.hid (show decR s = dec4 s n t3 m (badT s3 b3 4) from HR3.out.trans (by unfold dec3; rw [hm])); clear HR3; generalize valI (bs (takeT s3 b3 4)) = x at *; subst hm; have hs4 := restT_size s3 b3 4; generalize hs4e : restT s3 b3 4 = s4 at *; generalize hb4e : badT s3 b3 4 = b4 at *; have zb := D4.out.c.2.1; have z0 := D4.out.z.cell 0; have z1 := D4.out.z.cell 1; have z2 := D4.out.z.cell 2; have z3 := D4.out.z.cell 3; have z4 := D4.out.z.cell 4; have z5 := D4.out.z.cell 5; have z6 := D4.out.z.cell 6; have zf := D4.out.z.frozen))
  all_goals try (exact dec_ret (t := txn0) (n := 0) (e := 2) (HR4.out.trans (dec4_bad ‹b4 = true›)) D4.out.bel D4.out.z rfl rfl rfl rfl)
  have hsz : n + 7 ≤ s.size := by
    have k4 := tk_ok (hb4e.trans ‹b4 = false›)
    have k3 := tk_ok (hb3e.trans k4.1)
    have k2 := tk_ok (hb2e.trans k3.1)
    have k1 := tk_ok (hb1e.trans k2.1)
    have l1 := length_bs s1
    rw [← hs1e, k1.2.2.1, List.length_drop, length_bs] at l1
    have l2 := length_bs s2
    rw [← hs2e, k2.2.2.1, List.length_drop, length_bs] at l2
    have l3 := length_bs s3
    rw [← hs3e, k3.2.2.1, List.length_drop, length_bs] at l3
    rw [hs1e] at l1
    rw [hs2e] at l2
    rw [hs3e] at l3
    omega
  go_upto_region 13 with ((go_at_call 92; (refine (HSUM.out _ _ (by rw [ByteArray.size_extract]; omega)).mono ?_); rintro e w13 ⟨sm, rfl, hsm, HSM, rfl⟩))
  all_goals try (exact dec_ret (t := txn0) (n := 0) (e := 5) (HR4.out.trans (dec4_sum ‹b4 = false› (by rw [HSM.out]; exact ‹((sm : Int) != (m : Int)) = true›))) D4.out.bel D4.out.z rfl rfl rfl rfl)
  have HQ0 := Lib.hid (HR4.out.trans (dec4_ok ‹b4 = false› (by rw [HSM.out]; exact ‹((sm : Int) != (m : Int)) = false›)))
  have E0 := Lib.hid (show DBt w W4 g t3 false from ⟨D4.out.bel, D4.out.z, HC4.out, by omega⟩)
  have hu0 : t3.size ≤ s.size := by omega
  clear HR4 D4 HC4 HSM hsz hs1 hs2 hs3 hs4 ht3 z0 z1 z2 z3 z4 z5 z6 zf zb hs1e hs2e hs3e hs4e hb1e hb2e hb3e hb4e HSUM
  clear ht1 ht3
  go_upto_region 14 with (first | (go_at_call 107; (refine (number_any _ t3 false 8 _ E0.out.c (by decide) (by omega)).mono ?_); rintro e X1 ⟨rfl, hc, hg⟩; have E1 := Lib.hid (E0.out.step hc hg); clear hc hg E0; have hu1 := restT_size t3 false 8; have HQ1 := Lib.hid (show decR s = dB2 n (valI (bs (takeT t3 false 8))) (restT t3 false 8) (badT t3 false 8) from HQ0.out); clear HQ0; generalize valI (bs (takeT t3 false 8)) = z at *; generalize restT t3 false 8 = u1 at *; generalize badT t3 false 8 = c1 at *) | (go_at_call 107; (refine (number_any _ u1 c1 1 _ E1.out.c (by decide) (by omega)).mono ?_); rintro e X2 ⟨rfl, hc, hg⟩; have E2 := Lib.hid (E1.out.step hc hg); clear hc hg E1; have hu2 := restT_size u1 c1 1; have HQ2 := Lib.hid (show decR s = dB3 n z (valI (bs (takeT u1 c1 1))) (restT u1 c1 1) (badT u1 c1 1) from HQ1.out); clear HQ1; generalize valI (bs (takeT u1 c1 1)) = o at *; generalize restT u1 c1 1 = u2 at *; generalize badT u1 c1 1 = c2 at *) | (go_at_call 107; (refine (number_any _ u2 c2 4 _ E2.out.c (by decide) (by omega)).mono ?_); rintro e X3 ⟨rfl, hc, hg⟩; have E3 := Lib.hid (E2.out.step hc hg); clear hc hg E2; have hu3 := restT_size u2 c2 4; have HQ3 := Lib.hid (show decR s = dB4 n z o (valI (bs (takeT u2 c2 4))) (restT u2 c2 4) (badT u2 c2 4) from HQ2.out); clear HQ2; generalize valI (bs (takeT u2 c2 4)) = ss at *; generalize restT u2 c2 4 = u3 at *; generalize badT u2 c2 4 = c3 at *) | (go_at_call 107; (refine (number_any _ u3 c3 4 _ E3.out.c (by decide) (by omega)).mono ?_); rintro e X4 ⟨rfl, hc, hg⟩; have E4 := Lib.hid (E3.out.step hc hg); clear hc hg E3; have hu4 := restT_size u3 c3 4; have HQ4 := Lib.hid (show decR s = dB5 n z o ss (valI (bs (takeT u3 c3 4))) (restT u3 c3 4) (badT u3 c3 4) from HQ3.out); clear HQ3; generalize valI (bs (takeT u3 c3 4)) = v at *; generalize restT u3 c3 4 = u4 at *; generalize badT u3 c3 4 = c4 at *) | (go_at_call 107; (refine (number_any _ u4 c4 4 _ E4.out.c (by decide) (by omega)).mono ?_); rintro e X5 ⟨rfl, hc, hg⟩; have E5 := Lib.hid (E4.out.step hc hg); clear hc hg E4; have hu5 := restT_size u4 c4 4; have HQ5 := Lib.hid (show decR s = dB6 n z o ss v (valI (bs (takeT u4 c4 4))) (restT u4 c4 4) (badT u4 c4 4) from HQ4.out); clear HQ4; generalize valI (bs (takeT u4 c4 4)) = ow at *; generalize restT u4 c4 4 = u5 at *; generalize badT u4 c4 4 = c5 at *))
  have E6 := Lib.hid (E5.out.keep (show Below X5.heap.size X5 (World.alloc X5 (.cells #[.int .i64 z, .int .i64 o, .int .i64 ss, .string ⟨#[]⟩, .string ⟨#[]⟩, .int .i64 v, .int .i64 ow] 53)) from (by repeat (first | exact bA .. | assumption | refine bB ?_ | refine bC ?_ _ | refine bD _ _ ?_ | refine bE _ ?_ | refine bG ?_ (by first | omega | (simp; done) | (simp; omega)) _ | refine Below.setCell ?_ (by first | omega | (simp; done) | (simp; omega)) _ | refine Below.grow _ _ _ ?_ (by first | omega | (simp; done) | (simp; omega))))))
  have F6 := Lib.hid (show Blk (World.alloc X5 (.cells #[.int .i64 z, .int .i64 o, .int .i64 ss, .string ⟨#[]⟩, .string ⟨#[]⟩, .int .i64 v, .int .i64 ow] 53)) X5.heap.size #[.int .i64 z, .int .i64 o, .int .i64 ss, .string ⟨#[]⟩, .string ⟨#[]⟩, .int .i64 v, .int .i64 ow] 53 from Blk.new _ _ _)
  have hgT := E5.out.lt
  clear E5
  generalize (World.alloc X5 (.cells #[.int .i64 z, .int .i64 o, .int .i64 ss, .string ⟨#[]⟩, .string ⟨#[]⟩, .int .i64 v, .int .i64 ow] 53)) = X6 at *
  generalize X5.heap.size = gT at *
  go_upto_region 15 with (first | (go_at_call 107; (refine (number_any _ u5 c5 1 _ E6.out.c (by decide) (by omega)).mono ?_); rintro e X7 ⟨rfl, hc, hg⟩; have E7 := Lib.hid (E6.out.step hc hg); have F7 := Lib.hid (F6.out.kept hg (by simp; omega)); clear hc hg E6 F6; have hu7 := restT_size u5 c5 1; obtain ⟨pl, hn, hlpl⟩ := valT u5 c5 1 (by decide); have HQ7 := Lib.hid (show decR s = dB7 n z o ss v ow pl (restT u5 c5 1) (badT u5 c5 1) from HQ5.out.trans (by unfold dB6; rw [hn]; rfl)); clear HQ5; generalize valI (bs (takeT u5 c5 1)) = x at *; subst hn; generalize restT u5 c5 1 = u7 at *; generalize badT u5 c5 1 = c7 at *) | (go_at_call 106; (refine (text_any _ u7 c7 pl _ E7.out.c (by omega) (by omega)).mono ?_); rintro e X8 ⟨rfl, hc, hg⟩; have E8 := Lib.hid (E7.out.step hc hg); have F8 := Lib.hid (F7.out.kept hg (by simp; omega)); clear hc hg E7 F7; have hu8 := restT_size u7 c7 pl; have ht8 := takeT_size u7 c7 pl; have HQ8 := Lib.hid (show decR s = dB8 n z o ss v ow (takeT u7 c7 pl) (restT u7 c7 pl) (badT u7 c7 pl) from HQ7.out); clear HQ7; generalize takeT u7 c7 pl = p at *; generalize restT u7 c7 pl = u8 at *; generalize badT u7 c7 pl = c8 at *; have y3 := F8.out.cell 3; have yf := F8.out.frozen))
  have E9 := Lib.hid (E8.out.other (grownBy_setCell X8 gT 3 (.string p)) hgT)
  have F9 := Lib.hid (F8.out.put 3 (.string p) #[.int .i64 z, .int .i64 o, .int .i64 ss, .string p, .string ⟨#[]⟩, .int .i64 v, .int .i64 ow] rfl)
  clear E8 F8 y3 yf
  generalize (World.setCell X8 ⟨gT, 3, none⟩ (.string p)) = X9 at *
  go_upto_region 16 with (first | (go_at_call 107; (refine (number_any _ u8 c8 2 _ E9.out.c (by decide) (by omega)).mono ?_); rintro e X10 ⟨rfl, hc, hg⟩; have E10 := Lib.hid (E9.out.step hc hg); have F10 := Lib.hid (F9.out.kept hg (by simp; omega)); clear hc hg E9 F9; have hu10 := restT_size u8 c8 2; obtain ⟨dl, hn, hldl⟩ := valT u8 c8 2 (by decide); have HQ10 := Lib.hid (show decR s = dB9 n z o ss v ow p dl (restT u8 c8 2) (badT u8 c8 2) from HQ8.out.trans (by unfold dB8; rw [hn]; rfl)); clear HQ8; generalize valI (bs (takeT u8 c8 2)) = x at *; subst hn; generalize restT u8 c8 2 = u10 at *; generalize badT u8 c8 2 = c10 at *) | (go_at_call 106; (refine (text_any _ u10 c10 dl _ E10.out.c (by omega) (by omega)).mono ?_); rintro e X11 ⟨rfl, hc, hg⟩; have E11 := Lib.hid (E10.out.step hc hg); have F11 := Lib.hid (F10.out.kept hg (by simp; omega)); clear hc hg E10 F10; have hu11 := restT_size u10 c10 dl; have ht11 := takeT_size u10 c10 dl; have HQ11 := Lib.hid (show decR s = dB10 n z o ss v ow p (takeT u10 c10 dl) (restT u10 c10 dl) (badT u10 c10 dl) from HQ10.out); clear HQ10; generalize takeT u10 c10 dl = d at *; generalize restT u10 c10 dl = u11 at *; generalize badT u10 c10 dl = c11 at *; have y4 := F11.out.cell 4; have yf := F11.out.frozen))
  have E12 := Lib.hid (E11.out.other (grownBy_setCell X11 gT 4 (.string d)) hgT)
  have F12 := Lib.hid (F11.out.put 4 (.string d) #[.int .i64 z, .int .i64 o, .int .i64 ss, .string p, .string d, .int .i64 v, .int .i64 ow] rfl)
  clear E11 F11 y4 yf
  generalize (World.setCell X11 ⟨gT, 4, none⟩ (.string d)) = X12 at *
  have zb := E12.out.c.2.1
  have za := E12.out.c.1
  have z0 := E12.out.z.cell 0
  have z1 := E12.out.z.cell 1
  have z2 := E12.out.z.cell 2
  have z3 := E12.out.z.cell 3
  have z4 := E12.out.z.cell 4
  have z5 := E12.out.z.cell 5
  have z6 := E12.out.z.cell 6
  have zf := E12.out.z.frozen
  go_upto_region 18 with (fail)
  all_goals try (exact dec_ret (t := txn0) (n := 0) (e := 2) (HQ11.out.trans (dB10_bad ‹c11 = true›)) E12.out.bel E12.out.z rfl rfl rfl rfl)
  all_goals try (exact dec_ret (t := txn0) (n := 0) (e := 2) (HQ11.out.trans (dB10_more ‹(!u11.toList.isEmpty) = true›)) E12.out.bel E12.out.z rfl rfl rfl rfl)
  have y0 := F12.out.cell 0
  have y1 := F12.out.cell 1
  have y2 := F12.out.cell 2
  have y3 := F12.out.cell 3
  have y4 := F12.out.cell 4
  have y5 := F12.out.cell 5
  have y6 := F12.out.cell 6
  have yf := F12.out.frozen
  have HG := Lib.hid (fun w => tgood_any ⟨z, o, ss, p, d, v, ow⟩ w (by show p.size ≤ _; omega))
  go_wp2_with (first | (go_at_call 42; (refine (HG.out _).mono ?_); rintro e X13 ⟨rfl, hb⟩; have E13 := Lib.hid (E12.out.keep hb); have F13 := Lib.hid (F12.out.below hb); clear hb E12 F12 HG z0 z1 z2 z3 z4 z5 z6 zf y0 y1 y2 y3 y4 y5 y6 yf za zb; have z0 := E13.out.z.cell 0; have z1 := E13.out.z.cell 1; have z2 := E13.out.z.cell 2; have z3 := E13.out.z.cell 3; have z4 := E13.out.z.cell 4; have z5 := E13.out.z.cell 5; have z6 := E13.out.z.cell 6; have zf := E13.out.z.frozen; have y0 := F13.out.cell 0; have y1 := F13.out.cell 1; have y2 := F13.out.cell 2; have y3 := F13.out.cell 3; have y4 := F13.out.cell 4; have y5 := F13.out.cell 5; have y6 := F13.out.cell 6; have yf := F13.out.frozen; generalize hgt0 : goodT ⟨z, o, ss, p, d, v, ow⟩ = gd at *))
  all_goals try (have hq := ‹(gd != 0) = true›; exact dec_ret (t := txn0) (n := 0) (e := gd) (by rw [← hgt0]; exact HQ11.out.trans (dB10_not ‹¬ c11 = true› ‹(!u11.toList.isEmpty) = false› (by rw [hgt0]; exact ‹(gd != 0) = true›))) E13.out.bel E13.out.z rfl rfl rfl rfl)
  all_goals try (have hq := ‹(gd != 0) = false›; exact dec_ret (t := ⟨z, o, ss, p, d, v, ow⟩) (n := (n : Int) + 7) (e := 0) (HQ11.out.trans (dB10_ok ‹¬ c11 = true› ‹(!u11.toList.isEmpty) = false› (by rw [hgt0]; exact ‹(gd != 0) = false›))) E13.out.bel E13.out.z rfl rfl rfl rfl)
end Go.Proofs.YtchgpijfebilbaaGreatDoor

/- The wire laws' small helpers: opening, writes, pick, turned. -/
namespace Go.Proofs.YtchgpijfebilbaaGreatDoor
open Go.RowKit Go.ChangeShapes Go.WideShapes Go.ChangeAt
theorem rec_len (t : Txn) (h : goodT t = 0) : 31 ≤ (recT t).length ∧ (recT t).length ≤ 1031 := by
  have h1 := body_small t h
  rw [recT_length]
  rw [bodyL_length] at *
  omega
end Go.Proofs.YtchgpijfebilbaaGreatDoor

/- wal.Append. -/
namespace Go.Proofs.YtchgpijfebilbaaGreatDoor
open Go.RowKit Go.ChangeShapes Go.WideShapes Go.ChangeAt
set_option maxHeartbeats 1000000 in
theorem walAppend (v : Value) (l : List File) (t : Txn) (safe : Bool) (w : World) (h : Sl cFile 3 w v l) (hz : ∀ x ∈ l, x.sized) (hp : t.path.size ≤ 9223372036854775807) :
    Calls Tryz.prog 36 #[.agg #[v], vTxn t, .bool safe] w (DkRes (appL l t safe) (appE l t safe) w) := by
  obtain ⟨A, c, rfl, hc1, hc2⟩ := h.form
  have H := Lib.hid h
  have HE := Lib.hid (fun w => encode_any t w hp)
  unfold appL appE
  by_cases hg : goodT t = 0
  · have hrec : encR t = bS (recT t) := if_pos hg
    have hlen := rec_len t hg
    have hes : (encR t).size ≤ 140737488355328 := by rw [hrec, bS_size]; omega
    rw [if_pos hg, if_pos hg]
    rw [hg] at HE
    have HW := Lib.hid (fun (W : World) (v : Value) (h : Sl cFile 3 W v l) => dkWrite v l logN (encR t) W h hz (by decide) hes)
    have HS := Lib.hid (fun (W : World) (v : Value) (hw : writeE l logN (encR t) = 0) (h : Sl cFile 3 W v (writeL l logN (encR t))) => dkSync v (writeL l logN (encR t)) logN W h (fun x hx => (goodD_sized (write_ok hw).2.2 x hx).1))
    generalize writeL l logN (encR t) = a at *
    generalize writeE l logN (encR t) = ae at *
    generalize syncL a logN = b at *
    generalize readE a logN = be at *
    generalize encR t = r at *
    clear hrec hlen hes h hz hp hg
    obtain ⟨z, o, s, p, d, v, ow⟩ := t
    by_cases hae : ae = 0
    · subst hae
      cases safe with
      | true =>
        rw [if_pos ⟨rfl, rfl⟩, if_pos ⟨rfl, rfl⟩]
        go_enter Tryz.func36, Tryz.ntmps36
        go_wp2_with (first | (go_at_call 69; refine (HE.out _).mono ?_; rintro e w1 ⟨rfl, hb1⟩; obtain ⟨ext1, d1, rfl⟩ := Below.grown_eq _ hb1; clear hb1 HE) | (go_at_call 66; refine (HW.out _ _ (H.out.below (by repeat (first | exact bA .. | assumption | refine bB ?_ | refine bC ?_ _ | refine bD _ _ ?_ | refine bE _ ?_ | refine bG ?_ (by first | omega | (simp; done) | (simp; omega)) _ | refine Below.setCell ?_ (by first | omega | (simp; done) | (simp; omega)) _ | refine Below.grow _ _ _ ?_ (by first | omega | (simp; done) | (simp; omega)))))).mono ?_; rintro e w1 ⟨A1, k1, rfl, ho1, hb2⟩; obtain ⟨ext2, d2, rfl⟩ := Below.grown_eq _ hb2; have HO1 := Lib.hid ho1; clear ho1 hb2 HW) | (go_at_call 70; refine (HS.out _ _ (by first | trivial | rfl) (HO1.out.regrow (Nat.le_refl _) (by simp)).sl).mono ?_; rintro e w1 ⟨A2, k2, rfl, ho2, hb3⟩; obtain ⟨ext3, d3, rfl⟩ := Below.grown_eq _ hb3; have HO2 := Lib.hid ho2; clear ho2 hb3 HS))
        refine bodyPost_ret (v := .tuple #[.agg #[.slice A2 b.length k2], .int .i64 be]) (by simp [results, Tryz.results36, go_sem]) rfl ⟨A2, k2, rfl, (HO2.out.regrow (Nat.le_refl _) (by simp)).mono (by simp; omega), (by repeat (first | exact bA .. | assumption | refine bB ?_ | refine bC ?_ _ | refine bD _ _ ?_ | refine bE _ ?_ | refine bG ?_ (by first | omega | (simp; done) | (simp; omega)) _ | refine Below.setCell ?_ (by first | omega | (simp; done) | (simp; omega)) _ | refine Below.grow _ _ _ ?_ (by first | omega | (simp; done) | (simp; omega))))⟩
      | false =>
        rw [if_neg (by simp), if_neg (by simp)]
        go_enter Tryz.func36, Tryz.ntmps36
        go_wp2_with (first | (go_at_call 69; refine (HE.out _).mono ?_; rintro e w1 ⟨rfl, hb1⟩; obtain ⟨ext1, d1, rfl⟩ := Below.grown_eq _ hb1; clear hb1 HE) | (go_at_call 66; refine (HW.out _ _ (H.out.below (by repeat (first | exact bA .. | assumption | refine bB ?_ | refine bC ?_ _ | refine bD _ _ ?_ | refine bE _ ?_ | refine bG ?_ (by first | omega | (simp; done) | (simp; omega)) _ | refine Below.setCell ?_ (by first | omega | (simp; done) | (simp; omega)) _ | refine Below.grow _ _ _ ?_ (by first | omega | (simp; done) | (simp; omega)))))).mono ?_; rintro e w1 ⟨A1, k1, rfl, ho1, hb2⟩; obtain ⟨ext2, d2, rfl⟩ := Below.grown_eq _ hb2; have HO1 := Lib.hid ho1; clear ho1 hb2 HW))
        refine bodyPost_ret (v := .tuple #[.agg #[.slice A1 a.length k1], .int .i64 0]) (by simp [results, Tryz.results36, go_sem]) rfl ⟨A1, k1, rfl, (HO1.out.regrow (Nat.le_refl _) (by simp)).mono (by simp; omega), (by repeat (first | exact bA .. | assumption | refine bB ?_ | refine bC ?_ _ | refine bD _ _ ?_ | refine bE _ ?_ | refine bG ?_ (by first | omega | (simp; done) | (simp; omega)) _ | refine Below.setCell ?_ (by first | omega | (simp; done) | (simp; omega)) _ | refine Below.grow _ _ _ ?_ (by first | omega | (simp; done) | (simp; omega))))⟩
    · have hne : (ae != 0) = true := bne_iff_ne.2 hae
      rw [if_neg (fun h => hae h.1), if_neg (fun h => hae h.1)]
      clear hae
      go_enter Tryz.func36, Tryz.ntmps36
      go_wp2_with (first | (go_at_call 69; refine (HE.out _).mono ?_; rintro e w1 ⟨rfl, hb1⟩; obtain ⟨ext1, d1, rfl⟩ := Below.grown_eq _ hb1; clear hb1 HE) | (go_at_call 66; refine (HW.out _ _ (H.out.below (by repeat (first | exact bA .. | assumption | refine bB ?_ | refine bC ?_ _ | refine bD _ _ ?_ | refine bE _ ?_ | refine bG ?_ (by first | omega | (simp; done) | (simp; omega)) _ | refine Below.setCell ?_ (by first | omega | (simp; done) | (simp; omega)) _ | refine Below.grow _ _ _ ?_ (by first | omega | (simp; done) | (simp; omega)))))).mono ?_; rintro e w1 ⟨A1, k1, rfl, ho1, hb2⟩; obtain ⟨ext2, d2, rfl⟩ := Below.grown_eq _ hb2; have HO1 := Lib.hid ho1; clear ho1 hb2 HW))
      refine bodyPost_ret (v := .tuple #[.agg #[.slice A1 a.length k1], .int .i64 ae]) (by simp [results, Tryz.results36, go_sem]) rfl ⟨A1, k1, rfl, (HO1.out.regrow (Nat.le_refl _) (by simp)).mono (by simp; omega), (by repeat (first | exact bA .. | assumption | refine bB ?_ | refine bC ?_ _ | refine bD _ _ ?_ | refine bE _ ?_ | refine bG ?_ (by first | omega | (simp; done) | (simp; omega)) _ | refine Below.setCell ?_ (by first | omega | (simp; done) | (simp; omega)) _ | refine Below.grow _ _ _ ?_ (by first | omega | (simp; done) | (simp; omega))))⟩
  · have hne : (goodT t != 0) = true := bne_iff_ne.2 hg
    have hrec : encR t = ⟨#[]⟩ := if_neg hg
    rw [hrec] at HE
    rw [if_neg hg, if_neg hg]
    clear hrec hg h hz
    generalize goodT t = g at *
    obtain ⟨z, o, s, p, d, v, ow⟩ := t
    go_enter Tryz.func36, Tryz.ntmps36
    go_wp2_with (first | (go_at_call 69; refine (HE.out _).mono ?_; rintro e w1 ⟨rfl, hb1⟩; obtain ⟨ext1, d1, rfl⟩ := Below.grown_eq _ hb1; clear hb1 HE))
    refine bodyPost_ret (v := .tuple #[.agg #[.slice none 0 0], .int .i64 g]) (by simp [results, Tryz.results36, go_sem]) rfl ⟨none, 0, rfl, Ow.nil _ _ _ _ _, (by repeat (first | exact bA .. | assumption | refine bB ?_ | refine bC ?_ _ | refine bD _ _ ?_ | refine bE _ ?_ | refine bG ?_ (by first | omega | (simp; done) | (simp; omega)) _ | refine Below.setCell ?_ (by first | omega | (simp; done) | (simp; omega)) _ | refine Below.grow _ _ _ ?_ (by first | omega | (simp; done) | (simp; omega))))⟩
end Go.Proofs.YtchgpijfebilbaaGreatDoor

/- wal.Last. -/
namespace Go.Proofs.YtchgpijfebilbaaGreatDoor
open Go.RowKit Go.ChangeShapes Go.WideShapes Go.ChangeAt
theorem walLast (v : Value) (l : List Txn) (w : World) (h : Sl cTxn 7 w v l) :
    Calls Tryz.prog 35 #[v] w fun e w' => e = .returned (.int .i64 (lastZ l)) ∧ w = w' := by
  obtain ⟨A, c, rfl, hc1, hc2⟩ := h.form
  rcases Nat.eq_zero_or_pos l.length with h0 | h0
  · obtain rfl := List.eq_nil_of_length_eq_zero h0
    rw [lastZ_nil]
    simp only [List.length_nil]
    clear h h0
    go_enter Tryz.func35, Tryz.ntmps35
    go_wp2
    go_ret
    exact ⟨rfl, rfl⟩
  · obtain ⟨m, hm⟩ : ∃ m, l.length = m + 1 := ⟨l.length - 1, by omega⟩
    have hx : l[m]? = some (l[m]'(by omega)) := List.getElem?_eq_getElem _
    obtain ⟨b, off, rfl, hbw, c0, _⟩ := h.Txn_at hx
    rw [lastZ_at hm hx]
    generalize l[m]'(by omega) = x at c0
    rw [hm] at hc1 ⊢
    have hm2 : m + 1 ≤ 9223372036854775807 := Nat.le_trans hc1 (Nat.le_trans hc2 (by decide))
    clear h h0 hx
    go_enter Tryz.func35, Tryz.ntmps35
    go_wp2
    go_ret
    exact ⟨rfl, rfl⟩
end Go.Proofs.YtchgpijfebilbaaGreatDoor

/- wal.Scan: the transactions that bytes begin with. -/
namespace Go.Proofs.YtchgpijfebilbaaGreatDoor
open Go.RowKit Go.ChangeShapes Go.WideShapes Go.ChangeAt
def ScanRes (s : List UInt8) (w : World) (e : Ending) (w' : World) : Prop := ∃ A c l n, e = .returned (.tuple #[.slice A l.length c, .int .i64 (n : Nat)]) ∧ ScanIs s l n ∧ Ow cTxn 7 53 w' w.heap.size (.slice A l.length c) l ∧ Below w.heap.size w w'
theorem noNext_bad {s : ByteArray} {e : Int} (he : e ≠ 0) (hd : decR s = (txn0, 0, e)) (l : List Txn) : NoNext l (bs s) := by
  intro t rest ht h
  exfalso
  have h1 := dec_back t ht rest
  rw [← h, bS_bs, hd] at h1
  injection h1 with _ h2
  injection h2 with _ h3
  exact he h3
theorem noNext_stop {t : Txn} (ht : goodT t = 0) {l : List Txn} (h1 : l ≠ []) (h2 : t.zxid ≤ lastZ l) (rest : List UInt8) : NoNext l (recT t ++ rest) := by
  intro x r hx h
  obtain ⟨rfl, _⟩ := recT_prefix ht hx h
  exact ⟨h1, h2⟩
def ScanAt (s : List UInt8) (l : List Txn) (n : Nat) : Prop := LogOk l ∧ n = (recs l).length ∧ s = recs l ++ s.drop n
theorem ScanAt.le {s : List UInt8} {l : List Txn} {n : Nat} (h : ScanAt s l n) : n ≤ s.length ∧ l.length * 31 ≤ n := by
  have h1 := congrArg List.length h.2.2
  rw [List.length_append] at h1
  have h2 := (recs_len h.1.1).2
  have := h.2.1
  omega
theorem ScanAt.next {s : List UInt8} {l : List Txn} {n : Nat} {t : Txn} {rest : List UInt8} (h : ScanAt s l n) (ht : goodT t = 0) (hr : s.drop n = recT t ++ rest) (hz : l = [] ∨ lastZ l < t.zxid) : ScanAt s (l ++ [t]) (n + (recT t).length) := by
  refine ⟨logOk_snoc h.1 ht hz, ?_, ?_⟩
  · rw [recs_app, recs_one, List.length_append, ← h.2.1]
  · rw [recs_app, recs_one, ← List.drop_drop, hr, List.drop_left, List.append_assoc, ← hr]
    exact h.2.2
theorem ScanAt.done {s : List UInt8} {l : List Txn} {n : Nat} (h : ScanAt s l n) (hr : NoNext l (s.drop n)) : ScanIs s l n := ⟨h.1, h.2.1, s.drop n, h.2.2, hr⟩
theorem extract_from (s : ByteArray) (n : Nat) : bs (s.extract n s.size) = (bs s).drop n := by
  rw [bs_extractTD, List.take_of_length_le (by rw [length_bs]; exact Nat.le_refl _)]
set_option maxHeartbeats 2000000 in
theorem scan_any (s : ByteArray) (w : World) (hs : s.size ≤ 1048576) :
    Calls Tryz.prog 67 #[.string s] w (ScanRes (bs s) w) := by
  go_enter Tryz.func67, Tryz.ntmps67
  go_wp2_with fail
  go_loopw [4, 5] (fun o i wr => ∃ (L : List Txn) (n : Nat) (A' : Option Addr) (c' : Nat) (ext : Array Obj) (d : Nat), i = .int .i64 n ∧ o = .slice A' L.length c' ∧ wr = grow w ext d ∧ Hid (ScanAt (bs s) L n) ∧ Hid (Ow cTxn 7 53 wr w.heap.size (.slice A' L.length c') L)) (fun _ i _ => s.size - (intOf i).toNat)
  case atStart => exact ⟨[], 0, none, 0, _, _, rfl, rfl, grown_of (by repeat (first | exact bA .. | assumption | refine bB ?_ | refine bC ?_ _ | refine bD _ _ ?_ | refine bE _ ?_ | refine bG ?_ (by first | omega | (simp; done) | (simp; omega)) _ | refine Below.setCell ?_ (by first | omega | (simp; done) | (simp; omega)) _ | refine Below.grow _ _ _ ?_ (by first | omega | (simp; done) | (simp; omega)))), Lib.hid ⟨⟨by simp, List.Pairwise.nil⟩, rfl, by simp [recs]⟩, Lib.hid (Ow.nil _ _ _ _ _)⟩
  case round =>
    obtain ⟨L, n, A', c', ext, d, rfl, rfl, rfl, hat, ho⟩ := hrel
    have hle := hat.out.le
    have hlen := length_bs s
    by_cases hlt : n < s.size
    · have hsz : (s.extract n s.size).size ≤ 281474976710656 := by rw [ByteArray.size_extract]; omega
      have hex := extract_from s n
      rcases dec_inv (s.extract n s.size) with ⟨t, rest, hg, hr, hd⟩ | ⟨e, he, hd⟩
      · have HD := Lib.hid (fun W => by
          have h := decode_any (s.extract n s.size) W hsz
          rw [hd] at h
          exact h)
        rw [hex] at hr
        have hn2 := congrArg List.length hr
        rw [List.length_drop, List.length_append] at hn2
        have hp7 := recT_pos t
        have HL := Lib.hid (fun (W : World) (h : Sl cTxn 7 W (.slice A' L.length c') L) => walLast _ _ W h)
        rcases Classical.em (L = []) with h0 | h0
        · have HX := Lib.hid (hat.out.next hg hr (.inl h0))
          have hl0 : decide (0 < L.length) = false := by rw [h0]; rfl
          have h0' := Lib.hid h0
          clear h0 hd hr hex hsz hg HL
          generalize (recT t).length = m at *
          go_wp2_with (first | (go_at_call 88; refine (HD.out _).mono ?_; rintro e w1 ⟨rfl, hb1⟩; obtain ⟨ext1, d1, rfl⟩ := Below.grown_eq _ hb1; clear hb1 HD))
          go_quiet (fail)
          go_wp2_with (at_builtin; refine wpList_app _ rfl (.tmp 35) (.tmp 37) _ rfl elTxn (B := w.heap.size) (l := L) (m := [t]) rfl rfl (ho.out.below (by repeat (first | exact bA .. | assumption | refine bB ?_ | refine bC ?_ _ | refine bD _ _ ?_ | refine bE _ ?_ | refine bG ?_ (by first | omega | (simp; done) | (simp; omega)) _ | refine Below.setCell ?_ (by first | omega | (simp; done) | (simp; omega)) _ | refine Below.grow _ _ _ ?_ (by first | omega | (simp; done) | (simp; omega))))) (Sl.one_at cTxn 7 _ _ _ rfl _ rfl (by omega) (by simp)) cTxn_one (by simp [maxLen]; omega) (by simp; omega) (by simp <;> omega) ?_; intro v2 w2 hown2 hg2 hat2; obtain ⟨A2, c2, rfl, _⟩ := hown2.form; have HO2 := Lib.hid hown2; have HG2 : Hid (World.grownBy _ w2 (Value.slice A' L.length c').ownBlock) := Lib.hid hg2; clear hown2 hg2 hat2)
          have hwb : Below w.heap.size w w2 := Below.grown (by repeat (first | exact bA .. | assumption | refine bB ?_ | refine bC ?_ _ | refine bD _ _ ?_ | refine bE _ ?_ | refine bG ?_ (by first | omega | (simp; done) | (simp; omega)) _ | refine Below.setCell ?_ (by first | omega | (simp; done) | (simp; omega)) _ | refine Below.grow _ _ _ ?_ (by first | omega | (simp; done) | (simp; omega)))) HG2.out (by simp; omega) (fun g hg => (Ow.own_in ho.out hg).1)
          go_wp2_with fail
          go_roundw
          case rel => exact ⟨L ++ [t], n + m, A2, c2, _, _, by go_num, by simp, grown_of hwb, HX, HO2⟩
          case measure => simp [intOf]; omega
        · have hl0 : decide (0 < L.length) = true := decide_eq_true (List.length_pos_iff.2 h0)
          by_cases hz : t.zxid ≤ lastZ L
          · have HN := Lib.hid (hat.out.done (by rw [hr]; exact noNext_stop hg h0 hz rest))
            have hzd : decide (t.zxid ≤ lastZ L) = true := decide_eq_true hz
            generalize lastZ L = z at *
            clear h0 hd hr hex hsz hg hz
            generalize (recT t).length = m at *
            go_wp2_with (first | (go_at_call 88; refine (HD.out _).mono ?_; rintro e w1 ⟨rfl, hb1⟩; obtain ⟨ext1, d1, rfl⟩ := Below.grown_eq _ hb1; clear hb1 HD))
            go_quiet (first | (go_at_call 35; with_reducible refine Calls.quiet_of_same ((HL.out _ (ho.out.sl.below (by repeat (first | exact bA .. | assumption | refine bB ?_ | refine bC ?_ _ | refine bD _ _ ?_ | refine bE _ ?_ | refine bG ?_ (by first | omega | (simp; done) | (simp; omega)) _ | refine Below.setCell ?_ (by first | omega | (simp; done) | (simp; omega)) _ | refine Below.grow _ _ _ ?_ (by first | omega | (simp; done) | (simp; omega)))))).mono fun e w' h => ⟨h.1, h.2.symm⟩)))
            go_wp2_with fail
            refine bodyPost_ret (v := .tuple #[.slice A' L.length c', .int .i64 n]) (by simp [results, Tryz.results67, go_sem]) rfl ⟨A', c', L, n, rfl, HN.out, ho.out.below (by repeat (first | exact bA .. | assumption | refine bB ?_ | refine bC ?_ _ | refine bD _ _ ?_ | refine bE _ ?_ | refine bG ?_ (by first | omega | (simp; done) | (simp; omega)) _ | refine Below.setCell ?_ (by first | omega | (simp; done) | (simp; omega)) _ | refine Below.grow _ _ _ ?_ (by first | omega | (simp; done) | (simp; omega)))), (by repeat (first | exact bA .. | assumption | refine bB ?_ | refine bC ?_ _ | refine bD _ _ ?_ | refine bE _ ?_ | refine bG ?_ (by first | omega | (simp; done) | (simp; omega)) _ | refine Below.setCell ?_ (by first | omega | (simp; done) | (simp; omega)) _ | refine Below.grow _ _ _ ?_ (by first | omega | (simp; done) | (simp; omega))))⟩
          · have HX := Lib.hid (hat.out.next hg hr (.inr (by omega)))
            have hzd : decide (t.zxid ≤ lastZ L) = false := decide_eq_false hz
            generalize lastZ L = z at *
            clear h0 hd hr hex hsz hg hz
            generalize (recT t).length = m at *
            go_wp2_with (first | (go_at_call 88; refine (HD.out _).mono ?_; rintro e w1 ⟨rfl, hb1⟩; obtain ⟨ext1, d1, rfl⟩ := Below.grown_eq _ hb1; clear hb1 HD))
            go_quiet (first | (go_at_call 35; with_reducible refine Calls.quiet_of_same ((HL.out _ (ho.out.sl.below (by repeat (first | exact bA .. | assumption | refine bB ?_ | refine bC ?_ _ | refine bD _ _ ?_ | refine bE _ ?_ | refine bG ?_ (by first | omega | (simp; done) | (simp; omega)) _ | refine Below.setCell ?_ (by first | omega | (simp; done) | (simp; omega)) _ | refine Below.grow _ _ _ ?_ (by first | omega | (simp; done) | (simp; omega)))))).mono fun e w' h => ⟨h.1, h.2.symm⟩)))
            go_wp2_with (at_builtin; refine wpList_app _ rfl (.tmp 35) (.tmp 37) _ rfl elTxn (B := w.heap.size) (l := L) (m := [t]) rfl rfl (ho.out.below (by repeat (first | exact bA .. | assumption | refine bB ?_ | refine bC ?_ _ | refine bD _ _ ?_ | refine bE _ ?_ | refine bG ?_ (by first | omega | (simp; done) | (simp; omega)) _ | refine Below.setCell ?_ (by first | omega | (simp; done) | (simp; omega)) _ | refine Below.grow _ _ _ ?_ (by first | omega | (simp; done) | (simp; omega))))) (Sl.one_at cTxn 7 _ _ _ rfl _ rfl (by omega) (by simp)) cTxn_one (by simp [maxLen]; omega) (by simp; omega) (by simp <;> omega) ?_; intro v2 w2 hown2 hg2 hat2; obtain ⟨A2, c2, rfl, _⟩ := hown2.form; have HO2 := Lib.hid hown2; have HG2 : Hid (World.grownBy _ w2 (Value.slice A' L.length c').ownBlock) := Lib.hid hg2; clear hown2 hg2 hat2)
            have hwb : Below w.heap.size w w2 := Below.grown (by repeat (first | exact bA .. | assumption | refine bB ?_ | refine bC ?_ _ | refine bD _ _ ?_ | refine bE _ ?_ | refine bG ?_ (by first | omega | (simp; done) | (simp; omega)) _ | refine Below.setCell ?_ (by first | omega | (simp; done) | (simp; omega)) _ | refine Below.grow _ _ _ ?_ (by first | omega | (simp; done) | (simp; omega)))) HG2.out (by simp; omega) (fun g hg => (Ow.own_in ho.out hg).1)
            go_wp2_with fail
            go_roundw
            case rel => exact ⟨L ++ [t], n + m, A2, c2, _, _, by go_num, by simp, grown_of hwb, HX, HO2⟩
            case measure => simp [intOf]; omega
      · have HN := Lib.hid (hat.out.done (by rw [← hex]; exact noNext_bad he hd L))
        have HD := Lib.hid (fun W => by
          have h := decode_any (s.extract n s.size) W hsz
          rw [hd] at h
          exact h)
        have hne : (e != 0) = true := bne_iff_ne.2 he
        clear he hd hex hsz
        go_wp2_with (first | (go_at_call 88; refine (HD.out _).mono ?_; rintro e w1 ⟨rfl, hb1⟩; obtain ⟨ext1, d1, rfl⟩ := Below.grown_eq _ hb1; clear hb1 HD))
        go_quiet (fail)
        go_wp2_with fail
        refine bodyPost_ret (v := .tuple #[.slice A' L.length c', .int .i64 n]) (by simp [results, Tryz.results67, go_sem]) rfl ⟨A', c', L, n, rfl, HN.out, ho.out.below (by repeat (first | exact bA .. | assumption | refine bB ?_ | refine bC ?_ _ | refine bD _ _ ?_ | refine bE _ ?_ | refine bG ?_ (by first | omega | (simp; done) | (simp; omega)) _ | refine Below.setCell ?_ (by first | omega | (simp; done) | (simp; omega)) _ | refine Below.grow _ _ _ ?_ (by first | omega | (simp; done) | (simp; omega)))), (by repeat (first | exact bA .. | assumption | refine bB ?_ | refine bC ?_ _ | refine bD _ _ ?_ | refine bE _ ?_ | refine bG ?_ (by first | omega | (simp; done) | (simp; omega)) _ | refine Below.setCell ?_ (by first | omega | (simp; done) | (simp; omega)) _ | refine Below.grow _ _ _ ?_ (by first | omega | (simp; done) | (simp; omega))))⟩
    · have HN := Lib.hid (hat.out.done (by rw [List.drop_of_length_le (by omega)]; exact noNext_nil L))
      go_wp2_with fail
      refine bodyPost_ret (v := .tuple #[.slice A' L.length c', .int .i64 n]) (by simp [results, Tryz.results67, go_sem]) rfl ⟨A', c', L, n, rfl, HN.out, ho.out.below (by repeat (first | exact bA .. | assumption | refine bB ?_ | refine bC ?_ _ | refine bD _ _ ?_ | refine bE _ ?_ | refine bG ?_ (by first | omega | (simp; done) | (simp; omega)) _ | refine Below.setCell ?_ (by first | omega | (simp; done) | (simp; omega)) _ | refine Below.grow _ _ _ ?_ (by first | omega | (simp; done) | (simp; omega)))), (by repeat (first | exact bA .. | assumption | refine bB ?_ | refine bC ?_ _ | refine bD _ _ ?_ | refine bE _ ?_ | refine bG ?_ (by first | omega | (simp; done) | (simp; omega)) _ | refine Below.setCell ?_ (by first | omega | (simp; done) | (simp; omega)) _ | refine Below.grow _ _ _ ?_ (by first | omega | (simp; done) | (simp; omega))))⟩
end Go.Proofs.YtchgpijfebilbaaGreatDoor
