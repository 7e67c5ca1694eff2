/- Contract of path.Serial: a step with a number of ten digits behind it. -/
import Derived.Test.YtahcmfnpfepimaaPathA
namespace Go.Proofs.Ytahcmfnpfepimaa
open Go.RowKit
/-- a block known whole, a mark behind its cells -/
def Bm (w : World) (g : Nat) (cs : Array Value) (t : TypeId) : Prop := w.heap[g]? = some (.cells cs t (cs.size, cs.size + 1))
theorem Bm.cell {w : World} {g : Nat} {cs : Array Value} {t : TypeId} (h : Bm w g cs t) (i : Nat) : w.cell? ⟨g, i, none⟩ = cs[i]? := by unfold Bm at h; simp [World.cell?, h]
theorem Bm.frozen {w : World} {g : Nat} {cs : Array Value} {t : TypeId} (h : Bm w g cs t) {i : Nat} (hi : i < cs.size) : w.frozen? ⟨g, i, none⟩ = false := by
  unfold Bm at h
  simp [World.frozen?, h]
  omega
theorem Bm.set {w : World} {g : Nat} {cs : Array Value} {t : TypeId} (h : Bm w g cs t) (i : Nat) (v : Value) : Bm (w.setCell ⟨g, i, none⟩ v) g (cs.setIfInBounds i v) t := by
  unfold Bm at h ⊢
  simp [World.setCell, Array.getElem?_modify, h]
def bv (c : UInt8) : Value := .int .u8 (c.toNat : Int)
/-- bytes, and what lies behind them -/
def rowOf (l : List UInt8) (z : List Value) : Array Value := (l.map bv ++ z).toArray
theorem rowOf_get (l : List UInt8) (z : List Value) (i : Nat) (h : i < l.length) : (rowOf l z)[i]? = some (bv l[i]) := by
  unfold rowOf
  simp [List.getElem?_append_left, h]
theorem rowOf_set (l : List UInt8) (z : List Value) (i : Nat) (h : i < l.length) (c : UInt8) : (rowOf l z).setIfInBounds i (bv c) = rowOf (l.set i c) z := by
  unfold rowOf
  apply Array.ext'
  simp [List.set_append_left, h, List.map_set]
theorem rowOf_size (l : List UInt8) (z : List Value) : (rowOf l z).size = l.length + z.length := by simp [rowOf]

theorem serial_start (w : World) (s : ByteArray) (n : Nat) (e : TypeId) (cap : Nat) :
    Bm ((w.alloc (.cells (bytesRow (s ++ ⟨#[48, 48, 48, 48, 48, 48, 48, 48, 48, 48]⟩) cap) e ((bytesRow (s ++ ⟨#[48, 48, 48, 48, 48, 48, 48, 48, 48, 48]⟩) cap).size, (bytesRow (s ++ ⟨#[48, 48, 48, 48, 48, 48, 48, 48, 48, 48]⟩) cap).size + 1))).drew)
      w.heap.size (rowOf (bs s ++ part 0 n) (List.replicate (cap - (s.size + 10)) (.int .u8 0))) e ∧
    Below w.heap.size w ((w.alloc (.cells (bytesRow (s ++ ⟨#[48, 48, 48, 48, 48, 48, 48, 48, 48, 48]⟩) cap) e ((bytesRow (s ++ ⟨#[48, 48, 48, 48, 48, 48, 48, 48, 48, 48]⟩) cap).size, (bytesRow (s ++ ⟨#[48, 48, 48, 48, 48, 48, 48, 48, 48, 48]⟩) cap).size + 1))).drew) := by
  have hC : bytesRow (s ++ ⟨#[48, 48, 48, 48, 48, 48, 48, 48, 48, 48]⟩) cap = rowOf (bs s ++ part 0 n) (List.replicate (cap - (s.size + 10)) (.int .u8 0)) := by
    apply Array.ext'
    have h1 : (s ++ (⟨#[48, 48, 48, 48, 48, 48, 48, 48, 48, 48]⟩ : ByteArray)).data.toList = bs s ++ List.replicate 10 48 := by
      simp [bs]
    have h2 : (s ++ (⟨#[48, 48, 48, 48, 48, 48, 48, 48, 48, 48]⟩ : ByteArray)).size = s.size + 10 := by simp; rfl
    simp only [bytesRow, rowOf, Array.toList_append, Array.toList_map, h1, h2, Array.toList_replicate]
    simp [part, digs]
    rfl
  rw [hC]
  refine ⟨?_, ((Below.refl _ _).alloc (Nat.le_refl _) _).drew⟩
  exact heap_alloc_new w _
theorem byte_of (m : Nat) : (48 : Int) + (m : Int) % 10 = ((UInt8.ofNat (48 + m % 10)).toNat : Int) := by
  simp
  omega
theorem serial_rel {w : World} {g e n j q : Nat} {s : ByteArray} {z : List Value} (h : Bm w g (rowOf (bs s ++ part j n) z) e) (hj : j < 10) (hq : (q : Int) = s.size + 9 - j) :
    Bm (w.setCell ⟨g, q, none⟩ (.int .u8 (48 + ((n / 10 ^ j : Nat) : Int) % 10))) g (rowOf (bs s ++ part (j + 1) n) z) e := by
  have h1 := h.set q (.int .u8 (48 + ((n / 10 ^ j : Nat) : Int) % 10))
  have hv : (Value.int .u8 (48 + ((n / 10 ^ j : Nat) : Int) % 10)) = bv (UInt8.ofNat (48 + n / 10 ^ j % 10)) := by rw [bv, ← byte_of]
  have hl : (bs s ++ part j n).length = s.size + 10 := by rw [List.length_append, length_bs, length_part j n (by omega)]
  rw [hv] at h1 ⊢
  rw [rowOf_set _ _ _ (by omega), List.set_append_right _ _ (by rw [length_bs]; omega), length_bs, show q - s.size = 9 - j from by omega, part_set j n hj] at h1
  exact h1
theorem serial_at {w : World} {g e n j q : Nat} {s : ByteArray} {z : List Value} (h : Bm w g (rowOf (bs s ++ part j n) z) e) (hj : j < 10) (hq : (q : Int) = s.size + 9 - j) :
    (∃ c, w.cell? ⟨g, q, none⟩ = some (bv c)) ∧ w.frozen? ⟨g, q, none⟩ = false := by
  have hl : (bs s ++ part j n).length = s.size + 10 := by rw [List.length_append, length_bs, length_part j n (by omega)]
  exact ⟨⟨_, by rw [h.cell, rowOf_get _ _ _ (by omega)]⟩, h.frozen (by rw [rowOf_size]; omega)⟩

theorem bs_mk (L : List UInt8) : bs ⟨L.toArray⟩ = L := rfl
theorem serial_back {P : Program} {w : World} {g e src dst N cap : Nat} {L : List UInt8} {z : List Value} (h : Bm w g (rowOf L z) e) (hN : L.length = N) (hs : P.underlying src = some (.slice e)) (he : P.underlying e = some (.int .u8)) (hd : P.underlying dst = some .string) :
    (convert src dst (.slice (some ⟨g, 0, none⟩) N cap)).run P w = .ok (.string ⟨L.toArray⟩) w := by
  subst hN
  refine run_convert_bytes_back w src dst e ⟨g, 0, none⟩ cap L hs he hd (fun j hj => ?_)
  have hadd : (⟨g, 0, none⟩ : Addr).add j = ⟨g, j, none⟩ := by unfold Addr.add; split <;> simp_all
  rw [hadd, h.cell, rowOf_get _ _ _ hj]
  rfl
/-- what Serial answers when the step with its digits is L -/
def serialR (L : List UInt8) : Ending := if named L then .returned (.tuple #[.string ⟨L.toArray⟩, .int .i64 0]) else .returned (.tuple #[.string ⟨#[]⟩, .int .i64 2])
set_option maxRecDepth 100000 in
set_option maxHeartbeats 400000 in
theorem serial_walk (s : ByteArray) (n : Nat) (L : List UInt8) (hL : Hid (bs s ++ digs 10 n = L)) (w : World) (hn : n ≤ 2147483647) (hs : s.size ≤ 140737488351232) :
    Calls Try.prog 21 #[.string s, .int .i64 n] w fun e w' => e = serialR L ∧ Below w.heap.size w w' := by
  have hconv := fun (w : World) (s : ByteArray) => run_bytes_of_string (P := Try.prog) w 9 86 5 s Try.underlying9 Try.underlying86 Try.underlying5
  go_enter Try.func21, Try.ntmps21
  go_wp2
  obtain ⟨f1, f2⟩ := serial_start w s n 5 (grownCap w (s.size + 10) 0 5)
  generalize World.drew (World.alloc w _) = W1 at f1 f2 ⊢
  generalize grownCap w (s.size + 10) 0 5 = cap at f1 ⊢
  generalize List.replicate (cap - (s.size + 10)) (Value.int .u8 0) = z at f1
  generalize hg : w.heap.size = g at f1 f2 ⊢
  have Hg := Lib.hid hg
  clear hg
  have F1 := Lib.hid f1
  clear f1 hconv
  go_loopw [1, 7] (fun n' i wr => ∃ (j m : Nat) (q : Int), j ≤ 10 ∧ m ≤ 2147483647 ∧ n' = .int .i64 m ∧ i = .int .i64 q ∧ q ≤ s.size + 9 ∧ Hid (m = n / 10 ^ j) ∧ Hid (q = s.size + 9 - j) ∧ Hid (Bm wr g (rowOf (bs s ++ part j n) z) 5) ∧ Below g w wr) (fun n' _ _ => (intOf n').toNat)
  case atStart => exact ⟨0, n, _, by omega, hn, rfl, rfl, by omega, (by simp : n = n / 10 ^ 0), (by simp; omega : ((s.size : Int) + 10 - 1 = s.size + 9 - (0 : Nat))), F1, f2⟩
  case round =>
    obtain ⟨j, m, q, hj, hm, rfl, rfl, hq9, Hm, Hq, HB, hb⟩ := hrel
    clear F1
    by_cases hpos : 0 < m
    · have hj10 : j < 10 := lt_ten hn (by rw [← Hm.out]; exact hpos)
      obtain ⟨q', rfl⟩ : ∃ q' : Nat, q = q' := ⟨q.toNat, by have := Hq.out; omega⟩
      obtain ⟨⟨c, hc⟩, hf⟩ := serial_at HB.out hj10 Hq.out
      have HR := Lib.hid (serial_rel HB.out hj10 Hq.out)
      have hqs : (q' : Int) < s.size + 10 := by omega
      go_wp2
      go_roundw
      case rel =>
        refine ⟨j + 1, m / 10, (q' : Int) - 1, by omega, by omega, by go_num, rfl, by omega, ?_, ?_, ?_, hb.setCell (Nat.le_refl _) _⟩
        · show m / 10 = n / 10 ^ (j + 1)
          rw [Hm.out, Nat.div_div_eq_div_mul, Nat.pow_succ]
        · show (q' : Int) - 1 = s.size + 9 - ((j + 1 : Nat) : Int)
          have := Hq.out
          omega
        · have := HR.out
          rw [← Hm.out] at this
          exact this
      case measure => simp [intOf]; omega
    · have hm0 : m ≤ 0 := by omega
      have HB2 : Bm wr g (rowOf L z) 5 := by rw [← hL.out, ← part_end j n hj (by have := Hm.out; omega)]; exact HB.out
      have hback := serial_back HB2 (cap := cap) (by rw [← hL.out, List.length_append, length_bs, length_digs]) Try.underlying86 Try.underlying5 Try.underlying9
      have hLs : (⟨L.toArray⟩ : ByteArray).size ≤ 9223372036854775807 := by
        show L.toArray.size ≤ _
        rw [← hL.out]
        simp [length_digs]
        omega
      have HLs := Lib.hid hLs
      clear HB Hm Hq HB2 hLs
      cases hnm : named L
      all_goals
        go_wp2_with (go_at_call 22; refine (named_any _ _ HLs.out).mono ?_; rw [bs_mk, hnm]; rintro e w1 ⟨rfl, rfl⟩)
        go_ret2
        exact ⟨by unfold serialR; rw [hnm]; rfl, by rw [Hg.out]; exact hb⟩
theorem serial_range (s : ByteArray) (n : Int) (w : World) (hn : n < 0 ∨ 2147483647 < n) :
    Calls Try.prog 21 #[.string s, .int .i64 n] w fun e w' => e = .returned (.tuple #[.string ⟨#[]⟩, .int .i64 3]) ∧ w = w' := by
  go_enter Try.func21, Try.ntmps21
  go_wp2
  all_goals
    go_ret2
    exact ⟨rfl, rfl⟩
end Go.Proofs.Ytahcmfnpfepimaa
