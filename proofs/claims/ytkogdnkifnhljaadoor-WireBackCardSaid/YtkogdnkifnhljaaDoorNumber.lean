/- wire's cursor: number. -/
import Derived.Test.YtkogdnkifnhljaaDoorCursor
namespace Go.Proofs.YtkogdnkifnhljaaDoor
open Go.RowKit Go.ChangeShapes Go.WideShapes Go.ChangeAt
def valI (l : List UInt8) : Int := l.foldl (fun v c => wrap64 (v * 256 + (c.toNat : Int))) 0
theorem valI_snoc (l : List UInt8) (c : UInt8) : valI (l ++ [c]) = wrap64 (valI l * 256 + (c.toNat : Int)) := by unfold valI; rw [List.foldl_append]; rfl
theorem ofInt64_toNat (a : Int) : (BitVec.ofInt 64 a).toNat = (a % 18446744073709551616).toNat := by
  simp [BitVec.ofInt, Int.emod_def]
theorem bits_or8 (n : Int) (c : Nat) (hc : c < 256) : bits .or .i64 (wrap64 (n * 256)) (c : Int) = wrap64 (n * 256 + (c : Int)) := by
  have h1 : (BitVec.ofInt 64 (wrap64 (n * 256))).toNat = ((n % 72057594037927936).toNat) * 256 := by
    rw [ofInt64_toNat]; unfold wrap64; omega
  have h2 : (BitVec.ofInt 64 (c : Int)).toNat = c := by rw [ofInt64_toNat]; omega
  show IntKind.i64.wrap ((BitVec.ofInt 64 (wrap64 (n * 256)) ||| BitVec.ofInt 64 (c : Int)).toNat : Int) = _
  rw [BitVec.toNat_or, h1, h2]
  have h3 : (n % 72057594037927936).toNat * 256 ||| c = (n % 72057594037927936).toNat * 256 + c := by
    have := Nat.two_pow_add_eq_or_of_lt (i := 8) (b := c) (by omega) ((n % 72057594037927936).toNat)
    rw [Nat.mul_comm] at this
    exact this.symm
  rw [h3]
  unfold IntKind.wrap wrap64
  simp [IntKind.signed, IntKind.bits]
  omega
theorem takeT_size (s : ByteArray) (bad : Bool) (n : Nat) : (takeT s bad n).size ≤ s.size := by
  unfold takeT
  split
  · exact Nat.zero_le _
  · rw [ByteArray.size_extract]; omega
theorem cur_below {w w' : World} {g : Nat} {s : ByteArray} {bad : Bool} (h : Cur w g s bad) (hb : Below w.heap.size w w') : Cur w' g s bad := by
  obtain ⟨h1, h2, h3, h4⟩ := h
  have hg : g < w.heap.size := World.block_lt_of_cell? w _ h1
  exact ⟨(hb.cell (p := ⟨g, 0, none⟩) hg).trans h1, (hb.cell (p := ⟨g, 1, none⟩) hg).trans h2, (World.frozen?_of_block (a := ⟨g, 0, none⟩) (hb.block g hg)).trans h3, (World.frozen?_of_block (a := ⟨g, 1, none⟩) (hb.block g hg)).trans h4⟩
theorem below_grownBy {w w' : World} (hb : Below w.heap.size w w') (g : Nat) : w.grownBy w' (some g) := ⟨hb.os, hb.tape, hb.output, hb.size, fun k hk _ => hb.block k hk⟩
set_option maxHeartbeats 1000000 in
theorem number_any (g : Nat) (s : ByteArray) (bad : Bool) (n : Nat) (w : World) (h : Cur w g s bad) (hn : n < 4611686018427387904) (hs : s.size ≤ 4611686018427387904) :
    Calls Tryd.prog 47 #[.pointer (some ⟨g, 0, none⟩), .int .i64 n] w fun e w' => e = .returned (.int .i64 (valI (bs (takeT s bad n)))) ∧ Cur w' g (restT s bad n) (badT s bad n) ∧ w.grownBy w' (some g) := by
  have hconv := fun (w : World) (s : ByteArray) => run_bytes_of_string (P := Tryd.prog) w 9 67 5 s Tryd.underlying9 Tryd.underlying67 Tryd.underlying5
  have HT := Lib.hid (text_any g s bad n w h hn hs)
  have hz := takeT_size s bad n
  generalize takeT s bad n = t at *
  generalize restT s bad n = r at *
  generalize badT s bad n = b' at *
  clear h
  go_enter Tryd.func47, Tryd.ntmps47
  go_wp2_with (go_at_call 46; refine (HT.out).mono ?_; rintro e w1 ⟨rfl, hc1, hg1⟩; have HC1 := Lib.hid hc1; have HG1 := Lib.hid hg1; clear hc1 hg1 HT)
  have HC2 := Lib.hid (fun (j : Nat) (c : UInt8) (h : (bs t)[j]? = some c) => show ((w1.alloc (.cells (bytesRow t (grownCap w1 t.size 0 5)) 5 ((bytesRow t (grownCap w1 t.size 0 5)).size, (bytesRow t (grownCap w1 t.size 0 5)).size + 1))).drew).cell? ⟨w1.heap.size, j, none⟩ = some (.int .u8 (c.toNat : Int)) from row_cell w1 t _ _ _ j c h)
  have hB1 : Below w1.heap.size w1 ((w1.alloc (.cells (bytesRow t (grownCap w1 t.size 0 5)) 5 ((bytesRow t (grownCap w1 t.size 0 5)).size, (bytesRow t (grownCap w1 t.size 0 5)).size + 1))).drew) := (by repeat (first | exact Below.refl _ _ | assumption | refine Below.drew ?_ | refine Below.drewN' ?_ _ | refine below_grow0 _ _ ?_ | refine below_alloc0 _ ?_ | refine Below.alloc ?_ (by first | omega | (simp; done) | (simp; omega)) _ | refine Below.setCell ?_ (by first | omega | (simp; done) | (simp; omega)) _ | refine Below.grow _ _ _ ?_ (by first | omega | (simp; done) | (simp; omega))))
  have HCU := Lib.hid (cur_below HC1.out hB1)
  have HGR := Lib.hid (HG1.out.trans (below_grownBy hB1 g))
  clear HC1 HG1 hB1
  generalize ((w1.alloc (.cells (bytesRow t (grownCap w1 t.size 0 5)) 5 ((bytesRow t (grownCap w1 t.size 0 5)).size, (bytesRow t (grownCap w1 t.size 0 5)).size + 1))).drew) = W1 at *
  generalize grownCap w1 t.size 0 5 = cap at *
  go_loopw [5, 13] (fun v i wr => ∃ k : Nat, k ≤ t.size ∧ v = .int .i64 (valI ((bs t).take k)) ∧ i = .int .i64 k ∧ wr = W1) (fun _ i _ => t.size - (intOf i).toNat)
  case atStart => exact ⟨0, Nat.zero_le _, rfl, rfl, rfl⟩
  case round =>
    obtain ⟨k, hk, rfl, rfl, rfl⟩ := hrel
    have hlen := length_bs t
    by_cases hlt : k < t.size
    · have hx : (bs t)[k]? = some ((bs t)[k]'(by omega)) := List.getElem?_eq_getElem _
      have hc := HC2.out k _ hx
      have htk : (bs t).take (k + 1) = (bs t).take k ++ [(bs t)[k]'(by omega)] := by rw [List.take_add_one, hx]; rfl
      generalize (bs t)[k]'(by omega) = c at *
      have hc255 : c.toNat < 256 := c.toNat_lt
      have HV := Lib.hid (show valI ((bs t).take (k + 1)) = wrap64 (valI ((bs t).take k) * 256 + (c.toNat : Int)) by rw [htk, valI_snoc])
      generalize valI ((bs t).take k) = n0 at *
      clear htk hx
      go_wp2_with fail
      exact ⟨⟨k + 1, by omega, by rw [HV.out, bits_or8 n0 c.toNat hc255], by go_num, trivial⟩, by simp [intOf]; omega⟩
    · have hk' : k = t.size := by omega
      subst hk'
      rw [List.take_of_length_le (by omega)]
      go_wp2_with fail
      go_ret
      exact ⟨rfl, HCU.out, HGR.out⟩
end Go.Proofs.YtkogdnkifnhljaaDoor
