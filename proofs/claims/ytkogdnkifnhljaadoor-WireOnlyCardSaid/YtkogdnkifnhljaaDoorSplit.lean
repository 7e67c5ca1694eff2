/- strings.SplitSeq at a separator of one byte: its iterator, which keeps the rest in a cell of its own. -/
import Derived.Test.YtkogdnkifnhljaaDoorRange
import Derived.Test.YtkogdnkifnhljaaDoorShelf
import Derived.Shelf.Abstract
import Derived.Shelf.RegionOpen
import Derived.OwnWalkIn
import Derived.TacticsInMore
import Derived.LoopNIn
import Derived.LoopIn
import Derived.Lib.IndexLaws
namespace Go.Proofs.YtkogdnkifnhljaaDoor
open Go.RowKit Go.Shelf
attribute [local go_sem] Oper.semAt_some
/-- the parts of a text between slashes -/
def stepsB (s : ByteArray) : List ByteArray :=
  if h : 0 ≤ Lib.indexByte s.data.toList 47 ∧ (Lib.indexByte s.data.toList 47).toNat < s.size then s.extract 0 (Lib.indexByte s.data.toList 47).toNat :: stepsB (s.extract ((Lib.indexByte s.data.toList 47).toNat + 1) s.size) else [s]
termination_by s.size
decreasing_by rw [ByteArray.size_extract]; omega
theorem index_lt {s : ByteArray} {o : Nat} (h : Lib.indexByte s.data.toList 47 = o) : o < s.size := by
  have := (Lib.indexByte_some h).1
  have h2 := (List.getElem?_eq_some_iff.1 this).1
  simpa using h2
theorem stepsB_no {s : ByteArray} (h : Lib.indexByte s.data.toList 47 < 0) : stepsB s = [s] := by
  rw [stepsB, dif_neg (fun k => by omega)]
theorem stepsB_yes {s : ByteArray} {o : Nat} (h : Lib.indexByte s.data.toList 47 = o) : stepsB s = s.extract 0 o :: stepsB (s.extract (o + 1) s.size) := by
  have := index_lt h
  rw [stepsB, dif_pos ⟨by omega, by omega⟩, h]
  rfl
def leftS (b : Nat) (w : World) : Nat := match w.cell? ⟨b, 0, none⟩ with
  | some (.string r) => r.size
  | _ => 0
theorem leftS_eq {b : Nat} {w : World} {r : ByteArray} (h : w.cell? ⟨b, 0, none⟩ = some (.string r)) : leftS b w = r.size := by unfold leftS; rw [h]
set_option maxHeartbeats 1000000 in
theorem split_stops (n : Nat) (hn : 1 ≤ n) (w : World) (b b1 b2 : Nat) (s : ByteArray) (c0 : w.cell? ⟨b, 0, none⟩ = some (.string s)) (f0 : w.frozen? ⟨b, 0, none⟩ = false) (c1 : w.cell? ⟨b1, 0, none⟩ = some (.string ⟨#[47]⟩)) (c2 : w.cell? ⟨b2, 0, none⟩ = some (.int .i64 0)) (n1 : b1 ≠ b) (n2 : b2 ≠ b) (hs : s.size ≤ 4611686018427387904) :
    SeqCells Fence.wide n Tryd.prog 65 #[.pointer (some ⟨b1, 0, none⟩), .pointer (some ⟨b, 0, none⟩), .pointer (some ⟨b2, 0, none⟩)] (fun x : ByteArray => #[.string x]) b w.heap.size (stepsB s) w := by
  intro l J Jx W hW hJs hY h0
  have hb : b < w.heap.size := World.block_lt_of_cell? w _ c0
  have hb1 : b1 < w.heap.size := World.block_lt_of_cell? w _ c1
  have hb2 : b2 < w.heap.size := World.block_lt_of_cell? w _ c2
  have C0 := (hW.cell (p := ⟨b, 0, none⟩) hb).trans c0
  have C1 := (hW.cell (p := ⟨b1, 0, none⟩) hb1).trans c1
  have C2 := (hW.cell (p := ⟨b2, 0, none⟩) hb2).trans c2
  have F0 := (World.frozen?_of_block (a := ⟨b, 0, none⟩) (hW.block b hb)).trans f0
  refine callsIn_of_wp Tryd.func65 rfl trivial ?_ rfl
  simp only [Tryd.ntmps65, List.size_toArray, List.length_cons, List.length_nil, Nat.reduceAdd, Nat.reduceSub, Array.replicate_succ, Array.replicate_zero, List.push_toArray, List.append_toArray, List.nil_append, List.cons_append]
  gi_wp2
  gi_loopw [7] (fun i wr => ∃ (k : Int) (pre : List ByteArray) (r : ByteArray), (i = .int .i64 k ∨ i = undef) ∧ Hid (pre ++ stepsB r = stepsB s) ∧ J pre wr ∧ wr.cell? ⟨b, 0, none⟩ = some (.string r) ∧ wr.cell? ⟨b1, 0, none⟩ = some (.string ⟨#[47]⟩) ∧ wr.cell? ⟨b2, 0, none⟩ = some (.int .i64 0) ∧ wr.frozen? ⟨b, 0, none⟩ = false ∧ r.size ≤ s.size) (fun _ wr => leftS b wr)
  case atStart => exact ⟨0, [], s, .inr rfl, Lib.hid rfl, h0, C0, C1, C2, F0, Nat.le_refl _⟩
  case round =>
    obtain ⟨k, pre, r, _, hst, hJ, d0, d1, d2, df, hrs⟩ := hrel
    clear C0 C1 C2 F0 c0 c1 c2 f0
    have hm := leftS_eq d0
    have hge := Lib.indexByte_ge r.data.toList 47
    rcases Int.lt_or_le (Lib.indexByte r.data.toList 47) 0 with hi | hi
    · have hlast := stepsB_no hi
      have hi1 : Lib.indexByte r.data.toList 47 = -1 := by omega
      obtain ⟨fn, tmps, assign, body, hy, hR⟩ := hY pre r wr hJ (by rw [← hst.out, hlast]; exact List.prefix_refl _)
      have HST := Lib.hid (show pre ++ [r] = stepsB s by rw [← hst.out, hlast])
      clear hst hlast hY
      gi_wp2_with (refine ⟨trivial, ?_⟩; gi_at_call 56; refine (callsIn_wide.2 (Tryd.strings_Index_one _ _ _)).mono ?_; rintro e w' ⟨rfl, rfl⟩; rw [hi1])
      refine hR.mono ?_
      rintro e W3 (⟨rfl, hJ3, hk3⟩ | ⟨rfl, hJx3⟩)
      · gi_wp2
        go_end0
        exact ⟨⟨_, rfl⟩, .inl (by rw [← HST.out]; exact hJ3)⟩
      · gi_wp2
        go_end0
        exact ⟨⟨_, rfl⟩, .inr ⟨_, hJx3⟩⟩
    · obtain ⟨o, ho⟩ := Int.eq_ofNat_of_zero_le hi
      have hlt := index_lt ho
      have hyes := stepsB_yes ho
      obtain ⟨fn, tmps, assign, body, hy, hR⟩ := hY pre (r.extract 0 o) wr hJ (by rw [← hst.out, hyes]; exact ⟨stepsB (r.extract (o + 1) r.size), by simp⟩)
      have HST := Lib.hid (show (pre ++ [r.extract 0 o]) ++ stepsB (r.extract (o + 1) r.size) = stepsB s by rw [← hst.out, hyes, List.append_assoc]; rfl)
      clear hst hyes hY
      gi_wp2_with (refine ⟨trivial, ?_⟩; gi_at_call 56; refine (callsIn_wide.2 (Tryd.strings_Index_one _ _ _)).mono ?_; rintro e w' ⟨rfl, rfl⟩; rw [ho])
      refine hR.mono ?_
      rintro e W3 (⟨rfl, hJ3, hk3⟩ | ⟨rfl, hJx3⟩)
      · have e0 := (hk3.cell (p := ⟨b, 0, none⟩) hb).trans d0
        have e1 := (hk3.cell (p := ⟨b1, 0, none⟩) hb1).trans d1
        have e2 := (hk3.cell (p := ⟨b2, 0, none⟩) hb2).trans d2
        have ef := (World.frozen?_of_block (a := ⟨b, 0, none⟩) (hk3.block b hb)).trans df
        clear d0 d1 d2 df
        gi_wp2
        have g0 : (W3.setCell ⟨b, 0, none⟩ (.string (r.extract (o + 1) r.size))).cell? ⟨b, 0, none⟩ = some (.string (r.extract (o + 1) r.size)) := World.cell?_setCell_same' _ _ _ (by rw [e0]; rfl)
        have hsz : (r.extract (o + 1) r.size).size = r.size - (o + 1) := by rw [ByteArray.size_extract]; omega
        go_roundw
        case rel => exact ⟨_, _, _, .inl rfl, HST, hJs _ _ _ hJ3, g0, (World.cell?_setCell_other _ _ _ _ (fun h => n1 (by injection h with h; exact h.symm))).trans e1, (World.cell?_setCell_other _ _ _ _ (fun h => n2 (by injection h with h; exact h.symm))).trans e2, by rw [World.frozen?_setCell]; exact ef, by omega⟩
        case measure => rw [leftS_eq g0, hm, hsz]; omega
      · gi_wp2
        refine bodyPost_ret (results_none rfl _ _ _) rfl ?_
        exact ⟨⟨_, rfl⟩, .inr ⟨_, hJx3⟩⟩
end Go.Proofs.YtkogdnkifnhljaaDoor
