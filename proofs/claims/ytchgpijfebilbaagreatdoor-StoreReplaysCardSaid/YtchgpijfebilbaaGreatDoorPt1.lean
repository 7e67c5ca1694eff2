/- Lemmas for the statement: Base, Range, Shelf, Split, Types, PathA. -/
import Derived.Test.YtchgpijfebilbaaGreatDoorRows
import Derived.WalkKit
import Derived.WalkSpells
import Derived.WalkLawsBesides
import Derived.ProofKit
import Derived.OpenShut
import Derived.SizedLaws
import Derived.Lib.Hide
import Derived.Lib.SliceRun
import Derived.Deep.Slices
import Derived.Deep.Fields
import Derived.Deep.Draws
import Derived.Maps.AppendAt
import Derived.BigQuiet
import Derived.Deep.QuietTactic
import Derived.RangeFuncNested
import Derived.RangeFuncBound
import Derived.RangeFuncCalls
import Derived.RangeFuncLeaves
import Derived.Shelf.Small.Strs
import Derived.Shelf.Small.Wraps
import Derived.Shelf.Strings.Search1
import Derived.Shelf.Strings.Search2
import Derived.Shelf.Strings.Search3
import Derived.Shelf.Strings.Cut
import Derived.Shelf.LaysM
import Derived.Shelf.Strings.Shaped
import Derived.Shelf.Strings.LastIndex
import Derived.Shelf.Strings.Prefix
import Derived.Shelf.Unicode.DecodeSlow
import Derived.Shelf.Slices.Reverse
import Derived.Ground.Names2Prog
import Derived.Shelf.Slices.Clone
import Derived.Shelf.Slices.SearchI
import Derived.Shelf.Slices.Delete
import Derived.Shelf.Slices.Cells
import Derived.Shelf.Slices.Empties
import Derived.Test.YtchgpijfebilbaaGreatDoorProg
import Derived.Shelf.Abstract
import Derived.Shelf.RegionOpen
import Derived.OwnWalkIn
import Derived.TacticsInMore
import Derived.LoopNIn
import Derived.LoopIn
import Derived.Lib.IndexLaws
import Derived.Lib.ConvBytes
import Derived.Laws.IdiomStrings
/- Base: readings of arguments as rows of cells, slices that the call owns, append, and the closing of a law. No program is in sight here but by variable. -/
namespace Go.Proofs.YtchgpijfebilbaaGreatDoor
open Go.RowKit Go.ChangeShapes Go.WideShapes Go.Deep
set_option linter.unusedVariables false

/-! ### addresses -/
theorem add_zero' (a : Addr) : a.add 0 = a := by simp [Addr.add]

/-! ### what the world keeps -/
theorem keep2 {W w1 : World} (hb : Below W.heap.size W w1) {b o : Nat} {v : Value} (h : W.cell? ⟨b, o, none⟩ = some v) : w1.cell? ⟨b, o, none⟩ = some v := (hb.cell (p := ⟨b, o, none⟩) (World.block_lt_of_cell? W ⟨b, o, none⟩ h)).trans h
theorem Below.drewN' {B : Nat} {a w : World} (h : Below B a w) (n : Nat) : Below B a (w.drewN n) := ⟨h.os, h.tape, h.output, h.size, h.block⟩
theorem Below.of_grown {w w' : World} (h : w.grownBy w' none) : Below w.heap.size w w' := ⟨h.os, h.tape, h.output, h.size, fun k hk => h.block k hk (by simp)⟩
theorem Below.tr {B : Nat} {a b c : World} (h : Below B a b) (hB : B ≤ b.heap.size) (k : Below b.heap.size b c) : Below B a c := h.trans (k.mono hB)
theorem Below.own {a b c : World} (h : Below a.heap.size a b) (k : Below b.heap.size b c) : Below a.heap.size a c := h.trans (k.mono h.size)

/-! ### behind a call of which 'Below' is known: the world as it was, grown by blocks of which nothing is said -/
def grow (W : World) (ext : Array Obj) (d : Nat) : World := { W with heap := W.heap ++ ext, drawn := d }
section
variable (W : World) (ext : Array Obj) (d : Nat)
@[simp, go_sem] theorem size_grow : (grow W ext d).heap.size = W.heap.size + ext.size := by simp [grow]
theorem heap_grow {k : Nat} (h : k < W.heap.size) : (grow W ext d).heap[k]? = W.heap[k]? := by
  show (W.heap ++ ext)[k]? = _
  rw [Array.getElem?_append_left h]
@[go_sem] theorem cell_grow (n i : Nat) (h : n < W.heap.size) : (grow W ext d).cell? ⟨n, i, none⟩ = W.cell? ⟨n, i, none⟩ := World.cell?_of_block (heap_grow W ext d h)
@[go_sem] theorem frozen_grow (n i : Nat) (h : n < W.heap.size) : (grow W ext d).frozen? ⟨n, i, none⟩ = W.frozen? ⟨n, i, none⟩ := World.frozen?_of_block (heap_grow W ext d h)
theorem block_lt_of_some {w : World} {p : Addr} (h : (w.cell? p).isSome = true) : p.block < w.heap.size := by
  obtain ⟨v, hv⟩ := Option.isSome_iff_exists.1 h
  exact World.block_lt_of_cell? w p hv
@[go_sem] theorem setCell_grow (n i : Nat) (v : Value) (h : n < W.heap.size) : (grow W ext d).setCell ⟨n, i, none⟩ v = grow (W.setCell ⟨n, i, none⟩ v) ext d := by
  unfold grow World.setCell
  congr 1
  apply Array.ext_getElem?
  intro k
  simp only [Array.getElem?_modify, Array.getElem?_append, Array.size_modify]
  by_cases hk : n = k
  · subst hk
    simp [h]
  · simp [hk]
@[go_sem] theorem cell_grow_some (p : Addr) (h : (W.cell? p).isSome = true) : (grow W ext d).cell? p = W.cell? p := World.cell?_of_block (heap_grow W ext d (block_lt_of_some h))
@[go_sem] theorem cell_alloc_some (p : Addr) (o : Obj) (h : (W.cell? p).isSome = true) : (W.alloc o).cell? p = W.cell? p := World.cell?_alloc_lt W o p (block_lt_of_some h)
@[go_sem] theorem frozen_grow_some (p : Addr) (h : (W.cell? p).isSome = true) : (grow W ext d).frozen? p = W.frozen? p := World.frozen?_of_block (heap_grow W ext d (block_lt_of_some h))
@[go_sem] theorem frozen_alloc_some (p : Addr) (o : Obj) (h : (W.cell? p).isSome = true) : (W.alloc o).frozen? p = W.frozen? p := World.frozen?_alloc_old W o p (Nat.ne_of_lt (block_lt_of_some h))
@[go_sem] theorem setCell_grow_some (n i : Nat) (v : Value) (h : (W.cell? ⟨n, i, none⟩).isSome = true) : (grow W ext d).setCell ⟨n, i, none⟩ v = grow (W.setCell ⟨n, i, none⟩ v) ext d := setCell_grow W ext d n i v (block_lt_of_some h)
@[go_sem] theorem setCell_alloc_some (n i : Nat) (v : Value) (o : Obj) (h : (W.cell? ⟨n, i, none⟩).isSome = true) : (W.alloc o).setCell ⟨n, i, none⟩ v = (W.setCell ⟨n, i, none⟩ v).alloc o := World.setCell_alloc_past o n i v (block_lt_of_some h)
@[go_sem] theorem cell_AA (p : Addr) (o0 : Obj) (o1 : Obj) (h : (W.cell? p).isSome = true) : ((W.alloc o0).alloc o1).cell? p = W.cell? p := (cell_alloc_some (W.alloc o0) p o1 (by rw [cell_alloc_some W p o0 h]; exact h)).trans (cell_alloc_some W p o0 h)
@[go_sem] theorem cell_AG (p : Addr) (o0 : Obj) (e1 : Array Obj) (d1 : Nat) (h : (W.cell? p).isSome = true) : (grow (W.alloc o0) e1 d1).cell? p = W.cell? p := (cell_grow_some (W.alloc o0) e1 d1 p (by rw [cell_alloc_some W p o0 h]; exact h)).trans (cell_alloc_some W p o0 h)
@[go_sem] theorem cell_GA (p : Addr) (e0 : Array Obj) (d0 : Nat) (o1 : Obj) (h : (W.cell? p).isSome = true) : ((grow W e0 d0).alloc o1).cell? p = W.cell? p := (cell_alloc_some (grow W e0 d0) p o1 (by rw [cell_grow_some W e0 d0 p h]; exact h)).trans (cell_grow_some W e0 d0 p h)
@[go_sem] theorem cell_GG (p : Addr) (e0 : Array Obj) (d0 : Nat) (e1 : Array Obj) (d1 : Nat) (h : (W.cell? p).isSome = true) : (grow (grow W e0 d0) e1 d1).cell? p = W.cell? p := (cell_grow_some (grow W e0 d0) e1 d1 p (by rw [cell_grow_some W e0 d0 p h]; exact h)).trans (cell_grow_some W e0 d0 p h)
@[go_sem] theorem cell_AAA (p : Addr) (o0 : Obj) (o1 : Obj) (o2 : Obj) (h : (W.cell? p).isSome = true) : (((W.alloc o0).alloc o1).alloc o2).cell? p = W.cell? p := (cell_alloc_some ((W.alloc o0).alloc o1) p o2 (by rw [cell_AA W p o0 o1 h]; exact h)).trans (cell_AA W p o0 o1 h)
@[go_sem] theorem cell_AAG (p : Addr) (o0 : Obj) (o1 : Obj) (e2 : Array Obj) (d2 : Nat) (h : (W.cell? p).isSome = true) : (grow ((W.alloc o0).alloc o1) e2 d2).cell? p = W.cell? p := (cell_grow_some ((W.alloc o0).alloc o1) e2 d2 p (by rw [cell_AA W p o0 o1 h]; exact h)).trans (cell_AA W p o0 o1 h)
@[go_sem] theorem cell_AGA (p : Addr) (o0 : Obj) (e1 : Array Obj) (d1 : Nat) (o2 : Obj) (h : (W.cell? p).isSome = true) : ((grow (W.alloc o0) e1 d1).alloc o2).cell? p = W.cell? p := (cell_alloc_some (grow (W.alloc o0) e1 d1) p o2 (by rw [cell_AG W p o0 e1 d1 h]; exact h)).trans (cell_AG W p o0 e1 d1 h)
@[go_sem] theorem cell_AGG (p : Addr) (o0 : Obj) (e1 : Array Obj) (d1 : Nat) (e2 : Array Obj) (d2 : Nat) (h : (W.cell? p).isSome = true) : (grow (grow (W.alloc o0) e1 d1) e2 d2).cell? p = W.cell? p := (cell_grow_some (grow (W.alloc o0) e1 d1) e2 d2 p (by rw [cell_AG W p o0 e1 d1 h]; exact h)).trans (cell_AG W p o0 e1 d1 h)
@[go_sem] theorem cell_GAA (p : Addr) (e0 : Array Obj) (d0 : Nat) (o1 : Obj) (o2 : Obj) (h : (W.cell? p).isSome = true) : (((grow W e0 d0).alloc o1).alloc o2).cell? p = W.cell? p := (cell_alloc_some ((grow W e0 d0).alloc o1) p o2 (by rw [cell_GA W p e0 d0 o1 h]; exact h)).trans (cell_GA W p e0 d0 o1 h)
@[go_sem] theorem cell_GAG (p : Addr) (e0 : Array Obj) (d0 : Nat) (o1 : Obj) (e2 : Array Obj) (d2 : Nat) (h : (W.cell? p).isSome = true) : (grow ((grow W e0 d0).alloc o1) e2 d2).cell? p = W.cell? p := (cell_grow_some ((grow W e0 d0).alloc o1) e2 d2 p (by rw [cell_GA W p e0 d0 o1 h]; exact h)).trans (cell_GA W p e0 d0 o1 h)
@[go_sem] theorem cell_GGA (p : Addr) (e0 : Array Obj) (d0 : Nat) (e1 : Array Obj) (d1 : Nat) (o2 : Obj) (h : (W.cell? p).isSome = true) : ((grow (grow W e0 d0) e1 d1).alloc o2).cell? p = W.cell? p := (cell_alloc_some (grow (grow W e0 d0) e1 d1) p o2 (by rw [cell_GG W p e0 d0 e1 d1 h]; exact h)).trans (cell_GG W p e0 d0 e1 d1 h)
@[go_sem] theorem cell_GGG (p : Addr) (e0 : Array Obj) (d0 : Nat) (e1 : Array Obj) (d1 : Nat) (e2 : Array Obj) (d2 : Nat) (h : (W.cell? p).isSome = true) : (grow (grow (grow W e0 d0) e1 d1) e2 d2).cell? p = W.cell? p := (cell_grow_some (grow (grow W e0 d0) e1 d1) e2 d2 p (by rw [cell_GG W p e0 d0 e1 d1 h]; exact h)).trans (cell_GG W p e0 d0 e1 d1 h)
@[go_sem] theorem cell_AAAA (p : Addr) (o0 : Obj) (o1 : Obj) (o2 : Obj) (o3 : Obj) (h : (W.cell? p).isSome = true) : ((((W.alloc o0).alloc o1).alloc o2).alloc o3).cell? p = W.cell? p := (cell_alloc_some (((W.alloc o0).alloc o1).alloc o2) p o3 (by rw [cell_AAA W p o0 o1 o2 h]; exact h)).trans (cell_AAA W p o0 o1 o2 h)
@[go_sem] theorem cell_AAAG (p : Addr) (o0 : Obj) (o1 : Obj) (o2 : Obj) (e3 : Array Obj) (d3 : Nat) (h : (W.cell? p).isSome = true) : (grow (((W.alloc o0).alloc o1).alloc o2) e3 d3).cell? p = W.cell? p := (cell_grow_some (((W.alloc o0).alloc o1).alloc o2) e3 d3 p (by rw [cell_AAA W p o0 o1 o2 h]; exact h)).trans (cell_AAA W p o0 o1 o2 h)
@[go_sem] theorem cell_AAGA (p : Addr) (o0 : Obj) (o1 : Obj) (e2 : Array Obj) (d2 : Nat) (o3 : Obj) (h : (W.cell? p).isSome = true) : ((grow ((W.alloc o0).alloc o1) e2 d2).alloc o3).cell? p = W.cell? p := (cell_alloc_some (grow ((W.alloc o0).alloc o1) e2 d2) p o3 (by rw [cell_AAG W p o0 o1 e2 d2 h]; exact h)).trans (cell_AAG W p o0 o1 e2 d2 h)
@[go_sem] theorem cell_AAGG (p : Addr) (o0 : Obj) (o1 : Obj) (e2 : Array Obj) (d2 : Nat) (e3 : Array Obj) (d3 : Nat) (h : (W.cell? p).isSome = true) : (grow (grow ((W.alloc o0).alloc o1) e2 d2) e3 d3).cell? p = W.cell? p := (cell_grow_some (grow ((W.alloc o0).alloc o1) e2 d2) e3 d3 p (by rw [cell_AAG W p o0 o1 e2 d2 h]; exact h)).trans (cell_AAG W p o0 o1 e2 d2 h)
@[go_sem] theorem cell_AGAA (p : Addr) (o0 : Obj) (e1 : Array Obj) (d1 : Nat) (o2 : Obj) (o3 : Obj) (h : (W.cell? p).isSome = true) : (((grow (W.alloc o0) e1 d1).alloc o2).alloc o3).cell? p = W.cell? p := (cell_alloc_some ((grow (W.alloc o0) e1 d1).alloc o2) p o3 (by rw [cell_AGA W p o0 e1 d1 o2 h]; exact h)).trans (cell_AGA W p o0 e1 d1 o2 h)
@[go_sem] theorem cell_AGAG (p : Addr) (o0 : Obj) (e1 : Array Obj) (d1 : Nat) (o2 : Obj) (e3 : Array Obj) (d3 : Nat) (h : (W.cell? p).isSome = true) : (grow ((grow (W.alloc o0) e1 d1).alloc o2) e3 d3).cell? p = W.cell? p := (cell_grow_some ((grow (W.alloc o0) e1 d1).alloc o2) e3 d3 p (by rw [cell_AGA W p o0 e1 d1 o2 h]; exact h)).trans (cell_AGA W p o0 e1 d1 o2 h)
@[go_sem] theorem cell_AGGA (p : Addr) (o0 : Obj) (e1 : Array Obj) (d1 : Nat) (e2 : Array Obj) (d2 : Nat) (o3 : Obj) (h : (W.cell? p).isSome = true) : ((grow (grow (W.alloc o0) e1 d1) e2 d2).alloc o3).cell? p = W.cell? p := (cell_alloc_some (grow (grow (W.alloc o0) e1 d1) e2 d2) p o3 (by rw [cell_AGG W p o0 e1 d1 e2 d2 h]; exact h)).trans (cell_AGG W p o0 e1 d1 e2 d2 h)
@[go_sem] theorem cell_AGGG (p : Addr) (o0 : Obj) (e1 : Array Obj) (d1 : Nat) (e2 : Array Obj) (d2 : Nat) (e3 : Array Obj) (d3 : Nat) (h : (W.cell? p).isSome = true) : (grow (grow (grow (W.alloc o0) e1 d1) e2 d2) e3 d3).cell? p = W.cell? p := (cell_grow_some (grow (grow (W.alloc o0) e1 d1) e2 d2) e3 d3 p (by rw [cell_AGG W p o0 e1 d1 e2 d2 h]; exact h)).trans (cell_AGG W p o0 e1 d1 e2 d2 h)
@[go_sem] theorem cell_GAAA (p : Addr) (e0 : Array Obj) (d0 : Nat) (o1 : Obj) (o2 : Obj) (o3 : Obj) (h : (W.cell? p).isSome = true) : ((((grow W e0 d0).alloc o1).alloc o2).alloc o3).cell? p = W.cell? p := (cell_alloc_some (((grow W e0 d0).alloc o1).alloc o2) p o3 (by rw [cell_GAA W p e0 d0 o1 o2 h]; exact h)).trans (cell_GAA W p e0 d0 o1 o2 h)
@[go_sem] theorem cell_GAAG (p : Addr) (e0 : Array Obj) (d0 : Nat) (o1 : Obj) (o2 : Obj) (e3 : Array Obj) (d3 : Nat) (h : (W.cell? p).isSome = true) : (grow (((grow W e0 d0).alloc o1).alloc o2) e3 d3).cell? p = W.cell? p := (cell_grow_some (((grow W e0 d0).alloc o1).alloc o2) e3 d3 p (by rw [cell_GAA W p e0 d0 o1 o2 h]; exact h)).trans (cell_GAA W p e0 d0 o1 o2 h)
@[go_sem] theorem cell_GAGA (p : Addr) (e0 : Array Obj) (d0 : Nat) (o1 : Obj) (e2 : Array Obj) (d2 : Nat) (o3 : Obj) (h : (W.cell? p).isSome = true) : ((grow ((grow W e0 d0).alloc o1) e2 d2).alloc o3).cell? p = W.cell? p := (cell_alloc_some (grow ((grow W e0 d0).alloc o1) e2 d2) p o3 (by rw [cell_GAG W p e0 d0 o1 e2 d2 h]; exact h)).trans (cell_GAG W p e0 d0 o1 e2 d2 h)
@[go_sem] theorem cell_GAGG (p : Addr) (e0 : Array Obj) (d0 : Nat) (o1 : Obj) (e2 : Array Obj) (d2 : Nat) (e3 : Array Obj) (d3 : Nat) (h : (W.cell? p).isSome = true) : (grow (grow ((grow W e0 d0).alloc o1) e2 d2) e3 d3).cell? p = W.cell? p := (cell_grow_some (grow ((grow W e0 d0).alloc o1) e2 d2) e3 d3 p (by rw [cell_GAG W p e0 d0 o1 e2 d2 h]; exact h)).trans (cell_GAG W p e0 d0 o1 e2 d2 h)
@[go_sem] theorem cell_GGAA (p : Addr) (e0 : Array Obj) (d0 : Nat) (e1 : Array Obj) (d1 : Nat) (o2 : Obj) (o3 : Obj) (h : (W.cell? p).isSome = true) : (((grow (grow W e0 d0) e1 d1).alloc o2).alloc o3).cell? p = W.cell? p := (cell_alloc_some ((grow (grow W e0 d0) e1 d1).alloc o2) p o3 (by rw [cell_GGA W p e0 d0 e1 d1 o2 h]; exact h)).trans (cell_GGA W p e0 d0 e1 d1 o2 h)
@[go_sem] theorem cell_GGAG (p : Addr) (e0 : Array Obj) (d0 : Nat) (e1 : Array Obj) (d1 : Nat) (o2 : Obj) (e3 : Array Obj) (d3 : Nat) (h : (W.cell? p).isSome = true) : (grow ((grow (grow W e0 d0) e1 d1).alloc o2) e3 d3).cell? p = W.cell? p := (cell_grow_some ((grow (grow W e0 d0) e1 d1).alloc o2) e3 d3 p (by rw [cell_GGA W p e0 d0 e1 d1 o2 h]; exact h)).trans (cell_GGA W p e0 d0 e1 d1 o2 h)
@[go_sem] theorem cell_GGGA (p : Addr) (e0 : Array Obj) (d0 : Nat) (e1 : Array Obj) (d1 : Nat) (e2 : Array Obj) (d2 : Nat) (o3 : Obj) (h : (W.cell? p).isSome = true) : ((grow (grow (grow W e0 d0) e1 d1) e2 d2).alloc o3).cell? p = W.cell? p := (cell_alloc_some (grow (grow (grow W e0 d0) e1 d1) e2 d2) p o3 (by rw [cell_GGG W p e0 d0 e1 d1 e2 d2 h]; exact h)).trans (cell_GGG W p e0 d0 e1 d1 e2 d2 h)
@[go_sem] theorem cell_GGGG (p : Addr) (e0 : Array Obj) (d0 : Nat) (e1 : Array Obj) (d1 : Nat) (e2 : Array Obj) (d2 : Nat) (e3 : Array Obj) (d3 : Nat) (h : (W.cell? p).isSome = true) : (grow (grow (grow (grow W e0 d0) e1 d1) e2 d2) e3 d3).cell? p = W.cell? p := (cell_grow_some (grow (grow (grow W e0 d0) e1 d1) e2 d2) e3 d3 p (by rw [cell_GGG W p e0 d0 e1 d1 e2 d2 h]; exact h)).trans (cell_GGG W p e0 d0 e1 d1 e2 d2 h)
@[go_sem] theorem frozen_AA (p : Addr) (o0 : Obj) (o1 : Obj) (h : (W.cell? p).isSome = true) : ((W.alloc o0).alloc o1).frozen? p = W.frozen? p := (frozen_alloc_some (W.alloc o0) p o1 (by rw [cell_alloc_some W p o0 h]; exact h)).trans (frozen_alloc_some W p o0 h)
@[go_sem] theorem setCell_AA (n i : Nat) (v : Value) (o0 : Obj) (o1 : Obj) (h : (W.cell? ⟨n, i, none⟩).isSome = true) : ((W.alloc o0).alloc o1).setCell ⟨n, i, none⟩ v = (((W.setCell ⟨n, i, none⟩ v).alloc o0).alloc o1) := by
  rw [setCell_alloc_some (W.alloc o0) n i v o1 (by rw [cell_alloc_some W ⟨n, i, none⟩ o0 h]; exact h), setCell_alloc_some W n i v o0 h]
@[go_sem] theorem frozen_AG (p : Addr) (o0 : Obj) (e1 : Array Obj) (d1 : Nat) (h : (W.cell? p).isSome = true) : (grow (W.alloc o0) e1 d1).frozen? p = W.frozen? p := (frozen_grow_some (W.alloc o0) e1 d1 p (by rw [cell_alloc_some W p o0 h]; exact h)).trans (frozen_alloc_some W p o0 h)
@[go_sem] theorem setCell_AG (n i : Nat) (v : Value) (o0 : Obj) (e1 : Array Obj) (d1 : Nat) (h : (W.cell? ⟨n, i, none⟩).isSome = true) : (grow (W.alloc o0) e1 d1).setCell ⟨n, i, none⟩ v = (grow ((W.setCell ⟨n, i, none⟩ v).alloc o0) e1 d1) := by
  rw [setCell_grow_some (W.alloc o0) e1 d1 n i v (by rw [cell_alloc_some W ⟨n, i, none⟩ o0 h]; exact h), setCell_alloc_some W n i v o0 h]
@[go_sem] theorem frozen_GA (p : Addr) (e0 : Array Obj) (d0 : Nat) (o1 : Obj) (h : (W.cell? p).isSome = true) : ((grow W e0 d0).alloc o1).frozen? p = W.frozen? p := (frozen_alloc_some (grow W e0 d0) p o1 (by rw [cell_grow_some W e0 d0 p h]; exact h)).trans (frozen_grow_some W e0 d0 p h)
@[go_sem] theorem setCell_GA (n i : Nat) (v : Value) (e0 : Array Obj) (d0 : Nat) (o1 : Obj) (h : (W.cell? ⟨n, i, none⟩).isSome = true) : ((grow W e0 d0).alloc o1).setCell ⟨n, i, none⟩ v = ((grow (W.setCell ⟨n, i, none⟩ v) e0 d0).alloc o1) := by
  rw [setCell_alloc_some (grow W e0 d0) n i v o1 (by rw [cell_grow_some W e0 d0 ⟨n, i, none⟩ h]; exact h), setCell_grow_some W e0 d0 n i v h]
@[go_sem] theorem frozen_GG (p : Addr) (e0 : Array Obj) (d0 : Nat) (e1 : Array Obj) (d1 : Nat) (h : (W.cell? p).isSome = true) : (grow (grow W e0 d0) e1 d1).frozen? p = W.frozen? p := (frozen_grow_some (grow W e0 d0) e1 d1 p (by rw [cell_grow_some W e0 d0 p h]; exact h)).trans (frozen_grow_some W e0 d0 p h)
@[go_sem] theorem setCell_GG (n i : Nat) (v : Value) (e0 : Array Obj) (d0 : Nat) (e1 : Array Obj) (d1 : Nat) (h : (W.cell? ⟨n, i, none⟩).isSome = true) : (grow (grow W e0 d0) e1 d1).setCell ⟨n, i, none⟩ v = (grow (grow (W.setCell ⟨n, i, none⟩ v) e0 d0) e1 d1) := by
  rw [setCell_grow_some (grow W e0 d0) e1 d1 n i v (by rw [cell_grow_some W e0 d0 ⟨n, i, none⟩ h]; exact h), setCell_grow_some W e0 d0 n i v h]
@[go_sem] theorem frozen_AAA (p : Addr) (o0 : Obj) (o1 : Obj) (o2 : Obj) (h : (W.cell? p).isSome = true) : (((W.alloc o0).alloc o1).alloc o2).frozen? p = W.frozen? p := (frozen_alloc_some ((W.alloc o0).alloc o1) p o2 (by rw [cell_AA W p o0 o1 h]; exact h)).trans (frozen_AA W p o0 o1 h)
@[go_sem] theorem setCell_AAA (n i : Nat) (v : Value) (o0 : Obj) (o1 : Obj) (o2 : Obj) (h : (W.cell? ⟨n, i, none⟩).isSome = true) : (((W.alloc o0).alloc o1).alloc o2).setCell ⟨n, i, none⟩ v = ((((W.setCell ⟨n, i, none⟩ v).alloc o0).alloc o1).alloc o2) := by
  rw [setCell_alloc_some ((W.alloc o0).alloc o1) n i v o2 (by rw [cell_AA W ⟨n, i, none⟩ o0 o1 h]; exact h), setCell_AA W n i v o0 o1 h]
@[go_sem] theorem frozen_AAG (p : Addr) (o0 : Obj) (o1 : Obj) (e2 : Array Obj) (d2 : Nat) (h : (W.cell? p).isSome = true) : (grow ((W.alloc o0).alloc o1) e2 d2).frozen? p = W.frozen? p := (frozen_grow_some ((W.alloc o0).alloc o1) e2 d2 p (by rw [cell_AA W p o0 o1 h]; exact h)).trans (frozen_AA W p o0 o1 h)
@[go_sem] theorem setCell_AAG (n i : Nat) (v : Value) (o0 : Obj) (o1 : Obj) (e2 : Array Obj) (d2 : Nat) (h : (W.cell? ⟨n, i, none⟩).isSome = true) : (grow ((W.alloc o0).alloc o1) e2 d2).setCell ⟨n, i, none⟩ v = (grow (((W.setCell ⟨n, i, none⟩ v).alloc o0).alloc o1) e2 d2) := by
  rw [setCell_grow_some ((W.alloc o0).alloc o1) e2 d2 n i v (by rw [cell_AA W ⟨n, i, none⟩ o0 o1 h]; exact h), setCell_AA W n i v o0 o1 h]
@[go_sem] theorem frozen_AGA (p : Addr) (o0 : Obj) (e1 : Array Obj) (d1 : Nat) (o2 : Obj) (h : (W.cell? p).isSome = true) : ((grow (W.alloc o0) e1 d1).alloc o2).frozen? p = W.frozen? p := (frozen_alloc_some (grow (W.alloc o0) e1 d1) p o2 (by rw [cell_AG W p o0 e1 d1 h]; exact h)).trans (frozen_AG W p o0 e1 d1 h)
@[go_sem] theorem setCell_AGA (n i : Nat) (v : Value) (o0 : Obj) (e1 : Array Obj) (d1 : Nat) (o2 : Obj) (h : (W.cell? ⟨n, i, none⟩).isSome = true) : ((grow (W.alloc o0) e1 d1).alloc o2).setCell ⟨n, i, none⟩ v = ((grow ((W.setCell ⟨n, i, none⟩ v).alloc o0) e1 d1).alloc o2) := by
  rw [setCell_alloc_some (grow (W.alloc o0) e1 d1) n i v o2 (by rw [cell_AG W ⟨n, i, none⟩ o0 e1 d1 h]; exact h), setCell_AG W n i v o0 e1 d1 h]
@[go_sem] theorem frozen_AGG (p : Addr) (o0 : Obj) (e1 : Array Obj) (d1 : Nat) (e2 : Array Obj) (d2 : Nat) (h : (W.cell? p).isSome = true) : (grow (grow (W.alloc o0) e1 d1) e2 d2).frozen? p = W.frozen? p := (frozen_grow_some (grow (W.alloc o0) e1 d1) e2 d2 p (by rw [cell_AG W p o0 e1 d1 h]; exact h)).trans (frozen_AG W p o0 e1 d1 h)
@[go_sem] theorem setCell_AGG (n i : Nat) (v : Value) (o0 : Obj) (e1 : Array Obj) (d1 : Nat) (e2 : Array Obj) (d2 : Nat) (h : (W.cell? ⟨n, i, none⟩).isSome = true) : (grow (grow (W.alloc o0) e1 d1) e2 d2).setCell ⟨n, i, none⟩ v = (grow (grow ((W.setCell ⟨n, i, none⟩ v).alloc o0) e1 d1) e2 d2) := by
  rw [setCell_grow_some (grow (W.alloc o0) e1 d1) e2 d2 n i v (by rw [cell_AG W ⟨n, i, none⟩ o0 e1 d1 h]; exact h), setCell_AG W n i v o0 e1 d1 h]
@[go_sem] theorem frozen_GAA (p : Addr) (e0 : Array Obj) (d0 : Nat) (o1 : Obj) (o2 : Obj) (h : (W.cell? p).isSome = true) : (((grow W e0 d0).alloc o1).alloc o2).frozen? p = W.frozen? p := (frozen_alloc_some ((grow W e0 d0).alloc o1) p o2 (by rw [cell_GA W p e0 d0 o1 h]; exact h)).trans (frozen_GA W p e0 d0 o1 h)
@[go_sem] theorem setCell_GAA (n i : Nat) (v : Value) (e0 : Array Obj) (d0 : Nat) (o1 : Obj) (o2 : Obj) (h : (W.cell? ⟨n, i, none⟩).isSome = true) : (((grow W e0 d0).alloc o1).alloc o2).setCell ⟨n, i, none⟩ v = (((grow (W.setCell ⟨n, i, none⟩ v) e0 d0).alloc o1).alloc o2) := by
  rw [setCell_alloc_some ((grow W e0 d0).alloc o1) n i v o2 (by rw [cell_GA W ⟨n, i, none⟩ e0 d0 o1 h]; exact h), setCell_GA W n i v e0 d0 o1 h]
@[go_sem] theorem frozen_GAG (p : Addr) (e0 : Array Obj) (d0 : Nat) (o1 : Obj) (e2 : Array Obj) (d2 : Nat) (h : (W.cell? p).isSome = true) : (grow ((grow W e0 d0).alloc o1) e2 d2).frozen? p = W.frozen? p := (frozen_grow_some ((grow W e0 d0).alloc o1) e2 d2 p (by rw [cell_GA W p e0 d0 o1 h]; exact h)).trans (frozen_GA W p e0 d0 o1 h)
@[go_sem] theorem setCell_GAG (n i : Nat) (v : Value) (e0 : Array Obj) (d0 : Nat) (o1 : Obj) (e2 : Array Obj) (d2 : Nat) (h : (W.cell? ⟨n, i, none⟩).isSome = true) : (grow ((grow W e0 d0).alloc o1) e2 d2).setCell ⟨n, i, none⟩ v = (grow ((grow (W.setCell ⟨n, i, none⟩ v) e0 d0).alloc o1) e2 d2) := by
  rw [setCell_grow_some ((grow W e0 d0).alloc o1) e2 d2 n i v (by rw [cell_GA W ⟨n, i, none⟩ e0 d0 o1 h]; exact h), setCell_GA W n i v e0 d0 o1 h]
@[go_sem] theorem frozen_GGA (p : Addr) (e0 : Array Obj) (d0 : Nat) (e1 : Array Obj) (d1 : Nat) (o2 : Obj) (h : (W.cell? p).isSome = true) : ((grow (grow W e0 d0) e1 d1).alloc o2).frozen? p = W.frozen? p := (frozen_alloc_some (grow (grow W e0 d0) e1 d1) p o2 (by rw [cell_GG W p e0 d0 e1 d1 h]; exact h)).trans (frozen_GG W p e0 d0 e1 d1 h)
@[go_sem] theorem setCell_GGA (n i : Nat) (v : Value) (e0 : Array Obj) (d0 : Nat) (e1 : Array Obj) (d1 : Nat) (o2 : Obj) (h : (W.cell? ⟨n, i, none⟩).isSome = true) : ((grow (grow W e0 d0) e1 d1).alloc o2).setCell ⟨n, i, none⟩ v = ((grow (grow (W.setCell ⟨n, i, none⟩ v) e0 d0) e1 d1).alloc o2) := by
  rw [setCell_alloc_some (grow (grow W e0 d0) e1 d1) n i v o2 (by rw [cell_GG W ⟨n, i, none⟩ e0 d0 e1 d1 h]; exact h), setCell_GG W n i v e0 d0 e1 d1 h]
@[go_sem] theorem frozen_GGG (p : Addr) (e0 : Array Obj) (d0 : Nat) (e1 : Array Obj) (d1 : Nat) (e2 : Array Obj) (d2 : Nat) (h : (W.cell? p).isSome = true) : (grow (grow (grow W e0 d0) e1 d1) e2 d2).frozen? p = W.frozen? p := (frozen_grow_some (grow (grow W e0 d0) e1 d1) e2 d2 p (by rw [cell_GG W p e0 d0 e1 d1 h]; exact h)).trans (frozen_GG W p e0 d0 e1 d1 h)
@[go_sem] theorem setCell_GGG (n i : Nat) (v : Value) (e0 : Array Obj) (d0 : Nat) (e1 : Array Obj) (d1 : Nat) (e2 : Array Obj) (d2 : Nat) (h : (W.cell? ⟨n, i, none⟩).isSome = true) : (grow (grow (grow W e0 d0) e1 d1) e2 d2).setCell ⟨n, i, none⟩ v = (grow (grow (grow (W.setCell ⟨n, i, none⟩ v) e0 d0) e1 d1) e2 d2) := by
  rw [setCell_grow_some (grow (grow W e0 d0) e1 d1) e2 d2 n i v (by rw [cell_GG W ⟨n, i, none⟩ e0 d0 e1 d1 h]; exact h), setCell_GG W n i v e0 d0 e1 d1 h]
@[go_sem] theorem frozen_AAAA (p : Addr) (o0 : Obj) (o1 : Obj) (o2 : Obj) (o3 : Obj) (h : (W.cell? p).isSome = true) : ((((W.alloc o0).alloc o1).alloc o2).alloc o3).frozen? p = W.frozen? p := (frozen_alloc_some (((W.alloc o0).alloc o1).alloc o2) p o3 (by rw [cell_AAA W p o0 o1 o2 h]; exact h)).trans (frozen_AAA W p o0 o1 o2 h)
@[go_sem] theorem setCell_AAAA (n i : Nat) (v : Value) (o0 : Obj) (o1 : Obj) (o2 : Obj) (o3 : Obj) (h : (W.cell? ⟨n, i, none⟩).isSome = true) : ((((W.alloc o0).alloc o1).alloc o2).alloc o3).setCell ⟨n, i, none⟩ v = (((((W.setCell ⟨n, i, none⟩ v).alloc o0).alloc o1).alloc o2).alloc o3) := by
  rw [setCell_alloc_some (((W.alloc o0).alloc o1).alloc o2) n i v o3 (by rw [cell_AAA W ⟨n, i, none⟩ o0 o1 o2 h]; exact h), setCell_AAA W n i v o0 o1 o2 h]
@[go_sem] theorem frozen_AAAG (p : Addr) (o0 : Obj) (o1 : Obj) (o2 : Obj) (e3 : Array Obj) (d3 : Nat) (h : (W.cell? p).isSome = true) : (grow (((W.alloc o0).alloc o1).alloc o2) e3 d3).frozen? p = W.frozen? p := (frozen_grow_some (((W.alloc o0).alloc o1).alloc o2) e3 d3 p (by rw [cell_AAA W p o0 o1 o2 h]; exact h)).trans (frozen_AAA W p o0 o1 o2 h)
@[go_sem] theorem setCell_AAAG (n i : Nat) (v : Value) (o0 : Obj) (o1 : Obj) (o2 : Obj) (e3 : Array Obj) (d3 : Nat) (h : (W.cell? ⟨n, i, none⟩).isSome = true) : (grow (((W.alloc o0).alloc o1).alloc o2) e3 d3).setCell ⟨n, i, none⟩ v = (grow ((((W.setCell ⟨n, i, none⟩ v).alloc o0).alloc o1).alloc o2) e3 d3) := by
  rw [setCell_grow_some (((W.alloc o0).alloc o1).alloc o2) e3 d3 n i v (by rw [cell_AAA W ⟨n, i, none⟩ o0 o1 o2 h]; exact h), setCell_AAA W n i v o0 o1 o2 h]
@[go_sem] theorem frozen_AAGA (p : Addr) (o0 : Obj) (o1 : Obj) (e2 : Array Obj) (d2 : Nat) (o3 : Obj) (h : (W.cell? p).isSome = true) : ((grow ((W.alloc o0).alloc o1) e2 d2).alloc o3).frozen? p = W.frozen? p := (frozen_alloc_some (grow ((W.alloc o0).alloc o1) e2 d2) p o3 (by rw [cell_AAG W p o0 o1 e2 d2 h]; exact h)).trans (frozen_AAG W p o0 o1 e2 d2 h)
@[go_sem] theorem setCell_AAGA (n i : Nat) (v : Value) (o0 : Obj) (o1 : Obj) (e2 : Array Obj) (d2 : Nat) (o3 : Obj) (h : (W.cell? ⟨n, i, none⟩).isSome = true) : ((grow ((W.alloc o0).alloc o1) e2 d2).alloc o3).setCell ⟨n, i, none⟩ v = ((grow (((W.setCell ⟨n, i, none⟩ v).alloc o0).alloc o1) e2 d2).alloc o3) := by
  rw [setCell_alloc_some (grow ((W.alloc o0).alloc o1) e2 d2) n i v o3 (by rw [cell_AAG W ⟨n, i, none⟩ o0 o1 e2 d2 h]; exact h), setCell_AAG W n i v o0 o1 e2 d2 h]
@[go_sem] theorem frozen_AAGG (p : Addr) (o0 : Obj) (o1 : Obj) (e2 : Array Obj) (d2 : Nat) (e3 : Array Obj) (d3 : Nat) (h : (W.cell? p).isSome = true) : (grow (grow ((W.alloc o0).alloc o1) e2 d2) e3 d3).frozen? p = W.frozen? p := (frozen_grow_some (grow ((W.alloc o0).alloc o1) e2 d2) e3 d3 p (by rw [cell_AAG W p o0 o1 e2 d2 h]; exact h)).trans (frozen_AAG W p o0 o1 e2 d2 h)
@[go_sem] theorem setCell_AAGG (n i : Nat) (v : Value) (o0 : Obj) (o1 : Obj) (e2 : Array Obj) (d2 : Nat) (e3 : Array Obj) (d3 : Nat) (h : (W.cell? ⟨n, i, none⟩).isSome = true) : (grow (grow ((W.alloc o0).alloc o1) e2 d2) e3 d3).setCell ⟨n, i, none⟩ v = (grow (grow (((W.setCell ⟨n, i, none⟩ v).alloc o0).alloc o1) e2 d2) e3 d3) := by
  rw [setCell_grow_some (grow ((W.alloc o0).alloc o1) e2 d2) e3 d3 n i v (by rw [cell_AAG W ⟨n, i, none⟩ o0 o1 e2 d2 h]; exact h), setCell_AAG W n i v o0 o1 e2 d2 h]
@[go_sem] theorem frozen_AGAA (p : Addr) (o0 : Obj) (e1 : Array Obj) (d1 : Nat) (o2 : Obj) (o3 : Obj) (h : (W.cell? p).isSome = true) : (((grow (W.alloc o0) e1 d1).alloc o2).alloc o3).frozen? p = W.frozen? p := (frozen_alloc_some ((grow (W.alloc o0) e1 d1).alloc o2) p o3 (by rw [cell_AGA W p o0 e1 d1 o2 h]; exact h)).trans (frozen_AGA W p o0 e1 d1 o2 h)
@[go_sem] theorem setCell_AGAA (n i : Nat) (v : Value) (o0 : Obj) (e1 : Array Obj) (d1 : Nat) (o2 : Obj) (o3 : Obj) (h : (W.cell? ⟨n, i, none⟩).isSome = true) : (((grow (W.alloc o0) e1 d1).alloc o2).alloc o3).setCell ⟨n, i, none⟩ v = (((grow ((W.setCell ⟨n, i, none⟩ v).alloc o0) e1 d1).alloc o2).alloc o3) := by
  rw [setCell_alloc_some ((grow (W.alloc o0) e1 d1).alloc o2) n i v o3 (by rw [cell_AGA W ⟨n, i, none⟩ o0 e1 d1 o2 h]; exact h), setCell_AGA W n i v o0 e1 d1 o2 h]
@[go_sem] theorem frozen_AGAG (p : Addr) (o0 : Obj) (e1 : Array Obj) (d1 : Nat) (o2 : Obj) (e3 : Array Obj) (d3 : Nat) (h : (W.cell? p).isSome = true) : (grow ((grow (W.alloc o0) e1 d1).alloc o2) e3 d3).frozen? p = W.frozen? p := (frozen_grow_some ((grow (W.alloc o0) e1 d1).alloc o2) e3 d3 p (by rw [cell_AGA W p o0 e1 d1 o2 h]; exact h)).trans (frozen_AGA W p o0 e1 d1 o2 h)
@[go_sem] theorem setCell_AGAG (n i : Nat) (v : Value) (o0 : Obj) (e1 : Array Obj) (d1 : Nat) (o2 : Obj) (e3 : Array Obj) (d3 : Nat) (h : (W.cell? ⟨n, i, none⟩).isSome = true) : (grow ((grow (W.alloc o0) e1 d1).alloc o2) e3 d3).setCell ⟨n, i, none⟩ v = (grow ((grow ((W.setCell ⟨n, i, none⟩ v).alloc o0) e1 d1).alloc o2) e3 d3) := by
  rw [setCell_grow_some ((grow (W.alloc o0) e1 d1).alloc o2) e3 d3 n i v (by rw [cell_AGA W ⟨n, i, none⟩ o0 e1 d1 o2 h]; exact h), setCell_AGA W n i v o0 e1 d1 o2 h]
@[go_sem] theorem frozen_AGGA (p : Addr) (o0 : Obj) (e1 : Array Obj) (d1 : Nat) (e2 : Array Obj) (d2 : Nat) (o3 : Obj) (h : (W.cell? p).isSome = true) : ((grow (grow (W.alloc o0) e1 d1) e2 d2).alloc o3).frozen? p = W.frozen? p := (frozen_alloc_some (grow (grow (W.alloc o0) e1 d1) e2 d2) p o3 (by rw [cell_AGG W p o0 e1 d1 e2 d2 h]; exact h)).trans (frozen_AGG W p o0 e1 d1 e2 d2 h)
@[go_sem] theorem setCell_AGGA (n i : Nat) (v : Value) (o0 : Obj) (e1 : Array Obj) (d1 : Nat) (e2 : Array Obj) (d2 : Nat) (o3 : Obj) (h : (W.cell? ⟨n, i, none⟩).isSome = true) : ((grow (grow (W.alloc o0) e1 d1) e2 d2).alloc o3).setCell ⟨n, i, none⟩ v = ((grow (grow ((W.setCell ⟨n, i, none⟩ v).alloc o0) e1 d1) e2 d2).alloc o3) := by
  rw [setCell_alloc_some (grow (grow (W.alloc o0) e1 d1) e2 d2) n i v o3 (by rw [cell_AGG W ⟨n, i, none⟩ o0 e1 d1 e2 d2 h]; exact h), setCell_AGG W n i v o0 e1 d1 e2 d2 h]
@[go_sem] theorem frozen_AGGG (p : Addr) (o0 : Obj) (e1 : Array Obj) (d1 : Nat) (e2 : Array Obj) (d2 : Nat) (e3 : Array Obj) (d3 : Nat) (h : (W.cell? p).isSome = true) : (grow (grow (grow (W.alloc o0) e1 d1) e2 d2) e3 d3).frozen? p = W.frozen? p := (frozen_grow_some (grow (grow (W.alloc o0) e1 d1) e2 d2) e3 d3 p (by rw [cell_AGG W p o0 e1 d1 e2 d2 h]; exact h)).trans (frozen_AGG W p o0 e1 d1 e2 d2 h)
@[go_sem] theorem setCell_AGGG (n i : Nat) (v : Value) (o0 : Obj) (e1 : Array Obj) (d1 : Nat) (e2 : Array Obj) (d2 : Nat) (e3 : Array Obj) (d3 : Nat) (h : (W.cell? ⟨n, i, none⟩).isSome = true) : (grow (grow (grow (W.alloc o0) e1 d1) e2 d2) e3 d3).setCell ⟨n, i, none⟩ v = (grow (grow (grow ((W.setCell ⟨n, i, none⟩ v).alloc o0) e1 d1) e2 d2) e3 d3) := by
  rw [setCell_grow_some (grow (grow (W.alloc o0) e1 d1) e2 d2) e3 d3 n i v (by rw [cell_AGG W ⟨n, i, none⟩ o0 e1 d1 e2 d2 h]; exact h), setCell_AGG W n i v o0 e1 d1 e2 d2 h]
@[go_sem] theorem frozen_GAAA (p : Addr) (e0 : Array Obj) (d0 : Nat) (o1 : Obj) (o2 : Obj) (o3 : Obj) (h : (W.cell? p).isSome = true) : ((((grow W e0 d0).alloc o1).alloc o2).alloc o3).frozen? p = W.frozen? p := (frozen_alloc_some (((grow W e0 d0).alloc o1).alloc o2) p o3 (by rw [cell_GAA W p e0 d0 o1 o2 h]; exact h)).trans (frozen_GAA W p e0 d0 o1 o2 h)
@[go_sem] theorem setCell_GAAA (n i : Nat) (v : Value) (e0 : Array Obj) (d0 : Nat) (o1 : Obj) (o2 : Obj) (o3 : Obj) (h : (W.cell? ⟨n, i, none⟩).isSome = true) : ((((grow W e0 d0).alloc o1).alloc o2).alloc o3).setCell ⟨n, i, none⟩ v = ((((grow (W.setCell ⟨n, i, none⟩ v) e0 d0).alloc o1).alloc o2).alloc o3) := by
  rw [setCell_alloc_some (((grow W e0 d0).alloc o1).alloc o2) n i v o3 (by rw [cell_GAA W ⟨n, i, none⟩ e0 d0 o1 o2 h]; exact h), setCell_GAA W n i v e0 d0 o1 o2 h]
@[go_sem] theorem frozen_GAAG (p : Addr) (e0 : Array Obj) (d0 : Nat) (o1 : Obj) (o2 : Obj) (e3 : Array Obj) (d3 : Nat) (h : (W.cell? p).isSome = true) : (grow (((grow W e0 d0).alloc o1).alloc o2) e3 d3).frozen? p = W.frozen? p := (frozen_grow_some (((grow W e0 d0).alloc o1).alloc o2) e3 d3 p (by rw [cell_GAA W p e0 d0 o1 o2 h]; exact h)).trans (frozen_GAA W p e0 d0 o1 o2 h)
@[go_sem] theorem setCell_GAAG (n i : Nat) (v : Value) (e0 : Array Obj) (d0 : Nat) (o1 : Obj) (o2 : Obj) (e3 : Array Obj) (d3 : Nat) (h : (W.cell? ⟨n, i, none⟩).isSome = true) : (grow (((grow W e0 d0).alloc o1).alloc o2) e3 d3).setCell ⟨n, i, none⟩ v = (grow (((grow (W.setCell ⟨n, i, none⟩ v) e0 d0).alloc o1).alloc o2) e3 d3) := by
  rw [setCell_grow_some (((grow W e0 d0).alloc o1).alloc o2) e3 d3 n i v (by rw [cell_GAA W ⟨n, i, none⟩ e0 d0 o1 o2 h]; exact h), setCell_GAA W n i v e0 d0 o1 o2 h]
@[go_sem] theorem frozen_GAGA (p : Addr) (e0 : Array Obj) (d0 : Nat) (o1 : Obj) (e2 : Array Obj) (d2 : Nat) (o3 : Obj) (h : (W.cell? p).isSome = true) : ((grow ((grow W e0 d0).alloc o1) e2 d2).alloc o3).frozen? p = W.frozen? p := (frozen_alloc_some (grow ((grow W e0 d0).alloc o1) e2 d2) p o3 (by rw [cell_GAG W p e0 d0 o1 e2 d2 h]; exact h)).trans (frozen_GAG W p e0 d0 o1 e2 d2 h)
@[go_sem] theorem setCell_GAGA (n i : Nat) (v : Value) (e0 : Array Obj) (d0 : Nat) (o1 : Obj) (e2 : Array Obj) (d2 : Nat) (o3 : Obj) (h : (W.cell? ⟨n, i, none⟩).isSome = true) : ((grow ((grow W e0 d0).alloc o1) e2 d2).alloc o3).setCell ⟨n, i, none⟩ v = ((grow ((grow (W.setCell ⟨n, i, none⟩ v) e0 d0).alloc o1) e2 d2).alloc o3) := by
  rw [setCell_alloc_some (grow ((grow W e0 d0).alloc o1) e2 d2) n i v o3 (by rw [cell_GAG W ⟨n, i, none⟩ e0 d0 o1 e2 d2 h]; exact h), setCell_GAG W n i v e0 d0 o1 e2 d2 h]
@[go_sem] theorem frozen_GAGG (p : Addr) (e0 : Array Obj) (d0 : Nat) (o1 : Obj) (e2 : Array Obj) (d2 : Nat) (e3 : Array Obj) (d3 : Nat) (h : (W.cell? p).isSome = true) : (grow (grow ((grow W e0 d0).alloc o1) e2 d2) e3 d3).frozen? p = W.frozen? p := (frozen_grow_some (grow ((grow W e0 d0).alloc o1) e2 d2) e3 d3 p (by rw [cell_GAG W p e0 d0 o1 e2 d2 h]; exact h)).trans (frozen_GAG W p e0 d0 o1 e2 d2 h)
@[go_sem] theorem setCell_GAGG (n i : Nat) (v : Value) (e0 : Array Obj) (d0 : Nat) (o1 : Obj) (e2 : Array Obj) (d2 : Nat) (e3 : Array Obj) (d3 : Nat) (h : (W.cell? ⟨n, i, none⟩).isSome = true) : (grow (grow ((grow W e0 d0).alloc o1) e2 d2) e3 d3).setCell ⟨n, i, none⟩ v = (grow (grow ((grow (W.setCell ⟨n, i, none⟩ v) e0 d0).alloc o1) e2 d2) e3 d3) := by
  rw [setCell_grow_some (grow ((grow W e0 d0).alloc o1) e2 d2) e3 d3 n i v (by rw [cell_GAG W ⟨n, i, none⟩ e0 d0 o1 e2 d2 h]; exact h), setCell_GAG W n i v e0 d0 o1 e2 d2 h]
@[go_sem] theorem frozen_GGAA (p : Addr) (e0 : Array Obj) (d0 : Nat) (e1 : Array Obj) (d1 : Nat) (o2 : Obj) (o3 : Obj) (h : (W.cell? p).isSome = true) : (((grow (grow W e0 d0) e1 d1).alloc o2).alloc o3).frozen? p = W.frozen? p := (frozen_alloc_some ((grow (grow W e0 d0) e1 d1).alloc o2) p o3 (by rw [cell_GGA W p e0 d0 e1 d1 o2 h]; exact h)).trans (frozen_GGA W p e0 d0 e1 d1 o2 h)
@[go_sem] theorem setCell_GGAA (n i : Nat) (v : Value) (e0 : Array Obj) (d0 : Nat) (e1 : Array Obj) (d1 : Nat) (o2 : Obj) (o3 : Obj) (h : (W.cell? ⟨n, i, none⟩).isSome = true) : (((grow (grow W e0 d0) e1 d1).alloc o2).alloc o3).setCell ⟨n, i, none⟩ v = (((grow (grow (W.setCell ⟨n, i, none⟩ v) e0 d0) e1 d1).alloc o2).alloc o3) := by
  rw [setCell_alloc_some ((grow (grow W e0 d0) e1 d1).alloc o2) n i v o3 (by rw [cell_GGA W ⟨n, i, none⟩ e0 d0 e1 d1 o2 h]; exact h), setCell_GGA W n i v e0 d0 e1 d1 o2 h]
@[go_sem] theorem frozen_GGAG (p : Addr) (e0 : Array Obj) (d0 : Nat) (e1 : Array Obj) (d1 : Nat) (o2 : Obj) (e3 : Array Obj) (d3 : Nat) (h : (W.cell? p).isSome = true) : (grow ((grow (grow W e0 d0) e1 d1).alloc o2) e3 d3).frozen? p = W.frozen? p := (frozen_grow_some ((grow (grow W e0 d0) e1 d1).alloc o2) e3 d3 p (by rw [cell_GGA W p e0 d0 e1 d1 o2 h]; exact h)).trans (frozen_GGA W p e0 d0 e1 d1 o2 h)
@[go_sem] theorem setCell_GGAG (n i : Nat) (v : Value) (e0 : Array Obj) (d0 : Nat) (e1 : Array Obj) (d1 : Nat) (o2 : Obj) (e3 : Array Obj) (d3 : Nat) (h : (W.cell? ⟨n, i, none⟩).isSome = true) : (grow ((grow (grow W e0 d0) e1 d1).alloc o2) e3 d3).setCell ⟨n, i, none⟩ v = (grow ((grow (grow (W.setCell ⟨n, i, none⟩ v) e0 d0) e1 d1).alloc o2) e3 d3) := by
  rw [setCell_grow_some ((grow (grow W e0 d0) e1 d1).alloc o2) e3 d3 n i v (by rw [cell_GGA W ⟨n, i, none⟩ e0 d0 e1 d1 o2 h]; exact h), setCell_GGA W n i v e0 d0 e1 d1 o2 h]
@[go_sem] theorem frozen_GGGA (p : Addr) (e0 : Array Obj) (d0 : Nat) (e1 : Array Obj) (d1 : Nat) (e2 : Array Obj) (d2 : Nat) (o3 : Obj) (h : (W.cell? p).isSome = true) : ((grow (grow (grow W e0 d0) e1 d1) e2 d2).alloc o3).frozen? p = W.frozen? p := (frozen_alloc_some (grow (grow (grow W e0 d0) e1 d1) e2 d2) p o3 (by rw [cell_GGG W p e0 d0 e1 d1 e2 d2 h]; exact h)).trans (frozen_GGG W p e0 d0 e1 d1 e2 d2 h)
@[go_sem] theorem setCell_GGGA (n i : Nat) (v : Value) (e0 : Array Obj) (d0 : Nat) (e1 : Array Obj) (d1 : Nat) (e2 : Array Obj) (d2 : Nat) (o3 : Obj) (h : (W.cell? ⟨n, i, none⟩).isSome = true) : ((grow (grow (grow W e0 d0) e1 d1) e2 d2).alloc o3).setCell ⟨n, i, none⟩ v = ((grow (grow (grow (W.setCell ⟨n, i, none⟩ v) e0 d0) e1 d1) e2 d2).alloc o3) := by
  rw [setCell_alloc_some (grow (grow (grow W e0 d0) e1 d1) e2 d2) n i v o3 (by rw [cell_GGG W ⟨n, i, none⟩ e0 d0 e1 d1 e2 d2 h]; exact h), setCell_GGG W n i v e0 d0 e1 d1 e2 d2 h]
@[go_sem] theorem frozen_GGGG (p : Addr) (e0 : Array Obj) (d0 : Nat) (e1 : Array Obj) (d1 : Nat) (e2 : Array Obj) (d2 : Nat) (e3 : Array Obj) (d3 : Nat) (h : (W.cell? p).isSome = true) : (grow (grow (grow (grow W e0 d0) e1 d1) e2 d2) e3 d3).frozen? p = W.frozen? p := (frozen_grow_some (grow (grow (grow W e0 d0) e1 d1) e2 d2) e3 d3 p (by rw [cell_GGG W p e0 d0 e1 d1 e2 d2 h]; exact h)).trans (frozen_GGG W p e0 d0 e1 d1 e2 d2 h)
@[go_sem] theorem setCell_GGGG (n i : Nat) (v : Value) (e0 : Array Obj) (d0 : Nat) (e1 : Array Obj) (d1 : Nat) (e2 : Array Obj) (d2 : Nat) (e3 : Array Obj) (d3 : Nat) (h : (W.cell? ⟨n, i, none⟩).isSome = true) : (grow (grow (grow (grow W e0 d0) e1 d1) e2 d2) e3 d3).setCell ⟨n, i, none⟩ v = (grow (grow (grow (grow (W.setCell ⟨n, i, none⟩ v) e0 d0) e1 d1) e2 d2) e3 d3) := by
  rw [setCell_grow_some (grow (grow (grow W e0 d0) e1 d1) e2 d2) e3 d3 n i v (by rw [cell_GGG W ⟨n, i, none⟩ e0 d0 e1 d1 e2 d2 h]; exact h), setCell_GGG W n i v e0 d0 e1 d1 e2 d2 h]
@[go_sem] theorem drew_grow : (grow W ext d).drew = grow W ext (d + 1) := rfl
theorem grown_of {W w1 : World} (h : Below W.heap.size W w1) : w1 = grow W (w1.heap.extract W.heap.size w1.heap.size) w1.drawn := by
  obtain ⟨h1, h2, h3, h4, h5⟩ := h
  have hh : w1.heap = W.heap ++ w1.heap.extract W.heap.size w1.heap.size := by
    apply Array.ext_getElem?
    intro k
    rw [Array.getElem?_append]
    by_cases hk : k < W.heap.size
    · rw [if_pos hk]; exact h5 k hk
    · rw [if_neg hk, Array.getElem?_extract]
      by_cases hk2 : k < w1.heap.size
      · rw [if_pos (by omega), show W.heap.size + (k - W.heap.size) = k from by omega]
      · rw [if_neg (by omega), Array.getElem?_eq_none (by omega)]
  cases w1
  simp only [Go.Proofs.YtchgpijfebilbaaGreatDoor.grow] at *
  subst h1; subst h2; subst h3
  congr
theorem Below.grown_eq {w1 : World} (h : Below W.heap.size W w1) : ∃ ext d, w1 = grow W ext d := ⟨_, _, grown_of h⟩
theorem Below.grow {B : Nat} {w : World} (h : Below B w W) (hB : B ≤ W.heap.size) : Below B w (grow W ext d) :=
  h.trans ⟨rfl, rfl, rfl, by simp, fun k hk => heap_grow W ext d (by omega)⟩
end

theorem below_grow0 {w W : World} (ext : Array Obj) (d : Nat) (h : Below w.heap.size w W) : Below w.heap.size w (grow W ext d) := Below.grow W ext d h h.size
theorem below_alloc0 {w W : World} (o : Obj) (h : Below w.heap.size w W) : Below w.heap.size w (W.alloc o) := h.alloc h.size o

/-! ### a slice that reads as a list of rows, each of s cells -/
def Row (w : World) (s : Nat) (v : Value) (xs : List (List Value)) : Prop :=
  ∃ A c, v = .slice A xs.length c ∧ xs.length ≤ c ∧ c ≤ maxLen ∧ (∀ x ∈ xs, x.length = s) ∧
    (0 < xs.length → ∃ b off, A = some ⟨b, off, none⟩ ∧ b < w.heap.size ∧ ∀ i x, xs[i]? = some x → ∀ j u, x[j]? = some u → w.cell? ⟨b, off + i * s + j, none⟩ = some u)

theorem Row.nil (w : World) (s : Nat) : Row w s (.slice none 0 0) [] :=
  ⟨none, 0, rfl, Nat.le_refl _, Nat.zero_le _, by simp, by simp⟩
theorem Row.keep {w w' : World} {s : Nat} {v : Value} {xs : List (List Value)} (h : Row w s v xs) (hs : w.heap.size ≤ w'.heap.size)
    (hk : ∀ p : Addr, p.block < w.heap.size → w'.cell? p = w.cell? p) : Row w' s v xs := by
  obtain ⟨A, c, rfl, h1, h2, h3, h4⟩ := h
  refine ⟨A, c, rfl, h1, h2, h3, fun h0 => ?_⟩
  obtain ⟨b, off, rfl, hb, hc⟩ := h4 h0
  exact ⟨b, off, rfl, by omega, fun i x hx j u hu => (hk _ hb).trans (hc i x hx j u hu)⟩
theorem Row.below {w w' : World} {s : Nat} {v : Value} {xs : List (List Value)} (h : Row w s v xs) (hb : Below w.heap.size w w') : Row w' s v xs :=
  h.keep hb.size fun _ hp => hb.cell hp
theorem Row.alloc {w : World} {s : Nat} {v : Value} {xs : List (List Value)} (h : Row w s v xs) (o : Obj) : Row (w.alloc o) s v xs :=
  h.below ((Below.refl _ _).alloc (Nat.le_refl _) o)
theorem Row.drew {w : World} {s : Nat} {v : Value} {xs : List (List Value)} (h : Row w s v xs) : Row w.drew s v xs := h
theorem Row.drewN {w : World} {s : Nat} {v : Value} {xs : List (List Value)} (h : Row w s v xs) (n : Nat) : Row (w.drewN n) s v xs := h
theorem Row.form {w : World} {s : Nat} {v : Value} {xs : List (List Value)} (h : Row w s v xs) : ∃ A c, v = .slice A xs.length c ∧ xs.length ≤ c ∧ c ≤ maxLen := by
  obtain ⟨A, c, h0, h1, h2, _⟩ := h; exact ⟨A, c, h0, h1, h2⟩
theorem Row.at_ {w : World} {s : Nat} {A : Option Addr} {n c : Nat} {xs : List (List Value)} (h : Row w s (.slice A n c) xs) {i : Nat} {x : List Value} (hx : xs[i]? = some x) :
    ∃ b off, A = some ⟨b, off, none⟩ ∧ b < w.heap.size ∧ ∀ j u, x[j]? = some u → w.cell? ⟨b, off + i * s + j, none⟩ = some u := by
  obtain ⟨A', c', h0, h1, h2, h3, h4⟩ := h
  have hi : i < xs.length := (List.getElem?_eq_some_iff.1 hx).1
  obtain ⟨b, off, rfl, hb, hc⟩ := h4 (by omega)
  injection h0 with e1 e2 e3
  exact ⟨b, off, e1, hb, fun j u hu => hc i x hx j u hu⟩
theorem Row.len {w : World} {s : Nat} {A : Option Addr} {n c : Nat} {xs : List (List Value)} (h : Row w s (.slice A n c) xs) : n = xs.length := by
  obtain ⟨A', c', h0, _⟩ := h; injection h0
theorem spot_none {w : World} {a : Addr} {v : Value} (h : w.cell? a = some v) : a = ⟨a.block, a.off, none⟩ := by
  obtain ⟨b, o, sp⟩ := a
  cases sp with
  | none => rfl
  | some q =>
    simp only [World.cell?] at h
    split at h <;> simp at h

def Sl {α : Type} (f : α → List Value) (s : Nat) (w : World) (v : Value) (l : List α) : Prop := Row w s v (l.map f)
section
variable {α : Type} {f : α → List Value} {s : Nat} {w w' : World} {v : Value} {l : List α}
theorem Sl.nil (f : α → List Value) (s : Nat) (w : World) : Sl f s w (.slice none 0 0) [] := Row.nil w s
theorem Sl.empty (f : α → List Value) (s : Nat) (w : World) (A : Option Addr) {c : Nat} (hc : c ≤ maxLen) : Sl f s w (.slice A 0 c) [] := ⟨A, c, rfl, Nat.zero_le _, hc, by simp, by simp⟩
theorem Sl.below (h : Sl f s w v l) (hb : Below w.heap.size w w') : Sl f s w' v l := Row.below h hb
theorem Sl.alloc (h : Sl f s w v l) (o : Obj) : Sl f s (w.alloc o) v l := Row.alloc h o
theorem Sl.drew (h : Sl f s w v l) : Sl f s w.drew v l := h
theorem Sl.drewN (h : Sl f s w v l) (n : Nat) : Sl f s (w.drewN n) v l := h
theorem Sl.form (h : Sl f s w v l) : ∃ A c, v = .slice A l.length c ∧ l.length ≤ c ∧ c ≤ maxLen := by
  obtain ⟨A, c, h0, h1, h2⟩ := Row.form h
  simp only [List.length_map] at h0 h1
  exact ⟨A, c, h0, h1, h2⟩
theorem Sl.len {A : Option Addr} {n c : Nat} (h : Sl f s w (.slice A n c) l) : n = l.length := by simpa using Row.len h
theorem Sl.at_ {A : Option Addr} {n c : Nat} (h : Sl f s w (.slice A n c) l) {i : Nat} {x : α} (hx : l[i]? = some x) :
    ∃ b off, A = some ⟨b, off, none⟩ ∧ b < w.heap.size ∧ ∀ j u, (f x)[j]? = some u → w.cell? ⟨b, off + i * s + j, none⟩ = some u :=
  Row.at_ h (by simp [hx])
end

/-! ### opening: what a reading says of cells -/
inductive Kd where
  | i (k : IntKind)
  | s
  | b
def Kd.fits : Kd → Value → Prop
  | .i k, v => ∃ n, v = .int k n ∧ (Lit.int k n).wf = true
  | .s, v => ∃ t : ByteArray, v = .string t ∧ t.size ≤ maxLen
  | .b, v => ∃ t, v = .bool t
def flatAll (go : TypeId → Option (List Kd)) : Nat → List Field → Option (List Kd)
  | _, [] => some []
  | off, f :: fs => match go f.type with
    | some ks => if f.offset = off then (flatAll go (off + ks.length) fs).map (ks ++ ·) else none
    | none => none
def flat (P : Program) : Nat → TypeId → Option (List Kd)
  | 0, _ => none
  | n + 1, t => match P.underlying t with
    | some .bool => if P.cellsOf t = 1 then some [.b] else none
    | some (.int k) => if P.cellsOf t = 1 then some [.i k] else none
    | some .string => if P.cellsOf t = 1 then some [.s] else none
    | some (.struct fs) => match flatAll (flat P n) 0 fs.toList with
      | some ks => if P.cellsOf t = ks.length then some ks else none
      | none => none
    | _ => none
def Fits : List Kd → List Value → Prop
  | [], [] => True
  | k :: ks, v :: vs => k.fits v ∧ Fits ks vs
  | _, _ => False
theorem Fits.append : ∀ {ks ls : List Kd} {vs us : List Value}, Fits ks vs → Fits ls us → Fits (ks ++ ls) (vs ++ us)
  | [], _, [], _, _, h => h
  | _ :: _, _, _ :: _, _, h, h' => ⟨h.1, Fits.append h.2 h'⟩
theorem Fits.cons {k : Kd} {ks : List Kd} {vs : List Value} (h : Fits (k :: ks) vs) : ∃ v us, vs = v :: us ∧ k.fits v ∧ Fits ks us := by
  cases vs with
  | nil => exact h.elim
  | cons v us => exact ⟨v, us, rfl, h.1, h.2⟩
theorem Fits.nil {vs : List Value} (h : Fits [] vs) : vs = [] := by
  cases vs with
  | nil => rfl
  | cons v us => exact h.elim
theorem Fits.length : ∀ {ks : List Kd} {vs : List Value}, Fits ks vs → vs.length = ks.length
  | [], [], _ => rfl
  | _ :: ks, _ :: vs, h => by simp [Fits.length (ks := ks) (vs := vs) h.2]
section
variable {H : Type} {enc : TypeId × Value → H} {P : Program} {w : World} {base : Nat} {spare : Nat → Bool} {held : Bool}
theorem flat_length : ∀ (n : Nat) {t : TypeId} {ks : List Kd}, flat P n t = some ks → P.cellsOf t = ks.length
  | 0, _, _, h => by simp [flat] at h
  | n + 1, t, ks, h => by
    unfold flat at h
    split at h
    · split at h
      · simp at h; subst h; assumption
      · simp at h
    · split at h
      · simp at h; subst h; assumption
      · simp at h
    · split at h
      · simp at h; subst h; assumption
      · simp at h
    · split at h
      · split at h
        · rename_i hc; simp at h; subst h; exact hc
        · simp at h
      · simp at h
    · simp at h
theorem flat_trod : ∀ (n : Nat) {t : TypeId} {ks : List Kd} {fuel : Nat} {cs : List Value} {x : DataW H × List MemPlace}, flat P n t = some ks →
    DataW.trod enc P w base spare held fuel t cs = some x → Fits ks cs
  | 0, _, _, _, _, _, h, _ => by simp [flat] at h
  | n + 1, t, ks, fuel, cs, x, h, hx => by
    unfold flat at h
    split at h
    · rename_i hu
      obtain ⟨b, rfl, _⟩ := DataW.trod_bool hu hx
      split at h
      · simp at h; subst h; exact ⟨⟨b, rfl⟩, trivial⟩
      · simp at h
    · rename_i k hu
      obtain ⟨m, rfl, _, hm⟩ := DataW.trod_int hu hx
      split at h
      · simp at h; subst h; exact ⟨⟨m, rfl, hm⟩, trivial⟩
      · simp at h
    · rename_i hu
      obtain ⟨m, rfl, _, hm⟩ := DataW.trod_string hu hx
      split at h
      · simp at h; subst h; exact ⟨⟨m, rfl, hm⟩, trivial⟩
      · simp at h
    · rename_i fs hu
      obtain ⟨xs, m, _, _, hlen, hxl, hf⟩ := DataW.trod_struct hu hx
      split at h
      · rename_i ls hls
        split at h
        · rename_i hc
          simp only [Option.some.injEq] at h
          subst h
          have key : ∀ (l : List Field) (k off : Nat) (qs : List Kd), (∀ i f, l[i]? = some f → fs[k + i]? = some f) → k + l.length = fs.size → flatAll (flat P n) off l = some qs → off + qs.length = cs.length → Fits qs (cs.drop off) := by
            intro l
            induction l with
            | nil =>
              intro k off qs _ _ hq ho
              simp [flatAll] at hq
              subst hq
              simp at ho
              rw [List.drop_eq_nil_of_le (by omega)]
              trivial
            | cons f l ih =>
              intro k off qs hi hk hq ho
              simp only [flatAll] at hq
              split at hq
              · rename_i rs hr
                split at hq
                · rename_i hoff
                  simp only [Option.map_eq_some_iff] at hq
                  obtain ⟨ts, hts, rfl⟩ := hq
                  have hcf := flat_length n hr
                  have h0 := hi 0 f rfl
                  rw [Nat.add_zero] at h0
                  have hfk := hf k f h0
                  have hsome : ∃ y, xs[k]? = some y := ⟨xs[k]'(by simp at hk; omega), List.getElem?_eq_getElem _⟩
                  obtain ⟨y, hy⟩ := hsome
                  rw [hy, hoff, hcf] at hfk
                  have hfit := flat_trod n hr hfk
                  have hrest := ih (k + 1) (off + rs.length) ts (fun i g hg => by have := hi (i + 1) g (by simpa using hg); rwa [show k + 1 + i = k + (i + 1) from by omega]) (by simp at hk; omega) hts (by simp at ho; omega)
                  have hsplit : cs.drop off = (cs.drop off).take rs.length ++ cs.drop (off + rs.length) := by
                    rw [← List.drop_drop, List.take_append_drop]
                  rw [hsplit]
                  exact hfit.append hrest
                · simp at hq
              · simp at hq
          simpa using key fs.toList 0 0 ls (fun i f hi => by simpa using hi) (by simp) hls (by simp [hlen, hc])
        · simp at h
      · simp at h
    · simp at h

theorem open_rows {t e : TypeId} {v : Value} {d : DataW H} {p : List MemPlace} {ks : List Kd} (n : Nat) (ht : P.underlying t = some (.slice e)) (hk : flat P n e = some ks)
    (hv : Value.okWide P w .any base t v) (h : DataW.Trod enc P w 0 spare held t v d p) (hp : ∀ x ∈ p, x.block < w.heap.size) (h0 : 0 < ks.length) :
    ∃ xs : List (List Value), Row w ks.length v xs ∧ (∀ x ∈ xs, Fits ks x) ∧ (∃ els sp, (d = .nil ∧ xs = []) ∨ (d = .slice els sp ∧ els.length = xs.length)) := by
  obtain ⟨A, len, cap, rfl⟩ := okWide_slice ht hv
  obtain ⟨fuel, hf⟩ := h
  have hC := flat_length n hk
  rcases Go.Deep.open_slice ht hf with ⟨hcs, hx⟩ | ⟨a, len', cap', m, fu, D, Pl, hcs, _, hl, hm, hmm, hx, hi⟩
  · simp [Value.cells] at hcs
    obtain ⟨rfl, rfl, rfl⟩ := hcs
    injection hx with hd _
    exact ⟨[], Row.nil _ _, by simp, [], [], .inl ⟨hd, rfl⟩⟩
  · simp [Value.cells] at hcs
    obtain ⟨rfl, rfl, rfl⟩ := hcs
    injection hx with hd hpl
    rw [hC] at hi
    have hml : len ≤ m := by rw [hmm]; split <;> omega
    have hex : ∀ i, i < len → ∃ cs', cs'.length = ks.length ∧ Fits ks cs' ∧ ∀ j u, cs'[j]? = some u → w.cell? (a.add (i * ks.length + j)) = some u := by
      intro i hil
      obtain ⟨cs', hc', ht'⟩ := hi i (by omega)
      obtain ⟨_, hcl, hat⟩ := World.cells?_some hc'
      refine ⟨cs', hcl, flat_trod n hk ht', fun j u hu => ?_⟩
      have hj : j < ks.length := by have := (List.getElem?_eq_some_iff.1 hu).1; omega
      rw [← Go.Deep.add_add, hat j hj, hu]
    have hch : ∃ g : Nat → List Value, ∀ i, i < len → (g i).length = ks.length ∧ Fits ks (g i) ∧ ∀ j u, (g i)[j]? = some u → w.cell? (a.add (i * ks.length + j)) = some u :=
      ⟨fun i => if h : i < len then Classical.choose (hex i h) else [], fun i hil => by simp only [hil, dif_pos]; exact Classical.choose_spec (hex i hil)⟩
    obtain ⟨g, hg⟩ := hch
    refine ⟨(List.range len).map g, ⟨some a, cap, by simp, by simpa using hl, hm, ?_, ?_⟩, ?_, _, _, .inr ⟨hd, by simp⟩⟩
    · intro x hx'
      simp at hx'
      obtain ⟨i, hil, rfl⟩ := hx'
      exact (hg i hil).1
    · intro hpos
      simp at hpos
      have h00 : ∃ u, w.cell? a = some u := by
        obtain ⟨h01, _, h02⟩ := hg 0 hpos
        have hu : (g 0)[0]? = some ((g 0)[0]'(by omega)) := List.getElem?_eq_getElem _
        exact ⟨_, by simpa [add_zero'] using h02 0 _ hu⟩
      obtain ⟨u0, hu0⟩ := h00
      have hsp := spot_none hu0
      refine ⟨a.block, a.off, by rw [← hsp], ?_, ?_⟩
      · refine hp (.cell a.block a.off) ?_
        rw [hpl]
        refine List.mem_append.2 (.inl ?_)
        rw [hC]
        have hpos' : 0 < m * ks.length := Nat.mul_pos (by omega) h0
        simp only [MemPlace.row, List.mem_map, List.mem_range]
        exact ⟨0, hpos', by simp⟩
      · intro i x hx' j u hu
        have hil : i < len := by have := (List.getElem?_eq_some_iff.1 hx').1; simpa using this
        simp [hil] at hx'
        subst hx'
        have := (hg i hil).2.2 j u hu
        rw [hsp] at this
        have hadd : (⟨a.block, a.off, none⟩ : Addr).add (i * ks.length + j) = ⟨a.block, a.off + i * ks.length + j, none⟩ := by
          unfold Addr.add
          split
          · rename_i h0'; rw [Nat.add_assoc, h0']; rfl
          · rw [Nat.add_assoc]
        rwa [hadd] at this
    · intro x hx'
      simp at hx'
      obtain ⟨i, hil, rfl⟩ := hx'
      exact (hg i hil).2.1
end

/-! ### from rows of kinds to typed elements -/
theorem typed {α : Type} {f : α → List Value} {Q : α → Prop} : ∀ {xs : List (List Value)}, (∀ x ∈ xs, ∃ t, x = f t ∧ Q t) → ∃ l : List α, xs = l.map f ∧ ∀ t ∈ l, Q t
  | [], _ => ⟨[], rfl, by simp⟩
  | x :: xs, h => by
    obtain ⟨t, rfl, ht⟩ := h x (by simp)
    obtain ⟨l, rfl, hl⟩ := typed (xs := xs) (fun y hy => h y (List.mem_cons_of_mem _ hy))
    exact ⟨t :: l, rfl, by simpa [ht] using hl⟩
def cInt (z : Int) : List Value := [.int .i64 z]
def I64 (z : Int) : Prop := -9223372036854775808 ≤ z ∧ z ≤ 9223372036854775807
theorem i64_of_wf {z : Int} (h : (Lit.int .i64 z).wf = true) : I64 z := by unfold I64; exact bounds_i64 h
theorem fits_i {ks : List Kd} {x : List Value} (h : Fits (.i .i64 :: ks) x) : ∃ (z : Int) (us : List Value), x = .int .i64 z :: us ∧ I64 z ∧ Fits ks us := by
  obtain ⟨v, us, rfl, ⟨m, rfl, hw⟩, hr⟩ := h.cons
  exact ⟨m, us, rfl, i64_of_wf hw, hr⟩
theorem fits_s {ks : List Kd} {x : List Value} (h : Fits (.s :: ks) x) : ∃ (z : ByteArray) (us : List Value), x = .string z :: us ∧ z.size ≤ maxLen ∧ Fits ks us := by
  obtain ⟨v, us, rfl, ⟨m, rfl, hw⟩, hr⟩ := h.cons
  exact ⟨m, us, rfl, hw, hr⟩
/-! ### the closing of a law -/
section
variable {H : Type} {enc : TypeId × Value → H} {P : Program}
theorem trodAll_below {W W' : World} (hl : laidOutB P = true) (hb : Below W.heap.size W W') : ∀ {ts : List TypeId} {vs : List Value} {ds : List (DataW H)} {ps : List MemPlace},
    (∀ t ∈ ts, P.readableRec t = true ∧ t < P.types.size) → (∀ x ∈ ps, x.block < W.heap.size) →
    DataW.TrodAll enc P W 0 (fun _ => true) true ts vs ds ps → DataW.TrodAll enc P W' 0 (fun b => decide (b < W.heap.size)) true ts vs ds ps
  | [], vs, ds, ps, _, _, h => by
    obtain ⟨rfl, rfl, rfl⟩ := trodAll_nil h
    exact rfl
  | t :: ts, vs, ds, ps, hr, hp, h => by
    obtain ⟨v, vs', d, ds', p, q, rfl, rfl, rfl, h0, h1⟩ := trodAll_cons h
    have ht := hr t (by simp)
    exact ⟨p, q, Below.trod hl ht.1 ht.2 h0 hb (fun x hx => hp x (List.mem_append.2 (.inl hx))),
      trodAll_below hl hb (fun t' h' => hr t' (List.mem_cons_of_mem _ h')) (fun x hx => hp x (List.mem_append.2 (.inr hx))) h1, rfl⟩
theorem law_post {f : Func} {s : ChangeSpec} {W W' : World} {args : Array Value} {ds gs : List (DataW H)} {before : List MemPlace} {tb : TypeId} (hl : laidOutB P = true)
    (hr : ∀ t ∈ f.params.toList, P.readableRec t = true ∧ t < P.types.size) (hvars : s.vars = []) (hres : f.resultTypes = #[tb]) (htb : P.underlying tb = some .bool)
    (hW : DataW.Whole enc P f.params.toList s.vars false W args.toList ds gs before) (hspec : s.fn H (ds ++ gs) = { results := [.lit (.bool true)], args := ds })
    (hb : Below W.heap.size W W') : s.post enc P f false true false false W args (.bool true) W' := by
  have hlt : ∀ p ∈ before, p.block < W.heap.size := fun p hp => hW.lt p hp
  have hW' := hW
  obtain ⟨p, q, hA, hV, rfl, _, _⟩ := hW
  rw [hvars] at hV
  obtain ⟨rfl, rfl⟩ := trodVars_none hV
  refine ⟨ds, [], p ++ [], [], p, [], hW', ?_, ?_, ?_, hb.frame _, fun h => by cases h⟩
  · rw [hspec, hres]
    exact trodAll_mk1 (shut_bool htb true)
  · rw [hspec]
    exact trodAll_below hl hb hr (fun x hx => hlt x (by simpa using hx)) hA
  · rw [hspec, hvars]
    exact rfl
end

/-! ### slices that the call owns -/
structure El (P : Program) (t e : TypeId) (z : Value) (s bytes : Nat) : Prop where
  slice : P.underlying t = some (.slice e)
  info : (P.info? e).map (fun i => (i.zero, i.size, i.bytes)) = some (some z, s, bytes)
  cells : z.cells.size = s
  pos : 0 < s
def Ow {α : Type} (f : α → List Value) (s : Nat) (e : TypeId) (w : World) (B : Nat) (v : Value) (l : List α) : Prop :=
  w.ownsRow B e s v l.length (l.flatMap f) ∧ ∀ x ∈ l, (f x).length = s
section
variable {α : Type} {f : α → List Value} {s : Nat} {e : TypeId} {w w' : World} {B : Nat} {v : Value} {l : List α}
theorem Ow.nil (f : α → List Value) (s : Nat) (e : TypeId) (w : World) (B : Nat) : Ow f s e w B (.slice none 0 0) [] := ⟨World.ownsRow_nil _ _ _ _, by simp⟩
theorem Ow.alloc (h : Ow f s e w B v l) (o : Obj) : Ow f s e (w.alloc o) B v l := ⟨h.1.alloc o, h.2⟩
theorem Ow.drew (h : Ow f s e w B v l) : Ow f s e w.drew B v l := h
theorem Ow.drewN (h : Ow f s e w B v l) (n : Nat) : Ow f s e (w.drewN n) B v l := h
theorem Ow.below (h : Ow f s e w B v l) (hb : Below w.heap.size w w') : Ow f s e w' B v l := by
  refine ⟨?_, h.2⟩
  refine h.1.kept (row := none) ⟨hb.os, hb.tape, hb.output, hb.size, fun k hk _ => hb.block k hk⟩ ?_
  cases hv : v.ownBlock <;> simp
theorem Ow.kept {row : Option Nat} (h : Ow f s e w B v l) (hg : w.grownBy w' row) (hne : v.ownBlock = none ∨ v.ownBlock ≠ row) : Ow f s e w' B v l := ⟨h.1.kept hg hne, h.2⟩
theorem Ow.setBelow (h : Ow f s e w B v l) {a : Addr} (ha : a.block < B) (u : Value) : Ow f s e (w.setCell a u) B v l := ⟨ownsRow_setCell_below h.1 ha u, h.2⟩
theorem Ow.mono {B' : Nat} (h : Ow f s e w B v l) (hB : B' ≤ B) : Ow f s e w B' v l := by
  refine ⟨⟨h.1.1, ?_⟩, h.2⟩
  rcases h.1.2 with hn | ⟨g, cap, cur, rfl, hb, r⟩
  · exact .inl hn
  · exact .inr ⟨g, cap, cur, rfl, by omega, r⟩
theorem Ow.regrow {W W' : World} {ext : Array Obj} {d d' : Nat} (h : Ow f s e (grow W ext d) B v l) (hB : W.heap.size ≤ B) (hs : W'.heap.size = W.heap.size) : Ow f s e (grow W' ext d') B v l := by
  refine ⟨⟨h.1.1, ?_⟩, h.2⟩
  rcases h.1.2 with hn | ⟨g, cap, cur, rfl, hb, hg, r⟩
  · exact .inl hn
  · refine .inr ⟨g, cap, cur, rfl, hb, ?_, r⟩
    have e1 : (grow W ext d).heap[g]? = (W.heap ++ ext)[g]? := rfl
    have e2 : (grow W' ext d').heap[g]? = (W'.heap ++ ext)[g]? := rfl
    rw [e1, Array.getElem?_append_right (by omega)] at hg
    rw [e2, Array.getElem?_append_right (by omega), hs]
    exact hg
theorem flatMap_get (hf : ∀ x ∈ l, (f x).length = s) {i : Nat} {x : α} (hx : l[i]? = some x) {j : Nat} {u : Value} (hu : (f x)[j]? = some u) : (l.flatMap f)[i * s + j]? = some u := by
  induction l generalizing i with
  | nil => simp at hx
  | cons y l ih =>
    have hy : (f y).length = s := hf y (by simp)
    cases i with
    | zero =>
      simp at hx
      subst hx
      rw [List.flatMap_cons, Nat.zero_mul, Nat.zero_add, List.getElem?_append_left (List.getElem?_eq_some_iff.1 hu).1]
      exact hu
    | succ i =>
      have h := ih (fun z hz => hf z (by simp [hz])) (i := i) (by simpa using hx)
      rw [List.flatMap_cons, List.getElem?_append_right (by rw [hy, Nat.succ_mul]; omega), hy, Nat.succ_mul, show i * s + s + j - s = i * s + j from by omega]
      exact h
theorem Ow.form (h : Ow f s e w B v l) : ∃ A c, v = .slice A l.length c ∧ l.length ≤ c ∧ c ≤ maxLen ∧ (A = none → l = [] ∧ c = 0) ∧ (∀ a, A = some a → ∃ g, a = ⟨g, 0, none⟩ ∧ B ≤ g ∧ g < w.heap.size) := by
  rcases h.1.2 with ⟨rfl, hn⟩ | ⟨g, cap, cur, rfl, hB, hg, h1, h2, _⟩
  · have hl : l = [] := List.eq_nil_of_length_eq_zero hn
    subst hl
    exact ⟨none, 0, rfl, Nat.le_refl _, Nat.zero_le _, fun _ => ⟨rfl, rfl⟩, fun a ha => by cases ha⟩
  · refine ⟨some ⟨g, 0, none⟩, cap, rfl, h1, h2, (fun h => nomatch h), fun a ha => ?_⟩
    injection ha with ha
    exact ⟨g, ha.symm, hB, (Array.getElem?_eq_some_iff.1 hg).1⟩
theorem Ow.sl (h : Ow f s e w B v l) : Sl f s w v l := by
  obtain ⟨A, c, rfl, h1, h2, h3, h4⟩ := h.form
  refine ⟨A, c, by simp, by simpa using h1, h2, by simpa using h.2, fun h0 => ?_⟩
  cases A with
  | none => simp [(h3 rfl).1] at h0
  | some a =>
    obtain ⟨g, rfl, hB, hg⟩ := h4 a rfl
    refine ⟨_, _, rfl, hg, fun i x hx j u hu => ?_⟩
    simp only [List.getElem?_map, Option.map_eq_some_iff] at hx
    obtain ⟨y, hy, rfl⟩ := hx
    have hcc := h.1.cells (g := g) rfl _ _ (flatMap_get h.2 hy hu)
    have hadd : (⟨g, 0, none⟩ : Addr).add (i * s + j) = ⟨g, 0 + i * s + j, none⟩ := by unfold Addr.add; split <;> simp_all
    rwa [hadd] at hcc
end

def Owned {α : Type} (f : α → List Value) (s : Nat) (e : TypeId) (l : List α) (w : World) (r : Ending) (w' : World) : Prop := ∃ A c, r = .returned (.slice A l.length c) ∧ Ow f s e w' w.heap.size (.slice A l.length c) l ∧ Below w.heap.size w w'
theorem Owned.mk {α : Type} {f : α → List Value} {s : Nat} {e : TypeId} {l : List α} {w w' : World} {v : Value} (h : Ow f s e w' w.heap.size v l) (hb : Below w.heap.size w w') : Owned f s e l w (.returned v) w' := by
  obtain ⟨A, c, rfl, _⟩ := h.form
  exact ⟨A, c, rfl, h, hb⟩
theorem ow_lit0 {α : Type} (f : α → List Value) (s : Nat) (e : TypeId) (w : World) : Ow f s e (w.alloc (.cells #[] e)) w.heap.size (.slice (some ⟨w.heap.size, 0, none⟩) 0 0) [] :=
  ⟨World.ownsRow_lit w #[] 0 (Nat.le_refl _) (by simp [maxLen]) (by simp), by simp⟩
theorem Sl.none_nil {α : Type} {f : α → List Value} {s : Nat} {w : World} {n c : Nat} {l : List α} (h : Sl f s w (.slice none n c) l) : l = [] := by
  cases l with
  | nil => rfl
  | cons x l => obtain ⟨_, _, ha, _⟩ := h.at_ (i := 0) rfl; cases ha

theorem info_of {P : Program} {e : TypeId} {z : Value} {s bytes : Nat} (h : (P.info? e).map (fun i => (i.zero, i.size, i.bytes)) = some (some z, s, bytes)) :
    ∃ i, P.info? e = some i ∧ i.zero = some z ∧ i.size = s ∧ i.bytes = bytes := by
  simp only [Option.map_eq_some_iff, Prod.mk.injEq] at h
  obtain ⟨i, hi, h1, h2, h3⟩ := h
  exact ⟨i, hi, h1, h2, h3⟩
theorem flatMap_length {α : Type} {f : α → List Value} {s : Nat} {l : List α} (hf : ∀ x ∈ l, (f x).length = s) : (l.flatMap f).length = l.length * s := by
  induction l with
  | nil => simp
  | cons y l ih =>
    rw [List.flatMap_cons, List.length_append, ih (fun z hz => hf z (by simp [hz])), hf y (by simp), List.length_cons, Nat.succ_mul]
    omega
theorem mem_flatMap_get {α : Type} {f : α → List Value} {s : Nat} : ∀ {l : List α}, (∀ x ∈ l, (f x).length = s) → ∀ {k : Nat} {u : Value}, (l.flatMap f)[k]? = some u → ∃ i x j, l[i]? = some x ∧ (f x)[j]? = some u ∧ k = i * s + j
  | [], _, k, u, h => by simp at h
  | y :: l, hf, k, u, h => by
    have hy : (f y).length = s := hf y (by simp)
    rw [List.flatMap_cons] at h
    by_cases hk : k < (f y).length
    · rw [List.getElem?_append_left hk] at h
      exact ⟨0, y, k, rfl, h, by simp⟩
    · rw [List.getElem?_append_right (by omega)] at h
      obtain ⟨i, x, j, h1, h2, h3⟩ := mem_flatMap_get (fun z hz => hf z (by simp [hz])) h
      exact ⟨i + 1, x, j, by simpa using h1, h2, by rw [Nat.succ_mul]; omega⟩

section
variable {P : Program} (w : World)
theorem run_app {α : Type} {f : α → List Value} {s : Nat} {t e : TypeId} {z : Value} {bytes : Nat} (ty : TypeId) (E : El P t e z s bytes) {B : Nat} {v xv : Value} {l m : List α}
    (hown : Ow f s e w B v l) (hsrc : Sl f s w xv m) (h1 : ∀ x, ∀ u ∈ f x, u.oneCell' = true)
    (h63 : l.length + m.length ≤ maxLen) (hbytes : (l.length + m.length) * bytes ≤ 140737488355328) (hbase : B ≤ w.heap.size) :
    ∃ v' w', (Builtin.append_ #[t, t] ty #[v, xv]).run P w = .ok v' w' ∧ Ow f s e w' B v' (l ++ m) ∧ w.grownBy w' v.ownBlock ∧
      (v'.ownBlock = v.ownBlock ∨ v'.ownBlock = some w.heap.size) := by
  obtain ⟨i, hi, hz, hs, hb⟩ := info_of E.info
  have hfm : ∀ x ∈ m, (f x).length = s := by
    obtain ⟨_, _, _, _, _, h3, _⟩ := hsrc
    intro x hx
    exact h3 _ (List.mem_map.2 ⟨x, hx, rfl⟩)
  have hsrc' := hsrc
  obtain ⟨A, c, rfl, _, _, _, hc⟩ := hsrc
  simp only [List.length_map] at hc ⊢
  rcases A with _ | a
  · have hm : m = [] := by
      rcases m with _ | ⟨y, m⟩
      · rfl
      · obtain ⟨_, _, ha, _⟩ := hc (by simp)
        cases ha
    subst hm
    refine ⟨v, w, ?_, by simpa using hown, ⟨rfl, rfl, rfl, Nat.le_refl _, fun _ _ _ => rfl⟩, .inl rfl⟩
    rcases hown.1.2 with ⟨rfl, _⟩ | ⟨g, cap, cur, rfl, _, _, hnc, _⟩
    · simp [Builtin.append_, run_underlying E.slice, sizeOf, typeInfo, hi, Builtin.lenOf, Builtin.firstCells]
    · simp [Builtin.append_, run_underlying E.slice, sizeOf, typeInfo, hi, Builtin.lenOf, Builtin.firstCells, hnc, storeCells]
  · have hcells : ∀ k u, (m.flatMap f)[k]? = some u → w.cell? (a.add k) = some u := by
      intro k u hu
      obtain ⟨i', x, j, hx, hj, rfl⟩ := mem_flatMap_get hfm hu
      obtain ⟨b', off', ha', _, hcc⟩ := Sl.at_ hsrc' hx
      injection ha' with ha'
      subst ha'
      have hadd : (⟨b', off', none⟩ : Addr).add (i' * s + j) = ⟨b', off' + i' * s + j, none⟩ := by
        unfold Addr.add
        split
        · rename_i h0'; rw [Nat.add_assoc, h0']; rfl
        · rw [Nat.add_assoc]
      rw [hadd]
      exact hcc j u hj
    obtain ⟨v', w', hr, h2, h3, _, h5⟩ := run_append_own_at (P := P) w B t ty e i z s bytes E.slice hi hz hs hb E.cells E.pos v l.length (l.flatMap f) hown.1 a m.length c (m.flatMap f) (flatMap_length hfm) hcells
      (by intro u hu; obtain ⟨x, hx, hux⟩ := List.mem_flatMap.1 hu; exact h1 x u hux) h63 hbytes hbase
    refine ⟨v', w', hr, ⟨by simpa using h2, ?_⟩, h3, h5⟩
    intro x hx
    rcases List.mem_append.1 hx with hx | hx
    · exact hown.2 x hx
    · exact hfm x hx
theorem wp_app {o : Oper} {a : Act} {K : Act → World → Prop} {Q : Exit → Act → World → Prop} (sv x : Operand) (t : TypeId)
    (ho : o.op = .call { callee := .builtin .append, args := #[sv, x], argTypes := #[t, t] })
    {α : Type} {f : α → List Value} {s : Nat} {e : TypeId} {z : Value} {bytes : Nat} (E : El P t e z s bytes) {B : Nat} {v xv : Value} {l m : List α}
    (hs : a.eval sv = v) (hx : a.eval x = xv) (hown : Ow f s e w B v l) (hsrc : Sl f s w xv m) (h1 : ∀ x, ∀ u ∈ f x, u.oneCell' = true)
    (h63 : l.length + m.length ≤ maxLen) (hbytes : (l.length + m.length) * bytes ≤ 140737488355328) (hbase : B ≤ w.heap.size)
    (h : ∀ v' w', Ow f s e w' B v' (l ++ m) → w.grownBy w' v.ownBlock → (v'.ownBlock = v.ownBlock ∨ v'.ownBlock = some w.heap.size) → K (a.put o.dst v') w') : o.wp P a w K Q := by
  obtain ⟨v', w', hr, h2, h3, h4⟩ := run_app (P := P) w o.type E hown hsrc h1 h63 hbytes hbase
  unfold Oper.wp execOp
  simp only [ho, resolve, invoke, builtin, Sem.run_bind, Sem.run_pure, Result.andThen_ok, List.map_toArray, List.map_cons, List.map_nil, hs, hx, hr]
  exact h v' w' h2 h3 h4
theorem wpList_app {ops : Array Oper} {rest : List Oper} {o : Oper} {a : Act} {Q : Exit → Act → World → Prop} (hgd : o.guard = none) (sv x : Operand) (t : TypeId)
    (ho : o.op = .call { callee := .builtin .append, args := #[sv, x], argTypes := #[t, t] })
    {α : Type} {f : α → List Value} {s : Nat} {e : TypeId} {z : Value} {bytes : Nat} (E : El P t e z s bytes) {B : Nat} {v xv : Value} {l m : List α}
    (hs : a.eval sv = v) (hx : a.eval x = xv) (hown : Ow f s e w B v l) (hsrc : Sl f s w xv m) (h1 : ∀ x, ∀ u ∈ f x, u.oneCell' = true)
    (h63 : l.length + m.length ≤ maxLen) (hbytes : (l.length + m.length) * bytes ≤ 140737488355328) (hbase : B ≤ w.heap.size)
    (h : ∀ v' w', Ow f s e w' B v' (l ++ m) → w.grownBy w' v.ownBlock → (v'.ownBlock = v.ownBlock ∨ v'.ownBlock = some w.heap.size) → wpList P ops Q rest (a.put o.dst v') w') : wpList P ops Q (o :: rest) a w :=
  wpList_plain hgd fun _ hK => wp_app w sv x t ho E hs hx hown hsrc h1 h63 hbytes hbase fun v' w' h2 h3 h4 => hK _ _ (h v' w' h2 h3 h4)
end
theorem Sl.one {α : Type} (f : α → List Value) (s : Nat) (w : World) (x : α) (e : TypeId) (hs : (f x).length = s) (cs : Array Value) (hcs : cs.toList = f x) (h0 : 0 < s) :
    Sl f s (w.alloc (.cells cs e)) (.slice (some ⟨w.heap.size, 0, none⟩) 1 1) [x] := by
  refine ⟨some ⟨w.heap.size, 0, none⟩, 1, rfl, Nat.le_refl _, by simp [maxLen], by simpa using hs, fun _ => ⟨_, _, rfl, by simp, fun i y hy j u hu => ?_⟩⟩
  cases i with
  | zero =>
    simp at hy
    subst hy
    have hc : cs[j]? = some u := by rw [← Array.getElem?_toList, hcs]; exact hu
    rw [show 0 + 0 * s + j = j from by omega, World.cell?_alloc_new]
    exact hc
  | succ i => simp at hy
theorem Sl.one_at {α : Type} (f : α → List Value) (s : Nat) (w : World) (x : α) (e : TypeId) (hs : (f x).length = s) (cs : Array Value) (hcs : cs.toList = f x) (h0 : 0 < s) {n : Nat} (hn : n = w.heap.size) :
    Sl f s (w.alloc (.cells cs e)) (.slice (some ⟨n, 0, none⟩) 1 1) [x] := by
  subst hn
  exact Sl.one f s w x e hs cs hcs h0
abbrev bA := @Below.refl
abbrev bB := @Below.drew
abbrev bC := @Below.drewN'
abbrev bD := @below_grow0
abbrev bE := @below_alloc0
abbrev bF := @Below.setCell
abbrev bG := @Below.alloc
abbrev bH := @Below.grow
abbrev zA := @List.setIfInBounds_toArray
abbrev zB := @List.set_cons_zero
abbrev zC := @List.set_cons_succ
abbrev zD := @List.getElem?_toArray
end Go.Proofs.YtchgpijfebilbaaGreatDoor

/- A range over a function whose iterator keeps a state of its own in one cell: the law for the caller. No program is in sight but by variable. -/
namespace Go.Proofs.YtchgpijfebilbaaGreatDoor
open Go.RowKit
theorem setCell_other {w : World} {b j k : Nat} {v : Value} (h : k ≠ b) : (w.setCell ⟨b, j, none⟩ v).heap[k]? = w.heap[k]? := by
  unfold World.setCell
  simp only [Array.getElem?_modify]
  rw [if_neg (fun e => h e.symm)]
def SeqCells {α : Type} (F : Fence) (n : Nat) (P : Program) (g : Nat) (lb : Array Value) (encs : α → Array Value) (b n₀ : Nat) (S : List α) (w : World) : Prop :=
  ∀ (l : Nat) (J Jx : List α → World → Prop) (W : World), Below n₀ w W → (∀ s A v, J s A → J s (A.setCell ⟨b, 0, none⟩ v)) →
    (∀ pre x W1, J pre W1 → (pre ++ [x]) <+: S → YieldAt F (n - 1) P l (encs x) W1 fun e W' =>
      (e = .returned (.bool true) ∧ J (pre ++ [x]) W' ∧ Below n₀ W1 W') ∨ (e = .returned (.bool false) ∧ Jx (pre ++ [x]) W')) →
    J [] W →
    CallsIn F n P g (#[.func (.yield l) #[] #[]] ++ lb) W fun e W' => (∃ v, e = .returned v) ∧ (J S W' ∨ ∃ pre, Jx pre W')
variable {F : Fence} {n : Nat} {P : Program}
theorem wpIn_range_cells {α : Type} {g : Operand} {ps : Array Tmp} {assign body : Code} {Q : Exit → Act → World → Prop} {a : Act} {w : World}
    (hro : F.round = none) (h1 : 1 ≤ n) {gf : Nat} {lb : Array Value} (hg : a.eval g = .func (.func gf) #[] lb) (hFg : F.fn gf) (eg : ∀ args w, (callFunc gf args).run P w = .ok (.enter gf args) w)
    {encs : α → Array Value} {b : Nat} {S : List α} (hb : b < w.heap.size) (hseq : SeqCells F (n - 1) P gf lb encs b w.heap.size S w) (hps : ∀ x, (encs x).size = ps.size)
    (I : List α → World → Prop) (Ix : Code → List α → World → Prop) (hI : OwnFrom w.heap.size I) (hIx : ∀ c, OwnFrom w.heap.size (Ix c)) (hIs : ∀ s A v, I s A → I s (A.setCell ⟨b, 0, none⟩ v)) (h0 : I [] w) (a₁ : α → Act)
    (hassign : ∀ (l : Nat) (x : α) (W : World) (K : Act → World → Prop), K (a₁ x) W →
      assign.wpIn (F.inRound l) (n - 1 - 1) P (Exit.then K (fun _ _ _ => False)) { tmps := (ps.zip (encs x)).foldl (fun t (p, v) => t.setIfInBounds p v) a.tmps, defers := [] } W)
    (hbody : ∀ (l : Nat) (pre : List α) (x : α) (W : World), I pre W → (pre ++ [x]) <+: S → body.wpIn (F.inRound l) (n - 1 - 1) P (ownPostK (Below w.heap.size) I Ix (pre ++ [x]) W) (a₁ x) W)
    (hdone : ∀ (D : Nat) (W : World), w.heap.size ≤ D → I S W → W.heap[D]? = some (.deferred (some [])) → Q .normal { a with defers := { target := .collected D, args := #[] } :: a.defers } W)
    (hstop : ∀ (D : Nat) (c : Code) (pre : List α) (W : World), w.heap.size ≤ D → Ix c pre W → W.heap[D]? = some (.deferred (some [])) → c.wpIn F n P Q { a with defers := { target := .collected D, args := #[] } :: a.defers } W) :
    (Code.rangeFunc g ps assign body).wpIn F n P Q a w := by
  have hKt : ∀ {A B C : World}, Below w.heap.size A B → Below w.heap.size B C → Below w.heap.size A C := fun h k => h.trans k
  have hKb : ∀ (W : World) (l : Nat) (o o' : Obj), w.heap.size ≤ l → W.heap[l]? = some o → o.isCells = false → o.isWalk = false → Below w.heap.size W (W.putObj l o') := belowK_b (Nat.le_refl _)
  refine wpIn_rangeFunc ?_
  intro fn hfn
  rw [hro]
  obtain ⟨rec, hrec⟩ : ∃ rec : LoopState → Option Code → Loop, rec = fun st pe => { state := st, pending := pe, fn, tmps := a.tmps, params := ps, assign, body, defers := w.heap.size } := ⟨_, rfl⟩
  obtain ⟨W1, hW1⟩ : ∃ W1, (w.alloc (.deferred (some []))).alloc (.loop (rec .ready none)) = W1 := ⟨_, rfl⟩
  have hL1 : W1.heap[w.heap.size + 1]? = some (.loop (rec .ready none)) := by
    rw [← hW1]; have := World.alloc_heap_new (w.alloc (.deferred (some []))) (.loop (rec .ready none)); rwa [World.size_alloc] at this
  have hK1 : W1.heap[w.heap.size]? = some (.deferred (some [])) := by
    rw [← hW1]; exact (Below.heap_alloc _ _ _ (by simp)).trans (World.alloc_heap_new w _)
  have hI1 : I [] W1 := by rw [← hW1]; exact hI.alloc _ (hI.alloc _ h0)
  have hb1 : Below w.heap.size w W1 := by
    rw [← hW1]; exact ((Below.refl _ w).alloc (Nat.le_refl _) _).alloc (by simp) _
  refine ⟨w.heap.size + 1, [{ target := .collected w.heap.size, args := #[] }], W1, { target := .fn (.func gf) lb, args := #[.func (.yield (w.heap.size + 1)) #[] #[]] }, W1, gf,
    #[.func (.yield (w.heap.size + 1)) #[] #[]] ++ lb, W1, ?_, ?_, ?_, ?_, fun _ => h1, ?_⟩
  · rw [← hW1, hrec]; exact run_enterLoop_outer _ _ _ _ _
  · simp only [resolve, hg]
    simp [go_sem]
  · intro f' hf'; simp [Target.leads] at hf'; subst hf'; exact hFg
  · simp [invoke, go_sem, eg]
  · refine (hseq (w.heap.size + 1)
      (fun pre W => I pre W ∧ W.heap[w.heap.size + 1]? = some (.loop (rec .ready none)) ∧ W.heap[w.heap.size]? = some (.deferred (some [])))
      (fun pre W => ∃ c, Ix c pre W ∧ W.heap[w.heap.size + 1]? = some (.loop (rec .done (some c))) ∧ W.heap[w.heap.size]? = some (.deferred (some [])))
      W1 hb1
      (fun s A v hs => ⟨hIs s A v hs.1, (setCell_other (by omega)).trans hs.2.1, (setCell_other (by omega)).trans hs.2.2⟩)
      ?_ ⟨hI1, hL1, hK1⟩).mono ?_
    · rintro pre x W ⟨hi, hl, hk⟩ hlen
      have hlt : w.heap.size + 1 < W.heap.size := (Array.getElem?_eq_some_iff.1 hl).1
      have hy := run_yield (P := P) (args := encs x) hl (by rw [hrec]; exact hps x)
      rw [hrec] at hy
      refine ⟨fn, _, assign, body, hy, roundIn_of_wpIn hfn (hassign _ x W _ ⟨_, run_beginRound hl (by rw [hrec]), ?_⟩)⟩
      have hl2 : (W.putObj (w.heap.size + 1) (.loop { rec .ready none with state := .busy })).heap[w.heap.size + 1]? = some (.loop { rec .ready none with state := .busy }) := World.putObj_heap_same hlt
      have hk2 : (W.putObj (w.heap.size + 1) (.loop { rec .ready none with state := .busy })).heap[w.heap.size]? = some (.deferred (some [])) := (World.putObj_heap_other (by omega)).trans hk
      have hw2 : Below w.heap.size W (W.putObj (w.heap.size + 1) (.loop { rec .ready none with state := .busy })) := hKb _ _ _ _ (by omega) hl rfl rfl
      refine wpIn_mono (hbody _ pre x _ (hI.putObj _ hi (by omega) hl rfl) hlen) ?_
      have fin : ∀ (jump : Option Code) (W3 : World), KeepsOthers (W.putObj (w.heap.size + 1) (.loop { rec .ready none with state := .busy })) W3 →
          (Instr.endRound (w.heap.size + 1) jump).run P W3 = .ok (.bool jump.isNone) (W3.putObj (w.heap.size + 1) (.loop (rec (if jump.isNone then .ready else .done) jump))) ∧
          W3.heap[w.heap.size + 1]? = some (.loop { rec .ready none with state := .busy }) ∧
          (W3.putObj (w.heap.size + 1) (.loop (rec (if jump.isNone then .ready else .done) jump))).heap[w.heap.size + 1]? = some (.loop (rec (if jump.isNone then .ready else .done) jump)) ∧
          (W3.putObj (w.heap.size + 1) (.loop (rec (if jump.isNone then .ready else .done) jump))).heap[w.heap.size]? = some (.deferred (some [])) := fun jump W3 hk3 => by
        have hl3 := hk3.same _ _ hl2 rfl
        have := run_endRound (P := P) jump hl3
        rw [hrec] at this ⊢
        exact ⟨this, by rw [hrec] at hl3; exact hl3, World.putObj_heap_same (Array.getElem?_eq_some_iff.1 hl3).1, (World.putObj_heap_other (by omega)).trans (hk3.same _ _ hk2 rfl)⟩
      rintro e a3 W3 hp
      cases e with
      | normal =>
        obtain ⟨hk3, hkp3, hi3⟩ := hp
        obtain ⟨hr, hl3, hl4, hk4⟩ := fin none W3 hk3
        exact ⟨_, _, hr, .inl ⟨rfl, ⟨hI.putObj _ hi3 (by omega) hl3 rfl, hl4, hk4⟩, hKt (hKt hw2 hkp3) (hKb _ _ _ _ (by omega) hl3 rfl rfl)⟩⟩
      | ret =>
        obtain ⟨hk3, hi3⟩ := hp
        obtain ⟨hr, hl3, hl4, hk4⟩ := fin (some .ret) W3 hk3
        exact ⟨_, _, hr, .inr ⟨rfl, .ret, (hIx _).putObj _ hi3 (by omega) hl3 rfl, hl4, hk4⟩⟩
      | exit id =>
        obtain ⟨hk3, hi3⟩ := hp
        obtain ⟨hr, hl3, hl4, hk4⟩ := fin (some (.exit id)) W3 hk3
        exact ⟨_, _, hr, .inr ⟨rfl, .exit id, (hIx _).putObj _ hi3 (by omega) hl3 rfl, hl4, hk4⟩⟩
      | goto t =>
        obtain ⟨hk3, hi3⟩ := hp
        obtain ⟨hr, hl3, hl4, hk4⟩ := fin (some (.goto t)) W3 hk3
        exact ⟨_, _, hr, .inr ⟨rfl, .goto t, (hIx _).putObj _ hi3 (by omega) hl3 rfl, hl4, hk4⟩⟩
      | panic ch => exact hp.elim
      | outgrown => exact hp.elim
    · rintro e W2 ⟨⟨v, rfl⟩, (⟨hi, hl, hk⟩ | ⟨pre, c, hi, hl, hk⟩)⟩
      · exact ⟨none, _, by have := run_endLoop (P := P) hl (by rw [hrec]; simp); rw [hrec] at this; exact this, hdone _ _ (Nat.le_refl _) (hI.putObj _ hi (by omega) hl rfl) ((World.putObj_heap_other (by omega)).trans hk)⟩
      · exact ⟨some c, _, by have := run_endLoop (P := P) hl (by rw [hrec]; simp); rw [hrec] at this; exact this, hstop _ c pre _ (Nat.le_refl _) ((hIx c).putObj _ hi (by omega) hl rfl) ((World.putObj_heap_other (by omega)).trans hk)⟩
end Go.Proofs.YtchgpijfebilbaaGreatDoor

/-
  DERIVED: THE SHELF's CONTRACTS AT THIS DUMP, IN PLAIN WORDS (tools/lay-plain.mjs out of 'TryzShelf.lean', which tools/lay-shelf.mjs wrote): THE SAME DECLARATIONS UNDER THE SAME NAMES: 'import', 'namespace', 'open', 'def', 'theorem' AND NOTHING ELSE: no command of the shelf's: FOR A HAND-IN. Each laying: the table of numbers ('.._ren') and one theorem, a field a fact of the dump's own or the kernel's comparison; each contract: ONE APPLICATION.
-/
namespace Go.Proofs
open Go.Shelf
def Tryz.lays106_ren : Go.Shelf.Ren := ⟨fun | 106 => 57 | 213 => 76 | 265 => 96 | n => n, fun | 9 => 9 | 3 => 3 | n => n, fun | n => n⟩
theorem Tryz.lays106 : Go.Proofs.Lays.n106 Tryz.prog Tryz.lays106_ren := {
  mixed := by kernel_rfl
  f106 := Tryz.func57.trans (congrArg some (by kernel_rfl))
  f213 := Tryz.func76.trans (congrArg some (by kernel_rfl))
  f265 := Tryz.func96.trans (congrArg some (by kernel_rfl))
  t3 := Tryz.underlying3
  a3 := Tryz.isAgg3
  z3 := Tryz.sizeOf3
  v3 := Tryz.zeroValue3
  t9 := Tryz.underlying9
  a9 := Tryz.isAgg9
  z9 := Tryz.sizeOf9
  v9 := Tryz.zeroValue9 }
open Go.RowKit in
theorem Tryz.strings_Compare (a b : ByteArray) (w : World) :
    Calls Tryz.prog 57 #[.string a, .string b] w fun e w' => e = .returned (.int .i64 (Lib.compareBytes a.data.toList b.data.toList)) ∧ w' = w := Any.strings_Compare Tryz.lays106 a b w
def Tryz.lays219_ren : Go.Shelf.Ren := ⟨fun | 219 => 112 | 217 => 115 | 225 => 116 | 224 => 117 | 267 => 118 | 266 => 120 | 314 => 121 | n => n, fun | 9 => 9 | 3 => 3 | 4 => 4 | 5 => 5 | 46 => 111 | 146 => 185 | 51 => 176 | n => n, fun | 1 => 0 | n => n⟩
theorem Tryz.lays219 : Go.Proofs.Lays.n219 Tryz.prog Tryz.lays219_ren := {
  mixed := by kernel_rfl
  f217 := Tryz.func115.trans (congrArg some (by kernel_rfl))
  f219 := Tryz.func112.trans (congrArg some (by kernel_rfl))
  f224 := Tryz.func117.trans (congrArg some (by kernel_rfl))
  f225 := Tryz.func116.trans (congrArg some (by kernel_rfl))
  f266 := Tryz.func120.trans (congrArg some (by kernel_rfl))
  f267 := Tryz.func118.trans (congrArg some (by kernel_rfl))
  f314 := Tryz.func121.trans (congrArg some (by kernel_rfl))
  t3 := Tryz.underlying3
  a3 := Tryz.isAgg3
  z3 := Tryz.sizeOf3
  v3 := Tryz.zeroValue3
  t4 := Tryz.underlying4
  a4 := Tryz.isAgg4
  z4 := Tryz.sizeOf4
  v4 := Tryz.zeroValue4
  t5 := Tryz.underlying5
  a5 := Tryz.isAgg5
  z5 := Tryz.sizeOf5
  v5 := Tryz.zeroValue5
  t9 := Tryz.underlying9
  a9 := Tryz.isAgg9
  z9 := Tryz.sizeOf9
  v9 := Tryz.zeroValue9
  t46 := Tryz.underlying111
  a46 := Tryz.isAgg111
  z46 := Tryz.sizeOf111
  v46 := Tryz.zeroValue111
  t51 := Tryz.underlying176
  a51 := Tryz.isAgg176
  z51 := Tryz.sizeOf176
  v51 := Tryz.zeroValue176
  t146 := Tryz.underlying185
  a146 := Tryz.isAgg185
  z146 := Tryz.sizeOf185
  v146 := Tryz.zeroValue185
  g1 := by kernel_rfl }
open Go.RowKit Go.Lib in
theorem Tryz.stringslite_Index_one (s : ByteArray) (c : UInt8) (w : World) :
    Calls Tryz.prog 112 #[.string s, .string ⟨#[c]⟩] w fun e w' => e = .returned (.int .i64 (Lib.indexByte s.data.toList c)) ∧ w' = w := Any.stringslite_Index_one Tryz.lays219 s c w
def Tryz.lays143_ren : Go.Shelf.Ren := ⟨fun | 143 => 111 | 219 => 112 | 217 => 115 | 225 => 116 | 224 => 117 | 267 => 118 | 266 => 120 | 314 => 121 | n => n, fun | 9 => 9 | 3 => 3 | 4 => 4 | 5 => 5 | 46 => 111 | 146 => 185 | 51 => 176 | n => n, fun | 1 => 0 | n => n⟩
theorem Tryz.lays143 : Go.Proofs.Lays.n143 Tryz.prog Tryz.lays143_ren := {
  mixed := by kernel_rfl
  f143 := Tryz.func111.trans (congrArg some (by kernel_rfl))
  f217 := Tryz.func115.trans (congrArg some (by kernel_rfl))
  f219 := Tryz.func112.trans (congrArg some (by kernel_rfl))
  f224 := Tryz.func117.trans (congrArg some (by kernel_rfl))
  f225 := Tryz.func116.trans (congrArg some (by kernel_rfl))
  f266 := Tryz.func120.trans (congrArg some (by kernel_rfl))
  f267 := Tryz.func118.trans (congrArg some (by kernel_rfl))
  f314 := Tryz.func121.trans (congrArg some (by kernel_rfl))
  t3 := Tryz.underlying3
  a3 := Tryz.isAgg3
  z3 := Tryz.sizeOf3
  v3 := Tryz.zeroValue3
  t4 := Tryz.underlying4
  a4 := Tryz.isAgg4
  z4 := Tryz.sizeOf4
  v4 := Tryz.zeroValue4
  t5 := Tryz.underlying5
  a5 := Tryz.isAgg5
  z5 := Tryz.sizeOf5
  v5 := Tryz.zeroValue5
  t9 := Tryz.underlying9
  a9 := Tryz.isAgg9
  z9 := Tryz.sizeOf9
  v9 := Tryz.zeroValue9
  t46 := Tryz.underlying111
  a46 := Tryz.isAgg111
  z46 := Tryz.sizeOf111
  v46 := Tryz.zeroValue111
  t51 := Tryz.underlying176
  a51 := Tryz.isAgg176
  z51 := Tryz.sizeOf176
  v51 := Tryz.zeroValue176
  t146 := Tryz.underlying185
  a146 := Tryz.isAgg185
  z146 := Tryz.sizeOf185
  v146 := Tryz.zeroValue185
  g1 := by kernel_rfl }
open Go.RowKit Go.Lib in
theorem Tryz.strings_Index_one (s : ByteArray) (c : UInt8) (w : World) :
    Calls Tryz.prog 111 #[.string s, .string ⟨#[c]⟩] w fun e w' => e = .returned (.int .i64 (Lib.indexByte s.data.toList c)) ∧ w' = w := Any.strings_Index_one Tryz.lays143 s c w
def Tryz.lays149_ren : Go.Shelf.Ren := ⟨fun | 149 => 80 | 222 => 99 | n => n, fun | 9 => 9 | 5 => 5 | 3 => 3 | 4 => 4 | n => n, fun | n => n⟩
theorem Tryz.lays149 : Go.Proofs.Lays.n149 Tryz.prog Tryz.lays149_ren := {
  mixed := by kernel_rfl
  f149 := Tryz.func80.trans (congrArg some (by kernel_rfl))
  f222 := Tryz.func99.trans (congrArg some (by kernel_rfl))
  t3 := Tryz.underlying3
  a3 := Tryz.isAgg3
  z3 := Tryz.sizeOf3
  v3 := Tryz.zeroValue3
  t4 := Tryz.underlying4
  a4 := Tryz.isAgg4
  z4 := Tryz.sizeOf4
  v4 := Tryz.zeroValue4
  t5 := Tryz.underlying5
  a5 := Tryz.isAgg5
  z5 := Tryz.sizeOf5
  v5 := Tryz.zeroValue5
  t9 := Tryz.underlying9
  a9 := Tryz.isAgg9
  z9 := Tryz.sizeOf9
  v9 := Tryz.zeroValue9 }
open Go.RowKit Go.Lib in
theorem Tryz.strings_LastIndexByte (s : ByteArray) (c : Int) (hs : s.size < 4611686018427387904) (w : World) :
    Calls Tryz.prog 80 #[.string s, .int .u8 c] w fun e w' => e = .returned (.int .i64 (Lib.lastIndexByte s c)) ∧ w' = w := Any.strings_LastIndexByte Tryz.lays149 s c hs w
def Tryz.lays99_ren : Go.Shelf.Ren := ⟨fun | 99 => 77 | 206 => 97 | n => n, fun | 9 => 9 | 4 => 4 | 3 => 3 | n => n, fun | n => n⟩
theorem Tryz.lays99 : Go.Proofs.Lays.n99 Tryz.prog Tryz.lays99_ren := {
  mixed := by kernel_rfl
  f99 := Tryz.func77.trans (congrArg some (by kernel_rfl))
  f206 := Tryz.func97.trans (congrArg some (by kernel_rfl))
  t3 := Tryz.underlying3
  a3 := Tryz.isAgg3
  z3 := Tryz.sizeOf3
  v3 := Tryz.zeroValue3
  t4 := Tryz.underlying4
  a4 := Tryz.isAgg4
  z4 := Tryz.sizeOf4
  v4 := Tryz.zeroValue4
  t9 := Tryz.underlying9
  a9 := Tryz.isAgg9
  z9 := Tryz.sizeOf9
  v9 := Tryz.zeroValue9 }
open Go.RowKit Go.Lib in
theorem Tryz.strings_HasPrefix (s p : ByteArray) (w : World) :
    Calls Tryz.prog 77 #[.string s, .string p] w fun e w' => e = .returned (.bool (Lib.hasPrefix s.data.toList p.data.toList)) ∧ w' = w := Any.strings_HasPrefix Tryz.lays99 s p w
def Tryz.laysNm232_ren : Go.Shelf.Ren := ⟨fun | 32 => 49 | n => n, fun | 3 => 3 | 4 => 4 | n => n, fun | n => n⟩
theorem Tryz.laysNm232 : Go.Proofs.Lays2.n32 Tryz.prog Tryz.laysNm232_ren := {
  mixed := by kernel_rfl
  f32 := Tryz.func49.trans (congrArg some (by kernel_rfl))
  t3 := Tryz.underlying3
  a3 := Tryz.isAgg3
  z3 := Tryz.sizeOf3
  v3 := Tryz.zeroValue3
  t4 := Tryz.underlying4
  a4 := Tryz.isAgg4
  z4 := Tryz.sizeOf4
  v4 := Tryz.zeroValue4 }
open Go.RowKit Go.Lib in
theorem Tryz.slices_isNaN_int2 (x : Int) (w : World) :
    Calls Tryz.prog 49 #[.int .i64 x] w fun e w' => e = .returned (.bool false) ∧ w' = w := Any.slices_isNaN_int2 Tryz.laysNm232 x w
def Tryz.laysNm231_ren : Go.Shelf.Ren := ⟨fun | 31 => 48 | 37 => 72 | n => n, fun | 3 => 3 | 4 => 4 | n => n, fun | n => n⟩
theorem Tryz.laysNm231 : Go.Proofs.Lays2.n31 Tryz.prog Tryz.laysNm231_ren := {
  mixed := by kernel_rfl
  f31 := Tryz.func48.trans (congrArg some (by kernel_rfl))
  f37 := Tryz.func72.trans (congrArg some (by kernel_rfl))
  t3 := Tryz.underlying3
  a3 := Tryz.isAgg3
  z3 := Tryz.sizeOf3
  v3 := Tryz.zeroValue3
  t4 := Tryz.underlying4
  a4 := Tryz.isAgg4
  z4 := Tryz.sizeOf4
  v4 := Tryz.zeroValue4 }
open Go.RowKit Go.Lib in
theorem Tryz.cmp_Less_int2 (x y : Int) (w : World) :
    Calls Tryz.prog 48 #[.int .i64 x, .int .i64 y] w fun e w' => e = .returned (.bool (decide (x < y))) ∧ w' = w := Any.cmp_Less_int2 Tryz.laysNm231 x y w
end Go.Proofs

/- strings.SplitSeq at a separator of one byte: its iterator, which keeps the rest in a cell of its own. -/
namespace Go.Proofs.YtchgpijfebilbaaGreatDoor
open Go.RowKit Go.Shelf
attribute [local go_sem] Oper.semAt_some
def stepsB (s : ByteArray) : List ByteArray :=
  if h : 0 ≤ Lib.indexByte s.data.toList 47 ∧ (Lib.indexByte s.data.toList 47).toNat < s.size then s.extract 0 (Lib.indexByte s.data.toList 47).toNat :: stepsB (s.extract ((Lib.indexByte s.data.toList 47).toNat + 1) s.size) else [s]
termination_by s.size
decreasing_by rw [ByteArray.size_extract]; omega
theorem index_lt {s : ByteArray} {o : Nat} (h : Lib.indexByte s.data.toList 47 = o) : o < s.size := by
  have := (Lib.indexByte_some h).1
  have h2 := (List.getElem?_eq_some_iff.1 this).1
  simpa using h2
theorem stepsB_no {s : ByteArray} (h : Lib.indexByte s.data.toList 47 < 0) : stepsB s = [s] := by
  rw [stepsB, dif_neg (fun k => by omega)]
theorem stepsB_yes {s : ByteArray} {o : Nat} (h : Lib.indexByte s.data.toList 47 = o) : stepsB s = s.extract 0 o :: stepsB (s.extract (o + 1) s.size) := by
  have := index_lt h
  rw [stepsB, dif_pos ⟨by omega, by omega⟩, h]
  rfl
def leftS (b : Nat) (w : World) : Nat := match w.cell? ⟨b, 0, none⟩ with
  | some (.string r) => r.size
  | _ => 0
theorem leftS_eq {b : Nat} {w : World} {r : ByteArray} (h : w.cell? ⟨b, 0, none⟩ = some (.string r)) : leftS b w = r.size := by unfold leftS; rw [h]
set_option maxHeartbeats 1000000 in
theorem split_stops (n : Nat) (hn : 1 ≤ n) (w : World) (b b1 b2 : Nat) (s : ByteArray) (c0 : w.cell? ⟨b, 0, none⟩ = some (.string s)) (f0 : w.frozen? ⟨b, 0, none⟩ = false) (c1 : w.cell? ⟨b1, 0, none⟩ = some (.string ⟨#[47]⟩)) (c2 : w.cell? ⟨b2, 0, none⟩ = some (.int .i64 0)) (n1 : b1 ≠ b) (n2 : b2 ≠ b) (hs : s.size ≤ 4611686018427387904) :
    SeqCells Fence.wide n Tryz.prog 109 #[.pointer (some ⟨b1, 0, none⟩), .pointer (some ⟨b, 0, none⟩), .pointer (some ⟨b2, 0, none⟩)] (fun x : ByteArray => #[.string x]) b w.heap.size (stepsB s) w := by
  intro l J Jx W hW hJs hY h0
  have hb : b < w.heap.size := World.block_lt_of_cell? w _ c0
  have hb1 : b1 < w.heap.size := World.block_lt_of_cell? w _ c1
  have hb2 : b2 < w.heap.size := World.block_lt_of_cell? w _ c2
  have C0 := (hW.cell (p := ⟨b, 0, none⟩) hb).trans c0
  have C1 := (hW.cell (p := ⟨b1, 0, none⟩) hb1).trans c1
  have C2 := (hW.cell (p := ⟨b2, 0, none⟩) hb2).trans c2
  have F0 := (World.frozen?_of_block (a := ⟨b, 0, none⟩) (hW.block b hb)).trans f0
  refine callsIn_of_wp Tryz.func109 rfl trivial ?_ rfl
  simp only [Tryz.ntmps109, List.size_toArray, List.length_cons, List.length_nil, Nat.reduceAdd, Nat.reduceSub, Array.replicate_succ, Array.replicate_zero, List.push_toArray, List.append_toArray, List.nil_append, List.cons_append]
  gi_wp2
  gi_loopw [7] (fun i wr => ∃ (k : Int) (pre : List ByteArray) (r : ByteArray), (i = .int .i64 k ∨ i = undef) ∧ Hid (pre ++ stepsB r = stepsB s) ∧ J pre wr ∧ wr.cell? ⟨b, 0, none⟩ = some (.string r) ∧ wr.cell? ⟨b1, 0, none⟩ = some (.string ⟨#[47]⟩) ∧ wr.cell? ⟨b2, 0, none⟩ = some (.int .i64 0) ∧ wr.frozen? ⟨b, 0, none⟩ = false ∧ r.size ≤ s.size) (fun _ wr => leftS b wr)
  case atStart => exact ⟨0, [], s, .inr rfl, Lib.hid rfl, h0, C0, C1, C2, F0, Nat.le_refl _⟩
  case round =>
    obtain ⟨k, pre, r, _, hst, hJ, d0, d1, d2, df, hrs⟩ := hrel
    clear C0 C1 C2 F0 c0 c1 c2 f0
    have hm := leftS_eq d0
    have hge := Lib.indexByte_ge r.data.toList 47
    rcases Int.lt_or_le (Lib.indexByte r.data.toList 47) 0 with hi | hi
    · have hlast := stepsB_no hi
      have hi1 : Lib.indexByte r.data.toList 47 = -1 := by omega
      obtain ⟨fn, tmps, assign, body, hy, hR⟩ := hY pre r wr hJ (by rw [← hst.out, hlast]; exact List.prefix_refl _)
      have HST := Lib.hid (show pre ++ [r] = stepsB s by rw [← hst.out, hlast])
      clear hst hlast hY
      gi_wp2_with (refine ⟨trivial, ?_⟩; gi_at_call 111; refine (callsIn_wide.2 (Tryz.strings_Index_one _ _ _)).mono ?_; rintro e w' ⟨rfl, rfl⟩; rw [hi1])
      refine hR.mono ?_
      rintro e W3 (⟨rfl, hJ3, hk3⟩ | ⟨rfl, hJx3⟩)
      · gi_wp2
        go_end0
        exact ⟨⟨_, rfl⟩, .inl (by rw [← HST.out]; exact hJ3)⟩
      · gi_wp2
        go_end0
        exact ⟨⟨_, rfl⟩, .inr ⟨_, hJx3⟩⟩
    · obtain ⟨o, ho⟩ := Int.eq_ofNat_of_zero_le hi
      have hlt := index_lt ho
      have hyes := stepsB_yes ho
      obtain ⟨fn, tmps, assign, body, hy, hR⟩ := hY pre (r.extract 0 o) wr hJ (by rw [← hst.out, hyes]; exact ⟨stepsB (r.extract (o + 1) r.size), by simp⟩)
      have HST := Lib.hid (show (pre ++ [r.extract 0 o]) ++ stepsB (r.extract (o + 1) r.size) = stepsB s by rw [← hst.out, hyes, List.append_assoc]; rfl)
      clear hst hyes hY
      gi_wp2_with (refine ⟨trivial, ?_⟩; gi_at_call 111; refine (callsIn_wide.2 (Tryz.strings_Index_one _ _ _)).mono ?_; rintro e w' ⟨rfl, rfl⟩; rw [ho])
      refine hR.mono ?_
      rintro e W3 (⟨rfl, hJ3, hk3⟩ | ⟨rfl, hJx3⟩)
      · have e0 := (hk3.cell (p := ⟨b, 0, none⟩) hb).trans d0
        have e1 := (hk3.cell (p := ⟨b1, 0, none⟩) hb1).trans d1
        have e2 := (hk3.cell (p := ⟨b2, 0, none⟩) hb2).trans d2
        have ef := (World.frozen?_of_block (a := ⟨b, 0, none⟩) (hk3.block b hb)).trans df
        clear d0 d1 d2 df
        gi_wp2
        have g0 : (W3.setCell ⟨b, 0, none⟩ (.string (r.extract (o + 1) r.size))).cell? ⟨b, 0, none⟩ = some (.string (r.extract (o + 1) r.size)) := World.cell?_setCell_same' _ _ _ (by rw [e0]; rfl)
        have hsz : (r.extract (o + 1) r.size).size = r.size - (o + 1) := by rw [ByteArray.size_extract]; omega
        go_roundw
        case rel => exact ⟨_, _, _, .inl rfl, HST, hJs _ _ _ hJ3, g0, (World.cell?_setCell_other _ _ _ _ (fun h => n1 (by injection h with h; exact h.symm))).trans e1, (World.cell?_setCell_other _ _ _ _ (fun h => n2 (by injection h with h; exact h.symm))).trans e2, by rw [World.frozen?_setCell]; exact ef, by omega⟩
        case measure => rw [leftS_eq g0, hm, hsz]; omega
      · gi_wp2
        refine bodyPost_ret (results_none rfl _ _ _) rfl ?_
        exact ⟨⟨_, rfl⟩, .inr ⟨_, hJx3⟩⟩
end Go.Proofs.YtchgpijfebilbaaGreatDoor

/- The program's flat structs as structures of Lean, the cells in which they lie, and what is known of slices of them. -/
namespace Go.Proofs.YtchgpijfebilbaaGreatDoor
open Go.RowKit
theorem elInt : El Tryz.prog 32 3 (.int .i64 0) 1 8 := ⟨Tryz.underlying32, by kernel_rfl, rfl, by decide⟩
theorem cInt_one : ∀ x : Int, ∀ u ∈ cInt x, u.oneCell' = true := by intro x u hu; simp [cInt] at hu; subst hu; rfl
def cByte (z : UInt8) : List Value := [.int .u8 z.toNat]
theorem elByte : El Tryz.prog 147 5 (.int .u8 0) 1 1 := ⟨Tryz.underlying147, by kernel_rfl, rfl, by decide⟩

structure Watch where
  session : Int
  kind : Int
  path : ByteArray
def cWatch (x : Watch) : List Value := [.int .i64 x.session, .int .i64 x.kind, .string x.path]
def Watch.ok (x : Watch) : Prop := I64 x.session ∧ I64 x.kind ∧ x.path.size ≤ maxLen
theorem cWatch_one : ∀ x : Watch, ∀ u ∈ cWatch x, u.oneCell' = true := by
  intro x u hu
  simp [cWatch] at hu
  rcases hu with rfl | rfl | rfl <;> rfl
theorem fitsWatch {x : List Value} (h : Fits [.i .i64, .i .i64, .s] x) : ∃ t : Watch, x = cWatch t ∧ t.ok := by
  have r0 := h
  obtain ⟨z0, u0, rfl, o0, r1⟩ := fits_i r0
  obtain ⟨z1, u1, rfl, o1, r2⟩ := fits_i r1
  obtain ⟨z2, u2, rfl, o2, r3⟩ := fits_s r2
  obtain rfl := r3.nil
  exact ⟨⟨z0, z1, z2⟩, rfl, o0, o1, o2⟩
theorem Sl.Watch_at {w : World} {A : Option Addr} {n c : Nat} {l : List Watch} (h : Sl cWatch 3 w (.slice A n c) l) {i : Nat} {x : Watch} (hx : l[i]? = some x) : ∃ b off, A = some ⟨b, off, none⟩ ∧ b < w.heap.size ∧ w.cell? ⟨b, off + i * 3, none⟩ = some (.int .i64 x.session) ∧ w.cell? ⟨b, off + i * 3 + 1, none⟩ = some (.int .i64 x.kind) ∧ w.cell? ⟨b, off + i * 3 + 2, none⟩ = some (.string x.path) := by
  obtain ⟨b, off, rfl, hb, hc⟩ := h.at_ hx
  exact ⟨b, off, rfl, hb, hc 0 _ rfl, hc 1 _ rfl, hc 2 _ rfl⟩
theorem elWatch : El Tryz.prog 23 70 (.agg #[.int .i64 0, .int .i64 0, .string ByteArray.empty]) 3 32 := ⟨Tryz.underlying23, by kernel_rfl, rfl, by decide⟩

structure Event where
  kind : Int
  path : ByteArray
def cEvent (x : Event) : List Value := [.int .i64 x.kind, .string x.path]
def Event.ok (x : Event) : Prop := I64 x.kind ∧ x.path.size ≤ maxLen
theorem cEvent_one : ∀ x : Event, ∀ u ∈ cEvent x, u.oneCell' = true := by
  intro x u hu
  simp [cEvent] at hu
  rcases hu with rfl | rfl <;> rfl
theorem Sl.Event_at {w : World} {A : Option Addr} {n c : Nat} {l : List Event} (h : Sl cEvent 2 w (.slice A n c) l) {i : Nat} {x : Event} (hx : l[i]? = some x) : ∃ b off, A = some ⟨b, off, none⟩ ∧ b < w.heap.size ∧ w.cell? ⟨b, off + i * 2, none⟩ = some (.int .i64 x.kind) ∧ w.cell? ⟨b, off + i * 2 + 1, none⟩ = some (.string x.path) := by
  obtain ⟨b, off, rfl, hb, hc⟩ := h.at_ hx
  exact ⟨b, off, rfl, hb, hc 0 _ rfl, hc 1 _ rfl⟩
theorem elEvent : El Tryz.prog 49 84 (.agg #[.int .i64 0, .string ByteArray.empty]) 2 24 := ⟨Tryz.underlying49, by kernel_rfl, rfl, by decide⟩

structure Note where
  session : Int
  kind : Int
  path : ByteArray
def cNote (x : Note) : List Value := [.int .i64 x.session, .int .i64 x.kind, .string x.path]
def Note.ok (x : Note) : Prop := I64 x.session ∧ I64 x.kind ∧ x.path.size ≤ maxLen
theorem cNote_one : ∀ x : Note, ∀ u ∈ cNote x, u.oneCell' = true := by
  intro x u hu
  simp [cNote] at hu
  rcases hu with rfl | rfl | rfl <;> rfl
theorem elNote : El Tryz.prog 42 102 (.agg #[.int .i64 0, .int .i64 0, .string ByteArray.empty]) 3 32 := ⟨Tryz.underlying42, by kernel_rfl, rfl, by decide⟩

structure Entry where
  path : ByteArray
  data : ByteArray
  there_ : Bool
def Entry.ok (x : Entry) : Prop := x.path.size ≤ maxLen ∧ x.data.size ≤ maxLen
structure Txn where
  zxid : Int
  op : Int
  session : Int
  path : ByteArray
  data : ByteArray
  version : Int
  owner : Int
def cTxn (x : Txn) : List Value := [.int .i64 x.zxid, .int .i64 x.op, .int .i64 x.session, .string x.path, .string x.data, .int .i64 x.version, .int .i64 x.owner]
def Txn.ok (x : Txn) : Prop := I64 x.zxid ∧ I64 x.op ∧ I64 x.session ∧ x.path.size ≤ maxLen ∧ x.data.size ≤ maxLen ∧ I64 x.version ∧ I64 x.owner
theorem cTxn_one : ∀ x : Txn, ∀ u ∈ cTxn x, u.oneCell' = true := by
  intro x u hu
  simp [cTxn] at hu
  rcases hu with rfl | rfl | rfl | rfl | rfl | rfl | rfl <;> rfl
theorem Sl.Txn_at {w : World} {A : Option Addr} {n c : Nat} {l : List Txn} (h : Sl cTxn 7 w (.slice A n c) l) {i : Nat} {x : Txn} (hx : l[i]? = some x) : ∃ b off, A = some ⟨b, off, none⟩ ∧ b < w.heap.size ∧ w.cell? ⟨b, off + i * 7, none⟩ = some (.int .i64 x.zxid) ∧ w.cell? ⟨b, off + i * 7 + 1, none⟩ = some (.int .i64 x.op) ∧ w.cell? ⟨b, off + i * 7 + 2, none⟩ = some (.int .i64 x.session) ∧ w.cell? ⟨b, off + i * 7 + 3, none⟩ = some (.string x.path) ∧ w.cell? ⟨b, off + i * 7 + 4, none⟩ = some (.string x.data) ∧ w.cell? ⟨b, off + i * 7 + 5, none⟩ = some (.int .i64 x.version) ∧ w.cell? ⟨b, off + i * 7 + 6, none⟩ = some (.int .i64 x.owner) := by
  obtain ⟨b, off, rfl, hb, hc⟩ := h.at_ hx
  exact ⟨b, off, rfl, hb, hc 0 _ rfl, hc 1 _ rfl, hc 2 _ rfl, hc 3 _ rfl, hc 4 _ rfl, hc 5 _ rfl, hc 6 _ rfl⟩
theorem elTxn : El Tryz.prog 24 53 (.agg #[.int .i64 0, .int .i64 0, .int .i64 0, .string ByteArray.empty, .string ByteArray.empty, .int .i64 0, .int .i64 0]) 7 72 := ⟨Tryz.underlying24, by kernel_rfl, rfl, by decide⟩

structure File where
  name : ByteArray
  safe : ByteArray
  tail : ByteArray
def cFile (x : File) : List Value := [.string x.name, .string x.safe, .string x.tail]
def File.ok (x : File) : Prop := x.name.size ≤ maxLen ∧ x.safe.size ≤ maxLen ∧ x.tail.size ≤ maxLen
theorem cFile_one : ∀ x : File, ∀ u ∈ cFile x, u.oneCell' = true := by
  intro x u hu
  simp [cFile] at hu
  rcases hu with rfl | rfl | rfl <;> rfl
theorem Sl.File_at {w : World} {A : Option Addr} {n c : Nat} {l : List File} (h : Sl cFile 3 w (.slice A n c) l) {i : Nat} {x : File} (hx : l[i]? = some x) : ∃ b off, A = some ⟨b, off, none⟩ ∧ b < w.heap.size ∧ w.cell? ⟨b, off + i * 3, none⟩ = some (.string x.name) ∧ w.cell? ⟨b, off + i * 3 + 1, none⟩ = some (.string x.safe) ∧ w.cell? ⟨b, off + i * 3 + 2, none⟩ = some (.string x.tail) := by
  obtain ⟨b, off, rfl, hb, hc⟩ := h.at_ hx
  exact ⟨b, off, rfl, hb, hc 0 _ rfl, hc 1 _ rfl, hc 2 _ rfl⟩
theorem elFile : El Tryz.prog 26 151 (.agg #[.string ByteArray.empty, .string ByteArray.empty, .string ByteArray.empty]) 3 48 := ⟨Tryz.underlying26, by kernel_rfl, rfl, by decide⟩

structure Node where
  path : ByteArray
  data : ByteArray
  czxid : Int
  mzxid : Int
  pzxid : Int
  version : Int
  cversion : Int
  owner : Int
  kids : Int
def cNode (x : Node) : List Value := [.string x.path, .string x.data, .int .i64 x.czxid, .int .i64 x.mzxid, .int .i64 x.pzxid, .int .i64 x.version, .int .i64 x.cversion, .int .i64 x.owner, .int .i64 x.kids]
def Node.ok (x : Node) : Prop := x.path.size ≤ maxLen ∧ x.data.size ≤ maxLen ∧ I64 x.czxid ∧ I64 x.mzxid ∧ I64 x.pzxid ∧ I64 x.version ∧ I64 x.cversion ∧ I64 x.owner ∧ I64 x.kids
theorem cNode_one : ∀ x : Node, ∀ u ∈ cNode x, u.oneCell' = true := by
  intro x u hu
  simp [cNode] at hu
  rcases hu with rfl | rfl | rfl | rfl | rfl | rfl | rfl | rfl | rfl <;> rfl
theorem Sl.Node_at {w : World} {A : Option Addr} {n c : Nat} {l : List Node} (h : Sl cNode 9 w (.slice A n c) l) {i : Nat} {x : Node} (hx : l[i]? = some x) : ∃ b off, A = some ⟨b, off, none⟩ ∧ b < w.heap.size ∧ w.cell? ⟨b, off + i * 9, none⟩ = some (.string x.path) ∧ w.cell? ⟨b, off + i * 9 + 1, none⟩ = some (.string x.data) ∧ w.cell? ⟨b, off + i * 9 + 2, none⟩ = some (.int .i64 x.czxid) ∧ w.cell? ⟨b, off + i * 9 + 3, none⟩ = some (.int .i64 x.mzxid) ∧ w.cell? ⟨b, off + i * 9 + 4, none⟩ = some (.int .i64 x.pzxid) ∧ w.cell? ⟨b, off + i * 9 + 5, none⟩ = some (.int .i64 x.version) ∧ w.cell? ⟨b, off + i * 9 + 6, none⟩ = some (.int .i64 x.cversion) ∧ w.cell? ⟨b, off + i * 9 + 7, none⟩ = some (.int .i64 x.owner) ∧ w.cell? ⟨b, off + i * 9 + 8, none⟩ = some (.int .i64 x.kids) := by
  obtain ⟨b, off, rfl, hb, hc⟩ := h.at_ hx
  exact ⟨b, off, rfl, hb, hc 0 _ rfl, hc 1 _ rfl, hc 2 _ rfl, hc 3 _ rfl, hc 4 _ rfl, hc 5 _ rfl, hc 6 _ rfl, hc 7 _ rfl, hc 8 _ rfl⟩
theorem elNode : El Tryz.prog 31 68 (.agg #[.string ByteArray.empty, .string ByteArray.empty, .int .i64 0, .int .i64 0, .int .i64 0, .int .i64 0, .int .i64 0, .int .i64 0, .int .i64 0]) 9 88 := ⟨Tryz.underlying31, by kernel_rfl, rfl, by decide⟩

structure Request where
  op : Int
  session : Int
  path : ByteArray
  data : ByteArray
  version : Int
  flags : Int
def cRequest (x : Request) : List Value := [.int .i64 x.op, .int .i64 x.session, .string x.path, .string x.data, .int .i64 x.version, .int .i64 x.flags]
def Request.ok (x : Request) : Prop := I64 x.op ∧ I64 x.session ∧ x.path.size ≤ maxLen ∧ x.data.size ≤ maxLen ∧ I64 x.version ∧ I64 x.flags
theorem Sl.Request_at {w : World} {A : Option Addr} {n c : Nat} {l : List Request} (h : Sl cRequest 6 w (.slice A n c) l) {i : Nat} {x : Request} (hx : l[i]? = some x) : ∃ b off, A = some ⟨b, off, none⟩ ∧ b < w.heap.size ∧ w.cell? ⟨b, off + i * 6, none⟩ = some (.int .i64 x.op) ∧ w.cell? ⟨b, off + i * 6 + 1, none⟩ = some (.int .i64 x.session) ∧ w.cell? ⟨b, off + i * 6 + 2, none⟩ = some (.string x.path) ∧ w.cell? ⟨b, off + i * 6 + 3, none⟩ = some (.string x.data) ∧ w.cell? ⟨b, off + i * 6 + 4, none⟩ = some (.int .i64 x.version) ∧ w.cell? ⟨b, off + i * 6 + 5, none⟩ = some (.int .i64 x.flags) := by
  obtain ⟨b, off, rfl, hb, hc⟩ := h.at_ hx
  exact ⟨b, off, rfl, hb, hc 0 _ rfl, hc 1 _ rfl, hc 2 _ rfl, hc 3 _ rfl, hc 4 _ rfl, hc 5 _ rfl⟩
structure Deed where
  kind : Int
  client : Int
  server : Int
  op : Int
  session : Int
  path : ByteArray
  data : ByteArray
  version : Int
  flags : Int
  lost : Int
  slow : Int
  keep : Int
  watch : Bool
def Deed.ok (x : Deed) : Prop := I64 x.kind ∧ I64 x.client ∧ I64 x.server ∧ I64 x.op ∧ I64 x.session ∧ x.path.size ≤ maxLen ∧ x.data.size ≤ maxLen ∧ I64 x.version ∧ I64 x.flags ∧ I64 x.lost ∧ I64 x.slow ∧ I64 x.keep
end Go.Proofs.YtchgpijfebilbaaGreatDoor

/- Contracts of package path that reach no library: Named, Serial. -/
namespace Go.Proofs.YtchgpijfebilbaaGreatDoor
open Go.RowKit

theorem ret_bool' {a b : Bool} (h : a = b) : Ending.returned (.bool a) = Ending.returned (.bool b) := by rw [h]
def okc (c : UInt8) : Bool := decide ((97 ≤ c.toNat ∧ c.toNat ≤ 122) ∨ (48 ≤ c.toNat ∧ c.toNat ≤ 57) ∨ c.toNat = 45 ∨ c.toNat = 95)
def named (l : List UInt8) : Bool := l.all okc && decide (0 < l.length) && decide (l.length ≤ 40)
def bs (s : ByteArray) : List UInt8 := s.data.toList
@[simp] theorem length_bs (s : ByteArray) : (bs s).length = s.size := by
  show s.data.toList.length = s.data.size
  simp
theorem bs_get (s : ByteArray) (k : Nat) (h : k < s.size) : (bs s)[k]'(by simpa using h) = s[k] := rfl

theorem all_take_succ (s : ByteArray) (k : Nat) (h : k < s.size) : ((bs s).take (k + 1)).all okc = (((bs s).take k).all okc && okc s[k]) := by
  rw [List.take_succ_eq_append_getElem (by simpa using h), List.all_append, bs_get s k h]
  simp
theorem not_named_of {s : ByteArray} {k : Nat} (h : k < s.size) (hk : okc s[k] = false) : named (bs s) = false := by
  have : (bs s).all okc = false := by
    rw [List.all_eq_false]
    exact ⟨(bs s)[k]'(by simpa using h), List.getElem_mem _, by rw [bs_get s k h, hk]; simp⟩
  simp [named, this]
theorem named_round {k : Nat} {s : ByteArray} (h : k < s.size) (hall : ((bs s).take k).all okc = true) (hk : okc s[k] = true) : ((bs s).take (k + 1)).all okc = true := by
  rw [all_take_succ s k h, hall, hk]; rfl
theorem named_end {k : Nat} {s : ByteArray} (h : ¬ k < s.size) (hk : k ≤ s.size) (hall : ((bs s).take k).all okc = true) : (!s.toList.isEmpty && decide ((s.size : Int) ≤ 40)) = named (bs s) := by
  obtain rfl : k = s.size := by omega
  rw [List.take_of_length_le (by simp)] at hall
  have h1 : (!s.toList.isEmpty) = decide (0 < (bs s).length) := by
    rw [ByteArray.toList_eq]
    show (!(bs s).isEmpty) = _
    cases bs s <;> simp
  have h2 : decide ((s.size : Int) ≤ 40) = decide ((bs s).length ≤ 40) := by rw [length_bs]; simp; omega
  rw [named, hall, h1, h2]
  simp
theorem named_any (s : ByteArray) (w : World) (hs : s.size ≤ 9223372036854775807) :
    Calls Tryz.prog 79 #[.string s] w fun e w' => e = .returned (.bool (named (bs s))) ∧ w = w' := by
  go_enter Tryz.func79, Tryz.ntmps79
  go_wp2
  go_loop [3] (fun i => ∃ k : Nat, k ≤ s.size ∧ i = .int .i64 k ∧ Hid (((bs s).take k).all okc = true)) (fun i => s.size - (intOf i).toNat)
  case atStart => exact ⟨0, Nat.zero_le _, rfl, rfl⟩
  case round =>
    obtain ⟨k, hk, rfl, hall⟩ := hrel
    by_cases hlt : k < s.size
    · by_cases hok : okc s[k] = true
      · have hok' : (97 ≤ s[k].toNat ∧ s[k].toNat ≤ 122) ∨ (48 ≤ s[k].toNat ∧ s[k].toNat ≤ 57) ∨ s[k].toNat = 45 ∨ s[k].toNat = 95 := of_decide_eq_true hok
        have H := Lib.hid (named_round hlt hall.out hok)
        clear hok hall
        rcases hok' with ⟨h1, h2⟩ | ⟨h1, h2⟩ | h1 | h1
        · have g1 : (97 : Int) ≤ (s[k].toNat : Int) := by omega
          have g2 : (s[k].toNat : Int) ≤ 122 := by omega
          clear h1 h2
          go_wp2
          go_round
          case rel => exact ⟨k + 1, by omega, by go_num, H.out⟩
          case measure => simp [intOf]; omega
        · have g0 : (s[k].toNat : Int) < 97 := by omega
          have g1 : (48 : Int) ≤ (s[k].toNat : Int) := by omega
          have g2 : (s[k].toNat : Int) ≤ 57 := by omega
          clear h1 h2
          go_wp2
          go_round
          case rel => exact ⟨k + 1, by omega, by go_num, H.out⟩
          case measure => simp [intOf]; omega
        · have g0 : (s[k].toNat : Int) < 48 := by omega
          have g1 : ((s[k].toNat : Int) != 45) = false := by simp; omega
          clear h1
          go_wp2
          go_round
          case rel => exact ⟨k + 1, by omega, by go_num, H.out⟩
          case measure => simp [intOf]; omega
        · have g0 : (s[k].toNat : Int) < 97 := by omega
          have g3 : (57 : Int) < (s[k].toNat : Int) := by omega
          have g1 : ((s[k].toNat : Int) != 45) = true := by simp; omega
          have g2 : ((s[k].toNat : Int) != 95) = false := by simp; omega
          clear h1
          go_wp2
          go_round
          case rel => exact ⟨k + 1, by omega, by go_num, H.out⟩
          case measure => simp [intOf]; omega
      · have hok' : ¬ ((97 ≤ s[k].toNat ∧ s[k].toNat ≤ 122) ∨ (48 ≤ s[k].toNat ∧ s[k].toNat ≤ 57) ∨ s[k].toNat = 45 ∨ s[k].toNat = 95) := fun h => hok (decide_eq_true h)
        have H := Lib.hid (not_named_of hlt (by simpa using hok))
        clear hok hall
        have g1 : ((s[k].toNat : Int) != 45) = true := by simp; omega
        have g2 : ((s[k].toNat : Int) != 95) = true := by simp; omega
        rcases (by omega : s[k].toNat < 48 ∨ (57 < s[k].toNat ∧ s[k].toNat < 97) ∨ 122 < s[k].toNat) with h1 | ⟨h1, h2⟩ | h1
        · have g3 : (s[k].toNat : Int) < 48 := by omega
          clear hok' h1
          go_wp2
          go_ret
          exact ⟨ret_bool' H.out.symm, rfl⟩
        · have g3 : (57 : Int) < (s[k].toNat : Int) := by omega
          have g4 : (s[k].toNat : Int) < 97 := by omega
          clear hok' h1 h2
          go_wp2
          go_ret
          exact ⟨ret_bool' H.out.symm, rfl⟩
        · have g3 : (122 : Int) < (s[k].toNat : Int) := by omega
          clear hok' h1
          go_wp2
          go_ret
          exact ⟨ret_bool' H.out.symm, rfl⟩
    · have H := Lib.hid (named_end hlt hk hall.out)
      clear hall
      go_wp2
      all_goals
        go_ret
        refine ⟨ret_bool' (Eq.trans ?_ H.out), rfl⟩
        first | rfl | simp [*]
def digs : Nat → Nat → List UInt8
  | 0, _ => []
  | k + 1, n => digs k (n / 10) ++ [UInt8.ofNat (48 + n % 10)]
theorem length_digs (k n : Nat) : (digs k n).length = k := by
  induction k generalizing n with
  | zero => rfl
  | succ k ih => simp [digs, ih]
theorem digs_left (k : Nat) : ∀ n : Nat, digs (k + 1) n = UInt8.ofNat (48 + n / 10 ^ k % 10) :: digs k n := by
  induction k with
  | zero => intro n; simp [digs]
  | succ k ih =>
    intro n
    rw [digs, ih (n / 10)]
    rw [digs, List.cons_append, Nat.div_div_eq_div_mul, Nat.pow_succ, Nat.mul_comm 10]
theorem digs_pad (k j n : Nat) (h : n / 10 ^ j = 0) : digs (j + k) n = List.replicate k 48 ++ digs j n := by
  induction k with
  | zero => simp
  | succ k ih =>
    rw [show j + (k + 1) = (j + k) + 1 from by omega, digs_left, ih, List.replicate_succ, List.cons_append]
    have : n / 10 ^ (j + k) = 0 := by rw [Nat.pow_add, ← Nat.div_div_eq_div_mul, h, Nat.zero_div]
    rw [this]
    rfl
def part (j n : Nat) : List UInt8 := List.replicate (10 - j) 48 ++ digs j n
theorem length_part (j n : Nat) (h : j ≤ 10) : (part j n).length = 10 := by simp [part, length_digs]; omega
theorem part_end (j n : Nat) (hj : j ≤ 10) (h : n / 10 ^ j = 0) : part j n = digs 10 n := by
  rw [part, ← digs_pad (10 - j) j n h, show j + (10 - j) = 10 from by omega]
theorem part_set (j n : Nat) (hj : j < 10) : (part j n).set (9 - j) (UInt8.ofNat (48 + n / 10 ^ j % 10)) = part (j + 1) n := by
  unfold part
  rw [digs_left, show 10 - j = (9 - j) + 1 from by omega, List.replicate_succ', List.append_assoc, List.set_append_right _ _ (by simp), show 10 - (j + 1) = 9 - j from by omega]
  simp
theorem lt_ten {n j : Nat} (hn : n ≤ 2147483647) (h : 0 < n / 10 ^ j) : j < 10 := by
  rcases Nat.lt_or_ge j 10 with h1 | h1
  · exact h1
  · have h2 : 10 ^ 10 ≤ 10 ^ j := Nat.pow_le_pow_right (by omega) h1
    have : n / 10 ^ j = 0 := Nat.div_eq_of_lt (by omega)
    omega
end Go.Proofs.YtchgpijfebilbaaGreatDoor
