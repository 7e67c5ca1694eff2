/-L-/
import Derived.Test.YtjnooagaghdkdaaGreatDoorRows
import Derived.WalkKit
import Derived.WalkSpells
import Derived.WalkLawsBesides
import Derived.ProofKit
import Derived.OpenShut
import Derived.SizedLaws
import Derived.Lib.Hide
import Derived.Lib.SliceRun
import Derived.Deep.Slices
import Derived.Deep.Fields
import Derived.Deep.Draws
import Derived.Maps.AppendAt
import Derived.BigQuiet
import Derived.Deep.QuietTactic
set_option maxHeartbeats 10000000
set_option maxRecDepth 100000
set_option linter.all false
namespace Go.Proofs.YtjnooagaghdkdaaGreatDoor
section
open Go.RowKit Go.ChangeShapes Go.WideShapes Go.Deep
set_option linter.unusedVariables false

/-! ### addresses -/
theorem Jpq (a:Addr):a.add 0=a:=by simp [Addr.add]

/-! ### what the world keeps -/
theorem Jof {W w1:World} (hb:Below W.heap.size W w1) {b o:Nat} {v:Value} (h:W.cell? ⟨b,o,none⟩=some v):w1.cell? ⟨b,o,none⟩=some v:=(hb.cell (p:=⟨b,o,none⟩) (World.block_lt_of_cell? W ⟨b,o,none⟩ h)).trans h
theorem Below.drewN' {B:Nat} {a w:World} (h:Below B a w) (n:Nat):Below B a (w.drewN n):=⟨h.os,h.tape,h.output,h.size,h.block⟩
theorem Below.of_grown {w w':World} (h:w.grownBy w' none):Below w.heap.size w w':=⟨h.os,h.tape,h.output,h.size,fun k hk=>h.block k hk (by simp)⟩
theorem Below.tr {B:Nat} {a b c:World} (h:Below B a b) (hB:B<=b.heap.size) (k:Below b.heap.size b c):Below B a c:=h.trans (k.mono hB)
theorem Below.own {a b c:World} (h:Below a.heap.size a b) (k:Below b.heap.size b c):Below a.heap.size a c:=h.trans (k.mono h.size)

/-! ### behind a call of which 'Below' is known: the world as it was, grown by blocks of which nothing is said -/
def grow (W:World) (ext:Array Obj) (d:Nat):World:={ W with heap:=W.heap ++ ext,drawn:=d }
section
variable (W:World) (ext:Array Obj) (d:Nat)
@[simp,go_sem] theorem size_grow:(grow W ext d).heap.size=W.heap.size+ext.size:=by simp [grow]
theorem JdE {k:Nat} (h:k<W.heap.size):(grow W ext d).heap[k]?=W.heap[k]?:=by
 show (W.heap ++ ext)[k]?=_;rw [Array.getElem?_append_left h]
@[go_sem] theorem cell_grow (n i:Nat) (h:n<W.heap.size):(grow W ext d).cell? ⟨n,i,none⟩=W.cell? ⟨n,i,none⟩:=World.cell?_of_block (JdE W ext d h)
@[go_sem] theorem frozen_grow (n i:Nat) (h:n<W.heap.size):(grow W ext d).frozen? ⟨n,i,none⟩=W.frozen? ⟨n,i,none⟩:=World.frozen?_of_block (JdE W ext d h)
theorem JaY {w:World} {p:Addr} (h:(w.cell? p).isSome=true):p.block<w.heap.size:=by
 obtain ⟨v,hv⟩:=Option.isSome_iff_exists.1 h;exact World.block_lt_of_cell? w p hv
@[go_sem] theorem JaB (n i:Nat) (v:Value) (h:n<W.heap.size):(grow W ext d).setCell ⟨n,i,none⟩ v=grow (W.setCell ⟨n,i,none⟩ v) ext d:=by
 unfold grow World.setCell;congr 1;apply Array.ext_getElem?;intro k;simp only [Array.getElem?_modify,Array.getElem?_append,Array.size_modify]
 by_cases hk:n=k
 ·subst hk
  simp [h]
 ·simp [hk]
@[go_sem] theorem Jag (p:Addr) (h:(W.cell? p).isSome=true):(grow W ext d).cell? p=W.cell? p:=World.cell?_of_block (JdE W ext d (JaY h))
@[go_sem] theorem Jad (p:Addr) (o:Obj) (h:(W.cell? p).isSome=true):(W.alloc o).cell? p=W.cell? p:=World.cell?_alloc_lt W o p (JaY h)
@[go_sem] theorem Jak (p:Addr) (h:(W.cell? p).isSome=true):(grow W ext d).frozen? p=W.frozen? p:=World.frozen?_of_block (JdE W ext d (JaY h))
@[go_sem] theorem Jaj (p:Addr) (o:Obj) (h:(W.cell? p).isSome=true):(W.alloc o).frozen? p=W.frozen? p:=World.frozen?_alloc_old W o p (Nat.ne_of_lt (JaY h))
@[go_sem] theorem Jai (n i:Nat) (v:Value) (h:(W.cell? ⟨n,i,none⟩).isSome=true):(grow W ext d).setCell ⟨n,i,none⟩ v=grow (W.setCell ⟨n,i,none⟩ v) ext d:=JaB W ext d n i v (JaY h)
@[go_sem] theorem Jah (n i:Nat) (v:Value) (o:Obj) (h:(W.cell? ⟨n,i,none⟩).isSome=true):(W.alloc o).setCell ⟨n,i,none⟩ v=(W.setCell ⟨n,i,none⟩ v).alloc o:=World.setCell_alloc_past o n i v (JaY h)
@[go_sem] theorem JdM (p:Addr) (o0:Obj) (o1:Obj) (h:(W.cell? p).isSome=true):((W.alloc o0).alloc o1).cell? p=W.cell? p:=(Jad (W.alloc o0) p o1 (by rw [Jad W p o0 h]; exact h)).trans (Jad W p o0 h)
@[go_sem] theorem JdL (p:Addr) (o0:Obj) (e1:Array Obj) (d1:Nat) (h:(W.cell? p).isSome=true):(grow (W.alloc o0) e1 d1).cell? p=W.cell? p:=(Jag (W.alloc o0) e1 d1 p (by rw [Jad W p o0 h]; exact h)).trans (Jad W p o0 h)
@[go_sem] theorem JdK (p:Addr) (e0:Array Obj) (d0:Nat) (o1:Obj) (h:(W.cell? p).isSome=true):((grow W e0 d0).alloc o1).cell? p=W.cell? p:=(Jad (grow W e0 d0) p o1 (by rw [Jag W e0 d0 p h]; exact h)).trans (Jag W e0 d0 p h)
@[go_sem] theorem JdJ (p:Addr) (e0:Array Obj) (d0:Nat) (e1:Array Obj) (d1:Nat) (h:(W.cell? p).isSome=true):(grow (grow W e0 d0) e1 d1).cell? p=W.cell? p:=(Jag (grow W e0 d0) e1 d1 p (by rw [Jag W e0 d0 p h]; exact h)).trans (Jag W e0 d0 p h)
@[go_sem] theorem JcO (p:Addr) (o0:Obj) (o1:Obj) (o2:Obj) (h:(W.cell? p).isSome=true):(((W.alloc o0).alloc o1).alloc o2).cell? p=W.cell? p:=(Jad ((W.alloc o0).alloc o1) p o2 (by rw [JdM W p o0 o1 h]; exact h)).trans (JdM W p o0 o1 h)
@[go_sem] theorem JcN (p:Addr) (o0:Obj) (o1:Obj) (e2:Array Obj) (d2:Nat) (h:(W.cell? p).isSome=true):(grow ((W.alloc o0).alloc o1) e2 d2).cell? p=W.cell? p:=(Jag ((W.alloc o0).alloc o1) e2 d2 p (by rw [JdM W p o0 o1 h]; exact h)).trans (JdM W p o0 o1 h)
@[go_sem] theorem JcM (p:Addr) (o0:Obj) (e1:Array Obj) (d1:Nat) (o2:Obj) (h:(W.cell? p).isSome=true):((grow (W.alloc o0) e1 d1).alloc o2).cell? p=W.cell? p:=(Jad (grow (W.alloc o0) e1 d1) p o2 (by rw [JdL W p o0 e1 d1 h]; exact h)).trans (JdL W p o0 e1 d1 h)
@[go_sem] theorem JcL (p:Addr) (o0:Obj) (e1:Array Obj) (d1:Nat) (e2:Array Obj) (d2:Nat) (h:(W.cell? p).isSome=true):(grow (grow (W.alloc o0) e1 d1) e2 d2).cell? p=W.cell? p:=(Jag (grow (W.alloc o0) e1 d1) e2 d2 p (by rw [JdL W p o0 e1 d1 h]; exact h)).trans (JdL W p o0 e1 d1 h)
@[go_sem] theorem JcK (p:Addr) (e0:Array Obj) (d0:Nat) (o1:Obj) (o2:Obj) (h:(W.cell? p).isSome=true):(((grow W e0 d0).alloc o1).alloc o2).cell? p=W.cell? p:=(Jad ((grow W e0 d0).alloc o1) p o2 (by rw [JdK W p e0 d0 o1 h]; exact h)).trans (JdK W p e0 d0 o1 h)
@[go_sem] theorem JcJ (p:Addr) (e0:Array Obj) (d0:Nat) (o1:Obj) (e2:Array Obj) (d2:Nat) (h:(W.cell? p).isSome=true):(grow ((grow W e0 d0).alloc o1) e2 d2).cell? p=W.cell? p:=(Jag ((grow W e0 d0).alloc o1) e2 d2 p (by rw [JdK W p e0 d0 o1 h]; exact h)).trans (JdK W p e0 d0 o1 h)
@[go_sem] theorem JcI (p:Addr) (e0:Array Obj) (d0:Nat) (e1:Array Obj) (d1:Nat) (o2:Obj) (h:(W.cell? p).isSome=true):((grow (grow W e0 d0) e1 d1).alloc o2).cell? p=W.cell? p:=(Jad (grow (grow W e0 d0) e1 d1) p o2 (by rw [JdJ W p e0 d0 e1 d1 h]; exact h)).trans (JdJ W p e0 d0 e1 d1 h)
@[go_sem] theorem JcH (p:Addr) (e0:Array Obj) (d0:Nat) (e1:Array Obj) (d1:Nat) (e2:Array Obj) (d2:Nat) (h:(W.cell? p).isSome=true):(grow (grow (grow W e0 d0) e1 d1) e2 d2).cell? p=W.cell? p:=(Jag (grow (grow W e0 d0) e1 d1) e2 d2 p (by rw [JdJ W p e0 d0 e1 d1 h]; exact h)).trans (JdJ W p e0 d0 e1 d1 h)
@[go_sem] theorem cell_AAAA (p:Addr) (o0:Obj) (o1:Obj) (o2:Obj) (o3:Obj) (h:(W.cell? p).isSome=true):((((W.alloc o0).alloc o1).alloc o2).alloc o3).cell? p=W.cell? p:=(Jad (((W.alloc o0).alloc o1).alloc o2) p o3 (by rw [JcO W p o0 o1 o2 h]; exact h)).trans (JcO W p o0 o1 o2 h)
@[go_sem] theorem cell_AAAG (p:Addr) (o0:Obj) (o1:Obj) (o2:Obj) (e3:Array Obj) (d3:Nat) (h:(W.cell? p).isSome=true):(grow (((W.alloc o0).alloc o1).alloc o2) e3 d3).cell? p=W.cell? p:=(Jag (((W.alloc o0).alloc o1).alloc o2) e3 d3 p (by rw [JcO W p o0 o1 o2 h]; exact h)).trans (JcO W p o0 o1 o2 h)
@[go_sem] theorem cell_AAGA (p:Addr) (o0:Obj) (o1:Obj) (e2:Array Obj) (d2:Nat) (o3:Obj) (h:(W.cell? p).isSome=true):((grow ((W.alloc o0).alloc o1) e2 d2).alloc o3).cell? p=W.cell? p:=(Jad (grow ((W.alloc o0).alloc o1) e2 d2) p o3 (by rw [JcN W p o0 o1 e2 d2 h]; exact h)).trans (JcN W p o0 o1 e2 d2 h)
@[go_sem] theorem cell_AAGG (p:Addr) (o0:Obj) (o1:Obj) (e2:Array Obj) (d2:Nat) (e3:Array Obj) (d3:Nat) (h:(W.cell? p).isSome=true):(grow (grow ((W.alloc o0).alloc o1) e2 d2) e3 d3).cell? p=W.cell? p:=(Jag (grow ((W.alloc o0).alloc o1) e2 d2) e3 d3 p (by rw [JcN W p o0 o1 e2 d2 h]; exact h)).trans (JcN W p o0 o1 e2 d2 h)
@[go_sem] theorem cell_AGAA (p:Addr) (o0:Obj) (e1:Array Obj) (d1:Nat) (o2:Obj) (o3:Obj) (h:(W.cell? p).isSome=true):(((grow (W.alloc o0) e1 d1).alloc o2).alloc o3).cell? p=W.cell? p:=(Jad ((grow (W.alloc o0) e1 d1).alloc o2) p o3 (by rw [JcM W p o0 e1 d1 o2 h]; exact h)).trans (JcM W p o0 e1 d1 o2 h)
@[go_sem] theorem cell_AGAG (p:Addr) (o0:Obj) (e1:Array Obj) (d1:Nat) (o2:Obj) (e3:Array Obj) (d3:Nat) (h:(W.cell? p).isSome=true):(grow ((grow (W.alloc o0) e1 d1).alloc o2) e3 d3).cell? p=W.cell? p:=(Jag ((grow (W.alloc o0) e1 d1).alloc o2) e3 d3 p (by rw [JcM W p o0 e1 d1 o2 h]; exact h)).trans (JcM W p o0 e1 d1 o2 h)
@[go_sem] theorem cell_AGGA (p:Addr) (o0:Obj) (e1:Array Obj) (d1:Nat) (e2:Array Obj) (d2:Nat) (o3:Obj) (h:(W.cell? p).isSome=true):((grow (grow (W.alloc o0) e1 d1) e2 d2).alloc o3).cell? p=W.cell? p:=(Jad (grow (grow (W.alloc o0) e1 d1) e2 d2) p o3 (by rw [JcL W p o0 e1 d1 e2 d2 h]; exact h)).trans (JcL W p o0 e1 d1 e2 d2 h)
@[go_sem] theorem cell_AGGG (p:Addr) (o0:Obj) (e1:Array Obj) (d1:Nat) (e2:Array Obj) (d2:Nat) (e3:Array Obj) (d3:Nat) (h:(W.cell? p).isSome=true):(grow (grow (grow (W.alloc o0) e1 d1) e2 d2) e3 d3).cell? p=W.cell? p:=(Jag (grow (grow (W.alloc o0) e1 d1) e2 d2) e3 d3 p (by rw [JcL W p o0 e1 d1 e2 d2 h]; exact h)).trans (JcL W p o0 e1 d1 e2 d2 h)
@[go_sem] theorem cell_GAAA (p:Addr) (e0:Array Obj) (d0:Nat) (o1:Obj) (o2:Obj) (o3:Obj) (h:(W.cell? p).isSome=true):((((grow W e0 d0).alloc o1).alloc o2).alloc o3).cell? p=W.cell? p:=(Jad (((grow W e0 d0).alloc o1).alloc o2) p o3 (by rw [JcK W p e0 d0 o1 o2 h]; exact h)).trans (JcK W p e0 d0 o1 o2 h)
@[go_sem] theorem cell_GAAG (p:Addr) (e0:Array Obj) (d0:Nat) (o1:Obj) (o2:Obj) (e3:Array Obj) (d3:Nat) (h:(W.cell? p).isSome=true):(grow (((grow W e0 d0).alloc o1).alloc o2) e3 d3).cell? p=W.cell? p:=(Jag (((grow W e0 d0).alloc o1).alloc o2) e3 d3 p (by rw [JcK W p e0 d0 o1 o2 h]; exact h)).trans (JcK W p e0 d0 o1 o2 h)
@[go_sem] theorem cell_GAGA (p:Addr) (e0:Array Obj) (d0:Nat) (o1:Obj) (e2:Array Obj) (d2:Nat) (o3:Obj) (h:(W.cell? p).isSome=true):((grow ((grow W e0 d0).alloc o1) e2 d2).alloc o3).cell? p=W.cell? p:=(Jad (grow ((grow W e0 d0).alloc o1) e2 d2) p o3 (by rw [JcJ W p e0 d0 o1 e2 d2 h]; exact h)).trans (JcJ W p e0 d0 o1 e2 d2 h)
@[go_sem] theorem cell_GAGG (p:Addr) (e0:Array Obj) (d0:Nat) (o1:Obj) (e2:Array Obj) (d2:Nat) (e3:Array Obj) (d3:Nat) (h:(W.cell? p).isSome=true):(grow (grow ((grow W e0 d0).alloc o1) e2 d2) e3 d3).cell? p=W.cell? p:=(Jag (grow ((grow W e0 d0).alloc o1) e2 d2) e3 d3 p (by rw [JcJ W p e0 d0 o1 e2 d2 h]; exact h)).trans (JcJ W p e0 d0 o1 e2 d2 h)
@[go_sem] theorem cell_GGAA (p:Addr) (e0:Array Obj) (d0:Nat) (e1:Array Obj) (d1:Nat) (o2:Obj) (o3:Obj) (h:(W.cell? p).isSome=true):(((grow (grow W e0 d0) e1 d1).alloc o2).alloc o3).cell? p=W.cell? p:=(Jad ((grow (grow W e0 d0) e1 d1).alloc o2) p o3 (by rw [JcI W p e0 d0 e1 d1 o2 h]; exact h)).trans (JcI W p e0 d0 e1 d1 o2 h)
@[go_sem] theorem cell_GGAG (p:Addr) (e0:Array Obj) (d0:Nat) (e1:Array Obj) (d1:Nat) (o2:Obj) (e3:Array Obj) (d3:Nat) (h:(W.cell? p).isSome=true):(grow ((grow (grow W e0 d0) e1 d1).alloc o2) e3 d3).cell? p=W.cell? p:=(Jag ((grow (grow W e0 d0) e1 d1).alloc o2) e3 d3 p (by rw [JcI W p e0 d0 e1 d1 o2 h]; exact h)).trans (JcI W p e0 d0 e1 d1 o2 h)
@[go_sem] theorem cell_GGGA (p:Addr) (e0:Array Obj) (d0:Nat) (e1:Array Obj) (d1:Nat) (e2:Array Obj) (d2:Nat) (o3:Obj) (h:(W.cell? p).isSome=true):((grow (grow (grow W e0 d0) e1 d1) e2 d2).alloc o3).cell? p=W.cell? p:=(Jad (grow (grow (grow W e0 d0) e1 d1) e2 d2) p o3 (by rw [JcH W p e0 d0 e1 d1 e2 d2 h]; exact h)).trans (JcH W p e0 d0 e1 d1 e2 d2 h)
@[go_sem] theorem cell_GGGG (p:Addr) (e0:Array Obj) (d0:Nat) (e1:Array Obj) (d1:Nat) (e2:Array Obj) (d2:Nat) (e3:Array Obj) (d3:Nat) (h:(W.cell? p).isSome=true):(grow (grow (grow (grow W e0 d0) e1 d1) e2 d2) e3 d3).cell? p=W.cell? p:=(Jag (grow (grow (grow W e0 d0) e1 d1) e2 d2) e3 d3 p (by rw [JcH W p e0 d0 e1 d1 e2 d2 h]; exact h)).trans (JcH W p e0 d0 e1 d1 e2 d2 h)
@[go_sem] theorem JjI (p:Addr) (o0:Obj) (o1:Obj) (h:(W.cell? p).isSome=true):((W.alloc o0).alloc o1).frozen? p=W.frozen? p:=(Jaj (W.alloc o0) p o1 (by rw [Jad W p o0 h]; exact h)).trans (Jaj W p o0 h)
@[go_sem] theorem Jhf (n i:Nat) (v:Value) (o0:Obj) (o1:Obj) (h:(W.cell? ⟨n,i,none⟩).isSome=true):((W.alloc o0).alloc o1).setCell ⟨n,i,none⟩ v=(((W.setCell ⟨n,i,none⟩ v).alloc o0).alloc o1):=by
 rw [Jah (W.alloc o0) n i v o1 (by rw [Jad W ⟨n,i,none⟩ o0 h]; exact h),Jah W n i v o0 h]
@[go_sem] theorem JjH (p:Addr) (o0:Obj) (e1:Array Obj) (d1:Nat) (h:(W.cell? p).isSome=true):(grow (W.alloc o0) e1 d1).frozen? p=W.frozen? p:=(Jak (W.alloc o0) e1 d1 p (by rw [Jad W p o0 h]; exact h)).trans (Jaj W p o0 h)
@[go_sem] theorem Jhe (n i:Nat) (v:Value) (o0:Obj) (e1:Array Obj) (d1:Nat) (h:(W.cell? ⟨n,i,none⟩).isSome=true):(grow (W.alloc o0) e1 d1).setCell ⟨n,i,none⟩ v=(grow ((W.setCell ⟨n,i,none⟩ v).alloc o0) e1 d1):=by
 rw [Jai (W.alloc o0) e1 d1 n i v (by rw [Jad W ⟨n,i,none⟩ o0 h]; exact h),Jah W n i v o0 h]
@[go_sem] theorem JjG (p:Addr) (e0:Array Obj) (d0:Nat) (o1:Obj) (h:(W.cell? p).isSome=true):((grow W e0 d0).alloc o1).frozen? p=W.frozen? p:=(Jaj (grow W e0 d0) p o1 (by rw [Jag W e0 d0 p h]; exact h)).trans (Jak W e0 d0 p h)
@[go_sem] theorem Jhd (n i:Nat) (v:Value) (e0:Array Obj) (d0:Nat) (o1:Obj) (h:(W.cell? ⟨n,i,none⟩).isSome=true):((grow W e0 d0).alloc o1).setCell ⟨n,i,none⟩ v=((grow (W.setCell ⟨n,i,none⟩ v) e0 d0).alloc o1):=by
 rw [Jah (grow W e0 d0) n i v o1 (by rw [Jag W e0 d0 ⟨n,i,none⟩ h]; exact h),Jai W e0 d0 n i v h]
@[go_sem] theorem JjF (p:Addr) (e0:Array Obj) (d0:Nat) (e1:Array Obj) (d1:Nat) (h:(W.cell? p).isSome=true):(grow (grow W e0 d0) e1 d1).frozen? p=W.frozen? p:=(Jak (grow W e0 d0) e1 d1 p (by rw [Jag W e0 d0 p h]; exact h)).trans (Jak W e0 d0 p h)
@[go_sem] theorem Jhc (n i:Nat) (v:Value) (e0:Array Obj) (d0:Nat) (e1:Array Obj) (d1:Nat) (h:(W.cell? ⟨n,i,none⟩).isSome=true):(grow (grow W e0 d0) e1 d1).setCell ⟨n,i,none⟩ v=(grow (grow (W.setCell ⟨n,i,none⟩ v) e0 d0) e1 d1):=by
 rw [Jai (grow W e0 d0) e1 d1 n i v (by rw [Jag W e0 d0 ⟨n,i,none⟩ h]; exact h),Jai W e0 d0 n i v h]
@[go_sem] theorem JhB (p:Addr) (o0:Obj) (o1:Obj) (o2:Obj) (h:(W.cell? p).isSome=true):(((W.alloc o0).alloc o1).alloc o2).frozen? p=W.frozen? p:=(Jaj ((W.alloc o0).alloc o1) p o2 (by rw [JdM W p o0 o1 h]; exact h)).trans (JjI W p o0 o1 h)
@[go_sem] theorem Jgf (n i:Nat) (v:Value) (o0:Obj) (o1:Obj) (o2:Obj) (h:(W.cell? ⟨n,i,none⟩).isSome=true):(((W.alloc o0).alloc o1).alloc o2).setCell ⟨n,i,none⟩ v=((((W.setCell ⟨n,i,none⟩ v).alloc o0).alloc o1).alloc o2):=by
 rw [Jah ((W.alloc o0).alloc o1) n i v o2 (by rw [JdM W ⟨n,i,none⟩ o0 o1 h]; exact h),Jhf W n i v o0 o1 h]
@[go_sem] theorem JhA (p:Addr) (o0:Obj) (o1:Obj) (e2:Array Obj) (d2:Nat) (h:(W.cell? p).isSome=true):(grow ((W.alloc o0).alloc o1) e2 d2).frozen? p=W.frozen? p:=(Jak ((W.alloc o0).alloc o1) e2 d2 p (by rw [JdM W p o0 o1 h]; exact h)).trans (JjI W p o0 o1 h)
@[go_sem] theorem Jge (n i:Nat) (v:Value) (o0:Obj) (o1:Obj) (e2:Array Obj) (d2:Nat) (h:(W.cell? ⟨n,i,none⟩).isSome=true):(grow ((W.alloc o0).alloc o1) e2 d2).setCell ⟨n,i,none⟩ v=(grow (((W.setCell ⟨n,i,none⟩ v).alloc o0).alloc o1) e2 d2):=by
 rw [Jai ((W.alloc o0).alloc o1) e2 d2 n i v (by rw [JdM W ⟨n,i,none⟩ o0 o1 h]; exact h),Jhf W n i v o0 o1 h]
@[go_sem] theorem Jhz (p:Addr) (o0:Obj) (e1:Array Obj) (d1:Nat) (o2:Obj) (h:(W.cell? p).isSome=true):((grow (W.alloc o0) e1 d1).alloc o2).frozen? p=W.frozen? p:=(Jaj (grow (W.alloc o0) e1 d1) p o2 (by rw [JdL W p o0 e1 d1 h]; exact h)).trans (JjH W p o0 e1 d1 h)
@[go_sem] theorem Jgd (n i:Nat) (v:Value) (o0:Obj) (e1:Array Obj) (d1:Nat) (o2:Obj) (h:(W.cell? ⟨n,i,none⟩).isSome=true):((grow (W.alloc o0) e1 d1).alloc o2).setCell ⟨n,i,none⟩ v=((grow ((W.setCell ⟨n,i,none⟩ v).alloc o0) e1 d1).alloc o2):=by
 rw [Jah (grow (W.alloc o0) e1 d1) n i v o2 (by rw [JdL W ⟨n,i,none⟩ o0 e1 d1 h]; exact h),Jhe W n i v o0 e1 d1 h]
@[go_sem] theorem Jhy (p:Addr) (o0:Obj) (e1:Array Obj) (d1:Nat) (e2:Array Obj) (d2:Nat) (h:(W.cell? p).isSome=true):(grow (grow (W.alloc o0) e1 d1) e2 d2).frozen? p=W.frozen? p:=(Jak (grow (W.alloc o0) e1 d1) e2 d2 p (by rw [JdL W p o0 e1 d1 h]; exact h)).trans (JjH W p o0 e1 d1 h)
@[go_sem] theorem Jgc (n i:Nat) (v:Value) (o0:Obj) (e1:Array Obj) (d1:Nat) (e2:Array Obj) (d2:Nat) (h:(W.cell? ⟨n,i,none⟩).isSome=true):(grow (grow (W.alloc o0) e1 d1) e2 d2).setCell ⟨n,i,none⟩ v=(grow (grow ((W.setCell ⟨n,i,none⟩ v).alloc o0) e1 d1) e2 d2):=by
 rw [Jai (grow (W.alloc o0) e1 d1) e2 d2 n i v (by rw [JdL W ⟨n,i,none⟩ o0 e1 d1 h]; exact h),Jhe W n i v o0 e1 d1 h]
@[go_sem] theorem Jhx (p:Addr) (e0:Array Obj) (d0:Nat) (o1:Obj) (o2:Obj) (h:(W.cell? p).isSome=true):(((grow W e0 d0).alloc o1).alloc o2).frozen? p=W.frozen? p:=(Jaj ((grow W e0 d0).alloc o1) p o2 (by rw [JdK W p e0 d0 o1 h]; exact h)).trans (JjG W p e0 d0 o1 h)
@[go_sem] theorem Jgb (n i:Nat) (v:Value) (e0:Array Obj) (d0:Nat) (o1:Obj) (o2:Obj) (h:(W.cell? ⟨n,i,none⟩).isSome=true):(((grow W e0 d0).alloc o1).alloc o2).setCell ⟨n,i,none⟩ v=(((grow (W.setCell ⟨n,i,none⟩ v) e0 d0).alloc o1).alloc o2):=by
 rw [Jah ((grow W e0 d0).alloc o1) n i v o2 (by rw [JdK W ⟨n,i,none⟩ e0 d0 o1 h]; exact h),Jhd W n i v e0 d0 o1 h]
@[go_sem] theorem Jhw (p:Addr) (e0:Array Obj) (d0:Nat) (o1:Obj) (e2:Array Obj) (d2:Nat) (h:(W.cell? p).isSome=true):(grow ((grow W e0 d0).alloc o1) e2 d2).frozen? p=W.frozen? p:=(Jak ((grow W e0 d0).alloc o1) e2 d2 p (by rw [JdK W p e0 d0 o1 h]; exact h)).trans (JjG W p e0 d0 o1 h)
@[go_sem] theorem Jga (n i:Nat) (v:Value) (e0:Array Obj) (d0:Nat) (o1:Obj) (e2:Array Obj) (d2:Nat) (h:(W.cell? ⟨n,i,none⟩).isSome=true):(grow ((grow W e0 d0).alloc o1) e2 d2).setCell ⟨n,i,none⟩ v=(grow ((grow (W.setCell ⟨n,i,none⟩ v) e0 d0).alloc o1) e2 d2):=by
 rw [Jai ((grow W e0 d0).alloc o1) e2 d2 n i v (by rw [JdK W ⟨n,i,none⟩ e0 d0 o1 h]; exact h),Jhd W n i v e0 d0 o1 h]
@[go_sem] theorem Jhv (p:Addr) (e0:Array Obj) (d0:Nat) (e1:Array Obj) (d1:Nat) (o2:Obj) (h:(W.cell? p).isSome=true):((grow (grow W e0 d0) e1 d1).alloc o2).frozen? p=W.frozen? p:=(Jaj (grow (grow W e0 d0) e1 d1) p o2 (by rw [JdJ W p e0 d0 e1 d1 h]; exact h)).trans (JjF W p e0 d0 e1 d1 h)
@[go_sem] theorem Jf9 (n i:Nat) (v:Value) (e0:Array Obj) (d0:Nat) (e1:Array Obj) (d1:Nat) (o2:Obj) (h:(W.cell? ⟨n,i,none⟩).isSome=true):((grow (grow W e0 d0) e1 d1).alloc o2).setCell ⟨n,i,none⟩ v=((grow (grow (W.setCell ⟨n,i,none⟩ v) e0 d0) e1 d1).alloc o2):=by
 rw [Jah (grow (grow W e0 d0) e1 d1) n i v o2 (by rw [JdJ W ⟨n,i,none⟩ e0 d0 e1 d1 h]; exact h),Jhc W n i v e0 d0 e1 d1 h]
@[go_sem] theorem Jhu (p:Addr) (e0:Array Obj) (d0:Nat) (e1:Array Obj) (d1:Nat) (e2:Array Obj) (d2:Nat) (h:(W.cell? p).isSome=true):(grow (grow (grow W e0 d0) e1 d1) e2 d2).frozen? p=W.frozen? p:=(Jak (grow (grow W e0 d0) e1 d1) e2 d2 p (by rw [JdJ W p e0 d0 e1 d1 h]; exact h)).trans (JjF W p e0 d0 e1 d1 h)
@[go_sem] theorem Jf8 (n i:Nat) (v:Value) (e0:Array Obj) (d0:Nat) (e1:Array Obj) (d1:Nat) (e2:Array Obj) (d2:Nat) (h:(W.cell? ⟨n,i,none⟩).isSome=true):(grow (grow (grow W e0 d0) e1 d1) e2 d2).setCell ⟨n,i,none⟩ v=(grow (grow (grow (W.setCell ⟨n,i,none⟩ v) e0 d0) e1 d1) e2 d2):=by
 rw [Jai (grow (grow W e0 d0) e1 d1) e2 d2 n i v (by rw [JdJ W ⟨n,i,none⟩ e0 d0 e1 d1 h]; exact h),Jhc W n i v e0 d0 e1 d1 h]
@[go_sem] theorem frozen_AAAA (p:Addr) (o0:Obj) (o1:Obj) (o2:Obj) (o3:Obj) (h:(W.cell? p).isSome=true):((((W.alloc o0).alloc o1).alloc o2).alloc o3).frozen? p=W.frozen? p:=(Jaj (((W.alloc o0).alloc o1).alloc o2) p o3 (by rw [JcO W p o0 o1 o2 h]; exact h)).trans (JhB W p o0 o1 o2 h)
@[go_sem] theorem setCell_AAAA (n i:Nat) (v:Value) (o0:Obj) (o1:Obj) (o2:Obj) (o3:Obj) (h:(W.cell? ⟨n,i,none⟩).isSome=true):((((W.alloc o0).alloc o1).alloc o2).alloc o3).setCell ⟨n,i,none⟩ v=(((((W.setCell ⟨n,i,none⟩ v).alloc o0).alloc o1).alloc o2).alloc o3):=by
 rw [Jah (((W.alloc o0).alloc o1).alloc o2) n i v o3 (by rw [JcO W ⟨n,i,none⟩ o0 o1 o2 h]; exact h),Jgf W n i v o0 o1 o2 h]
@[go_sem] theorem frozen_AAAG (p:Addr) (o0:Obj) (o1:Obj) (o2:Obj) (e3:Array Obj) (d3:Nat) (h:(W.cell? p).isSome=true):(grow (((W.alloc o0).alloc o1).alloc o2) e3 d3).frozen? p=W.frozen? p:=(Jak (((W.alloc o0).alloc o1).alloc o2) e3 d3 p (by rw [JcO W p o0 o1 o2 h]; exact h)).trans (JhB W p o0 o1 o2 h)
@[go_sem] theorem setCell_AAAG (n i:Nat) (v:Value) (o0:Obj) (o1:Obj) (o2:Obj) (e3:Array Obj) (d3:Nat) (h:(W.cell? ⟨n,i,none⟩).isSome=true):(grow (((W.alloc o0).alloc o1).alloc o2) e3 d3).setCell ⟨n,i,none⟩ v=(grow ((((W.setCell ⟨n,i,none⟩ v).alloc o0).alloc o1).alloc o2) e3 d3):=by
 rw [Jai (((W.alloc o0).alloc o1).alloc o2) e3 d3 n i v (by rw [JcO W ⟨n,i,none⟩ o0 o1 o2 h]; exact h),Jgf W n i v o0 o1 o2 h]
@[go_sem] theorem frozen_AAGA (p:Addr) (o0:Obj) (o1:Obj) (e2:Array Obj) (d2:Nat) (o3:Obj) (h:(W.cell? p).isSome=true):((grow ((W.alloc o0).alloc o1) e2 d2).alloc o3).frozen? p=W.frozen? p:=(Jaj (grow ((W.alloc o0).alloc o1) e2 d2) p o3 (by rw [JcN W p o0 o1 e2 d2 h]; exact h)).trans (JhA W p o0 o1 e2 d2 h)
@[go_sem] theorem setCell_AAGA (n i:Nat) (v:Value) (o0:Obj) (o1:Obj) (e2:Array Obj) (d2:Nat) (o3:Obj) (h:(W.cell? ⟨n,i,none⟩).isSome=true):((grow ((W.alloc o0).alloc o1) e2 d2).alloc o3).setCell ⟨n,i,none⟩ v=((grow (((W.setCell ⟨n,i,none⟩ v).alloc o0).alloc o1) e2 d2).alloc o3):=by
 rw [Jah (grow ((W.alloc o0).alloc o1) e2 d2) n i v o3 (by rw [JcN W ⟨n,i,none⟩ o0 o1 e2 d2 h]; exact h),Jge W n i v o0 o1 e2 d2 h]
@[go_sem] theorem frozen_AAGG (p:Addr) (o0:Obj) (o1:Obj) (e2:Array Obj) (d2:Nat) (e3:Array Obj) (d3:Nat) (h:(W.cell? p).isSome=true):(grow (grow ((W.alloc o0).alloc o1) e2 d2) e3 d3).frozen? p=W.frozen? p:=(Jak (grow ((W.alloc o0).alloc o1) e2 d2) e3 d3 p (by rw [JcN W p o0 o1 e2 d2 h]; exact h)).trans (JhA W p o0 o1 e2 d2 h)
@[go_sem] theorem setCell_AAGG (n i:Nat) (v:Value) (o0:Obj) (o1:Obj) (e2:Array Obj) (d2:Nat) (e3:Array Obj) (d3:Nat) (h:(W.cell? ⟨n,i,none⟩).isSome=true):(grow (grow ((W.alloc o0).alloc o1) e2 d2) e3 d3).setCell ⟨n,i,none⟩ v=(grow (grow (((W.setCell ⟨n,i,none⟩ v).alloc o0).alloc o1) e2 d2) e3 d3):=by
 rw [Jai (grow ((W.alloc o0).alloc o1) e2 d2) e3 d3 n i v (by rw [JcN W ⟨n,i,none⟩ o0 o1 e2 d2 h]; exact h),Jge W n i v o0 o1 e2 d2 h]
@[go_sem] theorem frozen_AGAA (p:Addr) (o0:Obj) (e1:Array Obj) (d1:Nat) (o2:Obj) (o3:Obj) (h:(W.cell? p).isSome=true):(((grow (W.alloc o0) e1 d1).alloc o2).alloc o3).frozen? p=W.frozen? p:=(Jaj ((grow (W.alloc o0) e1 d1).alloc o2) p o3 (by rw [JcM W p o0 e1 d1 o2 h]; exact h)).trans (Jhz W p o0 e1 d1 o2 h)
@[go_sem] theorem setCell_AGAA (n i:Nat) (v:Value) (o0:Obj) (e1:Array Obj) (d1:Nat) (o2:Obj) (o3:Obj) (h:(W.cell? ⟨n,i,none⟩).isSome=true):(((grow (W.alloc o0) e1 d1).alloc o2).alloc o3).setCell ⟨n,i,none⟩ v=(((grow ((W.setCell ⟨n,i,none⟩ v).alloc o0) e1 d1).alloc o2).alloc o3):=by
 rw [Jah ((grow (W.alloc o0) e1 d1).alloc o2) n i v o3 (by rw [JcM W ⟨n,i,none⟩ o0 e1 d1 o2 h]; exact h),Jgd W n i v o0 e1 d1 o2 h]
@[go_sem] theorem frozen_AGAG (p:Addr) (o0:Obj) (e1:Array Obj) (d1:Nat) (o2:Obj) (e3:Array Obj) (d3:Nat) (h:(W.cell? p).isSome=true):(grow ((grow (W.alloc o0) e1 d1).alloc o2) e3 d3).frozen? p=W.frozen? p:=(Jak ((grow (W.alloc o0) e1 d1).alloc o2) e3 d3 p (by rw [JcM W p o0 e1 d1 o2 h]; exact h)).trans (Jhz W p o0 e1 d1 o2 h)
@[go_sem] theorem setCell_AGAG (n i:Nat) (v:Value) (o0:Obj) (e1:Array Obj) (d1:Nat) (o2:Obj) (e3:Array Obj) (d3:Nat) (h:(W.cell? ⟨n,i,none⟩).isSome=true):(grow ((grow (W.alloc o0) e1 d1).alloc o2) e3 d3).setCell ⟨n,i,none⟩ v=(grow ((grow ((W.setCell ⟨n,i,none⟩ v).alloc o0) e1 d1).alloc o2) e3 d3):=by
 rw [Jai ((grow (W.alloc o0) e1 d1).alloc o2) e3 d3 n i v (by rw [JcM W ⟨n,i,none⟩ o0 e1 d1 o2 h]; exact h),Jgd W n i v o0 e1 d1 o2 h]
@[go_sem] theorem frozen_AGGA (p:Addr) (o0:Obj) (e1:Array Obj) (d1:Nat) (e2:Array Obj) (d2:Nat) (o3:Obj) (h:(W.cell? p).isSome=true):((grow (grow (W.alloc o0) e1 d1) e2 d2).alloc o3).frozen? p=W.frozen? p:=(Jaj (grow (grow (W.alloc o0) e1 d1) e2 d2) p o3 (by rw [JcL W p o0 e1 d1 e2 d2 h]; exact h)).trans (Jhy W p o0 e1 d1 e2 d2 h)
@[go_sem] theorem setCell_AGGA (n i:Nat) (v:Value) (o0:Obj) (e1:Array Obj) (d1:Nat) (e2:Array Obj) (d2:Nat) (o3:Obj) (h:(W.cell? ⟨n,i,none⟩).isSome=true):((grow (grow (W.alloc o0) e1 d1) e2 d2).alloc o3).setCell ⟨n,i,none⟩ v=((grow (grow ((W.setCell ⟨n,i,none⟩ v).alloc o0) e1 d1) e2 d2).alloc o3):=by
 rw [Jah (grow (grow (W.alloc o0) e1 d1) e2 d2) n i v o3 (by rw [JcL W ⟨n,i,none⟩ o0 e1 d1 e2 d2 h]; exact h),Jgc W n i v o0 e1 d1 e2 d2 h]
@[go_sem] theorem frozen_AGGG (p:Addr) (o0:Obj) (e1:Array Obj) (d1:Nat) (e2:Array Obj) (d2:Nat) (e3:Array Obj) (d3:Nat) (h:(W.cell? p).isSome=true):(grow (grow (grow (W.alloc o0) e1 d1) e2 d2) e3 d3).frozen? p=W.frozen? p:=(Jak (grow (grow (W.alloc o0) e1 d1) e2 d2) e3 d3 p (by rw [JcL W p o0 e1 d1 e2 d2 h]; exact h)).trans (Jhy W p o0 e1 d1 e2 d2 h)
@[go_sem] theorem setCell_AGGG (n i:Nat) (v:Value) (o0:Obj) (e1:Array Obj) (d1:Nat) (e2:Array Obj) (d2:Nat) (e3:Array Obj) (d3:Nat) (h:(W.cell? ⟨n,i,none⟩).isSome=true):(grow (grow (grow (W.alloc o0) e1 d1) e2 d2) e3 d3).setCell ⟨n,i,none⟩ v=(grow (grow (grow ((W.setCell ⟨n,i,none⟩ v).alloc o0) e1 d1) e2 d2) e3 d3):=by
 rw [Jai (grow (grow (W.alloc o0) e1 d1) e2 d2) e3 d3 n i v (by rw [JcL W ⟨n,i,none⟩ o0 e1 d1 e2 d2 h]; exact h),Jgc W n i v o0 e1 d1 e2 d2 h]
@[go_sem] theorem frozen_GAAA (p:Addr) (e0:Array Obj) (d0:Nat) (o1:Obj) (o2:Obj) (o3:Obj) (h:(W.cell? p).isSome=true):((((grow W e0 d0).alloc o1).alloc o2).alloc o3).frozen? p=W.frozen? p:=(Jaj (((grow W e0 d0).alloc o1).alloc o2) p o3 (by rw [JcK W p e0 d0 o1 o2 h]; exact h)).trans (Jhx W p e0 d0 o1 o2 h)
@[go_sem] theorem setCell_GAAA (n i:Nat) (v:Value) (e0:Array Obj) (d0:Nat) (o1:Obj) (o2:Obj) (o3:Obj) (h:(W.cell? ⟨n,i,none⟩).isSome=true):((((grow W e0 d0).alloc o1).alloc o2).alloc o3).setCell ⟨n,i,none⟩ v=((((grow (W.setCell ⟨n,i,none⟩ v) e0 d0).alloc o1).alloc o2).alloc o3):=by
 rw [Jah (((grow W e0 d0).alloc o1).alloc o2) n i v o3 (by rw [JcK W ⟨n,i,none⟩ e0 d0 o1 o2 h]; exact h),Jgb W n i v e0 d0 o1 o2 h]
@[go_sem] theorem frozen_GAAG (p:Addr) (e0:Array Obj) (d0:Nat) (o1:Obj) (o2:Obj) (e3:Array Obj) (d3:Nat) (h:(W.cell? p).isSome=true):(grow (((grow W e0 d0).alloc o1).alloc o2) e3 d3).frozen? p=W.frozen? p:=(Jak (((grow W e0 d0).alloc o1).alloc o2) e3 d3 p (by rw [JcK W p e0 d0 o1 o2 h]; exact h)).trans (Jhx W p e0 d0 o1 o2 h)
@[go_sem] theorem setCell_GAAG (n i:Nat) (v:Value) (e0:Array Obj) (d0:Nat) (o1:Obj) (o2:Obj) (e3:Array Obj) (d3:Nat) (h:(W.cell? ⟨n,i,none⟩).isSome=true):(grow (((grow W e0 d0).alloc o1).alloc o2) e3 d3).setCell ⟨n,i,none⟩ v=(grow (((grow (W.setCell ⟨n,i,none⟩ v) e0 d0).alloc o1).alloc o2) e3 d3):=by
 rw [Jai (((grow W e0 d0).alloc o1).alloc o2) e3 d3 n i v (by rw [JcK W ⟨n,i,none⟩ e0 d0 o1 o2 h]; exact h),Jgb W n i v e0 d0 o1 o2 h]
@[go_sem] theorem frozen_GAGA (p:Addr) (e0:Array Obj) (d0:Nat) (o1:Obj) (e2:Array Obj) (d2:Nat) (o3:Obj) (h:(W.cell? p).isSome=true):((grow ((grow W e0 d0).alloc o1) e2 d2).alloc o3).frozen? p=W.frozen? p:=(Jaj (grow ((grow W e0 d0).alloc o1) e2 d2) p o3 (by rw [JcJ W p e0 d0 o1 e2 d2 h]; exact h)).trans (Jhw W p e0 d0 o1 e2 d2 h)
@[go_sem] theorem setCell_GAGA (n i:Nat) (v:Value) (e0:Array Obj) (d0:Nat) (o1:Obj) (e2:Array Obj) (d2:Nat) (o3:Obj) (h:(W.cell? ⟨n,i,none⟩).isSome=true):((grow ((grow W e0 d0).alloc o1) e2 d2).alloc o3).setCell ⟨n,i,none⟩ v=((grow ((grow (W.setCell ⟨n,i,none⟩ v) e0 d0).alloc o1) e2 d2).alloc o3):=by
 rw [Jah (grow ((grow W e0 d0).alloc o1) e2 d2) n i v o3 (by rw [JcJ W ⟨n,i,none⟩ e0 d0 o1 e2 d2 h]; exact h),Jga W n i v e0 d0 o1 e2 d2 h]
@[go_sem] theorem frozen_GAGG (p:Addr) (e0:Array Obj) (d0:Nat) (o1:Obj) (e2:Array Obj) (d2:Nat) (e3:Array Obj) (d3:Nat) (h:(W.cell? p).isSome=true):(grow (grow ((grow W e0 d0).alloc o1) e2 d2) e3 d3).frozen? p=W.frozen? p:=(Jak (grow ((grow W e0 d0).alloc o1) e2 d2) e3 d3 p (by rw [JcJ W p e0 d0 o1 e2 d2 h]; exact h)).trans (Jhw W p e0 d0 o1 e2 d2 h)
@[go_sem] theorem setCell_GAGG (n i:Nat) (v:Value) (e0:Array Obj) (d0:Nat) (o1:Obj) (e2:Array Obj) (d2:Nat) (e3:Array Obj) (d3:Nat) (h:(W.cell? ⟨n,i,none⟩).isSome=true):(grow (grow ((grow W e0 d0).alloc o1) e2 d2) e3 d3).setCell ⟨n,i,none⟩ v=(grow (grow ((grow (W.setCell ⟨n,i,none⟩ v) e0 d0).alloc o1) e2 d2) e3 d3):=by
 rw [Jai (grow ((grow W e0 d0).alloc o1) e2 d2) e3 d3 n i v (by rw [JcJ W ⟨n,i,none⟩ e0 d0 o1 e2 d2 h]; exact h),Jga W n i v e0 d0 o1 e2 d2 h]
@[go_sem] theorem frozen_GGAA (p:Addr) (e0:Array Obj) (d0:Nat) (e1:Array Obj) (d1:Nat) (o2:Obj) (o3:Obj) (h:(W.cell? p).isSome=true):(((grow (grow W e0 d0) e1 d1).alloc o2).alloc o3).frozen? p=W.frozen? p:=(Jaj ((grow (grow W e0 d0) e1 d1).alloc o2) p o3 (by rw [JcI W p e0 d0 e1 d1 o2 h]; exact h)).trans (Jhv W p e0 d0 e1 d1 o2 h)
@[go_sem] theorem setCell_GGAA (n i:Nat) (v:Value) (e0:Array Obj) (d0:Nat) (e1:Array Obj) (d1:Nat) (o2:Obj) (o3:Obj) (h:(W.cell? ⟨n,i,none⟩).isSome=true):(((grow (grow W e0 d0) e1 d1).alloc o2).alloc o3).setCell ⟨n,i,none⟩ v=(((grow (grow (W.setCell ⟨n,i,none⟩ v) e0 d0) e1 d1).alloc o2).alloc o3):=by
 rw [Jah ((grow (grow W e0 d0) e1 d1).alloc o2) n i v o3 (by rw [JcI W ⟨n,i,none⟩ e0 d0 e1 d1 o2 h]; exact h),Jf9 W n i v e0 d0 e1 d1 o2 h]
@[go_sem] theorem frozen_GGAG (p:Addr) (e0:Array Obj) (d0:Nat) (e1:Array Obj) (d1:Nat) (o2:Obj) (e3:Array Obj) (d3:Nat) (h:(W.cell? p).isSome=true):(grow ((grow (grow W e0 d0) e1 d1).alloc o2) e3 d3).frozen? p=W.frozen? p:=(Jak ((grow (grow W e0 d0) e1 d1).alloc o2) e3 d3 p (by rw [JcI W p e0 d0 e1 d1 o2 h]; exact h)).trans (Jhv W p e0 d0 e1 d1 o2 h)
@[go_sem] theorem setCell_GGAG (n i:Nat) (v:Value) (e0:Array Obj) (d0:Nat) (e1:Array Obj) (d1:Nat) (o2:Obj) (e3:Array Obj) (d3:Nat) (h:(W.cell? ⟨n,i,none⟩).isSome=true):(grow ((grow (grow W e0 d0) e1 d1).alloc o2) e3 d3).setCell ⟨n,i,none⟩ v=(grow ((grow (grow (W.setCell ⟨n,i,none⟩ v) e0 d0) e1 d1).alloc o2) e3 d3):=by
 rw [Jai ((grow (grow W e0 d0) e1 d1).alloc o2) e3 d3 n i v (by rw [JcI W ⟨n,i,none⟩ e0 d0 e1 d1 o2 h]; exact h),Jf9 W n i v e0 d0 e1 d1 o2 h]
@[go_sem] theorem frozen_GGGA (p:Addr) (e0:Array Obj) (d0:Nat) (e1:Array Obj) (d1:Nat) (e2:Array Obj) (d2:Nat) (o3:Obj) (h:(W.cell? p).isSome=true):((grow (grow (grow W e0 d0) e1 d1) e2 d2).alloc o3).frozen? p=W.frozen? p:=(Jaj (grow (grow (grow W e0 d0) e1 d1) e2 d2) p o3 (by rw [JcH W p e0 d0 e1 d1 e2 d2 h]; exact h)).trans (Jhu W p e0 d0 e1 d1 e2 d2 h)
@[go_sem] theorem setCell_GGGA (n i:Nat) (v:Value) (e0:Array Obj) (d0:Nat) (e1:Array Obj) (d1:Nat) (e2:Array Obj) (d2:Nat) (o3:Obj) (h:(W.cell? ⟨n,i,none⟩).isSome=true):((grow (grow (grow W e0 d0) e1 d1) e2 d2).alloc o3).setCell ⟨n,i,none⟩ v=((grow (grow (grow (W.setCell ⟨n,i,none⟩ v) e0 d0) e1 d1) e2 d2).alloc o3):=by
 rw [Jah (grow (grow (grow W e0 d0) e1 d1) e2 d2) n i v o3 (by rw [JcH W ⟨n,i,none⟩ e0 d0 e1 d1 e2 d2 h]; exact h),Jf8 W n i v e0 d0 e1 d1 e2 d2 h]
@[go_sem] theorem frozen_GGGG (p:Addr) (e0:Array Obj) (d0:Nat) (e1:Array Obj) (d1:Nat) (e2:Array Obj) (d2:Nat) (e3:Array Obj) (d3:Nat) (h:(W.cell? p).isSome=true):(grow (grow (grow (grow W e0 d0) e1 d1) e2 d2) e3 d3).frozen? p=W.frozen? p:=(Jak (grow (grow (grow W e0 d0) e1 d1) e2 d2) e3 d3 p (by rw [JcH W p e0 d0 e1 d1 e2 d2 h]; exact h)).trans (Jhu W p e0 d0 e1 d1 e2 d2 h)
@[go_sem] theorem setCell_GGGG (n i:Nat) (v:Value) (e0:Array Obj) (d0:Nat) (e1:Array Obj) (d1:Nat) (e2:Array Obj) (d2:Nat) (e3:Array Obj) (d3:Nat) (h:(W.cell? ⟨n,i,none⟩).isSome=true):(grow (grow (grow (grow W e0 d0) e1 d1) e2 d2) e3 d3).setCell ⟨n,i,none⟩ v=(grow (grow (grow (grow (W.setCell ⟨n,i,none⟩ v) e0 d0) e1 d1) e2 d2) e3 d3):=by
 rw [Jai (grow (grow (grow W e0 d0) e1 d1) e2 d2) e3 d3 n i v (by rw [JcH W ⟨n,i,none⟩ e0 d0 e1 d1 e2 d2 h]; exact h),Jf8 W n i v e0 d0 e1 d1 e2 d2 h]
@[go_sem] theorem drew_grow:(grow W ext d).drew=grow W ext (d+1):=rfl
theorem Jav {W w1:World} (h:Below W.heap.size W w1):w1=grow W (w1.heap.extract W.heap.size w1.heap.size) w1.drawn:=by
 obtain ⟨h1,h2,h3,h4,h5⟩:=h;have hh:w1.heap=W.heap ++ w1.heap.extract W.heap.size w1.heap.size:=by
  apply Array.ext_getElem?;intro k;rw [Array.getElem?_append]
  by_cases hk:k<W.heap.size
  ·rw [if_pos hk]; exact h5 k hk
  ·rw [if_neg hk,Array.getElem?_extract]
   by_cases hk2:k<w1.heap.size
   ·rw [if_pos (by omega),show W.heap.size+(k - W.heap.size)=k from by omega]
   ·rw [if_neg (by omega),Array.getElem?_eq_none (by omega)]
 cases w1;simp only [Go.Proofs.YtjnooagaghdkdaaGreatDoor.grow] at *;subst h1; subst h2; subst h3;congr
theorem Below.grown_eq {w1:World} (h:Below W.heap.size W w1):∃ ext d,w1=grow W ext d:=⟨_,_,Jav h⟩
theorem Below.grow {B:Nat} {w:World} (h:Below B w W) (hB:B<=W.heap.size):Below B w (grow W ext d):=
 h.trans ⟨rfl,rfl,rfl,by simp,fun k hk=>JdE W ext d (by omega)⟩
end

theorem Ja8 {w W:World} (ext:Array Obj) (d:Nat) (h:Below w.heap.size w W):Below w.heap.size w (grow W ext d):=Below.grow W ext d h h.size
theorem Jbt {w W:World} (o:Obj) (h:Below w.heap.size w W):Below w.heap.size w (W.alloc o):=h.alloc h.size o

/-! ### a slice that reads as a list of rows, each of s cells -/
def Row (w:World) (s:Nat) (v:Value) (xs:List (List Value)):Prop:=
 ∃ A c,v=.slice A xs.length c/\xs.length<=c/\c<=maxLen/\(∀ x∈xs,x.length=s)/\
  (0<xs.length->∃ b off,A=some ⟨b,off,none⟩/\b<w.heap.size/\∀ i x,xs[i]?=some x->∀ j u,x[j]?=some u->w.cell? ⟨b,off+i*s+j,none⟩=some u)

theorem Row.nil (w:World) (s:Nat):Row w s (.slice none 0 0) []:=
 ⟨none,0,rfl,Nat.le_refl _,Nat.zero_le _,by simp,by simp⟩
theorem Row.keep {w w':World} {s:Nat} {v:Value} {xs:List (List Value)} (h:Row w s v xs) (hs:w.heap.size<=w'.heap.size)
  (hk:∀ p:Addr,p.block<w.heap.size->w'.cell? p=w.cell? p):Row w' s v xs:=by
 obtain ⟨A,c,rfl,h1,h2,h3,h4⟩:=h;refine ⟨A,c,rfl,h1,h2,h3,fun h0=>?_⟩
 obtain ⟨b,off,rfl,hb,hc⟩:=h4 h0;exact ⟨b,off,rfl,by omega,fun i x hx j u hu=>(hk _ hb).trans (hc i x hx j u hu)⟩
theorem Row.below {w w':World} {s:Nat} {v:Value} {xs:List (List Value)} (h:Row w s v xs) (hb:Below w.heap.size w w'):Row w' s v xs:=
 h.keep hb.size fun _ hp=>hb.cell hp
theorem Row.alloc {w:World} {s:Nat} {v:Value} {xs:List (List Value)} (h:Row w s v xs) (o:Obj):Row (w.alloc o) s v xs:=
 h.below ((Below.refl _ _).alloc (Nat.le_refl _) o)
theorem Row.form {w:World} {s:Nat} {v:Value} {xs:List (List Value)} (h:Row w s v xs):∃ A c,v=.slice A xs.length c/\xs.length<=c/\c<=maxLen:=by
 obtain ⟨A,c,h0,h1,h2,_⟩:=h; exact ⟨A,c,h0,h1,h2⟩
theorem Row.at_ {w:World} {s:Nat} {A:Option Addr} {n c:Nat} {xs:List (List Value)} (h:Row w s (.slice A n c) xs) {i:Nat} {x:List Value} (hx:xs[i]?=some x) :
  ∃ b off,A=some ⟨b,off,none⟩/\b<w.heap.size/\∀ j u,x[j]?=some u->w.cell? ⟨b,off+i*s+j,none⟩=some u:=by
 obtain ⟨A',c',h0,h1,h2,h3,h4⟩:=h;have hi:i<xs.length:=(List.getElem?_eq_some_iff.1 hx).1;obtain ⟨b,off,rfl,hb,hc⟩:=h4 (by omega)
 injection h0 with e1 e2 e3
 exact ⟨b,off,e1,hb,fun j u hu=>hc i x hx j u hu⟩
theorem Row.len {w:World} {s:Nat} {A:Option Addr} {n c:Nat} {xs:List (List Value)} (h:Row w s (.slice A n c) xs):n=xs.length:=by
 obtain ⟨A',c',h0,_⟩:=h; injection h0
theorem JnA {w:World} {a:Addr} {v:Value} (h:w.cell? a=some v):a=⟨a.block,a.off,none⟩:=by
 obtain ⟨b,o,sp⟩:=a;cases sp with
 | none=>rfl
 | some q=>
  simp only [World.cell?] at h;split at h <;> simp at h

def Sl {α:Type} (f:α->List Value) (s:Nat) (w:World) (v:Value) (l:List α):Prop:=Row w s v (l.map f)
section
variable {α:Type} {f:α->List Value} {s:Nat} {w w':World} {v:Value} {l:List α}
theorem Sl.nil (f:α->List Value) (s:Nat) (w:World):Sl f s w (.slice none 0 0) []:=Row.nil w s
theorem Sl.empty (f:α->List Value) (s:Nat) (w:World) (A:Option Addr) {c:Nat} (hc:c<=maxLen):Sl f s w (.slice A 0 c) []:=⟨A,c,rfl,Nat.zero_le _,hc,by simp,by simp⟩
theorem Sl.below (h:Sl f s w v l) (hb:Below w.heap.size w w'):Sl f s w' v l:=Row.below h hb
theorem Sl.alloc (h:Sl f s w v l) (o:Obj):Sl f s (w.alloc o) v l:=Row.alloc h o
theorem Sl.drewN (h:Sl f s w v l) (n:Nat):Sl f s (w.drewN n) v l:=h
theorem Sl.form (h:Sl f s w v l):∃ A c,v=.slice A l.length c/\l.length<=c/\c<=maxLen:=by
 obtain ⟨A,c,h0,h1,h2⟩:=Row.form h;simp only [List.length_map] at h0 h1;exact ⟨A,c,h0,h1,h2⟩
theorem Sl.len {A:Option Addr} {n c:Nat} (h:Sl f s w (.slice A n c) l):n=l.length:=by simpa using Row.len h
theorem Sl.cap_le {A:Option Addr} {n c:Nat} (h:Sl f s w (.slice A n c) l):c<=maxLen:=by
 obtain ⟨_,_,h0,_,h2⟩:=h.form;injection h0 with _ _ h3
 rw [h3];exact h2
theorem Sl.at_ {A:Option Addr} {n c:Nat} (h:Sl f s w (.slice A n c) l) {i:Nat} {x:α} (hx:l[i]?=some x) :
  ∃ b off,A=some ⟨b,off,none⟩/\b<w.heap.size/\∀ j u,(f x)[j]?=some u->w.cell? ⟨b,off+i*s+j,none⟩=some u:=
 Row.at_ h (by simp [hx])
end

/-! ### opening: what a reading says of cells -/
inductive Kd where
 | i (k:IntKind)
 | s
 | b
def Kd.fits:Kd->Value->Prop
 | .i k,v=>∃ n,v=.int k n/\(Lit.int k n).wf=true
 | .s,v=>∃ t:ByteArray,v=.string t/\t.size<=maxLen
 | .b,v=>∃ t,v=.bool t
def JgN (go:TypeId->Option (List Kd)):Nat->List Field->Option (List Kd)
 | _,[]=>some []
 | off,f :: fs=>match go f.type with
  | some ks=>if f.offset=off then (JgN go (off+ks.length) fs).map (ks ++ ·) else none
  | none=>none
def flat (P:Program):Nat->TypeId->Option (List Kd)
 | 0,_=>none
 | n+1,t=>match P.underlying t with
  | some .bool=>if P.cellsOf t=1 then some [.b] else none
  | some (.int k)=>if P.cellsOf t=1 then some [.i k] else none
  | some .string=>if P.cellsOf t=1 then some [.s] else none
  | some (.struct fs)=>match JgN (flat P n) 0 fs.toList with
   | some ks=>if P.cellsOf t=ks.length then some ks else none
   | none=>none
  | _=>none
def Fits:List Kd->List Value->Prop
 | [],[]=>True
 | k :: ks,v :: vs=>k.fits v/\Fits ks vs
 | _,_=>False
theorem Fits.append:∀ {ks ls:List Kd} {vs us:List Value},Fits ks vs->Fits ls us->Fits (ks ++ ls) (vs ++ us)
 | [],_,[],_,_,h=>h
 | _ :: _,_,_ :: _,_,h,h'=>⟨h.1,Fits.append h.2 h'⟩
theorem Fits.cons {k:Kd} {ks:List Kd} {vs:List Value} (h:Fits (k :: ks) vs):∃ v us,vs=v :: us/\k.fits v/\Fits ks us:=by
 cases vs with
 | nil=>exact h.elim
 | cons v us=>exact ⟨v,us,rfl,h.1,h.2⟩
theorem Fits.nil {vs:List Value} (h:Fits [] vs):vs=[]:=by
 cases vs with
 | nil=>rfl
 | cons v us=>exact h.elim
theorem Fits.length:∀ {ks:List Kd} {vs:List Value},Fits ks vs->vs.length=ks.length
 | [],[],_=>rfl
 | _ :: ks,_ :: vs,h=>by simp [Fits.length (ks:=ks) (vs:=vs) h.2]
section
variable {H:Type} {enc:TypeId × Value->H} {P:Program} {w:World} {base:Nat} {spare:Nat->Bool} {held:Bool}
theorem JgM:∀ (n:Nat) {t:TypeId} {ks:List Kd},flat P n t=some ks->P.cellsOf t=ks.length
 | 0,_,_,h=>by simp [flat] at h
 | n+1,t,ks,h=>by
  unfold flat at h;split at h
  ·split at h
   ·simp at h; subst h; assumption
   ·simp at h
  ·split at h
   ·simp at h; subst h; assumption
   ·simp at h
  ·split at h
   ·simp at h; subst h; assumption
   ·simp at h
  ·split at h
   ·split at h
    ·rename_i hc; simp at h; subst h; exact hc
    ·simp at h
   ·simp at h
  ·simp at h
theorem JjJ:∀ (n:Nat) {t:TypeId} {ks:List Kd} {fuel:Nat} {cs:List Value} {x:DataW H × List MemPlace},flat P n t=some ks->
  DataW.trod enc P w base spare held fuel t cs=some x->Fits ks cs
 | 0,_,_,_,_,_,h,_=>by simp [flat] at h
 | n+1,t,ks,fuel,cs,x,h,hx=>by
  unfold flat at h;split at h
  ·rename_i hu
   obtain ⟨b,rfl,_⟩:=DataW.trod_bool hu hx;split at h
   ·simp at h; subst h; exact ⟨⟨b,rfl⟩,trivial⟩
   ·simp at h
  ·rename_i k hu
   obtain ⟨m,rfl,_,hm⟩:=DataW.trod_int hu hx;split at h
   ·simp at h; subst h; exact ⟨⟨m,rfl,hm⟩,trivial⟩
   ·simp at h
  ·rename_i hu
   obtain ⟨m,rfl,_,hm⟩:=DataW.trod_string hu hx;split at h
   ·simp at h; subst h; exact ⟨⟨m,rfl,hm⟩,trivial⟩
   ·simp at h
  ·rename_i fs hu
   obtain ⟨xs,m,_,_,hlen,hxl,hf⟩:=DataW.trod_struct hu hx;split at h
   ·rename_i ls hls
    split at h
    ·rename_i hc
     simp only [Option.some.injEq] at h;subst h;have key:∀ (l:List Field) (k off:Nat) (qs:List Kd),(∀ i f,l[i]?=some f->fs[k+i]?=some f)->k+l.length=fs.size->JgN (flat P n) off l=some qs->off+qs.length=cs.length->Fits qs (cs.drop off):=by
      intro l
      induction l with
      | nil=>
       intro k off qs _ _ hq ho;simp [JgN] at hq;subst hq;simp at ho;rw [List.drop_eq_nil_of_le (by omega)]
       trivial
      | cons f l ih=>
       intro k off qs hi hk hq ho;simp only [JgN] at hq;split at hq
       ·rename_i rs hr
        split at hq
        ·rename_i hoff
         simp only [Option.map_eq_some_iff] at hq;obtain ⟨ts,hts,rfl⟩:=hq;have hcf:=JgM n hr;have h0:=hi 0 f rfl;rw [Nat.add_zero] at h0;have hfk:=hf k f h0;have hsome:∃ y,xs[k]?=some y:=⟨xs[k]'(by simp at hk; omega),List.getElem?_eq_getElem _⟩
         obtain ⟨y,hy⟩:=hsome;rw [hy,hoff,hcf] at hfk;have hfit:=JjJ n hr hfk;have hrest:=ih (k+1) (off+rs.length) ts (fun i g hg=>by have:=hi (i+1) g (by simpa using hg); rwa [show k+1+i=k+(i+1) from by omega]) (by simp at hk; omega) hts (by simp at ho; omega)
         have hsplit:cs.drop off=(cs.drop off).take rs.length ++ cs.drop (off+rs.length):=by
          rw [<-List.drop_drop,List.take_append_drop]
         rw [hsplit];exact hfit.append hrest
        ·simp at hq
       ·simp at hq
     simpa using key fs.toList 0 0 ls (fun i f hi=>by simpa using hi) (by simp) hls (by simp [hlen,hc])
    ·simp at h
   ·simp at h
  ·simp at h

theorem JnW {t e:TypeId} {v:Value} {d:DataW H} {p:List MemPlace} {ks:List Kd} (n:Nat) (ht:P.underlying t=some (.slice e)) (hk:flat P n e=some ks)
  (hv:Value.okWide P w .any base t v) (h:DataW.Trod enc P w 0 spare held t v d p) (hp:∀ x∈p,x.block<w.heap.size) (h0:0<ks.length) :
  ∃ xs:List (List Value),Row w ks.length v xs/\(∀ x∈xs,Fits ks x)/\(∃ els sp,(d=.nil/\xs=[])\/(d=.slice els sp/\els.length=xs.length)):=by
 obtain ⟨A,len,cap,rfl⟩:=okWide_slice ht hv;obtain ⟨fuel,hf⟩:=h;have hC:=JgM n hk;rcases Go.Deep.open_slice ht hf with ⟨hcs,hx⟩ | ⟨a,len',cap',m,fu,D,Pl,hcs,_,hl,hm,hmm,hx,hi⟩
 ·simp [Value.cells] at hcs
  obtain ⟨rfl,rfl,rfl⟩:=hcs;injection hx with hd _
  exact ⟨[],Row.nil _ _,by simp,[],[],.inl ⟨hd,rfl⟩⟩
 ·simp [Value.cells] at hcs
  obtain ⟨rfl,rfl,rfl⟩:=hcs;injection hx with hd hpl
  rw [hC] at hi;have hml:len<=m:=by rw [hmm]; split <;> omega
  have hex:∀ i,i<len->∃ cs',cs'.length=ks.length/\Fits ks cs'/\∀ j u,cs'[j]?=some u->w.cell? (a.add (i*ks.length+j))=some u:=by
   intro i hil;obtain ⟨cs',hc',ht'⟩:=hi i (by omega)
   obtain ⟨_,hcl,hat⟩:=World.cells?_some hc';refine ⟨cs',hcl,JjJ n hk ht',fun j u hu=>?_⟩
   have hj:j<ks.length:=by have:=(List.getElem?_eq_some_iff.1 hu).1; omega
   rw [<-Go.Deep.add_add,hat j hj,hu]
  have hch:∃ g:Nat->List Value,∀ i,i<len->(g i).length=ks.length/\Fits ks (g i)/\∀ j u,(g i)[j]?=some u->w.cell? (a.add (i*ks.length+j))=some u:=
   ⟨fun i=>if h:i<len then Classical.choose (hex i h) else [],fun i hil=>by simp only [hil,dif_pos]; exact Classical.choose_spec (hex i hil)⟩
  obtain ⟨g,hg⟩:=hch;refine ⟨(List.range len).map g,⟨some a,cap,by simp,by simpa using hl,hm,?_,?_⟩,?_,_,_,.inr ⟨hd,by simp⟩⟩
  ·intro x hx'
   simp at hx';obtain ⟨i,hil,rfl⟩:=hx';exact (hg i hil).1
  ·intro hpos
   simp at hpos;have h00:∃ u,w.cell? a=some u:=by
    obtain ⟨h01,_,h02⟩:=hg 0 hpos;have hu:(g 0)[0]?=some ((g 0)[0]'(by omega)):=List.getElem?_eq_getElem _
    exact ⟨_,by simpa [Jpq] using h02 0 _ hu⟩
   obtain ⟨u0,hu0⟩:=h00;have hsp:=JnA hu0;refine ⟨a.block,a.off,by rw [<-hsp],?_,?_⟩
   ·refine hp (.cell a.block a.off) ?_
    rw [hpl];refine List.mem_append.2 (.inl ?_);rw [hC];have hpos':0<m*ks.length:=Nat.mul_pos (by omega) h0
    simp only [MemPlace.row,List.mem_map,List.mem_range];exact ⟨0,hpos',by simp⟩
   ·intro i x hx' j u hu
    have hil:i<len:=by have:=(List.getElem?_eq_some_iff.1 hx').1; simpa using this
    simp [hil] at hx';subst hx';have:=(hg i hil).2.2 j u hu;rw [hsp] at this;have hadd:(⟨a.block,a.off,none⟩:Addr).add (i*ks.length+j)=⟨a.block,a.off+i*ks.length+j,none⟩:=by
     unfold Addr.add;split
     ·rename_i h0'; rw [Nat.add_assoc,h0']; rfl
     ·rw [Nat.add_assoc]
    rwa [hadd] at this
  ·intro x hx'
   simp at hx';obtain ⟨i,hil,rfl⟩:=hx';exact (hg i hil).2.1
end

/-! ### from rows of kinds to typed elements -/
theorem typed {α:Type} {f:α->List Value} {Q:α->Prop}:∀ {xs:List (List Value)},(∀ x∈xs,∃ t,x=f t/\Q t)->∃ l:List α,xs=l.map f/\∀ t∈l,Q t
 | [],_=>⟨[],rfl,by simp⟩
 | x :: xs,h=>by
  obtain ⟨t,rfl,ht⟩:=h x (by simp)
  obtain ⟨l,rfl,hl⟩:=typed (xs:=xs) (fun y hy=>h y (List.mem_cons_of_mem _ hy))
  exact ⟨t :: l,rfl,by simpa [ht] using hl⟩
def cInt (z:Int):List Value:=[.int .i64 z]
def I64 (z:Int):Prop:=-9223372036854775808<=z/\z<=9223372036854775807
theorem Jol {z:Int} (h:(Lit.int .i64 z).wf=true):I64 z:=by unfold I64; exact bounds_i64 h
theorem fits_i {ks:List Kd} {x:List Value} (h:Fits (.i .i64 :: ks) x):∃ (z:Int) (us:List Value),x=.int .i64 z :: us/\I64 z/\Fits ks us:=by
 obtain ⟨v,us,rfl,⟨m,rfl,hw⟩,hr⟩:=h.cons;exact ⟨m,us,rfl,Jol hw,hr⟩
theorem fits_int {x:List Value} (h:Fits [.i .i64] x):∃ z,x=cInt z/\I64 z:=by
 obtain ⟨z,us,rfl,hz,hr⟩:=fits_i h;obtain rfl:=hr.nil;exact ⟨z,rfl,hz⟩
theorem Sl.int_at {w:World} {A:Option Addr} {n c:Nat} {zs:List Int} (h:Sl cInt 1 w (.slice A n c) zs):∀ i,i<n->∃ b off x,A=some ⟨b,off,none⟩/\b<w.heap.size/\zs[i]?=some x/\w.cell? ⟨b,off+i,none⟩=some (.int .i64 x):=by
 intro i hi;have hn:=h.len;have hx:zs[i]?=some (zs[i]'(by omega)):=List.getElem?_eq_getElem _
 obtain ⟨b,off,rfl,hb,hc⟩:=h.at_ hx;refine ⟨b,off,_,rfl,hb,hx,?_⟩;have:=hc 0 _ rfl;simpa using this

/-! ### the closing of a law -/
section
variable {H:Type} {enc:TypeId × Value->H} {P:Program}
theorem JeE {W W':World} (hl:laidOutB P=true) (hb:Below W.heap.size W W'):∀ {ts:List TypeId} {vs:List Value} {ds:List (DataW H)} {ps:List MemPlace},
  (∀ t∈ts,P.readableRec t=true/\t<P.types.size)->(∀ x∈ps,x.block<W.heap.size)->
  DataW.TrodAll enc P W 0 (fun _=>true) true ts vs ds ps->DataW.TrodAll enc P W' 0 (fun b=>decide (b<W.heap.size)) true ts vs ds ps
 | [],vs,ds,ps,_,_,h=>by
  obtain ⟨rfl,rfl,rfl⟩:=trodAll_nil h;exact rfl
 | t :: ts,vs,ds,ps,hr,hp,h=>by
  obtain ⟨v,vs',d,ds',p,q,rfl,rfl,rfl,h0,h1⟩:=trodAll_cons h;have ht:=hr t (by simp)
  exact ⟨p,q,Below.trod hl ht.1 ht.2 h0 hb (fun x hx=>hp x (List.mem_append.2 (.inl hx))),
   JeE hl hb (fun t' h'=>hr t' (List.mem_cons_of_mem _ h')) (fun x hx=>hp x (List.mem_append.2 (.inr hx))) h1,rfl⟩
theorem law_post {f:Func} {s:ChangeSpec} {W W':World} {args:Array Value} {ds gs:List (DataW H)} {before:List MemPlace} {tb:TypeId} (hl:laidOutB P=true)
  (hr:∀ t∈f.params.toList,P.readableRec t=true/\t<P.types.size) (hvars:s.vars=[]) (hres:f.resultTypes=#[tb]) (htb:P.underlying tb=some .bool)
  (hW:DataW.Whole enc P f.params.toList s.vars false W args.toList ds gs before) (hspec:s.fn H (ds ++ gs)={ results:=[.lit (.bool true)],args:=ds })
  (hb:Below W.heap.size W W'):s.post enc P f false true false false W args (.bool true) W':=by
 have hlt:∀ p∈before,p.block<W.heap.size:=fun p hp=>hW.lt p hp
 have hW':=hW;obtain ⟨p,q,hA,hV,rfl,_,_⟩:=hW;rw [hvars] at hV;obtain ⟨rfl,rfl⟩:=trodVars_none hV;refine ⟨ds,[],p ++ [],[],p,[],hW',?_,?_,?_,hb.frame _,fun h=>by cases h⟩
 ·rw [hspec,hres]
  exact trodAll_mk1 (shut_bool htb true)
 ·rw [hspec]
  exact JeE hl hb hr (fun x hx=>hlt x (by simpa using hx)) hA
 ·rw [hspec,hvars]
  exact rfl
end

/-! ### slices that the call owns -/
structure El (P:Program) (t e:TypeId) (z:Value) (s bytes:Nat):Prop where
 slice:P.underlying t=some (.slice e)
 info:(P.info? e).map (fun i=>(i.zero,i.size,i.bytes))=some (some z,s,bytes)
 cells:z.cells.size=s
 pos:0<s
def Ow {α:Type} (f:α->List Value) (s:Nat) (e:TypeId) (w:World) (B:Nat) (v:Value) (l:List α):Prop:=
 w.ownsRow B e s v l.length (l.flatMap f)/\∀ x∈l,(f x).length=s
section
variable {α:Type} {f:α->List Value} {s:Nat} {e:TypeId} {w w':World} {B:Nat} {v:Value} {l:List α}
theorem Ow.nil (f:α->List Value) (s:Nat) (e:TypeId) (w:World) (B:Nat):Ow f s e w B (.slice none 0 0) []:=⟨World.ownsRow_nil _ _ _ _,by simp⟩
theorem Ow.alloc (h:Ow f s e w B v l) (o:Obj):Ow f s e (w.alloc o) B v l:=⟨h.1.alloc o,h.2⟩
theorem Ow.drewN (h:Ow f s e w B v l) (n:Nat):Ow f s e (w.drewN n) B v l:=h
theorem Ow.below (h:Ow f s e w B v l) (hb:Below w.heap.size w w'):Ow f s e w' B v l:=by
 refine ⟨?_,h.2⟩;refine h.1.kept (row:=none) ⟨hb.os,hb.tape,hb.output,hb.size,fun k hk _=>hb.block k hk⟩ ?_
 cases hv:v.ownBlock <;> simp
theorem Ow.kept {row:Option Nat} (h:Ow f s e w B v l) (hg:w.grownBy w' row) (hne:v.ownBlock=none\/v.ownBlock≠row):Ow f s e w' B v l:=⟨h.1.kept hg hne,h.2⟩
theorem Ow.setBelow (h:Ow f s e w B v l) {a:Addr} (ha:a.block<B) (u:Value):Ow f s e (w.setCell a u) B v l:=⟨ownsRow_setCell_below h.1 ha u,h.2⟩
theorem Ow.mono {B':Nat} (h:Ow f s e w B v l) (hB:B'<=B):Ow f s e w B' v l:=by
 refine ⟨⟨h.1.1,?_⟩,h.2⟩;rcases h.1.2 with hn | ⟨g,cap,cur,rfl,hb,r⟩
 ·exact .inl hn
 ·exact .inr ⟨g,cap,cur,rfl,by omega,r⟩
theorem Ow.regrow {W W':World} {ext:Array Obj} {d d':Nat} (h:Ow f s e (grow W ext d) B v l) (hB:W.heap.size<=B) (hs:W'.heap.size=W.heap.size):Ow f s e (grow W' ext d') B v l:=by
 refine ⟨⟨h.1.1,?_⟩,h.2⟩;rcases h.1.2 with hn | ⟨g,cap,cur,rfl,hb,hg,r⟩
 ·exact .inl hn
 ·refine .inr ⟨g,cap,cur,rfl,hb,?_,r⟩
  have e1:(grow W ext d).heap[g]?=(W.heap ++ ext)[g]?:=rfl;have e2:(grow W' ext d').heap[g]?=(W'.heap ++ ext)[g]?:=rfl;rw [e1,Array.getElem?_append_right (by omega)] at hg
  rw [e2,Array.getElem?_append_right (by omega),hs]
  exact hg
theorem JbN (hf:∀ x∈l,(f x).length=s) {i:Nat} {x:α} (hx:l[i]?=some x) {j:Nat} {u:Value} (hu:(f x)[j]?=some u):(l.flatMap f)[i*s+j]?=some u:=by
 induction l generalizing i with
 | nil=>simp at hx
 | cons y l ih=>
  have hy:(f y).length=s:=hf y (by simp)
  cases i with
  | zero=>
   simp at hx;subst hx;rw [List.flatMap_cons,Nat.zero_mul,Nat.zero_add,List.getElem?_append_left (List.getElem?_eq_some_iff.1 hu).1];exact hu
  | succ i=>
   have h:=ih (fun z hz=>hf z (by simp [hz])) (i:=i) (by simpa using hx)
   rw [List.flatMap_cons,List.getElem?_append_right (by rw [hy,Nat.succ_mul]; omega),hy,Nat.succ_mul,show i*s+s+j - s=i*s+j from by omega]
   exact h
theorem Ow.form (h:Ow f s e w B v l):∃ A c,v=.slice A l.length c/\l.length<=c/\c<=maxLen/\(A=none->l=[]/\c=0)/\(∀ a,A=some a->∃ g,a=⟨g,0,none⟩/\B<=g/\g<w.heap.size):=by
 rcases h.1.2 with ⟨rfl,hn⟩ | ⟨g,cap,cur,rfl,hB,hg,h1,h2,_⟩
 ·have hl:l=[]:=List.eq_nil_of_length_eq_zero hn
  subst hl;exact ⟨none,0,rfl,Nat.le_refl _,Nat.zero_le _,fun _=>⟨rfl,rfl⟩,fun a ha=>by cases ha⟩
 ·refine ⟨some ⟨g,0,none⟩,cap,rfl,h1,h2,(fun h=>nomatch h),fun a ha=>?_⟩
  injection ha with ha
  exact ⟨g,ha.symm,hB,(Array.getElem?_eq_some_iff.1 hg).1⟩
theorem Ow.sl (h:Ow f s e w B v l):Sl f s w v l:=by
 obtain ⟨A,c,rfl,h1,h2,h3,h4⟩:=h.form;refine ⟨A,c,by simp,by simpa using h1,h2,by simpa using h.2,fun h0=>?_⟩
 cases A with
 | none=>simp [(h3 rfl).1] at h0
 | some a=>
  obtain ⟨g,rfl,hB,hg⟩:=h4 a rfl;refine ⟨_,_,rfl,hg,fun i x hx j u hu=>?_⟩
  simp only [List.getElem?_map,Option.map_eq_some_iff] at hx;obtain ⟨y,hy,rfl⟩:=hx;have hcc:=h.1.cells (g:=g) rfl _ _ (JbN h.2 hy hu);have hadd:(⟨g,0,none⟩:Addr).add (i*s+j)=⟨g,0+i*s+j,none⟩:=by unfold Addr.add; split <;> simp_all
  rwa [hadd] at hcc
end

def Owned {α:Type} (f:α->List Value) (s:Nat) (e:TypeId) (l:List α) (w:World) (r:Ending) (w':World):Prop:=∃ A c,r=.returned (.slice A l.length c)/\Ow f s e w' w.heap.size (.slice A l.length c) l/\Below w.heap.size w w'
theorem Owned.mk {α:Type} {f:α->List Value} {s:Nat} {e:TypeId} {l:List α} {w w':World} {v:Value} (h:Ow f s e w' w.heap.size v l) (hb:Below w.heap.size w w'):Owned f s e l w (.returned v) w':=by
 obtain ⟨A,c,rfl,_⟩:=h.form;exact ⟨A,c,rfl,h,hb⟩
theorem Jgp {α:Type} (f:α->List Value) (s:Nat) (e:TypeId) (w:World):Ow f s e (w.alloc (.cells #[] e)) w.heap.size (.slice (some ⟨w.heap.size,0,none⟩) 0 0) []:=
 ⟨World.ownsRow_lit w #[] 0 (Nat.le_refl _) (by simp [maxLen]) (by simp),by simp⟩
theorem Sl.none_nil {α:Type} {f:α->List Value} {s:Nat} {w:World} {n c:Nat} {l:List α} (h:Sl f s w (.slice none n c) l):l=[]:=by
 cases l with
 | nil=>rfl
 | cons x l=>obtain ⟨_,_,ha,_⟩:=h.at_ (i:=0) rfl; cases ha

theorem Jet {P:Program} {e:TypeId} {z:Value} {s bytes:Nat} (h:(P.info? e).map (fun i=>(i.zero,i.size,i.bytes))=some (some z,s,bytes)) :
  ∃ i,P.info? e=some i/\i.zero=some z/\i.size=s/\i.bytes=bytes:=by
 simp only [Option.map_eq_some_iff,Prod.mk.injEq] at h;obtain ⟨i,hi,h1,h2,h3⟩:=h;exact ⟨i,hi,h1,h2,h3⟩
theorem JcT {α:Type} {f:α->List Value} {s:Nat} {l:List α} (hf:∀ x∈l,(f x).length=s):(l.flatMap f).length=l.length*s:=by
 induction l with
 | nil=>simp
 | cons y l ih=>
  rw [List.flatMap_cons,List.length_append,ih (fun z hz=>hf z (by simp [hz])),hf y (by simp),List.length_cons,Nat.succ_mul]
  omega
theorem JdC {α:Type} {f:α->List Value} {s:Nat}:∀ {l:List α},(∀ x∈l,(f x).length=s)->∀ {k:Nat} {u:Value},(l.flatMap f)[k]?=some u->∃ i x j,l[i]?=some x/\(f x)[j]?=some u/\k=i*s+j
 | [],_,k,u,h=>by simp at h
 | y :: l,hf,k,u,h=>by
  have hy:(f y).length=s:=hf y (by simp)
  rw [List.flatMap_cons] at h
  by_cases hk:k<(f y).length
  ·rw [List.getElem?_append_left hk] at h
   exact ⟨0,y,k,rfl,h,by simp⟩
  ·rw [List.getElem?_append_right (by omega)] at h
   obtain ⟨i,x,j,h1,h2,h3⟩:=JdC (fun z hz=>hf z (by simp [hz])) h
   exact ⟨i+1,x,j,by simpa using h1,h2,by rw [Nat.succ_mul]; omega⟩

section
variable {P:Program} (w:World)
theorem run_app {α:Type} {f:α->List Value} {s:Nat} {t e:TypeId} {z:Value} {bytes:Nat} (ty:TypeId) (E:El P t e z s bytes) {B:Nat} {v xv:Value} {l m:List α}
  (hown:Ow f s e w B v l) (hsrc:Sl f s w xv m) (h1:∀ x,∀ u∈f x,u.oneCell'=true)
  (h63:l.length+m.length<=maxLen) (hbytes:(l.length+m.length)*bytes<=140737488355328) (hbase:B<=w.heap.size) :
  ∃ v' w',(Builtin.append_ #[t,t] ty #[v,xv]).run P w=.ok v' w'/\Ow f s e w' B v' (l ++ m)/\w.grownBy w' v.ownBlock/\
   (v'.ownBlock=v.ownBlock\/v'.ownBlock=some w.heap.size):=by
 obtain ⟨i,hi,hz,hs,hb⟩:=Jet E.info;have hfm:∀ x∈m,(f x).length=s:=by
  obtain ⟨_,_,_,_,_,h3,_⟩:=hsrc;intro x hx;exact h3 _ (List.mem_map.2 ⟨x,hx,rfl⟩)
 have hsrc':=hsrc;obtain ⟨A,c,rfl,_,_,_,hc⟩:=hsrc;simp only [List.length_map] at hc ⊢;rcases A with _ | a
 ·have hm:m=[]:=by
   rcases m with _ | ⟨y,m⟩
   ·rfl
   ·obtain ⟨_,_,ha,_⟩:=hc (by simp)
    cases ha
  subst hm;refine ⟨v,w,?_,by simpa using hown,⟨rfl,rfl,rfl,Nat.le_refl _,fun _ _ _=>rfl⟩,.inl rfl⟩
  rcases hown.1.2 with ⟨rfl,_⟩ | ⟨g,cap,cur,rfl,_,_,hnc,_⟩
  ·simp [Builtin.append_,run_underlying E.slice,sizeOf,typeInfo,hi,Builtin.lenOf,Builtin.firstCells]
  ·simp [Builtin.append_,run_underlying E.slice,sizeOf,typeInfo,hi,Builtin.lenOf,Builtin.firstCells,hnc,storeCells]
 ·have hcells:∀ k u,(m.flatMap f)[k]?=some u->w.cell? (a.add k)=some u:=by
   intro k u hu;obtain ⟨i',x,j,hx,hj,rfl⟩:=JdC hfm hu;obtain ⟨b',off',ha',_,hcc⟩:=Sl.at_ hsrc' hx;injection ha' with ha'
   subst ha';have hadd:(⟨b',off',none⟩:Addr).add (i'*s+j)=⟨b',off'+i'*s+j,none⟩:=by
    unfold Addr.add;split
    ·rename_i h0'; rw [Nat.add_assoc,h0']; rfl
    ·rw [Nat.add_assoc]
   rw [hadd];exact hcc j u hj
  obtain ⟨v',w',hr,h2,h3,_,h5⟩:=run_append_own_at (P:=P) w B t ty e i z s bytes E.slice hi hz hs hb E.cells E.pos v l.length (l.flatMap f) hown.1 a m.length c (m.flatMap f) (JcT hfm) hcells
   (by intro u hu; obtain ⟨x,hx,hux⟩:=List.mem_flatMap.1 hu; exact h1 x u hux) h63 hbytes hbase
  refine ⟨v',w',hr,⟨by simpa using h2,?_⟩,h3,h5⟩
  intro x hx;rcases List.mem_append.1 hx with hx | hx
  ·exact hown.2 x hx
  ·exact hfm x hx
theorem Jm7 {o:Oper} {a:Act} {K:Act->World->Prop} {Q:Exit->Act->World->Prop} (sv x:Operand) (t:TypeId)
  (ho:o.op=.call { callee:=.builtin .append,args:=#[sv,x],argTypes:=#[t,t] })
  {α:Type} {f:α->List Value} {s:Nat} {e:TypeId} {z:Value} {bytes:Nat} (E:El P t e z s bytes) {B:Nat} {v xv:Value} {l m:List α}
  (hs:a.eval sv=v) (hx:a.eval x=xv) (hown:Ow f s e w B v l) (hsrc:Sl f s w xv m) (h1:∀ x,∀ u∈f x,u.oneCell'=true)
  (h63:l.length+m.length<=maxLen) (hbytes:(l.length+m.length)*bytes<=140737488355328) (hbase:B<=w.heap.size)
  (h:∀ v' w',Ow f s e w' B v' (l ++ m)->w.grownBy w' v.ownBlock->(v'.ownBlock=v.ownBlock\/v'.ownBlock=some w.heap.size)->K (a.put o.dst v') w'):o.wp P a w K Q:=by
 obtain ⟨v',w',hr,h2,h3,h4⟩:=run_app (P:=P) w o.type E hown hsrc h1 h63 hbytes hbase;unfold Oper.wp execOp;simp only [ho,resolve,invoke,builtin,Sem.run_bind,Sem.run_pure,Result.andThen_ok,List.map_toArray,List.map_cons,List.map_nil,hs,hx,hr];exact h v' w' h2 h3 h4
theorem Jaf {ops:Array Oper} {rest:List Oper} {o:Oper} {a:Act} {Q:Exit->Act->World->Prop} (hgd:o.guard=none) (sv x:Operand) (t:TypeId)
  (ho:o.op=.call { callee:=.builtin .append,args:=#[sv,x],argTypes:=#[t,t] })
  {α:Type} {f:α->List Value} {s:Nat} {e:TypeId} {z:Value} {bytes:Nat} (E:El P t e z s bytes) {B:Nat} {v xv:Value} {l m:List α}
  (hs:a.eval sv=v) (hx:a.eval x=xv) (hown:Ow f s e w B v l) (hsrc:Sl f s w xv m) (h1:∀ x,∀ u∈f x,u.oneCell'=true)
  (h63:l.length+m.length<=maxLen) (hbytes:(l.length+m.length)*bytes<=140737488355328) (hbase:B<=w.heap.size)
  (h:∀ v' w',Ow f s e w' B v' (l ++ m)->w.grownBy w' v.ownBlock->(v'.ownBlock=v.ownBlock\/v'.ownBlock=some w.heap.size)->wpList P ops Q rest (a.put o.dst v') w'):wpList P ops Q (o :: rest) a w:=
 wpList_plain hgd fun _ hK=>Jm7 w sv x t ho E hs hx hown hsrc h1 h63 hbytes hbase fun v' w' h2 h3 h4=>hK _ _ (h v' w' h2 h3 h4)
end
theorem Sl.one {α:Type} (f:α->List Value) (s:Nat) (w:World) (x:α) (e:TypeId) (hs:(f x).length=s) (cs:Array Value) (hcs:cs.toList=f x) (h0:0<s) :
  Sl f s (w.alloc (.cells cs e)) (.slice (some ⟨w.heap.size,0,none⟩) 1 1) [x]:=by
 refine ⟨some ⟨w.heap.size,0,none⟩,1,rfl,Nat.le_refl _,by simp [maxLen],by simpa using hs,fun _=>⟨_,_,rfl,by simp,fun i y hy j u hu=>?_⟩⟩
 cases i with
 | zero=>
  simp at hy;subst hy;have hc:cs[j]?=some u:=by rw [<-Array.getElem?_toList,hcs]; exact hu
  rw [show 0+0*s+j=j from by omega,World.cell?_alloc_new]
  exact hc
 | succ i=>simp at hy
theorem Sl.one_at {α:Type} (f:α->List Value) (s:Nat) (w:World) (x:α) (e:TypeId) (hs:(f x).length=s) (cs:Array Value) (hcs:cs.toList=f x) (h0:0<s) {n:Nat} (hn:n=w.heap.size) :
  Sl f s (w.alloc (.cells cs e)) (.slice (some ⟨n,0,none⟩) 1 1) [x]:=by
 subst hn;exact Sl.one f s w x e hs cs hcs h0
theorem zR {p:Prop} (h:p:=by repeat (first | with_reducible exact Below.refl _ _ | with_reducible assumption | with_reducible exact below_d1 _ _ _ _ _ | with_reducible exact below_d2 _ _ _ _ _ _ _ _ | with_reducible exact below_d3 _ _ _ _ _ | with_reducible exact below_d4 _ _ _ _ _ _ _ _ | with_reducible exact below_d5 _ _ | with_reducible refine Below.drew ?_ | with_reducible refine Below.drewN' ?_ _ | with_reducible refine Ja8 _ _ ?_ | with_reducible refine Jbt _ ?_ | with_reducible refine Below.setCell ?_ ?_ _ | with_reducible refine Below.alloc ?_ ?_ _ | with_reducible refine Below.grow _ _ _ ?_ ?_ | omega | (simp; done) | (simp; omega))):p:=h
theorem zL {p:Prop} (h:p:=by repeat (first | exact Below.refl _ _ | assumption | refine Below.drew ?_ | refine Below.drewN' ?_ _ | refine Ja8 _ _ ?_ | refine Jbt _ ?_ | refine Below.alloc ?_ (by first | omega | (simp; done) | (simp; omega)) _ | refine Below.setCell ?_ (by first | omega | (simp; done) | (simp; omega)) _ | refine Below.grow _ _ _ ?_ (by first | omega | (simp; done) | (simp; omega)))):p:=h
theorem zS {p:Prop} (h:p:=by repeat (first | with_reducible exact Swap.refl _ _ | with_reducible refine Swap.drew1 ?_ | with_reducible refine Swap.drew2 ?_ | with_reducible refine Swap.drewN1 ?_ | with_reducible refine Swap.drewN2 ?_ | with_reducible refine Swap.grow ?_ _ _ _ | with_reducible refine Swap.alloc ?_ _ | with_reducible refine Swap.new ?_ _ _ ?_ | with_reducible refine Swap.set ?_ _ _ _ ?_ | (simp; done) | (simp; omega))):p:=h
theorem zE {p:Prop} (h:p:=by repeat (first | exact Below.refl _ _ | exact JjZ _ _ _ _ | assumption | refine Below.drew ?_ | refine Below.drewN' ?_ _ | refine Ja8 _ _ ?_ | refine Jbt _ ?_ | refine Below.alloc ?_ (by first | omega | (simp; done) | (simp; omega)) _ | refine Below.setCell ?_ (by first | omega | (simp; done) | (simp; omega)) _ | refine Below.grow _ _ _ ?_ (by first | omega | (simp; done) | (simp; omega)))):p:=h
theorem zc {P:Program} {f:FuncId} {a:Array Value} {w:World} {v:Value} {K:Ending->World->Prop} (h:Calls P f a w fun e w'=>e=.returned v/\Below w.heap.size w w') (k:∀ (ext:Array Obj) (d:Nat),K (.returned v) (grow w ext d)):Calls P f a w K:=h.mono (by rintro e w1 ⟨rfl,hb⟩; obtain ⟨ext,d,rfl⟩:=Below.grown_eq _ hb; exact k ext d)
theorem qAE {p:Prop} (h:p:=by rw [hW.out]; go_simp):p:=h
theorem qBE {p:Prop} (h:p:=by rw [hX0.out]; go_simp):p:=h
theorem qCE {p:Prop} (h:p:=by omega):p:=h
theorem qDE {p:Prop} (h:p:=by rw [hW1.out]; exact newCell (by simp) rfl):p:=h
theorem qEE {p:Prop} (h:p:=by rw [JcT (fun y hy=>H2.out y (List.mem_of_mem_drop hy)),List.length_drop,HL.out]):p:=h
theorem qFE {p:Prop} (h:p:=by rw [hWF.out]; exact (((Below.own hwW hWW5).setCell (by simp only; omega) _).setCell (by simp only; omega) _).setCell (by simp only; omega) _):p:=h
theorem qGE {p:Prop} (h:p:=by rw [IntKind.wrap_i64]; simp [maxLen] at hcm; omega):p:=h
theorem qHE {p:Prop} (h:p:=by unfold IntKind.wrap; simp [IntKind.signed,IntKind.bits]; omega):p:=h
theorem qIE {p:Prop} (h:p:=by rw [hW.out]; exact zR):p:=h
theorem qJE {p:Prop} (h:p:=by rw [Jbv _ _ _ (by rw [HN.out,HL.out]; have:=HQ.out; omega),HL.out]):p:=h
theorem qKE {p:Prop} (h:p:=by rw [hW9.out]; exact zR):p:=h
theorem qLE {p:Prop} (h:p:=by rw [Jbv _ _ _ (by rw [HN0.out,HL.out]; simp; omega),HL.out]):p:=h
theorem qME {p:Prop} (h:p:=by rw [List.length_append,List.length_take,List.length_drop]; omega):p:=h
theorem qNE {p:Prop} (h:p:=by rw [hW1.out]; exact zR):p:=h
theorem qOE {p:Prop} (h:p:=by rw [Jbv _ _ _ (by rw [hcsl,HBL.out]; omega),HBL.out]):p:=h
theorem qPE {p:Prop} (h:p:=by rw [Jbv _ _ _ (by simp only [List.length_append,hlt,hz1]; show k*3+3<=_; omega),List.length_append,hlt,hz1]):p:=h
theorem qQE {p:Prop} (h:p:=by rw [List.getElem_cons_drop,List.take_append_drop]):p:=h
theorem qRE {p:Prop} (h:p:=by rw [hW3.out]; exact Below.set_up hb1 H1.out.base):p:=h
theorem qSE {p:Prop} (h:p:=by intro v hv; obtain ⟨y,_,hy⟩:=List.mem_flatMap.1 hv; exact Jct y v hy):p:=h
theorem qTE {p:Prop} (h:p:=by intro v hv; obtain ⟨y,_,hy⟩:=List.mem_flatMap.1 hv; exact Jc9 y v hy):p:=h
theorem qUE {p:Prop} (h:p:=by intro v hv; obtain ⟨y,_,hy⟩:=List.mem_flatMap.1 hv; exact Jc8 y v hy):p:=h
theorem qVE {p:Prop} (h:p:=by intro v hv; obtain ⟨y,_,hy⟩:=List.mem_flatMap.1 hv; exact Jd4 y v hy):p:=h
theorem qWE {p:Prop} (h:p:=by rw [hW.out]; simp):p:=h
theorem qXE {p:Prop} (h:p:=by simp; omega):p:=h
theorem qYE {p:Prop} (h:p:=by rw [hW1.out]; exact Jbt _ HB2.out):p:=h
theorem qZE {p:Prop} (h:p:=by obtain ⟨_,_,h,_⟩:=hown.form; injection h):p:=h
theorem qaE {p:Prop} (h:p:=by rw [hW0.out]; exact zR):p:=h
theorem qbE {p:Prop} (h:p:=by have h1:=h.len; have h2:=h.k300; omega):p:=h
theorem qcE {p:Prop} (h:p:=by rw [List.length_append,hlt,hnews]; omega):p:=h
theorem qdE {p:Prop} (h:p:=by rw [List.take_add_one,hx]; rfl):p:=h
theorem qeE {p:Prop} (h:p:=by rw [hW4.out]; exact zR):p:=h
theorem qfE {p:Prop} (h:p:=by rw [hWF.out]; exact JkG s0):p:=h
theorem qgE {p:Prop} (h:p:=by rw [hWF.out]; exact JkG s1):p:=h
theorem qhE {p:Prop} (h:p:=by rw [hWF.out]; exact JkG s2):p:=h
theorem qiE {p:Prop} (h:p:=by rw [List.length_take,HBL.out]; omega):p:=h
theorem qjE {p:Prop} (h:p:=by rw [hwa.out]; go_simp):p:=h
theorem qkE {p:Prop} (h:p:=by simp at hg3; omega):p:=h
theorem qlE {p:Prop} (h:p:=by intro h; exact hvA (by rw [h]; rfl)):p:=h
theorem qmE {p:Prop} (h:p:=by rw [hW1.out]; go_simp):p:=h
theorem qnE {p:Prop} (h:p:=by rw [hX0.out]; simp; omega):p:=h
theorem qoE {p:Prop} (h:p:=by rw [hW.out]; simp; omega):p:=h
theorem qpE {p:Prop} (h:p:=by unfold JbG; rw [hno]; rfl):p:=h
theorem qqE {p:Prop} (h:p:=by rw [hWF.out]; exact s0):p:=h
theorem qrE {p:Prop} (h:p:=by rw [hWF.out]; exact s1):p:=h
theorem qsE {p:Prop} (h:p:=by rw [hWF.out]; exact s2):p:=h
theorem qtE {p:Prop} (h:p:=by rw [hWF.out]; exact zR):p:=h
theorem quE {p:Prop} (h:p:=by rw [hX0.out]; exact zR):p:=h
theorem qvE {p:Prop} (h:p:=by subst hW0; go_simp):p:=h
theorem qwE {p:Prop} (h:p:=by rw [hwb.out]; go_simp):p:=h
theorem qA0 {p:Prop} (h:p:=by rw [show ∀ q,1<=q->Nat.min 1 q=1 from fun q h=>Nat.min_eq_left h] <;> first | rfl | omega):p:=h
theorem qB0 {p:Prop} (h:p:=by rw [HCL.out,show Nat.min (n - k) (n+1 - (k+1))=n - k from Nat.min_eq_left (by omega)]):p:=h
theorem qC0 {p:Prop} (h:p:=by rintro q (hq | rfl | rfl); exact .inl hq; exact .inr (Nat.le_refl _); exact .inr (by omega)):p:=h
theorem qD0 {p:Prop} (h:p:=by rw [HCL.out,show Nat.min (n+1 - k) (n - k)=n - k from Nat.min_eq_right (by omega)]):p:=h
theorem qE0 {p:Prop} (h:p:=by rw [Jbv _ _ _ (by rw [HS.out,HCL.out]; omega),HS.out]; omega):p:=h
theorem qF0 {p:Prop} (h:p:=by unfold Jbi; rw [HA.out,if_pos rfl,HM.out,if_neg (fun e=>e rfl)]):p:=h
theorem qG0 {p:Prop} (h:p:=by rw [hWF.out]; exact (H5.out.nodes.below hWW5).set_low hXs _ _ _):p:=h
theorem qH0 {p:Prop} (h:p:=by simp [Act.eval,Act.put]; have:=HQ.out; have:=HJ.out; omega):p:=h
theorem qI0 {p:Prop} (h:p:=by rw [hWF.out]; exact (H5.out.sess.below hWW5).set_low hXs _ _ _):p:=h
theorem qJ0 {p:Prop} (h:p:=by rw [hWF.out]; exact (H5.out.evs.below hWW5).set_low hXs _ _ _):p:=h
theorem qK0 {p:Prop} (h:p:=by unfold Jbi; rw [HA.out,if_pos rfl,HM.out,if_pos hne]):p:=h
theorem qL0 {p:Prop} (h:p:=by intro k hk; simp [Value.ownBlock,Act.eval] at hk; omega):p:=h
theorem qM0 {p:Prop} (h:p:=by intro k hk; simp [Value.ownBlock] at hk ⊢; omega):p:=h
theorem qN0 {p:Prop} (h:p:=by simp only [UInt8.lt_iff_toNat_lt] at *; omega):p:=h
theorem qO0 {p:Prop} (h:p:=by rw [HN.out,HL.out]; have:=HQ.out; omega):p:=h
theorem qP0 {p:Prop} (h:p:=by unfold JfE; rw [HX.out]; simp [HOK.out]):p:=h
theorem qQ0 {p:Prop} (h:p:=by simp only [List.getElem?_toArray]; rfl):p:=h
theorem qR0 {p:Prop} (h:p:=by rw [HS.out]; show k*3+3<=_; omega):p:=h
theorem qS0 {p:Prop} (h:p:=by show Value.int _ _=_; rw [ecnt.out]):p:=h
theorem qT0 {p:Prop} (h:p:=by have:=HN1.out; simp [maxLen]; omega):p:=h
theorem qU0 {p:Prop} (h:p:=by have:=HL.out; simp [maxLen]; omega):p:=h
theorem qV0 {p:Prop} (h:p:=by rw [HSL.out]; have:=HQ.out; omega):p:=h
theorem qW0 {p:Prop} (h:p:=by rw [Jgw]; exact Nat.le_refl _):p:=h
theorem qX0 {p:Prop} (h:p:=by rw [JaN]; show _+0<=_; omega):p:=h
theorem qY0 {p:Prop} (h:p:=by unfold JaS; rw [HEX.out,HM.out]):p:=h
theorem qZ0 {p:Prop} (h:p:=by rw [HN0.out,HL.out]; simp; omega):p:=h
theorem qa0 {p:Prop} (h:p:=by injection e with e; exact e.symm):p:=h
theorem qb0 {p:Prop} (h:p:=by rw [List.length_set]; exact hlc):p:=h
theorem qc0 {p:Prop} (h:p:=by rw [HBL.out,HCL.out]; omega):p:=h
theorem qd0 {p:Prop} (h:p:=by have:=HN1.out; simp; omega):p:=h
theorem qe0 {p:Prop} (h:p:=by have:=HL.out; simp; omega):p:=h
theorem qf0 {p:Prop} (h:p:=by rw [HS.out,HCL.out]; omega):p:=h
theorem qg0 {p:Prop} (h:p:=by first | rfl | (simp; done)):p:=h
theorem qi0 {p:Prop} (h:p:=by simp [Act.eval,Act.put]):p:=h
theorem qj0 {p:Prop} (h:p:=by rw [hW.out]; simp; omega):p:=h
theorem qk0 {p:Prop} (h:p:=by rw [HEX.out]; exact hne):p:=h
theorem ql0 {p:Prop} (h:p:=by simpa using HL.out.symm):p:=h
theorem qm0 {p:Prop} (h:p:=by simp [maxLen] <;> omega):p:=h
theorem qn0 {p:Prop} (h:p:=by have:=HBL.out; omega):p:=h
theorem qo0 {p:Prop} (h:p:=by rw [HKK.out]; exact hk):p:=h
theorem qp0 {p:Prop} (h:p:=by simp [Value.ownBlock]):p:=h
theorem qq0 {p:Prop} (h:p:=by rw [HL.out]; exact hf):p:=h
theorem qr0 {p:Prop} (h:p:=by rw [hW.out]; exact zR):p:=h
theorem qs0 {p:Prop} (h:p:=by simp [maxLen]; omega):p:=h
theorem qt0 {p:Prop} (h:p:=by rw [h.n3]; exact hi):p:=h
theorem qu0 {p:Prop} (h:p:=by simpa using hown1):p:=h
theorem qv0 {p:Prop} (h:p:=by simp only; omega):p:=h
theorem qw0 {p:Prop} (h:p:=by rw [hlen]; omega):p:=h
theorem qx0 {p:Prop} (h:p:=by simpa using hg3):p:=h
theorem qy0 {p:Prop} (h:p:=by simp <;> omega):p:=h
theorem qz0 {p:Prop} (h:p:=by simpa using hn):p:=h
theorem qA1 {p:Prop} (h:p:=by simpa using h):p:=h
theorem qB1 {p:Prop} (h:p:=by simp; omega):p:=h
theorem qC1 {p:Prop} (h:p:=by simp [hWs1]):p:=h
theorem qD1 {p:Prop} (h:p:=by injection e):p:=h
theorem qE1 {p:Prop} (h:p:=by kernel_rfl):p:=h
theorem qF1 {p:Prop} (h:p:=by go_simp):p:=h
theorem qG1 {p:Prop} (h:p:=by decide):p:=h
theorem qH1 {p:Prop} (h:p:=by omega):p:=h
theorem qI1 {p:Prop} (h:p:=by simp):p:=h
theorem qJ1 {p:Prop} (h:p:=by rfl):p:=h
abbrev zA0:=@Lib.hid
abbrev zA1:=@bodyPost_ret
abbrev zA2:=@Below.grown_eq
abbrev zA3:=@Nat.le_refl
abbrev zA4:=@List.set_cons_zero
abbrev zA5:=@List.set_cons_succ
abbrev zA6:=@List.setIfInBounds_toArray
abbrev zA7:=@decide_eq_false
abbrev zA8:=@List.getElem?_eq_getElem
abbrev zA9:=@List.length_append
abbrev zB0:=@decide_eq_true
abbrev zB3:=@List.getElem?_eq_some_iff
abbrev zB5:=@Nat.le_trans
abbrev zB6:=@Below.refl
abbrev zB7:=@beq_eq_false_iff_ne
abbrev zB8:=@Below.own
abbrev zB9:=@Nat.zero_le
abbrev zC0:=@List.append_assoc
abbrev zC2:=@List.length_take
abbrev zC5:=@JcT
abbrev zC6:=@Nat.le_succ
abbrev zC7:=@Bool.false_eq_true
abbrev zC9:=@bne_iff_ne
abbrev zD0:=@Nat.lt_of_lt_of_le
abbrev zD1:=@Nat.lt_or_ge
abbrev zD3:=@List.mem_of_getElem?
abbrev zD5:=@List.length_cons
abbrev zD6:=@Int.le_refl
abbrev zD7:=@List.take_append_drop
abbrev zE0:=@List.nil_append
abbrev zE1:=@Bool.and_eq_true
abbrev zE2:=@List.mem_cons
abbrev zE3:=@List.mem_singleton
abbrev zE4:=@ByteArray.toList_eq
abbrev zE5:=@List.length_drop
abbrev zE6:=@List.getD_eq_getElem?_getD
abbrev zE7:=@List.mem_append
abbrev zE9:=@List.append_nil
abbrev zF0:=@List.mem_iff_getElem?
abbrev zF1:=@List.getElem?_append_left
abbrev zF2:=@List.mem_cons_of_mem
abbrev zF3:=@List.getElem?_drop
abbrev zF4:=@List.length_set
abbrev zF5:=@List.mem_cons_self
abbrev zF6:=@List.flatMap_append
abbrev zF7:=@List.take_add_one
abbrev zF8:=@Nat.min_eq_left
abbrev zF9:=@List.cons_append
abbrev zG0:=@List.length_map
abbrev zG1:=@List.take_length
abbrev zG2:=@List.flatMap_cons
abbrev zG3:=@Nat.zero_add
abbrev zG4:=@List.take_of_length_le
abbrev zG5:=@Nat.le_of_lt
abbrev zG6:=@List.length_nil
abbrev zG7:=@List.pairwise_cons
abbrev zG8:=@Int.eq_ofNat_of_zero_le
abbrev zG9:=@Int.toNat_natCast
abbrev zH0:=@beq_iff_eq
abbrev zH1:=@Nat.le_of_eq
abbrev zH2:=@List.take_left
abbrev zH3:=@List.pairwise_append
abbrev zH4:=@List.prefix_refl
abbrev zH5:=@ByteArray.size_extract
abbrev zH7:=@List.mem_of_mem_take
abbrev zH8:=@List.map_cons
abbrev zH9:=@Nat.add_zero
abbrev zI0:=@List.getElem?_map
abbrev zI1:=@List.getElem_mem
abbrev zI2:=@List.foldl_append
abbrev zI3:=@ByteArray.size_append
abbrev zI4:=@Nat.pow_succ
abbrev zI5:=@List.getElem?_append_right
abbrev zI6:=@Nat.sub_self
abbrev zI7:=@List.mem_append_left
abbrev zJ0:=@Bool.or_eq_true
abbrev zJ1:=@List.drop_zero
abbrev zJ2:=@List.drop_drop
abbrev zJ3:=@List.foldl_cons
abbrev zJ4:=@List.pairwise_iff_getElem
abbrev zJ5:=@Bool.false_and
abbrev zJ6:=@Bool.and_false
abbrev zJ7:=@List.getElem?_set_self
abbrev zJ8:=@List.getElem?_of_mem
abbrev zJ9:=@Bool.and_self
abbrev zK0:=@List.mem_range
abbrev zK1:=@List.map_append
abbrev zK2:=@List.eq_nil_of_length_eq_zero
abbrev zK3:=@Nat.eq_zero_or_pos
abbrev zK4:=@List.getElem?_set
abbrev zK5:=@List.take_append_of_le_length
abbrev zK6:=@List.nodup_cons
abbrev zK7:=@Nat.mul_one
abbrev zK8:=@Int.lt_or_le
abbrev zK9:=@Option.map_eq_some_iff
abbrev zL0:=@List.mem_of_mem_drop
abbrev zL1:=@Nat.mul_le_mul_right
abbrev zL2:=@Array.getElem?_eq_some_iff
abbrev zL3:=@Array.getElem?_eq_none
abbrev zL4:=@List.getElem?_cons_succ
abbrev zL5:=@List.getElem?_take_of_lt
abbrev zL6:=@List.mem_map
abbrev zL7:=@List.mem_filter
abbrev zL8:=@Nat.mul_comm
abbrev zL9:=@List.countP_le_length
abbrev zM0:=@List.getElem?_eq_none
abbrev zM1:=@Nat.lt_of_succ_lt
abbrev zM2:=@List.all_eq_false
abbrev zM3:=@List.set_append_right
abbrev zM4:=@List.length_singleton
abbrev zM5:=@Bool.true_and
abbrev zM6:=@List.mem_append_right
abbrev zM7:=@List.getElem?_take
abbrev zM8:=@List.length_filter_le
abbrev zM9:=@List.size_toArray
abbrev zN0:=@List.drop_left
abbrev zN1:=@Nat.mod_eq_of_lt
abbrev zN2:=@Nat.lt_succ_self
abbrev zN3:=@List.countP_append
abbrev zN4:=@List.all_append
abbrev zN5:=@Bool.or_eq_false_iff
abbrev zN6:=@Bool.and_eq_false_iff
abbrev zN7:=@Array.toList_inj
abbrev zN8:=@Bool.eq_iff_iff
abbrev zN9:=@List.take_take
abbrev zO0:=@Nat.pow_le_pow_right
abbrev zO1:=@List.drop_append
abbrev zO2:=@List.ext_getElem?
abbrev zO3:=@List.pairwise_singleton
abbrev zO4:=@Nat.lt_trichotomy
abbrev zO5:=@Array.getElem?_modify
abbrev zO6:=@List.filter_append
abbrev zO7:=@List.map_drop
abbrev zO8:=@List.drop_length
abbrev zO9:=@List.drop_eq_nil_of_le
abbrev zP0:=@List.take_zero
abbrev zP1:=@Bool.false_or
abbrev zP2:=@List.take_succ_cons
abbrev zP3:=@List.getElem?_cons_zero
abbrev zP4:=@List.prefix_append
abbrev zP5:=@Int.toNat_of_nonneg
abbrev zP6:=@List.countP_cons
abbrev zP7:=@List.pairwise_map
abbrev zP8:=@IntKind.wrap_i64
abbrev zP9:=@Option.toList_some
abbrev zQ0:=@Bool.eq_false_iff
abbrev zQ1:=@List.getElem_cons_drop
abbrev zQ2:=@List.drop_of_length_le
abbrev zQ3:=@List.sublist_append_left
abbrev zQ4:=@List.take_set_of_le
abbrev zQ5:=@List.drop_set_of_lt
abbrev zQ6:=@Int.tmod_lt_of_pos
abbrev zQ7:=@List.mem_or_eq_of_mem_set
abbrev zQ8:=@List.append_inj'
abbrev zQ9:=@List.map_toArray
abbrev zR0:=@List.filter_cons_of_pos
abbrev zR1:=@Nat.div_div_eq_div_mul
abbrev zR2:=@Array.setIfInBounds_comm
abbrev zR3:=@List.set_eq_take_append_cons_drop
abbrev zR4:=@List.drop_eq_getElem_cons
end
end Go.Proofs.YtjnooagaghdkdaaGreatDoor
