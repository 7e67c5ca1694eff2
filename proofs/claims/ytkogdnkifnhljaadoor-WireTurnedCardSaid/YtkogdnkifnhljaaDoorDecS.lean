/- Blocks of cells, and Decode's worlds. -/
import Derived.Test.YtkogdnkifnhljaaDoorDecP
import Derived.RangeFuncBox
import Derived.Deep.Cut
import Derived.Deep.MidRow
import Derived.Laws.ResultCell
namespace Go.Proofs.YtkogdnkifnhljaaDoor
open Go.RowKit Go.ChangeShapes Go.WideShapes Go.ChangeAt
/-- a block of cells -/
def Blk (W : World) (B : Nat) (cs : Array Value) (t : TypeId) : Prop := W.heap[B]? = some (.cells cs t (0, 0))
theorem Blk.lt {W : World} {B : Nat} {cs : Array Value} {t : TypeId} (h : Blk W B cs t) : B < W.heap.size := (Array.getElem?_eq_some_iff.1 h).1
theorem Blk.cell {W : World} {B : Nat} {cs : Array Value} {t : TypeId} (h : Blk W B cs t) (i : Nat) : W.cell? ⟨B, i, none⟩ = cs[i]? := by simp [World.cell?, show W.heap[B]? = _ from h]
theorem Blk.frozen {W : World} {B : Nat} {cs : Array Value} {t : TypeId} (h : Blk W B cs t) (i : Nat) : W.frozen? ⟨B, i, none⟩ = false := by simp [World.frozen?, show W.heap[B]? = _ from h]
theorem Blk.new (W : World) (t : TypeId) (cs : Array Value) : Blk (W.alloc (.cells cs t)) W.heap.size cs t := World.alloc_heap_new W _
theorem Blk.kept {W W' : World} {row : Option Nat} {B : Nat} {cs : Array Value} {t : TypeId} (h : Blk W B cs t) (hg : W.grownBy W' row) (hne : some B ≠ row) : Blk W' B cs t := (hg.block B h.lt hne).trans h
theorem Blk.alloc {W : World} {B : Nat} {cs : Array Value} {t : TypeId} (h : Blk W B cs t) (o : Obj) : Blk (W.alloc o) B cs t := h.kept (World.grownBy_alloc W o none) (by simp)
theorem Blk.below {W W' : World} {B : Nat} {cs : Array Value} {t : TypeId} (h : Blk W B cs t) (hb : Below W.heap.size W W') : Blk W' B cs t := (hb.block B h.lt).trans h
theorem Blk.set {W : World} {B : Nat} {cs : Array Value} {t : TypeId} (h : Blk W B cs t) (i : Nat) (v : Value) : Blk (W.setCell ⟨B, i, none⟩ v) B (cs.setIfInBounds i v) t := by
  obtain ⟨hlt, hk⟩ := Array.getElem?_eq_some_iff.1 h
  show (W.heap.modify B _)[B]? = _
  rw [Array.getElem?_eq_getElem (by rw [Array.size_modify]; exact hlt), Array.getElem_modify_self, hk]
  rfl
theorem Blk.other {W : World} {B B' : Nat} {cs : Array Value} {t : TypeId} (h : Blk W B cs t) (hne : B ≠ B') (i : Nat) (u : Value) : Blk (W.setCell ⟨B', i, none⟩ u) B cs t := h.kept (grownBy_setCell _ _ _ _) (fun e => hne (by cases e; rfl))
theorem cur_new (W : World) (s : ByteArray) (b : Bool) (t : TypeId) : Cur (W.alloc (.cells #[.string s, .bool b] t)) W.heap.size s b :=
  ⟨(Blk.new W t _).cell 0, (Blk.new W t _).cell 1, (Blk.new W t _).frozen 0, (Blk.new W t _).frozen 1⟩
theorem cur_kept {W W' : World} {row : Option Nat} {g : Nat} {s : ByteArray} {b : Bool} (h : Cur W g s b) (hg : W.grownBy W' row) (hne : some g ≠ row) : Cur W' g s b := by
  have hlt : g < W.heap.size := World.block_lt_of_cell? W _ h.1
  have e := hg.block g hlt hne
  exact ⟨(World.cell?_of_block (w := W) (a := ⟨g, 0, none⟩) e).trans h.1, (World.cell?_of_block (w := W) (a := ⟨g, 1, none⟩) e).trans h.2.1, (World.frozen?_of_block (a := ⟨g, 0, none⟩) e).trans h.2.2.1, (World.frozen?_of_block (a := ⟨g, 1, none⟩) e).trans h.2.2.2⟩
/-- Decode's worlds: its result's block, its cursor -/
structure DSt (w W : World) (s : ByteArray) (bad : Bool) : Prop where
  bel : Below w.heap.size w W
  z : Blk W w.heap.size #[.int .i64 0, .int .i64 0, .int .i64 0, .string ⟨#[]⟩, .string ⟨#[]⟩, .int .i64 0, .int .i64 0] 42
  c : Cur W (w.heap.size + 1) s bad
theorem DSt.lt {w W : World} {s : ByteArray} {b : Bool} (h : DSt w W s b) : w.heap.size + 1 < W.heap.size := World.block_lt_of_cell? W _ h.c.1
theorem DSt.step {w W W' : World} {s s' : ByteArray} {b b' : Bool} (h : DSt w W s b) (hc : Cur W' (w.heap.size + 1) s' b') (hg : W.grownBy W' (some (w.heap.size + 1))) : DSt w W' s' b' :=
  ⟨h.bel.grown hg (by have := h.lt; omega) (fun k e => by cases e; omega), h.z.kept hg (by simp), hc⟩
theorem DSt.keep {w W W' : World} {s : ByteArray} {b : Bool} (h : DSt w W s b) (hb : Below W.heap.size W W') : DSt w W' s b :=
  ⟨h.bel.trans (hb.mono (by have := h.lt; omega)), h.z.below hb, cur_below h.c hb⟩
theorem DSt.other {w W W' : World} {g : Nat} {s : ByteArray} {b : Bool} (h : DSt w W s b) (hg : W.grownBy W' (some g)) (hlt : w.heap.size + 1 < g) : DSt w W' s b :=
  ⟨h.bel.grown hg (by have := h.lt; omega) (fun k e => by cases e; omega), h.z.kept hg (by simp; omega), cur_kept h.c hg (by simp; omega)⟩
/-- the worlds behind the body's cursor -/
structure DBt (w W : World) (g : Nat) (s : ByteArray) (bad : Bool) : Prop where
  bel : Below w.heap.size w W
  z : Blk W w.heap.size #[.int .i64 0, .int .i64 0, .int .i64 0, .string ⟨#[]⟩, .string ⟨#[]⟩, .int .i64 0, .int .i64 0] 42
  c : Cur W g s bad
  gt : w.heap.size < g
theorem DBt.lt {w W : World} {g : Nat} {s : ByteArray} {b : Bool} (h : DBt w W g s b) : g < W.heap.size := World.block_lt_of_cell? W _ h.c.1
theorem DBt.step {w W W' : World} {g : Nat} {s s' : ByteArray} {b b' : Bool} (h : DBt w W g s b) (hc : Cur W' g s' b') (hg : W.grownBy W' (some g)) : DBt w W' g s' b' :=
  ⟨h.bel.grown hg (by have := h.lt; have := h.gt; omega) (fun k e => by cases e; have := h.gt; omega), h.z.kept hg (by have := h.gt; simp; omega), hc, h.gt⟩
theorem DBt.keep {w W W' : World} {g : Nat} {s : ByteArray} {b : Bool} (h : DBt w W g s b) (hb : Below W.heap.size W W') : DBt w W' g s b :=
  ⟨h.bel.trans (hb.mono (by have := h.lt; have := h.gt; omega)), h.z.below hb, cur_below h.c hb, h.gt⟩
theorem DBt.other {w W W' : World} {g k : Nat} {s : ByteArray} {b : Bool} (h : DBt w W g s b) (hg : W.grownBy W' (some k)) (hlt : g < k) : DBt w W' g s b :=
  ⟨h.bel.grown hg (by have := h.lt; have := h.gt; omega) (fun j e => by cases e; have := h.gt; omega), h.z.kept hg (by have := h.gt; simp; omega), cur_kept h.c hg (by simp; omega), h.gt⟩
theorem Blk.range {W : World} {B : Nat} {cs : Array Value} {t : TypeId} (h : Blk W B cs t) : W.rangeAt B 0 cs.toList := by
  intro j v hv
  rw [Nat.zero_add, h.cell, ← Array.getElem?_toList, hv]
abbrev set7 (W : World) (B : Nat) (t : Txn) : World := ((((((W.setCell ⟨B, 0, none⟩ (.int .i64 t.zxid)).setCell ⟨B, 1, none⟩ (.int .i64 t.op)).setCell ⟨B, 2, none⟩ (.int .i64 t.session)).setCell ⟨B, 3, none⟩ (.string t.path)).setCell ⟨B, 4, none⟩ (.string t.data)).setCell ⟨B, 5, none⟩ (.int .i64 t.version)).setCell ⟨B, 6, none⟩ (.int .i64 t.owner)
theorem Blk.put {W : World} {B : Nat} {cs : Array Value} {ty : TypeId} (h : Blk W B cs ty) (i : Nat) (v : Value) (cs' : Array Value) (e : cs' = cs.setIfInBounds i v) : Blk (W.setCell ⟨B, i, none⟩ v) B cs' ty := by
  rw [e]; exact h.set i v
theorem blk_set7 {W : World} {B : Nat} {x0 x1 x2 x3 x4 x5 x6 : Value} {ty : TypeId} (h : Blk W B #[x0, x1, x2, x3, x4, x5, x6] ty) (t : Txn) : Blk (set7 W B t) B #[.int .i64 t.zxid, .int .i64 t.op, .int .i64 t.session, .string t.path, .string t.data, .int .i64 t.version, .int .i64 t.owner] ty := by
  unfold set7
  generalize Value.int .i64 t.zxid = v0
  generalize Value.int .i64 t.op = v1
  generalize Value.int .i64 t.session = v2
  generalize Value.string t.path = v3
  generalize Value.string t.data = v4
  generalize Value.int .i64 t.version = v5
  generalize Value.int .i64 t.owner = v6
  have h0 := h.put 0 v0 #[v0, x1, x2, x3, x4, x5, x6] rfl
  have h1 := h0.put 1 v1 #[v0, v1, x2, x3, x4, x5, x6] rfl
  have h2 := h1.put 2 v2 #[v0, v1, v2, x3, x4, x5, x6] rfl
  have h3 := h2.put 3 v3 #[v0, v1, v2, v3, x4, x5, x6] rfl
  have h4 := h3.put 4 v4 #[v0, v1, v2, v3, v4, x5, x6] rfl
  have h5 := h4.put 5 v5 #[v0, v1, v2, v3, v4, v5, x6] rfl
  exact h5.put 6 v6 #[v0, v1, v2, v3, v4, v5, v6] rfl
theorem below_set7 {w W : World} {B : Nat} (h : Below B w W) {C : Nat} (hC : B ≤ C) (t : Txn) : Below B w (set7 W C t) :=
  ((((((h.setCell (p := ⟨C, 0, none⟩) hC _).setCell (p := ⟨C, 1, none⟩) hC _).setCell (p := ⟨C, 2, none⟩) hC _).setCell (p := ⟨C, 3, none⟩) hC _).setCell (p := ⟨C, 4, none⟩) hC _).setCell (p := ⟨C, 5, none⟩) hC _).setCell (p := ⟨C, 6, none⟩) hC _
theorem results_cell_tmp2 {fn : Func} {p u v : Tmp} {ty : TypeId} (h : fn.results = #[.cell p ty, .tmp u, .tmp v]) (tmps : Array Value) (P : Program) (w : World) (a : Addr) (ha : tmps.getD p undef = .pointer (some a)) (x : Value) (hl : (loadVar ty a).run P w = .ok x w) :
    (results fn tmps).run P w = .ok (.tuple #[x, tmps.getD u undef, tmps.getD v undef]) w := by
  simp only [results, h]
  have ha' : tmps[p]?.getD undef = .pointer (some a) := by simpa using ha
  simp [Result.andThen, ha', asAddr, hl]
theorem dec_ret {s : ByteArray} {w W : World} {a : Act} {t : Txn} {n e : Int} (hr : decR s = (t, n, e)) (bel : Below w.heap.size w W) {x0 x1 x2 x3 x4 x5 x6 : Value} (z : Blk W w.heap.size #[x0, x1, x2, x3, x4, x5, x6] 42)
    (hd : a.defers = []) (h2 : a.tmps.getD 2 undef = .pointer (some ⟨w.heap.size, 0, none⟩)) (h3 : a.tmps.getD 3 undef = .int .i64 n) (h4 : a.tmps.getD 4 undef = .int .i64 e) :
    bodyPost Tryd.prog Tryd.f27 (fun e w' => e = .returned (.tuple #[vTxn (decR s).1, .int .i64 (decR s).2.1, .int .i64 (decR s).2.2]) ∧ Below w.heap.size w w') Exit.ret a (set7 W w.heap.size t) := by
  refine bodyPost_ret (results_cell_tmp2 rfl a.tmps Tryd.prog _ _ h2 _ (run_loadVar_mid _ _ _ _ _ _ (Blk.range (blk_set7 z t)) Tryd.underlying42 rfl (by kernel_rfl))) hd ?_
  rw [hr, h3, h4]
  exact ⟨rfl, below_set7 bel (Nat.le_refl _) t⟩
end Go.Proofs.YtkogdnkifnhljaaDoor
