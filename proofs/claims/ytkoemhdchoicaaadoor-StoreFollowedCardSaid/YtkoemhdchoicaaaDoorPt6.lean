/- Lemmas for the statement: DecS, Decode, Writes, AppendW, Last, Scan, Recover, SameLog. -/
import Derived.RangeFuncBox
import Derived.Deep.Cut
import Derived.Deep.MidRow
import Derived.Laws.ResultCell
import Derived.Deep.RegionHeld3
import Derived.Test.YtkoemhdchoicaaaDoorPt1
import Derived.Test.YtkoemhdchoicaaaDoorPt2
import Derived.Test.YtkoemhdchoicaaaDoorPt3
import Derived.Test.YtkoemhdchoicaaaDoorPt4
import Derived.Test.YtkoemhdchoicaaaDoorPt5
/- Blocks of cells, and Decode's worlds. -/
namespace Go.Proofs.YtkoemhdchoicaaaDoor
open Go.RowKit Go.ChangeShapes Go.WideShapes Go.ChangeAt
/-- a block of cells -/
def Blk (W : World) (B : Nat) (cs : Array Value) (t : TypeId) : Prop := W.heap[B]? = some (.cells cs t (0, 0))
theorem Blk.lt {W : World} {B : Nat} {cs : Array Value} {t : TypeId} (h : Blk W B cs t) : B < W.heap.size := (Array.getElem?_eq_some_iff.1 h).1
theorem Blk.cell {W : World} {B : Nat} {cs : Array Value} {t : TypeId} (h : Blk W B cs t) (i : Nat) : W.cell? ⟨B, i, none⟩ = cs[i]? := by simp [World.cell?, show W.heap[B]? = _ from h]
theorem Blk.frozen {W : World} {B : Nat} {cs : Array Value} {t : TypeId} (h : Blk W B cs t) (i : Nat) : W.frozen? ⟨B, i, none⟩ = false := by simp [World.frozen?, show W.heap[B]? = _ from h]
theorem Blk.new (W : World) (t : TypeId) (cs : Array Value) : Blk (W.alloc (.cells cs t)) W.heap.size cs t := World.alloc_heap_new W _
theorem Blk.kept {W W' : World} {row : Option Nat} {B : Nat} {cs : Array Value} {t : TypeId} (h : Blk W B cs t) (hg : W.grownBy W' row) (hne : some B ≠ row) : Blk W' B cs t := (hg.block B h.lt hne).trans h
theorem Blk.alloc {W : World} {B : Nat} {cs : Array Value} {t : TypeId} (h : Blk W B cs t) (o : Obj) : Blk (W.alloc o) B cs t := h.kept (World.grownBy_alloc W o none) (by simp)
theorem Blk.below {W W' : World} {B : Nat} {cs : Array Value} {t : TypeId} (h : Blk W B cs t) (hb : Below W.heap.size W W') : Blk W' B cs t := (hb.block B h.lt).trans h
theorem Blk.set {W : World} {B : Nat} {cs : Array Value} {t : TypeId} (h : Blk W B cs t) (i : Nat) (v : Value) : Blk (W.setCell ⟨B, i, none⟩ v) B (cs.setIfInBounds i v) t := by
  obtain ⟨hlt, hk⟩ := Array.getElem?_eq_some_iff.1 h
  show (W.heap.modify B _)[B]? = _
  rw [Array.getElem?_eq_getElem (by rw [Array.size_modify]; exact hlt), Array.getElem_modify_self, hk]
  rfl
theorem Blk.other {W : World} {B B' : Nat} {cs : Array Value} {t : TypeId} (h : Blk W B cs t) (hne : B ≠ B') (i : Nat) (u : Value) : Blk (W.setCell ⟨B', i, none⟩ u) B cs t := h.kept (grownBy_setCell _ _ _ _) (fun e => hne (by cases e; rfl))
theorem cur_new (W : World) (s : ByteArray) (b : Bool) (t : TypeId) : Cur (W.alloc (.cells #[.string s, .bool b] t)) W.heap.size s b :=
  ⟨(Blk.new W t _).cell 0, (Blk.new W t _).cell 1, (Blk.new W t _).frozen 0, (Blk.new W t _).frozen 1⟩
theorem cur_kept {W W' : World} {row : Option Nat} {g : Nat} {s : ByteArray} {b : Bool} (h : Cur W g s b) (hg : W.grownBy W' row) (hne : some g ≠ row) : Cur W' g s b := by
  have hlt : g < W.heap.size := World.block_lt_of_cell? W _ h.1
  have e := hg.block g hlt hne
  exact ⟨(World.cell?_of_block (w := W) (a := ⟨g, 0, none⟩) e).trans h.1, (World.cell?_of_block (w := W) (a := ⟨g, 1, none⟩) e).trans h.2.1, (World.frozen?_of_block (a := ⟨g, 0, none⟩) e).trans h.2.2.1, (World.frozen?_of_block (a := ⟨g, 1, none⟩) e).trans h.2.2.2⟩
/-- Decode's worlds: its result's block, its cursor -/
structure DSt (w W : World) (s : ByteArray) (bad : Bool) : Prop where
  bel : Below w.heap.size w W
  z : Blk W w.heap.size #[.int .i64 0, .int .i64 0, .int .i64 0, .string ⟨#[]⟩, .string ⟨#[]⟩, .int .i64 0, .int .i64 0] 47
  c : Cur W (w.heap.size + 1) s bad
theorem DSt.lt {w W : World} {s : ByteArray} {b : Bool} (h : DSt w W s b) : w.heap.size + 1 < W.heap.size := World.block_lt_of_cell? W _ h.c.1
theorem DSt.step {w W W' : World} {s s' : ByteArray} {b b' : Bool} (h : DSt w W s b) (hc : Cur W' (w.heap.size + 1) s' b') (hg : W.grownBy W' (some (w.heap.size + 1))) : DSt w W' s' b' :=
  ⟨h.bel.grown hg (by have := h.lt; omega) (fun k e => by cases e; omega), h.z.kept hg (by simp), hc⟩
theorem DSt.keep {w W W' : World} {s : ByteArray} {b : Bool} (h : DSt w W s b) (hb : Below W.heap.size W W') : DSt w W' s b :=
  ⟨h.bel.trans (hb.mono (by have := h.lt; omega)), h.z.below hb, cur_below h.c hb⟩
theorem DSt.other {w W W' : World} {g : Nat} {s : ByteArray} {b : Bool} (h : DSt w W s b) (hg : W.grownBy W' (some g)) (hlt : w.heap.size + 1 < g) : DSt w W' s b :=
  ⟨h.bel.grown hg (by have := h.lt; omega) (fun k e => by cases e; omega), h.z.kept hg (by simp; omega), cur_kept h.c hg (by simp; omega)⟩
/-- the worlds behind the body's cursor -/
structure DBt (w W : World) (g : Nat) (s : ByteArray) (bad : Bool) : Prop where
  bel : Below w.heap.size w W
  z : Blk W w.heap.size #[.int .i64 0, .int .i64 0, .int .i64 0, .string ⟨#[]⟩, .string ⟨#[]⟩, .int .i64 0, .int .i64 0] 47
  c : Cur W g s bad
  gt : w.heap.size < g
theorem DBt.lt {w W : World} {g : Nat} {s : ByteArray} {b : Bool} (h : DBt w W g s b) : g < W.heap.size := World.block_lt_of_cell? W _ h.c.1
theorem DBt.step {w W W' : World} {g : Nat} {s s' : ByteArray} {b b' : Bool} (h : DBt w W g s b) (hc : Cur W' g s' b') (hg : W.grownBy W' (some g)) : DBt w W' g s' b' :=
  ⟨h.bel.grown hg (by have := h.lt; have := h.gt; omega) (fun k e => by cases e; have := h.gt; omega), h.z.kept hg (by have := h.gt; simp; omega), hc, h.gt⟩
theorem DBt.keep {w W W' : World} {g : Nat} {s : ByteArray} {b : Bool} (h : DBt w W g s b) (hb : Below W.heap.size W W') : DBt w W' g s b :=
  ⟨h.bel.trans (hb.mono (by have := h.lt; have := h.gt; omega)), h.z.below hb, cur_below h.c hb, h.gt⟩
theorem DBt.other {w W W' : World} {g k : Nat} {s : ByteArray} {b : Bool} (h : DBt w W g s b) (hg : W.grownBy W' (some k)) (hlt : g < k) : DBt w W' g s b :=
  ⟨h.bel.grown hg (by have := h.lt; have := h.gt; omega) (fun j e => by cases e; have := h.gt; omega), h.z.kept hg (by have := h.gt; simp; omega), cur_kept h.c hg (by simp; omega), h.gt⟩
theorem Blk.range {W : World} {B : Nat} {cs : Array Value} {t : TypeId} (h : Blk W B cs t) : W.rangeAt B 0 cs.toList := by
  intro j v hv
  rw [Nat.zero_add, h.cell, ← Array.getElem?_toList, hv]
abbrev set7 (W : World) (B : Nat) (t : Txn) : World := ((((((W.setCell ⟨B, 0, none⟩ (.int .i64 t.zxid)).setCell ⟨B, 1, none⟩ (.int .i64 t.op)).setCell ⟨B, 2, none⟩ (.int .i64 t.session)).setCell ⟨B, 3, none⟩ (.string t.path)).setCell ⟨B, 4, none⟩ (.string t.data)).setCell ⟨B, 5, none⟩ (.int .i64 t.version)).setCell ⟨B, 6, none⟩ (.int .i64 t.owner)
theorem Blk.put {W : World} {B : Nat} {cs : Array Value} {ty : TypeId} (h : Blk W B cs ty) (i : Nat) (v : Value) (cs' : Array Value) (e : cs' = cs.setIfInBounds i v) : Blk (W.setCell ⟨B, i, none⟩ v) B cs' ty := by
  rw [e]; exact h.set i v
theorem blk_set7 {W : World} {B : Nat} {x0 x1 x2 x3 x4 x5 x6 : Value} {ty : TypeId} (h : Blk W B #[x0, x1, x2, x3, x4, x5, x6] ty) (t : Txn) : Blk (set7 W B t) B #[.int .i64 t.zxid, .int .i64 t.op, .int .i64 t.session, .string t.path, .string t.data, .int .i64 t.version, .int .i64 t.owner] ty := by
  unfold set7
  generalize Value.int .i64 t.zxid = v0
  generalize Value.int .i64 t.op = v1
  generalize Value.int .i64 t.session = v2
  generalize Value.string t.path = v3
  generalize Value.string t.data = v4
  generalize Value.int .i64 t.version = v5
  generalize Value.int .i64 t.owner = v6
  have h0 := h.put 0 v0 #[v0, x1, x2, x3, x4, x5, x6] rfl
  have h1 := h0.put 1 v1 #[v0, v1, x2, x3, x4, x5, x6] rfl
  have h2 := h1.put 2 v2 #[v0, v1, v2, x3, x4, x5, x6] rfl
  have h3 := h2.put 3 v3 #[v0, v1, v2, v3, x4, x5, x6] rfl
  have h4 := h3.put 4 v4 #[v0, v1, v2, v3, v4, x5, x6] rfl
  have h5 := h4.put 5 v5 #[v0, v1, v2, v3, v4, v5, x6] rfl
  exact h5.put 6 v6 #[v0, v1, v2, v3, v4, v5, v6] rfl
theorem below_set7 {w W : World} {B : Nat} (h : Below B w W) {C : Nat} (hC : B ≤ C) (t : Txn) : Below B w (set7 W C t) :=
  ((((((h.setCell (p := ⟨C, 0, none⟩) hC _).setCell (p := ⟨C, 1, none⟩) hC _).setCell (p := ⟨C, 2, none⟩) hC _).setCell (p := ⟨C, 3, none⟩) hC _).setCell (p := ⟨C, 4, none⟩) hC _).setCell (p := ⟨C, 5, none⟩) hC _).setCell (p := ⟨C, 6, none⟩) hC _
theorem results_cell_tmp2 {fn : Func} {p u v : Tmp} {ty : TypeId} (h : fn.results = #[.cell p ty, .tmp u, .tmp v]) (tmps : Array Value) (P : Program) (w : World) (a : Addr) (ha : tmps.getD p undef = .pointer (some a)) (x : Value) (hl : (loadVar ty a).run P w = .ok x w) :
    (results fn tmps).run P w = .ok (.tuple #[x, tmps.getD u undef, tmps.getD v undef]) w := by
  simp only [results, h]
  have ha' : tmps[p]?.getD undef = .pointer (some a) := by simpa using ha
  simp [Result.andThen, ha', asAddr, hl]
theorem dec_ret {s : ByteArray} {w W : World} {a : Act} {t : Txn} {n e : Int} (hr : decR s = (t, n, e)) (bel : Below w.heap.size w W) {x0 x1 x2 x3 x4 x5 x6 : Value} (z : Blk W w.heap.size #[x0, x1, x2, x3, x4, x5, x6] 47)
    (hd : a.defers = []) (h2 : a.tmps.getD 2 undef = .pointer (some ⟨w.heap.size, 0, none⟩)) (h3 : a.tmps.getD 3 undef = .int .i64 n) (h4 : a.tmps.getD 4 undef = .int .i64 e) :
    bodyPost Tryd.prog Tryd.f48 (fun e w' => e = .returned (.tuple #[vTxn (decR s).1, .int .i64 (decR s).2.1, .int .i64 (decR s).2.2]) ∧ Below w.heap.size w w') Exit.ret a (set7 W w.heap.size t) := by
  refine bodyPost_ret (results_cell_tmp2 rfl a.tmps Tryd.prog _ _ h2 _ (run_loadVar_mid _ _ _ _ _ _ (Blk.range (blk_set7 z t)) Tryd.underlying47 rfl (by kernel_rfl))) hd ?_
  rw [hr, h3, h4]
  exact ⟨rfl, below_set7 bel (Nat.le_refl _) t⟩
end Go.Proofs.YtkoemhdchoicaaaDoor

/- wire.Decode: the walk. -/
namespace Go.Proofs.YtkoemhdchoicaaaDoor
open Go.RowKit Go.ChangeShapes Go.WideShapes Go.ChangeAt
set_option maxHeartbeats 1000000 in
theorem decode_any (s : ByteArray) (w : World) (hs : s.size ≤ 281474976710656) :
    Calls Tryd.prog 48 #[.string s] w fun e w' => e = .returned (.tuple #[vTxn (decR s).1, .int .i64 (decR s).2.1, .int .i64 (decR s).2.2]) ∧ Below w.heap.size w w' := by
  have HSUM := Lib.hid (fun (s : ByteArray) (w : World) (h : s.size ≤ 9223372036854775807) => show Calls Tryd.prog 25 #[.string s] w fun e w' => ∃ n : Nat, e = .returned (.int .i64 n) ∧ n < 4294967296 ∧ Hid (sumN (bs s) = n) ∧ w = w' from (sum_any s w h).mono fun e w' h => ⟨_, h.1, sumN_lt _, Lib.hid rfl, h.2⟩)
  have D0 := Lib.hid (show DSt w ((w.alloc (.cells #[.int .i64 0, .int .i64 0, .int .i64 0, .string ⟨#[]⟩, .string ⟨#[]⟩, .int .i64 0, .int .i64 0] 47)).alloc (.cells #[.string s, .bool false] 114)) s false from ⟨(by repeat (first | exact Below.refl _ _ | assumption | refine Below.drew ?_ | refine Below.drewN' ?_ _ | refine below_grow0 _ _ ?_ | refine below_alloc0 _ ?_ | refine Below.alloc ?_ (by first | omega | (simp; done) | (simp; omega)) _ | refine Below.setCell ?_ (by first | omega | (simp; done) | (simp; omega)) _ | refine Below.grow _ _ _ ?_ (by first | omega | (simp; done) | (simp; omega)))), (Blk.new w _ _).alloc _, (by have h := cur_new (w.alloc (.cells #[.int .i64 0, .int .i64 0, .int .i64 0, .string ⟨#[]⟩, .string ⟨#[]⟩, .int .i64 0, .int .i64 0] 47)) s false 114; simpa using h)⟩)
  go_enter Tryd.func48, Tryd.ntmps48
  go_upto_region 2 with (fail)
  generalize ((w.alloc (.cells #[.int .i64 0, .int .i64 0, .int .i64 0, .string ⟨#[]⟩, .string ⟨#[]⟩, .int .i64 0, .int .i64 0] 47)).alloc (.cells #[.string s, .bool false] 114)) = W0 at *
  go_upto_region 5 with (first | (go_at_call 63; (refine (text_any _ s false 1 _ D0.out.c (by decide) (by omega)).mono ?_); rintro e W1 ⟨rfl, hc, hg⟩; have D1 := Lib.hid (D0.out.step hc hg); clear hc hg D0; have HR1 := Lib.hid (show decR s = dec1 s (takeT s false 1) (restT s false 1) (badT s false 1) from rfl); have hs1 := restT_size s false 1; generalize ht1 : takeT s false 1 = t1 at *; generalize hs1e : restT s false 1 = s1 at *; generalize hb1e : badT s false 1 = b1 at *; have z0 := D1.out.z.cell 0; have z1 := D1.out.z.cell 1; have z2 := D1.out.z.cell 2; have z3 := D1.out.z.cell 3; have z4 := D1.out.z.cell 4; have z5 := D1.out.z.cell 5; have z6 := D1.out.z.cell 6; have zf := D1.out.z.frozen) | (go_at_call 64; (refine (number_any _ s1 b1 2 _ D1.out.c (by decide) (by omega)).mono ?_); rintro e W2 ⟨rfl, hc, hg⟩; have D2 := Lib.hid (D1.out.step hc hg); clear hc hg D1; clear z0 z1 z2 z3 z4 z5 z6 zf; obtain ⟨n, hn, hnl⟩ := valT s1 b1 2 (by decide); have HR2 := Lib.hid (HR1.out.trans (dec1_ok ‹(!t1.toList == [84]) = false› hn)); clear HR1; generalize valI (bs (takeT s1 b1 2)) = x at *; subst hn; have hs2 := restT_size s1 b1 2; generalize hs2e : restT s1 b1 2 = s2 at *; generalize hb2e : badT s1 b1 2 = b2 at *; have zb := D2.out.c.2.1; have z0 := D2.out.z.cell 0; have z1 := D2.out.z.cell 1; have z2 := D2.out.z.cell 2; have z3 := D2.out.z.cell 3; have z4 := D2.out.z.cell 4; have z5 := D2.out.z.cell 5; have z6 := D2.out.z.cell 6; have zf := D2.out.z.frozen))
  all_goals try (exact dec_ret (t := txn0) (n := 0) (e := 2) (HR1.out.trans (dec1_bad ‹(!t1.toList == [84]) = true›)) D1.out.bel D1.out.z rfl rfl rfl rfl)
  go_upto_region 7 with (fail)
  all_goals try (exact dec_ret (t := txn0) (n := 0) (e := 2) (HR2.out.trans (dec2_bad ‹b2 = true›)) D2.out.bel D2.out.z rfl rfl rfl rfl)
  all_goals try (exact dec_ret (t := txn0) (n := 0) (e := 2) (HR2.out.trans (dec2_big ‹1024 < (n : Int)›)) D2.out.bel D2.out.z rfl rfl rfl rfl)
  go_upto_region 8 with (first | (go_at_call 63; (refine (text_any _ s2 b2 n _ D2.out.c (by omega) (by omega)).mono ?_); rintro e W3 ⟨rfl, hc, hg⟩; have D3 := Lib.hid (D2.out.step hc hg); clear hc hg D2 zb; clear z0 z1 z2 z3 z4 z5 z6 zf; have HR3 := Lib.hid (HR2.out.trans (dec2_ok ‹¬ b2 = true› ‹(n : Int) ≤ 1024›)); clear HR2; have ht3 := takeT_size s2 b2 n; have hs3 := restT_size s2 b2 n; generalize ht3 : takeT s2 b2 n = t3 at *; generalize hs3e : restT s2 b2 n = s3 at *; generalize hb3e : badT s2 b2 n = b3 at *))
  go_upto_region 11 with (first | (go_at_call 64; have HC3 := Lib.hid (cur_new W3 t3 false 114); have D3b := Lib.hid (D3.out.keep (show Below W3.heap.size W3 (World.alloc W3 (.cells #[.string t3, .bool false] 114)) from (by repeat (first | exact Below.refl _ _ | assumption | refine Below.drew ?_ | refine Below.drewN' ?_ _ | refine below_grow0 _ _ ?_ | refine below_alloc0 _ ?_ | refine Below.alloc ?_ (by first | omega | (simp; done) | (simp; omega)) _ | refine Below.setCell ?_ (by first | omega | (simp; done) | (simp; omega)) _ | refine Below.grow _ _ _ ?_ (by first | omega | (simp; done) | (simp; omega)))))); have hgt := D3.out.lt; (refine (number_any _ s3 b3 4 _ D3b.out.c (by decide) (by omega)).mono ?_); rintro e W4 ⟨rfl, hc, hg⟩; have D4 := Lib.hid (D3b.out.step hc hg); have HC4 := Lib.hid (cur_kept HC3.out hg (by simp; omega)); clear hc hg D3 D3b HC3; generalize W3.heap.size = g at *; obtain ⟨m, hm, hml⟩ := valT s3 b3 4 (by decide); have HR4 := Lib.hid (show decR s = dec4 s n t3 m (badT s3 b3 4) from HR3.out.trans (by unfold dec3; rw [hm])); clear HR3; generalize valI (bs (takeT s3 b3 4)) = x at *; subst hm; have hs4 := restT_size s3 b3 4; generalize hs4e : restT s3 b3 4 = s4 at *; generalize hb4e : badT s3 b3 4 = b4 at *; have zb := D4.out.c.2.1; have z0 := D4.out.z.cell 0; have z1 := D4.out.z.cell 1; have z2 := D4.out.z.cell 2; have z3 := D4.out.z.cell 3; have z4 := D4.out.z.cell 4; have z5 := D4.out.z.cell 5; have z6 := D4.out.z.cell 6; have zf := D4.out.z.frozen))
  all_goals try (exact dec_ret (t := txn0) (n := 0) (e := 2) (HR4.out.trans (dec4_bad ‹b4 = true›)) D4.out.bel D4.out.z rfl rfl rfl rfl)
  have hsz : n + 7 ≤ s.size := by
    have k4 := tk_ok (hb4e.trans ‹b4 = false›)
    have k3 := tk_ok (hb3e.trans k4.1)
    have k2 := tk_ok (hb2e.trans k3.1)
    have k1 := tk_ok (hb1e.trans k2.1)
    have l1 := length_bs s1
    rw [← hs1e, k1.2.2.1, List.length_drop, length_bs] at l1
    have l2 := length_bs s2
    rw [← hs2e, k2.2.2.1, List.length_drop, length_bs] at l2
    have l3 := length_bs s3
    rw [← hs3e, k3.2.2.1, List.length_drop, length_bs] at l3
    rw [hs1e] at l1
    rw [hs2e] at l2
    rw [hs3e] at l3
    omega
  go_upto_region 13 with ((go_at_call 25; (refine (HSUM.out _ _ (by rw [ByteArray.size_extract]; omega)).mono ?_); rintro e w13 ⟨sm, rfl, hsm, HSM, rfl⟩))
  all_goals try (exact dec_ret (t := txn0) (n := 0) (e := 5) (HR4.out.trans (dec4_sum ‹b4 = false› (by rw [HSM.out]; exact ‹((sm : Int) != (m : Int)) = true›))) D4.out.bel D4.out.z rfl rfl rfl rfl)
  have HQ0 := Lib.hid (HR4.out.trans (dec4_ok ‹b4 = false› (by rw [HSM.out]; exact ‹((sm : Int) != (m : Int)) = false›)))
  have E0 := Lib.hid (show DBt w W4 g t3 false from ⟨D4.out.bel, D4.out.z, HC4.out, by omega⟩)
  have hu0 : t3.size ≤ s.size := by omega
  clear HR4 D4 HC4 HSM hsz hs1 hs2 hs3 hs4 ht3 z0 z1 z2 z3 z4 z5 z6 zf zb hs1e hs2e hs3e hs4e hb1e hb2e hb3e hb4e HSUM
  clear ht1 ht3
  go_upto_region 14 with (first | (go_at_call 64; (refine (number_any _ t3 false 8 _ E0.out.c (by decide) (by omega)).mono ?_); rintro e X1 ⟨rfl, hc, hg⟩; have E1 := Lib.hid (E0.out.step hc hg); clear hc hg E0; have hu1 := restT_size t3 false 8; have HQ1 := Lib.hid (show decR s = dB2 n (valI (bs (takeT t3 false 8))) (restT t3 false 8) (badT t3 false 8) from HQ0.out); clear HQ0; generalize valI (bs (takeT t3 false 8)) = z at *; generalize restT t3 false 8 = u1 at *; generalize badT t3 false 8 = c1 at *) | (go_at_call 64; (refine (number_any _ u1 c1 1 _ E1.out.c (by decide) (by omega)).mono ?_); rintro e X2 ⟨rfl, hc, hg⟩; have E2 := Lib.hid (E1.out.step hc hg); clear hc hg E1; have hu2 := restT_size u1 c1 1; have HQ2 := Lib.hid (show decR s = dB3 n z (valI (bs (takeT u1 c1 1))) (restT u1 c1 1) (badT u1 c1 1) from HQ1.out); clear HQ1; generalize valI (bs (takeT u1 c1 1)) = o at *; generalize restT u1 c1 1 = u2 at *; generalize badT u1 c1 1 = c2 at *) | (go_at_call 64; (refine (number_any _ u2 c2 4 _ E2.out.c (by decide) (by omega)).mono ?_); rintro e X3 ⟨rfl, hc, hg⟩; have E3 := Lib.hid (E2.out.step hc hg); clear hc hg E2; have hu3 := restT_size u2 c2 4; have HQ3 := Lib.hid (show decR s = dB4 n z o (valI (bs (takeT u2 c2 4))) (restT u2 c2 4) (badT u2 c2 4) from HQ2.out); clear HQ2; generalize valI (bs (takeT u2 c2 4)) = ss at *; generalize restT u2 c2 4 = u3 at *; generalize badT u2 c2 4 = c3 at *) | (go_at_call 64; (refine (number_any _ u3 c3 4 _ E3.out.c (by decide) (by omega)).mono ?_); rintro e X4 ⟨rfl, hc, hg⟩; have E4 := Lib.hid (E3.out.step hc hg); clear hc hg E3; have hu4 := restT_size u3 c3 4; have HQ4 := Lib.hid (show decR s = dB5 n z o ss (valI (bs (takeT u3 c3 4))) (restT u3 c3 4) (badT u3 c3 4) from HQ3.out); clear HQ3; generalize valI (bs (takeT u3 c3 4)) = v at *; generalize restT u3 c3 4 = u4 at *; generalize badT u3 c3 4 = c4 at *) | (go_at_call 64; (refine (number_any _ u4 c4 4 _ E4.out.c (by decide) (by omega)).mono ?_); rintro e X5 ⟨rfl, hc, hg⟩; have E5 := Lib.hid (E4.out.step hc hg); clear hc hg E4; have hu5 := restT_size u4 c4 4; have HQ5 := Lib.hid (show decR s = dB6 n z o ss v (valI (bs (takeT u4 c4 4))) (restT u4 c4 4) (badT u4 c4 4) from HQ4.out); clear HQ4; generalize valI (bs (takeT u4 c4 4)) = ow at *; generalize restT u4 c4 4 = u5 at *; generalize badT u4 c4 4 = c5 at *))
  have E6 := Lib.hid (E5.out.keep (show Below X5.heap.size X5 (World.alloc X5 (.cells #[.int .i64 z, .int .i64 o, .int .i64 ss, .string ⟨#[]⟩, .string ⟨#[]⟩, .int .i64 v, .int .i64 ow] 47)) from (by repeat (first | exact Below.refl _ _ | assumption | refine Below.drew ?_ | refine Below.drewN' ?_ _ | refine below_grow0 _ _ ?_ | refine below_alloc0 _ ?_ | refine Below.alloc ?_ (by first | omega | (simp; done) | (simp; omega)) _ | refine Below.setCell ?_ (by first | omega | (simp; done) | (simp; omega)) _ | refine Below.grow _ _ _ ?_ (by first | omega | (simp; done) | (simp; omega))))))
  have F6 := Lib.hid (show Blk (World.alloc X5 (.cells #[.int .i64 z, .int .i64 o, .int .i64 ss, .string ⟨#[]⟩, .string ⟨#[]⟩, .int .i64 v, .int .i64 ow] 47)) X5.heap.size #[.int .i64 z, .int .i64 o, .int .i64 ss, .string ⟨#[]⟩, .string ⟨#[]⟩, .int .i64 v, .int .i64 ow] 47 from Blk.new _ _ _)
  have hgT := E5.out.lt
  clear E5
  generalize (World.alloc X5 (.cells #[.int .i64 z, .int .i64 o, .int .i64 ss, .string ⟨#[]⟩, .string ⟨#[]⟩, .int .i64 v, .int .i64 ow] 47)) = X6 at *
  generalize X5.heap.size = gT at *
  go_upto_region 15 with (first | (go_at_call 64; (refine (number_any _ u5 c5 1 _ E6.out.c (by decide) (by omega)).mono ?_); rintro e X7 ⟨rfl, hc, hg⟩; have E7 := Lib.hid (E6.out.step hc hg); have F7 := Lib.hid (F6.out.kept hg (by simp; omega)); clear hc hg E6 F6; have hu7 := restT_size u5 c5 1; obtain ⟨pl, hn, hlpl⟩ := valT u5 c5 1 (by decide); have HQ7 := Lib.hid (show decR s = dB7 n z o ss v ow pl (restT u5 c5 1) (badT u5 c5 1) from HQ5.out.trans (by unfold dB6; rw [hn]; rfl)); clear HQ5; generalize valI (bs (takeT u5 c5 1)) = x at *; subst hn; generalize restT u5 c5 1 = u7 at *; generalize badT u5 c5 1 = c7 at *) | (go_at_call 63; (refine (text_any _ u7 c7 pl _ E7.out.c (by omega) (by omega)).mono ?_); rintro e X8 ⟨rfl, hc, hg⟩; have E8 := Lib.hid (E7.out.step hc hg); have F8 := Lib.hid (F7.out.kept hg (by simp; omega)); clear hc hg E7 F7; have hu8 := restT_size u7 c7 pl; have ht8 := takeT_size u7 c7 pl; have HQ8 := Lib.hid (show decR s = dB8 n z o ss v ow (takeT u7 c7 pl) (restT u7 c7 pl) (badT u7 c7 pl) from HQ7.out); clear HQ7; generalize takeT u7 c7 pl = p at *; generalize restT u7 c7 pl = u8 at *; generalize badT u7 c7 pl = c8 at *; have y3 := F8.out.cell 3; have yf := F8.out.frozen))
  have E9 := Lib.hid (E8.out.other (grownBy_setCell X8 gT 3 (.string p)) hgT)
  have F9 := Lib.hid (F8.out.put 3 (.string p) #[.int .i64 z, .int .i64 o, .int .i64 ss, .string p, .string ⟨#[]⟩, .int .i64 v, .int .i64 ow] rfl)
  clear E8 F8 y3 yf
  generalize (World.setCell X8 ⟨gT, 3, none⟩ (.string p)) = X9 at *
  go_upto_region 16 with (first | (go_at_call 64; (refine (number_any _ u8 c8 2 _ E9.out.c (by decide) (by omega)).mono ?_); rintro e X10 ⟨rfl, hc, hg⟩; have E10 := Lib.hid (E9.out.step hc hg); have F10 := Lib.hid (F9.out.kept hg (by simp; omega)); clear hc hg E9 F9; have hu10 := restT_size u8 c8 2; obtain ⟨dl, hn, hldl⟩ := valT u8 c8 2 (by decide); have HQ10 := Lib.hid (show decR s = dB9 n z o ss v ow p dl (restT u8 c8 2) (badT u8 c8 2) from HQ8.out.trans (by unfold dB8; rw [hn]; rfl)); clear HQ8; generalize valI (bs (takeT u8 c8 2)) = x at *; subst hn; generalize restT u8 c8 2 = u10 at *; generalize badT u8 c8 2 = c10 at *) | (go_at_call 63; (refine (text_any _ u10 c10 dl _ E10.out.c (by omega) (by omega)).mono ?_); rintro e X11 ⟨rfl, hc, hg⟩; have E11 := Lib.hid (E10.out.step hc hg); have F11 := Lib.hid (F10.out.kept hg (by simp; omega)); clear hc hg E10 F10; have hu11 := restT_size u10 c10 dl; have ht11 := takeT_size u10 c10 dl; have HQ11 := Lib.hid (show decR s = dB10 n z o ss v ow p (takeT u10 c10 dl) (restT u10 c10 dl) (badT u10 c10 dl) from HQ10.out); clear HQ10; generalize takeT u10 c10 dl = d at *; generalize restT u10 c10 dl = u11 at *; generalize badT u10 c10 dl = c11 at *; have y4 := F11.out.cell 4; have yf := F11.out.frozen))
  have E12 := Lib.hid (E11.out.other (grownBy_setCell X11 gT 4 (.string d)) hgT)
  have F12 := Lib.hid (F11.out.put 4 (.string d) #[.int .i64 z, .int .i64 o, .int .i64 ss, .string p, .string d, .int .i64 v, .int .i64 ow] rfl)
  clear E11 F11 y4 yf
  generalize (World.setCell X11 ⟨gT, 4, none⟩ (.string d)) = X12 at *
  have zb := E12.out.c.2.1
  have za := E12.out.c.1
  have z0 := E12.out.z.cell 0
  have z1 := E12.out.z.cell 1
  have z2 := E12.out.z.cell 2
  have z3 := E12.out.z.cell 3
  have z4 := E12.out.z.cell 4
  have z5 := E12.out.z.cell 5
  have z6 := E12.out.z.cell 6
  have zf := E12.out.z.frozen
  go_upto_region 18 with (fail)
  all_goals try (exact dec_ret (t := txn0) (n := 0) (e := 2) (HQ11.out.trans (dB10_bad ‹c11 = true›)) E12.out.bel E12.out.z rfl rfl rfl rfl)
  all_goals try (exact dec_ret (t := txn0) (n := 0) (e := 2) (HQ11.out.trans (dB10_more ‹(!u11.toList.isEmpty) = true›)) E12.out.bel E12.out.z rfl rfl rfl rfl)
  have y0 := F12.out.cell 0
  have y1 := F12.out.cell 1
  have y2 := F12.out.cell 2
  have y3 := F12.out.cell 3
  have y4 := F12.out.cell 4
  have y5 := F12.out.cell 5
  have y6 := F12.out.cell 6
  have yf := F12.out.frozen
  have HG := Lib.hid (fun w => tgood_any ⟨z, o, ss, p, d, v, ow⟩ w (by show p.size ≤ _; omega))
  go_wp2_with (first | (go_at_call 23; (refine (HG.out _).mono ?_); rintro e X13 ⟨rfl, hb⟩; have E13 := Lib.hid (E12.out.keep hb); have F13 := Lib.hid (F12.out.below hb); clear hb E12 F12 HG z0 z1 z2 z3 z4 z5 z6 zf y0 y1 y2 y3 y4 y5 y6 yf za zb; have z0 := E13.out.z.cell 0; have z1 := E13.out.z.cell 1; have z2 := E13.out.z.cell 2; have z3 := E13.out.z.cell 3; have z4 := E13.out.z.cell 4; have z5 := E13.out.z.cell 5; have z6 := E13.out.z.cell 6; have zf := E13.out.z.frozen; have y0 := F13.out.cell 0; have y1 := F13.out.cell 1; have y2 := F13.out.cell 2; have y3 := F13.out.cell 3; have y4 := F13.out.cell 4; have y5 := F13.out.cell 5; have y6 := F13.out.cell 6; have yf := F13.out.frozen; generalize hgt0 : goodT ⟨z, o, ss, p, d, v, ow⟩ = gd at *))
  all_goals try (have hq := ‹(gd != 0) = true›; exact dec_ret (t := txn0) (n := 0) (e := gd) (by rw [← hgt0]; exact HQ11.out.trans (dB10_not ‹¬ c11 = true› ‹(!u11.toList.isEmpty) = false› (by rw [hgt0]; exact ‹(gd != 0) = true›))) E13.out.bel E13.out.z rfl rfl rfl rfl)
  all_goals try (have hq := ‹(gd != 0) = false›; exact dec_ret (t := ⟨z, o, ss, p, d, v, ow⟩) (n := (n : Int) + 7) (e := 0) (HQ11.out.trans (dB10_ok ‹¬ c11 = true› ‹(!u11.toList.isEmpty) = false› (by rw [hgt0]; exact ‹(gd != 0) = false›))) E13.out.bel E13.out.z rfl rfl rfl rfl)
end Go.Proofs.YtkoemhdchoicaaaDoor

/- The wire laws' small helpers: opening, writes, pick, turned. -/
namespace Go.Proofs.YtkoemhdchoicaaaDoor
open Go.RowKit Go.ChangeShapes Go.WideShapes Go.ChangeAt
theorem retIw {k : Nat} {i : Int} (h : i = (k : Int)) : Ending.returned (.int .i64 i) = .returned (.int .i64 k) := by rw [h]
set_option maxHeartbeats 1000000 in
theorem pickw_is (k : Int) (n : Nat) (w : World) (h0 : 0 < n) (h1 : n ≤ 140737488355328) :
    Calls Tryd.prog 10 #[.int .i64 k, .int .i64 n] w fun e w' => ∃ f : Nat, f < n ∧ e = .returned (.int .i64 f) ∧ w = w' := by
  have ht1 : -(n : Int) < k.tmod n := by
    have := Int.tmod_lt_of_pos (-k) (show (0 : Int) < n by omega)
    rw [Int.neg_tmod] at this
    omega
  have ht2 : k.tmod n < (n : Int) := Int.tmod_lt_of_pos _ (by omega)
  generalize hq : k.tmod n = q at *
  by_cases hn : q < 0
  · go_enter Tryd.func10, Tryd.ntmps10
    go_wp2
    go_ret
    exact ⟨(q + n).toNat, by omega, retIw (by omega), rfl⟩
  · go_enter Tryd.func10, Tryd.ntmps10
    go_wp2
    go_ret
    exact ⟨q.toNat, by omega, retIw (by omega), rfl⟩
theorem results_cell1 {fn : Func} {p : Tmp} {ty : TypeId} (h : fn.results = #[.cell p ty]) (tmps : Array Value) (P : Program) (w : World) (a : Addr) (ha : tmps.getD p undef = .pointer (some a)) (x : Value) (hl : (loadVar ty a).run P w = .ok x w) :
    (results fn tmps).run P w = .ok x w := by
  simp only [results, h]
  have ha' : tmps[p]?.getD undef = .pointer (some a) := by simpa using ha
  simp [ha', asAddr, hl]
abbrev open0 : Txn := ⟨1, 1, 1, ⟨#[]⟩, ⟨#[]⟩, 0, 0⟩
theorem good_open : goodT open0 = 0 := by
  unfold goodT
  rw [ByteArray.toList_eq]
  decide
theorem enc_open : encR open0 = bS (recT open0) := if_pos good_open
theorem recT_open : (recT open0).length = 31 := by rw [recT_length]; rfl
theorem conv_one (W : World) (x n : Nat) (hx : x < 256) (hn : n = W.heap.size) :
    (convert 63 9 (.slice (some ⟨n, 0, none⟩) 1 1)).run Tryd.prog (W.alloc (.cells #[.int .u8 (x : Int)] 5)).drew = .ok (.string ⟨#[UInt8.ofNat x]⟩) (W.alloc (.cells #[.int .u8 (x : Int)] 5)).drew := by
  subst hn
  refine run_convert_bytes_back _ _ _ _ ⟨W.heap.size, 0, none⟩ 1 [UInt8.ofNat x] Tryd.underlying63 Tryd.underlying5 Tryd.underlying9 (fun j hj => ?_)
  have h0 : j = 0 := by simp at hj; omega
  subst h0
  have hm : x % 256 = x := Nat.mod_eq_of_lt hx
  have e : ([UInt8.ofNat x][0]'hj).toNat = x := by simp [hm]
  rw [e]
  exact (Blk.new W 5 #[.int .u8 (x : Int)]).cell 0
theorem bits_xor8 (a b : Nat) (ha : a < 256) (hb : b < 256) : bits .xor .u8 (a : Int) (b : Int) = ((a ^^^ b : Nat) : Int) := by
  show IntKind.u8.wrap ((BitVec.ofInt 8 (a : Int) ^^^ BitVec.ofInt 8 (b : Int)).toNat : Int) = _
  have h1 : ∀ n : Nat, n < 256 → (BitVec.ofInt 8 (n : Int)).toNat = n := by
    intro n hn
    rw [BitVec.ofInt_natCast, BitVec.toNat_ofNat]
    exact Nat.mod_eq_of_lt (by omega)
  have h2 : a ^^^ b < 256 := Nat.xor_lt_two_pow (n := 8) ha hb
  rw [BitVec.toNat_xor, h1 a ha, h1 b hb]
  unfold IntKind.wrap
  simp [IntKind.signed, IntKind.bits]
  omega
theorem turned_text (s : ByteArray) (i : Nat) (c : UInt8) : s.extract 0 i ++ (⟨#[c]⟩ : ByteArray) ++ s.extract (i + 1) s.size = bS ((bs s).take i ++ c :: (bs s).drop (i + 1)) := by
  apply bs_inj
  have ha : ∀ a b : ByteArray, bs (a ++ b) = bs a ++ bs b := fun a b => by simp [bs]
  rw [ha, ha, bs_extractTD, bs_extractTD]
  show List.drop 0 (List.take i (bs s)) ++ [c] ++ List.drop (i + 1) (List.take s.size (bs s)) = List.take i (bs s) ++ c :: List.drop (i + 1) (bs s)
  rw [List.drop_zero, List.take_of_length_le (l := bs s) (i := s.size) (by rw [length_bs]; exact Nat.le_refl _)]
  simp
theorem xor_ne (c : UInt8) (b : Nat) (hb : b < 256) (h0 : b ≠ 0) : UInt8.ofNat (c.toNat ^^^ b) ≠ c := by
  intro e
  have hx : c.toNat ^^^ b < 256 := Nat.xor_lt_two_pow (n := 8) c.toNat_lt hb
  have e2 := congrArg UInt8.toNat e
  rw [UInt8.toNat_ofNat_of_lt' hx, Nat.xor_comm] at e2
  have e3 : b ^^^ c.toNat = 0 ^^^ c.toNat := by rw [e2, Nat.zero_xor]
  exact h0 (xor_can e3)
theorem bS_take (l : List UInt8) (n : Nat) : (bS l).extract 0 n = bS (l.take n) := by
  apply bs_inj
  rw [bs_extractTD]
  rfl
def sameT (x y : Txn) : Bool := decide (x.zxid = y.zxid) && (decide (x.op = y.op) && (decide (x.session = y.session) && (decide (x.path = y.path) && (decide (x.data = y.data) && (decide (x.version = y.version) && decide (x.owner = y.owner))))))
theorem eql_txn (x y : Txn) (w : World) : (binOp .eql 47 (.agg #[.int .i64 x.zxid, .int .i64 x.op, .int .i64 x.session, .string x.path, .string x.data, .int .i64 x.version, .int .i64 x.owner]) (.agg #[.int .i64 y.zxid, .int .i64 y.op, .int .i64 y.session, .string y.path, .string y.data, .int .i64 y.version, .int .i64 y.owner])).run Tryd.prog w = .ok (.bool (sameT x y)) w := by
  have hl : ∀ a b : ByteArray, (a.toList = b.toList) = (a = b) := fun a b => propext ⟨bytes_eqB, fun e => by rw [e]⟩
  simp [go_sem]
  unfold sameT
  (repeat' split) <;> simp_all
theorem sameT_self (x : Txn) : sameT x x = true := by simp [sameT]
theorem pickI (k n : Int) (w : World) (h0 : 0 < n) (h1 : n ≤ 140737488355328) :
    Calls Tryd.prog 10 #[.int .i64 k, .int .i64 n] w fun e w' => ∃ f : Nat, (f : Int) < n ∧ e = .returned (.int .i64 f) ∧ w = w' := by
  obtain ⟨m, rfl⟩ := Int.eq_ofNat_of_zero_le (show 0 ≤ n by omega)
  refine (pickw_is k m w (by omega) (by omega)).mono ?_
  rintro e w' ⟨f, h, rfl, rfl⟩
  exact ⟨f, by omega, rfl, rfl⟩
theorem rec_len (t : Txn) (h : goodT t = 0) : 31 ≤ (recT t).length ∧ (recT t).length ≤ 1031 := by
  have h1 := body_small t h
  rw [recT_length]
  rw [bodyL_length] at *
  omega
theorem dec_err {l : List UInt8} {e : Int} (h : decR (bS l) = (txn0, 0, e)) (hl : l.length ≤ 281474976710656) (w : World) :
    Calls Tryd.prog 48 #[.string (bS l)] w fun E w' => E = .returned (.tuple #[.agg #[.int .i64 0, .int .i64 0, .int .i64 0, .string ⟨#[]⟩, .string ⟨#[]⟩, .int .i64 0, .int .i64 0], .int .i64 0, .int .i64 e]) ∧ Below w.heap.size w w' := by
  have h1 := decode_any (bS l) w (by rw [bS_size]; exact hl)
  rw [h] at h1
  exact h1
theorem dec_good {l : List UInt8} {t : Txn} {n : Int} (h : decR (bS l) = (t, n, 0)) (hl : l.length ≤ 281474976710656) (w : World) :
    Calls Tryd.prog 48 #[.string (bS l)] w fun E w' => E = .returned (.tuple #[.agg #[.int .i64 t.zxid, .int .i64 t.op, .int .i64 t.session, .string t.path, .string t.data, .int .i64 t.version, .int .i64 t.owner], .int .i64 n, .int .i64 0]) ∧ Below w.heap.size w w' := by
  have h1 := decode_any (bS l) w (by rw [bS_size]; exact hl)
  rw [h] at h1
  exact h1
end Go.Proofs.YtkoemhdchoicaaaDoor

/- wal.Append. -/
namespace Go.Proofs.YtkoemhdchoicaaaDoor
open Go.RowKit Go.ChangeShapes Go.WideShapes Go.ChangeAt
theorem retCell1 {fn : Func} {p u : Tmp} {ty : TypeId} (h : fn.results = #[.cell p ty, .tmp u]) (tmps : Array Value) (P : Program) (w : World) (a : Addr) (ha : tmps.getD p undef = .pointer (some a)) (x : Value) (hl : (loadVar ty a).run P w = .ok x w) :
    (results fn tmps).run P w = .ok (.tuple #[x, tmps.getD u undef]) w := by
  simp only [results, h]
  have ha' : tmps[p]?.getD undef = .pointer (some a) := by simpa using ha
  simp [Result.andThen, ha', asAddr, hl]
set_option maxHeartbeats 1000000 in
theorem walAppend (v : Value) (l : List File) (t : Txn) (safe : Bool) (w : World) (h : Sl cFile 3 w v l) (hz : ∀ x ∈ l, x.sized) (hp : t.path.size ≤ 9223372036854775807) :
    Calls Tryd.prog 22 #[.agg #[v], vTxn t, .bool safe] w (DkRes (appL l t safe) (appE l t safe) w) := by
  obtain ⟨A, c, rfl, hc1, hc2⟩ := h.form
  have H := Lib.hid h
  have HE := Lib.hid (fun w => encode_any t w hp)
  unfold appL appE
  by_cases hg : goodT t = 0
  · have hrec : encR t = bS (recT t) := if_pos hg
    have hlen := rec_len t hg
    have hes : (encR t).size ≤ 140737488355328 := by rw [hrec, bS_size]; omega
    rw [if_pos hg, if_pos hg]
    rw [hg] at HE
    have HW := Lib.hid (fun (W : World) (v : Value) (h : Sl cFile 3 W v l) => dkWrite v l logN (encR t) W h hz (by decide) hes)
    have HS := Lib.hid (fun (W : World) (v : Value) (hw : writeE l logN (encR t) = 0) (h : Sl cFile 3 W v (writeL l logN (encR t))) => dkSync v (writeL l logN (encR t)) logN W h (fun x hx => (goodD_sized (write_ok hw).2.2 x hx).1))
    generalize writeL l logN (encR t) = a at *
    generalize writeE l logN (encR t) = ae at *
    generalize syncL a logN = b at *
    generalize readE a logN = be at *
    generalize encR t = r at *
    clear hrec hlen hes h hz hp hg
    obtain ⟨z, o, s, p, d, v, ow⟩ := t
    by_cases hae : ae = 0
    · subst hae
      cases safe with
      | true =>
        rw [if_pos ⟨rfl, rfl⟩, if_pos ⟨rfl, rfl⟩]
        go_enter Tryd.func22, Tryd.ntmps22
        go_wp2_with (first | (go_at_call 14; refine (HE.out _).mono ?_; rintro e w1 ⟨rfl, hb1⟩; obtain ⟨ext1, d1, rfl⟩ := Below.grown_eq _ hb1; clear hb1 HE) | (go_at_call 33; refine (HW.out _ _ (H.out.below (by repeat (first | exact Below.refl _ _ | assumption | refine Below.drew ?_ | refine Below.drewN' ?_ _ | refine below_grow0 _ _ ?_ | refine below_alloc0 _ ?_ | refine Below.alloc ?_ (by first | omega | (simp; done) | (simp; omega)) _ | refine Below.setCell ?_ (by first | omega | (simp; done) | (simp; omega)) _ | refine Below.grow _ _ _ ?_ (by first | omega | (simp; done) | (simp; omega)))))).mono ?_; rintro e w1 ⟨A1, k1, rfl, ho1, hb2⟩; obtain ⟨ext2, d2, rfl⟩ := Below.grown_eq _ hb2; have HO1 := Lib.hid ho1; clear ho1 hb2 HW) | (go_at_call 36; refine (HS.out _ _ (by first | trivial | rfl) (HO1.out.regrow (Nat.le_refl _) (by simp)).sl).mono ?_; rintro e w1 ⟨A2, k2, rfl, ho2, hb3⟩; obtain ⟨ext3, d3, rfl⟩ := Below.grown_eq _ hb3; have HO2 := Lib.hid ho2; clear ho2 hb3 HS))
        refine bodyPost_ret (v := .tuple #[.agg #[.slice A2 b.length k2], .int .i64 be]) (by simp [results, Tryd.results22, go_sem]) rfl ⟨A2, k2, rfl, (HO2.out.regrow (Nat.le_refl _) (by simp)).mono (by simp; omega), (by repeat (first | exact Below.refl _ _ | assumption | refine Below.drew ?_ | refine Below.drewN' ?_ _ | refine below_grow0 _ _ ?_ | refine below_alloc0 _ ?_ | refine Below.alloc ?_ (by first | omega | (simp; done) | (simp; omega)) _ | refine Below.setCell ?_ (by first | omega | (simp; done) | (simp; omega)) _ | refine Below.grow _ _ _ ?_ (by first | omega | (simp; done) | (simp; omega))))⟩
      | false =>
        rw [if_neg (by simp), if_neg (by simp)]
        go_enter Tryd.func22, Tryd.ntmps22
        go_wp2_with (first | (go_at_call 14; refine (HE.out _).mono ?_; rintro e w1 ⟨rfl, hb1⟩; obtain ⟨ext1, d1, rfl⟩ := Below.grown_eq _ hb1; clear hb1 HE) | (go_at_call 33; refine (HW.out _ _ (H.out.below (by repeat (first | exact Below.refl _ _ | assumption | refine Below.drew ?_ | refine Below.drewN' ?_ _ | refine below_grow0 _ _ ?_ | refine below_alloc0 _ ?_ | refine Below.alloc ?_ (by first | omega | (simp; done) | (simp; omega)) _ | refine Below.setCell ?_ (by first | omega | (simp; done) | (simp; omega)) _ | refine Below.grow _ _ _ ?_ (by first | omega | (simp; done) | (simp; omega)))))).mono ?_; rintro e w1 ⟨A1, k1, rfl, ho1, hb2⟩; obtain ⟨ext2, d2, rfl⟩ := Below.grown_eq _ hb2; have HO1 := Lib.hid ho1; clear ho1 hb2 HW))
        refine bodyPost_ret (v := .tuple #[.agg #[.slice A1 a.length k1], .int .i64 0]) (by simp [results, Tryd.results22, go_sem]) rfl ⟨A1, k1, rfl, (HO1.out.regrow (Nat.le_refl _) (by simp)).mono (by simp; omega), (by repeat (first | exact Below.refl _ _ | assumption | refine Below.drew ?_ | refine Below.drewN' ?_ _ | refine below_grow0 _ _ ?_ | refine below_alloc0 _ ?_ | refine Below.alloc ?_ (by first | omega | (simp; done) | (simp; omega)) _ | refine Below.setCell ?_ (by first | omega | (simp; done) | (simp; omega)) _ | refine Below.grow _ _ _ ?_ (by first | omega | (simp; done) | (simp; omega))))⟩
    · have hne : (ae != 0) = true := bne_iff_ne.2 hae
      rw [if_neg (fun h => hae h.1), if_neg (fun h => hae h.1)]
      clear hae
      go_enter Tryd.func22, Tryd.ntmps22
      go_wp2_with (first | (go_at_call 14; refine (HE.out _).mono ?_; rintro e w1 ⟨rfl, hb1⟩; obtain ⟨ext1, d1, rfl⟩ := Below.grown_eq _ hb1; clear hb1 HE) | (go_at_call 33; refine (HW.out _ _ (H.out.below (by repeat (first | exact Below.refl _ _ | assumption | refine Below.drew ?_ | refine Below.drewN' ?_ _ | refine below_grow0 _ _ ?_ | refine below_alloc0 _ ?_ | refine Below.alloc ?_ (by first | omega | (simp; done) | (simp; omega)) _ | refine Below.setCell ?_ (by first | omega | (simp; done) | (simp; omega)) _ | refine Below.grow _ _ _ ?_ (by first | omega | (simp; done) | (simp; omega)))))).mono ?_; rintro e w1 ⟨A1, k1, rfl, ho1, hb2⟩; obtain ⟨ext2, d2, rfl⟩ := Below.grown_eq _ hb2; have HO1 := Lib.hid ho1; clear ho1 hb2 HW))
      refine bodyPost_ret (v := .tuple #[.agg #[.slice A1 a.length k1], .int .i64 ae]) (by simp [results, Tryd.results22, go_sem]) rfl ⟨A1, k1, rfl, (HO1.out.regrow (Nat.le_refl _) (by simp)).mono (by simp; omega), (by repeat (first | exact Below.refl _ _ | assumption | refine Below.drew ?_ | refine Below.drewN' ?_ _ | refine below_grow0 _ _ ?_ | refine below_alloc0 _ ?_ | refine Below.alloc ?_ (by first | omega | (simp; done) | (simp; omega)) _ | refine Below.setCell ?_ (by first | omega | (simp; done) | (simp; omega)) _ | refine Below.grow _ _ _ ?_ (by first | omega | (simp; done) | (simp; omega))))⟩
  · have hne : (goodT t != 0) = true := bne_iff_ne.2 hg
    have hrec : encR t = ⟨#[]⟩ := if_neg hg
    rw [hrec] at HE
    rw [if_neg hg, if_neg hg]
    clear hrec hg h hz
    generalize goodT t = g at *
    obtain ⟨z, o, s, p, d, v, ow⟩ := t
    go_enter Tryd.func22, Tryd.ntmps22
    go_wp2_with (first | (go_at_call 14; refine (HE.out _).mono ?_; rintro e w1 ⟨rfl, hb1⟩; obtain ⟨ext1, d1, rfl⟩ := Below.grown_eq _ hb1; clear hb1 HE))
    refine bodyPost_ret (v := .tuple #[.agg #[.slice none 0 0], .int .i64 g]) (by simp [results, Tryd.results22, go_sem]) rfl ⟨none, 0, rfl, Ow.nil _ _ _ _ _, (by repeat (first | exact Below.refl _ _ | assumption | refine Below.drew ?_ | refine Below.drewN' ?_ _ | refine below_grow0 _ _ ?_ | refine below_alloc0 _ ?_ | refine Below.alloc ?_ (by first | omega | (simp; done) | (simp; omega)) _ | refine Below.setCell ?_ (by first | omega | (simp; done) | (simp; omega)) _ | refine Below.grow _ _ _ ?_ (by first | omega | (simp; done) | (simp; omega))))⟩
end Go.Proofs.YtkoemhdchoicaaaDoor

/- wal.Last. -/
namespace Go.Proofs.YtkoemhdchoicaaaDoor
open Go.RowKit Go.ChangeShapes Go.WideShapes Go.ChangeAt
theorem walLast (v : Value) (l : List Txn) (w : World) (h : Sl cTxn 7 w v l) :
    Calls Tryd.prog 21 #[v] w fun e w' => e = .returned (.int .i64 (lastZ l)) ∧ w = w' := by
  obtain ⟨A, c, rfl, hc1, hc2⟩ := h.form
  rcases Nat.eq_zero_or_pos l.length with h0 | h0
  · obtain rfl := List.eq_nil_of_length_eq_zero h0
    rw [lastZ_nil]
    simp only [List.length_nil]
    clear h h0
    go_enter Tryd.func21, Tryd.ntmps21
    go_wp2
    go_ret
    exact ⟨rfl, rfl⟩
  · obtain ⟨m, hm⟩ : ∃ m, l.length = m + 1 := ⟨l.length - 1, by omega⟩
    have hx : l[m]? = some (l[m]'(by omega)) := List.getElem?_eq_getElem _
    obtain ⟨b, off, rfl, hbw, c0, _⟩ := h.Txn_at hx
    rw [lastZ_at hm hx]
    generalize l[m]'(by omega) = x at c0
    rw [hm] at hc1 ⊢
    have hm2 : m + 1 ≤ 9223372036854775807 := Nat.le_trans hc1 (Nat.le_trans hc2 (by decide))
    clear h h0 hx
    go_enter Tryd.func21, Tryd.ntmps21
    go_wp2
    go_ret
    exact ⟨rfl, rfl⟩
end Go.Proofs.YtkoemhdchoicaaaDoor

/- wal.Scan: the transactions that bytes begin with. -/
namespace Go.Proofs.YtkoemhdchoicaaaDoor
open Go.RowKit Go.ChangeShapes Go.WideShapes Go.ChangeAt
def ScanRes (s : List UInt8) (w : World) (e : Ending) (w' : World) : Prop := ∃ A c l n, e = .returned (.tuple #[.slice A l.length c, .int .i64 (n : Nat)]) ∧ ScanIs s l n ∧ Ow cTxn 7 47 w' w.heap.size (.slice A l.length c) l ∧ Below w.heap.size w w'
theorem noNext_bad {s : ByteArray} {e : Int} (he : e ≠ 0) (hd : decR s = (txn0, 0, e)) (l : List Txn) : NoNext l (bs s) := by
  intro t rest ht h
  exfalso
  have h1 := dec_back t ht rest
  rw [← h, bS_bs, hd] at h1
  injection h1 with _ h2
  injection h2 with _ h3
  exact he h3
theorem noNext_stop {t : Txn} (ht : goodT t = 0) {l : List Txn} (h1 : l ≠ []) (h2 : t.zxid ≤ lastZ l) (rest : List UInt8) : NoNext l (recT t ++ rest) := by
  intro x r hx h
  obtain ⟨rfl, _⟩ := recT_prefix ht hx h
  exact ⟨h1, h2⟩
/-- a scan under way -/
def ScanAt (s : List UInt8) (l : List Txn) (n : Nat) : Prop := LogOk l ∧ n = (recs l).length ∧ s = recs l ++ s.drop n
theorem ScanAt.le {s : List UInt8} {l : List Txn} {n : Nat} (h : ScanAt s l n) : n ≤ s.length ∧ l.length * 31 ≤ n := by
  have h1 := congrArg List.length h.2.2
  rw [List.length_append] at h1
  have h2 := (recs_len h.1.1).2
  have := h.2.1
  omega
theorem ScanAt.next {s : List UInt8} {l : List Txn} {n : Nat} {t : Txn} {rest : List UInt8} (h : ScanAt s l n) (ht : goodT t = 0) (hr : s.drop n = recT t ++ rest) (hz : l = [] ∨ lastZ l < t.zxid) : ScanAt s (l ++ [t]) (n + (recT t).length) := by
  refine ⟨logOk_snoc h.1 ht hz, ?_, ?_⟩
  · rw [recs_app, recs_one, List.length_append, ← h.2.1]
  · rw [recs_app, recs_one, ← List.drop_drop, hr, List.drop_left, List.append_assoc, ← hr]
    exact h.2.2
theorem ScanAt.done {s : List UInt8} {l : List Txn} {n : Nat} (h : ScanAt s l n) (hr : NoNext l (s.drop n)) : ScanIs s l n := ⟨h.1, h.2.1, s.drop n, h.2.2, hr⟩
theorem extract_from (s : ByteArray) (n : Nat) : bs (s.extract n s.size) = (bs s).drop n := by
  rw [bs_extractTD, List.take_of_length_le (by rw [length_bs]; exact Nat.le_refl _)]
set_option maxHeartbeats 2000000 in
theorem scan_any (s : ByteArray) (w : World) (hs : s.size ≤ 1048576) :
    Calls Tryd.prog 34 #[.string s] w (ScanRes (bs s) w) := by
  go_enter Tryd.func34, Tryd.ntmps34
  go_wp2_with fail
  go_loopw [4, 5] (fun o i wr => ∃ (L : List Txn) (n : Nat) (A' : Option Addr) (c' : Nat) (ext : Array Obj) (d : Nat), i = .int .i64 n ∧ o = .slice A' L.length c' ∧ wr = grow w ext d ∧ Hid (ScanAt (bs s) L n) ∧ Hid (Ow cTxn 7 47 wr w.heap.size (.slice A' L.length c') L)) (fun _ i _ => s.size - (intOf i).toNat)
  case atStart => exact ⟨[], 0, none, 0, _, _, rfl, rfl, grown_of (by repeat (first | exact Below.refl _ _ | assumption | refine Below.drew ?_ | refine Below.drewN' ?_ _ | refine below_grow0 _ _ ?_ | refine below_alloc0 _ ?_ | refine Below.alloc ?_ (by first | omega | (simp; done) | (simp; omega)) _ | refine Below.setCell ?_ (by first | omega | (simp; done) | (simp; omega)) _ | refine Below.grow _ _ _ ?_ (by first | omega | (simp; done) | (simp; omega)))), Lib.hid ⟨⟨by simp, List.Pairwise.nil⟩, rfl, by simp [recs]⟩, Lib.hid (Ow.nil _ _ _ _ _)⟩
  case round =>
    obtain ⟨L, n, A', c', ext, d, rfl, rfl, rfl, hat, ho⟩ := hrel
    have hle := hat.out.le
    have hlen := length_bs s
    by_cases hlt : n < s.size
    · have hsz : (s.extract n s.size).size ≤ 281474976710656 := by rw [ByteArray.size_extract]; omega
      have hex := extract_from s n
      rcases dec_inv (s.extract n s.size) with ⟨t, rest, hg, hr, hd⟩ | ⟨e, he, hd⟩
      · have HD := Lib.hid (fun W => by
          have h := decode_any (s.extract n s.size) W hsz
          rw [hd] at h
          exact h)
        rw [hex] at hr
        have hn2 := congrArg List.length hr
        rw [List.length_drop, List.length_append] at hn2
        have hp7 := recT_pos t
        have HL := Lib.hid (fun (W : World) (h : Sl cTxn 7 W (.slice A' L.length c') L) => walLast _ _ W h)
        rcases Classical.em (L = []) with h0 | h0
        · have HX := Lib.hid (hat.out.next hg hr (.inl h0))
          have hl0 : decide (0 < L.length) = false := by rw [h0]; rfl
          have h0' := Lib.hid h0
          clear h0 hd hr hex hsz hg HL
          generalize (recT t).length = m at *
          go_wp2_with (first | (go_at_call 48; refine (HD.out _).mono ?_; rintro e w1 ⟨rfl, hb1⟩; obtain ⟨ext1, d1, rfl⟩ := Below.grown_eq _ hb1; clear hb1 HD))
          go_quiet (fail)
          go_wp2_with (at_builtin; refine wpList_app _ rfl (.tmp 35) (.tmp 37) _ rfl elTxn (B := w.heap.size) (l := L) (m := [t]) rfl rfl (ho.out.below (by repeat (first | exact Below.refl _ _ | assumption | refine Below.drew ?_ | refine Below.drewN' ?_ _ | refine below_grow0 _ _ ?_ | refine below_alloc0 _ ?_ | refine Below.alloc ?_ (by first | omega | (simp; done) | (simp; omega)) _ | refine Below.setCell ?_ (by first | omega | (simp; done) | (simp; omega)) _ | refine Below.grow _ _ _ ?_ (by first | omega | (simp; done) | (simp; omega))))) (Sl.one_at cTxn 7 _ _ _ rfl _ rfl (by omega) (by simp)) cTxn_one (by simp [maxLen]; omega) (by simp; omega) (by simp <;> omega) ?_; intro v2 w2 hown2 hg2 hat2; obtain ⟨A2, c2, rfl, _⟩ := hown2.form; have HO2 := Lib.hid hown2; have HG2 : Hid (World.grownBy _ w2 (Value.slice A' L.length c').ownBlock) := Lib.hid hg2; clear hown2 hg2 hat2)
          have hwb : Below w.heap.size w w2 := Below.grown (by repeat (first | exact Below.refl _ _ | assumption | refine Below.drew ?_ | refine Below.drewN' ?_ _ | refine below_grow0 _ _ ?_ | refine below_alloc0 _ ?_ | refine Below.alloc ?_ (by first | omega | (simp; done) | (simp; omega)) _ | refine Below.setCell ?_ (by first | omega | (simp; done) | (simp; omega)) _ | refine Below.grow _ _ _ ?_ (by first | omega | (simp; done) | (simp; omega)))) HG2.out (by simp; omega) (fun g hg => (Ow.own_in ho.out hg).1)
          go_wp2_with fail
          go_roundw
          case rel => exact ⟨L ++ [t], n + m, A2, c2, _, _, by go_num, by simp, grown_of hwb, HX, HO2⟩
          case measure => simp [intOf]; omega
        · have hl0 : decide (0 < L.length) = true := decide_eq_true (List.length_pos_iff.2 h0)
          by_cases hz : t.zxid ≤ lastZ L
          · have HN := Lib.hid (hat.out.done (by rw [hr]; exact noNext_stop hg h0 hz rest))
            have hzd : decide (t.zxid ≤ lastZ L) = true := decide_eq_true hz
            generalize lastZ L = z at *
            clear h0 hd hr hex hsz hg hz
            generalize (recT t).length = m at *
            go_wp2_with (first | (go_at_call 48; refine (HD.out _).mono ?_; rintro e w1 ⟨rfl, hb1⟩; obtain ⟨ext1, d1, rfl⟩ := Below.grown_eq _ hb1; clear hb1 HD))
            go_quiet (first | (go_at_call 21; with_reducible refine Calls.quiet_of_same ((HL.out _ (ho.out.sl.below (by repeat (first | exact Below.refl _ _ | assumption | refine Below.drew ?_ | refine Below.drewN' ?_ _ | refine below_grow0 _ _ ?_ | refine below_alloc0 _ ?_ | refine Below.alloc ?_ (by first | omega | (simp; done) | (simp; omega)) _ | refine Below.setCell ?_ (by first | omega | (simp; done) | (simp; omega)) _ | refine Below.grow _ _ _ ?_ (by first | omega | (simp; done) | (simp; omega)))))).mono fun e w' h => ⟨h.1, h.2.symm⟩)))
            go_wp2_with fail
            refine bodyPost_ret (v := .tuple #[.slice A' L.length c', .int .i64 n]) (by simp [results, Tryd.results34, go_sem]) rfl ⟨A', c', L, n, rfl, HN.out, ho.out.below (by repeat (first | exact Below.refl _ _ | assumption | refine Below.drew ?_ | refine Below.drewN' ?_ _ | refine below_grow0 _ _ ?_ | refine below_alloc0 _ ?_ | refine Below.alloc ?_ (by first | omega | (simp; done) | (simp; omega)) _ | refine Below.setCell ?_ (by first | omega | (simp; done) | (simp; omega)) _ | refine Below.grow _ _ _ ?_ (by first | omega | (simp; done) | (simp; omega)))), (by repeat (first | exact Below.refl _ _ | assumption | refine Below.drew ?_ | refine Below.drewN' ?_ _ | refine below_grow0 _ _ ?_ | refine below_alloc0 _ ?_ | refine Below.alloc ?_ (by first | omega | (simp; done) | (simp; omega)) _ | refine Below.setCell ?_ (by first | omega | (simp; done) | (simp; omega)) _ | refine Below.grow _ _ _ ?_ (by first | omega | (simp; done) | (simp; omega))))⟩
          · have HX := Lib.hid (hat.out.next hg hr (.inr (by omega)))
            have hzd : decide (t.zxid ≤ lastZ L) = false := decide_eq_false hz
            generalize lastZ L = z at *
            clear h0 hd hr hex hsz hg hz
            generalize (recT t).length = m at *
            go_wp2_with (first | (go_at_call 48; refine (HD.out _).mono ?_; rintro e w1 ⟨rfl, hb1⟩; obtain ⟨ext1, d1, rfl⟩ := Below.grown_eq _ hb1; clear hb1 HD))
            go_quiet (first | (go_at_call 21; with_reducible refine Calls.quiet_of_same ((HL.out _ (ho.out.sl.below (by repeat (first | exact Below.refl _ _ | assumption | refine Below.drew ?_ | refine Below.drewN' ?_ _ | refine below_grow0 _ _ ?_ | refine below_alloc0 _ ?_ | refine Below.alloc ?_ (by first | omega | (simp; done) | (simp; omega)) _ | refine Below.setCell ?_ (by first | omega | (simp; done) | (simp; omega)) _ | refine Below.grow _ _ _ ?_ (by first | omega | (simp; done) | (simp; omega)))))).mono fun e w' h => ⟨h.1, h.2.symm⟩)))
            go_wp2_with (at_builtin; refine wpList_app _ rfl (.tmp 35) (.tmp 37) _ rfl elTxn (B := w.heap.size) (l := L) (m := [t]) rfl rfl (ho.out.below (by repeat (first | exact Below.refl _ _ | assumption | refine Below.drew ?_ | refine Below.drewN' ?_ _ | refine below_grow0 _ _ ?_ | refine below_alloc0 _ ?_ | refine Below.alloc ?_ (by first | omega | (simp; done) | (simp; omega)) _ | refine Below.setCell ?_ (by first | omega | (simp; done) | (simp; omega)) _ | refine Below.grow _ _ _ ?_ (by first | omega | (simp; done) | (simp; omega))))) (Sl.one_at cTxn 7 _ _ _ rfl _ rfl (by omega) (by simp)) cTxn_one (by simp [maxLen]; omega) (by simp; omega) (by simp <;> omega) ?_; intro v2 w2 hown2 hg2 hat2; obtain ⟨A2, c2, rfl, _⟩ := hown2.form; have HO2 := Lib.hid hown2; have HG2 : Hid (World.grownBy _ w2 (Value.slice A' L.length c').ownBlock) := Lib.hid hg2; clear hown2 hg2 hat2)
            have hwb : Below w.heap.size w w2 := Below.grown (by repeat (first | exact Below.refl _ _ | assumption | refine Below.drew ?_ | refine Below.drewN' ?_ _ | refine below_grow0 _ _ ?_ | refine below_alloc0 _ ?_ | refine Below.alloc ?_ (by first | omega | (simp; done) | (simp; omega)) _ | refine Below.setCell ?_ (by first | omega | (simp; done) | (simp; omega)) _ | refine Below.grow _ _ _ ?_ (by first | omega | (simp; done) | (simp; omega)))) HG2.out (by simp; omega) (fun g hg => (Ow.own_in ho.out hg).1)
            go_wp2_with fail
            go_roundw
            case rel => exact ⟨L ++ [t], n + m, A2, c2, _, _, by go_num, by simp, grown_of hwb, HX, HO2⟩
            case measure => simp [intOf]; omega
      · have HN := Lib.hid (hat.out.done (by rw [← hex]; exact noNext_bad he hd L))
        have HD := Lib.hid (fun W => by
          have h := decode_any (s.extract n s.size) W hsz
          rw [hd] at h
          exact h)
        have hne : (e != 0) = true := bne_iff_ne.2 he
        clear he hd hex hsz
        go_wp2_with (first | (go_at_call 48; refine (HD.out _).mono ?_; rintro e w1 ⟨rfl, hb1⟩; obtain ⟨ext1, d1, rfl⟩ := Below.grown_eq _ hb1; clear hb1 HD))
        go_quiet (fail)
        go_wp2_with fail
        refine bodyPost_ret (v := .tuple #[.slice A' L.length c', .int .i64 n]) (by simp [results, Tryd.results34, go_sem]) rfl ⟨A', c', L, n, rfl, HN.out, ho.out.below (by repeat (first | exact Below.refl _ _ | assumption | refine Below.drew ?_ | refine Below.drewN' ?_ _ | refine below_grow0 _ _ ?_ | refine below_alloc0 _ ?_ | refine Below.alloc ?_ (by first | omega | (simp; done) | (simp; omega)) _ | refine Below.setCell ?_ (by first | omega | (simp; done) | (simp; omega)) _ | refine Below.grow _ _ _ ?_ (by first | omega | (simp; done) | (simp; omega)))), (by repeat (first | exact Below.refl _ _ | assumption | refine Below.drew ?_ | refine Below.drewN' ?_ _ | refine below_grow0 _ _ ?_ | refine below_alloc0 _ ?_ | refine Below.alloc ?_ (by first | omega | (simp; done) | (simp; omega)) _ | refine Below.setCell ?_ (by first | omega | (simp; done) | (simp; omega)) _ | refine Below.grow _ _ _ ?_ (by first | omega | (simp; done) | (simp; omega))))⟩
    · have HN := Lib.hid (hat.out.done (by rw [List.drop_of_length_le (by omega)]; exact noNext_nil L))
      go_wp2_with fail
      refine bodyPost_ret (v := .tuple #[.slice A' L.length c', .int .i64 n]) (by simp [results, Tryd.results34, go_sem]) rfl ⟨A', c', L, n, rfl, HN.out, ho.out.below (by repeat (first | exact Below.refl _ _ | assumption | refine Below.drew ?_ | refine Below.drewN' ?_ _ | refine below_grow0 _ _ ?_ | refine below_alloc0 _ ?_ | refine Below.alloc ?_ (by first | omega | (simp; done) | (simp; omega)) _ | refine Below.setCell ?_ (by first | omega | (simp; done) | (simp; omega)) _ | refine Below.grow _ _ _ ?_ (by first | omega | (simp; done) | (simp; omega)))), (by repeat (first | exact Below.refl _ _ | assumption | refine Below.drew ?_ | refine Below.drewN' ?_ _ | refine below_grow0 _ _ ?_ | refine below_alloc0 _ ?_ | refine Below.alloc ?_ (by first | omega | (simp; done) | (simp; omega)) _ | refine Below.setCell ?_ (by first | omega | (simp; done) | (simp; omega)) _ | refine Below.grow _ _ _ ?_ (by first | omega | (simp; done) | (simp; omega))))⟩
end Go.Proofs.YtkoemhdchoicaaaDoor

/- wal.Recover. -/
namespace Go.Proofs.YtkoemhdchoicaaaDoor
open Go.RowKit Go.ChangeShapes Go.WideShapes Go.ChangeAt
def RecRes (f : List File) (w : World) (e : Ending) (w' : World) : Prop := ∃ A c L B k f' code, e = .returned (.tuple #[.slice A (List.length (α := Txn) L) c, .agg #[.slice B (List.length (α := File) f') k], .int .i64 code]) ∧ RecIs f L f' code ∧ Ow cTxn 7 47 w' w.heap.size (.slice A L.length c) L ∧ Ow cFile 3 70 w' w.heap.size (.slice B f'.length k) f' ∧ Below w.heap.size w w'
theorem readS_size {f : List File} {p : ByteArray} (h : readE f p = 0) : (readS f p).size ≤ 1048576 := by
  obtain ⟨h1, h2⟩ := readE_0 h
  unfold readS
  rw [h1, h2]
  have := (goodD_sized h1 _ (fileAt_is h2).2).2
  simp only [Bool.and_true, if_true, ByteArray.size_append]
  omega
set_option maxHeartbeats 2000000 in
theorem recover_any (v : Value) (f : List File) (w : World) (h : Sl cFile 3 w v f) (hz : ∀ x ∈ f, x.sized) :
    Calls Tryd.prog 20 #[.agg #[v]] w (RecRes f w) := by
  obtain ⟨A, c, rfl, hc1, hc2⟩ := h.form
  have H := Lib.hid h
  have HR := Lib.hid (fun (W : World) (v : Value) (h : Sl cFile 3 W v f) => dkRead v f logN W h hz)
  by_cases h7 : readE f logN = 7
  · rw [h7] at HR
    have HW := Lib.hid (fun (W : World) (v : Value) (h : Sl cFile 3 W v f) => dkWrite v f logN noB W h hz (by decide) (by decide))
    have HI := Lib.hid (show RecIs f [] (writeL f logN noB) (writeE f logN noB) from .inl ⟨h7, rfl, rfl, rfl⟩)
    have HN := Lib.hid (fun h : writeE f logN noB ≠ 0 => write_not h)
    generalize readS f logN = rs at *
    generalize writeL f logN noB = a at *
    generalize writeE f logN noB = ae at *
    clear h hz h7
    by_cases hae : ae = 0
    · subst hae
      clear HN
      go_enter Tryd.func20, Tryd.ntmps20
      go_wp2_with (first | (go_at_call 30; refine (HR.out _ _ (H.out.below (by repeat (first | exact Below.refl _ _ | assumption | refine Below.drew ?_ | refine Below.drewN' ?_ _ | refine below_grow0 _ _ ?_ | refine below_alloc0 _ ?_ | refine Below.alloc ?_ (by first | omega | (simp; done) | (simp; omega)) _ | refine Below.setCell ?_ (by first | omega | (simp; done) | (simp; omega)) _ | refine Below.grow _ _ _ ?_ (by first | omega | (simp; done) | (simp; omega)))))).mono ?_; rintro e w1 ⟨rfl, hb1⟩; obtain ⟨ext1, d1, rfl⟩ := Below.grown_eq _ hb1; clear hb1 HR) | (go_at_call 33; refine (HW.out _ _ (H.out.below (by repeat (first | exact Below.refl _ _ | assumption | refine Below.drew ?_ | refine Below.drewN' ?_ _ | refine below_grow0 _ _ ?_ | refine below_alloc0 _ ?_ | refine Below.alloc ?_ (by first | omega | (simp; done) | (simp; omega)) _ | refine Below.setCell ?_ (by first | omega | (simp; done) | (simp; omega)) _ | refine Below.grow _ _ _ ?_ (by first | omega | (simp; done) | (simp; omega)))))).mono ?_; rintro e w1 ⟨A1, k1, rfl, ho1, hb2⟩; obtain ⟨ext2, d2, rfl⟩ := Below.grown_eq _ hb2; have HO1 := Lib.hid ho1; clear ho1 hb2 HW))
      go_region
      go_wp2_with fail
      refine bodyPost_ret (v := .tuple #[.slice none ([] : List Txn).length 0, .agg #[.slice A1 a.length k1], .int .i64 0]) (by simp [results, Tryd.results20, go_sem]) rfl ⟨none, 0, ([] : List Txn), A1, k1, a, 0, rfl, HI.out, Ow.nil _ _ _ _ _, (HO1.out.regrow (Nat.le_refl _) (by simp)).mono (by simp; omega), (by repeat (first | exact Below.refl _ _ | assumption | refine Below.drew ?_ | refine Below.drewN' ?_ _ | refine below_grow0 _ _ ?_ | refine below_alloc0 _ ?_ | refine Below.alloc ?_ (by first | omega | (simp; done) | (simp; omega)) _ | refine Below.setCell ?_ (by first | omega | (simp; done) | (simp; omega)) _ | refine Below.grow _ _ _ ?_ (by first | omega | (simp; done) | (simp; omega))))⟩
    · have hne : (ae != 0) = true := bne_iff_ne.2 hae
      have ha := HN.out hae
      subst ha
      clear HN hae
      go_enter Tryd.func20, Tryd.ntmps20
      go_wp2_with (first | (go_at_call 30; refine (HR.out _ _ (H.out.below (by repeat (first | exact Below.refl _ _ | assumption | refine Below.drew ?_ | refine Below.drewN' ?_ _ | refine below_grow0 _ _ ?_ | refine below_alloc0 _ ?_ | refine Below.alloc ?_ (by first | omega | (simp; done) | (simp; omega)) _ | refine Below.setCell ?_ (by first | omega | (simp; done) | (simp; omega)) _ | refine Below.grow _ _ _ ?_ (by first | omega | (simp; done) | (simp; omega)))))).mono ?_; rintro e w1 ⟨rfl, hb1⟩; obtain ⟨ext1, d1, rfl⟩ := Below.grown_eq _ hb1; clear hb1 HR) | (go_at_call 33; refine (HW.out _ _ (H.out.below (by repeat (first | exact Below.refl _ _ | assumption | refine Below.drew ?_ | refine Below.drewN' ?_ _ | refine below_grow0 _ _ ?_ | refine below_alloc0 _ ?_ | refine Below.alloc ?_ (by first | omega | (simp; done) | (simp; omega)) _ | refine Below.setCell ?_ (by first | omega | (simp; done) | (simp; omega)) _ | refine Below.grow _ _ _ ?_ (by first | omega | (simp; done) | (simp; omega)))))).mono ?_; rintro e w1 ⟨A1, k1, rfl, ho1, hb2⟩; obtain ⟨ext2, d2, rfl⟩ := Below.grown_eq _ hb2; have HO1 := Lib.hid ho1; clear ho1 hb2 HW))
      refine bodyPost_ret (v := .tuple #[.slice none ([] : List Txn).length 0, .agg #[.slice none ([] : List File).length 0], .int .i64 ae]) (by simp [results, Tryd.results20, go_sem]) rfl ⟨none, 0, ([] : List Txn), none, 0, ([] : List File), ae, rfl, HI.out, Ow.nil _ _ _ _ _, Ow.nil _ _ _ _ _, (by repeat (first | exact Below.refl _ _ | assumption | refine Below.drew ?_ | refine Below.drewN' ?_ _ | refine below_grow0 _ _ ?_ | refine below_alloc0 _ ?_ | refine Below.alloc ?_ (by first | omega | (simp; done) | (simp; omega)) _ | refine Below.setCell ?_ (by first | omega | (simp; done) | (simp; omega)) _ | refine Below.grow _ _ _ ?_ (by first | omega | (simp; done) | (simp; omega))))⟩
  · by_cases h0 : readE f logN = 0
    · have HI := Lib.hid (fun (n : Nat) L (hs : ScanIs (bs (readS f logN)) L n) => show RecIs f L (cutL f logN n) 0 from .inr (.inr ⟨h0, rfl, n, hs, rfl⟩))
      have hsz := readS_size h0
      have HCI := Lib.hid (fun (n : Nat) (hn : n ≤ (bs (readS f logN)).length) => cut_is h0 (n := n) (by rw [length_bs] at hn; exact hn))
      rw [h0] at HR
      generalize readS f logN = rs at *
      have HSC := Lib.hid (fun W => scan_any rs W hsz)
      clear h h7 h0
      go_enter Tryd.func20, Tryd.ntmps20
      go_wp2_with (first | (go_at_call 30; refine (HR.out _ _ (H.out.below (by repeat (first | exact Below.refl _ _ | assumption | refine Below.drew ?_ | refine Below.drewN' ?_ _ | refine below_grow0 _ _ ?_ | refine below_alloc0 _ ?_ | refine Below.alloc ?_ (by first | omega | (simp; done) | (simp; omega)) _ | refine Below.setCell ?_ (by first | omega | (simp; done) | (simp; omega)) _ | refine Below.grow _ _ _ ?_ (by first | omega | (simp; done) | (simp; omega)))))).mono ?_; rintro e w1 ⟨rfl, hb1⟩; obtain ⟨ext1, d1, rfl⟩ := Below.grown_eq _ hb1; clear hb1 HR) | (go_at_call 34; refine (HSC.out _).mono ?_; rintro e w1 ⟨A2, c2, L, n, rfl, hsc, ho2, hb2⟩; obtain ⟨ext2, d2, rfl⟩ := Below.grown_eq _ hb2; have HO2 := Lib.hid ho2; have HIS := Lib.hid hsc; have HC := Lib.hid (fun (W : World) (v : Value) (h : Sl cFile 3 W v f) => dkCut v f logN (n : Int) W h hz); rw [HCI.out n (scan_le hsc).1] at HC; generalize hcl : cutL f logN (n : Int) = b at *; clear ho2 hb2 HSC hsc) | (go_at_call 35; refine (HC.out _ _ (H.out.below (by repeat (first | exact Below.refl _ _ | assumption | refine Below.drew ?_ | refine Below.drewN' ?_ _ | refine below_grow0 _ _ ?_ | refine below_alloc0 _ ?_ | refine Below.alloc ?_ (by first | omega | (simp; done) | (simp; omega)) _ | refine Below.setCell ?_ (by first | omega | (simp; done) | (simp; omega)) _ | refine Below.grow _ _ _ ?_ (by first | omega | (simp; done) | (simp; omega)))))).mono ?_; rintro e w1 ⟨A3, k3, rfl, ho3, hb3⟩; obtain ⟨ext3, d3, rfl⟩ := Below.grown_eq _ hb3; have HO3 := Lib.hid ho3; clear ho3 hb3 HC))
      go_region
      go_wp2_with fail
      refine bodyPost_ret (v := .tuple #[.slice A2 L.length c2, .agg #[.slice A3 b.length k3], .int .i64 0]) (by simp [results, Tryd.results20, go_sem]) rfl ⟨A2, c2, L, A3, k3, b, 0, rfl, (by rw [← hcl]; exact HI.out n L HIS.out), (Ow.below (w := grow (grow ((w.alloc (.cells #[.slice A3 b.length k3] 26)).alloc (.cells #[.slice A3 b.length k3] 26)) ext1 d1) ext2 d2) (HO2.out.regrow (Nat.le_refl _) (by simp)) (by repeat (first | exact Below.refl _ _ | assumption | refine Below.drew ?_ | refine Below.drewN' ?_ _ | refine below_grow0 _ _ ?_ | refine below_alloc0 _ ?_ | refine Below.alloc ?_ (by first | omega | (simp; done) | (simp; omega)) _ | refine Below.setCell ?_ (by first | omega | (simp; done) | (simp; omega)) _ | refine Below.grow _ _ _ ?_ (by first | omega | (simp; done) | (simp; omega))))).mono (by simp; omega), (HO3.out.regrow (Nat.le_refl _) (by simp)).mono (by simp; omega), (by repeat (first | exact Below.refl _ _ | assumption | refine Below.drew ?_ | refine Below.drewN' ?_ _ | refine below_grow0 _ _ ?_ | refine below_alloc0 _ ?_ | refine Below.alloc ?_ (by first | omega | (simp; done) | (simp; omega)) _ | refine Below.setCell ?_ (by first | omega | (simp; done) | (simp; omega)) _ | refine Below.grow _ _ _ ?_ (by first | omega | (simp; done) | (simp; omega))))⟩
    · have hne : (readE f logN != 0) = true := bne_iff_ne.2 h0
      have hne7 : (readE f logN == 7) = false := beq_eq_false_iff_ne.2 h7
      have HI := Lib.hid (show RecIs f [] [] (readE f logN) from .inr (.inl ⟨h7, h0, rfl, rfl, rfl⟩))
      generalize readS f logN = rs at *
      generalize readE f logN = re at *
      clear h hz h7 h0
      go_enter Tryd.func20, Tryd.ntmps20
      go_wp2_with (first | (go_at_call 30; refine (HR.out _ _ (H.out.below (by repeat (first | exact Below.refl _ _ | assumption | refine Below.drew ?_ | refine Below.drewN' ?_ _ | refine below_grow0 _ _ ?_ | refine below_alloc0 _ ?_ | refine Below.alloc ?_ (by first | omega | (simp; done) | (simp; omega)) _ | refine Below.setCell ?_ (by first | omega | (simp; done) | (simp; omega)) _ | refine Below.grow _ _ _ ?_ (by first | omega | (simp; done) | (simp; omega)))))).mono ?_; rintro e w1 ⟨rfl, hb1⟩; obtain ⟨ext1, d1, rfl⟩ := Below.grown_eq _ hb1; clear hb1 HR))
      refine bodyPost_ret (v := .tuple #[.slice none ([] : List Txn).length 0, .agg #[.slice none ([] : List File).length 0], .int .i64 re]) (by simp [results, Tryd.results20, go_sem]) rfl ⟨none, 0, ([] : List Txn), none, 0, ([] : List File), re, rfl, HI.out, Ow.nil _ _ _ _ _, Ow.nil _ _ _ _ _, (by repeat (first | exact Below.refl _ _ | assumption | refine Below.drew ?_ | refine Below.drewN' ?_ _ | refine below_grow0 _ _ ?_ | refine below_alloc0 _ ?_ | refine Below.alloc ?_ (by first | omega | (simp; done) | (simp; omega)) _ | refine Below.setCell ?_ (by first | omega | (simp; done) | (simp; omega)) _ | refine Below.grow _ _ _ ?_ (by first | omega | (simp; done) | (simp; omega))))⟩
end Go.Proofs.YtkoemhdchoicaaaDoor

/- the laws' sameLog. -/
namespace Go.Proofs.YtkoemhdchoicaaaDoor
open Go.RowKit Go.ChangeShapes Go.WideShapes Go.ChangeAt
theorem sameLog_eq (v v2 : Value) (l : List Txn) (w : World) (h : Sl cTxn 7 w v l) (h2 : Sl cTxn 7 w v2 l) (hn : l.length ≤ 140737488355328) :
    Calls Tryd.prog 12 #[v, v2] w fun e w' => e = .returned (.bool true) ∧ Below w.heap.size w w' := by
  obtain ⟨A, c, rfl, hc1, hc2⟩ := h.form
  obtain ⟨A2, c2, rfl, hc3, hc4⟩ := h2.form
  have H := Lib.hid h
  have H2 := Lib.hid h2
  clear h h2
  go_enter Tryd.func12, Tryd.ntmps12
  go_wp2_with fail
  go_loopw [5] (fun i wr => ∃ (k : Nat) (ext : Array Obj) (d : Nat), k ≤ l.length ∧ i = .int .i64 k ∧ wr = grow w ext d) (fun i _ => l.length - (intOf i).toNat)
  case atStart => exact ⟨0, _, _, Nat.zero_le _, rfl, grown_of (by repeat (first | exact Below.refl _ _ | assumption | refine Below.drew ?_ | refine Below.drewN' ?_ _ | refine below_grow0 _ _ ?_ | refine below_alloc0 _ ?_ | refine Below.alloc ?_ (by first | omega | (simp; done) | (simp; omega)) _ | refine Below.setCell ?_ (by first | omega | (simp; done) | (simp; omega)) _ | refine Below.grow _ _ _ ?_ (by first | omega | (simp; done) | (simp; omega))))⟩
  case round =>
    obtain ⟨k, ext, d, hk, rfl, rfl⟩ := hrel
    by_cases hlt : k < l.length
    · have hx : l[k]? = some (l[k]'hlt) := List.getElem?_eq_getElem _
      obtain ⟨b, off, rfl, _, x0, x1, x2, x3, x4, x5, x6⟩ := H.out.Txn_at hx
      obtain ⟨b2, off2, rfl, _, y0, y1, y2, y3, y4, y5, y6⟩ := H2.out.Txn_at hx
      generalize l[k]'hlt = x at *
      clear hx
      go_wp2_with fail
      go_quiet (fail)
      go_wp2_with fail
      go_roundw
      case rel => exact ⟨k + 1, _, _, by omega, by go_num, grown_of (by repeat (first | exact Below.refl _ _ | assumption | refine Below.drew ?_ | refine Below.drewN' ?_ _ | refine below_grow0 _ _ ?_ | refine below_alloc0 _ ?_ | refine Below.alloc ?_ (by first | omega | (simp; done) | (simp; omega)) _ | refine Below.setCell ?_ (by first | omega | (simp; done) | (simp; omega)) _ | refine Below.grow _ _ _ ?_ (by first | omega | (simp; done) | (simp; omega))))⟩
      case measure => simp [intOf]; omega
    · go_wp2_with fail
      go_ret
      exact ⟨rfl, (by repeat (first | exact Below.refl _ _ | assumption | refine Below.drew ?_ | refine Below.drewN' ?_ _ | refine below_grow0 _ _ ?_ | refine below_alloc0 _ ?_ | refine Below.alloc ?_ (by first | omega | (simp; done) | (simp; omega)) _ | refine Below.setCell ?_ (by first | omega | (simp; done) | (simp; omega)) _ | refine Below.grow _ _ _ ?_ (by first | omega | (simp; done) | (simp; omega))))⟩
end Go.Proofs.YtkoemhdchoicaaaDoor
