/- Lemmas for the statement: Clear, T5, T4, T4F, T5F, Shelf, Bs, T3, T3F, Clone, Client, Cache, Cache2, Caching, Order, PathA, Disk, Disk2, Disk3, Disk4. -/
import Derived.Shelf.Small.Strs
import Derived.Shelf.Strings.Search1
import Derived.Shelf.Strings.Search2
import Derived.Shelf.Strings.Search3
import Derived.Shelf.LaysM
import Derived.Shelf.Strings.Shaped
import Derived.Shelf.Strings.Prefix
import Derived.Shelf.Unicode.DecodeSlow
import Derived.Test.YtfaghpdhinfblaaDoorProg
import Derived.Deep.RegionHeld3
import Derived.Lib.ConvBytes
import Derived.Laws.IdiomStrings
import Derived.Test.YtfaghpdhinfblaaDoorPt1
/- clear(s[i:]) on a row that is known whole. -/
namespace Go.Proofs.YtfaghpdhinfblaaDoor
open Go.RowKit
section
variable {P : Program}
theorem zeros_len {z : Value} {s : Nat} (hs : z.cells.size = s) (n : Nat) : (Builtin.zeroCells z.cells n).toList.length = n * s := by simp [size_zeroCells, hs]
theorem run_clear_blk {w : World} {t ty e : TypeId} {z : Value} {s bytes g o n c : Nat} {cur : List Value} {et : TypeId} (E : El P t e z s bytes) (hg : Bk w g cur et) (h1 : ∀ v ∈ z.cells, v.oneCell' = true) (hn : 0 < n) (hfit : o + n * s ≤ cur.length) :
    (Builtin.clear_ #[t] ty #[.slice (some ⟨g, o, none⟩) n c]).run P w = .ok (.tuple #[]) (w.setRow g (splice cur o (Builtin.zeroCells z.cells n).toList).toArray) := by
  obtain ⟨i, hi, hz, hsz, _⟩ := info_of E.info
  obtain ⟨m, rfl⟩ : ∃ m, n = m + 1 := ⟨n - 1, by omega⟩
  have hst := run_storeCells_at P g o et (Builtin.zeroCells z.cells (m + 1)).toList 0 cur.toArray w hg (by rw [zeros_len E.cells]; simpa using hfit) (by
    intro v hv
    rw [Array.mem_toList_iff] at hv
    simp only [Builtin.zeroCells, Array.mem_map, Array.mem_range] at hv
    obtain ⟨k, _, rfl⟩ := hv
    have hlt : k % z.cells.size < z.cells.size := Nat.mod_lt _ (by rw [E.cells]; exact E.pos)
    rw [getElem!_pos z.cells _ hlt]
    exact h1 _ (Array.getElem_mem _))
  simp [Builtin.clear_, run_underlying E.slice, zeroValue, typeInfo, hi, hz, hst, splice]
theorem run_clear_none {w : World} {t ty e : TypeId} {z : Value} {s bytes c : Nat} {A : Option Addr} (E : El P t e z s bytes) : (Builtin.clear_ #[t] ty #[.slice A 0 c]).run P w = .ok (.tuple #[]) w := by
  cases A <;> simp [Builtin.clear_, run_underlying E.slice]
theorem wp_clr {w : World} {o : Oper} {a : Act} {K : Act → World → Prop} {Q : Exit → Act → World → Prop} (d : Operand) (t : TypeId)
    (ho : o.op = .call { callee := .builtin .clear, args := #[d], argTypes := #[t] }) {e : TypeId} {z : Value} {s bytes : Nat} (E : El P t e z s bytes) {g off n c : Nat} {cur : List Value} {et : TypeId}
    (hd : a.eval d = .slice (some ⟨g, off, none⟩) n c) (hg : Bk w g cur et) (h1 : ∀ v ∈ z.cells, v.oneCell' = true) (hfit : off + n * s ≤ cur.length)
    (h : ∀ w' cur', Bk w' g cur' et → cur'.length = cur.length → cur'.take off = cur.take off → w.grownBy w' (some g) → w'.heap.size = w.heap.size → K (a.put o.dst (.tuple #[])) w') : o.wp P a w K Q := by
  rcases Nat.eq_zero_or_pos n with rfl | hn
  · have hr := run_clear_none (P := P) (w := w) (ty := o.type) (c := c) (A := some ⟨g, off, none⟩) E
    unfold Oper.wp execOp
    simp only [ho, resolve, invoke, builtin, Sem.run_bind, Sem.run_pure, Result.andThen_ok, List.map_toArray, List.map_cons, List.map_nil, hd, hr]
    exact h _ _ hg rfl rfl ⟨rfl, rfl, rfl, Nat.le_refl _, fun _ _ _ => rfl⟩ rfl
  · have hr := run_clear_blk (P := P) (ty := o.type) (c := c) E hg h1 hn hfit
    unfold Oper.wp execOp
    simp only [ho, resolve, invoke, builtin, Sem.run_bind, Sem.run_pure, Result.andThen_ok, List.map_toArray, List.map_cons, List.map_nil, hd, hr]
    have hz := zeros_len E.cells n
    refine h _ _ hg.setRow (splice_length _ _ _ (by rw [hz]; exact hfit)) ?_ (setRow_grown _ _ _) (by simp [World.setRow])
    unfold splice
    rw [List.take_append_of_le_length (by simp; omega), List.take_take, Nat.min_self]
theorem wpList_clr {w : World} {ops : Array Oper} {rest : List Oper} {o : Oper} {a : Act} {Q : Exit → Act → World → Prop} (hgd : o.guard = none) (d : Operand) (t : TypeId)
    (ho : o.op = .call { callee := .builtin .clear, args := #[d], argTypes := #[t] }) {e : TypeId} {z : Value} {s bytes : Nat} (E : El P t e z s bytes) {g off n c : Nat} {cur : List Value} {et : TypeId}
    (hd : a.eval d = .slice (some ⟨g, off, none⟩) n c) (hg : Bk w g cur et) (h1 : ∀ v ∈ z.cells, v.oneCell' = true) (hfit : off + n * s ≤ cur.length)
    (h : ∀ w' cur', Bk w' g cur' et → cur'.length = cur.length → cur'.take off = cur.take off → w.grownBy w' (some g) → w'.heap.size = w.heap.size → wpList P ops Q rest (a.put o.dst (.tuple #[])) w') : wpList P ops Q (o :: rest) a w :=
  wpList_plain hgd fun _ hK => wp_clr d t ho E hd hg h1 hfit fun w' cur' h2 h3 h4 h5 h6 => hK _ _ (h w' cur' h2 h3 h4 h5 h6)
theorem wpList_atclr {ops : Array Oper} {rest : List Oper} {d : Option Tmp} {args : Array Operand} {ts : Array TypeId} {ty : TypeId} {pos : String} {af : Array Edge} {g : Option (Nat × Bool)} {a : Act} {w : World} {Q : Exit → Act → World → Prop}
    (h : wpList P ops Q (⟨d, .call { callee := .builtin .clear, args := args, argTypes := ts }, ty, pos, af, g⟩ :: rest) a w) : wpList P ops Q (⟨d, .call { callee := .builtin .clear, args := args, argTypes := ts }, ty, pos, af, g⟩ :: rest) a w := h
end
end Go.Proofs.YtfaghpdhinfblaaDoor

/- slices.Delete of one element, at Entry: on a row of the call's own. -/
namespace Go.Proofs.YtfaghpdhinfblaaDoor
open Go.RowKit
theorem step_apr {P : Program} {w : World} {ops : Array Oper} {o : Oper} {a : Act} {K : Act → World → Prop} {Q : Exit → Act → World → Prop} {EE : Prop} (hgd : o.guard = none) (sv x : Operand) (t : TypeId)
    (ho : o.op = .call { callee := .builtin .append, args := #[sv, x], argTypes := #[t, t] }) {e : TypeId} {z : Value} {s bytes : Nat} (E : El P t e z s bytes) {g k c off m cc : Nat} {cur news : List Value} {et : TypeId}
    (hs : a.eval sv = .slice (some ⟨g, 0, none⟩) k c) (hx : a.eval x = .slice (some ⟨g, off, none⟩) m cc) (hg : Bk w g cur et) (hn : news.length = m * s) (hsrc : ∀ j v, news[j]? = some v → cur[off + j]? = some v)
    (hroom : k + m ≤ c) (hfit : k * s + news.length ≤ cur.length) (h1 : ∀ v ∈ news, v.oneCell' = true)
    (h : ∀ w', Bk w' g (splice cur (k * s) news) et → w.grownBy w' (some g) → w'.heap.size = w.heap.size → K (a.put o.dst (.slice (some ⟨g, 0, none⟩) (k + m) c)) w') : if Region.wanted o (yielded ops a.tmps) = true then Oper.wp P o a w K Q else EE := by
  obtain ⟨i, hi, _, hsz, _⟩ := info_of E.info
  refine step_append_room hgd sv x t ho e i s E.slice hi hsz g 0 k c hs ⟨g, off, none⟩ m cc news hx hn (fun j u hu => ?_) h1 hroom (fun j hj => ?_) ?_
  · rw [Addr.add_lit, hg.cell]
    exact hsrc j u hu
  · rw [Nat.zero_add, hg.cell, hg.frozen]
    refine ⟨?_, rfl⟩
    rw [List.getElem?_eq_getElem (by omega)]
    rfl
  · rw [Nat.zero_add]
    refine h _ (hg.puts news (k * s) hfit) (grownBy_setCells g news (k * s) w) ?_
    have key : ∀ (vs : List Value) (o : Nat) (w : World), (w.setCells g o vs).heap.size = w.heap.size := by
      intro vs
      induction vs with
      | nil => intro o w; rfl
      | cons v r ih => intro o w; rw [World.setCells, ih]; simp [World.setCell]
    exact key _ _ _
theorem drop_rows {α : Type} {f : α → List Value} {s : Nat} {l : List α} (hf : ∀ x ∈ l, (f x).length = s) (k : Nat) : (l.flatMap f).drop (k * s) = (l.drop k).flatMap f := by
  rcases Nat.lt_or_ge l.length k with h | h
  · rw [List.drop_eq_nil_of_le (by rw [flatMap_length hf]; exact Nat.mul_le_mul_right s (by omega)), List.drop_eq_nil_of_le (by omega)]
    rfl
  · have e : l.flatMap f = (l.take k).flatMap f ++ (l.drop k).flatMap f := by rw [← List.flatMap_append, List.take_append_drop]
    rw [e, ← show ((l.take k).flatMap f).length = k * s from by rw [flatMap_length (fun x hx => hf x (List.mem_of_mem_take hx)), List.length_take, Nat.min_eq_left h], List.drop_left]
theorem take_rows2 {α : Type} {f : α → List Value} {s : Nat} {l : List α} (hf : ∀ x ∈ l, (f x).length = s) {k : Nat} (h : k ≤ l.length) (J : List Value) : (l.flatMap f ++ J).take (k * s) = (l.take k).flatMap f := by
  have e : l.flatMap f = (l.take k).flatMap f ++ (l.drop k).flatMap f := by rw [← List.flatMap_append, List.take_append_drop]
  rw [e, List.append_assoc, ← show ((l.take k).flatMap f).length = k * s from by rw [flatMap_length (fun x hx => hf x (List.mem_of_mem_take hx)), List.length_take, Nat.min_eq_left h], List.take_left]
end Go.Proofs.YtfaghpdhinfblaaDoor

namespace Go.Proofs.YtfaghpdhinfblaaDoor
open Go.RowKit
end Go.Proofs.YtfaghpdhinfblaaDoor

/- made by geninst.py from XT4.src -/
namespace Go.Proofs.YtfaghpdhinfblaaDoor
open Go.RowKit
set_option maxHeartbeats 1000000 in
theorem insFile_end (A : Option Addr) (n c : Nat) (l : List File) (x : File) (w : World) (B vb : Nat) (hown : Ow cFile 3 58 w B (.slice A n c) l) (hl : n = l.length) (hv : Bk w vb (cFile x) 58)
    (hB : B ≤ w.heap.size) (hn : (n + 1) * 48 ≤ 140737488355328) :
    Calls Tryd.prog 35 #[.slice A n c, .int .i64 n, .slice (some ⟨vb, 0, none⟩) 1 1] w (Rowed cFile 3 58 B (n + 1) (l ++ [x]) (Value.slice A n c).ownBlock w) := by
  have H := Lib.hid hown
  obtain ⟨A', c', hf1, hf2, hf3, hf4, hf5⟩ := hown.form
  injection hf1 with e1 e2 e3
  subst e1; subst e3
  have HL := Lib.hid hl
  rw [← hl] at hf2
  have HN := Lib.hid hf4
  clear hl e2 hown hf4 hf5
  by_cases hcn : c = n
  · subst hcn
    go_enter Tryd.func35, Tryd.ntmps35
    go_wp2_with (at_builtin; refine wpList_app _ rfl (.tmp 23) (.tmp 24) _ rfl elFile (l := l) (m := [x]) rfl rfl H.out (Sl.blk rfl hv) cFile_one (by have := HL.out; simp [maxLen]; omega) (by have := HL.out; simp; omega) hB ?_; intro v' w1 hown1 hg1 hat1; obtain ⟨A1, c1, rfl⟩ := Ow.is_slice (m := c + 1) hown1 (by simpa using HL.out.symm); have HO := Lib.hid hown1; have HG := Lib.hid hg1; have HT := Lib.hid hat1; clear hown1 hg1 hat1)
    go_ret
    exact ⟨A1, c1, rfl, HO.out, HG.out, HT.out⟩
  · go_enter Tryd.func35, Tryd.ntmps35
    go_wp2_with (at_builtin; refine wpList_app _ rfl (.tmp 23) (.tmp 24) _ rfl elFile (l := l) (m := [x]) rfl rfl H.out (Sl.blk rfl hv) cFile_one (by have := HL.out; simp [maxLen]; omega) (by have := HL.out; simp; omega) hB ?_; intro v' w1 hown1 hg1 hat1; obtain ⟨A1, c1, rfl⟩ := Ow.is_slice (m := n + 1) hown1 (by simpa using HL.out.symm); have HO := Lib.hid hown1; have HG := Lib.hid hg1; have HT := Lib.hid hat1; clear hown1 hg1 hat1)
    go_ret
    exact ⟨A1, c1, rfl, HO.out, HG.out, HT.out⟩
set_option maxRecDepth 100000 in
set_option maxHeartbeats 1000000 in
theorem insFile_grow (A : Option Addr) (n k : Nat) (l : List File) (x : File) (w : World) (B vb : Nat) (hown : Ow cFile 3 58 w B (.slice A n n) l) (hk : k < n) (hv : Bk w vb (cFile x) 58)
    (hB : B ≤ w.heap.size) (hn : (n + 1) * 48 ≤ 140737488355328) :
    Calls Tryd.prog 35 #[.slice A n n, .int .i64 k, .slice (some ⟨vb, 0, none⟩) 1 1] w (Rowed cFile 3 58 B (n + 1) (l.take k ++ x :: l.drop k) (Value.slice A n n).ownBlock w) := by
  obtain ⟨g, J, rfl, hBg, hbk, hbl, _, hcm, hnl⟩ := hown.blk (by omega)
  have H2 := Lib.hid hown.2
  generalize hcur : l.flatMap cFile ++ J = cur at hbk hbl
  have HC := Lib.hid hcur
  have HL := Lib.hid hnl
  have HBL := Lib.hid hbl
  clear hcur hown hnl hbl
  have ecnt := Lib.hid (show (((n + 1 - k : Nat) : Nat) : Int) = (n : Int) + 1 - (k : Int) by omega)
  have hne : ((k : Int) == (n : Int)) = false := by simp; omega
  have F1 := Lib.hid (flatMap_split H2.out k)
  go_enter Tryd.func35, Tryd.ntmps35
  have hkc : k + (n + 1 - k) = n + 1 := by omega
  have hvg : g < w.heap.size := hbk.lt
  have hvv : vb < w.heap.size := hv.lt
  go_wp2_with (first | (with_reducible refine wpList_atcp ?_); go_loud (refine wpList_cp rfl (.tmp 43) (.tmp 44) _ _ rfl elFile (cs := cFile x) rfl rfl hb1 (by rw [show ∀ q, 1 ≤ q → Nat.min 1 q = 1 from fun q h => Nat.min_eq_left h] <;> first | rfl | omega) (fun j v hj => by show w1.cell? _ = _; rw [Addr.add_lit, Nat.zero_add, (hv.grown hg1 (by simp)).cell]; exact hj) (by have := HBL.out; simp [hz1, cFile]; omega) (cFile_one x) ?_; intro w2 hb2 hg2 hs2) | at_builtin; go_loud (refine wpList_appz rfl (.tmp 34) (.tmp 39) _ _ rfl elFile Tryd.underlying3 (k := k) (c := n) (cnt := n + 1 - k) rfl (by show Value.int _ _ = _; rw [ecnt.out]) hbk (by have := HBL.out; omega) (by omega) (by omega) (by simp [maxLen]; omega) (by omega) ?_; intro w1 Z cap hb1 hz1 hc1 hc2 hg1 hs1))
  have e1 : IntKind.i64.wrap ((k : Int) + 1) = (k : Int) + 1 := by rw [IntKind.wrap_i64]; simp [maxLen] at hcm; omega
  have e2 : ((k : Int) + 1).toNat = k + 1 := by omega
  have e3 : (0 : Int) ≤ (k : Int) + 1 := by omega
  have e4 : (k : Int) + 1 ≤ (n : Int) + 1 := by omega
  have e5 : ¬ cap = k + 1 := by omega
  have e6 : ¬ n = k := by omega
  have e7 : k ≤ n := by omega
  have hcsl : ((l.drop k).flatMap cFile).length = (n - k) * 3 := by rw [flatMap_length (fun y hy => H2.out y (List.mem_of_mem_drop hy)), List.length_drop, HL.out]
  have hcs1 : ∀ v ∈ (l.drop k).flatMap cFile, v.oneCell' = true := by intro v hv; obtain ⟨y, _, hy⟩ := List.mem_flatMap.1 hv; exact cFile_one y v hy
  have hlt : (cur.take (k * 3)).length = k * 3 := by rw [List.length_take, HBL.out]; omega
  have hsl : (splice (cur.take (k * 3) ++ Z) (k * 3) (cFile x)).length = k * 3 + (cap - k) * 3 := by rw [splice_length _ _ _ (by simp only [List.length_append, hlt, hz1]; show k * 3 + 3 ≤ _; omega), List.length_append, hlt, hz1]
  have hgs : Bk w2 g cur 58 := (hbk.grown hg1 (by simp)).grown hg2 (by simp; omega)
  have hsrc : ∀ (j : Nat) (v : Value), ((l.drop k).flatMap cFile)[j]? = some v → cur[k * 3 + j]? = some v := by
    intro j v hj
    rw [F1.out.2, List.getElem?_drop] at hj
    rw [← HC.out, List.getElem?_append_left (List.getElem?_eq_some_iff.1 hj).1]
    exact hj
  have HS := Lib.hid hsl
  have HSR := Lib.hid hsrc
  have HCL := Lib.hid hcsl
  clear hsl hsrc hcsl
  have hb2d : Bk w2.drew w.heap.size (splice (cur.take (k * 3) ++ Z) (k * 3) (cFile x)) 58 := hb2
  go_region_law (go_loud (refine step_cp rfl _ _ _ _ rfl elFile (cs := (l.drop k).flatMap cFile) (off := (k + 1) * 3) (dLen := n + 1 - (k + 1)) (dCap := cap - (k + 1)) (ad := ⟨g, k * 3, none⟩) (sLen := n - k) (sCap := n - k) (by simp [Act.eval, Act.put]) (by simp [Act.eval, Act.put]) hb2d (by rw [HCL.out, show Nat.min (n - k) (n + 1 - (k + 1)) = n - k from Nat.min_eq_left (by omega)]) (fun j v hj => by show w2.cell? _ = _; rw [Addr.add_lit, hgs.cell]; exact HSR.out j v hj) (by rw [HS.out, HCL.out]; omega) hcs1 ?_; intro w3 hb3 hg3 hs3))
  go_wp2
  go_ret
  refine ⟨some ⟨w.heap.size, 0, none⟩, cap, rfl, ?_, ((hg1.but _).andThen hg2 (by simp)).andThen (show w2.grownBy w3 (some w.heap.size) from ⟨hg3.os, hg3.tape, hg3.output, hg3.size, hg3.block⟩) (by simp), .inr rfl⟩
  have hta : cur.take (k * 3) = (l.take k).flatMap cFile := by rw [F1.out.1, ← HC.out, List.take_append_of_le_length (by rw [flatMap_length H2.out, ← HL.out]; omega)]
  have hall : ∀ y ∈ l.take k ++ x :: l.drop k, (cFile y).length = 3 := fun y _ => rfl
  have hlen : (l.take k ++ x :: l.drop k).length = n + 1 := by rw [List.length_append, List.length_take, List.length_cons, List.length_drop, ← HL.out]; omega
  have := Ow.of_blk (B := B) (g := w.heap.size) (c := cap) (J := Z.drop (3 + ((l.drop k).flatMap cFile).length)) hall hB hb3 (by
    have h := ins2 (cur.take (k * 3)) Z ((l.drop k).flatMap cFile) (cFile x)
    rw [hlt] at h
    rw [show (k + 1) * 3 = k * 3 + (cFile x).length from by show _ = k * 3 + 3; omega, h, hta, List.flatMap_append, List.flatMap_cons]
    simp only [List.append_assoc]
    rfl) (by rw [splice_length _ _ _ (by rw [HS.out, HCL.out]; omega), HS.out]; omega) (by rw [hlen]; omega) hc2
  rw [hlen] at this
  exact this
set_option maxRecDepth 100000 in
set_option maxHeartbeats 1000000 in
theorem insFile_room (A : Option Addr) (n k c : Nat) (l : List File) (x : File) (w : World) (B vb : Nat) (hown : Ow cFile 3 58 w B (.slice A n c) l) (hk : k < n) (hc : n < c) (hv : Bk w vb (cFile x) 58) (hvA : (Value.slice A n c).ownBlock ≠ some vb) :
    Calls Tryd.prog 35 #[.slice A n c, .int .i64 k, .slice (some ⟨vb, 0, none⟩) 1 1] w (Rowed cFile 3 58 B (n + 1) (l.take k ++ x :: l.drop k) (Value.slice A n c).ownBlock w) := by
  obtain ⟨g, J, rfl, hBg, hbk, hbl, _, hcm, hnl⟩ := hown.blk (by omega)
  have H2 := Lib.hid hown.2
  have hvg : vb ≠ g := by intro h; exact hvA (by rw [h]; rfl)
  generalize hcur : l.flatMap cFile ++ J = cur at hbk hbl
  have HC := Lib.hid hcur
  have HL := Lib.hid hnl
  have HBL := Lib.hid hbl
  clear hcur hown hnl hbl
  have hne : ((k : Int) == (n : Int)) = false := by simp; omega
  have F1 := Lib.hid (flatMap_split H2.out k)
  have d1 : IntKind.i64.wrap ((n : Int) + 1) = (n : Int) + 1 := by rw [IntKind.wrap_i64]; simp [maxLen] at hcm; omega
  have d2 : ((n : Int) + 1).toNat = n + 1 := by omega
  have d3 : (0 : Int) ≤ (n : Int) + 1 := by omega
  have d4 : (n : Int) + 1 ≤ (c : Int) := by omega
  have d5 : ¬ (c : Int) < (n : Int) + 1 := by omega
  have e1 : IntKind.i64.wrap ((k : Int) + 1) = (k : Int) + 1 := by rw [IntKind.wrap_i64]; simp [maxLen] at hcm; omega
  have e2 : ((k : Int) + 1).toNat = k + 1 := by omega
  have e3 : (0 : Int) ≤ (k : Int) + 1 := by omega
  have e4 : (k : Int) + 1 ≤ (n : Int) + 1 := by omega
  have e5 : ¬ c = k + 1 := by omega
  have e6 : ¬ c = k := by omega
  have e7 : (k : Int) ≤ (n : Int) + 1 := by omega
  have e8 : k ≤ n := by omega
  have hov := fun (off lb cb : Nat) => overlaps_no elFile Tryd.func46 (by kernel_rfl) (by kernel_rfl) (by kernel_rfl) (tB := 4) (by kernel_rfl) hv hbk hvg (by have := HBL.out; omega) off 1 1 lb cb
  go_enter Tryd.func35, Tryd.ntmps35
  go_wp2_with (simp only [hov])
  have hcsl : ((l.drop k).flatMap cFile).length = (n - k) * 3 := by rw [flatMap_length (fun y hy => H2.out y (List.mem_of_mem_drop hy)), List.length_drop, HL.out]
  have hcs1 : ∀ v ∈ (l.drop k).flatMap cFile, v.oneCell' = true := by intro v hv; obtain ⟨y, _, hy⟩ := List.mem_flatMap.1 hv; exact cFile_one y v hy
  have hsl : (splice cur ((k + 1) * 3) ((l.drop k).flatMap cFile)).length = c * 3 := by rw [splice_length _ _ _ (by rw [hcsl, HBL.out]; omega), HBL.out]
  have hsrc : ∀ (j : Nat) (v : Value), ((l.drop k).flatMap cFile)[j]? = some v → cur[k * 3 + j]? = some v := by
    intro j v hj
    rw [F1.out.2, List.getElem?_drop] at hj
    rw [← HC.out, List.getElem?_append_left (List.getElem?_eq_some_iff.1 hj).1]
    exact hj
  have HS := Lib.hid hsl
  have HSR := Lib.hid hsrc
  have HCL := Lib.hid hcsl
  clear hsl hsrc hcsl
  have hbd : Bk w.drew g cur 58 := hbk
  have hvd : Bk w.drew vb (cFile x) 58 := hv
  go_region_law (go_loud (refine step_cp rfl _ _ _ _ rfl elFile (cs := (l.drop k).flatMap cFile) (off := (k + 1) * 3) (dLen := n - k) (dCap := c - (k + 1)) (ad := ⟨g, k * 3, none⟩) (sLen := n + 1 - k) (sCap := c - k) (by simp [Act.eval, Act.put]) (by simp [Act.eval, Act.put]) hbd (by rw [HCL.out, show Nat.min (n + 1 - k) (n - k) = n - k from Nat.min_eq_right (by omega)]) (fun j v hj => by rw [Addr.add_lit, hbd.cell]; exact HSR.out j v hj) (by rw [HBL.out, HCL.out]; omega) hcs1 ?_; intro w3 hb3 hg3 hs3))
  go_wp2_with (first | (with_reducible refine wpList_atcp ?_); go_loud (refine wpList_cp rfl (.tmp 80) (.tmp 81) _ _ rfl elFile (cs := cFile x) (off := k * 3) (dLen := n + 1 - k) (dCap := c - k) rfl rfl hb3 (by rw [show ∀ q, 1 ≤ q → Nat.min 1 q = 1 from fun q h => Nat.min_eq_left h] <;> first | rfl | omega) (fun j v hj => by rw [Addr.add_lit, Nat.zero_add, (hvd.grown hg3 (by simp; exact hvg)).cell]; exact hj) (by rw [HS.out]; show k * 3 + 3 ≤ _; omega) (cFile_one x) ?_; intro w4 hb4 hg4 hs4))
  go_ret
  refine ⟨some ⟨g, 0, none⟩, c, rfl, ?_, (show w.grownBy w3 (some g) from ⟨hg3.os, hg3.tape, hg3.output, hg3.size, hg3.block⟩).trans hg4, .inl rfl⟩
  have hta : cur = (l.take k).flatMap cFile ++ (l.drop k).flatMap cFile ++ J := by rw [← List.flatMap_append, List.take_append_drop, HC.out]
  have hlt : ((l.take k).flatMap cFile).length = k * 3 := by rw [flatMap_length (fun y hy => H2.out y (List.mem_of_mem_take hy)), List.length_take, ← HL.out, Nat.min_eq_left (by omega)]
  have hJ : (cFile x).length ≤ J.length := by
    have h := HBL.out
    rw [hta, List.length_append, List.length_append, hlt, HCL.out] at h
    show 3 ≤ _
    omega
  have hall : ∀ y ∈ l.take k ++ x :: l.drop k, (cFile y).length = 3 := fun y _ => rfl
  have hlen : (l.take k ++ x :: l.drop k).length = n + 1 := by rw [List.length_append, List.length_take, List.length_cons, List.length_drop, ← HL.out]; omega
  have := Ow.of_blk (B := B) (g := g) (c := c) (J := J.drop (cFile x).length) hall hBg hb4 (by
    have h := ins1 ((l.take k).flatMap cFile) ((l.drop k).flatMap cFile) J (cFile x) hJ
    rw [hlt, ← hta] at h
    rw [show (k + 1) * 3 = k * 3 + (cFile x).length from by show _ = k * 3 + 3; omega, h, List.flatMap_append, List.flatMap_cons]
    simp only [List.append_assoc]) (by rw [splice_length _ _ _ (by rw [HS.out]; show k * 3 + 3 ≤ _; omega), HS.out]) (by rw [hlen]; omega) hcm
  rw [hlen] at this
  exact this
theorem insFile (v : Value) (k : Nat) (l : List File) (x : File) (w : World) (B vb : Nat) (hown : Ow cFile 3 58 w B v l) (hk : k ≤ l.length) (hv : Bk w vb (cFile x) 58) (hvA : v.ownBlock ≠ some vb)
    (hB : B ≤ w.heap.size) (hn : (l.length + 1) * 48 ≤ 140737488355328) :
    Calls Tryd.prog 35 #[v, .int .i64 k, .slice (some ⟨vb, 0, none⟩) 1 1] w (Rowed cFile 3 58 B (l.length + 1) (l.take k ++ x :: l.drop k) v.ownBlock w) := by
  obtain ⟨A, c, rfl, h2⟩ := hown.form
  rcases Nat.lt_or_ge k l.length with h | h
  · obtain ⟨g, J, rfl, _, _, _, hnc, _, _⟩ := hown.blk (by omega)
    by_cases hc : c = l.length
    · subst hc
      exact insFile_grow _ _ k l x w B vb hown h hv hB hn
    · exact insFile_room _ _ k c l x w B vb hown h (by omega) hv hvA
  · obtain rfl : k = l.length := by omega
    rw [List.take_length, List.drop_length]
    exact insFile_end _ _ c l x w B vb hown rfl hv hB hn
end Go.Proofs.YtfaghpdhinfblaaDoor

/- made by geninst.py from XT5.src -/
namespace Go.Proofs.YtfaghpdhinfblaaDoor
open Go.RowKit
end Go.Proofs.YtfaghpdhinfblaaDoor

/-
  DERIVED: THE SHELF's CONTRACTS AT THIS DUMP, IN PLAIN WORDS (tools/lay-plain.mjs out of 'TrydShelf.lean', which tools/lay-shelf.mjs wrote): THE SAME DECLARATIONS UNDER THE SAME NAMES: 'import', 'namespace', 'open', 'def', 'theorem' AND NOTHING ELSE: no command of the shelf's: FOR A HAND-IN. Each laying: the table of numbers ('.._ren') and one theorem, a field a fact of the dump's own or the kernel's comparison; each contract: ONE APPLICATION.
-/
namespace Go.Proofs
open Go.Shelf
def Tryd.lays213_ren : Go.Shelf.Ren := ⟨fun | 213 => 50 | 265 => 54 | n => n, fun | 9 => 9 | 3 => 3 | n => n, fun | n => n⟩
theorem Tryd.lays213 : Go.Proofs.Lays.n213 Tryd.prog Tryd.lays213_ren := {
  mixed := by kernel_rfl
  f213 := Tryd.func50.trans (congrArg some (by kernel_rfl))
  f265 := Tryd.func54.trans (congrArg some (by kernel_rfl))
  t3 := Tryd.underlying3
  a3 := Tryd.isAgg3
  z3 := Tryd.sizeOf3
  v3 := Tryd.zeroValue3
  t9 := Tryd.underlying9
  a9 := Tryd.isAgg9
  z9 := Tryd.sizeOf9
  v9 := Tryd.zeroValue9 }
open Go.RowKit in
/-- internal/bytealg.CompareString (what strings.Compare calls): IT RETURNS 'Lib.compareBytes a b'; the world is as it was. (LAID: no walk: one application.) -/
theorem Tryd.bytealg_CompareString (a b : ByteArray) (w : World) :
    Calls Tryd.prog 50 #[.string a, .string b] w fun e w' => e = .returned (.int .i64 (Lib.compareBytes a.data.toList b.data.toList)) ∧ w' = w := Any.bytealg_CompareString Tryd.lays213 a b w
def Tryd.lays106_ren : Go.Shelf.Ren := ⟨fun | 106 => 41 | 213 => 50 | 265 => 54 | n => n, fun | 9 => 9 | 3 => 3 | n => n, fun | n => n⟩
theorem Tryd.lays106 : Go.Proofs.Lays.n106 Tryd.prog Tryd.lays106_ren := {
  mixed := by kernel_rfl
  f106 := Tryd.func41.trans (congrArg some (by kernel_rfl))
  f213 := Tryd.func50.trans (congrArg some (by kernel_rfl))
  f265 := Tryd.func54.trans (congrArg some (by kernel_rfl))
  t3 := Tryd.underlying3
  a3 := Tryd.isAgg3
  z3 := Tryd.sizeOf3
  v3 := Tryd.zeroValue3
  t9 := Tryd.underlying9
  a9 := Tryd.isAgg9
  z9 := Tryd.sizeOf9
  v9 := Tryd.zeroValue9 }
open Go.RowKit in
/-- strings.Compare: "Compare returns an integer comparing two strings lexicographically. The result will be 0 if a == b, -1 if a < b, and +1 if a > b.": IT RETURNS 'Lib.compareBytes a b'; the world is as it was. (LAID: no walk: one application.) -/
theorem Tryd.strings_Compare (a b : ByteArray) (w : World) :
    Calls Tryd.prog 41 #[.string a, .string b] w fun e w' => e = .returned (.int .i64 (Lib.compareBytes a.data.toList b.data.toList)) ∧ w' = w := Any.strings_Compare Tryd.lays106 a b w
def Tryd.lays217_ren : Go.Shelf.Ren := ⟨fun | 217 => 61 | 266 => 65 | n => n, fun | 9 => 9 | 5 => 5 | 3 => 3 | n => n, fun | n => n⟩
theorem Tryd.lays217 : Go.Proofs.Lays.n217 Tryd.prog Tryd.lays217_ren := {
  mixed := by kernel_rfl
  f217 := Tryd.func61.trans (congrArg some (by kernel_rfl))
  f266 := Tryd.func65.trans (congrArg some (by kernel_rfl))
  t3 := Tryd.underlying3
  a3 := Tryd.isAgg3
  z3 := Tryd.sizeOf3
  v3 := Tryd.zeroValue3
  t5 := Tryd.underlying5
  a5 := Tryd.isAgg5
  z5 := Tryd.sizeOf5
  v5 := Tryd.zeroValue5
  t9 := Tryd.underlying9
  a9 := Tryd.isAgg9
  z9 := Tryd.sizeOf9
  v9 := Tryd.zeroValue9 }
open Go.RowKit Go.Lib in
/-- internal/stringslite.IndexByte (what strings.IndexByte calls): IT RETURNS 'Lib.indexByte s c'; the world is as it was. (LAID: no walk: one application.) -/
theorem Tryd.stringslite_IndexByte (s : ByteArray) (c : Int) (w : World) :
    Calls Tryd.prog 61 #[.string s, .int .u8 c] w fun e w' => e = .returned (.int .i64 (Lib.indexByte s.data.toList c.toNat.toUInt8)) ∧ w' = w := Any.stringslite_IndexByte Tryd.lays217 s c w
def Tryd.lays224_ren : Go.Shelf.Ren := ⟨fun | 224 => 63 | n => n, fun | 3 => 3 | n => n, fun | n => n⟩
theorem Tryd.lays224 : Go.Proofs.Lays.n224 Tryd.prog Tryd.lays224_ren := {
  mixed := by kernel_rfl
  f224 := Tryd.func63.trans (congrArg some (by kernel_rfl))
  t3 := Tryd.underlying3
  a3 := Tryd.isAgg3
  z3 := Tryd.sizeOf3
  v3 := Tryd.zeroValue3 }
open Go.RowKit Go.Lib in
/-- internal/bytealg.Cutover: "Cutover reports the number of failures of IndexByte we should tolerate before switching over to Index. n is the number of bytes processed so far.": on amd64: (n + 16) / 8. (LAID: no walk: one application.) -/
theorem Tryd.bytealg_Cutover (n : Int) (h0 : 0 ≤ n) (h1 : n < 4611686018427387904) (w : World) :
    Calls Tryd.prog 63 #[.int .i64 n] w fun e w' => e = .returned (.int .i64 ((n + 16) / 8)) ∧ w' = w := Any.bytealg_Cutover Tryd.lays224 n h0 h1 w
def Tryd.lays314_ren : Go.Shelf.Ren := ⟨fun | 314 => 66 | n => n, fun | 9 => 9 | 51 => 75 | 3 => 3 | 4 => 4 | 5 => 5 | 46 => 74 | n => n, fun | n => n⟩
theorem Tryd.lays314 : Go.Proofs.Lays.n314 Tryd.prog Tryd.lays314_ren := {
  mixed := by kernel_rfl
  f314 := Tryd.func66.trans (congrArg some (by kernel_rfl))
  t3 := Tryd.underlying3
  a3 := Tryd.isAgg3
  z3 := Tryd.sizeOf3
  v3 := Tryd.zeroValue3
  t4 := Tryd.underlying4
  a4 := Tryd.isAgg4
  z4 := Tryd.sizeOf4
  v4 := Tryd.zeroValue4
  t5 := Tryd.underlying5
  a5 := Tryd.isAgg5
  z5 := Tryd.sizeOf5
  v5 := Tryd.zeroValue5
  t9 := Tryd.underlying9
  a9 := Tryd.isAgg9
  z9 := Tryd.sizeOf9
  v9 := Tryd.zeroValue9
  t46 := Tryd.underlying74
  a46 := Tryd.isAgg74
  z46 := Tryd.sizeOf74
  v46 := Tryd.zeroValue74
  t51 := Tryd.underlying75
  a51 := Tryd.isAgg75
  z51 := Tryd.sizeOf75
  v51 := Tryd.zeroValue75 }
open Go.RowKit Go.Lib in
/-- hashStr: "returns the hash and the appropriate multiplicative factor for use in Rabin-Karp algorithm": THE HASH OF ALL OF sep, AND 16777619 ^ len(sep), both in uint32. (LAID: no walk: one application.) -/
theorem Tryd.bytealg_hashStr (sep : ByteArray) (hs : sep.size < 4294967281) (w : World) :
    Calls Tryd.prog 66 #[.string sep] w fun e w' => e = .returned (.tuple #[.int .u32 (RK.H sep.data.toList % 4294967296), .int .u32 (16777619 ^ sep.size % 4294967296)]) ∧ w' = w := Any.bytealg_hashStr Tryd.lays314 sep hs w
def Tryd.lays267_ren : Go.Shelf.Ren := ⟨fun | 267 => 64 | 314 => 66 | n => n, fun | 9 => 9 | 3 => 3 | 146 => 97 | 51 => 75 | 4 => 4 | 5 => 5 | 46 => 74 | n => n, fun | n => n⟩
theorem Tryd.lays267 : Go.Proofs.Lays.n267 Tryd.prog Tryd.lays267_ren := {
  mixed := by kernel_rfl
  f267 := Tryd.func64.trans (congrArg some (by kernel_rfl))
  f314 := Tryd.func66.trans (congrArg some (by kernel_rfl))
  t3 := Tryd.underlying3
  a3 := Tryd.isAgg3
  z3 := Tryd.sizeOf3
  v3 := Tryd.zeroValue3
  t4 := Tryd.underlying4
  a4 := Tryd.isAgg4
  z4 := Tryd.sizeOf4
  v4 := Tryd.zeroValue4
  t5 := Tryd.underlying5
  a5 := Tryd.isAgg5
  z5 := Tryd.sizeOf5
  v5 := Tryd.zeroValue5
  t9 := Tryd.underlying9
  a9 := Tryd.isAgg9
  z9 := Tryd.sizeOf9
  v9 := Tryd.zeroValue9
  t46 := Tryd.underlying74
  a46 := Tryd.isAgg74
  z46 := Tryd.sizeOf74
  v46 := Tryd.zeroValue74
  t51 := Tryd.underlying75
  a51 := Tryd.isAgg75
  z51 := Tryd.sizeOf75
  v51 := Tryd.zeroValue75
  t146 := Tryd.underlying97
  a146 := Tryd.isAgg97
  z146 := Tryd.sizeOf97
  v146 := Tryd.zeroValue97 }
open Go.RowKit Go.Lib in
theorem Tryd.bytealg_IndexRabinKarp (s sep : ByteArray) (h1 : 1 ≤ sep.size) (h2 : sep.size ≤ s.size) (hs : s.size < 4294967281) (w : World) :
    Calls Tryd.prog 64 #[.string s, .string sep] w fun e w' => e = .returned (.int .i64 (Lib.index s.data.toList sep.data.toList)) ∧ w' = w := Any.bytealg_IndexRabinKarp Tryd.lays267 s sep h1 h2 hs w
def Tryd.lays219_ren : Go.Shelf.Ren := ⟨fun | 219 => 60 | 217 => 61 | 225 => 62 | 224 => 63 | 267 => 64 | 266 => 65 | 314 => 66 | n => n, fun | 9 => 9 | 3 => 3 | 4 => 4 | 5 => 5 | 46 => 74 | 146 => 97 | 51 => 75 | n => n, fun | 1 => 0 | n => n⟩
theorem Tryd.lays219 : Go.Proofs.Lays.n219 Tryd.prog Tryd.lays219_ren := {
  mixed := by kernel_rfl
  f217 := Tryd.func61.trans (congrArg some (by kernel_rfl))
  f219 := Tryd.func60.trans (congrArg some (by kernel_rfl))
  f224 := Tryd.func63.trans (congrArg some (by kernel_rfl))
  f225 := Tryd.func62.trans (congrArg some (by kernel_rfl))
  f266 := Tryd.func65.trans (congrArg some (by kernel_rfl))
  f267 := Tryd.func64.trans (congrArg some (by kernel_rfl))
  f314 := Tryd.func66.trans (congrArg some (by kernel_rfl))
  t3 := Tryd.underlying3
  a3 := Tryd.isAgg3
  z3 := Tryd.sizeOf3
  v3 := Tryd.zeroValue3
  t4 := Tryd.underlying4
  a4 := Tryd.isAgg4
  z4 := Tryd.sizeOf4
  v4 := Tryd.zeroValue4
  t5 := Tryd.underlying5
  a5 := Tryd.isAgg5
  z5 := Tryd.sizeOf5
  v5 := Tryd.zeroValue5
  t9 := Tryd.underlying9
  a9 := Tryd.isAgg9
  z9 := Tryd.sizeOf9
  v9 := Tryd.zeroValue9
  t46 := Tryd.underlying74
  a46 := Tryd.isAgg74
  z46 := Tryd.sizeOf74
  v46 := Tryd.zeroValue74
  t51 := Tryd.underlying75
  a51 := Tryd.isAgg75
  z51 := Tryd.sizeOf75
  v51 := Tryd.zeroValue75
  t146 := Tryd.underlying97
  a146 := Tryd.isAgg97
  z146 := Tryd.sizeOf97
  v146 := Tryd.zeroValue97
  g1 := by kernel_rfl }
open Go.RowKit Go.Lib in
/-- internal/stringslite.Index (what strings.Index calls) AT A substr OF ONE BYTE c: IT RETURNS 'Lib.indexByte s c'; the world is as it was. (LAID: no walk: one application.) -/
theorem Tryd.stringslite_Index_one (s : ByteArray) (c : UInt8) (w : World) :
    Calls Tryd.prog 60 #[.string s, .string ⟨#[c]⟩] w fun e w' => e = .returned (.int .i64 (Lib.indexByte s.data.toList c)) ∧ w' = w := Any.stringslite_Index_one Tryd.lays219 s c w
open Go.RowKit Go.Lib in
/-- internal/stringslite.Index (what strings.Index calls) AT A substr OF WHATEVER LENGTH: IT RETURNS 'Lib.index s substr'; the world is as it was. 'm': what internal/bytealg.MaxLen holds: whatever. (LAID: no walk: one application.) -/
theorem Tryd.stringslite_Index (s sub : ByteArray) (m : Int) (w : World) (hs : s.size < 4294967281) (hm : w.cell? ⟨0, 0, none⟩ = some (.int .i64 m)) :
    Calls Tryd.prog 60 #[.string s, .string sub] w fun e w' => e = .returned (.int .i64 (Lib.index s.data.toList sub.data.toList)) ∧ w' = w := Any.stringslite_Index Tryd.lays219 s sub m w hs hm
def Tryd.lays143_ren : Go.Shelf.Ren := ⟨fun | 143 => 57 | 219 => 60 | 217 => 61 | 225 => 62 | 224 => 63 | 267 => 64 | 266 => 65 | 314 => 66 | n => n, fun | 9 => 9 | 3 => 3 | 4 => 4 | 5 => 5 | 46 => 74 | 146 => 97 | 51 => 75 | n => n, fun | 1 => 0 | n => n⟩
theorem Tryd.lays143 : Go.Proofs.Lays.n143 Tryd.prog Tryd.lays143_ren := {
  mixed := by kernel_rfl
  f143 := Tryd.func57.trans (congrArg some (by kernel_rfl))
  f217 := Tryd.func61.trans (congrArg some (by kernel_rfl))
  f219 := Tryd.func60.trans (congrArg some (by kernel_rfl))
  f224 := Tryd.func63.trans (congrArg some (by kernel_rfl))
  f225 := Tryd.func62.trans (congrArg some (by kernel_rfl))
  f266 := Tryd.func65.trans (congrArg some (by kernel_rfl))
  f267 := Tryd.func64.trans (congrArg some (by kernel_rfl))
  f314 := Tryd.func66.trans (congrArg some (by kernel_rfl))
  t3 := Tryd.underlying3
  a3 := Tryd.isAgg3
  z3 := Tryd.sizeOf3
  v3 := Tryd.zeroValue3
  t4 := Tryd.underlying4
  a4 := Tryd.isAgg4
  z4 := Tryd.sizeOf4
  v4 := Tryd.zeroValue4
  t5 := Tryd.underlying5
  a5 := Tryd.isAgg5
  z5 := Tryd.sizeOf5
  v5 := Tryd.zeroValue5
  t9 := Tryd.underlying9
  a9 := Tryd.isAgg9
  z9 := Tryd.sizeOf9
  v9 := Tryd.zeroValue9
  t46 := Tryd.underlying74
  a46 := Tryd.isAgg74
  z46 := Tryd.sizeOf74
  v46 := Tryd.zeroValue74
  t51 := Tryd.underlying75
  a51 := Tryd.isAgg75
  z51 := Tryd.sizeOf75
  v51 := Tryd.zeroValue75
  t146 := Tryd.underlying97
  a146 := Tryd.isAgg97
  z146 := Tryd.sizeOf97
  v146 := Tryd.zeroValue97
  g1 := by kernel_rfl }
open Go.RowKit Go.Lib in
/-- strings.Index: "Index returns the index of the first instance of substr in s, or -1 if substr is not present in s.": AT A substr OF ONE BYTE c: IT RETURNS 'Lib.indexByte s c'; the world is as it was. (LAID: no walk: one application.) -/
theorem Tryd.strings_Index_one (s : ByteArray) (c : UInt8) (w : World) :
    Calls Tryd.prog 57 #[.string s, .string ⟨#[c]⟩] w fun e w' => e = .returned (.int .i64 (Lib.indexByte s.data.toList c)) ∧ w' = w := Any.strings_Index_one Tryd.lays143 s c w
open Go.RowKit Go.Lib in
/-- strings.Index: "Index returns the index of the first instance of substr in s, or -1 if substr is not present in s.": IT RETURNS 'Lib.index s substr'; the world is as it was. (LAID: no walk: one application.) -/
theorem Tryd.strings_Index (s sub : ByteArray) (m : Int) (w : World) (hs : s.size < 4294967281) (hm : w.cell? ⟨0, 0, none⟩ = some (.int .i64 m)) :
    Calls Tryd.prog 57 #[.string s, .string sub] w fun e w' => e = .returned (.int .i64 (Lib.index s.data.toList sub.data.toList)) ∧ w' = w := Any.strings_Index Tryd.lays143 s sub m w hs hm
def Tryd.laysM219_ren : Go.Shelf.Ren := ⟨fun | 219 => 60 | 217 => 61 | 225 => 62 | 224 => 63 | 267 => 64 | 266 => 65 | 314 => 66 | n => n, fun | 9 => 9 | 3 => 3 | 4 => 4 | 5 => 5 | 46 => 74 | 146 => 97 | 51 => 75 | n => n, fun | 1 => 0 | n => n⟩
theorem Tryd.laysM219 : Go.Proofs.LaysM.n219 Tryd.prog Tryd.laysM219_ren := {
  mixed := by kernel_rfl
  f217 := Tryd.func61.trans (congrArg some (by kernel_rfl))
  f219 := Tryd.func60.trans (congrArg some (by kernel_rfl))
  f224 := Tryd.func63.trans (congrArg some (by kernel_rfl))
  f225 := Tryd.func62.trans (congrArg some (by kernel_rfl))
  f266 := Tryd.func65.trans (congrArg some (by kernel_rfl))
  f267 := Tryd.func64.trans (congrArg some (by kernel_rfl))
  f314 := Tryd.func66.trans (congrArg some (by kernel_rfl))
  t3 := Tryd.underlying3
  a3 := Tryd.isAgg3
  z3 := Tryd.sizeOf3
  v3 := Tryd.zeroValue3
  t4 := Tryd.underlying4
  a4 := Tryd.isAgg4
  z4 := Tryd.sizeOf4
  v4 := Tryd.zeroValue4
  t5 := Tryd.underlying5
  a5 := Tryd.isAgg5
  z5 := Tryd.sizeOf5
  v5 := Tryd.zeroValue5
  t9 := Tryd.underlying9
  a9 := Tryd.isAgg9
  z9 := Tryd.sizeOf9
  v9 := Tryd.zeroValue9
  t46 := Tryd.underlying74
  a46 := Tryd.isAgg74
  z46 := Tryd.sizeOf74
  v46 := Tryd.zeroValue74
  t51 := Tryd.underlying75
  a51 := Tryd.isAgg75
  z51 := Tryd.sizeOf75
  v51 := Tryd.zeroValue75
  t146 := Tryd.underlying97
  a146 := Tryd.isAgg97
  z146 := Tryd.sizeOf97
  v146 := Tryd.zeroValue97
  g1 := by kernel_rfl
  i3 := by kernel_rfl
  i4 := by kernel_rfl
  i5 := by kernel_rfl
  i9 := by kernel_rfl
  i46 := by kernel_rfl
  i51 := by kernel_rfl
  i146 := by kernel_rfl
  m1 := by kernel_rfl
  s1_3 := fun w h => Go.Proofs.cell_of_shapedOpen_int (zero := #[.int .i64 0]) (t := 3) h (of_decide_eq_true (by kernel_rfl)) (by kernel_rfl) rfl (by kernel_rfl) (by kernel_rfl) Tryd.underlying3 }
open Go.RowKit Go.Lib in
theorem Tryd.stringslite_Index_shaped (s sub : ByteArray) (w : World) (h : w.ShapedOpen Tryd.prog) (hs : s.size < 4294967281) :
    Calls Tryd.prog 60 #[.string s, .string sub] w fun e w' => e = .returned (.int .i64 (Lib.index s.data.toList sub.data.toList)) ∧ w' = w := Any.stringslite_Index_shaped Tryd.laysM219 s sub w h hs
def Tryd.laysM143_ren : Go.Shelf.Ren := ⟨fun | 143 => 57 | 219 => 60 | 217 => 61 | 225 => 62 | 224 => 63 | 267 => 64 | 266 => 65 | 314 => 66 | n => n, fun | 9 => 9 | 3 => 3 | 4 => 4 | 5 => 5 | 46 => 74 | 146 => 97 | 51 => 75 | n => n, fun | 1 => 0 | n => n⟩
theorem Tryd.laysM143 : Go.Proofs.LaysM.n143 Tryd.prog Tryd.laysM143_ren := {
  mixed := by kernel_rfl
  f143 := Tryd.func57.trans (congrArg some (by kernel_rfl))
  f217 := Tryd.func61.trans (congrArg some (by kernel_rfl))
  f219 := Tryd.func60.trans (congrArg some (by kernel_rfl))
  f224 := Tryd.func63.trans (congrArg some (by kernel_rfl))
  f225 := Tryd.func62.trans (congrArg some (by kernel_rfl))
  f266 := Tryd.func65.trans (congrArg some (by kernel_rfl))
  f267 := Tryd.func64.trans (congrArg some (by kernel_rfl))
  f314 := Tryd.func66.trans (congrArg some (by kernel_rfl))
  t3 := Tryd.underlying3
  a3 := Tryd.isAgg3
  z3 := Tryd.sizeOf3
  v3 := Tryd.zeroValue3
  t4 := Tryd.underlying4
  a4 := Tryd.isAgg4
  z4 := Tryd.sizeOf4
  v4 := Tryd.zeroValue4
  t5 := Tryd.underlying5
  a5 := Tryd.isAgg5
  z5 := Tryd.sizeOf5
  v5 := Tryd.zeroValue5
  t9 := Tryd.underlying9
  a9 := Tryd.isAgg9
  z9 := Tryd.sizeOf9
  v9 := Tryd.zeroValue9
  t46 := Tryd.underlying74
  a46 := Tryd.isAgg74
  z46 := Tryd.sizeOf74
  v46 := Tryd.zeroValue74
  t51 := Tryd.underlying75
  a51 := Tryd.isAgg75
  z51 := Tryd.sizeOf75
  v51 := Tryd.zeroValue75
  t146 := Tryd.underlying97
  a146 := Tryd.isAgg97
  z146 := Tryd.sizeOf97
  v146 := Tryd.zeroValue97
  g1 := by kernel_rfl
  i3 := by kernel_rfl
  i4 := by kernel_rfl
  i5 := by kernel_rfl
  i9 := by kernel_rfl
  i46 := by kernel_rfl
  i51 := by kernel_rfl
  i146 := by kernel_rfl
  m1 := by kernel_rfl
  s1_3 := fun w h => Go.Proofs.cell_of_shapedOpen_int (zero := #[.int .i64 0]) (t := 3) h (of_decide_eq_true (by kernel_rfl)) (by kernel_rfl) rfl (by kernel_rfl) (by kernel_rfl) Tryd.underlying3 }
open Go.RowKit Go.Lib in
theorem Tryd.strings_Index_shaped (s sub : ByteArray) (w : World) (h : w.ShapedOpen Tryd.prog) (hs : s.size < 4294967281) :
    Calls Tryd.prog 57 #[.string s, .string sub] w fun e w' => e = .returned (.int .i64 (Lib.index s.data.toList sub.data.toList)) ∧ w' = w := Any.strings_Index_shaped Tryd.laysM143 s sub w h hs
def Tryd.lays206_ren : Go.Shelf.Ren := ⟨fun | 206 => 51 | n => n, fun | 9 => 9 | 4 => 4 | 3 => 3 | n => n, fun | n => n⟩
theorem Tryd.lays206 : Go.Proofs.Lays.n206 Tryd.prog Tryd.lays206_ren := {
  mixed := by kernel_rfl
  f206 := Tryd.func51.trans (congrArg some (by kernel_rfl))
  t3 := Tryd.underlying3
  a3 := Tryd.isAgg3
  z3 := Tryd.sizeOf3
  v3 := Tryd.zeroValue3
  t4 := Tryd.underlying4
  a4 := Tryd.isAgg4
  z4 := Tryd.sizeOf4
  v4 := Tryd.zeroValue4
  t9 := Tryd.underlying9
  a9 := Tryd.isAgg9
  z9 := Tryd.sizeOf9
  v9 := Tryd.zeroValue9 }
open Go.RowKit Go.Lib in
/-- internal/stringslite.HasPrefix (what strings.HasPrefix calls). (LAID: no walk: one application.) -/
theorem Tryd.stringslite_HasPrefix (s p : ByteArray) (w : World) :
    Calls Tryd.prog 51 #[.string s, .string p] w fun e w' => e = .returned (.bool (Lib.hasPrefix s.data.toList p.data.toList)) ∧ w' = w := Any.stringslite_HasPrefix Tryd.lays206 s p w
def Tryd.lays99_ren : Go.Shelf.Ren := ⟨fun | 99 => 44 | 206 => 51 | n => n, fun | 9 => 9 | 4 => 4 | 3 => 3 | n => n, fun | n => n⟩
theorem Tryd.lays99 : Go.Proofs.Lays.n99 Tryd.prog Tryd.lays99_ren := {
  mixed := by kernel_rfl
  f99 := Tryd.func44.trans (congrArg some (by kernel_rfl))
  f206 := Tryd.func51.trans (congrArg some (by kernel_rfl))
  t3 := Tryd.underlying3
  a3 := Tryd.isAgg3
  z3 := Tryd.sizeOf3
  v3 := Tryd.zeroValue3
  t4 := Tryd.underlying4
  a4 := Tryd.isAgg4
  z4 := Tryd.sizeOf4
  v4 := Tryd.zeroValue4
  t9 := Tryd.underlying9
  a9 := Tryd.isAgg9
  z9 := Tryd.sizeOf9
  v9 := Tryd.zeroValue9 }
open Go.RowKit Go.Lib in
/-- strings.HasPrefix: "HasPrefix reports whether the string s begins with prefix.": IT RETURNS 'Lib.hasPrefix s prefix'; the world is as it was. (LAID: no walk: one application.) -/
theorem Tryd.strings_HasPrefix (s p : ByteArray) (w : World) :
    Calls Tryd.prog 44 #[.string s, .string p] w fun e w' => e = .returned (.bool (Lib.hasPrefix s.data.toList p.data.toList)) ∧ w' = w := Any.strings_HasPrefix Tryd.lays99 s p w
def Tryd.lays260_ren : Go.Shelf.Ren := ⟨fun | 260 => 59 | n => n, fun | 9 => 9 | 21 => 21 | 3 => 3 | 4 => 4 | 5 => 5 | 119 => 92 | 0 => 0 | 46 => 74 | 139 => 95 | 138 => 94 | n => n, fun | 3 => 1 | 4 => 2 | n => n⟩
theorem Tryd.lays260 : Go.Proofs.Lays.n260 Tryd.prog Tryd.lays260_ren := {
  mixed := by kernel_rfl
  f260 := Tryd.func59.trans (congrArg some (by kernel_rfl))
  t0 := Tryd.underlying0
  a0 := Tryd.isAgg0
  z0 := Tryd.sizeOf0
  v0 := Tryd.zeroValue0
  t3 := Tryd.underlying3
  a3 := Tryd.isAgg3
  z3 := Tryd.sizeOf3
  v3 := Tryd.zeroValue3
  t4 := Tryd.underlying4
  a4 := Tryd.isAgg4
  z4 := Tryd.sizeOf4
  v4 := Tryd.zeroValue4
  t5 := Tryd.underlying5
  a5 := Tryd.isAgg5
  z5 := Tryd.sizeOf5
  v5 := Tryd.zeroValue5
  t9 := Tryd.underlying9
  a9 := Tryd.isAgg9
  z9 := Tryd.sizeOf9
  v9 := Tryd.zeroValue9
  t21 := Tryd.underlying21
  a21 := Tryd.isAgg21
  z21 := Tryd.sizeOf21
  v21 := Tryd.zeroValue21
  t46 := Tryd.underlying74
  a46 := Tryd.isAgg74
  z46 := Tryd.sizeOf74
  v46 := Tryd.zeroValue74
  t119 := Tryd.underlying92
  a119 := Tryd.isAgg92
  z119 := Tryd.sizeOf92
  t138 := Tryd.underlying94
  a138 := Tryd.isAgg94
  z138 := Tryd.sizeOf94
  v138 := Tryd.zeroValue94
  t139 := Tryd.underlying95
  a139 := Tryd.isAgg95
  z139 := Tryd.sizeOf95
  v139 := Tryd.zeroValue95
  g3 := by kernel_rfl
  g4 := by kernel_rfl }
open Go.RowKit Go.Lib in
theorem Tryd.utf8_decodeRuneInStringSlow (s : ByteArray) (w : World) (hT : Lib.Utf8Tabs 1 2 w) :
    Calls Tryd.prog 59 #[.string s] w fun e w' => e = .returned (.tuple #[.int .i32 (Lib.decodeGo s).1, .int .i64 (Lib.decodeGo s).2]) ∧ Below w.heap.size w w' := Any.utf8_decodeRuneInStringSlow Tryd.lays260 s w hT
end Go.Proofs

/- The search by halves, as a function on places; the comparing of bytes. -/
namespace Go.Proofs.YtfaghpdhinfblaaDoor
open Go.RowKit
def bsF (lt : Nat → Bool) : Nat → Nat → Nat → Nat
  | 0, i, _ => i
  | f + 1, i, j => if i < j then (if lt ((i + j) / 2) then bsF lt f ((i + j) / 2 + 1) j else bsF lt f i ((i + j) / 2)) else i
theorem bsF_fuel (lt : Nat → Bool) : ∀ (f g i j : Nat), j - i ≤ f → j - i ≤ g → bsF lt f i j = bsF lt g i j
  | 0, 0, i, j, _, _ => rfl
  | 0, g + 1, i, j, h, _ => by
    have : ¬ i < j := by omega
    simp [bsF, this]
  | f + 1, 0, i, j, _, h => by
    have : ¬ i < j := by omega
    simp [bsF, this]
  | f + 1, g + 1, i, j, h, h' => by
    simp only [bsF]
    split
    · split
      · exact bsF_fuel lt f g _ _ (by omega) (by omega)
      · exact bsF_fuel lt f g _ _ (by omega) (by omega)
    · rfl
/-- where the search ends that begins with i and j -/
def bsr (lt : Nat → Bool) (i j : Nat) : Nat := bsF lt (j - i) i j
theorem bsr_end (lt : Nat → Bool) (i j : Nat) (h : ¬ i < j) : bsr lt i j = i := by
  unfold bsr
  rw [show j - i = 0 from by omega]
  rfl
theorem bsr_up (lt : Nat → Bool) (i j : Nat) (h : i < j) (hl : lt ((i + j) / 2) = true) : bsr lt i j = bsr lt ((i + j) / 2 + 1) j := by
  unfold bsr
  obtain ⟨f, hf⟩ : ∃ f, j - i = f + 1 := ⟨j - i - 1, by omega⟩
  rw [hf]
  simp only [bsF, h, hl, if_true]
  exact bsF_fuel lt _ _ _ _ (by omega) (by omega)
theorem bsr_down (lt : Nat → Bool) (i j : Nat) (h : i < j) (hl : lt ((i + j) / 2) = false) : bsr lt i j = bsr lt i ((i + j) / 2) := by
  unfold bsr
  obtain ⟨f, hf⟩ : ∃ f, j - i = f + 1 := ⟨j - i - 1, by omega⟩
  rw [hf]
  simp only [bsF, h, hl, if_true, Bool.false_eq_true, if_false]
  exact bsF_fuel lt _ _ _ _ (by omega) (by omega)
theorem bsr_range (lt : Nat → Bool) : ∀ (f i j : Nat), j - i ≤ f → i ≤ j → i ≤ bsr lt i j ∧ bsr lt i j ≤ j
  | 0, i, j, h, hij => by rw [bsr_end lt i j (by omega)]; omega
  | f + 1, i, j, h, hij => by
    by_cases hlt : i < j
    · cases hl : lt ((i + j) / 2)
      · rw [bsr_down lt i j hlt hl]
        have := bsr_range lt f i ((i + j) / 2) (by omega) (by omega)
        omega
      · rw [bsr_up lt i j hlt hl]
        have := bsr_range lt f ((i + j) / 2 + 1) j (by omega) (by omega)
        omega
    · rw [bsr_end lt i j hlt]; omega
theorem bsr_le (lt : Nat → Bool) (n : Nat) : bsr lt 0 n ≤ n := (bsr_range lt n 0 n (by omega) (by omega)).2
/-- where what is less stands first, the search finds the border -/
theorem bsr_sorted (lt : Nat → Bool) (m : Nat) : ∀ (f i j : Nat), j - i ≤ f → i ≤ m → m ≤ j → (∀ k, k < m → lt k = true) → (∀ k, m ≤ k → k < j → lt k = false) → bsr lt i j = m
  | 0, i, j, h, h1, h2, _, _ => by rw [bsr_end lt i j (by omega)]; omega
  | f + 1, i, j, h, h1, h2, hl, hg => by
    by_cases hlt : i < j
    · cases hx : lt ((i + j) / 2)
      · rw [bsr_down lt i j hlt hx]
        have : m ≤ (i + j) / 2 := by
          rcases Nat.lt_or_ge ((i + j) / 2) m with h3 | h3
          · rw [hl _ h3] at hx; cases hx
          · exact h3
        exact bsr_sorted lt m f i _ (by omega) h1 this hl (fun k hk hk' => hg k hk (by omega))
      · rw [bsr_up lt i j hlt hx]
        have : (i + j) / 2 + 1 ≤ m := by
          rcases Nat.lt_or_ge ((i + j) / 2) m with h3 | h3
          · omega
          · rw [hg _ h3 (by omega)] at hx; cases hx
        exact bsr_sorted lt m f _ j (by omega) this h2 hl hg
    · rw [bsr_end lt i j hlt]; omega
end Go.Proofs.YtfaghpdhinfblaaDoor

namespace Go.Proofs.YtfaghpdhinfblaaDoor
open Go.RowKit
def bs3 (s : ByteArray) : List UInt8 := s.data.toList
def cmpB (a b : ByteArray) : Int := Lib.compareBytes a.data.toList b.data.toList
/-- is the k-th of these texts less? -/
def ltK (ks : List ByteArray) (p : ByteArray) (k : Nat) : Bool := decide (cmpB (ks.getD k ByteArray.empty) p < 0)
def posK (ks : List ByteArray) (p : ByteArray) : Nat := bsr (ltK ks p) 0 ks.length
def isK (ks : List ByteArray) (p : ByteArray) : Bool := decide (posK ks p < ks.length) && decide (cmpB (ks.getD (posK ks p) ByteArray.empty) p = 0)

theorem ltK_of {α : Type} {g : α → ByteArray} {l : List α} {k : Nat} {x : α} (h : l[k]? = some x) (p : ByteArray) : ltK (l.map g) p k = decide (cmpB (g x) p < 0) := by
  unfold ltK
  rw [List.getD_eq_getElem?_getD, List.getElem?_map, h]
  rfl
theorem isK_in {α : Type} {g : α → ByteArray} {l : List α} {p : ByteArray} {k : Nat} {x : α} (hp : posK (l.map g) p = k) (h : l[k]? = some x) : isK (l.map g) p = (cmpB (g x) p == 0) := by
  have hk : k < l.length := (List.getElem?_eq_some_iff.1 h).1
  unfold isK
  rw [hp, List.getD_eq_getElem?_getD, List.getElem?_map, h]
  simp [hk]
  rfl
theorem isK_out {α : Type} {g : α → ByteArray} {l : List α} {p : ByteArray} {k : Nat} (hp : posK (l.map g) p = k) (h : ¬ k < l.length) : isK (l.map g) p = false := by
  unfold isK
  rw [hp]
  simp
  omega
end Go.Proofs.YtfaghpdhinfblaaDoor

/- made by geninst.py from XT3.src -/
namespace Go.Proofs.YtfaghpdhinfblaaDoor
open Go.RowKit
theorem cmpFile (x : File) (p : ByteArray) (w : World) :
    Calls Tryd.prog 40 #[.agg #[.string x.name, .string x.safe, .string x.tail], .string p] w fun e w' => e = .returned (.int .i64 (cmpB x.name p)) ∧ Below w.heap.size w w' := by
  go_enter Tryd.func40, Tryd.ntmps40
  go_wp2_with (go_at_call 41; refine (Tryd.strings_Compare _ _ _).mono ?_; rintro e w1 ⟨rfl, rfl⟩)
  go_ret
  exact ⟨rfl, (by repeat (first | exact Below.refl _ _ | assumption | refine Below.drew ?_ | refine Below.drewN' ?_ _ | refine below_grow0 _ _ ?_ | refine below_alloc0 _ ?_ | refine Below.alloc ?_ (by first | omega | (simp; done) | (simp; omega)) _ | refine Below.setCell ?_ (by first | omega | (simp; done) | (simp; omega)) _ | refine Below.grow _ _ _ ?_ (by first | omega | (simp; done) | (simp; omega))))⟩

set_option maxHeartbeats 1000000 in
theorem bsfFile (v : Value) (l : List File) (p : ByteArray) (w : World) (h : Sl cFile 3 w v l) (hn : l.length ≤ 140737488355328) :
    Calls Tryd.prog 39 #[v, .string p, .func (.func 40) #[] #[]] w fun e w' => e = .returned (.tuple #[.int .i64 (posK (l.map File.name) p), .bool (isK (l.map File.name) p)]) ∧ Below w.heap.size w w' := by
  obtain ⟨A, c, rfl, hc1, hc2⟩ := h.form
  have H := Lib.hid h
  clear h
  go_enter Tryd.func39, Tryd.ntmps39
  go_wp2
  go_loopw [9, 10] (fun i j wr => ∃ (a b : Nat), a ≤ b ∧ b ≤ l.length ∧ i = .int .i64 a ∧ j = .int .i64 b ∧ Hid (bsr (ltK (l.map File.name) p) a b = posK (l.map File.name) p) ∧ Below w.heap.size w wr) (fun i j _ => (intOf j - intOf i).toNat)
  case atStart => exact ⟨0, l.length, Nat.zero_le _, Nat.le_refl _, rfl, rfl, (by simp [posK] : bsr (ltK (l.map File.name) p) 0 l.length = posK (l.map File.name) p), Below.refl _ _⟩
  case round =>
    obtain ⟨a, b, hab, hbl, rfl, rfl, hr, hb⟩ := hrel
    by_cases hlt : a < b
    · have hx : l[(a + b) / 2]? = some (l[(a + b) / 2]'(by omega)) := List.getElem?_eq_getElem _
      obtain ⟨bk, off, rfl, hbw, c0, c1, c2⟩ := (H.out.below hb).File_at hx
      generalize hxe : l[(a + b) / 2]'(by omega) = x at hx c0 c1 c2
      have HX := Lib.hid hx
      clear hx hxe
      go_wp2_with (go_at_call 40; refine (cmpFile _ _ _).mono ?_; rintro e w1 ⟨rfl, hb1⟩; obtain ⟨ext1, d1, rfl⟩ := Below.grown_eq _ hb1)
      all_goals
        have hcmp := ltK_of (g := File.name) HX.out p
        go_roundw
      case rel =>
        have hlt2 : cmpB x.name p < 0 := by assumption
        exact ⟨(a + b) / 2 + 1, b, by omega, by omega, by go_num, rfl, Eq.trans (bsr_up _ _ _ hlt (by rw [hcmp]; simpa using hlt2)).symm hr.out, (by repeat (first | exact Below.refl _ _ | assumption | refine Below.drew ?_ | refine Below.drewN' ?_ _ | refine below_grow0 _ _ ?_ | refine below_alloc0 _ ?_ | refine Below.alloc ?_ (by first | omega | (simp; done) | (simp; omega)) _ | refine Below.setCell ?_ (by first | omega | (simp; done) | (simp; omega)) _ | refine Below.grow _ _ _ ?_ (by first | omega | (simp; done) | (simp; omega))))⟩
      case measure => simp [intOf]; omega
      case rel =>
        have hge2 : 0 ≤ cmpB x.name p := by assumption
        exact ⟨a, (a + b) / 2, by omega, by omega, rfl, by go_num, Eq.trans (bsr_down _ _ _ hlt (by rw [hcmp]; simpa using hge2)).symm hr.out, (by repeat (first | exact Below.refl _ _ | assumption | refine Below.drew ?_ | refine Below.drewN' ?_ _ | refine below_grow0 _ _ ?_ | refine below_alloc0 _ ?_ | refine Below.alloc ?_ (by first | omega | (simp; done) | (simp; omega)) _ | refine Below.setCell ?_ (by first | omega | (simp; done) | (simp; omega)) _ | refine Below.grow _ _ _ ?_ (by first | omega | (simp; done) | (simp; omega))))⟩
      case measure => simp [intOf]; omega
    · obtain rfl : a = b := by omega
      have hpos : posK (l.map File.name) p = a := by rw [← hr.out]; exact bsr_end _ _ _ hlt
      have HP := Lib.hid hpos
      clear hpos hr
      by_cases han : a < l.length
      · have hx : l[a]? = some (l[a]'(by omega)) := List.getElem?_eq_getElem _
        obtain ⟨bk, off, rfl, hbw, c0, c1, c2⟩ := (H.out.below hb).File_at hx
        generalize hxe : l[a]'(by omega) = x at hx c0 c1 c2
        have HX := Lib.hid hx
        clear hx hxe
        go_wp2_with (go_at_call 40; refine (cmpFile _ _ _).mono ?_; rintro e w1 ⟨rfl, hb1⟩; obtain ⟨ext1, d1, rfl⟩ := Below.grown_eq _ hb1)
        go_ret2
        refine ⟨?_, (by repeat (first | exact Below.refl _ _ | assumption | refine Below.drew ?_ | refine Below.drewN' ?_ _ | refine below_grow0 _ _ ?_ | refine below_alloc0 _ ?_ | refine Below.alloc ?_ (by first | omega | (simp; done) | (simp; omega)) _ | refine Below.setCell ?_ (by first | omega | (simp; done) | (simp; omega)) _ | refine Below.grow _ _ _ ?_ (by first | omega | (simp; done) | (simp; omega))))⟩
        rw [isK_in HP.out HX.out, HP.out]
        rfl
      · go_wp2
        go_ret2
        refine ⟨?_, (by repeat (first | exact Below.refl _ _ | assumption | refine Below.drew ?_ | refine Below.drewN' ?_ _ | refine below_grow0 _ _ ?_ | refine below_alloc0 _ ?_ | refine Below.alloc ?_ (by first | omega | (simp; done) | (simp; omega)) _ | refine Below.setCell ?_ (by first | omega | (simp; done) | (simp; omega)) _ | refine Below.grow _ _ _ ?_ (by first | omega | (simp; done) | (simp; omega))))⟩
        rw [isK_out HP.out han, HP.out]
        rfl
end Go.Proofs.YtfaghpdhinfblaaDoor

/- slices.Clone at the program's element types: a new slice of the call's own, with the same elements. -/
namespace Go.Proofs.YtfaghpdhinfblaaDoor
open Go.RowKit
set_option maxHeartbeats 400000 in
theorem cloneFile (v : Value) (l : List File) (w : World) (h : Sl cFile 3 w v l) (hn : l.length * 48 ≤ 140737488355328) (hm : l.length ≤ maxLen) :
    Calls Tryd.prog 42 #[v] w (Owned cFile 3 58 l w) := by
  have qT : ∀ (w : World) (a : Option Addr) (n c n' c' : Nat), (binOp .eql 22 (.slice a n c) (.slice none n' c')).run Tryd.prog w = .ok (.bool a.isNone) w := fun w a n c n' c' => Lib.run_eql_slice_nil w _ _ a n c n' c' Tryd.underlying22
  obtain ⟨A, c, rfl, h1, h2⟩ := h.form
  cases A with
  | none =>
    obtain rfl := h.none_nil
    clear h
    go_enter Tryd.func42, Tryd.ntmps42
    go_wp2
    go_ret
    exact Owned.mk (Ow.nil _ _ _ _ _) (Below.refl _ _)
  | some a =>
    have H := Lib.hid h
    clear h
    go_enter Tryd.func42, Tryd.ntmps42
    go_wp2_with (at_builtin; refine wpList_app _ rfl (.tmp 5) (.tmp 6) _ rfl elFile rfl rfl (ow_lit0 _ _ _ _) (H.out.alloc _) cFile_one (by simpa using hm) (by simpa using hn) (by simp) ?_; intro v' w1 hown hg hat)
    go_ret
    exact Owned.mk hown (((Below.refl _ _).alloc (Nat.le_refl _) _).grown hg (by simp) (by intro k hk; simp [Value.ownBlock, Act.eval] at hk; omega))
end Go.Proofs.YtfaghpdhinfblaaDoor

/- Contracts of package client: New, copied, See, and the laws' 'starts'. -/
namespace Go.Proofs.YtfaghpdhinfblaaDoor
open Go.RowKit
/-- an end and an error's number -/
def ClIs2 (s n : Int) (l : List Entry) (c : Int) (w : World) (e : Ending) (w' : World) : Prop := ∃ A k, e = .returned (.tuple #[.agg #[.int .i64 s, .int .i64 n, .slice A l.length k], .int .i64 c]) ∧ Sl cEntry 3 w' (.slice A l.length k) l ∧ Below w.heap.size w w'
/- See: an end behind an answer that is not older -/
end Go.Proofs.YtfaghpdhinfblaaDoor

/- Contracts of package client: find, Look, Keep. -/
namespace Go.Proofs.YtfaghpdhinfblaaDoor
open Go.RowKit
def noEntry : Entry := ⟨ByteArray.empty, ByteArray.empty, false⟩
def lookE (l : List Entry) (p : ByteArray) : Entry := if isK (l.map Entry.path) p then l.getD (posK (l.map Entry.path) p) noEntry else noEntry
def stripE (e : Entry) : Entry := if e.there_ then e else { e with data := ByteArray.empty }
def keepL (l : List Entry) (e : Entry) : List Entry := if isK (l.map Entry.path) e.path then l.set (posK (l.map Entry.path) e.path) (stripE e) else l.take (posK (l.map Entry.path) e.path) ++ stripE e :: l.drop (posK (l.map Entry.path) e.path)
theorem isK_lt {l : List Entry} {p : ByteArray} (h : isK (l.map Entry.path) p = true) : posK (l.map Entry.path) p < l.length := by
  unfold isK at h
  simp at h
  exact h.1
end Go.Proofs.YtfaghpdhinfblaaDoor

/- client.Keep at an entry whose path is in the cache. -/
namespace Go.Proofs.YtfaghpdhinfblaaDoor
open Go.RowKit
end Go.Proofs.YtfaghpdhinfblaaDoor

/- The laws' 'caching': an end with entries. -/
namespace Go.Proofs.YtfaghpdhinfblaaDoor
open Go.RowKit
def cacheK (l : List Entry) (k : Nat) : List Entry := (l.take k).foldl keepL []
theorem keepL_length (l : List Entry) (x : Entry) : (keepL l x).length ≤ l.length + 1 := by
  unfold keepL
  split
  · simp
  · simp; omega
theorem cacheK_succ {l : List Entry} {k : Nat} {x : Entry} (h : l[k]? = some x) : cacheK l (k + 1) = keepL (cacheK l k) x := by
  unfold cacheK
  rw [List.take_add_one, h]
  simp
theorem cacheK_length (l : List Entry) (k : Nat) : (cacheK l k).length ≤ k := by
  induction k with
  | zero => simp [cacheK]
  | succ k ih =>
    cases h : l[k]? with
    | none =>
      have : cacheK l (k + 1) = cacheK l k := by unfold cacheK; rw [List.take_add_one, h]; simp
      rw [this]; omega
    | some x => rw [cacheK_succ h]; have := keepL_length (cacheK l k) x; omega
def cacheL (l : List Entry) : List Entry := cacheK l (Nat.min l.length 60)
end Go.Proofs.YtfaghpdhinfblaaDoor

/- The order of texts; a sorted list of entries, searched and kept: plain laws. -/
namespace Go.Proofs.YtfaghpdhinfblaaDoor
open Go.RowKit Go.Lib
theorem cb_zero : ∀ (a b : List UInt8), compareBytes a b = 0 → a = b
  | [], [], _ => rfl
  | [], _ :: _, h => by simp [compareBytes] at h
  | _ :: _, [], h => by simp [compareBytes] at h
  | a :: r, b :: q, h => by
    unfold compareBytes at h
    split at h
    · simp at h
    · split at h
      · simp at h
      · have : a = b := by
          rename_i h1 h2
          exact UInt8.toNat_inj.1 (by have := UInt8.not_lt.1 h1; have := UInt8.not_lt.1 h2; simp only [UInt8.le_iff_toNat_le] at *; omega)
        rw [this, cb_zero r q h]
theorem cb_self : ∀ (a : List UInt8), compareBytes a a = 0
  | [] => rfl
  | a :: r => by unfold compareBytes; rw [if_neg (by simp), if_neg (by simp)]; exact cb_self r
theorem cb_swap : ∀ (a b : List UInt8), compareBytes a b < 0 → 0 < compareBytes b a
  | [], [], h => by simp [compareBytes] at h
  | [], _ :: _, _ => by simp [compareBytes]
  | _ :: _, [], h => by simp [compareBytes] at h
  | a :: r, b :: q, h => by
    unfold compareBytes at h ⊢
    by_cases h1 : a < b
    · rw [if_neg (by simp only [UInt8.lt_iff_toNat_lt] at *; omega), if_pos h1]; decide
    · by_cases h2 : b < a
      · rw [if_neg h1, if_pos h2] at h; simp at h
      · rw [if_neg h1, if_neg h2] at h
        rw [if_neg h2, if_neg h1]
        exact cb_swap r q h
theorem cb_swap' : ∀ (a b : List UInt8), 0 < compareBytes a b → compareBytes b a < 0
  | [], [], h => by simp [compareBytes] at h
  | _ :: _, [], _ => by simp [compareBytes]
  | [], _ :: _, h => by simp [compareBytes] at h
  | a :: r, b :: q, h => by
    unfold compareBytes at h ⊢
    by_cases h2 : b < a
    · rw [if_pos h2]; decide
    · by_cases h1 : a < b
      · rw [if_pos h1] at h; simp at h
      · rw [if_neg h1, if_neg h2] at h
        rw [if_neg h2, if_neg h1]
        exact cb_swap' r q h
theorem cb_trans : ∀ (a b c : List UInt8), compareBytes a b < 0 → compareBytes b c < 0 → compareBytes a c < 0
  | [], [], _, h, _ => by simp [compareBytes] at h
  | [], _ :: _, [], _, h => by simp [compareBytes] at h
  | [], _ :: _, _ :: _, _, _ => by simp [compareBytes]
  | _ :: _, [], _, h, _ => by simp [compareBytes] at h
  | _ :: _, _ :: _, [], _, h => by simp [compareBytes] at h
  | a :: r, b :: q, c :: t, h, k => by
    unfold compareBytes at h k ⊢
    by_cases h1 : a < b
    · by_cases k1 : b < c
      · rw [if_pos (by simp only [UInt8.lt_iff_toNat_lt] at *; omega)]; decide
      · by_cases k2 : c < b
        · rw [if_neg k1, if_pos k2] at k; simp at k
        · rw [if_pos (by simp only [UInt8.lt_iff_toNat_lt] at *; omega)]; decide
    · by_cases h2 : b < a
      · rw [if_neg h1, if_pos h2] at h; simp at h
      · rw [if_neg h1, if_neg h2] at h
        by_cases k1 : b < c
        · rw [if_pos (by simp only [UInt8.lt_iff_toNat_lt] at *; omega)]; decide
        · by_cases k2 : c < b
          · rw [if_neg k1, if_pos k2] at k; simp at k
          · rw [if_neg k1, if_neg k2] at k
            rw [if_neg (by simp only [UInt8.lt_iff_toNat_lt] at *; omega), if_neg (by simp only [UInt8.lt_iff_toNat_lt] at *; omega)]
            exact cb_trans r q t h k
theorem cmpB_self (a : ByteArray) : cmpB a a = 0 := cb_self _
theorem cmpB_zero {a b : ByteArray} (h : cmpB a b = 0) : a = b := by
  have := cb_zero _ _ h
  exact ByteArray.ext (Array.ext' this)
/-- sorted strictly by path -/
def SortedE (l : List Entry) : Prop := ∀ (i j : Nat) (x y : Entry), i < j → l[i]? = some x → l[j]? = some y → cmpB x.path y.path < 0
theorem border (f : Nat → Bool) : ∀ n, (∀ i j, i < j → j < n → f j = true → f i = true) → ∃ m, m ≤ n ∧ (∀ k, k < m → f k = true) ∧ (∀ k, m ≤ k → k < n → f k = false)
  | 0, _ => ⟨0, Nat.le_refl _, fun k hk => by omega, fun k _ hk => by omega⟩
  | n + 1, h => by
    obtain ⟨m, hm, h1, h2⟩ := border f n (fun i j hij hj => h i j hij (by omega))
    have split : ∀ k, k < n + 1 → k < n ∨ k = n := fun k hk => by omega
    cases hf : f n with
    | true =>
      refine ⟨n + 1, Nat.le_refl _, fun k hk => ?_, fun k hk hk2 => by omega⟩
      rcases split k hk with hlt | rfl
      · exact h k n hlt (by omega) hf
      · exact hf
    | false =>
      refine ⟨m, by omega, h1, fun k hk hk2 => ?_⟩
      rcases split k hk2 with hlt | rfl
      · exact h2 k hk hlt
      · exact hf
/-- the place of p in a sorted list -/
theorem pos_of {l : List Entry} (hs : SortedE l) (p : ByteArray) (k : Nat) (x : Entry) (hx : l[k]? = some x) : k < posK (l.map Entry.path) p ↔ cmpB x.path p < 0 := by
  have hk : k < l.length := (List.getElem?_eq_some_iff.1 hx).1
  have hlt : ∀ (k : Nat) (x : Entry), l[k]? = some x → ltK (l.map Entry.path) p k = decide (cmpB x.path p < 0) := fun k x h => ltK_of (g := Entry.path) h p
  obtain ⟨m, hm, h1, h2⟩ := border (ltK (l.map Entry.path) p) l.length (by
    intro i j hij hj h
    have hi := List.getElem?_eq_getElem (l := l) (i := i) (by omega)
    have hj2 := List.getElem?_eq_getElem (l := l) (i := j) hj
    rw [hlt j _ hj2] at h
    rw [hlt i _ hi]
    simp at h ⊢
    exact cb_trans _ _ _ (hs i j _ _ hij hi hj2) h)
  have hp : posK (l.map Entry.path) p = m := by
    unfold posK
    rw [List.length_map]
    exact bsr_sorted _ m l.length 0 l.length (by omega) (Nat.zero_le _) hm h1 h2
  rw [hp]
  constructor
  · intro h
    have := h1 k h
    rw [hlt k x hx] at this
    simpa using this
  · intro h
    rcases Nat.lt_or_ge k m with hlt2 | hge
    · exact hlt2
    · have := h2 k hge hk
      rw [hlt k x hx] at this
      simp at this
      omega
theorem at_of {l : List Entry} (hs : SortedE l) {k : Nat} {x : Entry} (hx : l[k]? = some x) : posK (l.map Entry.path) x.path = k ∧ isK (l.map Entry.path) x.path = true := by
  have h1 : ¬ k < posK (l.map Entry.path) x.path := by rw [pos_of hs x.path k x hx, cmpB_self]; omega
  have hk : k < l.length := (List.getElem?_eq_some_iff.1 hx).1
  have h2 : posK (l.map Entry.path) x.path = k := by
    rcases Nat.lt_or_ge (posK (l.map Entry.path) x.path) k with h | h
    · have hy := List.getElem?_eq_getElem (l := l) (i := posK (l.map Entry.path) x.path) (by omega)
      have h3 := hs _ _ _ _ h hy hx
      rw [← pos_of hs x.path _ _ hy] at h3
      omega
    · omega
  exact ⟨h2, by rw [isK_in h2 hx, cmpB_self]; rfl⟩
theorem none_of {l : List Entry} (p : ByteArray) (h : ∀ (k : Nat) (x : Entry), l[k]? = some x → x.path ≠ p) : isK (l.map Entry.path) p = false := by
  rcases Nat.lt_or_ge (posK (l.map Entry.path) p) l.length with hlt | hge
  · have hy := List.getElem?_eq_getElem (l := l) (i := posK (l.map Entry.path) p) hlt
    rw [isK_in rfl hy]
    have := h _ _ hy
    simp
    intro h0
    exact this (cmpB_zero h0)
  · exact isK_out rfl (by omega)
def ltE (x y : Entry) : Prop := cmpB x.path y.path < 0
theorem sorted_pw {l : List Entry} : SortedE l ↔ l.Pairwise ltE := by
  rw [List.pairwise_iff_getElem]
  constructor
  · intro h i j hi hj hij
    exact h i j _ _ hij (List.getElem?_eq_getElem hi) (List.getElem?_eq_getElem hj)
  · intro h i j x y hij hx hy
    obtain ⟨hi, rfl⟩ := List.getElem?_eq_some_iff.1 hx
    obtain ⟨hj, rfl⟩ := List.getElem?_eq_some_iff.1 hy
    exact h i j hi hj hij
theorem strip_path (x : Entry) : (stripE x).path = x.path := by unfold stripE; split <;> rfl
theorem before_of {l : List Entry} (hs : SortedE l) (p : ByteArray) : ∀ y ∈ l.take (posK (l.map Entry.path) p), cmpB y.path p < 0 := by
  intro y hy
  obtain ⟨k, hk⟩ := List.mem_iff_getElem?.1 hy
  rw [List.getElem?_take] at hk
  split at hk
  · exact (pos_of hs p k y hk).1 (by assumption)
  · cases hk
theorem behind_of {l : List Entry} (hs : SortedE l) (p : ByteArray) (h : isK (l.map Entry.path) p = false) : ∀ y ∈ l.drop (posK (l.map Entry.path) p), cmpB p y.path < 0 := by
  intro y hy
  obtain ⟨k, hk⟩ := List.mem_iff_getElem?.1 hy
  rw [List.getElem?_drop] at hk
  have h1 := mt (pos_of hs p _ y hk).2 (by omega)
  have h2 : cmpB y.path p ≠ 0 := by
    intro h0
    obtain rfl := cmpB_zero h0
    rw [(at_of hs hk).2] at h
    cases h
  exact cb_swap' _ _ (by unfold cmpB at h1 h2; omega)
theorem set_split {l : List Entry} {q : Nat} (hq : q < l.length) (x : Entry) : l.set q x = l.take q ++ x :: l.drop (q + 1) := by rw [List.set_eq_take_append_cons_drop, if_pos hq]
theorem is_at {l : List Entry} {p : ByteArray} (h : isK (l.map Entry.path) p = true) : ∃ hq : posK (l.map Entry.path) p < l.length, (l[posK (l.map Entry.path) p]'hq).path = p := by
  have hq := isK_lt h
  refine ⟨hq, ?_⟩
  rw [isK_in rfl (List.getElem?_eq_getElem hq)] at h
  exact cmpB_zero (by simpa using h)
theorem keepL_sorted {l : List Entry} (hs : SortedE l) (x : Entry) : SortedE (keepL l x) := by
  have hpw := sorted_pw.1 hs
  rw [sorted_pw]
  unfold keepL
  cases hk : isK (l.map Entry.path) x.path with
  | true =>
    obtain ⟨hq, he⟩ := is_at hk
    rw [if_pos rfl, set_split hq]
    have e : l = l.take (posK (l.map Entry.path) x.path) ++ l[posK (l.map Entry.path) x.path] :: l.drop (posK (l.map Entry.path) x.path + 1) := by rw [List.getElem_cons_drop, List.take_append_drop]
    generalize l[posK (l.map Entry.path) x.path] = y at e he
    generalize posK (l.map Entry.path) x.path = q at e
    generalize l.take q = a at e ⊢
    generalize l.drop (q + 1) = b at e ⊢
    rw [e] at hpw
    simp only [List.pairwise_append, List.pairwise_cons, List.mem_cons, forall_eq_or_imp] at hpw ⊢
    unfold ltE at hpw ⊢
    rw [strip_path, ← he]
    exact hpw
  | false =>
    rw [if_neg (by simp)]
    have e := List.take_append_drop (posK (l.map Entry.path) x.path) l
    have hb := before_of hs x.path
    have ha := behind_of hs x.path hk
    generalize posK (l.map Entry.path) x.path = q at e hb ha
    generalize l.take q = a at e hb ⊢
    generalize l.drop q = b at e ha ⊢
    rw [← e] at hpw
    simp only [List.pairwise_append, List.pairwise_cons, List.mem_cons, forall_eq_or_imp] at hpw ⊢
    unfold ltE at hpw ⊢
    rw [strip_path]
    exact ⟨hpw.1, ⟨ha, hpw.2.1⟩, fun y hy => ⟨hb y hy, hpw.2.2 y hy⟩⟩
theorem mem_keepL {l : List Entry} (hs : SortedE l) (x y : Entry) : y ∈ keepL l x ↔ y = stripE x ∨ (y ∈ l ∧ y.path ≠ x.path) := by
  unfold keepL
  cases hk : isK (l.map Entry.path) x.path with
  | true =>
    obtain ⟨hq, he⟩ := is_at hk
    rw [if_pos rfl, set_split hq]
    have hpw := sorted_pw.1 hs
    have e : l = l.take (posK (l.map Entry.path) x.path) ++ l[posK (l.map Entry.path) x.path] :: l.drop (posK (l.map Entry.path) x.path + 1) := by rw [List.getElem_cons_drop, List.take_append_drop]
    generalize l[posK (l.map Entry.path) x.path] = z at e he
    generalize posK (l.map Entry.path) x.path = q at e
    generalize l.take q = a at e ⊢
    generalize l.drop (q + 1) = b at e ⊢
    rw [e] at hpw
    simp only [List.pairwise_append, List.pairwise_cons, List.mem_cons, forall_eq_or_imp] at hpw
    unfold ltE at hpw
    rw [e]
    simp only [List.mem_append, List.mem_cons]
    constructor
    · rintro (h | h | h)
      · exact .inr ⟨.inl h, fun hp => by have := (hpw.2.2 y h).1; rw [hp, he, cmpB_self] at this; omega⟩
      · exact .inl h
      · exact .inr ⟨.inr (.inr h), fun hp => by have := hpw.2.1.1 y h; rw [hp, he, cmpB_self] at this; omega⟩
    · rintro (h | ⟨h | h | h, hp⟩)
      · exact .inr (.inl h)
      · exact .inl h
      · exact absurd (h ▸ he) hp
      · exact .inr (.inr h)
  | false =>
    rw [if_neg (by simp)]
    have hm : ∀ z, z ∈ l ↔ z ∈ l.take (posK (l.map Entry.path) x.path) ∨ z ∈ l.drop (posK (l.map Entry.path) x.path) := fun z => by rw [← List.mem_append, List.take_append_drop]
    have hn : y ∈ l → y.path ≠ x.path := by
      intro h hp
      obtain ⟨k, hk2⟩ := List.mem_iff_getElem?.1 h
      have := (at_of hs hk2).2
      rw [hp, hk] at this
      cases this
    simp only [List.mem_append, List.mem_cons]
    rw [hm]
    rw [hm] at hn
    constructor
    · rintro (h | h | h)
      · exact .inr ⟨.inl h, hn (.inl h)⟩
      · exact .inl h
      · exact .inr ⟨.inr h, hn (.inr h)⟩
    · rintro (h | ⟨h | h, _⟩)
      · exact .inr (.inl h)
      · exact .inl h
      · exact .inr (.inr h)
theorem look_of {l : List Entry} (hs : SortedE l) {y : Entry} (hy : y ∈ l) : isK (l.map Entry.path) y.path = true ∧ lookE l y.path = y := by
  obtain ⟨k, hk⟩ := List.mem_iff_getElem?.1 hy
  obtain ⟨h1, h2⟩ := at_of hs hk
  refine ⟨h2, ?_⟩
  unfold lookE
  rw [h2, if_pos rfl, h1, List.getD_eq_getElem?_getD, hk]
  rfl
theorem look_none {l : List Entry} {p : ByteArray} (h : ∀ y ∈ l, y.path ≠ p) : isK (l.map Entry.path) p = false ∧ lookE l p = noEntry := by
  have h1 := none_of (l := l) p (fun k x hx => h x (List.mem_iff_getElem?.2 ⟨k, hx⟩))
  exact ⟨h1, by unfold lookE; rw [h1]; rfl⟩
theorem look_kept {l : List Entry} (hs : SortedE l) (x : Entry) : isK ((keepL l x).map Entry.path) x.path = true ∧ lookE (keepL l x) x.path = stripE x := by
  have := look_of (keepL_sorted hs x) ((mem_keepL hs x (stripE x)).2 (.inl rfl))
  rw [strip_path] at this
  exact this
theorem look_other {l : List Entry} (hs : SortedE l) (x : Entry) {p : ByteArray} (hp : p ≠ x.path) : isK ((keepL l x).map Entry.path) p = isK (l.map Entry.path) p ∧ lookE (keepL l x) p = lookE l p := by
  by_cases h : ∃ y, y ∈ l ∧ y.path = p
  · obtain ⟨y, hy, rfl⟩ := h
    have h1 := look_of hs hy
    have h2 := look_of (keepL_sorted hs x) ((mem_keepL hs x y).2 (.inr ⟨hy, hp⟩))
    exact ⟨h2.1.trans h1.1.symm, h2.2.trans h1.2.symm⟩
  · have h1 := look_none (l := l) (p := p) (fun y hy he => h ⟨y, hy, he⟩)
    have h2 := look_none (l := keepL l x) (p := p) (fun y hy he => by
      rcases (mem_keepL hs x y).1 hy with rfl | ⟨h3, _⟩
      · rw [strip_path] at he; exact hp he.symm
      · exact h ⟨y, h3, he⟩)
    exact ⟨h2.1.trans h1.1.symm, h2.2.trans h1.2.symm⟩
theorem cacheK_sorted (l : List Entry) : ∀ k, SortedE (cacheK l k)
  | 0 => by intro i j x y _ h; simp [cacheK] at h
  | k + 1 => by
    cases h : l[k]? with
    | none =>
      have : cacheK l (k + 1) = cacheK l k := by unfold cacheK; rw [List.take_add_one, h]; simp
      rw [this]; exact cacheK_sorted l k
    | some x => rw [cacheK_succ h]; exact keepL_sorted (cacheK_sorted l k) x
/-- the model's order of texts is that of strings.Compare -/
theorem less_of_cb : ∀ (a b : List UInt8), Op.bytesLess a b = decide (compareBytes a b < 0)
  | [], [] => rfl
  | _ :: _, [] => by simp [Op.bytesLess, compareBytes]
  | [], _ :: _ => by simp [Op.bytesLess, compareBytes]
  | a :: r, b :: q => by
    unfold Op.bytesLess compareBytes
    by_cases h1 : a < b
    · simp [h1]
    · by_cases h2 : b < a
      · have h3 : a ≠ b := by intro e; subst e; simp at h2
        simp [h1, h2, h3]
      · have h3 : a = b := UInt8.toNat_inj.1 (by simp only [UInt8.lt_iff_toNat_lt] at *; omega)
        subst h3
        simp [less_of_cb r q]
theorem less_of_cmp {a b : ByteArray} (h : cmpB a b < 0) : Op.bytesLess a.toList b.toList = true := by
  rw [ByteArray.toList_eq, ByteArray.toList_eq, less_of_cb]
  simpa [cmpB] using h
end Go.Proofs.YtfaghpdhinfblaaDoor

/- Contracts of package path that reach no library: Named, Serial. -/
namespace Go.Proofs.YtfaghpdhinfblaaDoor
open Go.RowKit

theorem ret_bool' {a b : Bool} (h : a = b) : Ending.returned (.bool a) = Ending.returned (.bool b) := by rw [h]
/-- a letter, a digit, '-' or '_' -/
def okc (c : UInt8) : Bool := decide ((97 ≤ c.toNat ∧ c.toNat ≤ 122) ∨ (48 ≤ c.toNat ∧ c.toNat ≤ 57) ∨ c.toNat = 45 ∨ c.toNat = 95)
/-- may these bytes be one step of a path? -/
def named (l : List UInt8) : Bool := l.all okc && decide (0 < l.length) && decide (l.length ≤ 40)
def bs (s : ByteArray) : List UInt8 := s.data.toList
@[simp] theorem length_bs (s : ByteArray) : (bs s).length = s.size := by
  show s.data.toList.length = s.data.size
  simp
theorem bs_get (s : ByteArray) (k : Nat) (h : k < s.size) : (bs s)[k]'(by simpa using h) = s[k] := rfl

theorem all_take_succ (s : ByteArray) (k : Nat) (h : k < s.size) : ((bs s).take (k + 1)).all okc = (((bs s).take k).all okc && okc s[k]) := by
  rw [List.take_succ_eq_append_getElem (by simpa using h), List.all_append, bs_get s k h]
  simp
theorem not_named_of {s : ByteArray} {k : Nat} (h : k < s.size) (hk : okc s[k] = false) : named (bs s) = false := by
  have : (bs s).all okc = false := by
    rw [List.all_eq_false]
    exact ⟨(bs s)[k]'(by simpa using h), List.getElem_mem _, by rw [bs_get s k h, hk]; simp⟩
  simp [named, this]
theorem named_round {k : Nat} {s : ByteArray} (h : k < s.size) (hall : ((bs s).take k).all okc = true) (hk : okc s[k] = true) : ((bs s).take (k + 1)).all okc = true := by
  rw [all_take_succ s k h, hall, hk]; rfl
theorem named_end {k : Nat} {s : ByteArray} (h : ¬ k < s.size) (hk : k ≤ s.size) (hall : ((bs s).take k).all okc = true) : (!s.toList.isEmpty && decide ((s.size : Int) ≤ 40)) = named (bs s) := by
  obtain rfl : k = s.size := by omega
  rw [List.take_of_length_le (by simp)] at hall
  have h1 : (!s.toList.isEmpty) = decide (0 < (bs s).length) := by
    rw [ByteArray.toList_eq]
    show (!(bs s).isEmpty) = _
    cases bs s <;> simp
  have h2 : decide ((s.size : Int) ≤ 40) = decide ((bs s).length ≤ 40) := by rw [length_bs]; simp; omega
  rw [named, hall, h1, h2]
  simp
theorem named_any (s : ByteArray) (w : World) (hs : s.size ≤ 9223372036854775807) :
    Calls Tryd.prog 34 #[.string s] w fun e w' => e = .returned (.bool (named (bs s))) ∧ w = w' := by
  go_enter Tryd.func34, Tryd.ntmps34
  go_wp2
  go_loop [3] (fun i => ∃ k : Nat, k ≤ s.size ∧ i = .int .i64 k ∧ Hid (((bs s).take k).all okc = true)) (fun i => s.size - (intOf i).toNat)
  case atStart => exact ⟨0, Nat.zero_le _, rfl, rfl⟩
  case round =>
    obtain ⟨k, hk, rfl, hall⟩ := hrel
    by_cases hlt : k < s.size
    · by_cases hok : okc s[k] = true
      · have hok' : (97 ≤ s[k].toNat ∧ s[k].toNat ≤ 122) ∨ (48 ≤ s[k].toNat ∧ s[k].toNat ≤ 57) ∨ s[k].toNat = 45 ∨ s[k].toNat = 95 := of_decide_eq_true hok
        have H := Lib.hid (named_round hlt hall.out hok)
        clear hok hall
        rcases hok' with ⟨h1, h2⟩ | ⟨h1, h2⟩ | h1 | h1
        · have g1 : (97 : Int) ≤ (s[k].toNat : Int) := by omega
          have g2 : (s[k].toNat : Int) ≤ 122 := by omega
          clear h1 h2
          go_wp2
          go_round
          case rel => exact ⟨k + 1, by omega, by go_num, H.out⟩
          case measure => simp [intOf]; omega
        · have g0 : (s[k].toNat : Int) < 97 := by omega
          have g1 : (48 : Int) ≤ (s[k].toNat : Int) := by omega
          have g2 : (s[k].toNat : Int) ≤ 57 := by omega
          clear h1 h2
          go_wp2
          go_round
          case rel => exact ⟨k + 1, by omega, by go_num, H.out⟩
          case measure => simp [intOf]; omega
        · have g0 : (s[k].toNat : Int) < 48 := by omega
          have g1 : ((s[k].toNat : Int) != 45) = false := by simp; omega
          clear h1
          go_wp2
          go_round
          case rel => exact ⟨k + 1, by omega, by go_num, H.out⟩
          case measure => simp [intOf]; omega
        · have g0 : (s[k].toNat : Int) < 97 := by omega
          have g3 : (57 : Int) < (s[k].toNat : Int) := by omega
          have g1 : ((s[k].toNat : Int) != 45) = true := by simp; omega
          have g2 : ((s[k].toNat : Int) != 95) = false := by simp; omega
          clear h1
          go_wp2
          go_round
          case rel => exact ⟨k + 1, by omega, by go_num, H.out⟩
          case measure => simp [intOf]; omega
      · have hok' : ¬ ((97 ≤ s[k].toNat ∧ s[k].toNat ≤ 122) ∨ (48 ≤ s[k].toNat ∧ s[k].toNat ≤ 57) ∨ s[k].toNat = 45 ∨ s[k].toNat = 95) := fun h => hok (decide_eq_true h)
        have H := Lib.hid (not_named_of hlt (by simpa using hok))
        clear hok hall
        have g1 : ((s[k].toNat : Int) != 45) = true := by simp; omega
        have g2 : ((s[k].toNat : Int) != 95) = true := by simp; omega
        rcases (by omega : s[k].toNat < 48 ∨ (57 < s[k].toNat ∧ s[k].toNat < 97) ∨ 122 < s[k].toNat) with h1 | ⟨h1, h2⟩ | h1
        · have g3 : (s[k].toNat : Int) < 48 := by omega
          clear hok' h1
          go_wp2
          go_ret
          exact ⟨ret_bool' H.out.symm, rfl⟩
        · have g3 : (57 : Int) < (s[k].toNat : Int) := by omega
          have g4 : (s[k].toNat : Int) < 97 := by omega
          clear hok' h1 h2
          go_wp2
          go_ret
          exact ⟨ret_bool' H.out.symm, rfl⟩
        · have g3 : (122 : Int) < (s[k].toNat : Int) := by omega
          clear hok' h1
          go_wp2
          go_ret
          exact ⟨ret_bool' H.out.symm, rfl⟩
    · have H := Lib.hid (named_end hlt hk hall.out)
      clear hall
      go_wp2
      all_goals
        go_ret
        refine ⟨ret_bool' (Eq.trans ?_ H.out), rfl⟩
        first | rfl | simp [*]
/-- ten digits of a number, the highest first -/
def digs : Nat → Nat → List UInt8
  | 0, _ => []
  | k + 1, n => digs k (n / 10) ++ [UInt8.ofNat (48 + n % 10)]
theorem length_digs (k n : Nat) : (digs k n).length = k := by
  induction k generalizing n with
  | zero => rfl
  | succ k ih => simp [digs, ih]
theorem digs_left (k : Nat) : ∀ n : Nat, digs (k + 1) n = UInt8.ofNat (48 + n / 10 ^ k % 10) :: digs k n := by
  induction k with
  | zero => intro n; simp [digs]
  | succ k ih =>
    intro n
    rw [digs, ih (n / 10)]
    rw [digs, List.cons_append, Nat.div_div_eq_div_mul, Nat.pow_succ, Nat.mul_comm 10]
theorem digs_zero (k : Nat) : digs k 0 = List.replicate k 48 := by
  induction k with
  | zero => rfl
  | succ k ih => rw [digs_left, ih]; simp [List.replicate_succ]
/-- where nothing is left of a number, noughts stand ahead of its digits -/
theorem digs_pad (k j n : Nat) (h : n / 10 ^ j = 0) : digs (j + k) n = List.replicate k 48 ++ digs j n := by
  induction k with
  | zero => simp
  | succ k ih =>
    rw [show j + (k + 1) = (j + k) + 1 from by omega, digs_left, ih, List.replicate_succ, List.cons_append]
    have : n / 10 ^ (j + k) = 0 := by rw [Nat.pow_add, ← Nat.div_div_eq_div_mul, h, Nat.zero_div]
    rw [this]
    rfl
/-- what stands behind the name when j digits are laid -/
def part (j n : Nat) : List UInt8 := List.replicate (10 - j) 48 ++ digs j n
theorem length_part (j n : Nat) (h : j ≤ 10) : (part j n).length = 10 := by simp [part, length_digs]; omega
theorem part_end (j n : Nat) (hj : j ≤ 10) (h : n / 10 ^ j = 0) : part j n = digs 10 n := by
  rw [part, ← digs_pad (10 - j) j n h, show j + (10 - j) = 10 from by omega]
theorem part_set (j n : Nat) (hj : j < 10) : (part j n).set (9 - j) (UInt8.ofNat (48 + n / 10 ^ j % 10)) = part (j + 1) n := by
  unfold part
  rw [digs_left, show 10 - j = (9 - j) + 1 from by omega, List.replicate_succ', List.append_assoc, List.set_append_right _ _ (by simp), show 10 - (j + 1) = 9 - j from by omega]
  simp
theorem lt_ten {n j : Nat} (hn : n ≤ 2147483647) (h : 0 < n / 10 ^ j) : j < 10 := by
  rcases Nat.lt_or_ge j 10 with h1 | h1
  · exact h1
  · have h2 : 10 ^ 10 ≤ 10 ^ j := Nat.pow_le_pow_right (by omega) h1
    have : n / 10 ^ j = 0 := Nat.div_eq_of_lt (by omega)
    omega
end Go.Proofs.YtfaghpdhinfblaaDoor

/- package disk: find, copied, Good. -/
namespace Go.Proofs.YtfaghpdhinfblaaDoor
open Go.RowKit Go.ChangeShapes Go.WideShapes Go.ChangeAt
theorem dkFind (v : Value) (l : List File) (p : ByteArray) (w : World) (h : Sl cFile 3 w v l) (hn : l.length ≤ 140737488355328) :
    Calls Tryd.prog 27 #[.agg #[v], .string p] w fun e w' => e = .returned (.tuple #[.int .i64 (posK (l.map File.name) p), .bool (isK (l.map File.name) p)]) ∧ Below w.heap.size w w' := by
  obtain ⟨A, c, rfl, h1, h2⟩ := h.form
  have H := Lib.hid h
  clear h
  go_enter Tryd.func27, Tryd.ntmps27
  go_wp2_with (go_at_call 39; refine (bsfFile _ _ _ _ (H.out.alloc _) hn).mono ?_; rintro e w1 ⟨rfl, hb⟩; obtain ⟨ext, d, rfl⟩ := Below.grown_eq _ hb)
  go_ret2
  exact ⟨rfl, (by repeat (first | exact Below.refl _ _ | assumption | refine Below.drew ?_ | refine Below.drewN' ?_ _ | refine below_grow0 _ _ ?_ | refine below_alloc0 _ ?_ | refine Below.alloc ?_ (by first | omega | (simp; done) | (simp; omega)) _ | refine Below.setCell ?_ (by first | omega | (simp; done) | (simp; omega)) _ | refine Below.grow _ _ _ ?_ (by first | omega | (simp; done) | (simp; omega))))⟩
/-- a disk of the call's own -/
def DkIs (l : List File) (w : World) (e : Ending) (w' : World) : Prop := ∃ A c, e = .returned (.agg #[.slice A l.length c]) ∧ Ow cFile 3 58 w' w.heap.size (.slice A l.length c) l ∧ Below w.heap.size w w'
set_option maxHeartbeats 400000 in
theorem dkCopied (v : Value) (l : List File) (w : World) (h : Sl cFile 3 w v l) (hn : l.length * 48 ≤ 140737488355328) (hm : l.length ≤ maxLen) :
    Calls Tryd.prog 30 #[.agg #[v]] w (DkIs l w) := by
  obtain ⟨A, c, rfl, h1, h2⟩ := h.form
  have H := Lib.hid h
  clear h
  go_enter Tryd.func30, Tryd.ntmps30
  go_wp2_with (go_at_call 42; refine (cloneFile _ _ _ ((H.out.alloc _).alloc _) hn hm).mono ?_; rintro e w1 ⟨A', c', rfl, hown, hb⟩; obtain ⟨ext, d, rfl⟩ := Below.grown_eq _ hb)
  refine bodyPost_ret (v := .agg #[.slice A' l.length c']) (by simp [results, Tryd.results30, go_sem]) rfl ⟨A', c', rfl, ?_, ?_⟩
  · exact (hown.regrow (Nat.le_refl _) (by simp)).mono (by simp; omega)
  · exact (by repeat (first | exact Below.refl _ _ | assumption | refine Below.drew ?_ | refine Below.drewN' ?_ _ | refine below_grow0 _ _ ?_ | refine below_alloc0 _ ?_ | refine Below.alloc ?_ (by first | omega | (simp; done) | (simp; omega)) _ | refine Below.setCell ?_ (by first | omega | (simp; done) | (simp; omega)) _ | refine Below.grow _ _ _ ?_ (by first | omega | (simp; done) | (simp; omega))))
theorem not_less_of_cmp {a b : ByteArray} (h : ¬ cmpB a b < 0) : Op.bytesLess a.toList b.toList = false := by
  rw [ByteArray.toList_eq, ByteArray.toList_eq, less_of_cb]
  exact decide_eq_false h
theorem retB {a b : Bool} (h : a = b) : Ending.returned (.bool a) = Ending.returned (.bool b) := by rw [h]
def okF (x : File) : Bool := named (bs x.name) && decide (x.safe.size + x.tail.size ≤ 1048576)
def stepF (l : List File) (i : Nat) : Bool := match l[i]? with
  | none => true
  | some x => okF x && (match i with | 0 => true | j + 1 => match l[j]? with | some y => decide (cmpB y.name x.name < 0) | none => true)
def goodD (l : List File) : Bool := decide (l.length ≤ 16) && (List.range l.length).all (stepF l)
theorem goodD_no {l : List File} {i : Nat} (h : stepF l i = false) : goodD l = false := by
  have hi : i < l.length := by
    apply Classical.byContradiction
    intro hn
    unfold stepF at h
    rw [List.getElem?_eq_none (by omega)] at h
    cases h
  unfold goodD
  rw [Bool.and_eq_false_iff]
  refine .inr ?_
  rw [List.all_eq_false]
  exact ⟨i, List.mem_range.2 hi, by simp [h]⟩
theorem goodD_yes {l : List File} (h : ∀ i, i < l.length → stepF l i = true) (h16 : l.length ≤ 16) : goodD l = true := by
  unfold goodD
  rw [Bool.and_eq_true, List.all_eq_true]
  exact ⟨decide_eq_true h16, fun i hi => h i (List.mem_range.1 hi)⟩
def File.sized (x : File) : Prop := x.name.size ≤ 9223372036854775807 ∧ x.safe.size ≤ 140737488355328 ∧ x.tail.size ≤ 140737488355328
set_option maxHeartbeats 2000000 in
theorem dkGood (v : Value) (l : List File) (w : World) (h : Sl cFile 3 w v l) (hz : ∀ x ∈ l, x.sized) :
    Calls Tryd.prog 26 #[.agg #[v]] w fun e w' => e = .returned (.bool (goodD l)) ∧ Below w.heap.size w w' := by
  obtain ⟨A, c, rfl, hc1, hc2⟩ := h.form
  have H := Lib.hid h
  have HZ := Lib.hid hz
  clear h hz
  by_cases h16 : l.length ≤ 16
  · have h16i : (decide ((16 : Int) < (l.length : Int))) = false := decide_eq_false (by omega)
    go_enter Tryd.func26, Tryd.ntmps26
    go_wp2_with fail
    go_loopw [12] (fun i wr => ∃ (k : Nat) (ext : Array Obj) (d : Nat), k ≤ l.length ∧ i = .int .i64 k ∧ wr = grow (w.alloc (.cells #[.slice A l.length c] 24)) ext d ∧ Hid (∀ j, j < k → stepF l j = true)) (fun i _ => l.length - (intOf i).toNat)
    case atStart => exact ⟨0, _, _, Nat.zero_le _, rfl, grown_of (by repeat (first | exact Below.refl _ _ | assumption | refine Below.drew ?_ | refine Below.drewN' ?_ _ | refine below_grow0 _ _ ?_ | refine below_alloc0 _ ?_ | refine Below.alloc ?_ (by first | omega | (simp; done) | (simp; omega)) _ | refine Below.setCell ?_ (by first | omega | (simp; done) | (simp; omega)) _ | refine Below.grow _ _ _ ?_ (by first | omega | (simp; done) | (simp; omega)))), Lib.hid (fun j hj => absurd hj (by omega))⟩
    case round =>
      obtain ⟨k, ext, d, hk, rfl, rfl, hok⟩ := hrel
      by_cases hlt : k < l.length
      · have hx : l[k]? = some (l[k]'hlt) := List.getElem?_eq_getElem _
        obtain ⟨b, off, rfl, hbw, x0, x1, x2⟩ := H.out.File_at hx
        have hzx := HZ.out _ (List.mem_of_getElem? hx)
        generalize l[k]'hlt = x at *
        have HX := Lib.hid hx
        clear hx
        obtain ⟨z0, z1, z2⟩ := hzx
        have HN := Lib.hid (fun (W : World) => named_any x.name W z0)
        generalize hnm : named (bs x.name) = nm at HN
        have HNM := Lib.hid hnm
        clear hnm
        go_wp2_with fail
        cases nm with
        | false =>
          go_quiet (first | (go_at_call 34; with_reducible refine Calls.quiet_of_same ((HN.out _).mono fun e w' h => ⟨h.1, h.2.symm⟩)))
          go_wp2_with fail
          go_ret
          exact ⟨retB (goodD_no (i := k) (by unfold stepF; rw [HX.out]; simp [okF, HNM.out])).symm, (by repeat (first | exact Below.refl _ _ | assumption | refine Below.drew ?_ | refine Below.drewN' ?_ _ | refine below_grow0 _ _ ?_ | refine below_alloc0 _ ?_ | refine Below.alloc ?_ (by first | omega | (simp; done) | (simp; omega)) _ | refine Below.setCell ?_ (by first | omega | (simp; done) | (simp; omega)) _ | refine Below.grow _ _ _ ?_ (by first | omega | (simp; done) | (simp; omega))))⟩
        | true =>
          by_cases hsz : x.safe.size + x.tail.size ≤ 1048576
          · have hszi : (decide ((1048576 : Int) < (x.safe.size : Int) + (x.tail.size : Int))) = false := decide_eq_false (by omega)
            have hokx : okF x = true := by simp [okF, HNM.out, hsz]
            have HOK := Lib.hid hokx
            clear hokx
            cases k with
            | zero =>
              go_quiet (first | (go_at_call 34; with_reducible refine Calls.quiet_of_same ((HN.out _).mono fun e w' h => ⟨h.1, h.2.symm⟩)))
              go_wp2_with fail
              go_roundw
              case rel => exact ⟨0 + 1, _, _, by omega, by go_num, grown_of (by repeat (first | exact Below.refl _ _ | assumption | refine Below.drew ?_ | refine Below.drewN' ?_ _ | refine below_grow0 _ _ ?_ | refine below_alloc0 _ ?_ | refine Below.alloc ?_ (by first | omega | (simp; done) | (simp; omega)) _ | refine Below.setCell ?_ (by first | omega | (simp; done) | (simp; omega)) _ | refine Below.grow _ _ _ ?_ (by first | omega | (simp; done) | (simp; omega)))), Lib.hid (fun i hi => by
                rcases Nat.lt_or_ge i (0) with h | h
                · exact hok.out i h
                · obtain rfl : i = 0 := by omega
                  unfold stepF; rw [HX.out]; simp [HOK.out])⟩
              case measure => simp [intOf]; omega
            | succ j =>
              have hy : l[j]? = some (l[j]'(by omega)) := List.getElem?_eq_getElem _
              obtain ⟨b2, off2, hA2, _, y0, y1, y2⟩ := H.out.File_at hy
              injection hA2 with hA2
              injection hA2 with e1 e2 _
              subst e1
              subst e2
              generalize l[j]'(by omega) = y at *
              have HY := Lib.hid hy
              clear hy
              have hcmp := less_of_cb (bs3 y.name) (bs3 x.name)
              by_cases hlt2 : cmpB y.name x.name < 0
              · have HLT := Lib.hid hlt2
                have hls := less_of_cmp hlt2
                clear hlt2 hcmp
                go_quiet (first | (go_at_call 34; with_reducible refine Calls.quiet_of_same ((HN.out _).mono fun e w' h => ⟨h.1, h.2.symm⟩)))
                go_wp2_with fail
                go_roundw
                case rel => exact ⟨j + 1 + 1, _, _, by omega, by go_num, grown_of (by repeat (first | exact Below.refl _ _ | assumption | refine Below.drew ?_ | refine Below.drewN' ?_ _ | refine below_grow0 _ _ ?_ | refine below_alloc0 _ ?_ | refine Below.alloc ?_ (by first | omega | (simp; done) | (simp; omega)) _ | refine Below.setCell ?_ (by first | omega | (simp; done) | (simp; omega)) _ | refine Below.grow _ _ _ ?_ (by first | omega | (simp; done) | (simp; omega)))), Lib.hid (fun i hi => by
                  rcases Nat.lt_or_ge i (j + 1) with h | h
                  · exact hok.out i h
                  · obtain rfl : i = j + 1 := by omega
                    unfold stepF; rw [HX.out]; simp [HOK.out, HY.out, HLT.out])⟩
                case measure => simp [intOf]; omega
              · have HLT := Lib.hid hlt2
                have hls : Op.bytesLess y.name.toList x.name.toList = false := not_less_of_cmp hlt2
                clear hlt2 hcmp
                go_quiet (first | (go_at_call 34; with_reducible refine Calls.quiet_of_same ((HN.out _).mono fun e w' h => ⟨h.1, h.2.symm⟩)))
                go_wp2_with fail
                go_ret
                exact ⟨retB (goodD_no (i := j + 1) (by unfold stepF; rw [HX.out]; simp [HOK.out, HY.out]; have := HLT.out; omega)).symm, (by repeat (first | exact Below.refl _ _ | assumption | refine Below.drew ?_ | refine Below.drewN' ?_ _ | refine below_grow0 _ _ ?_ | refine below_alloc0 _ ?_ | refine Below.alloc ?_ (by first | omega | (simp; done) | (simp; omega)) _ | refine Below.setCell ?_ (by first | omega | (simp; done) | (simp; omega)) _ | refine Below.grow _ _ _ ?_ (by first | omega | (simp; done) | (simp; omega))))⟩
          · have hszi : (decide ((1048576 : Int) < (x.safe.size : Int) + (x.tail.size : Int))) = true := decide_eq_true (by omega)
            have hokx : okF x = false := by simp [okF, HNM.out, hsz]
            have HOK := Lib.hid hokx
            clear hokx
            cases k with
            | zero =>
              go_quiet (first | (go_at_call 34; with_reducible refine Calls.quiet_of_same ((HN.out _).mono fun e w' h => ⟨h.1, h.2.symm⟩)))
              go_wp2_with fail
              go_ret
              exact ⟨retB (goodD_no (i := 0) (by unfold stepF; rw [HX.out]; simp [HOK.out])).symm, (by repeat (first | exact Below.refl _ _ | assumption | refine Below.drew ?_ | refine Below.drewN' ?_ _ | refine below_grow0 _ _ ?_ | refine below_alloc0 _ ?_ | refine Below.alloc ?_ (by first | omega | (simp; done) | (simp; omega)) _ | refine Below.setCell ?_ (by first | omega | (simp; done) | (simp; omega)) _ | refine Below.grow _ _ _ ?_ (by first | omega | (simp; done) | (simp; omega))))⟩
            | succ j =>
              have hy : l[j]? = some (l[j]'(by omega)) := List.getElem?_eq_getElem _
              obtain ⟨b2, off2, hA2, _, y0, y1, y2⟩ := H.out.File_at hy
              injection hA2 with hA2
              injection hA2 with e1 e2 _
              subst e1
              subst e2
              generalize l[j]'(by omega) = y at *
              clear hy
              by_cases hlt2 : cmpB y.name x.name < 0
              · have hls := less_of_cmp hlt2
                clear hlt2
                go_quiet (first | (go_at_call 34; with_reducible refine Calls.quiet_of_same ((HN.out _).mono fun e w' h => ⟨h.1, h.2.symm⟩)))
                go_wp2_with fail
                go_ret
                exact ⟨retB (goodD_no (i := j + 1) (by unfold stepF; rw [HX.out]; simp [HOK.out])).symm, (by repeat (first | exact Below.refl _ _ | assumption | refine Below.drew ?_ | refine Below.drewN' ?_ _ | refine below_grow0 _ _ ?_ | refine below_alloc0 _ ?_ | refine Below.alloc ?_ (by first | omega | (simp; done) | (simp; omega)) _ | refine Below.setCell ?_ (by first | omega | (simp; done) | (simp; omega)) _ | refine Below.grow _ _ _ ?_ (by first | omega | (simp; done) | (simp; omega))))⟩
              · have hls : Op.bytesLess y.name.toList x.name.toList = false := not_less_of_cmp hlt2
                clear hlt2
                go_quiet (first | (go_at_call 34; with_reducible refine Calls.quiet_of_same ((HN.out _).mono fun e w' h => ⟨h.1, h.2.symm⟩)))
                go_wp2_with fail
                go_ret
                exact ⟨retB (goodD_no (i := j + 1) (by unfold stepF; rw [HX.out]; simp [HOK.out])).symm, (by repeat (first | exact Below.refl _ _ | assumption | refine Below.drew ?_ | refine Below.drewN' ?_ _ | refine below_grow0 _ _ ?_ | refine below_alloc0 _ ?_ | refine Below.alloc ?_ (by first | omega | (simp; done) | (simp; omega)) _ | refine Below.setCell ?_ (by first | omega | (simp; done) | (simp; omega)) _ | refine Below.grow _ _ _ ?_ (by first | omega | (simp; done) | (simp; omega))))⟩
      · go_wp2_with fail
        go_ret
        exact ⟨retB (goodD_yes (fun i hi => hok.out i (by omega)) h16).symm, (by repeat (first | exact Below.refl _ _ | assumption | refine Below.drew ?_ | refine Below.drewN' ?_ _ | refine below_grow0 _ _ ?_ | refine below_alloc0 _ ?_ | refine Below.alloc ?_ (by first | omega | (simp; done) | (simp; omega)) _ | refine Below.setCell ?_ (by first | omega | (simp; done) | (simp; omega)) _ | refine Below.grow _ _ _ ?_ (by first | omega | (simp; done) | (simp; omega))))⟩
  · have hg : goodD l = false := by unfold goodD; rw [decide_eq_false h16]; rfl
    have h16i : (decide ((16 : Int) < (l.length : Int))) = true := decide_eq_true (by omega)
    rw [hg]
    go_enter Tryd.func26, Tryd.ntmps26
    go_wp2_with fail
    go_ret
    exact ⟨rfl, (by repeat (first | exact Below.refl _ _ | assumption | refine Below.drew ?_ | refine Below.drewN' ?_ _ | refine below_grow0 _ _ ?_ | refine below_alloc0 _ ?_ | refine Below.alloc ?_ (by first | omega | (simp; done) | (simp; omega)) _ | refine Below.setCell ?_ (by first | omega | (simp; done) | (simp; omega)) _ | refine Below.grow _ _ _ ?_ (by first | omega | (simp; done) | (simp; omega))))⟩
end Go.Proofs.YtfaghpdhinfblaaDoor

/- package disk: Read. -/
namespace Go.Proofs.YtfaghpdhinfblaaDoor
open Go.RowKit Go.ChangeShapes Go.WideShapes Go.ChangeAt
def fileAt (l : List File) (p : ByteArray) : File := l.getD (posK (l.map File.name) p) ⟨ByteArray.empty, ByteArray.empty, ByteArray.empty⟩
def readE (l : List File) (p : ByteArray) : Int := if goodD l then (if isK (l.map File.name) p then 0 else 7) else 3
def readS (l : List File) (p : ByteArray) : ByteArray := if goodD l && isK (l.map File.name) p then (fileAt l p).safe ++ (fileAt l p).tail else ⟨#[]⟩
theorem isK_in_file {l : List File} {p : ByteArray} (h : isK (l.map File.name) p = true) : posK (l.map File.name) p < l.length := by
  unfold isK at h
  simp at h
  exact h.1
theorem goodD_len {l : List File} (h : goodD l = true) : l.length ≤ 16 := by
  unfold goodD at h
  simp at h
  exact h.1
set_option maxHeartbeats 1000000 in
theorem dkRead (v : Value) (l : List File) (p : ByteArray) (w : World) (h : Sl cFile 3 w v l) (hz : ∀ x ∈ l, x.sized) :
    Calls Tryd.prog 10 #[.agg #[v], .string p] w fun e w' => e = .returned (.tuple #[.string (readS l p), .int .i64 (readE l p)]) ∧ Below w.heap.size w w' := by
  obtain ⟨A, c, rfl, hc1, hc2⟩ := h.form
  have H := Lib.hid h
  have HG := Lib.hid (fun (W : World) (hs : Sl cFile 3 W (.slice A l.length c) l) => dkGood _ l W hs hz)
  unfold readS readE
  cases hg : goodD l with
  | false =>
    rw [hg] at HG
    clear h hz hg
    simp only [Bool.false_and, Bool.false_eq_true, if_false]
    go_enter Tryd.func10, Tryd.ntmps10
    go_wp2_with (first | (go_at_call 26; refine (HG.out _ (H.out.alloc _)).mono ?_; rintro e w1 ⟨rfl, hb⟩; obtain ⟨ext, d, rfl⟩ := Below.grown_eq _ hb; clear hb))
    go_ret2
    exact ⟨rfl, (by repeat (first | exact Below.refl _ _ | assumption | refine Below.drew ?_ | refine Below.drewN' ?_ _ | refine below_grow0 _ _ ?_ | refine below_alloc0 _ ?_ | refine Below.alloc ?_ (by first | omega | (simp; done) | (simp; omega)) _ | refine Below.setCell ?_ (by first | omega | (simp; done) | (simp; omega)) _ | refine Below.grow _ _ _ ?_ (by first | omega | (simp; done) | (simp; omega))))⟩
  | true =>
    rw [hg] at HG
    have hl16 := goodD_len hg
    have hfind := fun (W : World) (v : Value) (hs : Sl cFile 3 W v l) => dkFind v l p W hs (by omega)
    clear hg
    simp only [Bool.true_and, if_true]
    cases hk : isK (l.map File.name) p with
    | false =>
      rw [hk] at hfind
      have HF := Lib.hid hfind
      generalize posK (l.map File.name) p = q at *
      clear h hz hk hfind
      simp only [Bool.false_eq_true, if_false]
      go_enter Tryd.func10, Tryd.ntmps10
      go_wp2_with (first | (go_at_call 26; refine (HG.out _ (H.out.alloc _)).mono ?_; rintro e w1 ⟨rfl, hb⟩; obtain ⟨ext, d, rfl⟩ := Below.grown_eq _ hb; clear hb) | (go_at_call 27; refine (HF.out _ _ (H.out.below (by repeat (first | exact Below.refl _ _ | assumption | refine Below.drew ?_ | refine Below.drewN' ?_ _ | refine below_grow0 _ _ ?_ | refine below_alloc0 _ ?_ | refine Below.alloc ?_ (by first | omega | (simp; done) | (simp; omega)) _ | refine Below.setCell ?_ (by first | omega | (simp; done) | (simp; omega)) _ | refine Below.grow _ _ _ ?_ (by first | omega | (simp; done) | (simp; omega)))))).mono ?_; rintro e w1 ⟨rfl, hb⟩; obtain ⟨ext2, d2, rfl⟩ := Below.grown_eq _ hb; clear hb))
      go_ret2
      exact ⟨rfl, (by repeat (first | exact Below.refl _ _ | assumption | refine Below.drew ?_ | refine Below.drewN' ?_ _ | refine below_grow0 _ _ ?_ | refine below_alloc0 _ ?_ | refine Below.alloc ?_ (by first | omega | (simp; done) | (simp; omega)) _ | refine Below.setCell ?_ (by first | omega | (simp; done) | (simp; omega)) _ | refine Below.grow _ _ _ ?_ (by first | omega | (simp; done) | (simp; omega))))⟩
    | true =>
      rw [hk] at hfind
      have HF := Lib.hid hfind
      have hq := isK_in_file hk
      have hx : l[posK (l.map File.name) p]? = some (fileAt l p) := by
        unfold fileAt
        rw [List.getD_eq_getElem?_getD, List.getElem?_eq_getElem hq]
        rfl
      obtain ⟨z0, z1, z2⟩ := hz _ (List.mem_of_getElem? hx)
      obtain ⟨b, off, rfl, hbw, x0, x1, x2⟩ := H.out.File_at hx
      generalize fileAt l p = x at *
      generalize posK (l.map File.name) p = q at *
      clear h hz hk hfind hx
      simp only [if_true]
      go_enter Tryd.func10, Tryd.ntmps10
      go_wp2_with (first | (go_at_call 26; refine (HG.out _ (H.out.alloc _)).mono ?_; rintro e w1 ⟨rfl, hb⟩; obtain ⟨ext, d, rfl⟩ := Below.grown_eq _ hb; clear hb) | (go_at_call 27; refine (HF.out _ _ (H.out.below (by repeat (first | exact Below.refl _ _ | assumption | refine Below.drew ?_ | refine Below.drewN' ?_ _ | refine below_grow0 _ _ ?_ | refine below_alloc0 _ ?_ | refine Below.alloc ?_ (by first | omega | (simp; done) | (simp; omega)) _ | refine Below.setCell ?_ (by first | omega | (simp; done) | (simp; omega)) _ | refine Below.grow _ _ _ ?_ (by first | omega | (simp; done) | (simp; omega)))))).mono ?_; rintro e w1 ⟨rfl, hb⟩; obtain ⟨ext2, d2, rfl⟩ := Below.grown_eq _ hb; clear hb))
      go_quiet (fail)
      go_wp2_with fail
      go_ret2
      exact ⟨rfl, (by repeat (first | exact Below.refl _ _ | assumption | refine Below.drew ?_ | refine Below.drewN' ?_ _ | refine below_grow0 _ _ ?_ | refine below_alloc0 _ ?_ | refine Below.alloc ?_ (by first | omega | (simp; done) | (simp; omega)) _ | refine Below.setCell ?_ (by first | omega | (simp; done) | (simp; omega)) _ | refine Below.grow _ _ _ ?_ (by first | omega | (simp; done) | (simp; omega))))⟩
/-- a disk and an error's number -/
def DkRes (l : List File) (c : Int) (w : World) (e : Ending) (w' : World) : Prop := ∃ A k, e = .returned (.tuple #[.agg #[.slice A l.length k], .int .i64 c]) ∧ Ow cFile 3 58 w' w.heap.size (.slice A l.length k) l ∧ Below w.heap.size w w'
def removeL (l : List File) (p : ByteArray) : List File := if goodD l && isK (l.map File.name) p then l.take (posK (l.map File.name) p) ++ l.drop (posK (l.map File.name) p + 1) else []
end Go.Proofs.YtfaghpdhinfblaaDoor

/- package disk: Sync, Cut, Crash: under way. -/
namespace Go.Proofs.YtfaghpdhinfblaaDoor
open Go.RowKit Go.ChangeShapes Go.WideShapes Go.ChangeAt
set_option maxHeartbeats 1000000 in
theorem dkSync1 (g o : Nat) (x : File) (w : World) (c1 : w.cell? ⟨g, o + 1, none⟩ = some (.string x.safe)) (c2 : w.cell? ⟨g, o + 2, none⟩ = some (.string x.tail)) (f1 : w.frozen? ⟨g, o + 1, none⟩ = false) (f2 : w.frozen? ⟨g, o + 2, none⟩ = false)
    (z1 : x.safe.size ≤ 140737488355328) (z2 : x.tail.size ≤ 140737488355328) :
    Calls Tryd.prog 43 #[.pointer (some ⟨g, o, none⟩)] w fun e w' => e = .returned (.int .i64 0) ∧ w' = ((w.setCell ⟨g, o + 1, none⟩ (.string (x.safe ++ x.tail))).setCell ⟨g, o + 2, none⟩ (.string ⟨#[]⟩)).drew := by
  go_enter Tryd.func43, Tryd.ntmps43
  go_wp2_with fail
  go_region
  go_wp2_with fail
  go_ret
  exact ⟨rfl, rfl⟩
set_option maxHeartbeats 1000000 in
theorem dkCut1_no (g o bn : Nat) (n : Int) (x : File) (w : World) (c1 : w.cell? ⟨g, o + 1, none⟩ = some (.string x.safe)) (c2 : w.cell? ⟨g, o + 2, none⟩ = some (.string x.tail)) (cn : w.cell? ⟨bn, 0, none⟩ = some (.int .i64 n))
    (z1 : x.safe.size ≤ 140737488355328) (z2 : x.tail.size ≤ 140737488355328) (h : n < 0 ∨ ((x.safe ++ x.tail).size : Int) < n) :
    Calls Tryd.prog 38 #[.pointer (some ⟨g, o, none⟩), .pointer (some ⟨bn, 0, none⟩)] w fun e w' => e = .returned (.int .i64 3) ∧ w' = w.drew := by
  have hsz : (x.safe ++ x.tail).size = x.safe.size + x.tail.size := by simp
  generalize hall : x.safe ++ x.tail = all at *
  by_cases hn : n < 0
  · go_enter Tryd.func38, Tryd.ntmps38
    go_wp2_with fail
    go_region
    go_wp2_with fail
    go_ret
    exact ⟨rfl, rfl⟩
  · have hn2 : (all.size : Int) < n := by omega
    go_enter Tryd.func38, Tryd.ntmps38
    go_wp2_with fail
    go_region
    go_wp2_with fail
    go_ret
    exact ⟨rfl, rfl⟩
set_option maxHeartbeats 1000000 in
theorem dkCut1_ok (g o bn n : Nat) (x : File) (w : World) (c1 : w.cell? ⟨g, o + 1, none⟩ = some (.string x.safe)) (c2 : w.cell? ⟨g, o + 2, none⟩ = some (.string x.tail)) (f1 : w.frozen? ⟨g, o + 1, none⟩ = false) (f2 : w.frozen? ⟨g, o + 2, none⟩ = false) (cn : w.cell? ⟨bn, 0, none⟩ = some (.int .i64 n))
    (z1 : x.safe.size ≤ 140737488355328) (z2 : x.tail.size ≤ 140737488355328) (h : n ≤ (x.safe ++ x.tail).size) :
    Calls Tryd.prog 38 #[.pointer (some ⟨g, o, none⟩), .pointer (some ⟨bn, 0, none⟩)] w fun e w' => e = .returned (.int .i64 0) ∧ w' = ((w.setCell ⟨g, o + 1, none⟩ (.string ((x.safe ++ x.tail).extract 0 n))).setCell ⟨g, o + 2, none⟩ (.string ⟨#[]⟩)).drew := by
  have hsz : (x.safe ++ x.tail).size = x.safe.size + x.tail.size := by simp
  generalize hall : x.safe ++ x.tail = all at *
  go_enter Tryd.func38, Tryd.ntmps38
  go_wp2_with fail
  go_region
  go_wp2_with fail
  go_ret
  exact ⟨rfl, rfl⟩
theorem file_cells {W : World} {g k : Nat} {l : List File} {J : List Value} {t : TypeId} {x : File} (h : Bk W g (l.flatMap cFile ++ J) t) (hx : l[k]? = some x) :
    W.cell? ⟨g, k * 3, none⟩ = some (.string x.name) ∧ W.cell? ⟨g, k * 3 + 1, none⟩ = some (.string x.safe) ∧ W.cell? ⟨g, k * 3 + 2, none⟩ = some (.string x.tail) := by
  have key : ∀ j u, (cFile x)[j]? = some u → W.cell? ⟨g, k * 3 + j, none⟩ = some u := by
    intro j u hu
    have h0 : (l.flatMap cFile)[k * 3 + j]? = some u := flatMap_get (f := cFile) (s := 3) (fun y _ => rfl) hx hu
    rw [h.cell, List.getElem?_append_left (List.getElem?_eq_some_iff.1 h0).1, h0]
  exact ⟨key 0 _ rfl, key 1 _ rfl, key 2 _ rfl⟩
theorem splice1 (cs : List Value) (o : Nat) (v : Value) (r : List Value) (hl : o + (r.length + 1) ≤ cs.length) : splice (cs.set o v) (o + 1) r = splice cs o (v :: r) := by
  unfold splice
  have h1 : (cs.set o v).take (o + 1) = cs.take o ++ [v] := by
    rw [List.take_add_one, List.getElem?_set_self (by omega), List.take_set_of_le (by omega)]
    rfl
  rw [h1, List.drop_set_of_lt (by omega), List.length_cons, show o + (r.length + 1) = o + 1 + r.length from by omega]
  simp
/-- two cells of one file set anew -/
theorem set_file {l : List File} {J : List Value} {k : Nat} {x : File} (hx : l[k]? = some x) (s t : ByteArray) :
    (((l.flatMap cFile ++ J).set (k * 3 + 1) (.string s)).set (k * 3 + 2) (.string t)) = (l.set k ⟨x.name, s, t⟩).flatMap cFile ++ J := by
  have hk : k < l.length := (List.getElem?_eq_some_iff.1 hx).1
  have hlen : (l.flatMap cFile).length = l.length * 3 := flatMap_length (fun y _ => rfl)
  have hle : k * 3 + 3 ≤ (l.flatMap cFile ++ J).length := by rw [List.length_append, hlen]; omega
  have h0 : (l.flatMap cFile)[k * 3 + 0]? = some (.string x.name) := flatMap_get (f := cFile) (s := 3) (fun y _ => rfl) hx rfl
  have hself : (l.flatMap cFile ++ J).set (k * 3) (.string x.name) = l.flatMap cFile ++ J := by
    apply List.ext_getElem?
    intro i
    rw [List.getElem?_set]
    split
    · rename_i e
      subst e
      rw [if_pos (by omega), List.getElem?_append_left (by rw [hlen]; omega), ← Nat.add_zero (k * 3), h0]
    · rfl
  rw [← flatMap_set (f := cFile) (s := 3) (fun y _ => rfl) hk ⟨x.name, s, t⟩ rfl J]
  show _ = splice _ (k * 3) [Value.string x.name, Value.string s, Value.string t]
  rw [← splice1 _ _ _ _ (by simpa using hle), hself, ← splice1 _ _ _ _ (by simpa using hle), ← splice1 _ _ _ _ (by rw [List.length_set]; simpa using hle)]
  simp [splice]
def syncF (x : File) : File := ⟨x.name, x.safe ++ x.tail, ⟨#[]⟩⟩
def syncL (l : List File) (p : ByteArray) : List File := if goodD l && isK (l.map File.name) p then l.set (posK (l.map File.name) p) (syncF (fileAt l p)) else []
set_option maxHeartbeats 2000000 in
theorem dkChangeSync (v : Value) (l : List File) (p : ByteArray) (w : World) (h : Sl cFile 3 w v l) (hz : ∀ x ∈ l, x.sized) :
    Calls Tryd.prog 37 #[.agg #[v], .string p, .func (.func 43) #[] #[]] w (DkRes (syncL l p) (readE l p) w) := by
  obtain ⟨A, c, rfl, hc1, hc2⟩ := h.form
  have H := Lib.hid h
  have HG := Lib.hid (fun (W : World) (hs : Sl cFile 3 W (.slice A l.length c) l) => dkGood _ l W hs hz)
  unfold syncL readE
  cases hg : goodD l with
  | false =>
    rw [hg] at HG
    clear h hz hg
    simp only [Bool.false_and, Bool.false_eq_true, if_false]
    go_enter Tryd.func37, Tryd.ntmps37
    go_wp2_with
      (first | (go_at_call 26; refine (HG.out _ (H.out.below (by repeat (first | exact Below.refl _ _ | assumption | refine Below.drew ?_ | refine Below.drewN' ?_ _ | refine below_grow0 _ _ ?_ | refine below_alloc0 _ ?_ | refine Below.alloc ?_ (by first | omega | (simp; done) | (simp; omega)) _ | refine Below.setCell ?_ (by first | omega | (simp; done) | (simp; omega)) _ | refine Below.grow _ _ _ ?_ (by first | omega | (simp; done) | (simp; omega)))))).mono ?_; rintro e w1 ⟨rfl, hb⟩; obtain ⟨ext, d, rfl⟩ := Below.grown_eq _ hb; clear hb) | (go_at_call 27; refine (HF.out _ _ (H.out.below (by repeat (first | exact Below.refl _ _ | assumption | refine Below.drew ?_ | refine Below.drewN' ?_ _ | refine below_grow0 _ _ ?_ | refine below_alloc0 _ ?_ | refine Below.alloc ?_ (by first | omega | (simp; done) | (simp; omega)) _ | refine Below.setCell ?_ (by first | omega | (simp; done) | (simp; omega)) _ | refine Below.grow _ _ _ ?_ (by first | omega | (simp; done) | (simp; omega)))))).mono ?_; rintro e w1 ⟨rfl, hb⟩; obtain ⟨ext2, d2, rfl⟩ := Below.grown_eq _ hb; clear hb))
    refine bodyPost_ret (v := .tuple #[.agg #[.slice none 0 0], .int .i64 3]) (by simp [results, Tryd.results37, go_sem]) rfl ⟨none, 0, rfl, Ow.nil _ _ _ _ _, (by repeat (first | exact Below.refl _ _ | assumption | refine Below.drew ?_ | refine Below.drewN' ?_ _ | refine below_grow0 _ _ ?_ | refine below_alloc0 _ ?_ | refine Below.alloc ?_ (by first | omega | (simp; done) | (simp; omega)) _ | refine Below.setCell ?_ (by first | omega | (simp; done) | (simp; omega)) _ | refine Below.grow _ _ _ ?_ (by first | omega | (simp; done) | (simp; omega))))⟩
  | true =>
    rw [hg] at HG
    have hl16 := goodD_len hg
    have hfind := fun (W : World) (v : Value) (hs : Sl cFile 3 W v l) => dkFind v l p W hs (by omega)
    clear hg
    simp only [Bool.true_and, if_true]
    cases hk : isK (l.map File.name) p with
    | false =>
      rw [hk] at hfind
      have HF := Lib.hid hfind
      generalize posK (l.map File.name) p = q at *
      clear h hz hk hfind
      simp only [Bool.false_eq_true, if_false]
      go_enter Tryd.func37, Tryd.ntmps37
      go_wp2_with
        (first | (go_at_call 26; refine (HG.out _ (H.out.below (by repeat (first | exact Below.refl _ _ | assumption | refine Below.drew ?_ | refine Below.drewN' ?_ _ | refine below_grow0 _ _ ?_ | refine below_alloc0 _ ?_ | refine Below.alloc ?_ (by first | omega | (simp; done) | (simp; omega)) _ | refine Below.setCell ?_ (by first | omega | (simp; done) | (simp; omega)) _ | refine Below.grow _ _ _ ?_ (by first | omega | (simp; done) | (simp; omega)))))).mono ?_; rintro e w1 ⟨rfl, hb⟩; obtain ⟨ext, d, rfl⟩ := Below.grown_eq _ hb; clear hb) | (go_at_call 27; refine (HF.out _ _ (H.out.below (by repeat (first | exact Below.refl _ _ | assumption | refine Below.drew ?_ | refine Below.drewN' ?_ _ | refine below_grow0 _ _ ?_ | refine below_alloc0 _ ?_ | refine Below.alloc ?_ (by first | omega | (simp; done) | (simp; omega)) _ | refine Below.setCell ?_ (by first | omega | (simp; done) | (simp; omega)) _ | refine Below.grow _ _ _ ?_ (by first | omega | (simp; done) | (simp; omega)))))).mono ?_; rintro e w1 ⟨rfl, hb⟩; obtain ⟨ext2, d2, rfl⟩ := Below.grown_eq _ hb; clear hb))
      refine bodyPost_ret (v := .tuple #[.agg #[.slice none 0 0], .int .i64 7]) (by simp [results, Tryd.results37, go_sem]) rfl ⟨none, 0, rfl, Ow.nil _ _ _ _ _, (by repeat (first | exact Below.refl _ _ | assumption | refine Below.drew ?_ | refine Below.drewN' ?_ _ | refine below_grow0 _ _ ?_ | refine below_alloc0 _ ?_ | refine Below.alloc ?_ (by first | omega | (simp; done) | (simp; omega)) _ | refine Below.setCell ?_ (by first | omega | (simp; done) | (simp; omega)) _ | refine Below.grow _ _ _ ?_ (by first | omega | (simp; done) | (simp; omega))))⟩
    | true =>
      rw [hk] at hfind
      have HF := Lib.hid hfind
      have hq := isK_in_file hk
      have hx : l[posK (l.map File.name) p]? = some (fileAt l p) := by
        unfold fileAt
        rw [List.getD_eq_getElem?_getD, List.getElem?_eq_getElem hq]
        rfl
      obtain ⟨z0, z1, z2⟩ := hz _ (List.mem_of_getElem? hx)
      generalize fileAt l p = x at *
      generalize posK (l.map File.name) p = q at *
      have HX := Lib.hid hx
      clear h hz hk hfind hx
      simp only [if_true]
      go_enter Tryd.func37, Tryd.ntmps37
      go_wp2_with
        (first | (go_at_call 26; refine (HG.out _ (H.out.below (by repeat (first | exact Below.refl _ _ | assumption | refine Below.drew ?_ | refine Below.drewN' ?_ _ | refine below_grow0 _ _ ?_ | refine below_alloc0 _ ?_ | refine Below.alloc ?_ (by first | omega | (simp; done) | (simp; omega)) _ | refine Below.setCell ?_ (by first | omega | (simp; done) | (simp; omega)) _ | refine Below.grow _ _ _ ?_ (by first | omega | (simp; done) | (simp; omega)))))).mono ?_; rintro e w1 ⟨rfl, hb⟩; obtain ⟨ext, d, rfl⟩ := Below.grown_eq _ hb; clear hb) | (go_at_call 27; refine (HF.out _ _ (H.out.below (by repeat (first | exact Below.refl _ _ | assumption | refine Below.drew ?_ | refine Below.drewN' ?_ _ | refine below_grow0 _ _ ?_ | refine below_alloc0 _ ?_ | refine Below.alloc ?_ (by first | omega | (simp; done) | (simp; omega)) _ | refine Below.setCell ?_ (by first | omega | (simp; done) | (simp; omega)) _ | refine Below.grow _ _ _ ?_ (by first | omega | (simp; done) | (simp; omega)))))).mono ?_; rintro e w1 ⟨rfl, hb⟩; obtain ⟨ext2, d2, rfl⟩ := Below.grown_eq _ hb; clear hb))
      refine (dkCopied _ l _ (H.out.below (by repeat (first | exact Below.refl _ _ | assumption | refine Below.drew ?_ | refine Below.drewN' ?_ _ | refine below_grow0 _ _ ?_ | refine below_alloc0 _ ?_ | refine Below.alloc ?_ (by first | omega | (simp; done) | (simp; omega)) _ | refine Below.setCell ?_ (by first | omega | (simp; done) | (simp; omega)) _ | refine Below.grow _ _ _ ?_ (by first | omega | (simp; done) | (simp; omega))))) (by omega) (by simp [maxLen]; omega)).mono ?_
      rintro e w3 ⟨A3, c3, rfl, ho3, hb3⟩
      obtain ⟨ext3, d3, rfl⟩ := Below.grown_eq _ hb3
      obtain ⟨g3, J, rfl, hg3, hbk3, hcl, hlc, hcm, _⟩ := ho3.blk (by omega)
      have hbk4 : Bk (grow (grow (grow ((w.alloc (.cells #[.slice (some ⟨g3, 0, none⟩) l.length c3] 24)).alloc (.cells #[.slice none 0 0] 24)) ext d) ext2 d2) ext3 d3) g3 (l.flatMap cFile ++ J) 58 := hbk3.regrow (by simpa using hg3) (by simp)
      have hg4 : w.heap.size + 1 + 1 ≤ g3 := by simp at hg3; omega
      obtain ⟨r0, r1, r2⟩ := file_cells hbk4 HX.out
      have HBK := Lib.hid hbk4
      have HCL := Lib.hid hcl
      clear hb3 ho3 hbk3 hbk4 hg3 hcl
      go_wp2_with fail
      refine (dkSync1 g3 (q * 3) x _ r1 r2 (HBK.out.frozen _) (HBK.out.frozen _) z1 z2).mono ?_
      rintro e w4 ⟨rfl, rfl⟩
      have hb5 : Below ((w.alloc (.cells #[.slice (some ⟨g3, 0, none⟩) l.length c3] 24)).alloc (.cells #[.slice none 0 0] 24)).heap.size ((w.alloc (.cells #[.slice (some ⟨g3, 0, none⟩) l.length c3] 24)).alloc (.cells #[.slice none 0 0] 24)) ((((grow (grow (grow ((w.alloc (.cells #[.slice (some ⟨g3, 0, none⟩) l.length c3] 24)).alloc (.cells #[.slice none 0 0] 24)) ext d) ext2 d2) ext3 d3).setCell ⟨g3, q * 3 + 1, none⟩ (.string (x.safe ++ x.tail))).setCell ⟨g3, q * 3 + 2, none⟩ (.string ⟨#[]⟩)).drew) := Below.drew (Below.put (Below.put (by repeat (first | exact Below.refl _ _ | assumption | refine Below.drew ?_ | refine Below.drewN' ?_ _ | refine below_grow0 _ _ ?_ | refine below_alloc0 _ ?_ | refine Below.alloc ?_ (by first | omega | (simp; done) | (simp; omega)) _ | refine Below.setCell ?_ (by first | omega | (simp; done) | (simp; omega)) _ | refine Below.grow _ _ _ ?_ (by first | omega | (simp; done) | (simp; omega)))) (by simp; omega)) (by simp; omega))
      have hbk5 : Bk ((((grow (grow (grow ((w.alloc (.cells #[.slice (some ⟨g3, 0, none⟩) l.length c3] 24)).alloc (.cells #[.slice none 0 0] 24)) ext d) ext2 d2) ext3 d3).setCell ⟨g3, q * 3 + 1, none⟩ (.string (x.safe ++ x.tail))).setCell ⟨g3, q * 3 + 2, none⟩ (.string ⟨#[]⟩)).drew) g3 ((l.set q (syncF x)).flatMap cFile ++ J) 58 := by
        have := (HBK.out.put (q * 3 + 1) (.string (x.safe ++ x.tail))).put (q * 3 + 2) (.string ⟨#[]⟩)
        rw [set_file HX.out] at this
        exact this
      generalize ((((grow (grow (grow ((w.alloc (.cells #[.slice (some ⟨g3, 0, none⟩) l.length c3] 24)).alloc (.cells #[.slice none 0 0] 24)) ext d) ext2 d2) ext3 d3).setCell ⟨g3, q * 3 + 1, none⟩ (.string (x.safe ++ x.tail))).setCell ⟨g3, q * 3 + 2, none⟩ (.string ⟨#[]⟩)).drew) = w5 at hb5 hbk5 ⊢
      obtain ⟨ext5, d5, rfl⟩ := Below.grown_eq _ hb5
      have HBK5 := Lib.hid hbk5
      clear hb5 hbk5 HBK r0 r1 r2
      go_wp2_with fail
      have hlen : ((l.set q (syncF x)).flatMap cFile ++ J).length = c3 * 3 := by
        rw [← HCL.out, List.length_append, List.length_append, flatMap_length (f := cFile) (s := 3) (fun _ _ => rfl), flatMap_length (f := cFile) (s := 3) (fun _ _ => rfl), List.length_set]
      refine bodyPost_ret (v := .tuple #[.agg #[.slice (some ⟨g3, 0, none⟩) l.length c3], .int .i64 0]) (by simp [results, Tryd.results37, go_sem]) rfl ⟨some ⟨g3, 0, none⟩, c3, by rw [List.length_set], ?_, (by repeat (first | exact Below.refl _ _ | assumption | refine Below.drew ?_ | refine Below.drewN' ?_ _ | refine below_grow0 _ _ ?_ | refine below_alloc0 _ ?_ | refine Below.alloc ?_ (by first | omega | (simp; done) | (simp; omega)) _ | refine Below.setCell ?_ (by first | omega | (simp; done) | (simp; omega)) _ | refine Below.grow _ _ _ ?_ (by first | omega | (simp; done) | (simp; omega))))⟩
      exact Ow.of_blk (f := cFile) (s := 3) (B := w.heap.size) (fun _ _ => rfl) (by omega) (HBK5.out.regrow (by simp; omega) (by simp)) rfl hlen (by rw [List.length_set]; exact hlc) hcm
end Go.Proofs.YtfaghpdhinfblaaDoor
/- package disk: Sync. -/
namespace Go.Proofs.YtfaghpdhinfblaaDoor
open Go.RowKit Go.ChangeShapes Go.WideShapes Go.ChangeAt
set_option maxHeartbeats 1000000 in
theorem dkSync (v : Value) (l : List File) (p : ByteArray) (w : World) (h : Sl cFile 3 w v l) (hz : ∀ x ∈ l, x.sized) :
    Calls Tryd.prog 31 #[.agg #[v], .string p] w (DkRes (syncL l p) (readE l p) w) := by
  obtain ⟨A, c, rfl, hc1, hc2⟩ := h.form
  have H := Lib.hid h
  have HC := Lib.hid (fun (W : World) (hs : Sl cFile 3 W (.slice A l.length c) l) => dkChangeSync _ l p W hs hz)
  generalize syncL l p = L at *
  generalize readE l p = code at *
  clear h hz
  go_enter Tryd.func31, Tryd.ntmps31
  go_wp2_with (first | (go_at_call 37; refine (HC.out _ (H.out.below (by repeat (first | exact Below.refl _ _ | assumption | refine Below.drew ?_ | refine Below.drewN' ?_ _ | refine below_grow0 _ _ ?_ | refine below_alloc0 _ ?_ | refine Below.alloc ?_ (by first | omega | (simp; done) | (simp; omega)) _ | refine Below.setCell ?_ (by first | omega | (simp; done) | (simp; omega)) _ | refine Below.grow _ _ _ ?_ (by first | omega | (simp; done) | (simp; omega)))))).mono ?_; rintro e w1 ⟨A1, k1, rfl, hs1, hb1⟩; have HS1 := Lib.hid hs1; obtain ⟨ext, d, rfl⟩ := Below.grown_eq _ hb1; clear hs1 hb1))
  refine bodyPost_ret (v := .tuple #[.agg #[.slice A1 L.length k1], .int .i64 code]) (by simp [results, Tryd.results31, go_sem]) rfl ⟨A1, k1, rfl, ?_, (by repeat (first | exact Below.refl _ _ | assumption | refine Below.drew ?_ | refine Below.drewN' ?_ _ | refine below_grow0 _ _ ?_ | refine below_alloc0 _ ?_ | refine Below.alloc ?_ (by first | omega | (simp; done) | (simp; omega)) _ | refine Below.setCell ?_ (by first | omega | (simp; done) | (simp; omega)) _ | refine Below.grow _ _ _ ?_ (by first | omega | (simp; done) | (simp; omega))))⟩
  exact (HS1.out.regrow (Nat.le_refl _) (by simp)).mono (by simp; omega)
end Go.Proofs.YtfaghpdhinfblaaDoor
