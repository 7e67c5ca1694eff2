/- copy and append with room made, for elements of several cells: laws of no program; a row spliced. -/
import Derived.Test.YtkogdnkifnhljaaDoorBase
import Derived.Laws.CopyOwn
import Derived.Lib.AppendZerosOnto
import Derived.Lib.AppendZeros
import Derived.Lib.Overlaps
import Derived.Laws.Externs
import Derived.Deep.RegionLaw
namespace Go.Proofs.YtkogdnkifnhljaaDoor
open Go.RowKit
/-- a block known whole -/
def Bk (w : World) (g : Nat) (cs : List Value) (t : TypeId) : Prop := w.heap[g]? = some (.cells cs.toArray t (0, 0))
theorem Bk.lt {w : World} {g : Nat} {cs : List Value} {t : TypeId} (h : Bk w g cs t) : g < w.heap.size := (Array.getElem?_eq_some_iff.1 h).1
theorem Bk.cell {w : World} {g : Nat} {cs : List Value} {t : TypeId} (h : Bk w g cs t) (i : Nat) : w.cell? ⟨g, i, none⟩ = cs[i]? := by unfold Bk at h; simp [World.cell?, h]
theorem Bk.frozen {w : World} {g : Nat} {cs : List Value} {t : TypeId} (h : Bk w g cs t) (i : Nat) : w.frozen? ⟨g, i, none⟩ = false := by unfold Bk at h; simp [World.frozen?, h]
theorem Bk.grown {w w' : World} {g : Nat} {cs : List Value} {t : TypeId} {row : Option Nat} (h : Bk w g cs t) (hg : w.grownBy w' row) (hne : some g ≠ row) : Bk w' g cs t := (hg.block g h.lt hne).trans h
theorem Bk.below {w w' : World} {g : Nat} {cs : List Value} {t : TypeId} (h : Bk w g cs t) (hb : Below w.heap.size w w') : Bk w' g cs t := (hb.block g h.lt).trans h

theorem ins1 {α : Type} (A B J X : List α) (h : X.length ≤ J.length) : splice (splice (A ++ B ++ J) (A.length + X.length) B) A.length X = A ++ X ++ B ++ J.drop X.length := by
  unfold splice
  have e1 : ((A ++ B ++ J).take (A.length + X.length)).length = A.length + X.length := by simp; omega
  have e2 : (A ++ B ++ J).drop (A.length + X.length + B.length) = J.drop X.length := by
    rw [List.drop_append, List.drop_eq_nil_of_le (by simp <;> omega), List.nil_append]
    congr 1
    simp
    omega
  have e3 : (((A ++ B ++ J).take (A.length + X.length)) ++ (B ++ (A ++ B ++ J).drop (A.length + X.length + B.length))).take A.length = A := by
    rw [List.take_append_of_le_length (by rw [e1]; omega), List.take_take, Nat.min_eq_left (by omega), List.append_assoc, List.take_left]
  have e4 : (((A ++ B ++ J).take (A.length + X.length)) ++ (B ++ (A ++ B ++ J).drop (A.length + X.length + B.length))).drop (A.length + X.length) = B ++ (A ++ B ++ J).drop (A.length + X.length + B.length) := by
    rw [List.drop_append_of_le_length (by rw [e1]; omega), List.drop_eq_nil_of_le (by rw [e1]; omega), List.nil_append]
  rw [e3, e4, e2]
  simp
theorem ins2 {α : Type} (A Z B X : List α) : splice (splice (A ++ Z) A.length X) (A.length + X.length) B = A ++ X ++ B ++ Z.drop (X.length + B.length) := by
  unfold splice
  rw [List.take_left]
  have e1 : (A ++ Z).drop (A.length + X.length) = Z.drop X.length := by rw [List.drop_append, List.drop_eq_nil_of_le (by omega)]; simp
  rw [e1]
  have e2 : (A ++ (X ++ Z.drop X.length)).take (A.length + X.length) = A ++ X := by rw [← List.append_assoc, ← List.length_append, List.take_left]
  have e3 : (A ++ (X ++ Z.drop X.length)).drop (A.length + X.length + B.length) = Z.drop (X.length + B.length) := by
    rw [← List.append_assoc, ← List.length_append, ← List.drop_drop, List.drop_left, List.drop_drop]
  rw [e2, e3]
  simp
theorem splice_length {α : Type} (L : List α) (o : Nat) (cs : List α) (h : o + cs.length ≤ L.length) : (splice L o cs).length = L.length := length_splice L o cs h

section
variable {P : Program}
theorem run_copy_blk {w : World} {dT sT ty e : TypeId} {s g o dLen dCap : Nat} {a : Addr} {sLen sCap : Nat} {cur : List Value} {t : TypeId} {cs : List Value}
    (hu : P.underlying dT = some (.slice e)) (hs : (P.info? e).map (·.size) = some s) (hg : Bk w g cur t) (hn : cs.length = Nat.min sLen dLen * s)
    (hsrc : ∀ j v, cs[j]? = some v → w.cell? (a.add j) = some v) (hfit : o + cs.length ≤ cur.length) (h1 : ∀ v ∈ cs, v.oneCell' = true) :
    (Builtin.copy_ #[dT, sT] ty #[.slice (some ⟨g, o, none⟩) dLen dCap, .slice (some a) sLen sCap]).run P w =
      .ok (goInt (Nat.min sLen dLen)) (w.setRow g (splice cur o cs).toArray) := by
  have hl := run_firstCells_some (P := P) w s (Nat.min sLen dLen) a sLen sCap cs hn hsrc
  have hst := run_storeCells_at P g o t cs 0 cur.toArray w hg (by simpa using hfit) h1
  cases hq : P.info? e with
  | none => simp [hq] at hs
  | some i =>
    have hi : i.size = s := by simpa [hq] using hs
    simp only [Nat.min_def] at hl
    simp [Builtin.copy_, run_underlying hu, Builtin.lenOf, sizeOf, typeInfo, hq, hi, hl, hst, splice, Nat.min_def]
theorem grownCap_bounds (w : World) (need old : Nat) (e : TypeId) (h : need ≤ maxLen) : need ≤ grownCap w need old e ∧ grownCap w need old e ≤ maxLen := ⟨grownCap_ge _ _ _ _, grownCap_le_maxLen _ _ _ _ h⟩
/-- append of cnt noughts where they do not fit: a new row -/
theorem wpList_appz {w : World} {ops : Array Oper} {rest : List Oper} {o : Oper} {a : Act} {Q : Exit → Act → World → Prop} (hgd : o.guard = none) (sv x : Operand) (t tn : TypeId)
    (ho : o.op = .call { callee := .builtin .append, args := #[sv, x], argTypes := #[t, tn] }) {e : TypeId} {z : Value} {s bytes : Nat} (E : El P t e z s bytes) {kn : IntKind} (htn : P.underlying tn = some (.int kn))
    {g k c cnt : Nat} {cur : List Value} {et : TypeId} (hs : a.eval sv = .slice (some ⟨g, 0, none⟩) k c) (hx : a.eval x = .int .i64 (cnt : Int)) (hg : Bk w g cur et) (hk : k * s ≤ cur.length) (h0 : 0 < cnt) (hc : c < k + cnt)
    (h63 : k + cnt ≤ maxLen) (hbytes : (k + cnt) * bytes ≤ 140737488355328)
    (h : ∀ w1 (Z : List Value) (cap : Nat), Bk w1 w.heap.size (cur.take (k * s) ++ Z) e → Z.length = (cap - k) * s → k + cnt ≤ cap → cap ≤ maxLen → w.grownBy w1 none → w1.heap.size = w.heap.size + 1 →
      wpList P ops Q rest (a.put o.dst (.slice (some ⟨w.heap.size, 0, none⟩) (k + cnt) cap)) w1) : wpList P ops Q (o :: rest) a w := by
  obtain ⟨i, hi, hz, hsz, hby⟩ := info_of E.info
  have hcells : ∀ j v, (cur.take (k * s))[j]? = some v → w.drew.cell? ((⟨g, 0, none⟩ : Addr).add j) = some v := by
    intro j v hj
    have hadd : (⟨g, 0, none⟩ : Addr).add j = ⟨g, j, none⟩ := by unfold Addr.add; split <;> simp_all
    rw [List.getElem?_take] at hj
    split at hj
    · rw [hadd]
      show w.cell? _ = _
      rw [hg.cell, hj]
    · cases hj
  have hold := run_firstCells_some (P := P) w.drew i.size k ⟨g, 0, none⟩ k c (cur.take (k * s)) (by rw [List.length_take, hsz]; omega) hcells
  have hb1 : cnt * bytes ≤ 281474976710656 := by
    have : cnt * bytes ≤ (k + cnt) * bytes := Nat.mul_le_mul_right _ (by omega)
    omega
  have hr := Lib.run_append_grow_zeros (P := P) w t tn o.type e i z .i64 kn E.slice htn hi hz (some ⟨g, 0, none⟩) k c (cur.take (k * s)) hold cnt h0 (by rw [hsz]; exact E.pos) hc
    (by simp [maxLen] at h63; omega) (by rw [hby]; exact hb1) (by rw [hby]; exact growslice_fits hc hbytes)
  obtain ⟨hc1, hc2⟩ := grownCap_bounds w (k + cnt) c e h63
  refine Lib.wpList_append_run w hgd sv x t tn ho _ _ hs hx _ _ hr ?_
  refine h _ (Builtin.zeroCells z.cells cnt ++ Builtin.zeroCells z.cells (grownCap w (k + cnt) c e - (k + cnt))).toList _ ?_ ?_ hc1 hc2 ⟨rfl, rfl, rfl, by simp, fun j hj _ => heap_alloc_old w.drew _ hj⟩ (by simp)
  · have := heap_alloc_new w.drew (.cells ((cur.take (k * s)).toArray ++ Builtin.zeroCells z.cells cnt ++ Builtin.zeroCells z.cells (grownCap w (k + cnt) c e - (k + cnt))) e)
    unfold Bk
    rw [show ((cur.take (k * s) ++ (Builtin.zeroCells z.cells cnt ++ Builtin.zeroCells z.cells (grownCap w (k + cnt) c e - (k + cnt))).toList).toArray : Array Value) = (cur.take (k * s)).toArray ++ Builtin.zeroCells z.cells cnt ++ Builtin.zeroCells z.cells (grownCap w (k + cnt) c e - (k + cnt)) from by apply Array.ext'; simp]
    exact this
  · simp only [Array.toList_append, List.length_append, Array.length_toList, size_zeroCells, E.cells]
    rw [← Nat.add_mul]
    congr 1
    omega
theorem setRow_grown (w : World) (g : Nat) (cs : Array Value) : w.grownBy (w.setRow g cs) (some g) :=
  ⟨rfl, rfl, rfl, by simp [World.setRow], fun k hk hne => setRow_other w g k cs (fun h => hne (by rw [h]))⟩
theorem Bk.setRow {w : World} {g : Nat} {cur cs : List Value} {t : TypeId} (h : Bk w g cur t) : Bk (w.setRow g cs.toArray) g cs t := setRow_heap w g _ _ t _ h
theorem wp_cp {w : World} {o : Oper} {a : Act} {K : Act → World → Prop} {Q : Exit → Act → World → Prop} (d x : Operand) (dT sT : TypeId)
    (ho : o.op = .call { callee := .builtin .copy, args := #[d, x], argTypes := #[dT, sT] }) {e : TypeId} {z : Value} {s bytes : Nat} (E : El P dT e z s bytes) {g off dLen dCap : Nat} {ad : Addr} {sLen sCap : Nat} {cur : List Value} {t : TypeId} {cs : List Value}
    (hd : a.eval d = .slice (some ⟨g, off, none⟩) dLen dCap) (hx : a.eval x = .slice (some ad) sLen sCap) (hg : Bk w g cur t) (hn : cs.length = Nat.min sLen dLen * s)
    (hsrc : ∀ j v, cs[j]? = some v → w.cell? (ad.add j) = some v) (hfit : off + cs.length ≤ cur.length) (h1 : ∀ v ∈ cs, v.oneCell' = true)
    (h : ∀ w', Bk w' g (splice cur off cs) t → w.grownBy w' (some g) → w'.heap.size = w.heap.size → K (a.put o.dst (goInt (Nat.min sLen dLen))) w') : o.wp P a w K Q := by
  have hr := run_copy_blk (P := P) (ty := o.type) (sT := sT) (dCap := dCap) (sCap := sCap) E.slice (by obtain ⟨i, hi, _, hsz, _⟩ := info_of E.info; rw [hi, ← hsz]; rfl) hg hn hsrc hfit h1
  unfold Oper.wp execOp
  simp only [ho, resolve, invoke, builtin, Sem.run_bind, Sem.run_pure, Result.andThen_ok, List.map_toArray, List.map_cons, List.map_nil, hd, hx, hr]
  exact h _ hg.setRow (setRow_grown _ _ _) (by simp [World.setRow])
theorem wpList_cp {w : World} {ops : Array Oper} {rest : List Oper} {o : Oper} {a : Act} {Q : Exit → Act → World → Prop} (hgd : o.guard = none) (d x : Operand) (dT sT : TypeId)
    (ho : o.op = .call { callee := .builtin .copy, args := #[d, x], argTypes := #[dT, sT] }) {e : TypeId} {z : Value} {s bytes : Nat} (E : El P dT e z s bytes) {g off dLen dCap : Nat} {ad : Addr} {sLen sCap : Nat} {cur : List Value} {t : TypeId} {cs : List Value}
    (hd : a.eval d = .slice (some ⟨g, off, none⟩) dLen dCap) (hx : a.eval x = .slice (some ad) sLen sCap) (hg : Bk w g cur t) (hn : cs.length = Nat.min sLen dLen * s)
    (hsrc : ∀ j v, cs[j]? = some v → w.cell? (ad.add j) = some v) (hfit : off + cs.length ≤ cur.length) (h1 : ∀ v ∈ cs, v.oneCell' = true)
    (h : ∀ w', Bk w' g (splice cur off cs) t → w.grownBy w' (some g) → w'.heap.size = w.heap.size → wpList P ops Q rest (a.put o.dst (goInt (Nat.min sLen dLen))) w') : wpList P ops Q (o :: rest) a w :=
  wpList_plain hgd fun _ hK => wp_cp d x dT sT ho E hd hx hg hn hsrc hfit h1 fun w' h2 h3 h4 => hK _ _ (h w' h2 h3 h4)
theorem step_cp {w : World} {ops : Array Oper} {o : Oper} {a : Act} {K : Act → World → Prop} {Q : Exit → Act → World → Prop} {EE : Prop} (hgd : o.guard = none) (d x : Operand) (dT sT : TypeId)
    (ho : o.op = .call { callee := .builtin .copy, args := #[d, x], argTypes := #[dT, sT] }) {e : TypeId} {z : Value} {s bytes : Nat} (E : El P dT e z s bytes) {g off dLen dCap : Nat} {ad : Addr} {sLen sCap : Nat} {cur : List Value} {t : TypeId} {cs : List Value}
    (hd : a.eval d = .slice (some ⟨g, off, none⟩) dLen dCap) (hx : a.eval x = .slice (some ad) sLen sCap) (hg : Bk w g cur t) (hn : cs.length = Nat.min sLen dLen * s)
    (hsrc : ∀ j v, cs[j]? = some v → w.cell? (ad.add j) = some v) (hfit : off + cs.length ≤ cur.length) (h1 : ∀ v ∈ cs, v.oneCell' = true)
    (h : ∀ w', Bk w' g (splice cur off cs) t → w.grownBy w' (some g) → w'.heap.size = w.heap.size → K (a.put o.dst (goInt (Nat.min sLen dLen))) w') : if Region.wanted o (yielded ops a.tmps) = true then Oper.wp P o a w K Q else EE := by
  have hw : Region.wanted o (yielded ops a.tmps) = true := by simp [Region.wanted, hgd]
  rw [if_pos hw]
  exact wp_cp d x dT sT ho E hd hx hg hn hsrc hfit h1 h
/-- guards, for arms of a walk: the next operation is a copy -/
theorem wpList_atcp {ops : Array Oper} {rest : List Oper} {d : Option Tmp} {args : Array Operand} {ts : Array TypeId} {ty : TypeId} {pos : String} {af : Array Edge} {g : Option (Nat × Bool)} {a : Act} {w : World} {Q : Exit → Act → World → Prop}
    (h : wpList P ops Q (⟨d, .call { callee := .builtin .copy, args := args, argTypes := ts }, ty, pos, af, g⟩ :: rest) a w) : wpList P ops Q (⟨d, .call { callee := .builtin .copy, args := args, argTypes := ts }, ty, pos, af, g⟩ :: rest) a w := h
theorem Bk.shape {w : World} {g : Nat} {cs : List Value} {t : TypeId} (h : Bk w g cs t) : w.shape? g = some (t, cs.length) := by unfold Bk at h; simp [World.shape?, h]
/-- slices.overlaps of two slices in two blocks: no -/
theorem overlaps_no {F : FuncId} {fn : Func} {tS tB e : TypeId} {z : Value} {s bytes : Nat} (E : El P tS e z s bytes) (hf : P.funcs[F]? = some fn) (hname : (fn.name == "runtime.NumGoroutine") = false)
    (hb : fn.body.isNone = true) (hn : Extern.findNext fn = none) (he : Extern.find fn = some (Extern.SlicesOverlaps.overlaps #[tS, tS] #[tB])) {w : World} {g vb : Nat} {xs cur : List Value} {t t' : TypeId} (hv : Bk w vb xs t) (hg : Bk w g cur t') (hne : vb ≠ g) (h0 : cur.length ≠ 0)
    (off la ca lb cb : Nat) : (callFunc F #[.slice (some ⟨vb, 0, none⟩) la ca, .slice (some ⟨g, off, none⟩) lb cb]).run P w = .ok (.value (.bool false)) w := by
  rw [run_callFunc_extern hf hname hb hn he, Lib.run_overlaps_apart w tS tB e E.slice s (fun w => by obtain ⟨i, hi, _, hsz, _⟩ := info_of E.info; simp [sizeOf, typeInfo, hi, hsz]) ⟨vb, 0, none⟩ ⟨g, off, none⟩ la ca lb cb hne t t' _ _ hv.shape hg.shape h0 (hv.frozen 0) (hv.frozen _)]
  rfl
end
end Go.Proofs.YtkogdnkifnhljaaDoor
