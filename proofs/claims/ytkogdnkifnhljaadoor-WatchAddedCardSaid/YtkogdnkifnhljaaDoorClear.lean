/- clear(s[i:]) on a row that is known whole. -/
import Derived.Test.YtkogdnkifnhljaaDoorPut
namespace Go.Proofs.YtkogdnkifnhljaaDoor
open Go.RowKit
section
variable {P : Program}
theorem zeros_len {z : Value} {s : Nat} (hs : z.cells.size = s) (n : Nat) : (Builtin.zeroCells z.cells n).toList.length = n * s := by simp [size_zeroCells, hs]
theorem run_clear_blk {w : World} {t ty e : TypeId} {z : Value} {s bytes g o n c : Nat} {cur : List Value} {et : TypeId} (E : El P t e z s bytes) (hg : Bk w g cur et) (h1 : ∀ v ∈ z.cells, v.oneCell' = true) (hn : 0 < n) (hfit : o + n * s ≤ cur.length) :
    (Builtin.clear_ #[t] ty #[.slice (some ⟨g, o, none⟩) n c]).run P w = .ok (.tuple #[]) (w.setRow g (splice cur o (Builtin.zeroCells z.cells n).toList).toArray) := by
  obtain ⟨i, hi, hz, hsz, _⟩ := info_of E.info
  obtain ⟨m, rfl⟩ : ∃ m, n = m + 1 := ⟨n - 1, by omega⟩
  have hst := run_storeCells_at P g o et (Builtin.zeroCells z.cells (m + 1)).toList 0 cur.toArray w hg (by rw [zeros_len E.cells]; simpa using hfit) (by
    intro v hv
    rw [Array.mem_toList_iff] at hv
    simp only [Builtin.zeroCells, Array.mem_map, Array.mem_range] at hv
    obtain ⟨k, _, rfl⟩ := hv
    have hlt : k % z.cells.size < z.cells.size := Nat.mod_lt _ (by rw [E.cells]; exact E.pos)
    rw [getElem!_pos z.cells _ hlt]
    exact h1 _ (Array.getElem_mem _))
  simp [Builtin.clear_, run_underlying E.slice, zeroValue, typeInfo, hi, hz, hst, splice]
theorem run_clear_none {w : World} {t ty e : TypeId} {z : Value} {s bytes c : Nat} {A : Option Addr} (E : El P t e z s bytes) : (Builtin.clear_ #[t] ty #[.slice A 0 c]).run P w = .ok (.tuple #[]) w := by
  cases A <;> simp [Builtin.clear_, run_underlying E.slice]
theorem wp_clr {w : World} {o : Oper} {a : Act} {K : Act → World → Prop} {Q : Exit → Act → World → Prop} (d : Operand) (t : TypeId)
    (ho : o.op = .call { callee := .builtin .clear, args := #[d], argTypes := #[t] }) {e : TypeId} {z : Value} {s bytes : Nat} (E : El P t e z s bytes) {g off n c : Nat} {cur : List Value} {et : TypeId}
    (hd : a.eval d = .slice (some ⟨g, off, none⟩) n c) (hg : Bk w g cur et) (h1 : ∀ v ∈ z.cells, v.oneCell' = true) (hfit : off + n * s ≤ cur.length)
    (h : ∀ w' cur', Bk w' g cur' et → cur'.length = cur.length → cur'.take off = cur.take off → w.grownBy w' (some g) → w'.heap.size = w.heap.size → K (a.put o.dst (.tuple #[])) w') : o.wp P a w K Q := by
  rcases Nat.eq_zero_or_pos n with rfl | hn
  · have hr := run_clear_none (P := P) (w := w) (ty := o.type) (c := c) (A := some ⟨g, off, none⟩) E
    unfold Oper.wp execOp
    simp only [ho, resolve, invoke, builtin, Sem.run_bind, Sem.run_pure, Result.andThen_ok, List.map_toArray, List.map_cons, List.map_nil, hd, hr]
    exact h _ _ hg rfl rfl ⟨rfl, rfl, rfl, Nat.le_refl _, fun _ _ _ => rfl⟩ rfl
  · have hr := run_clear_blk (P := P) (ty := o.type) (c := c) E hg h1 hn hfit
    unfold Oper.wp execOp
    simp only [ho, resolve, invoke, builtin, Sem.run_bind, Sem.run_pure, Result.andThen_ok, List.map_toArray, List.map_cons, List.map_nil, hd, hr]
    have hz := zeros_len E.cells n
    refine h _ _ hg.setRow (splice_length _ _ _ (by rw [hz]; exact hfit)) ?_ (setRow_grown _ _ _) (by simp [World.setRow])
    unfold splice
    rw [List.take_append_of_le_length (by simp; omega), List.take_take, Nat.min_self]
theorem wpList_clr {w : World} {ops : Array Oper} {rest : List Oper} {o : Oper} {a : Act} {Q : Exit → Act → World → Prop} (hgd : o.guard = none) (d : Operand) (t : TypeId)
    (ho : o.op = .call { callee := .builtin .clear, args := #[d], argTypes := #[t] }) {e : TypeId} {z : Value} {s bytes : Nat} (E : El P t e z s bytes) {g off n c : Nat} {cur : List Value} {et : TypeId}
    (hd : a.eval d = .slice (some ⟨g, off, none⟩) n c) (hg : Bk w g cur et) (h1 : ∀ v ∈ z.cells, v.oneCell' = true) (hfit : off + n * s ≤ cur.length)
    (h : ∀ w' cur', Bk w' g cur' et → cur'.length = cur.length → cur'.take off = cur.take off → w.grownBy w' (some g) → w'.heap.size = w.heap.size → wpList P ops Q rest (a.put o.dst (.tuple #[])) w') : wpList P ops Q (o :: rest) a w :=
  wpList_plain hgd fun _ hK => wp_clr d t ho E hd hg h1 hfit fun w' cur' h2 h3 h4 h5 h6 => hK _ _ (h w' cur' h2 h3 h4 h5 h6)
theorem wpList_atclr {ops : Array Oper} {rest : List Oper} {d : Option Tmp} {args : Array Operand} {ts : Array TypeId} {ty : TypeId} {pos : String} {af : Array Edge} {g : Option (Nat × Bool)} {a : Act} {w : World} {Q : Exit → Act → World → Prop}
    (h : wpList P ops Q (⟨d, .call { callee := .builtin .clear, args := args, argTypes := ts }, ty, pos, af, g⟩ :: rest) a w) : wpList P ops Q (⟨d, .call { callee := .builtin .clear, args := args, argTypes := ts }, ty, pos, af, g⟩ :: rest) a w := h
end
end Go.Proofs.YtkogdnkifnhljaaDoor
