/- append of a string's bytes onto a row of one's own. -/
import Derived.Test.YtkogdnkifnhljaaDoorPutB
import Derived.Lib.AppendStr
namespace Go.Proofs.YtkogdnkifnhljaaDoor
open Go.RowKit Go.ChangeShapes Go.WideShapes Go.ChangeAt
theorem below_regrow (W : World) (ext : Array Obj) (d d' : Nat) : Below (grow W ext d).heap.size (grow W ext d) (grow W ext d') := ⟨rfl, rfl, rfl, Nat.le_refl _, fun _ _ => rfl⟩
theorem ow_lit1 (W : World) (B : Nat) (e : TypeId) {n : Nat} (hn : n = W.heap.size) (hB : B ≤ W.heap.size) : Ow cByte 1 e (W.alloc (.cells #[.int .u8 84] e)) B (.slice (some ⟨n, 0, none⟩) 1 1) [84] := by
  subst hn
  exact ⟨World.ownsRow_lit W #[.int .u8 84] 1 hB (by simp [maxLen]) (by simp), fun x _ => rfl⟩
theorem flat_bytes (l : List UInt8) : l.flatMap cByte = l.map fun b => Value.int .u8 b.toNat := by
  induction l with
  | nil => rfl
  | cons a r ih => rw [List.flatMap_cons, ih]; rfl
section
variable {P : Program} (w : World)
theorem run_apps {t e ts : TypeId} {z : Value} (ty : TypeId) (E : El P t e z 1 1) (hz0 : z = .int .u8 0) (hu : P.underlying ts = some .string) {B : Nat} {v : Value} {l : List UInt8} (s : ByteArray)
    (hown : Ow cByte 1 e w B v l) (h63 : l.length + s.size ≤ maxLen) (hbytes : l.length + s.size ≤ 140737488355328) (hbase : B ≤ w.heap.size) :
    ∃ v' w', (Builtin.append_ #[t, ts] ty #[v, .string s]).run P w = .ok v' w' ∧ Ow cByte 1 e w' B v' (l ++ bs s) ∧ w.grownBy w' v.ownBlock := by
  obtain ⟨i, hi, hz, hs, hb⟩ := info_of E.info
  subst hz0
  obtain ⟨v', w', hr, h2, h3, _⟩ := Go.Lib.run_append_own_string (P := P) w B t ts ty e i E.slice hu hi hz hs hb v l.length (l.flatMap cByte) hown.1 s h63 hbytes hbase
  refine ⟨v', w', hr, ⟨?_, fun x _ => rfl⟩, h3⟩
  have e1 : (l ++ bs s).flatMap cByte = l.flatMap cByte ++ Go.Lib.strCells s := by rw [List.flatMap_append, flat_bytes (bs s)]; rfl
  have e2 : (l ++ bs s).length = l.length + s.size := by rw [List.length_append, length_bs]
  rw [e1, e2]
  exact h2
theorem wp_apps {o : Oper} {a : Act} {K : Act → World → Prop} {Q : Exit → Act → World → Prop} (sv x : Operand) (t ts : TypeId)
    (ho : o.op = .call { callee := .builtin .append, args := #[sv, x], argTypes := #[t, ts] })
    {e : TypeId} {z : Value} (E : El P t e z 1 1) (hz0 : z = .int .u8 0) (hu : P.underlying ts = some .string) {B : Nat} {v : Value} {l : List UInt8} (s : ByteArray)
    (hs : a.eval sv = v) (hx : a.eval x = .string s) (hown : Ow cByte 1 e w B v l)
    (h63 : l.length + s.size ≤ maxLen) (hbytes : l.length + s.size ≤ 140737488355328) (hbase : B ≤ w.heap.size)
    (h : ∀ v' w', Ow cByte 1 e w' B v' (l ++ bs s) → w.grownBy w' v.ownBlock → K (a.put o.dst v') w') : o.wp P a w K Q := by
  obtain ⟨v', w', hr, h2, h3⟩ := run_apps (P := P) w o.type E hz0 hu s hown h63 hbytes hbase
  unfold Oper.wp execOp
  simp only [ho, resolve, invoke, builtin, Sem.run_bind, Sem.run_pure, Result.andThen_ok, List.map_toArray, List.map_cons, List.map_nil, hs, hx, hr]
  exact h v' w' h2 h3
theorem step_apps {ops : Array Oper} {o : Oper} {a : Act} {K : Act → World → Prop} {Q : Exit → Act → World → Prop} {EE : Prop} (hgd : o.guard = none) (sv x : Operand) (t ts : TypeId)
    (ho : o.op = .call { callee := .builtin .append, args := #[sv, x], argTypes := #[t, ts] })
    {e : TypeId} {z : Value} (E : El P t e z 1 1) (hz0 : z = .int .u8 0) (hu : P.underlying ts = some .string) {B : Nat} {v : Value} {l : List UInt8} (s : ByteArray)
    (hs : a.eval sv = v) (hx : a.eval x = .string s) (hown : Ow cByte 1 e w B v l)
    (h63 : l.length + s.size ≤ maxLen) (hbytes : l.length + s.size ≤ 140737488355328) (hbase : B ≤ w.heap.size)
    (h : ∀ v' w', Ow cByte 1 e w' B v' (l ++ bs s) → w.grownBy w' v.ownBlock → K (a.put o.dst v') w') : if Region.wanted o (yielded ops a.tmps) = true then Oper.wp P o a w K Q else EE := by
  have hw : Region.wanted o (yielded ops a.tmps) = true := by simp [Region.wanted, hgd]
  rw [if_pos hw]
  exact wp_apps w sv x t ts ho E hz0 hu s hs hx hown h63 hbytes hbase h
theorem step_app {ops : Array Oper} {o : Oper} {a : Act} {K : Act → World → Prop} {Q : Exit → Act → World → Prop} {EE : Prop} (hgd : o.guard = none) (sv x : Operand) (t : TypeId)
    (ho : o.op = .call { callee := .builtin .append, args := #[sv, x], argTypes := #[t, t] })
    {α : Type} {f : α → List Value} {s : Nat} {e : TypeId} {z : Value} {bytes : Nat} (E : El P t e z s bytes) {B : Nat} {v xv : Value} {l m : List α}
    (hs : a.eval sv = v) (hx : a.eval x = xv) (hown : Ow f s e w B v l) (hsrc : Sl f s w xv m) (h1 : ∀ x, ∀ u ∈ f x, u.oneCell' = true)
    (h63 : l.length + m.length ≤ maxLen) (hbytes : (l.length + m.length) * bytes ≤ 140737488355328) (hbase : B ≤ w.heap.size)
    (h : ∀ v' w', Ow f s e w' B v' (l ++ m) → w.grownBy w' v.ownBlock → (v'.ownBlock = v.ownBlock ∨ v'.ownBlock = some w.heap.size) → K (a.put o.dst v') w') : if Region.wanted o (yielded ops a.tmps) = true then Oper.wp P o a w K Q else EE := by
  have hw : Region.wanted o (yielded ops a.tmps) = true := by simp [Region.wanted, hgd]
  rw [if_pos hw]
  exact wp_app w sv x t ho E hs hx hown hsrc h1 h63 hbytes hbase h
end
/-- the bytes of a row, as a text -/
theorem run_row_text {P : Program} {w : World} {src e dst B : Nat} {v : Value} {l : List UInt8} (h : Ow cByte 1 e w B v l) (hs : P.underlying src = some (.slice e)) (he : P.underlying e = some (.int .u8)) (hd : P.underlying dst = some .string) :
    (convert src dst v).run P w = .ok (.string ⟨l.toArray⟩) w := by
  obtain ⟨A, c, rfl, h1, h2⟩ := h.sl.form
  cases A with
  | none =>
    have hl : l = [] := by
      cases l with
      | nil => rfl
      | cons x l => obtain ⟨a, o, ha, _⟩ := h.sl.at_ (i := 0) rfl; cases ha
    subst hl
    rw [run_convert_bytes_string w src dst e none [].length c hs he hd]
    rfl
  | some a =>
    refine run_convert_bytes_back w src dst e a c l hs he hd (fun j hj => ?_)
    obtain ⟨b, off, ha, _, hc⟩ := h.sl.at_ (i := j) (x := l[j]) (List.getElem?_eq_getElem hj)
    injection ha with ha
    subst ha
    have hadd : (⟨b, off, none⟩ : Addr).add j = ⟨b, off + j * 1, none⟩ := by
      unfold Addr.add
      split
      · rename_i h0'; rw [Nat.mul_one, h0']; rfl
      · rw [Nat.mul_one]
    rw [hadd]
    exact hc 0 _ rfl
end Go.Proofs.YtkogdnkifnhljaaDoor
