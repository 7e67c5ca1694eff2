/- Lemmas for the statement: OrdE, TreeNew, T3N, TreeA, BsI, PrepV, T4N, Clear, T5, T5N, QG, Hand. -/
import Derived.OrdersHeld
import Derived.Deep.RegionHeld
import Derived.Deep.RegionHeld3
import Derived.Deep.CutBlock
import Derived.BigQuiet
import Derived.Test.YteolglmifimnaaaDoorPt1
import Derived.Test.YteolglmifimnaaaDoorPt2
import Derived.Test.YteolglmifimnaaaDoorPt3
import Derived.Test.YteolglmifimnaaaDoorPt4
/- Regions that draw their order: loads are taken first under a condition that only the region's last stores may break. -/
namespace Go.Proofs.YteolglmifimnaaaDoor
open Go.RowKit
theorem below_d1 (B : Nat) (w : World) (e : Array Obj) (d d' : Nat) : Below B (grow w.drew e d) (grow w e d') := ⟨rfl, rfl, rfl, Nat.le_refl _, fun _ _ => rfl⟩
theorem below_d2 (B : Nat) (w : World) (e e1 : Array Obj) (d d' d1 d1' : Nat) : Below B (grow (grow w e d).drew e1 d1) (grow (grow w e d') e1 d1') := ⟨rfl, rfl, rfl, Nat.le_refl _, fun _ _ => rfl⟩
theorem below_d3 (B : Nat) (w : World) (e : Array Obj) (d d' : Nat) : Below B (grow w e d) (grow w e d') := ⟨rfl, rfl, rfl, Nat.le_refl _, fun _ _ => rfl⟩
theorem below_d4 (B : Nat) (w : World) (e e1 : Array Obj) (d d' d1 d1' : Nat) : Below B (grow (grow w e d) e1 d1) (grow (grow w e d') e1 d1') := ⟨rfl, rfl, rfl, Nat.le_refl _, fun _ _ => rfl⟩
theorem below_d5 (B : Nat) (w : World) : Below B w.drew w := ⟨rfl, rfl, rfl, Nat.le_refl _, fun _ _ => rfl⟩
@[go_sem] theorem grow_drewN' (w : World) (n : Nat) (e : Array Obj) (d : Nat) : grow (w.drewN n) e d = grow w e d := rfl
@[go_sem] theorem grow_drew' (w : World) (e : Array Obj) (d : Nat) : grow w.drew e d = grow w e d := rfl
@[go_sem] theorem setCell_drewN' (w : World) (n : Nat) (a : Addr) (v : Value) : (w.drewN n).setCell a v = (w.setCell a v).drewN n := rfl
section
variable {P : Program} {ops : Array Oper} {Q : Exit → Act → World → Prop} {md : Region.Mode} {S : World → Prop} {brk : Nat → Bool}
/-- none of the last stores has come up -/
def clean (ops : Array Oper) (brk : Nat → Bool) (listed : Array Bool) : Bool := (List.range ops.size).all fun k => !(brk k && listed.getD k true)
/-- whatever order is picked; S holds behind every operation till one of brk has come up -/
def wpE (P : Program) (md : Region.Mode) (ops : Array Oper) (Q : Exit → Act → World → Prop) (S : World → Prop) (brk : Nat → Bool) : Nat → Array Bool → Act → World → Prop
  | 0, listed, a, w => Region.ready md ops listed = [] ∧ Q .normal a w
  | fuel + 1, listed, a, w =>
    (Region.ready md ops listed = [] → Q .normal a w) ∧
    ∀ i ∈ Region.ready md ops listed, wpOp P ops Q i (fun a' w' => (clean ops brk (listed.setIfInBounds i true) = true → S w') ∧ wpE P md ops Q S brk fuel (listed.setIfInBounds i true) a' w') a w
theorem wpAny_of_E : ∀ (fuel : Nat) (listed : Array Bool) (a : Act) (w : World), wpE P md ops Q S brk fuel listed a w → wpAny P md ops Q fuel listed a w
  | 0, _, _, _, h => h
  | fuel + 1, _, _, _, h => ⟨h.1, fun i hi => wpOp_mono (fun a' w' h' => wpAny_of_E fuel _ a' w' h'.2) (h.2 i hi)⟩
theorem clean_of {listed : Array Bool} {j : Nat} (h : clean ops brk (listed.setIfInBounds j true) = true) : clean ops brk listed = true := by
  unfold clean at *
  rw [List.all_eq_true] at *
  intro k hk
  have h1 := h k hk
  by_cases hjk : j = k
  · subst hjk
    simp only [Bool.not_eq_true', Bool.and_eq_false_iff] at h1 ⊢
    rcases h1 with h1 | h1
    · exact .inl h1
    · rcases Nat.lt_or_ge j listed.size with h2 | h2
      · simp [h2] at h1
      · exact .inr (by simp [Array.getD_eq_getD_getElem?] at h1)
  · rw [getD_set_ne true hjk] at h1
    exact h1
theorem clean_set {listed : Array Bool} {j : Nat} (h : clean ops brk listed = true) (hj : brk j = false) : clean ops brk (listed.setIfInBounds j true) = true := by
  unfold clean at *
  rw [List.all_eq_true] at *
  intro k hk
  have h1 := h k hk
  by_cases hjk : j = k
  · subst hjk
    simp [hj]
  · rw [getD_set_ne true hjk]
    exact h1
/-- those of brk wait for i -/
def waits (md : Region.Mode) (ops : Array Oper) (brk : Nat → Bool) (i : Nat) : Bool :=
  (List.range ops.size).all fun j => !brk j || (match ops[j]? with | some o => o.after.any fun e => Region.binds md e && e.on == i | none => true)
theorem waits_spec {i j : Nat} {oj : Oper} (h : waits md ops brk i = true) (hj : ops[j]? = some oj) (hb : brk j = true) : ∃ e ∈ oj.after, Region.binds md e = true ∧ e.on = i := by
  have hlt : j < ops.size := (Array.getElem?_eq_some_iff.1 hj).1
  have h1 := List.all_eq_true.1 h j (List.mem_range.2 hlt)
  rw [hb, hj] at h1
  simp only [Bool.not_true, Bool.false_or] at h1
  obtain ⟨k, hk, he⟩ := Array.any_eq_true.1 h1
  simp only [Bool.and_eq_true, beq_iff_eq] at he
  exact ⟨_, Array.getElem_mem hk, he.1, he.2⟩
theorem not_waits {i j : Nat} {listed : Array Bool} (hr : i ∈ Region.ready md ops listed) (hj : j ∈ Region.ready md ops listed) : listed.getD j true = false ∧ ∃ oj, ops[j]? = some oj ∧ ∀ e ∈ oj.after, Region.binds md e = true → e.on ≠ i := by
  obtain ⟨hjun, oj, hoj, hall⟩ := mem_ready.1 hj
  refine ⟨hjun, oj, hoj, fun e he hb heq => ?_⟩
  have h1 := hall e he hb
  have h0 := (mem_ready.1 hr).1
  rw [heq] at h1
  rcases Nat.lt_or_ge i listed.size with h' | h'
  · simp [h'] at h0 h1; rw [h0] at h1; cases h1
  · simp [Array.getElem?_eq_none h'] at h1
/-- a load may be taken first -/
theorem wpE_first {i : Nat} {oi : Oper} {v : Value} (hi : ops[i]? = some oi) (hsel : ∀ (j : Nat) (o : Oper) cs b, ops[j]? = some o → o.op ≠ .select cs b)
    (hQ : ∀ c a w, Q (.panic c) (a.put oi.dst v) w → Q (.panic c) a w) (hwt : waits md ops brk i = true) (hbi : brk i = false) :
    ∀ (fuel : Nat) (listed : Array Bool) (a : Act) (w : World),
      (∀ j oj, ops[j]? = some oj → j ≠ i → listed.getD j true = false → (∀ e ∈ oj.after, Region.binds md e = true → e.on ≠ i) → oi.apart ops oj = true) →
      i ∈ Region.ready md ops listed → YieldsIf P ops S oi v a → clean ops brk listed = true → S w →
      wpE P md ops Q S brk fuel (listed.setIfInBounds i true) (a.put oi.dst v) w → wpE P md ops Q S brk (fuel + 1) listed a w := by
  intro fuel
  induction fuel with
  | zero =>
    intro listed a w _ hr hy hc hS H
    refine ⟨fun h => (by rw [h] at hr; cases hr), fun j hj => ?_⟩
    by_cases hji : j = i
    · subst hji; exact hy.wpOp hi hS ⟨fun _ => hS, H⟩
    · have := ready_mono hj hji
      rw [H.1] at this
      cases this
  | succ fuel ih =>
    intro listed a w hfree hr hy hc hS H
    refine ⟨fun h => (by rw [h] at hr; cases hr), fun j hj => ?_⟩
    by_cases hji : j = i
    · subst hji; exact hy.wpOp hi hS ⟨fun _ => hS, H⟩
    · have h1 := H.2 j (ready_mono hj hji)
      obtain ⟨hjun, oj, hoj, hnot⟩ := not_waits hr hj
      have hbj : brk j = false := by
        cases hb : brk j with
        | false => rfl
        | true =>
          obtain ⟨e, he, h2, h3⟩ := waits_spec hwt hoj hb
          exact absurd h3 (hnot e he h2)
      have h2 := wpOp_putIf hoj (hfree j oj hoj hji hjun hnot) (fun cs b => hsel i oi cs b hi) (fun cs b => hsel j oj cs b hoj) hQ hy h1
      have hfree' : ∀ k ok, ops[k]? = some ok → k ≠ i → (listed.setIfInBounds j true).getD k true = false →
          (∀ e ∈ ok.after, Region.binds md e = true → e.on ≠ i) → oi.apart ops ok = true := fun k ok hk hki hun hno => by
        refine hfree k ok hk hki ?_ hno
        by_cases hjk : j = k
        · subst hjk; exact hjun
        · rw [getD_set_ne true hjk] at hun; exact hun
      have hcj := clean_set hc hbj
      have hcij := clean_set (clean_set hc hbi) hbj
      refine wpOp_mono (fun a' w' h3 => ⟨fun _ => h3.2.1 hcij, ih (listed.setIfInBounds j true) a' w' hfree' (ready_mono hr (Ne.symm hji)) h3.1 hcj (h3.2.1 hcij) ?_⟩) h2
      rw [Array.setIfInBounds_comm _ _ hji]
      exact h3.2.2
/-- what looks at no memory may be taken first at any time -/
theorem wpE_firstP {i : Nat} {oi : Oper} {v : Value} (hi : ops[i]? = some oi) (hsel : ∀ (j : Nat) (o : Oper) cs b, ops[j]? = some o → o.op ≠ .select cs b)
    (hQ : ∀ c a w, Q (.panic c) (a.put oi.dst v) w → Q (.panic c) a w) (hbi : brk i = false) :
    ∀ (fuel : Nat) (listed : Array Bool) (a : Act) (w : World),
      (∀ j oj, ops[j]? = some oj → j ≠ i → listed.getD j true = false → (∀ e ∈ oj.after, Region.binds md e = true → e.on ≠ i) → oi.apart ops oj = true) →
      i ∈ Region.ready md ops listed → YieldsIf P ops (fun _ => True) oi v a → (clean ops brk listed = true → S w) →
      wpE P md ops Q S brk fuel (listed.setIfInBounds i true) (a.put oi.dst v) w → wpE P md ops Q S brk (fuel + 1) listed a w := by
  intro fuel
  induction fuel with
  | zero =>
    intro listed a w _ hr hy hS H
    refine ⟨fun h => (by rw [h] at hr; cases hr), fun j hj => ?_⟩
    by_cases hji : j = i
    · subst hji; exact hy.wpOp hi trivial ⟨fun hc => hS (clean_of hc), H⟩
    · have := ready_mono hj hji
      rw [H.1] at this
      cases this
  | succ fuel ih =>
    intro listed a w hfree hr hy hS H
    refine ⟨fun h => (by rw [h] at hr; cases hr), fun j hj => ?_⟩
    by_cases hji : j = i
    · subst hji; exact hy.wpOp hi trivial ⟨fun hc => hS (clean_of hc), H⟩
    · have h1 := H.2 j (ready_mono hj hji)
      obtain ⟨hjun, oj, hoj, hnot⟩ := not_waits hr hj
      have h2 := wpOp_putIf hoj (hfree j oj hoj hji hjun hnot) (fun cs b => hsel i oi cs b hi) (fun cs b => hsel j oj cs b hoj) hQ hy h1
      have hfree' : ∀ k ok, ops[k]? = some ok → k ≠ i → (listed.setIfInBounds j true).getD k true = false →
          (∀ e ∈ ok.after, Region.binds md e = true → e.on ≠ i) → oi.apart ops ok = true := fun k ok hk hki hun hno => by
        refine hfree k ok hk hki ?_ hno
        by_cases hjk : j = k
        · subst hjk; exact hjun
        · rw [getD_set_ne true hjk] at hun; exact hun
      have hcc : clean ops brk (listed.setIfInBounds j true) = true → clean ops brk ((listed.setIfInBounds i true).setIfInBounds j true) = true := fun hc => by
        rw [Array.setIfInBounds_comm _ _ (Ne.symm hji)]
        exact clean_set hc hbi
      refine wpOp_mono (fun a' w' h3 => ⟨fun hc => h3.2.1 (hcc hc), ih (listed.setIfInBounds j true) a' w' hfree' (ready_mono hr (Ne.symm hji)) h3.1 (fun hc => h3.2.1 (hcc hc)) ?_⟩) h2
      rw [Array.setIfInBounds_comm _ _ hji]
      exact h3.2.2
theorem wpE_take {i : Nat} {oi : Oper} {v : Value} {fuel : Nat} {listed : Array Bool} {a : Act} {w : World} (hi : ops[i]? = some oi)
    (hs : Region.noSelect ops = true) (hf : Region.free md ops listed i = true) (hr : (Region.ready md ops listed).contains i = true)
    (hwt : waits md ops brk i = true) (hc : clean ops brk listed = true) (hbi : brk i = false)
    (hQ : ∀ c a w, Q (.panic c) (a.put oi.dst v) w → Q (.panic c) a w) (hy : YieldsIf P ops S oi v a) (hS : S w)
    (h : wpE P md ops Q S brk fuel (listed.setIfInBounds i true) (a.put oi.dst v) w) : wpE P md ops Q S brk (fuel + 1) listed a w :=
  wpE_first hi (Region.noSelect_spec hs) hQ hwt hbi fuel listed a w (Region.free_spec hi hf) (by simpa using hr) hy hc hS h
theorem wpE_takeP {i : Nat} {oi : Oper} {v : Value} {fuel : Nat} {listed : Array Bool} {a : Act} {w : World} (hi : ops[i]? = some oi)
    (hs : Region.noSelect ops = true) (hf : Region.free md ops listed i = true) (hr : (Region.ready md ops listed).contains i = true) (hbi : brk i = false)
    (hQ : ∀ c a w, Q (.panic c) (a.put oi.dst v) w → Q (.panic c) a w) (hy : YieldsIf P ops (fun _ => True) oi v a) (hS : S w)
    (h : wpE P md ops Q S brk fuel (listed.setIfInBounds i true) (a.put oi.dst v) w) : wpE P md ops Q S brk (fuel + 1) listed a w :=
  wpE_firstP hi (Region.noSelect_spec hs) hQ hbi fuel listed a w (Region.free_spec hi hf) (by simpa using hr) hy (fun _ => hS) h
theorem wpE_takeQ {i : Nat} {oi : Oper} {v : Value} {fuel : Nat} {listed : Array Bool} {a : Act} {w : World} (hi : ops[i]? = some oi)
    (hs : Region.noSelect ops = true) (hf : Region.free md ops listed i = true) (hr : (Region.ready md ops listed).contains i = true) (hbi : brk i = false)
    (hQ : ∀ c a w, Q (.panic c) (a.put oi.dst v) w → Q (.panic c) a w) (hy : YieldsIf P ops (fun _ => True) oi v a) (hc : clean ops brk listed = false)
    (h : wpE P md ops Q S brk fuel (listed.setIfInBounds i true) (a.put oi.dst v) w) : wpE P md ops Q S brk (fuel + 1) listed a w :=
  wpE_firstP hi (Region.noSelect_spec hs) hQ hbi fuel listed a w (Region.free_spec hi hf) (by simpa using hr) hy (fun hc2 => by rw [hc] at hc2; cases hc2) h
def AllE (P : Program) (md : Region.Mode) (ops : Array Oper) (Q : Exit → Act → World → Prop) (S : World → Prop) (brk : Nat → Bool) (fuel : Nat) (listed : Array Bool) (a : Act) (w : World) (rs : List Nat) : Prop :=
  ∀ i ∈ rs, wpOp P ops Q i (fun a' w' => (clean ops brk (listed.setIfInBounds i true) = true → S w') ∧ wpE P md ops Q S brk fuel (listed.setIfInBounds i true) a' w') a w
theorem AllE.nil {fuel : Nat} {listed : Array Bool} {a : Act} {w : World} : AllE P md ops Q S brk fuel listed a w [] := fun _ h => by cases h
theorem AllE.cons {fuel : Nat} {listed : Array Bool} {a : Act} {w : World} {i : Nat} {o : Oper} {rs : List Nat} (ho : ops[i]? = some o)
    (h : ∀ K' : Act → World → Prop, Shut (∀ a w, S w → (S w → wpE P md ops Q S brk fuel (listed.setIfInBounds i true) a w) → K' a w) → if Region.wanted o (yielded ops a.tmps) = true then Oper.wp P o a w K' Q else K' (a.put o.dst undef) w)
    (hs : AllE P md ops Q S brk fuel listed a w rs) : AllE P md ops Q S brk fuel listed a w (i :: rs) := fun j hj => by
  rcases List.mem_cons.1 hj with rfl | hj
  · exact wpOp_step ho (fun K' hK => h K' (fun a w hS hW => hK a w ⟨fun _ => hS, hW hS⟩))
  · exact hs j hj
/-- one behind which S is asked no more -/
theorem AllE.last {fuel : Nat} {listed : Array Bool} {a : Act} {w : World} {i : Nat} {o : Oper} {rs : List Nat} (ho : ops[i]? = some o) (hb : clean ops brk (listed.setIfInBounds i true) = false)
    (h : ∀ K' : Act → World → Prop, Shut (∀ a w, wpE P md ops Q S brk fuel (listed.setIfInBounds i true) a w → K' a w) → if Region.wanted o (yielded ops a.tmps) = true then Oper.wp P o a w K' Q else K' (a.put o.dst undef) w)
    (hs : AllE P md ops Q S brk fuel listed a w rs) : AllE P md ops Q S brk fuel listed a w (i :: rs) := fun j hj => by
  rcases List.mem_cons.1 hj with rfl | hj
  · exact wpOp_step ho (fun K' hK => h K' (fun a w hW => hK a w ⟨fun hf => (by rw [hb] at hf; cases hf), hW⟩))
  · exact hs j hj
theorem wpE_ready {rs : List Nat} {fuel : Nat} {listed : Array Bool} {a : Act} {w : World} (hr : Region.ready md ops listed = rs) (hne : rs ≠ [])
    (h : AllE P md ops Q S brk fuel listed a w rs) : wpE P md ops Q S brk (fuel + 1) listed a w := ⟨fun h0 => absurd (hr ▸ h0) hne, by rw [hr]; exact h⟩
theorem wpE_done {listed : Array Bool} {a : Act} {w : World} (hr : Region.ready md ops listed = []) (h : Q .normal a w) :
    ∀ fuel, wpE P md ops Q S brk fuel listed a w
  | 0 => ⟨hr, h⟩
  | _ + 1 => ⟨fun _ => h, by rw [hr]; simp⟩
theorem wp_region_W {id : Nat} {a : Act} {w : World} (hm : P.follows .mixedOrders = true) (h : ∀ W, Hid (W = w.drew) → wpAny P .any ops Q ops.size (Array.replicate ops.size false) a W) : (Code.region id ops true).wp P Q a w :=
  wp_region_any hm (h _ (Lib.hid rfl))
theorem wpAny_S {a : Act} {W : World} (S : World → Prop) (brk : Nat → Bool) (hS : S W) (h : S W → wpE P .any ops Q S brk ops.size (Array.replicate ops.size false) a W) : wpAny P .any ops Q ops.size (Array.replicate ops.size false) a W :=
  wpAny_of_E _ _ _ _ (h hS)
end
section
variable {P : Program} {w : World} {ops : Array Oper} {o : Oper} {a : Act} {K : Act → World → Prop} {Q : Exit → Act → World → Prop} {EE : Prop}
theorem stepE_app (hw : Region.wanted o (yielded ops a.tmps) = true) (sv x : Operand) (t : TypeId)
    (ho : o.op = .call { callee := .builtin .append, args := #[sv, x], argTypes := #[t, t] })
    {α : Type} {f : α → List Value} {s : Nat} {e : TypeId} {z : Value} {bytes : Nat} (E : El P t e z s bytes) {B : Nat} {v xv : Value} {l m : List α}
    (hs : a.eval sv = v) (hx : a.eval x = xv) (hown : Ow f s e w B v l) (hsrc : Sl f s w xv m) (h1 : ∀ x, ∀ u ∈ f x, u.oneCell' = true)
    (h63 : l.length + m.length ≤ maxLen) (hbytes : (l.length + m.length) * bytes ≤ 140737488355328) (hbase : B ≤ w.heap.size)
    (h : ∀ v' w', Ow f s e w' B v' (l ++ m) → w.grownBy w' v.ownBlock → (v'.ownBlock = v.ownBlock ∨ v'.ownBlock = some w.heap.size) → K (a.put o.dst v') w') : if Region.wanted o (yielded ops a.tmps) = true then Oper.wp P o a w K Q else EE := by
  rw [if_pos hw]
  exact wp_app w sv x t ho E hs hx hown hsrc h1 h63 hbytes hbase h
theorem stepE_mk (hw : Region.wanted o (yielded ops a.tmps) = true) (x y : Operand) (t : TypeId) (ho : o.op = Op.makeSlice t x y)
    {α : Type} {f : α → List Value} {s : Nat} {e : TypeId} {z : Value} {bytes : Nat} (E : El P t e z s bytes) {B n : Nat} {C : Int} (hx : a.eval x = .int .i64 0) (hy : a.eval y = .int .i64 C) (hC : C = (n : Int))
    (hbytes : n * bytes ≤ 140737488355328) (hn : n ≤ maxLen) (hbase : B ≤ w.heap.size)
    (h : ∀ w', Ow f s e w' B (.slice (some ⟨w.heap.size, 0, none⟩) 0 n) [] → w.grownBy w' none → K (a.put o.dst (.slice (some ⟨w.heap.size, 0, none⟩) 0 n)) w') : if Region.wanted o (yielded ops a.tmps) = true then Oper.wp P o a w K Q else EE := by
  rw [if_pos hw]
  obtain ⟨i, hi, hz⟩ := Option.map_eq_some_iff.1 E.info
  simp only [Prod.mk.injEq] at hz
  obtain ⟨z1, z2, z3⟩ := hz
  obtain ⟨w', hrun, r1, r2⟩ := run_make_own (P := P) w B t e i z s E.slice hi z1 z2 .i64 .i64 n (by rw [z3, Nat.mul_comm]; omega) hn hbase
  subst hC
  unfold Oper.wp
  simp [execOp, ho, hx, hy, hrun, Result.andThen]
  exact h w' ⟨r1, by simp⟩ r2
end
theorem Ow.one_at {α : Type} (f : α → List Value) (s : Nat) (w : World) (x : α) (e : TypeId) (hs : (f x).length = s) (cs : Array Value) (hcs : cs.toList = f x) {n B : Nat} (hn : n = w.heap.size) (hB : B ≤ w.heap.size) : Ow f s e (w.alloc (.cells cs e)) B (.slice (some ⟨n, 0, none⟩) 1 1) [x] := by
  subst hn
  refine ⟨?_, by simpa using hs⟩
  have := World.ownsRow_lit (e := e) (size := s) w cs 1 hB (by simp [maxLen]) (by rw [← Array.length_toList, hcs, hs, Nat.one_mul])
  rw [hcs] at this
  simpa using this
/-- behind the building of a slice of one element -/
theorem build_one {α : Type} {K : Act → World → Prop} {A : Act} {Wc : World} {cs : Array Value} {e : TypeId} {n : Nat} (hn : n = Wc.heap.size) (B : Nat) (hB : B ≤ Wc.heap.size) (f : α → List Value) (s : Nat) (x : α) (hs : (f x).length = s) (hcs : cs.toList = f x)
    (h : ∀ w', Ow f s e w' B (.slice (some ⟨n, 0, none⟩) 1 1) [x] → Below Wc.heap.size Wc w' → K A w') : K A (Wc.alloc (.cells cs e)) :=
  h _ (Ow.one_at f s Wc x e hs cs hcs hn hB) ((Below.refl _ _).alloc (Nat.le_refl _) _)
theorem Ow.lt {α : Type} {f : α → List Value} {s : Nat} {e : TypeId} {w : World} {B : Nat} {v : Value} {l : List α} (h : Ow f s e w B v l) : ∀ g, v.ownBlock = some g → g < w.heap.size := by
  intro q hq
  obtain ⟨A, c, rfl, _, _, _, h4⟩ := h.form
  cases A with
  | none => cases hq
  | some a =>
    obtain ⟨g, rfl, _, hg⟩ := h4 _ rfl
    have e1 : g = q := by simpa [Value.ownBlock] using hq
    omega
/-- a row that was there, and one that is made now -/
theorem Ow.apart {α : Type} {f : α → List Value} {s : Nat} {e : TypeId} {w : World} {B : Nat} {v x : Value} {l : List α} (h : Ow f s e w B v l) {g : Nat} (hx : x.ownBlock = some g) (hg : w.heap.size ≤ g) : v.ownBlock ≠ x.ownBlock := by
  intro h1
  have := h.lt g (h1.trans hx)
  omega
/-- a row of what has grown, in a later world -/
theorem Ow.moved {α : Type} {f : α → List Value} {s : Nat} {e : TypeId} {W W' w' : World} {ext : Array Obj} {d d' B : Nat} {v : Value} {l : List α} (h : Ow f s e (grow W ext d) B v l) (hB : W.heap.size ≤ B) (hb : Below (grow W' ext d').heap.size (grow W' ext d') w') (hs : W'.heap.size = W.heap.size) : Ow f s e w' B v l :=
  (h.regrow hB hs).below hb
/-- the world at hand, by a name of its own -/
theorem gen_w {P : Program} {c : Code} {Q : Exit → Act → World → Prop} {a : Act} {w : World} (h : ∀ W, Hid (W = w) → c.wp P Q a W) : c.wp P Q a w := h w (Lib.hid rfl)
/-- the world behind an append onto a row that lies above a base -/
theorem grown_on {W w1 w2 : World} {r : Option Nat} (hb : Below W.heap.size W w1) (hg : w1.grownBy w2 r) (hr : ∀ g, r = some g → W.heap.size ≤ g) : ∃ ext d, w2 = grow W ext d := by
  obtain ⟨h1, h2, h3, h4, h5⟩ := hb
  obtain ⟨g1, g2, g3, g4, g5⟩ := hg
  refine Below.grown_eq W ⟨g1.trans h1, g2.trans h2, g3.trans h3, Nat.le_trans h4 g4, fun k hk => ?_⟩
  rw [g5 k (by omega) ?_, h5 k hk]
  cases r with
  | none => simp
  | some g => have := hr g rfl; simp; omega
theorem Ow.above {α : Type} {f : α → List Value} {s : Nat} {e : TypeId} {w : World} {B : Nat} {v : Value} {l : List α} (h : Ow f s e w B v l) : ∀ g, v.ownBlock = some g → B ≤ g := by
  intro q hq
  obtain ⟨A, c, rfl, _, _, _, h4⟩ := h.form
  cases A with
  | none => cases hq
  | some a =>
    obtain ⟨g, rfl, hB, _⟩ := h4 _ rfl
    have e1 : g = q := by simpa [Value.ownBlock] using hq
    omega
/-- a row made with room -/
theorem ow_made {α : Type} (f : α → List Value) (s : Nat) (e : TypeId) (w : World) (cs : Array Value) (n : Nat) {g B : Nat} (hg : g = w.heap.size) (hB : B ≤ w.heap.size) (hn : n ≤ maxLen) (hs : cs.size = n * s) : Ow f s e (w.alloc (.cells cs e)) B (.slice (some ⟨g, 0, none⟩) 0 n) [] := by
  subst hg
  refine ⟨⟨by simp, .inr ⟨w.heap.size, n, cs, rfl, hB, ?_, Nat.zero_le _, hn, hs, by simp⟩⟩, by simp⟩
  exact heap_alloc_new w _
end Go.Proofs.YteolglmifimnaaaDoor

/- tree.New. -/
namespace Go.Proofs.YteolglmifimnaaaDoor
open Go.RowKit Go.ChangeShapes Go.WideShapes Go.ChangeAt
def NewRes (w : World) (e : Ending) (w' : World) : Prop := ∃ A c, e = .returned (.agg #[.int .i64 0, .slice A 1 c, .slice none 0 0]) ∧ Ow cNode 9 40 w' w.heap.size (.slice A 1 c) [rootN] ∧ Below w.heap.size w w'
theorem treeNew (w : World) : Calls Tryd.prog 28 #[] w (NewRes w) := by
  go_enter Tryd.func28, Tryd.ntmps28
  go_wp2_with fail
  refine bodyPost_ret (v := .agg #[.int .i64 0, .slice (some ⟨w.heap.size + 1, 0, none⟩) 1 1, .slice none 0 0]) (by simp [results, Tryd.results28, go_sem]) rfl ⟨some ⟨w.heap.size + 1, 0, none⟩, 1, rfl, ?_, (by repeat (first | exact Below.refl _ _ | assumption | refine Below.drew ?_ | refine Below.drewN' ?_ _ | refine below_grow0 _ _ ?_ | refine below_alloc0 _ ?_ | refine Below.alloc ?_ (by first | omega | (simp; done) | (simp; omega)) _ | refine Below.setCell ?_ (by first | omega | (simp; done) | (simp; omega)) _ | refine Below.grow _ _ _ ?_ (by first | omega | (simp; done) | (simp; omega))))⟩
  exact Ow.one_at cNode 9 _ rootN _ rfl _ rfl (by simp) (by simp)
end Go.Proofs.YteolglmifimnaaaDoor

/- made by geninst.py from XT3.src -/
namespace Go.Proofs.YteolglmifimnaaaDoor
open Go.RowKit
theorem cmpNode (x : Node) (p : ByteArray) (w : World) :
    Calls Tryd.prog 59 #[.agg #[.string x.path, .string x.data, .int .i64 x.czxid, .int .i64 x.mzxid, .int .i64 x.pzxid, .int .i64 x.version, .int .i64 x.cversion, .int .i64 x.owner, .int .i64 x.kids], .string p] w fun e w' => e = .returned (.int .i64 (cmpB x.path p)) ∧ Below w.heap.size w w' := by
  go_enter Tryd.func59, Tryd.ntmps59
  go_wp2_with (go_at_call 60; refine (Tryd.strings_Compare _ _ _).mono ?_; rintro e w1 ⟨rfl, rfl⟩)
  go_ret
  exact ⟨rfl, (by repeat (first | exact Below.refl _ _ | assumption | refine Below.drew ?_ | refine Below.drewN' ?_ _ | refine below_grow0 _ _ ?_ | refine below_alloc0 _ ?_ | refine Below.alloc ?_ (by first | omega | (simp; done) | (simp; omega)) _ | refine Below.setCell ?_ (by first | omega | (simp; done) | (simp; omega)) _ | refine Below.grow _ _ _ ?_ (by first | omega | (simp; done) | (simp; omega))))⟩

set_option maxHeartbeats 1000000 in
theorem bsfNode (v : Value) (l : List Node) (p : ByteArray) (w : World) (h : Sl cNode 9 w v l) (hn : l.length ≤ 140737488355328) :
    Calls Tryd.prog 58 #[v, .string p, .func (.func 59) #[] #[]] w fun e w' => e = .returned (.tuple #[.int .i64 (posK (l.map Node.path) p), .bool (isK (l.map Node.path) p)]) ∧ Below w.heap.size w w' := by
  obtain ⟨A, c, rfl, hc1, hc2⟩ := h.form
  have H := Lib.hid h
  clear h
  go_enter Tryd.func58, Tryd.ntmps58
  go_wp2
  go_loopw [9, 10] (fun i j wr => ∃ (a b : Nat), a ≤ b ∧ b ≤ l.length ∧ i = .int .i64 a ∧ j = .int .i64 b ∧ Hid (bsr (ltK (l.map Node.path) p) a b = posK (l.map Node.path) p) ∧ Below w.heap.size w wr) (fun i j _ => (intOf j - intOf i).toNat)
  case atStart => exact ⟨0, l.length, Nat.zero_le _, Nat.le_refl _, rfl, rfl, (by simp [posK] : bsr (ltK (l.map Node.path) p) 0 l.length = posK (l.map Node.path) p), Below.refl _ _⟩
  case round =>
    obtain ⟨a, b, hab, hbl, rfl, rfl, hr, hb⟩ := hrel
    by_cases hlt : a < b
    · have hx : l[(a + b) / 2]? = some (l[(a + b) / 2]'(by omega)) := List.getElem?_eq_getElem _
      obtain ⟨bk, off, rfl, hbw, c0, c1, c2, c3, c4, c5, c6, c7, c8⟩ := (H.out.below hb).Node_at hx
      generalize hxe : l[(a + b) / 2]'(by omega) = x at hx c0 c1 c2 c3 c4 c5 c6 c7 c8
      have HX := Lib.hid hx
      clear hx hxe
      go_wp2_with (go_at_call 59; refine (cmpNode _ _ _).mono ?_; rintro e w1 ⟨rfl, hb1⟩; obtain ⟨ext1, d1, rfl⟩ := Below.grown_eq _ hb1)
      all_goals
        have hcmp := ltK_of (g := Node.path) HX.out p
        go_roundw
      case rel =>
        have hlt2 : cmpB x.path p < 0 := by assumption
        exact ⟨(a + b) / 2 + 1, b, by omega, by omega, by go_num, rfl, Eq.trans (bsr_up _ _ _ hlt (by rw [hcmp]; simpa using hlt2)).symm hr.out, (by repeat (first | exact Below.refl _ _ | assumption | refine Below.drew ?_ | refine Below.drewN' ?_ _ | refine below_grow0 _ _ ?_ | refine below_alloc0 _ ?_ | refine Below.alloc ?_ (by first | omega | (simp; done) | (simp; omega)) _ | refine Below.setCell ?_ (by first | omega | (simp; done) | (simp; omega)) _ | refine Below.grow _ _ _ ?_ (by first | omega | (simp; done) | (simp; omega))))⟩
      case measure => simp [intOf]; omega
      case rel =>
        have hge2 : 0 ≤ cmpB x.path p := by assumption
        exact ⟨a, (a + b) / 2, by omega, by omega, rfl, by go_num, Eq.trans (bsr_down _ _ _ hlt (by rw [hcmp]; simpa using hge2)).symm hr.out, (by repeat (first | exact Below.refl _ _ | assumption | refine Below.drew ?_ | refine Below.drewN' ?_ _ | refine below_grow0 _ _ ?_ | refine below_alloc0 _ ?_ | refine Below.alloc ?_ (by first | omega | (simp; done) | (simp; omega)) _ | refine Below.setCell ?_ (by first | omega | (simp; done) | (simp; omega)) _ | refine Below.grow _ _ _ ?_ (by first | omega | (simp; done) | (simp; omega))))⟩
      case measure => simp [intOf]; omega
    · obtain rfl : a = b := by omega
      have hpos : posK (l.map Node.path) p = a := by rw [← hr.out]; exact bsr_end _ _ _ hlt
      have HP := Lib.hid hpos
      clear hpos hr
      by_cases han : a < l.length
      · have hx : l[a]? = some (l[a]'(by omega)) := List.getElem?_eq_getElem _
        obtain ⟨bk, off, rfl, hbw, c0, c1, c2, c3, c4, c5, c6, c7, c8⟩ := (H.out.below hb).Node_at hx
        generalize hxe : l[a]'(by omega) = x at hx c0 c1 c2 c3 c4 c5 c6 c7 c8
        have HX := Lib.hid hx
        clear hx hxe
        go_wp2_with (go_at_call 59; refine (cmpNode _ _ _).mono ?_; rintro e w1 ⟨rfl, hb1⟩; obtain ⟨ext1, d1, rfl⟩ := Below.grown_eq _ hb1)
        go_ret2
        refine ⟨?_, (by repeat (first | exact Below.refl _ _ | assumption | refine Below.drew ?_ | refine Below.drewN' ?_ _ | refine below_grow0 _ _ ?_ | refine below_alloc0 _ ?_ | refine Below.alloc ?_ (by first | omega | (simp; done) | (simp; omega)) _ | refine Below.setCell ?_ (by first | omega | (simp; done) | (simp; omega)) _ | refine Below.grow _ _ _ ?_ (by first | omega | (simp; done) | (simp; omega))))⟩
        rw [isK_in HP.out HX.out, HP.out]
        rfl
      · go_wp2
        go_ret2
        refine ⟨?_, (by repeat (first | exact Below.refl _ _ | assumption | refine Below.drew ?_ | refine Below.drewN' ?_ _ | refine below_grow0 _ _ ?_ | refine below_alloc0 _ ?_ | refine Below.alloc ?_ (by first | omega | (simp; done) | (simp; omega)) _ | refine Below.setCell ?_ (by first | omega | (simp; done) | (simp; omega)) _ | refine Below.grow _ _ _ ?_ (by first | omega | (simp; done) | (simp; omega))))⟩
        rw [isK_out HP.out han, HP.out]
        rfl
end Go.Proofs.YteolglmifimnaaaDoor

/- package tree: find, Get, Open, copied. -/
namespace Go.Proofs.YteolglmifimnaaaDoor
open Go.RowKit Go.ChangeShapes Go.WideShapes Go.ChangeAt
theorem trFind (z : Int) (v : Value) (sa : Option Addr) (sn sc : Nat) (l : List Node) (p : ByteArray) (w : World) (h : Sl cNode 9 w v l) (hn : l.length ≤ 140737488355328) :
    Calls Tryd.prog 38 #[.agg #[.int .i64 z, v, .slice sa sn sc], .string p] w fun e w' => e = .returned (.tuple #[.int .i64 (posN l p), .bool (hasN l p)]) ∧ Below w.heap.size w w' := by
  obtain ⟨A, c, rfl, h1, h2⟩ := h.form
  have H := Lib.hid h
  clear h
  unfold posN hasN
  go_enter Tryd.func38, Tryd.ntmps38
  go_wp2_with (go_at_call 58; refine (bsfNode _ _ _ _ (H.out.alloc _) hn).mono ?_; rintro e w1 ⟨rfl, hb⟩; obtain ⟨ext, d, rfl⟩ := Below.grown_eq _ hb)
  go_ret2
  exact ⟨rfl, (by repeat (first | exact Below.refl _ _ | assumption | refine Below.drew ?_ | refine Below.drewN' ?_ _ | refine below_grow0 _ _ ?_ | refine below_alloc0 _ ?_ | refine Below.alloc ?_ (by first | omega | (simp; done) | (simp; omega)) _ | refine Below.setCell ?_ (by first | omega | (simp; done) | (simp; omega)) _ | refine Below.grow _ _ _ ?_ (by first | omega | (simp; done) | (simp; omega))))⟩
theorem hasN_lt {l : List Node} {p : ByteArray} (h : hasN l p = true) : posN l p < l.length := by
  unfold hasN isK at h
  simp at h
  exact h.1
theorem getN_at {l : List Node} {p : ByteArray} (h : hasN l p = true) : l[posN l p]? = some (getN l p) := by
  have hlt := hasN_lt h
  unfold getN
  rw [if_pos h, List.getD_eq_getElem?_getD, List.getElem?_eq_getElem hlt]
  rfl
abbrev vNode (x : Node) : Value := .agg #[.string x.path, .string x.data, .int .i64 x.czxid, .int .i64 x.mzxid, .int .i64 x.pzxid, .int .i64 x.version, .int .i64 x.cversion, .int .i64 x.owner, .int .i64 x.kids]
set_option maxHeartbeats 400000 in
theorem trGet (z : Int) (v : Value) (sa : Option Addr) (sn sc : Nat) (l : List Node) (p : ByteArray) (w : World) (h : Sl cNode 9 w v l) (hn : l.length ≤ 140737488355328) :
    Calls Tryd.prog 19 #[.agg #[.int .i64 z, v, .slice sa sn sc], .string p] w fun e w' => e = .returned (.tuple #[vNode (getN l p), .int .i64 (getE l p)]) ∧ Below w.heap.size w w' := by
  obtain ⟨A, c, rfl, h1, h2⟩ := h.form
  have H := Lib.hid h
  clear h
  unfold getE
  cases hk : hasN l p with
  | true =>
    have hlt := hasN_lt hk
    obtain ⟨bk, off, rfl, hbw, c0, c1, c2, c3, c4, c5, c6, c7, c8⟩ := H.out.Node_at (getN_at hk)
    rw [if_pos rfl]
    have hcall := fun w' (hs : Sl cNode 9 w' (.slice (some ⟨bk, off, none⟩) l.length c) l) => trFind z _ sa sn sc l p w' hs hn
    rw [hk] at hcall
    generalize getN l p = x at *
    generalize posN l p = q at *
    have HC := Lib.hid hcall
    clear hcall hk
    go_enter Tryd.func19, Tryd.ntmps19
    go_wp2_with (go_at_call 38; refine (HC.out _ (H.out.below (by repeat (first | exact Below.refl _ _ | assumption | refine Below.drew ?_ | refine Below.drewN' ?_ _ | refine below_grow0 _ _ ?_ | refine below_alloc0 _ ?_ | refine Below.alloc ?_ (by first | omega | (simp; done) | (simp; omega)) _ | refine Below.setCell ?_ (by first | omega | (simp; done) | (simp; omega)) _ | refine Below.grow _ _ _ ?_ (by first | omega | (simp; done) | (simp; omega)))))).mono ?_; rintro e w1 ⟨rfl, hb⟩; obtain ⟨ext, d, rfl⟩ := Below.grown_eq _ hb)
    refine bodyPost_ret (v := .tuple #[vNode x, .int .i64 0]) (by simp [results, Tryd.results19, go_sem]) rfl ⟨rfl, (by repeat (first | exact Below.refl _ _ | assumption | refine Below.drew ?_ | refine Below.drewN' ?_ _ | refine below_grow0 _ _ ?_ | refine below_alloc0 _ ?_ | refine Below.alloc ?_ (by first | omega | (simp; done) | (simp; omega)) _ | refine Below.setCell ?_ (by first | omega | (simp; done) | (simp; omega)) _ | refine Below.grow _ _ _ ?_ (by first | omega | (simp; done) | (simp; omega))))⟩
  | false =>
    have hL : getN l p = noNode := by unfold getN; rw [hk]; rfl
    rw [hL, if_neg (by simp)]
    have hcall := fun w' (hs : Sl cNode 9 w' (.slice A l.length c) l) => trFind z _ sa sn sc l p w' hs hn
    rw [hk] at hcall
    clear hk hL
    generalize posN l p = q at *
    have HC := Lib.hid hcall
    clear hcall
    go_enter Tryd.func19, Tryd.ntmps19
    go_wp2_with (go_at_call 38; refine (HC.out _ (H.out.below (by repeat (first | exact Below.refl _ _ | assumption | refine Below.drew ?_ | refine Below.drewN' ?_ _ | refine below_grow0 _ _ ?_ | refine below_alloc0 _ ?_ | refine Below.alloc ?_ (by first | omega | (simp; done) | (simp; omega)) _ | refine Below.setCell ?_ (by first | omega | (simp; done) | (simp; omega)) _ | refine Below.grow _ _ _ ?_ (by first | omega | (simp; done) | (simp; omega)))))).mono ?_; rintro e w1 ⟨rfl, hb⟩; obtain ⟨ext, d, rfl⟩ := Below.grown_eq _ hb)
    refine bodyPost_ret (v := .tuple #[vNode noNode, .int .i64 7]) (by simp [results, Tryd.results19, go_sem]) rfl ⟨rfl, (by repeat (first | exact Below.refl _ _ | assumption | refine Below.drew ?_ | refine Below.drewN' ?_ _ | refine below_grow0 _ _ ?_ | refine below_alloc0 _ ?_ | refine Below.alloc ?_ (by first | omega | (simp; done) | (simp; omega)) _ | refine Below.setCell ?_ (by first | omega | (simp; done) | (simp; omega)) _ | refine Below.grow _ _ _ ?_ (by first | omega | (simp; done) | (simp; omega))))⟩
/-- a tree of the call's own -/
def TrIs (t : Tr) (w : World) (e : Ending) (w' : World) : Prop := ∃ A c A2 c2, e = .returned (.agg #[.int .i64 t.zxid, .slice A t.nodes.length c, .slice A2 t.sess.length c2]) ∧ Ow cNode 9 40 w' w.heap.size (.slice A t.nodes.length c) t.nodes ∧ Ow cInt 1 3 w' w.heap.size (.slice A2 t.sess.length c2) t.sess ∧ Below w.heap.size w w'
set_option maxHeartbeats 400000 in
theorem trCopied (t : Tr) (v v2 : Value) (w : World) (h : Sl cNode 9 w v t.nodes) (h2 : Sl cInt 1 w v2 t.sess) (hn : t.nodes.length * 88 ≤ 140737488355328) (hn2 : t.sess.length * 8 ≤ 140737488355328) :
    Calls Tryd.prog 44 #[.agg #[.int .i64 t.zxid, v, v2]] w (TrIs t w) := by
  obtain ⟨A, c, rfl, h1, h1b⟩ := h.form
  obtain ⟨A2, c2, rfl, h3, h3b⟩ := h2.form
  have H := Lib.hid h
  have H2 := Lib.hid h2
  clear h h2
  obtain ⟨z, l, ss⟩ := t
  simp only at *
  go_enter Tryd.func44, Tryd.ntmps44
  go_upto_region 1 with fail
  refine wp_region_noPanic ?_
  refine wp_region_W (by kernel_rfl) (fun W hW => ?_)
  have cl0 : W.cell? ⟨w.heap.size, 0, none⟩ = some (.int .i64 z) := by rw [hW.out]; go_simp
  have cl1 : W.cell? ⟨w.heap.size, 1, none⟩ = some (.slice A l.length c) := by rw [hW.out]; go_simp
  have cl2 : W.cell? ⟨w.heap.size, 2, none⟩ = some (.slice A2 ss.length c2) := by rw [hW.out]; go_simp
  have hnW := Lib.hid (H.out.below (w' := W) (by rw [hW.out]; exact (by repeat (first | with_reducible exact Below.refl _ _ | with_reducible assumption | with_reducible exact below_d1 _ _ _ _ _ | with_reducible exact below_d2 _ _ _ _ _ _ _ _ | with_reducible exact below_d3 _ _ _ _ _ | with_reducible exact below_d4 _ _ _ _ _ _ _ _ | with_reducible exact below_d5 _ _ | with_reducible refine Below.drew ?_ | with_reducible refine Below.drewN' ?_ _ | with_reducible refine below_grow0 _ _ ?_ | with_reducible refine below_alloc0 _ ?_ | with_reducible refine Below.setCell ?_ ?_ _ | with_reducible refine Below.alloc ?_ ?_ _ | with_reducible refine Below.grow _ _ _ ?_ ?_ | omega | (simp; done) | (simp; omega)))))
  have hsW := Lib.hid (H2.out.below (w' := W) (by rw [hW.out]; exact (by repeat (first | with_reducible exact Below.refl _ _ | with_reducible assumption | with_reducible exact below_d1 _ _ _ _ _ | with_reducible exact below_d2 _ _ _ _ _ _ _ _ | with_reducible exact below_d3 _ _ _ _ _ | with_reducible exact below_d4 _ _ _ _ _ _ _ _ | with_reducible exact below_d5 _ _ | with_reducible refine Below.drew ?_ | with_reducible refine Below.drewN' ?_ _ | with_reducible refine below_grow0 _ _ ?_ | with_reducible refine below_alloc0 _ ?_ | with_reducible refine Below.setCell ?_ ?_ _ | with_reducible refine Below.alloc ?_ ?_ _ | with_reducible refine Below.grow _ _ _ ?_ ?_ | omega | (simp; done) | (simp; omega)))))
  refine wpAny_S (fun w' => w'.cell? ⟨w.heap.size, 0, none⟩ = some (.int .i64 z) ∧ w'.cell? ⟨w.heap.size, 1, none⟩ = some (.slice A l.length c) ∧ w'.cell? ⟨w.heap.size, 2, none⟩ = some (.slice A2 ss.length c2)) (fun i => i == 7 || i == 9) (by (try dsimp only); (refine ⟨?_, ?_, ?_⟩ <;> go_simp)) (fun hHeld => ?_)
  (refine wpE_takeP (i := 0) (v := ?gV1_1) (by simp only [List.getElem?_toArray]; rfl) (by kernel_rfl) (by kernel_rfl) (by kernel_rfl) (by rfl) (fun _ _ _ h => h) (Or.inl ⟨by rfl, ?gY1_1⟩) (by assumption) ?gR1_1; case gY1_1 => (intro w hSw; (try dsimp only at hSw); go_simp <;> with_reducible rfl))
  try simp only [Act.put, List.setIfInBounds_toArray, List.set_cons_zero, List.set_cons_succ]
  (refine wpE_take (i := 1) (v := ?gV1_2) (by simp only [List.getElem?_toArray]; rfl) (by kernel_rfl) (by kernel_rfl) (by kernel_rfl) (by kernel_rfl) (by kernel_rfl) (by rfl) (fun _ _ _ h => h) (Or.inl ⟨by rfl, ?gY1_2⟩) (by assumption) ?gR1_2; case gY1_2 => (intro w hSw; (try dsimp only at hSw); go_simp <;> with_reducible rfl))
  try simp only [Act.put, List.setIfInBounds_toArray, List.set_cons_zero, List.set_cons_succ]
  (refine wpE_takeP (i := 3) (v := ?gV1_3) (by simp only [List.getElem?_toArray]; rfl) (by kernel_rfl) (by kernel_rfl) (by kernel_rfl) (by rfl) (fun _ _ _ h => h) (Or.inl ⟨by rfl, ?gY1_3⟩) (by assumption) ?gR1_3; case gY1_3 => (intro w hSw; (try dsimp only at hSw); go_simp <;> with_reducible rfl))
  try simp only [Act.put, List.setIfInBounds_toArray, List.set_cons_zero, List.set_cons_succ]
  (refine wpE_take (i := 4) (v := ?gV1_4) (by simp only [List.getElem?_toArray]; rfl) (by kernel_rfl) (by kernel_rfl) (by kernel_rfl) (by kernel_rfl) (by kernel_rfl) (by rfl) (fun _ _ _ h => h) (Or.inl ⟨by rfl, ?gY1_4⟩) (by assumption) ?gR1_4; case gY1_4 => (intro w hSw; (try dsimp only at hSw); go_simp <;> with_reducible rfl))
  try simp only [Act.put, List.setIfInBounds_toArray, List.set_cons_zero, List.set_cons_succ]
  refine wpE_ready (rs := [2]) (by kernel_rfl) (by simp) ?_
  refine AllE.cons (by simp only [List.getElem?_toArray]; rfl) (fun K hK => ?_) AllE.nil
  go_simp
  (go_at_call 63; (with_reducible refine (cloneNode _ _ _ (hnW.out.below (by repeat (first | with_reducible exact Below.refl _ _ | with_reducible assumption | with_reducible exact below_d1 _ _ _ _ _ | with_reducible exact below_d2 _ _ _ _ _ _ _ _ | with_reducible exact below_d3 _ _ _ _ _ | with_reducible exact below_d4 _ _ _ _ _ _ _ _ | with_reducible exact below_d5 _ _ | with_reducible refine Below.drew ?_ | with_reducible refine Below.drewN' ?_ _ | with_reducible refine below_grow0 _ _ ?_ | with_reducible refine below_alloc0 _ ?_ | with_reducible refine Below.setCell ?_ ?_ _ | with_reducible refine Below.alloc ?_ ?_ _ | with_reducible refine Below.grow _ _ _ ?_ ?_ | omega | (simp; done) | (simp; omega)))) hn (by simp [maxLen]; omega)).mono ?_); rintro e w1 ⟨A', c', rfl, hown, hb⟩; obtain ⟨ext, d, rfl⟩ := Below.grown_eq _ hb; have HO := Lib.hid hown; clear hown hb)
  refine hK.out _ _ ?gT1_5 (fun hHeld => ?_)
  case gT1_5 => ((try dsimp only); (refine ⟨?_, ?_, ?_⟩ <;> go_simp))
  clear hK K
  try simp only [Act.put, List.setIfInBounds_toArray, List.set_cons_zero, List.set_cons_succ]
  (refine wpE_takeP (i := 6) (v := ?gV1_6) (by simp only [List.getElem?_toArray]; rfl) (by kernel_rfl) (by kernel_rfl) (by kernel_rfl) (by rfl) (fun _ _ _ h => h) (Or.inl ⟨by rfl, ?gY1_6⟩) (by assumption) ?gR1_6; case gY1_6 => (intro w hSw; (try dsimp only at hSw); go_simp <;> with_reducible rfl))
  try simp only [Act.put, List.setIfInBounds_toArray, List.set_cons_zero, List.set_cons_succ]
  refine wpE_ready (rs := [5]) (by kernel_rfl) (by simp) ?_
  refine AllE.cons (by simp only [List.getElem?_toArray]; rfl) (fun K hK => ?_) AllE.nil
  go_simp
  (go_at_call 64; (with_reducible refine (cloneInts _ _ _ (hsW.out.below (by repeat (first | with_reducible exact Below.refl _ _ | with_reducible assumption | with_reducible exact below_d1 _ _ _ _ _ | with_reducible exact below_d2 _ _ _ _ _ _ _ _ | with_reducible exact below_d3 _ _ _ _ _ | with_reducible exact below_d4 _ _ _ _ _ _ _ _ | with_reducible exact below_d5 _ _ | with_reducible refine Below.drew ?_ | with_reducible refine Below.drewN' ?_ _ | with_reducible refine below_grow0 _ _ ?_ | with_reducible refine below_alloc0 _ ?_ | with_reducible refine Below.setCell ?_ ?_ _ | with_reducible refine Below.alloc ?_ ?_ _ | with_reducible refine Below.grow _ _ _ ?_ ?_ | omega | (simp; done) | (simp; omega)))) hn2 (by simp [maxLen]; omega)).mono ?_); rintro e w3 ⟨A3, c3, rfl, hown3, hb3⟩; obtain ⟨ext3, d3, rfl⟩ := Below.grown_eq _ hb3; have HO3 := Lib.hid hown3; clear hown3 hb3; have hWW := hW.out; subst hWW)
  refine hK.out _ _ ?gT1_7 (fun hHeld => ?_)
  case gT1_7 => ((try dsimp only); (refine ⟨?_, ?_, ?_⟩ <;> go_simp))
  clear hK K
  try simp only [Act.put, List.setIfInBounds_toArray, List.set_cons_zero, List.set_cons_succ]
  refine wpE_ready (rs := [7]) (by kernel_rfl) (by simp) ?_
  refine AllE.last (by simp only [List.getElem?_toArray]; rfl) (by kernel_rfl) (fun K hK => ?_) AllE.nil
  go_simp
  refine hK.out _ _ ?_
  clear hK K
  try simp only [Act.put, List.setIfInBounds_toArray, List.set_cons_zero, List.set_cons_succ]
  (refine wpE_takeQ (i := 8) (v := ?gV1_9) (by simp only [List.getElem?_toArray]; rfl) (by kernel_rfl) (by kernel_rfl) (by kernel_rfl) (by rfl) (fun _ _ _ h => h) (Or.inl ⟨by rfl, ?gY1_9⟩) (by kernel_rfl) ?gR1_9; case gY1_9 => (intro w hSw; (try dsimp only at hSw); go_simp <;> with_reducible rfl))
  try simp only [Act.put, List.setIfInBounds_toArray, List.set_cons_zero, List.set_cons_succ]
  refine wpE_ready (rs := [9]) (by kernel_rfl) (by simp) ?_
  refine AllE.last (by simp only [List.getElem?_toArray]; rfl) (by kernel_rfl) (fun K hK => ?_) AllE.nil
  go_simp
  refine hK.out _ _ ?_
  clear hK K
  try simp only [Act.put, List.setIfInBounds_toArray, List.set_cons_zero, List.set_cons_succ]
  refine wpE_done (by kernel_rfl) ?_ _
  refine NoPanic.normal ?_
  go_wp2_with fail
  refine bodyPost_ret (v := .agg #[.int .i64 z, .slice A' l.length c', .slice A3 ss.length c3]) (by simp [results, Tryd.results44, go_sem]) rfl ⟨A', c', A3, c3, rfl, ?_, ?_, (by repeat (first | with_reducible exact Below.refl _ _ | with_reducible assumption | with_reducible exact below_d1 _ _ _ _ _ | with_reducible exact below_d2 _ _ _ _ _ _ _ _ | with_reducible exact below_d3 _ _ _ _ _ | with_reducible exact below_d4 _ _ _ _ _ _ _ _ | with_reducible exact below_d5 _ _ | with_reducible refine Below.drew ?_ | with_reducible refine Below.drewN' ?_ _ | with_reducible refine below_grow0 _ _ ?_ | with_reducible refine below_alloc0 _ ?_ | with_reducible refine Below.setCell ?_ ?_ _ | with_reducible refine Below.alloc ?_ ?_ _ | with_reducible refine Below.grow _ _ _ ?_ ?_ | omega | (simp; done) | (simp; omega)))⟩
  · refine Ow.mono (Ow.moved (W' := ?w9) (d' := ?x9) HO.out (Nat.le_refl _) ?b9 ?z9) (by simp <;> omega)
    case b9 => exact (by repeat (first | with_reducible exact Below.refl _ _ | with_reducible assumption | with_reducible exact below_d1 _ _ _ _ _ | with_reducible exact below_d2 _ _ _ _ _ _ _ _ | with_reducible exact below_d3 _ _ _ _ _ | with_reducible exact below_d4 _ _ _ _ _ _ _ _ | with_reducible exact below_d5 _ _ | with_reducible refine Below.drew ?_ | with_reducible refine Below.drewN' ?_ _ | with_reducible refine below_grow0 _ _ ?_ | with_reducible refine below_alloc0 _ ?_ | with_reducible refine Below.setCell ?_ ?_ _ | with_reducible refine Below.alloc ?_ ?_ _ | with_reducible refine Below.grow _ _ _ ?_ ?_ | omega | (simp; done) | (simp; omega)))
    case z9 => simp
  · refine Ow.mono (Ow.moved (W' := ?w8) (d' := ?x8) HO3.out (Nat.le_refl _) ?b8 ?z8) (by simp <;> omega)
    case b8 => exact (by repeat (first | with_reducible exact Below.refl _ _ | with_reducible assumption | with_reducible exact below_d1 _ _ _ _ _ | with_reducible exact below_d2 _ _ _ _ _ _ _ _ | with_reducible exact below_d3 _ _ _ _ _ | with_reducible exact below_d4 _ _ _ _ _ _ _ _ | with_reducible exact below_d5 _ _ | with_reducible refine Below.drew ?_ | with_reducible refine Below.drewN' ?_ _ | with_reducible refine below_grow0 _ _ ?_ | with_reducible refine below_alloc0 _ ?_ | with_reducible refine Below.setCell ?_ ?_ _ | with_reducible refine Below.alloc ?_ ?_ _ | with_reducible refine Below.grow _ _ _ ?_ ?_ | omega | (simp; done) | (simp; omega)))
    case z8 => simp
end Go.Proofs.YteolglmifimnaaaDoor

/- slices.BinarySearch at []int. -/
namespace Go.Proofs.YteolglmifimnaaaDoor
open Go.RowKit
theorem Sl.Int_at {w : World} {A : Option Addr} {n c : Nat} {l : List Int} (h : Sl cInt 1 w (.slice A n c) l) {i : Nat} {x : Int} (hx : l[i]? = some x) : ∃ b off, A = some ⟨b, off, none⟩ ∧ b < w.heap.size ∧ w.cell? ⟨b, off + i, none⟩ = some (.int .i64 x) := by
  obtain ⟨b, off, hA, hb, hc⟩ := h.at_ hx
  have := hc 0 (.int .i64 x) rfl
  rw [show off + i * 1 + 0 = off + i from by omega] at this
  exact ⟨b, off, hA, hb, this⟩
set_option maxHeartbeats 1000000 in
theorem bsI (v : Value) (l : List Int) (s : Int) (w : World) (h : Sl cInt 1 w v l) (hn : l.length ≤ 140737488355328) :
    Calls Tryd.prog 45 #[v, .int .i64 s] w fun e w' => e = .returned (.tuple #[.int .i64 (posI l s), .bool (isI l s)]) ∧ Below w.heap.size w w' := by
  obtain ⟨A, c, rfl, hc1, hc2⟩ := h.form
  have H := Lib.hid h
  clear h
  go_enter Tryd.func45, Tryd.ntmps45
  go_wp2
  go_loopw [7, 8] (fun i j wr => ∃ (a b : Nat), a ≤ b ∧ b ≤ l.length ∧ i = .int .i64 a ∧ j = .int .i64 b ∧ Hid (bsr (ltI l s) a b = posI l s) ∧ Below w.heap.size w wr) (fun i j _ => (intOf j - intOf i).toNat)
  case atStart => exact ⟨0, l.length, Nat.zero_le _, Nat.le_refl _, rfl, rfl, (rfl : bsr (ltI l s) 0 l.length = posI l s), Below.refl _ _⟩
  case round =>
    obtain ⟨a, b, hab, hbl, rfl, rfl, hr, hb⟩ := hrel
    by_cases hlt : a < b
    · have hx : l[(a + b) / 2]? = some (l[(a + b) / 2]'(by omega)) := List.getElem?_eq_getElem _
      obtain ⟨bk, off, rfl, hbw, c0⟩ := (H.out.below hb).Int_at hx
      generalize hxe : l[(a + b) / 2]'(by omega) = x at hx c0
      have HX := Lib.hid hx
      clear hx hxe
      by_cases hlt2 : x < s
      · have hd : decide (x < s) = true := decide_eq_true hlt2
        go_wp2_with (go_at_call 65; refine (Tryd.cmp_Less_int2 _ _ _).mono ?_; rintro e w1 ⟨rfl, rfl⟩; skip)
        have hcmp := ltI_of HX.out s
        go_roundw
        case rel => exact ⟨(a + b) / 2 + 1, b, by omega, by omega, by go_num, rfl, Eq.trans (bsr_up _ _ _ hlt (by rw [hcmp]; exact hd)).symm hr.out, (by repeat (first | exact Below.refl _ _ | assumption | refine Below.drew ?_ | refine Below.drewN' ?_ _ | refine below_grow0 _ _ ?_ | refine below_alloc0 _ ?_ | refine Below.alloc ?_ (by first | omega | (simp; done) | (simp; omega)) _ | refine Below.setCell ?_ (by first | omega | (simp; done) | (simp; omega)) _ | refine Below.grow _ _ _ ?_ (by first | omega | (simp; done) | (simp; omega))))⟩
        case measure => simp [intOf]; omega
      · have hd : decide (x < s) = false := decide_eq_false hlt2
        go_wp2_with (go_at_call 65; refine (Tryd.cmp_Less_int2 _ _ _).mono ?_; rintro e w1 ⟨rfl, rfl⟩; skip)
        have hcmp := ltI_of HX.out s
        go_roundw
        case rel => exact ⟨a, (a + b) / 2, by omega, by omega, rfl, by go_num, Eq.trans (bsr_down _ _ _ hlt (by rw [hcmp]; exact hd)).symm hr.out, (by repeat (first | exact Below.refl _ _ | assumption | refine Below.drew ?_ | refine Below.drewN' ?_ _ | refine below_grow0 _ _ ?_ | refine below_alloc0 _ ?_ | refine Below.alloc ?_ (by first | omega | (simp; done) | (simp; omega)) _ | refine Below.setCell ?_ (by first | omega | (simp; done) | (simp; omega)) _ | refine Below.grow _ _ _ ?_ (by first | omega | (simp; done) | (simp; omega))))⟩
        case measure => simp [intOf]; omega
    · obtain rfl : a = b := by omega
      have hpos : posI l s = a := by rw [← hr.out]; exact bsr_end _ _ _ hlt
      have HP := Lib.hid hpos
      clear hpos hr
      by_cases han : a < l.length
      · have hx : l[a]? = some (l[a]'(by omega)) := List.getElem?_eq_getElem _
        obtain ⟨bk, off, rfl, hbw, c0⟩ := (H.out.below hb).Int_at hx
        generalize hxe : l[a]'(by omega) = x at hx c0
        have HX := Lib.hid hx
        clear hx hxe
        by_cases he : x = s
        · subst he
          go_wp2_with (go_at_call 66; refine (Tryd.slices_isNaN_int2 _ _).mono ?_; rintro e w1 ⟨rfl, rfl⟩; skip)
          go_ret2
          refine ⟨?_, (by repeat (first | exact Below.refl _ _ | assumption | refine Below.drew ?_ | refine Below.drewN' ?_ _ | refine below_grow0 _ _ ?_ | refine below_alloc0 _ ?_ | refine Below.alloc ?_ (by first | omega | (simp; done) | (simp; omega)) _ | refine Below.setCell ?_ (by first | omega | (simp; done) | (simp; omega)) _ | refine Below.grow _ _ _ ?_ (by first | omega | (simp; done) | (simp; omega))))⟩
          rw [isI_in HP.out HX.out, HP.out]
          simp
        · have hne : (x == s) = false := beq_eq_false_iff_ne.2 he
          go_wp2_with (go_at_call 66; refine (Tryd.slices_isNaN_int2 _ _).mono ?_; rintro e w1 ⟨rfl, rfl⟩; skip)
          go_ret2
          refine ⟨?_, (by repeat (first | exact Below.refl _ _ | assumption | refine Below.drew ?_ | refine Below.drewN' ?_ _ | refine below_grow0 _ _ ?_ | refine below_alloc0 _ ?_ | refine Below.alloc ?_ (by first | omega | (simp; done) | (simp; omega)) _ | refine Below.setCell ?_ (by first | omega | (simp; done) | (simp; omega)) _ | refine Below.grow _ _ _ ?_ (by first | omega | (simp; done) | (simp; omega))))⟩
          rw [isI_in HP.out HX.out, HP.out, decide_eq_false he]
          rfl
      · go_wp2
        go_ret2
        refine ⟨?_, (by repeat (first | exact Below.refl _ _ | assumption | refine Below.drew ?_ | refine Below.drewN' ?_ _ | refine below_grow0 _ _ ?_ | refine below_alloc0 _ ?_ | refine Below.alloc ?_ (by first | omega | (simp; done) | (simp; omega)) _ | refine Below.setCell ?_ (by first | omega | (simp; done) | (simp; omega)) _ | refine Below.grow _ _ _ ?_ (by first | omega | (simp; done) | (simp; omega))))⟩
        rw [isI_out HP.out han, HP.out]
        rfl
theorem trOpen (z : Int) (v2 : Value) (na : Option Addr) (nn nc : Nat) (l : List Int) (s : Int) (w : World) (h : Sl cInt 1 w v2 l) (hn : l.length ≤ 140737488355328) :
    Calls Tryd.prog 24 #[.agg #[.int .i64 z, .slice na nn nc, v2], .int .i64 s] w fun e w' => e = .returned (.bool (isI l s)) ∧ Below w.heap.size w w' := by
  obtain ⟨A, c, rfl, h1, h2⟩ := h.form
  have H := Lib.hid h
  clear h
  go_enter Tryd.func24, Tryd.ntmps24
  go_wp2_with (go_at_call 45; refine (bsI _ _ _ _ (H.out.alloc _) hn).mono ?_; rintro e w1 ⟨rfl, hb⟩; obtain ⟨ext, d, rfl⟩ := Below.grown_eq _ hb)
  go_ret
  exact ⟨rfl, (by repeat (first | exact Below.refl _ _ | assumption | refine Below.drew ?_ | refine Below.drewN' ?_ _ | refine below_grow0 _ _ ?_ | refine below_alloc0 _ ?_ | refine Below.alloc ?_ (by first | omega | (simp; done) | (simp; omega)) _ | refine Below.setCell ?_ (by first | omega | (simp; done) | (simp; omega)) _ | refine Below.grow _ _ _ ?_ (by first | omega | (simp; done) | (simp; omega))))⟩
end Go.Proofs.YteolglmifimnaaaDoor

/- package prep: version. -/
namespace Go.Proofs.YteolglmifimnaaaDoor
open Go.RowKit Go.ChangeShapes Go.WideShapes Go.ChangeAt
abbrev reqV (r : Request) : Value := .agg #[.int .i64 r.op, .int .i64 r.session, .string r.path, .string r.data, .int .i64 r.version, .int .i64 r.flags]
set_option maxHeartbeats 1000000 in
theorem trVersion (z : Int) (v v2 : Value) (l : List Node) (ss : List Int) (r : Request) (w : World) (h : Sl cNode 9 w v l) (h2 : Sl cInt 1 w v2 ss) (hn : l.length ≤ 140737488355328) (hn2 : ss.length * 8 ≤ 140737488355328) (hp : r.path.size ≤ 9223372036854775807) :
    Calls Tryd.prog 54 #[.agg #[.int .i64 z, v, v2], reqV r] w fun e w' => e = .returned (.tuple #[.int .i64 (versR ⟨z, l, ss⟩ r).1, .int .i64 (versR ⟨z, l, ss⟩ r).2]) ∧ Below w.heap.size w w' := by
  obtain ⟨A, c, rfl, h1, h1b⟩ := h.form
  obtain ⟨A2, c2, rfl, h3, h3b⟩ := h2.form
  have HV := Lib.hid h
  have HS := Lib.hid h2
  clear h h2
  obtain ⟨ro, rs, rp, rd, rv, rf⟩ := r
  have HG := Lib.hid (fun (W : World) => good_any rp W hp)
  have HOP := Lib.hid (fun (W : World) (h : Sl cInt 1 W (.slice A2 ss.length c2) ss) => trOpen z (.slice A2 ss.length c2) A l.length c ss rs W h (by omega))
  have HGT := Lib.hid (fun (W : World) (h : Sl cNode 9 W (.slice A l.length c) l) => trGet z (.slice A l.length c) A2 ss.length c2 l rp W h (by omega))
  unfold versR
  simp only
  unfold getE at HGT
  cases g1 : goodP rp with
  | false =>
    rw [g1] at HG
    clear g1 HOP HGT
    simp only [Bool.false_eq_true, if_false]
    go_enter Tryd.func54, Tryd.ntmps54
    go_wp2_with (go_at_call 37; refine (HG.out _).mono ?_; rintro e w1 ⟨rfl, hb⟩; obtain ⟨ext1, d1, rfl⟩ := Below.grown_eq _ hb; clear hb)
    go_ret2
    exact ⟨rfl, (by repeat (first | with_reducible exact Below.refl _ _ | with_reducible assumption | with_reducible exact below_d1 _ _ _ _ _ | with_reducible exact below_d2 _ _ _ _ _ _ _ _ | with_reducible exact below_d3 _ _ _ _ _ | with_reducible exact below_d4 _ _ _ _ _ _ _ _ | with_reducible exact below_d5 _ _ | with_reducible refine Below.drew ?_ | with_reducible refine Below.drewN' ?_ _ | with_reducible refine below_grow0 _ _ ?_ | with_reducible refine below_alloc0 _ ?_ | with_reducible refine Below.setCell ?_ ?_ _ | with_reducible refine Below.alloc ?_ ?_ _ | with_reducible refine Below.grow _ _ _ ?_ ?_ | omega | (simp; done) | (simp; omega)))⟩
  | true =>
    rw [g1] at HG
    rw [if_pos rfl]
    cases g2 : isI ss rs with
    | false =>
      rw [g2] at HOP
      clear g1 g2 HGT
      simp only [Bool.false_eq_true, if_false]
      go_enter Tryd.func54, Tryd.ntmps54
      go_wp2_with (first | (go_at_call 37; refine (HG.out _).mono ?_; rintro e w1 ⟨rfl, hb⟩; obtain ⟨ext1, d1, rfl⟩ := Below.grown_eq _ hb; clear hb) | (go_at_call 24; refine (HOP.out _ (HS.out.below (by repeat (first | with_reducible exact Below.refl _ _ | with_reducible assumption | with_reducible exact below_d1 _ _ _ _ _ | with_reducible exact below_d2 _ _ _ _ _ _ _ _ | with_reducible exact below_d3 _ _ _ _ _ | with_reducible exact below_d4 _ _ _ _ _ _ _ _ | with_reducible exact below_d5 _ _ | with_reducible refine Below.drew ?_ | with_reducible refine Below.drewN' ?_ _ | with_reducible refine below_grow0 _ _ ?_ | with_reducible refine below_alloc0 _ ?_ | with_reducible refine Below.setCell ?_ ?_ _ | with_reducible refine Below.alloc ?_ ?_ _ | with_reducible refine Below.grow _ _ _ ?_ ?_ | omega | (simp; done) | (simp; omega))))).mono ?_; rintro e w1 ⟨rfl, hb⟩; obtain ⟨ext2, d2, rfl⟩ := Below.grown_eq _ hb; clear hb))
      go_ret2
      exact ⟨rfl, (by repeat (first | with_reducible exact Below.refl _ _ | with_reducible assumption | with_reducible exact below_d1 _ _ _ _ _ | with_reducible exact below_d2 _ _ _ _ _ _ _ _ | with_reducible exact below_d3 _ _ _ _ _ | with_reducible exact below_d4 _ _ _ _ _ _ _ _ | with_reducible exact below_d5 _ _ | with_reducible refine Below.drew ?_ | with_reducible refine Below.drewN' ?_ _ | with_reducible refine below_grow0 _ _ ?_ | with_reducible refine below_alloc0 _ ?_ | with_reducible refine Below.setCell ?_ ?_ _ | with_reducible refine Below.alloc ?_ ?_ _ | with_reducible refine Below.grow _ _ _ ?_ ?_ | omega | (simp; done) | (simp; omega)))⟩
    | true =>
      rw [g2] at HOP
      rw [if_pos rfl]
      cases g3 : hasN l rp with
      | false =>
        rw [g3, get_noN g3] at HGT
        clear g1 g2 g3
        simp only [Bool.false_eq_true, if_false] at HGT ⊢
        go_enter Tryd.func54, Tryd.ntmps54
        go_wp2_with (first | (go_at_call 37; refine (HG.out _).mono ?_; rintro e w1 ⟨rfl, hb⟩; obtain ⟨ext1, d1, rfl⟩ := Below.grown_eq _ hb; clear hb) | (go_at_call 24; refine (HOP.out _ (HS.out.below (by repeat (first | with_reducible exact Below.refl _ _ | with_reducible assumption | with_reducible exact below_d1 _ _ _ _ _ | with_reducible exact below_d2 _ _ _ _ _ _ _ _ | with_reducible exact below_d3 _ _ _ _ _ | with_reducible exact below_d4 _ _ _ _ _ _ _ _ | with_reducible exact below_d5 _ _ | with_reducible refine Below.drew ?_ | with_reducible refine Below.drewN' ?_ _ | with_reducible refine below_grow0 _ _ ?_ | with_reducible refine below_alloc0 _ ?_ | with_reducible refine Below.setCell ?_ ?_ _ | with_reducible refine Below.alloc ?_ ?_ _ | with_reducible refine Below.grow _ _ _ ?_ ?_ | omega | (simp; done) | (simp; omega))))).mono ?_; rintro e w1 ⟨rfl, hb⟩; obtain ⟨ext2, d2, rfl⟩ := Below.grown_eq _ hb; clear hb) | (go_at_call 19; refine (HGT.out _ (HV.out.below (by repeat (first | with_reducible exact Below.refl _ _ | with_reducible assumption | with_reducible exact below_d1 _ _ _ _ _ | with_reducible exact below_d2 _ _ _ _ _ _ _ _ | with_reducible exact below_d3 _ _ _ _ _ | with_reducible exact below_d4 _ _ _ _ _ _ _ _ | with_reducible exact below_d5 _ _ | with_reducible refine Below.drew ?_ | with_reducible refine Below.drewN' ?_ _ | with_reducible refine below_grow0 _ _ ?_ | with_reducible refine below_alloc0 _ ?_ | with_reducible refine Below.setCell ?_ ?_ _ | with_reducible refine Below.alloc ?_ ?_ _ | with_reducible refine Below.grow _ _ _ ?_ ?_ | omega | (simp; done) | (simp; omega))))).mono ?_; rintro e w1 ⟨rfl, hb⟩; obtain ⟨ext3, d3, rfl⟩ := Below.grown_eq _ hb; clear hb))
        go_ret2
        exact ⟨rfl, (by repeat (first | with_reducible exact Below.refl _ _ | with_reducible assumption | with_reducible exact below_d1 _ _ _ _ _ | with_reducible exact below_d2 _ _ _ _ _ _ _ _ | with_reducible exact below_d3 _ _ _ _ _ | with_reducible exact below_d4 _ _ _ _ _ _ _ _ | with_reducible exact below_d5 _ _ | with_reducible refine Below.drew ?_ | with_reducible refine Below.drewN' ?_ _ | with_reducible refine below_grow0 _ _ ?_ | with_reducible refine below_alloc0 _ ?_ | with_reducible refine Below.setCell ?_ ?_ _ | with_reducible refine Below.alloc ?_ ?_ _ | with_reducible refine Below.grow _ _ _ ?_ ?_ | omega | (simp; done) | (simp; omega)))⟩
      | true =>
        rw [g3, if_pos rfl] at HGT
        rw [if_pos rfl]
        generalize getN l rp = n at *
        obtain ⟨np, nd, n1, n2, n3, n4, n5, n6, n7⟩ := n
        simp only at HGT ⊢
        clear g1 g2 g3
        by_cases g4 : rv = -1
        · subst g4
          rw [if_neg (fun e => e.1 rfl)]
          simp only
          go_enter Tryd.func54, Tryd.ntmps54
          go_wp2_with (first | (go_at_call 37; refine (HG.out _).mono ?_; rintro e w1 ⟨rfl, hb⟩; obtain ⟨ext1, d1, rfl⟩ := Below.grown_eq _ hb; clear hb) | (go_at_call 24; refine (HOP.out _ (HS.out.below (by repeat (first | with_reducible exact Below.refl _ _ | with_reducible assumption | with_reducible exact below_d1 _ _ _ _ _ | with_reducible exact below_d2 _ _ _ _ _ _ _ _ | with_reducible exact below_d3 _ _ _ _ _ | with_reducible exact below_d4 _ _ _ _ _ _ _ _ | with_reducible exact below_d5 _ _ | with_reducible refine Below.drew ?_ | with_reducible refine Below.drewN' ?_ _ | with_reducible refine below_grow0 _ _ ?_ | with_reducible refine below_alloc0 _ ?_ | with_reducible refine Below.setCell ?_ ?_ _ | with_reducible refine Below.alloc ?_ ?_ _ | with_reducible refine Below.grow _ _ _ ?_ ?_ | omega | (simp; done) | (simp; omega))))).mono ?_; rintro e w1 ⟨rfl, hb⟩; obtain ⟨ext2, d2, rfl⟩ := Below.grown_eq _ hb; clear hb) | (go_at_call 19; refine (HGT.out _ (HV.out.below (by repeat (first | with_reducible exact Below.refl _ _ | with_reducible assumption | with_reducible exact below_d1 _ _ _ _ _ | with_reducible exact below_d2 _ _ _ _ _ _ _ _ | with_reducible exact below_d3 _ _ _ _ _ | with_reducible exact below_d4 _ _ _ _ _ _ _ _ | with_reducible exact below_d5 _ _ | with_reducible refine Below.drew ?_ | with_reducible refine Below.drewN' ?_ _ | with_reducible refine below_grow0 _ _ ?_ | with_reducible refine below_alloc0 _ ?_ | with_reducible refine Below.setCell ?_ ?_ _ | with_reducible refine Below.alloc ?_ ?_ _ | with_reducible refine Below.grow _ _ _ ?_ ?_ | omega | (simp; done) | (simp; omega))))).mono ?_; rintro e w1 ⟨rfl, hb⟩; obtain ⟨ext3, d3, rfl⟩ := Below.grown_eq _ hb; clear hb))
          go_ret2
          exact ⟨rfl, (by repeat (first | with_reducible exact Below.refl _ _ | with_reducible assumption | with_reducible exact below_d1 _ _ _ _ _ | with_reducible exact below_d2 _ _ _ _ _ _ _ _ | with_reducible exact below_d3 _ _ _ _ _ | with_reducible exact below_d4 _ _ _ _ _ _ _ _ | with_reducible exact below_d5 _ _ | with_reducible refine Below.drew ?_ | with_reducible refine Below.drewN' ?_ _ | with_reducible refine below_grow0 _ _ ?_ | with_reducible refine below_alloc0 _ ?_ | with_reducible refine Below.setCell ?_ ?_ _ | with_reducible refine Below.alloc ?_ ?_ _ | with_reducible refine Below.grow _ _ _ ?_ ?_ | omega | (simp; done) | (simp; omega)))⟩
        · have b1 : (rv == -1) = false := beq_eq_false_iff_ne.2 g4
          have b2 : (rv != -1) = true := bne_iff_ne.2 g4
          by_cases g5 : rv = n4
          · subst g5
            rw [if_neg (fun e => e.2 rfl)]
            simp only
            clear g4
            go_enter Tryd.func54, Tryd.ntmps54
            go_wp2_with (first | (go_at_call 37; refine (HG.out _).mono ?_; rintro e w1 ⟨rfl, hb⟩; obtain ⟨ext1, d1, rfl⟩ := Below.grown_eq _ hb; clear hb) | (go_at_call 24; refine (HOP.out _ (HS.out.below (by repeat (first | with_reducible exact Below.refl _ _ | with_reducible assumption | with_reducible exact below_d1 _ _ _ _ _ | with_reducible exact below_d2 _ _ _ _ _ _ _ _ | with_reducible exact below_d3 _ _ _ _ _ | with_reducible exact below_d4 _ _ _ _ _ _ _ _ | with_reducible exact below_d5 _ _ | with_reducible refine Below.drew ?_ | with_reducible refine Below.drewN' ?_ _ | with_reducible refine below_grow0 _ _ ?_ | with_reducible refine below_alloc0 _ ?_ | with_reducible refine Below.setCell ?_ ?_ _ | with_reducible refine Below.alloc ?_ ?_ _ | with_reducible refine Below.grow _ _ _ ?_ ?_ | omega | (simp; done) | (simp; omega))))).mono ?_; rintro e w1 ⟨rfl, hb⟩; obtain ⟨ext2, d2, rfl⟩ := Below.grown_eq _ hb; clear hb) | (go_at_call 19; refine (HGT.out _ (HV.out.below (by repeat (first | with_reducible exact Below.refl _ _ | with_reducible assumption | with_reducible exact below_d1 _ _ _ _ _ | with_reducible exact below_d2 _ _ _ _ _ _ _ _ | with_reducible exact below_d3 _ _ _ _ _ | with_reducible exact below_d4 _ _ _ _ _ _ _ _ | with_reducible exact below_d5 _ _ | with_reducible refine Below.drew ?_ | with_reducible refine Below.drewN' ?_ _ | with_reducible refine below_grow0 _ _ ?_ | with_reducible refine below_alloc0 _ ?_ | with_reducible refine Below.setCell ?_ ?_ _ | with_reducible refine Below.alloc ?_ ?_ _ | with_reducible refine Below.grow _ _ _ ?_ ?_ | omega | (simp; done) | (simp; omega))))).mono ?_; rintro e w1 ⟨rfl, hb⟩; obtain ⟨ext3, d3, rfl⟩ := Below.grown_eq _ hb; clear hb))
            go_ret2
            exact ⟨rfl, (by repeat (first | with_reducible exact Below.refl _ _ | with_reducible assumption | with_reducible exact below_d1 _ _ _ _ _ | with_reducible exact below_d2 _ _ _ _ _ _ _ _ | with_reducible exact below_d3 _ _ _ _ _ | with_reducible exact below_d4 _ _ _ _ _ _ _ _ | with_reducible exact below_d5 _ _ | with_reducible refine Below.drew ?_ | with_reducible refine Below.drewN' ?_ _ | with_reducible refine below_grow0 _ _ ?_ | with_reducible refine below_alloc0 _ ?_ | with_reducible refine Below.setCell ?_ ?_ _ | with_reducible refine Below.alloc ?_ ?_ _ | with_reducible refine Below.grow _ _ _ ?_ ?_ | omega | (simp; done) | (simp; omega)))⟩
          · rw [if_pos ⟨g4, g5⟩]
            have b3 : (rv == n4) = false := beq_eq_false_iff_ne.2 g5
            have b4 : (rv != n4) = true := bne_iff_ne.2 g5
            clear g4 g5
            simp only
            go_enter Tryd.func54, Tryd.ntmps54
            go_wp2_with (first | (go_at_call 37; refine (HG.out _).mono ?_; rintro e w1 ⟨rfl, hb⟩; obtain ⟨ext1, d1, rfl⟩ := Below.grown_eq _ hb; clear hb) | (go_at_call 24; refine (HOP.out _ (HS.out.below (by repeat (first | with_reducible exact Below.refl _ _ | with_reducible assumption | with_reducible exact below_d1 _ _ _ _ _ | with_reducible exact below_d2 _ _ _ _ _ _ _ _ | with_reducible exact below_d3 _ _ _ _ _ | with_reducible exact below_d4 _ _ _ _ _ _ _ _ | with_reducible exact below_d5 _ _ | with_reducible refine Below.drew ?_ | with_reducible refine Below.drewN' ?_ _ | with_reducible refine below_grow0 _ _ ?_ | with_reducible refine below_alloc0 _ ?_ | with_reducible refine Below.setCell ?_ ?_ _ | with_reducible refine Below.alloc ?_ ?_ _ | with_reducible refine Below.grow _ _ _ ?_ ?_ | omega | (simp; done) | (simp; omega))))).mono ?_; rintro e w1 ⟨rfl, hb⟩; obtain ⟨ext2, d2, rfl⟩ := Below.grown_eq _ hb; clear hb) | (go_at_call 19; refine (HGT.out _ (HV.out.below (by repeat (first | with_reducible exact Below.refl _ _ | with_reducible assumption | with_reducible exact below_d1 _ _ _ _ _ | with_reducible exact below_d2 _ _ _ _ _ _ _ _ | with_reducible exact below_d3 _ _ _ _ _ | with_reducible exact below_d4 _ _ _ _ _ _ _ _ | with_reducible exact below_d5 _ _ | with_reducible refine Below.drew ?_ | with_reducible refine Below.drewN' ?_ _ | with_reducible refine below_grow0 _ _ ?_ | with_reducible refine below_alloc0 _ ?_ | with_reducible refine Below.setCell ?_ ?_ _ | with_reducible refine Below.alloc ?_ ?_ _ | with_reducible refine Below.grow _ _ _ ?_ ?_ | omega | (simp; done) | (simp; omega))))).mono ?_; rintro e w1 ⟨rfl, hb⟩; obtain ⟨ext3, d3, rfl⟩ := Below.grown_eq _ hb; clear hb))
            go_ret2
            exact ⟨rfl, (by repeat (first | with_reducible exact Below.refl _ _ | with_reducible assumption | with_reducible exact below_d1 _ _ _ _ _ | with_reducible exact below_d2 _ _ _ _ _ _ _ _ | with_reducible exact below_d3 _ _ _ _ _ | with_reducible exact below_d4 _ _ _ _ _ _ _ _ | with_reducible exact below_d5 _ _ | with_reducible refine Below.drew ?_ | with_reducible refine Below.drewN' ?_ _ | with_reducible refine below_grow0 _ _ ?_ | with_reducible refine below_alloc0 _ ?_ | with_reducible refine Below.setCell ?_ ?_ _ | with_reducible refine Below.alloc ?_ ?_ _ | with_reducible refine Below.grow _ _ _ ?_ ?_ | omega | (simp; done) | (simp; omega)))⟩
end Go.Proofs.YteolglmifimnaaaDoor

/- made by geninst.py from XT4.src -/
namespace Go.Proofs.YteolglmifimnaaaDoor
open Go.RowKit
set_option maxHeartbeats 1000000 in
theorem insNode_end (A : Option Addr) (n c : Nat) (l : List Node) (x : Node) (w : World) (B vb : Nat) (hown : Ow cNode 9 40 w B (.slice A n c) l) (hl : n = l.length) (hv : Bk w vb (cNode x) 40)
    (hB : B ≤ w.heap.size) (hn : (n + 1) * 88 ≤ 140737488355328) :
    Calls Tryd.prog 71 #[.slice A n c, .int .i64 n, .slice (some ⟨vb, 0, none⟩) 1 1] w (Rowed cNode 9 40 B (n + 1) (l ++ [x]) (Value.slice A n c).ownBlock w) := by
  have H := Lib.hid hown
  obtain ⟨A', c', hf1, hf2, hf3, hf4, hf5⟩ := hown.form
  injection hf1 with e1 e2 e3
  subst e1; subst e3
  have HL := Lib.hid hl
  rw [← hl] at hf2
  have HN := Lib.hid hf4
  clear hl e2 hown hf4 hf5
  by_cases hcn : c = n
  · subst hcn
    go_enter Tryd.func71, Tryd.ntmps71
    go_wp2_with (at_builtin; refine wpList_app _ rfl (.tmp 23) (.tmp 24) _ rfl elNode (l := l) (m := [x]) rfl rfl H.out (Sl.blk rfl hv) cNode_one (by have := HL.out; simp [maxLen]; omega) (by have := HL.out; simp; omega) hB ?_; intro v' w1 hown1 hg1 hat1; obtain ⟨A1, c1, rfl⟩ := Ow.is_slice (m := c + 1) hown1 (by simpa using HL.out.symm); have HO := Lib.hid hown1; have HG := Lib.hid hg1; have HT := Lib.hid hat1; clear hown1 hg1 hat1)
    go_ret
    exact ⟨A1, c1, rfl, HO.out, HG.out, HT.out⟩
  · go_enter Tryd.func71, Tryd.ntmps71
    go_wp2_with (at_builtin; refine wpList_app _ rfl (.tmp 23) (.tmp 24) _ rfl elNode (l := l) (m := [x]) rfl rfl H.out (Sl.blk rfl hv) cNode_one (by have := HL.out; simp [maxLen]; omega) (by have := HL.out; simp; omega) hB ?_; intro v' w1 hown1 hg1 hat1; obtain ⟨A1, c1, rfl⟩ := Ow.is_slice (m := n + 1) hown1 (by simpa using HL.out.symm); have HO := Lib.hid hown1; have HG := Lib.hid hg1; have HT := Lib.hid hat1; clear hown1 hg1 hat1)
    go_ret
    exact ⟨A1, c1, rfl, HO.out, HG.out, HT.out⟩
set_option maxRecDepth 100000 in
set_option maxHeartbeats 1000000 in
theorem insNode_grow (A : Option Addr) (n k : Nat) (l : List Node) (x : Node) (w : World) (B vb : Nat) (hown : Ow cNode 9 40 w B (.slice A n n) l) (hk : k < n) (hv : Bk w vb (cNode x) 40)
    (hB : B ≤ w.heap.size) (hn : (n + 1) * 88 ≤ 140737488355328) :
    Calls Tryd.prog 71 #[.slice A n n, .int .i64 k, .slice (some ⟨vb, 0, none⟩) 1 1] w (Rowed cNode 9 40 B (n + 1) (l.take k ++ x :: l.drop k) (Value.slice A n n).ownBlock w) := by
  obtain ⟨g, J, rfl, hBg, hbk, hbl, _, hcm, hnl⟩ := hown.blk (by omega)
  have H2 := Lib.hid hown.2
  generalize hcur : l.flatMap cNode ++ J = cur at hbk hbl
  have HC := Lib.hid hcur
  have HL := Lib.hid hnl
  have HBL := Lib.hid hbl
  clear hcur hown hnl hbl
  have ecnt := Lib.hid (show (((n + 1 - k : Nat) : Nat) : Int) = (n : Int) + 1 - (k : Int) by omega)
  have hne : ((k : Int) == (n : Int)) = false := by simp; omega
  have F1 := Lib.hid (flatMap_split H2.out k)
  go_enter Tryd.func71, Tryd.ntmps71
  have hkc : k + (n + 1 - k) = n + 1 := by omega
  have hvg : g < w.heap.size := hbk.lt
  have hvv : vb < w.heap.size := hv.lt
  go_wp2_with (first | (with_reducible refine wpList_atcp ?_); go_loud (refine wpList_cp rfl (.tmp 43) (.tmp 44) _ _ rfl elNode (cs := cNode x) rfl rfl hb1 (by rw [show ∀ q, 1 ≤ q → Nat.min 1 q = 1 from fun q h => Nat.min_eq_left h] <;> first | rfl | omega) (fun j v hj => by show w1.cell? _ = _; rw [Addr.add_lit, Nat.zero_add, (hv.grown hg1 (by simp)).cell]; exact hj) (by have := HBL.out; simp [hz1, cNode]; omega) (cNode_one x) ?_; intro w2 hb2 hg2 hs2) | at_builtin; go_loud (refine wpList_appz rfl (.tmp 34) (.tmp 39) _ _ rfl elNode Tryd.underlying3 (k := k) (c := n) (cnt := n + 1 - k) rfl (by show Value.int _ _ = _; rw [ecnt.out]) hbk (by have := HBL.out; omega) (by omega) (by omega) (by simp [maxLen]; omega) (by omega) ?_; intro w1 Z cap hb1 hz1 hc1 hc2 hg1 hs1))
  have e1 : IntKind.i64.wrap ((k : Int) + 1) = (k : Int) + 1 := by rw [IntKind.wrap_i64]; simp [maxLen] at hcm; omega
  have e2 : ((k : Int) + 1).toNat = k + 1 := by omega
  have e3 : (0 : Int) ≤ (k : Int) + 1 := by omega
  have e4 : (k : Int) + 1 ≤ (n : Int) + 1 := by omega
  have e5 : ¬ cap = k + 1 := by omega
  have e6 : ¬ n = k := by omega
  have e7 : k ≤ n := by omega
  have hcsl : ((l.drop k).flatMap cNode).length = (n - k) * 9 := by rw [flatMap_length (fun y hy => H2.out y (List.mem_of_mem_drop hy)), List.length_drop, HL.out]
  have hcs1 : ∀ v ∈ (l.drop k).flatMap cNode, v.oneCell' = true := by intro v hv; obtain ⟨y, _, hy⟩ := List.mem_flatMap.1 hv; exact cNode_one y v hy
  have hlt : (cur.take (k * 9)).length = k * 9 := by rw [List.length_take, HBL.out]; omega
  have hsl : (splice (cur.take (k * 9) ++ Z) (k * 9) (cNode x)).length = k * 9 + (cap - k) * 9 := by rw [splice_length _ _ _ (by simp only [List.length_append, hlt, hz1]; show k * 9 + 9 ≤ _; omega), List.length_append, hlt, hz1]
  have hgs : Bk w2 g cur 40 := (hbk.grown hg1 (by simp)).grown hg2 (by simp; omega)
  have hsrc : ∀ (j : Nat) (v : Value), ((l.drop k).flatMap cNode)[j]? = some v → cur[k * 9 + j]? = some v := by
    intro j v hj
    rw [F1.out.2, List.getElem?_drop] at hj
    rw [← HC.out, List.getElem?_append_left (List.getElem?_eq_some_iff.1 hj).1]
    exact hj
  have HS := Lib.hid hsl
  have HSR := Lib.hid hsrc
  have HCL := Lib.hid hcsl
  clear hsl hsrc hcsl
  have hb2d : Bk w2.drew w.heap.size (splice (cur.take (k * 9) ++ Z) (k * 9) (cNode x)) 40 := hb2
  go_region_law (go_loud (refine step_cp rfl _ _ _ _ rfl elNode (cs := (l.drop k).flatMap cNode) (off := (k + 1) * 9) (dLen := n + 1 - (k + 1)) (dCap := cap - (k + 1)) (ad := ⟨g, k * 9, none⟩) (sLen := n - k) (sCap := n - k) (by simp [Act.eval, Act.put]) (by simp [Act.eval, Act.put]) hb2d (by rw [HCL.out, show Nat.min (n - k) (n + 1 - (k + 1)) = n - k from Nat.min_eq_left (by omega)]) (fun j v hj => by show w2.cell? _ = _; rw [Addr.add_lit, hgs.cell]; exact HSR.out j v hj) (by rw [HS.out, HCL.out]; omega) hcs1 ?_; intro w3 hb3 hg3 hs3))
  go_wp2
  go_ret
  refine ⟨some ⟨w.heap.size, 0, none⟩, cap, rfl, ?_, ((hg1.but _).andThen hg2 (by simp)).andThen (show w2.grownBy w3 (some w.heap.size) from ⟨hg3.os, hg3.tape, hg3.output, hg3.size, hg3.block⟩) (by simp), .inr rfl⟩
  have hta : cur.take (k * 9) = (l.take k).flatMap cNode := by rw [F1.out.1, ← HC.out, List.take_append_of_le_length (by rw [flatMap_length H2.out, ← HL.out]; omega)]
  have hall : ∀ y ∈ l.take k ++ x :: l.drop k, (cNode y).length = 9 := fun y _ => rfl
  have hlen : (l.take k ++ x :: l.drop k).length = n + 1 := by rw [List.length_append, List.length_take, List.length_cons, List.length_drop, ← HL.out]; omega
  have := Ow.of_blk (B := B) (g := w.heap.size) (c := cap) (J := Z.drop (9 + ((l.drop k).flatMap cNode).length)) hall hB hb3 (by
    have h := ins2 (cur.take (k * 9)) Z ((l.drop k).flatMap cNode) (cNode x)
    rw [hlt] at h
    rw [show (k + 1) * 9 = k * 9 + (cNode x).length from by show _ = k * 9 + 9; omega, h, hta, List.flatMap_append, List.flatMap_cons]
    simp only [List.append_assoc]
    rfl) (by rw [splice_length _ _ _ (by rw [HS.out, HCL.out]; omega), HS.out]; omega) (by rw [hlen]; omega) hc2
  rw [hlen] at this
  exact this
set_option maxRecDepth 100000 in
set_option maxHeartbeats 1000000 in
theorem insNode_room (A : Option Addr) (n k c : Nat) (l : List Node) (x : Node) (w : World) (B vb : Nat) (hown : Ow cNode 9 40 w B (.slice A n c) l) (hk : k < n) (hc : n < c) (hv : Bk w vb (cNode x) 40) (hvA : (Value.slice A n c).ownBlock ≠ some vb) :
    Calls Tryd.prog 71 #[.slice A n c, .int .i64 k, .slice (some ⟨vb, 0, none⟩) 1 1] w (Rowed cNode 9 40 B (n + 1) (l.take k ++ x :: l.drop k) (Value.slice A n c).ownBlock w) := by
  obtain ⟨g, J, rfl, hBg, hbk, hbl, _, hcm, hnl⟩ := hown.blk (by omega)
  have H2 := Lib.hid hown.2
  have hvg : vb ≠ g := by intro h; exact hvA (by rw [h]; rfl)
  generalize hcur : l.flatMap cNode ++ J = cur at hbk hbl
  have HC := Lib.hid hcur
  have HL := Lib.hid hnl
  have HBL := Lib.hid hbl
  clear hcur hown hnl hbl
  have hne : ((k : Int) == (n : Int)) = false := by simp; omega
  have F1 := Lib.hid (flatMap_split H2.out k)
  have d1 : IntKind.i64.wrap ((n : Int) + 1) = (n : Int) + 1 := by rw [IntKind.wrap_i64]; simp [maxLen] at hcm; omega
  have d2 : ((n : Int) + 1).toNat = n + 1 := by omega
  have d3 : (0 : Int) ≤ (n : Int) + 1 := by omega
  have d4 : (n : Int) + 1 ≤ (c : Int) := by omega
  have d5 : ¬ (c : Int) < (n : Int) + 1 := by omega
  have e1 : IntKind.i64.wrap ((k : Int) + 1) = (k : Int) + 1 := by rw [IntKind.wrap_i64]; simp [maxLen] at hcm; omega
  have e2 : ((k : Int) + 1).toNat = k + 1 := by omega
  have e3 : (0 : Int) ≤ (k : Int) + 1 := by omega
  have e4 : (k : Int) + 1 ≤ (n : Int) + 1 := by omega
  have e5 : ¬ c = k + 1 := by omega
  have e6 : ¬ c = k := by omega
  have e7 : (k : Int) ≤ (n : Int) + 1 := by omega
  have e8 : k ≤ n := by omega
  have hov := fun (off lb cb : Nat) => overlaps_no elNode Tryd.func81 (by kernel_rfl) (by kernel_rfl) (by kernel_rfl) (tB := 4) (by kernel_rfl) hv hbk hvg (by have := HBL.out; omega) off 1 1 lb cb
  go_enter Tryd.func71, Tryd.ntmps71
  go_wp2_with (simp only [hov])
  have hcsl : ((l.drop k).flatMap cNode).length = (n - k) * 9 := by rw [flatMap_length (fun y hy => H2.out y (List.mem_of_mem_drop hy)), List.length_drop, HL.out]
  have hcs1 : ∀ v ∈ (l.drop k).flatMap cNode, v.oneCell' = true := by intro v hv; obtain ⟨y, _, hy⟩ := List.mem_flatMap.1 hv; exact cNode_one y v hy
  have hsl : (splice cur ((k + 1) * 9) ((l.drop k).flatMap cNode)).length = c * 9 := by rw [splice_length _ _ _ (by rw [hcsl, HBL.out]; omega), HBL.out]
  have hsrc : ∀ (j : Nat) (v : Value), ((l.drop k).flatMap cNode)[j]? = some v → cur[k * 9 + j]? = some v := by
    intro j v hj
    rw [F1.out.2, List.getElem?_drop] at hj
    rw [← HC.out, List.getElem?_append_left (List.getElem?_eq_some_iff.1 hj).1]
    exact hj
  have HS := Lib.hid hsl
  have HSR := Lib.hid hsrc
  have HCL := Lib.hid hcsl
  clear hsl hsrc hcsl
  have hbd : Bk w.drew g cur 40 := hbk
  have hvd : Bk w.drew vb (cNode x) 40 := hv
  go_region_law (go_loud (refine step_cp rfl _ _ _ _ rfl elNode (cs := (l.drop k).flatMap cNode) (off := (k + 1) * 9) (dLen := n - k) (dCap := c - (k + 1)) (ad := ⟨g, k * 9, none⟩) (sLen := n + 1 - k) (sCap := c - k) (by simp [Act.eval, Act.put]) (by simp [Act.eval, Act.put]) hbd (by rw [HCL.out, show Nat.min (n + 1 - k) (n - k) = n - k from Nat.min_eq_right (by omega)]) (fun j v hj => by rw [Addr.add_lit, hbd.cell]; exact HSR.out j v hj) (by rw [HBL.out, HCL.out]; omega) hcs1 ?_; intro w3 hb3 hg3 hs3))
  go_wp2_with (first | (with_reducible refine wpList_atcp ?_); go_loud (refine wpList_cp rfl (.tmp 80) (.tmp 81) _ _ rfl elNode (cs := cNode x) (off := k * 9) (dLen := n + 1 - k) (dCap := c - k) rfl rfl hb3 (by rw [show ∀ q, 1 ≤ q → Nat.min 1 q = 1 from fun q h => Nat.min_eq_left h] <;> first | rfl | omega) (fun j v hj => by rw [Addr.add_lit, Nat.zero_add, (hvd.grown hg3 (by simp; exact hvg)).cell]; exact hj) (by rw [HS.out]; show k * 9 + 9 ≤ _; omega) (cNode_one x) ?_; intro w4 hb4 hg4 hs4))
  go_ret
  refine ⟨some ⟨g, 0, none⟩, c, rfl, ?_, (show w.grownBy w3 (some g) from ⟨hg3.os, hg3.tape, hg3.output, hg3.size, hg3.block⟩).trans hg4, .inl rfl⟩
  have hta : cur = (l.take k).flatMap cNode ++ (l.drop k).flatMap cNode ++ J := by rw [← List.flatMap_append, List.take_append_drop, HC.out]
  have hlt : ((l.take k).flatMap cNode).length = k * 9 := by rw [flatMap_length (fun y hy => H2.out y (List.mem_of_mem_take hy)), List.length_take, ← HL.out, Nat.min_eq_left (by omega)]
  have hJ : (cNode x).length ≤ J.length := by
    have h := HBL.out
    rw [hta, List.length_append, List.length_append, hlt, HCL.out] at h
    show 9 ≤ _
    omega
  have hall : ∀ y ∈ l.take k ++ x :: l.drop k, (cNode y).length = 9 := fun y _ => rfl
  have hlen : (l.take k ++ x :: l.drop k).length = n + 1 := by rw [List.length_append, List.length_take, List.length_cons, List.length_drop, ← HL.out]; omega
  have := Ow.of_blk (B := B) (g := g) (c := c) (J := J.drop (cNode x).length) hall hBg hb4 (by
    have h := ins1 ((l.take k).flatMap cNode) ((l.drop k).flatMap cNode) J (cNode x) hJ
    rw [hlt, ← hta] at h
    rw [show (k + 1) * 9 = k * 9 + (cNode x).length from by show _ = k * 9 + 9; omega, h, List.flatMap_append, List.flatMap_cons]
    simp only [List.append_assoc]) (by rw [splice_length _ _ _ (by rw [HS.out]; show k * 9 + 9 ≤ _; omega), HS.out]) (by rw [hlen]; omega) hcm
  rw [hlen] at this
  exact this
theorem insNode (v : Value) (k : Nat) (l : List Node) (x : Node) (w : World) (B vb : Nat) (hown : Ow cNode 9 40 w B v l) (hk : k ≤ l.length) (hv : Bk w vb (cNode x) 40) (hvA : v.ownBlock ≠ some vb)
    (hB : B ≤ w.heap.size) (hn : (l.length + 1) * 88 ≤ 140737488355328) :
    Calls Tryd.prog 71 #[v, .int .i64 k, .slice (some ⟨vb, 0, none⟩) 1 1] w (Rowed cNode 9 40 B (l.length + 1) (l.take k ++ x :: l.drop k) v.ownBlock w) := by
  obtain ⟨A, c, rfl, h2⟩ := hown.form
  rcases Nat.lt_or_ge k l.length with h | h
  · obtain ⟨g, J, rfl, _, _, _, hnc, _, _⟩ := hown.blk (by omega)
    by_cases hc : c = l.length
    · subst hc
      exact insNode_grow _ _ k l x w B vb hown h hv hB hn
    · exact insNode_room _ _ k c l x w B vb hown h (by omega) hv hvA
  · obtain rfl : k = l.length := by omega
    rw [List.take_length, List.drop_length]
    exact insNode_end _ _ c l x w B vb hown rfl hv hB hn
end Go.Proofs.YteolglmifimnaaaDoor

/- clear(s[i:]) on a row that is known whole. -/
namespace Go.Proofs.YteolglmifimnaaaDoor
open Go.RowKit
section
variable {P : Program}
theorem zeros_len {z : Value} {s : Nat} (hs : z.cells.size = s) (n : Nat) : (Builtin.zeroCells z.cells n).toList.length = n * s := by simp [size_zeroCells, hs]
theorem run_clear_blk {w : World} {t ty e : TypeId} {z : Value} {s bytes g o n c : Nat} {cur : List Value} {et : TypeId} (E : El P t e z s bytes) (hg : Bk w g cur et) (h1 : ∀ v ∈ z.cells, v.oneCell' = true) (hn : 0 < n) (hfit : o + n * s ≤ cur.length) :
    (Builtin.clear_ #[t] ty #[.slice (some ⟨g, o, none⟩) n c]).run P w = .ok (.tuple #[]) (w.setRow g (splice cur o (Builtin.zeroCells z.cells n).toList).toArray) := by
  obtain ⟨i, hi, hz, hsz, _⟩ := info_of E.info
  obtain ⟨m, rfl⟩ : ∃ m, n = m + 1 := ⟨n - 1, by omega⟩
  have hst := run_storeCells_at P g o et (Builtin.zeroCells z.cells (m + 1)).toList 0 cur.toArray w hg (by rw [zeros_len E.cells]; simpa using hfit) (by
    intro v hv
    rw [Array.mem_toList_iff] at hv
    simp only [Builtin.zeroCells, Array.mem_map, Array.mem_range] at hv
    obtain ⟨k, _, rfl⟩ := hv
    have hlt : k % z.cells.size < z.cells.size := Nat.mod_lt _ (by rw [E.cells]; exact E.pos)
    rw [getElem!_pos z.cells _ hlt]
    exact h1 _ (Array.getElem_mem _))
  simp [Builtin.clear_, run_underlying E.slice, zeroValue, typeInfo, hi, hz, hst, splice]
theorem run_clear_none {w : World} {t ty e : TypeId} {z : Value} {s bytes c : Nat} {A : Option Addr} (E : El P t e z s bytes) : (Builtin.clear_ #[t] ty #[.slice A 0 c]).run P w = .ok (.tuple #[]) w := by
  cases A <;> simp [Builtin.clear_, run_underlying E.slice]
theorem wp_clr {w : World} {o : Oper} {a : Act} {K : Act → World → Prop} {Q : Exit → Act → World → Prop} (d : Operand) (t : TypeId)
    (ho : o.op = .call { callee := .builtin .clear, args := #[d], argTypes := #[t] }) {e : TypeId} {z : Value} {s bytes : Nat} (E : El P t e z s bytes) {g off n c : Nat} {cur : List Value} {et : TypeId}
    (hd : a.eval d = .slice (some ⟨g, off, none⟩) n c) (hg : Bk w g cur et) (h1 : ∀ v ∈ z.cells, v.oneCell' = true) (hfit : off + n * s ≤ cur.length)
    (h : ∀ w' cur', Bk w' g cur' et → cur'.length = cur.length → cur'.take off = cur.take off → w.grownBy w' (some g) → w'.heap.size = w.heap.size → K (a.put o.dst (.tuple #[])) w') : o.wp P a w K Q := by
  rcases Nat.eq_zero_or_pos n with rfl | hn
  · have hr := run_clear_none (P := P) (w := w) (ty := o.type) (c := c) (A := some ⟨g, off, none⟩) E
    unfold Oper.wp execOp
    simp only [ho, resolve, invoke, builtin, Sem.run_bind, Sem.run_pure, Result.andThen_ok, List.map_toArray, List.map_cons, List.map_nil, hd, hr]
    exact h _ _ hg rfl rfl ⟨rfl, rfl, rfl, Nat.le_refl _, fun _ _ _ => rfl⟩ rfl
  · have hr := run_clear_blk (P := P) (ty := o.type) (c := c) E hg h1 hn hfit
    unfold Oper.wp execOp
    simp only [ho, resolve, invoke, builtin, Sem.run_bind, Sem.run_pure, Result.andThen_ok, List.map_toArray, List.map_cons, List.map_nil, hd, hr]
    have hz := zeros_len E.cells n
    refine h _ _ hg.setRow (splice_length _ _ _ (by rw [hz]; exact hfit)) ?_ (setRow_grown _ _ _) (by simp [World.setRow])
    unfold splice
    rw [List.take_append_of_le_length (by simp; omega), List.take_take, Nat.min_self]
theorem wpList_clr {w : World} {ops : Array Oper} {rest : List Oper} {o : Oper} {a : Act} {Q : Exit → Act → World → Prop} (hgd : o.guard = none) (d : Operand) (t : TypeId)
    (ho : o.op = .call { callee := .builtin .clear, args := #[d], argTypes := #[t] }) {e : TypeId} {z : Value} {s bytes : Nat} (E : El P t e z s bytes) {g off n c : Nat} {cur : List Value} {et : TypeId}
    (hd : a.eval d = .slice (some ⟨g, off, none⟩) n c) (hg : Bk w g cur et) (h1 : ∀ v ∈ z.cells, v.oneCell' = true) (hfit : off + n * s ≤ cur.length)
    (h : ∀ w' cur', Bk w' g cur' et → cur'.length = cur.length → cur'.take off = cur.take off → w.grownBy w' (some g) → w'.heap.size = w.heap.size → wpList P ops Q rest (a.put o.dst (.tuple #[])) w') : wpList P ops Q (o :: rest) a w :=
  wpList_plain hgd fun _ hK => wp_clr d t ho E hd hg h1 hfit fun w' cur' h2 h3 h4 h5 h6 => hK _ _ (h w' cur' h2 h3 h4 h5 h6)
theorem wpList_atclr {ops : Array Oper} {rest : List Oper} {d : Option Tmp} {args : Array Operand} {ts : Array TypeId} {ty : TypeId} {pos : String} {af : Array Edge} {g : Option (Nat × Bool)} {a : Act} {w : World} {Q : Exit → Act → World → Prop}
    (h : wpList P ops Q (⟨d, .call { callee := .builtin .clear, args := args, argTypes := ts }, ty, pos, af, g⟩ :: rest) a w) : wpList P ops Q (⟨d, .call { callee := .builtin .clear, args := args, argTypes := ts }, ty, pos, af, g⟩ :: rest) a w := h
end
end Go.Proofs.YteolglmifimnaaaDoor

/- slices.Delete of one element, at Entry: on a row of the call's own. -/
namespace Go.Proofs.YteolglmifimnaaaDoor
open Go.RowKit
theorem step_apr {P : Program} {w : World} {ops : Array Oper} {o : Oper} {a : Act} {K : Act → World → Prop} {Q : Exit → Act → World → Prop} {EE : Prop} (hgd : o.guard = none) (sv x : Operand) (t : TypeId)
    (ho : o.op = .call { callee := .builtin .append, args := #[sv, x], argTypes := #[t, t] }) {e : TypeId} {z : Value} {s bytes : Nat} (E : El P t e z s bytes) {g k c off m cc : Nat} {cur news : List Value} {et : TypeId}
    (hs : a.eval sv = .slice (some ⟨g, 0, none⟩) k c) (hx : a.eval x = .slice (some ⟨g, off, none⟩) m cc) (hg : Bk w g cur et) (hn : news.length = m * s) (hsrc : ∀ j v, news[j]? = some v → cur[off + j]? = some v)
    (hroom : k + m ≤ c) (hfit : k * s + news.length ≤ cur.length) (h1 : ∀ v ∈ news, v.oneCell' = true)
    (h : ∀ w', Bk w' g (splice cur (k * s) news) et → w.grownBy w' (some g) → w'.heap.size = w.heap.size → K (a.put o.dst (.slice (some ⟨g, 0, none⟩) (k + m) c)) w') : if Region.wanted o (yielded ops a.tmps) = true then Oper.wp P o a w K Q else EE := by
  obtain ⟨i, hi, _, hsz, _⟩ := info_of E.info
  refine step_append_room hgd sv x t ho e i s E.slice hi hsz g 0 k c hs ⟨g, off, none⟩ m cc news hx hn (fun j u hu => ?_) h1 hroom (fun j hj => ?_) ?_
  · rw [Addr.add_lit, hg.cell]
    exact hsrc j u hu
  · rw [Nat.zero_add, hg.cell, hg.frozen]
    refine ⟨?_, rfl⟩
    rw [List.getElem?_eq_getElem (by omega)]
    rfl
  · rw [Nat.zero_add]
    refine h _ (hg.puts news (k * s) hfit) (grownBy_setCells g news (k * s) w) ?_
    have key : ∀ (vs : List Value) (o : Nat) (w : World), (w.setCells g o vs).heap.size = w.heap.size := by
      intro vs
      induction vs with
      | nil => intro o w; rfl
      | cons v r ih => intro o w; rw [World.setCells, ih]; simp [World.setCell]
    exact key _ _ _
theorem drop_rows {α : Type} {f : α → List Value} {s : Nat} {l : List α} (hf : ∀ x ∈ l, (f x).length = s) (k : Nat) : (l.flatMap f).drop (k * s) = (l.drop k).flatMap f := by
  rcases Nat.lt_or_ge l.length k with h | h
  · rw [List.drop_eq_nil_of_le (by rw [flatMap_length hf]; exact Nat.mul_le_mul_right s (by omega)), List.drop_eq_nil_of_le (by omega)]
    rfl
  · have e : l.flatMap f = (l.take k).flatMap f ++ (l.drop k).flatMap f := by rw [← List.flatMap_append, List.take_append_drop]
    rw [e, ← show ((l.take k).flatMap f).length = k * s from by rw [flatMap_length (fun x hx => hf x (List.mem_of_mem_take hx)), List.length_take, Nat.min_eq_left h], List.drop_left]
theorem take_rows2 {α : Type} {f : α → List Value} {s : Nat} {l : List α} (hf : ∀ x ∈ l, (f x).length = s) {k : Nat} (h : k ≤ l.length) (J : List Value) : (l.flatMap f ++ J).take (k * s) = (l.take k).flatMap f := by
  have e : l.flatMap f = (l.take k).flatMap f ++ (l.drop k).flatMap f := by rw [← List.flatMap_append, List.take_append_drop]
  rw [e, List.append_assoc, ← show ((l.take k).flatMap f).length = k * s from by rw [flatMap_length (fun x hx => hf x (List.mem_of_mem_take hx)), List.length_take, Nat.min_eq_left h], List.take_left]
end Go.Proofs.YteolglmifimnaaaDoor

/- made by geninst.py from XT5.src -/
namespace Go.Proofs.YteolglmifimnaaaDoor
open Go.RowKit
set_option maxRecDepth 100000 in
set_option maxHeartbeats 1000000 in
theorem delNode_core (g n c k j m q : Nat) (cur news : List Value) (w : World) (hb : Bk w g cur 40) (hnews : news.length = m * 9) (hsrc : ∀ (i : Nat) (v : Value), news[i]? = some v → cur[j * 9 + i]? = some v)
    (hone : ∀ v ∈ news, v.oneCell' = true) (hlen : cur.length = c * 9) (hj : j = k + 1) (hm : k + m = q) (hn : n = q + 1) (hnc : n ≤ c) (hc : c ≤ 9223372036854775807) :
    Calls Tryd.prog 69 #[.slice (some ⟨g, 0, none⟩) n c, .int .i64 k, .int .i64 j] w fun e w' => e = .returned (.slice (some ⟨g, 0, none⟩) q c) ∧
      Hid (∃ cur', Bk w' g cur' 40 ∧ cur'.length = cur.length ∧ cur'.take (q * 9) = (splice cur (k * 9) news).take (q * 9) ∧ w.grownBy w' (some g)) := by
  have HB := Lib.hid hb
  have HO := Lib.hid hone
  have HN := Lib.hid hnews
  have HS := Lib.hid hsrc
  have HL := Lib.hid hlen
  have hkc : (k : Int) ≤ (c : Int) := by omega
  have hjn : (j : Int) ≤ (n : Int) := by omega
  have hnci : (n : Int) ≤ (c : Int) := by omega
  have hqn : (q : Int) ≤ (n : Int) := by omega
  have hqc : (q : Int) ≤ (c : Int) := by omega
  have hkj : (k : Int) ≤ (j : Int) := by omega
  have hkk : ((k : Int) == (j : Int)) = false := beq_eq_false_iff_ne.2 (by omega)
  have hnq : n - q = 1 := by omega
  have HQ := Lib.hid hn
  have HJ := Lib.hid hj
  have HBD : Hid (Bk w.drew g cur 40) := HB
  clear hb hone hnews hsrc hlen
  by_cases hcj : c = j
  · have hm0 : m = 0 := by omega
    subst hm0
    rw [Nat.add_zero] at hm
    subst hm
    have hn0 : news = [] := List.eq_nil_of_length_eq_zero (by simpa using HN.out)
    have HN0 := Lib.hid hn0
    have hnj : n = j := by omega
    subst hnj
    subst hcj
    clear hn hj hn0
    go_enter Tryd.func69, Tryd.ntmps69
    go_wp2_with fail
    go_region_law (first | (refine step_apr rfl (.tmp 22) (.tmp 25) _ rfl elNode (g := g) (k := k) (c := c) (off := 0) (m := 0) (cc := 0) (news := news) (by simp [Act.eval, Act.put]) (by simp [Act.eval, Act.put]) HBD.out (by rw [HN0.out]; rfl) (by rw [HN0.out]; simp) (by omega) (by rw [HN0.out, HL.out]; simp; omega) HO.out ?_; intro w2 hb2 hg2 hz2; have HB2 := Lib.hid hb2; have HG2 := Lib.hid hg2; have HZ2 := Lib.hid hz2; clear hb2 hg2 hz2))
    have hsl : (splice cur (k * 9) news).length = c * 9 := by rw [splice_length _ _ _ (by rw [HN0.out, HL.out]; simp; omega), HL.out]
    have HSL := Lib.hid hsl
    clear hsl
    go_wp2_with (first | (with_reducible refine wpList_atclr ?_); (refine wpList_clr rfl (.tmp 31) _ rfl elNode (off := k * 9) (n := 1) rfl HB2.out (by decide) (by rw [HSL.out]; omega) ?_; intro w3 cur3 hb3 hl3 ht3 hg3 _; have HB3 := Lib.hid hb3; have HL3 := Lib.hid hl3; have HT3 := Lib.hid ht3; have HG3 := Lib.hid hg3; clear hb3 hl3 ht3 hg3))
    refine bodyPost_ret (v := .slice (some ⟨g, 0, none⟩) k c) (by simp [results, Tryd.results69, go_sem]) rfl ⟨rfl, Lib.hid ⟨cur3, HB3.out, by rw [HL3.out, HSL.out, HL.out], HT3.out, ?_⟩⟩
    exact (show w.grownBy w2 (some g) from ⟨HG2.out.os, HG2.out.tape, HG2.out.output, HG2.out.size, HG2.out.block⟩).trans HG3.out
  · clear hn hj
    go_enter Tryd.func69, Tryd.ntmps69
    go_wp2_with fail
    go_region_law (first | (refine step_apr rfl (.tmp 22) (.tmp 25) _ rfl elNode (g := g) (k := k) (c := c) (off := j * 9) (m := m) (cc := c - j) (news := news) (by simp [Act.eval, Act.put]) (by simp [Act.eval, Act.put]; have := HQ.out; have := HJ.out; omega) HBD.out HN.out HS.out (by have := HQ.out; omega) (by rw [HN.out, HL.out]; have := HQ.out; omega) HO.out ?_; intro w2 hb2 hg2 hz2; have HB2 := Lib.hid hb2; have HG2 := Lib.hid hg2; have HZ2 := Lib.hid hz2; clear hb2 hg2 hz2))
    have hsl : (splice cur (k * 9) news).length = c * 9 := by rw [splice_length _ _ _ (by rw [HN.out, HL.out]; have := HQ.out; omega), HL.out]
    have HSL := Lib.hid hsl
    clear hsl
    go_wp2_with (first | (with_reducible refine wpList_atclr ?_); (refine wpList_clr rfl (.tmp 31) _ rfl elNode (off := q * 9) (n := 1) rfl HB2.out (by decide) (by rw [HSL.out]; have := HQ.out; omega) ?_; intro w3 cur3 hb3 hl3 ht3 hg3 _; have HB3 := Lib.hid hb3; have HL3 := Lib.hid hl3; have HT3 := Lib.hid ht3; have HG3 := Lib.hid hg3; clear hb3 hl3 ht3 hg3))
    refine bodyPost_ret (v := .slice (some ⟨g, 0, none⟩) q c) (by simp [results, Tryd.results69, go_sem]) rfl ⟨rfl, Lib.hid ⟨cur3, HB3.out, by rw [HL3.out, HSL.out, HL.out], HT3.out, ?_⟩⟩
    exact (show w.grownBy w2 (some g) from ⟨HG2.out.os, HG2.out.tape, HG2.out.output, HG2.out.size, HG2.out.block⟩).trans HG3.out
theorem delNode (A : Option Addr) (n c k : Nat) (l : List Node) (w : World) (B : Nat) (hown : Ow cNode 9 40 w B (.slice A n c) l) (hk : k < l.length) (hc : c ≤ 9223372036854775807) :
    Calls Tryd.prog 69 #[.slice A n c, .int .i64 k, .int .i64 (k + 1)] w fun e w' => e = .returned (.slice A (n - 1) c) ∧ Hid (Ow cNode 9 40 w' B (.slice A (n - 1) c) (l.take k ++ l.drop (k + 1)) ∧ w.grownBy w' (Value.slice A n c).ownBlock) := by
  have hnl : n = l.length := by obtain ⟨_, _, h, _⟩ := hown.form; injection h
  obtain ⟨g, J, rfl, hBg, hbk, hbl, hnc, hcm, _⟩ := hown.blk (by omega)
  have hf : ∀ x ∈ l, (cNode x).length = 9 := fun _ _ => rfl
  have hsp := drop_rows hf (k + 1)
  have hnews : ((l.drop (k + 1)).flatMap cNode).length = (n - (k + 1)) * 9 := by rw [flatMap_length (f := cNode) (s := 9) (fun _ _ => rfl), List.length_drop, hnl]
  have hsrc : ∀ (i : Nat) (v : Value), ((l.drop (k + 1)).flatMap cNode)[i]? = some v → (l.flatMap cNode ++ J)[(k + 1) * 9 + i]? = some v := by
    intro i v hj
    rw [← hsp, List.getElem?_drop] at hj
    rw [List.getElem?_append_left (List.getElem?_eq_some_iff.1 hj).1]
    exact hj
  have hone : ∀ v ∈ (l.drop (k + 1)).flatMap cNode, v.oneCell' = true := by intro v hv; obtain ⟨y, _, hy⟩ := List.mem_flatMap.1 hv; exact cNode_one y v hy
  have htake := take_rows2 hf (Nat.le_of_lt hk) J
  have hlen : (l.take k ++ l.drop (k + 1)).length = n - 1 := by rw [List.length_append, List.length_take, List.length_drop]; omega
  rw [show (k : Int) + 1 = ((k + 1 : Nat) : Int) from by omega]
  refine (delNode_core g n c k (k + 1) (n - (k + 1)) (n - 1) _ _ w hbk hnews hsrc hone hbl rfl (by omega) (by omega) hnc hc).mono ?_
  rintro e w' ⟨rfl, h⟩
  obtain ⟨cur', hb', hl', ht', hg'⟩ := h.out
  refine ⟨rfl, Lib.hid ⟨?_, hg'⟩⟩
  have hlt : ((l.take k).flatMap cNode).length = k * 9 := by rw [flatMap_length (f := cNode) (s := 9) (fun _ _ => rfl), List.length_take, Nat.min_eq_left (by omega)]
  have hpre : cur'.take ((n - 1) * 9) = (l.take k ++ l.drop (k + 1)).flatMap cNode := by
    rw [ht']
    unfold splice
    rw [htake, List.flatMap_append]
    have e : (n - 1) * 9 = ((l.take k).flatMap cNode ++ (l.drop (k + 1)).flatMap cNode).length := by rw [List.length_append, hlt, hnews]; omega
    rw [e, ← List.append_assoc, List.take_left]
  have hcur : cur' = (l.take k ++ l.drop (k + 1)).flatMap cNode ++ cur'.drop ((n - 1) * 9) := by rw [← hpre, List.take_append_drop]
  have := Ow.of_blk (f := cNode) (s := 9) (B := B) (fun _ _ => rfl) hBg hb' hcur (by rw [hl']; exact hbl) (by rw [hlen]; omega) hcm
  rw [hlen] at this
  exact this
end Go.Proofs.YteolglmifimnaaaDoor

/- Regions that draw their order, whose operations read, and whose calls leave the memory as it was but for what they made anew: the lexical walk serves every order. -/
namespace Go.Proofs.YteolglmifimnaaaDoor
open Go.RowKit
/-- how memory has grown: one datum, that a simp does not take apart -/
structure Grn where
  ext : Array Obj
  d : Nat
instance : Nonempty Grn := ⟨⟨#[], 0⟩⟩
theorem grow_nil (W : World) (d : Nat) : grow W #[] d = { W with drawn := d } := by simp [grow]
theorem wp_region_grow {P : Program} {id : Nat} {Q : Exit → Act → World → Prop} {a : Act} {w : World} {l : List Oper} (hm : P.follows .mixedOrders = true) (hB : Region.lexB .any l.toArray = true)
    (h : wpQuiet P l.toArray (fun w' => ∃ p : Grn, w' = grow w p.ext p.d) (fun a' => ∀ w', (∃ p : Grn, w' = grow w p.ext p.d) → Q .normal a' w') l a) : (Code.region id l.toArray true).wp P Q a w :=
  wp_region_quiet (C := fun w' => ∃ p : Grn, w' = grow w p.ext p.d) hm hB ⟨⟨#[], w.drawn + 1⟩, (grow_nil w _).symm⟩ (by simpa using h)
/-- a contract that lets memory grow, met in such a region -/
theorem Calls.grow_of {P : Program} {f : FuncId} {args : Array Value} {w : World} {p : Grn} {v : Value}
    (h : Calls P f args (grow w p.ext p.d) fun e w' => e = .returned v ∧ Below (grow w p.ext p.d).heap.size (grow w p.ext p.d) w') : Calls P f args (grow w p.ext p.d) fun e w'' => e = .returned v ∧ ∃ p : Grn, w'' = grow w p.ext p.d :=
  h.mono fun _ _ ⟨he, hb⟩ => ⟨he, by
    obtain ⟨ext, d, h⟩ := Below.grown_eq w (Below.own (Below.grow w p.ext p.d (Below.refl _ _) (Nat.le_refl _)) hb)
    exact ⟨⟨ext, d⟩, h⟩⟩
theorem Calls.grow_of_same {P : Program} {f : FuncId} {args : Array Value} {w : World} {p : Grn} {v : Value}
    (h : Calls P f args (grow w p.ext p.d) fun e w' => e = .returned v ∧ w' = grow w p.ext p.d) : Calls P f args (grow w p.ext p.d) fun e w'' => e = .returned v ∧ ∃ p : Grn, w'' = grow w p.ext p.d :=
  h.mono fun _ _ ⟨he, hb⟩ => ⟨he, p, hb⟩
/-! a cut inside such a walk: the scratch slots from lo on are forgotten, but for the last of them, that holds a Bool -/
def junk : Nat → Nat → (Nat → Value) → List Value
  | 0, _, _ => []
  | n + 1, i, m => m i :: junk n (i + 1) m
theorem junk_get (m : Nat → Value) : ∀ (n i k : Nat), (junk n i m)[k]? = if k < n then some (m (i + k)) else none
  | 0, i, k => by simp [junk]
  | n + 1, i, 0 => by simp [junk]
  | n + 1, i, k + 1 => by
    unfold junk
    rw [List.getElem?_cons_succ, junk_get m n (i + 1) k]
    by_cases h : k < n
    · rw [if_pos h, if_pos (by omega), show i + 1 + k = i + (k + 1) from by omega]
    · rw [if_neg h, if_neg (by omega)]
theorem junk_of (l : List Value) : junk l.length 0 (fun i => l.getD i undef) = l := by
  apply List.ext_getElem?
  intro k
  rw [junk_get]
  by_cases h : k < l.length
  · rw [if_pos h, Nat.zero_add, List.getD_eq_getElem?_getD, List.getElem?_eq_getElem h]
    rfl
  · rw [if_neg h, List.getElem?_eq_none (by omega)]
theorem act_of {a' : Act} {L : List Value} {ds : List Deferred} {lo len : Nat} {v : Value} (h0 : a'.defers = ds) (h1 : a'.tmps.toList.take lo = L.take lo) (h2 : a'.tmps.toList.drop (lo + len + 1) = L.drop (lo + len + 1)) (h3 : a'.tmps.toList[lo + len]? = some v) :
    ∃ m, a' = ⟨(L.take lo ++ (junk len 0 m ++ v :: L.drop (lo + len + 1))).toArray, ds⟩ := by
  have hlt := (List.getElem?_eq_some_iff.1 h3).1
  refine ⟨fun i => ((a'.tmps.toList.drop lo).take len).getD i undef, ?_⟩
  have hj := junk_of ((a'.tmps.toList.drop lo).take len)
  rw [List.length_take, List.length_drop, Nat.min_eq_left (by omega)] at hj
  rw [hj, ← h1, ← h2]
  have e1 : v :: a'.tmps.toList.drop (lo + len + 1) = a'.tmps.toList.drop (lo + len) := by
    rw [List.drop_eq_getElem_cons hlt]
    congr 1
    rw [List.getElem?_eq_getElem hlt] at h3
    injection h3 with h3
    exact h3.symm
  have e2 : (a'.tmps.toList.drop lo).take len ++ a'.tmps.toList.drop (lo + len) = a'.tmps.toList.drop lo := by
    rw [← List.drop_drop, List.take_append_drop]
  rw [e1, e2, List.take_append_drop]
  cases a'
  subst h0
  simp
section
variable {P : Program} {ops : Array Oper} {C : World → Prop}
theorem wpQuiet_two {Q R : Act → Prop} : ∀ (l1 l2 : List Oper) (a : Act), wpQuiet P ops C R l1 a → (∀ a', R a' → wpQuiet P ops C Q l2 a') → wpQuiet P ops C Q (l1 ++ l2) a
  | [], l2, a, h1, h2 => h2 a h1
  | o :: l1, l2, a, h1, h2 => by
    rw [List.cons_append]
    unfold wpQuiet at h1 ⊢
    split
    · rename_i hw
      rw [if_pos hw] at h1
      exact Oper.quiet_mono (fun a h => wpQuiet_two l1 l2 a h h2) h1
    · rename_i hw
      rw [if_neg hw] at h1
      exact wpQuiet_two l1 l2 _ h1 h2
theorem wpQuiet_cut {Q : Act → Prop} {l : List Oper} {L : List Value} {ds : List Deferred} (n lo len : Nat) (v : Bool)
    (h1 : wpQuiet P ops C (fun a' => a'.defers = ds ∧ a'.tmps.toList.take lo = L.take lo ∧ a'.tmps.toList.drop (lo + len + 1) = L.drop (lo + len + 1) ∧ a'.tmps.toList[lo + len]? = some (.bool v)) (l.take n) ⟨L.toArray, ds⟩)
    (h2 : ∀ m b, Hid (v = b) → wpQuiet P ops C Q (l.drop n) ⟨(L.take lo ++ (junk len 0 m ++ .bool b :: L.drop (lo + len + 1))).toArray, ds⟩) : wpQuiet P ops C Q l ⟨L.toArray, ds⟩ := by
  rw [← List.take_append_drop n l]
  refine wpQuiet_two _ _ _ h1 (fun a' h => ?_)
  obtain ⟨m, e⟩ := act_of h.1 h.2.1 h.2.2.1 h.2.2.2
  rw [e]
  exact h2 m v (Lib.hid rfl)
end
end Go.Proofs.YteolglmifimnaaaDoor

/- The hand of package tree: a tree that is its own, in a block, and its rows. -/
namespace Go.Proofs.YteolglmifimnaaaDoor
open Go.RowKit Go.ChangeShapes Go.WideShapes Go.ChangeAt
theorem Bk.far {w : World} {g g2 j : Nat} {cs : List Value} {t : TypeId} {v : Value} (h : Bk w g cs t) (hne : g ≠ g2) : Bk (w.setCell ⟨g2, j, none⟩ v) g cs t := h.grown (grownBy_setCell w g2 j v) (by simpa using hne)
section
variable {α : Type} {f : α → List Value} {s : Nat} {e : TypeId} {w : World} {B : Nat} {v : Value} {l : List α}
theorem Ow.far2 (h : Ow f s e w B v l) {g j : Nat} {u : Value} (hne : v.ownBlock ≠ some g) : Ow f s e (w.setCell ⟨g, j, none⟩ u) B v l := h.kept (grownBy_setCell w g j u) (.inr hne)
theorem flatMap_set1 {x x' : α} {j : Nat} {u : Value} (J : List Value) (hj : j < s) (hx' : f x' = (f x).set j u) : ∀ (l : List α) (k : Nat), (∀ x ∈ l, (f x).length = s) → l[k]? = some x → (l.flatMap f ++ J).set (k * s + j) u = (l.set k x').flatMap f ++ J
  | [], k, _, h => by simp at h
  | y :: l, 0, hf, h => by
    simp at h
    subst h
    have hy := hf y (by simp)
    rw [Nat.zero_mul, Nat.zero_add, List.flatMap_cons, List.append_assoc, List.set_append_left _ _ (by omega), List.set_cons_zero, List.flatMap_cons, hx', List.append_assoc]
  | y :: l, k + 1, hf, h => by
    have hy := hf y (by simp)
    have ih := flatMap_set1 J hj hx' l k (fun x hx => hf x (by simp [hx])) (by simpa using h)
    rw [List.flatMap_cons, List.append_assoc, List.set_append_right _ _ (by rw [hy, Nat.succ_mul]; omega), hy, show (k + 1) * s + j - s = k * s + j from by rw [Nat.succ_mul]; omega, ih, List.set_cons_succ, List.flatMap_cons, List.append_assoc]
/-- one cell of an element of an owned row is written -/
theorem Ow.cell1 {g n c : Nat} (h : Ow f s e w B (.slice (some ⟨g, 0, none⟩) n c) l) {k j o : Nat} {x x' : α} {u : Value} (hx : l[k]? = some x) (hj : j < s) (ho : o = k * s + j) (hx' : f x' = (f x).set j u) :
    Ow f s e (w.setCell ⟨g, o, none⟩ u) B (.slice (some ⟨g, 0, none⟩) n c) (l.set k x') := by
  subst ho
  have hk := (List.getElem?_eq_some_iff.1 hx).1
  have hnl : n = l.length := by obtain ⟨_, _, h, _⟩ := h.form; injection h
  obtain ⟨g', J, hg, hB, hb, hl, hn, hc, _⟩ := h.blk (by omega)
  injection hg with hg
  injection hg with hg
  subst hg
  have hset := flatMap_set1 J hj hx' l k h.2 hx
  have hlen : (l.set k x').length = n := by rw [List.length_set, hnl]
  have hff : ∀ y ∈ l.set k x', (f y).length = s := by
    intro y hy
    rcases List.mem_or_eq_of_mem_set hy with h' | rfl
    · exact h.2 y h'
    · rw [hx', List.length_set]
      exact h.2 x (List.mem_of_getElem? hx)
  have := Ow.of_blk (J := J) hff hB (hb.put (k * s + j) u) hset (by rw [List.length_set]; exact hl) (by omega) hc
  rw [hlen] at this
  exact this
end
/-- the cells of an element of an owned row -/
theorem Ow.at_cell {α : Type} {f : α → List Value} {s : Nat} {e : TypeId} {w : World} {B g n c : Nat} {l : List α} (h : Ow f s e w B (.slice (some ⟨g, 0, none⟩) n c) l) {k j o : Nat} {x : α} {u : Value} (hx : l[k]? = some x) (hu : (f x)[j]? = some u) (ho : o = k * s + j) : w.cell? ⟨g, o, none⟩ = some u ∧ w.frozen? ⟨g, o, none⟩ = false := by
  subst ho
  have hk := (List.getElem?_eq_some_iff.1 hx).1
  have hnl : n = l.length := by obtain ⟨_, _, h, _⟩ := h.form; injection h
  obtain ⟨g', J, hg, hB, hb, hl, hn, hc, _⟩ := h.blk (by omega)
  injection hg with hg
  injection hg with hg
  subst hg
  refine ⟨?_, hb.frozen _⟩
  rw [hb.cell]
  have h1 := flatMap_get h.2 hx hu
  rw [List.getElem?_append_left (List.getElem?_eq_some_iff.1 h1).1]
  exact h1
abbrev txnV (t : Txn) : Value := .agg #[.int .i64 t.zxid, .int .i64 t.op, .int .i64 t.session, .string t.path, .string t.data, .int .i64 t.version, .int .i64 t.owner]
structure Hand (w : World) (B b : Nat) (t : Tr) (ev : List Event) (nv sv vv : Value) : Prop where
  bk : Bk w b [.int .i64 t.zxid, nv, sv, vv] 90
  nodes : Ow cNode 9 40 w B nv t.nodes
  sess : Ow cInt 1 3 w B sv t.sess
  evs : Ow cEvent 2 55 w B vv ev
  nb : nv.ownBlock ≠ some b
  sb : sv.ownBlock ≠ some b
  vb : vv.ownBlock ≠ some b
  ns : ∀ q, nv.ownBlock = some q → sv.ownBlock ≠ some q
  nv : ∀ q, nv.ownBlock = some q → vv.ownBlock ≠ some q
  sv : ∀ q, sv.ownBlock = some q → vv.ownBlock ≠ some q
  base : B ≤ b
theorem Hand.below {w w' : World} {B b : Nat} {t : Tr} {ev : List Event} {nv sv vv : Value} (h : Hand w B b t ev nv sv vv) (hb : Below w.heap.size w w') : Hand w' B b t ev nv sv vv :=
  ⟨h.bk.below hb, h.nodes.below hb, h.sess.below hb, h.evs.below hb, h.nb, h.sb, h.vb, h.ns, h.nv, h.sv, h.base⟩
theorem Hand.cells {w : World} {B b : Nat} {t : Tr} {ev : List Event} {nv sv vv : Value} (h : Hand w B b t ev nv sv vv) :
    w.cell? ⟨b, 0, none⟩ = some (.int .i64 t.zxid) ∧ w.cell? ⟨b, 1, none⟩ = some nv ∧ w.cell? ⟨b, 2, none⟩ = some sv ∧ w.cell? ⟨b, 3, none⟩ = some vv ∧ w.frozen? ⟨b, 1, none⟩ = false ∧ w.frozen? ⟨b, 2, none⟩ = false ∧ w.frozen? ⟨b, 3, none⟩ = false ∧ w.frozen? ⟨b, 0, none⟩ = false ∧ b < w.heap.size :=
  ⟨h.bk.cell 0, h.bk.cell 1, h.bk.cell 2, h.bk.cell 3, h.bk.frozen 1, h.bk.frozen 2, h.bk.frozen 3, h.bk.frozen 0, h.bk.lt⟩
/-- one number of a node is written -/
theorem Hand.put {w : World} {B b g n c : Nat} {z : Int} {l : List Node} {ss : List Int} {ev : List Event} {sv vv : Value} (h : Hand w B b ⟨z, l, ss⟩ ev (.slice (some ⟨g, 0, none⟩) n c) sv vv) {k j o : Nat} {x x' : Node} {u : Value} (hx : l[k]? = some x) (hj : j < 9) (ho : o = k * 9 + j) (hx' : cNode x' = (cNode x).set j u) :
    Hand (w.setCell ⟨g, o, none⟩ u) B b ⟨z, l.set k x', ss⟩ ev (.slice (some ⟨g, 0, none⟩) n c) sv vv := by
  have hg : (Value.slice (some ⟨g, 0, none⟩) n c).ownBlock = some g := rfl
  exact ⟨h.bk.far (fun e => h.nb (by rw [hg, e])), h.nodes.cell1 hx hj ho hx', h.sess.far2 (h.ns g hg), h.evs.far2 (h.nv g hg), h.nb, h.sb, h.vb, h.ns, h.nv, h.sv, h.base⟩
/-- a row is written anew, and the field that holds it -/
theorem Hand.events {w w1 : World} {B b : Nat} {t : Tr} {ev ev' : List Event} {nv sv vv vv' : Value} (h : Hand w B b t ev nv sv vv) (hg : w.grownBy w1 vv.ownBlock) (ho : Ow cEvent 2 55 w1 B vv' ev') (ha : vv'.ownBlock = vv.ownBlock ∨ ∃ q, vv'.ownBlock = some q ∧ w.heap.size ≤ q) :
    Hand (w1.setCell ⟨b, 3, none⟩ vv') B b t ev' nv sv vv' := by
  have hb1 : Bk w1 b [.int .i64 t.zxid, nv, sv, vv] 90 := h.bk.grown hg (fun e => h.vb e.symm)
  have hlt := h.bk.lt
  have hvb : vv'.ownBlock ≠ some b := by
    rcases ha with e | ⟨q, e, hq⟩
    · rw [e]; exact h.vb
    · rw [e]; intro e2; injection e2 with e2; omega
  refine ⟨by simpa using hb1.put 3 vv', (h.nodes.kept hg ?_).far2 h.nb, (h.sess.kept hg ?_).far2 h.sb, ho.far2 hvb, h.nb, h.sb, hvb, h.ns, fun q hq => ?_, fun q hq => ?_, h.base⟩
  · cases hn : nv.ownBlock with
    | none => exact .inl rfl
    | some q => exact .inr (fun e => h.nv q hn e.symm)
  · cases hn : sv.ownBlock with
    | none => exact .inl rfl
    | some q => exact .inr (fun e => h.sv q hn e.symm)
  · rcases ha with e | ⟨r, e, hr⟩
    · rw [e]; exact h.nv q hq
    · have := (h.nodes.lt q hq)
      rw [e]; intro e2; injection e2 with e2; omega
  · rcases ha with e | ⟨r, e, hr⟩
    · rw [e]; exact h.sv q hq
    · have := (h.sess.lt q hq)
      rw [e]; intro e2; injection e2 with e2; omega
theorem Hand.rows {w w1 : World} {B b : Nat} {z : Int} {l l' : List Node} {ss : List Int} {ev : List Event} {nv sv vv nv' : Value} (h : Hand w B b ⟨z, l, ss⟩ ev nv sv vv) (hg : w.grownBy w1 nv.ownBlock) (ho : Ow cNode 9 40 w1 B nv' l') (ha : nv'.ownBlock = nv.ownBlock ∨ ∃ q, nv'.ownBlock = some q ∧ w.heap.size ≤ q) :
    Hand (w1.setCell ⟨b, 1, none⟩ nv') B b ⟨z, l', ss⟩ ev nv' sv vv := by
  have hb1 : Bk w1 b [.int .i64 z, nv, sv, vv] 90 := h.bk.grown hg (fun e => h.nb e.symm)
  have hlt := h.bk.lt
  have hvb : nv'.ownBlock ≠ some b := by
    rcases ha with e | ⟨q, e, hq⟩
    · rw [e]; exact h.nb
    · rw [e]; intro e2; injection e2 with e2; omega
  refine ⟨by simpa using hb1.put 1 nv', ho.far2 hvb, (h.sess.kept hg ?_).far2 h.sb, (h.evs.kept hg ?_).far2 h.vb, hvb, h.sb, h.vb, fun q hq => ?_, fun q hq => ?_, h.sv, h.base⟩
  · cases hn : sv.ownBlock with
    | none => exact .inl rfl
    | some q => exact .inr (fun e => h.ns q e.symm hn)
  · cases hn : vv.ownBlock with
    | none => exact .inl rfl
    | some q => exact .inr (fun e => h.nv q e.symm hn)
  · rcases ha with e | ⟨r, e, hr⟩
    · rw [e] at hq; exact h.ns q hq
    · intro e2
      have := (h.sess.lt q e2)
      rw [e] at hq; injection hq with hq; omega
  · rcases ha with e | ⟨r, e, hr⟩
    · rw [e] at hq; exact h.nv q hq
    · intro e2
      have := (h.evs.lt q e2)
      rw [e] at hq; injection hq with hq; omega
theorem Hand.sessions {w w1 : World} {B b : Nat} {z : Int} {l : List Node} {ss ss' : List Int} {ev : List Event} {nv sv vv sv' : Value} (h : Hand w B b ⟨z, l, ss⟩ ev nv sv vv) (hg : w.grownBy w1 sv.ownBlock) (ho : Ow cInt 1 3 w1 B sv' ss') (ha : sv'.ownBlock = sv.ownBlock ∨ ∃ q, sv'.ownBlock = some q ∧ w.heap.size ≤ q) :
    Hand (w1.setCell ⟨b, 2, none⟩ sv') B b ⟨z, l, ss'⟩ ev nv sv' vv := by
  have hb1 : Bk w1 b [.int .i64 z, nv, sv, vv] 90 := h.bk.grown hg (fun e => h.sb e.symm)
  have hlt := h.bk.lt
  have hvb : sv'.ownBlock ≠ some b := by
    rcases ha with e | ⟨q, e, hq⟩
    · rw [e]; exact h.sb
    · rw [e]; intro e2; injection e2 with e2; omega
  refine ⟨by simpa using hb1.put 2 sv', (h.nodes.kept hg ?_).far2 h.nb, ho.far2 hvb, (h.evs.kept hg ?_).far2 h.vb, h.nb, hvb, h.vb, fun q hq => ?_, h.nv, fun q hq => ?_, h.base⟩
  · cases hn : nv.ownBlock with
    | none => exact .inl rfl
    | some q => exact .inr (fun e => h.ns q hn e.symm)
  · cases hn : vv.ownBlock with
    | none => exact .inl rfl
    | some q => exact .inr (fun e => h.sv q e.symm hn)
  · rcases ha with e | ⟨r, e, hr⟩
    · rw [e]; exact h.ns q hq
    · have := (h.nodes.lt q hq)
      rw [e]; intro e2; injection e2 with e2; omega
  · rcases ha with e | ⟨r, e, hr⟩
    · rw [e] at hq; exact h.sv q hq
    · intro e2
      have := (h.evs.lt q e2)
      rw [e] at hq; injection hq with hq; omega
theorem Below.set_up {B : Nat} {w w1 : World} {g o : Nat} {v : Value} (h : Below B w w1) (hg : B ≤ g) : Below B w (w1.setCell ⟨g, o, none⟩ v) := h.setCell hg v
theorem Below.grown_up {B : Nat} {w w1 w2 : World} {row : Option Nat} (h : Below B w w1) (hB : B ≤ w1.heap.size) (hg : w1.grownBy w2 row) (hr : ∀ q, row = some q → B ≤ q) : Below B w w2 := by
  obtain ⟨g1, g2, g3, g4, g5⟩ := hg
  refine h.trans ⟨g1, g2, g3, g4, fun k hk => g5 k (by omega) ?_⟩
  cases row with
  | none => simp
  | some q => have := hr q rfl; simp; omega
theorem hand_push {w W X w2 : World} {B b : Nat} {t : Tr} {ev ev' : List Event} {nv sv vv v2 : Value} (HH : Hand W B b t ev nv sv vv) (HB : Below B w W) (hX : Below W.heap.size W X) (hown2 : Ow cEvent 2 55 w2 B v2 ev') (hg2 : X.grownBy w2 vv.ownBlock) (ha : v2.ownBlock = vv.ownBlock ∨ v2.ownBlock = some X.heap.size) :
    Hand (w2.setCell ⟨b, 3, none⟩ v2) B b t ev' nv sv v2 ∧ Below B w (w2.setCell ⟨b, 3, none⟩ v2) ∧ w2.cell? ⟨b, 3, none⟩ = some vv ∧ w2.frozen? ⟨b, 3, none⟩ = false ∧ b < w2.heap.size := by
  have hbl := HH.bk.lt
  have hbB := HH.base
  have hXs := hX.size
  have hk : Bk w2 b [.int .i64 t.zxid, nv, sv, vv] 90 := (HH.bk.below hX).grown hg2 (fun e => HH.vb e.symm)
  refine ⟨(HH.below hX).events hg2 hown2 (ha.imp id (fun e => ⟨_, e, Nat.le_refl _⟩)), ?_, hk.cell 3, hk.frozen 3, hk.lt⟩
  exact Below.set_up (Below.grown_up (HB.trans (hX.mono (by omega))) (by omega) hg2 (fun q hq => ((HH.evs.below hX).own_in hq).1)) hbB
theorem hand_rows {w W X w2 : World} {B b : Nat} {z : Int} {l l' : List Node} {ss : List Int} {ev : List Event} {nv sv vv v2 : Value} (HH : Hand W B b ⟨z, l, ss⟩ ev nv sv vv) (HB : Below B w W) (hX : Below W.heap.size W X) (hown2 : Ow cNode 9 40 w2 B v2 l') (hg2 : X.grownBy w2 nv.ownBlock) (ha : v2.ownBlock = nv.ownBlock ∨ v2.ownBlock = some X.heap.size) :
    Hand (w2.setCell ⟨b, 1, none⟩ v2) B b ⟨z, l', ss⟩ ev v2 sv vv ∧ Below B w (w2.setCell ⟨b, 1, none⟩ v2) ∧ w2.cell? ⟨b, 1, none⟩ = some nv ∧ w2.frozen? ⟨b, 1, none⟩ = false ∧ b < w2.heap.size := by
  have hbl := HH.bk.lt
  have hbB := HH.base
  have hXs := hX.size
  have hk : Bk w2 b [.int .i64 z, nv, sv, vv] 90 := (HH.bk.below hX).grown hg2 (fun e => HH.nb e.symm)
  refine ⟨(HH.below hX).rows hg2 hown2 (ha.imp id (fun e => ⟨_, e, Nat.le_refl _⟩)), ?_, hk.cell 1, hk.frozen 1, hk.lt⟩
  exact Below.set_up (Below.grown_up (HB.trans (hX.mono (by omega))) (by omega) hg2 (fun q hq => ((HH.nodes.below hX).own_in hq).1)) hbB
theorem hand_sess {w W X w2 : World} {B b : Nat} {z : Int} {l : List Node} {ss ss' : List Int} {ev : List Event} {nv sv vv v2 : Value} (HH : Hand W B b ⟨z, l, ss⟩ ev nv sv vv) (HB : Below B w W) (hX : Below W.heap.size W X) (hown2 : Ow cInt 1 3 w2 B v2 ss') (hg2 : X.grownBy w2 sv.ownBlock) (ha : v2.ownBlock = sv.ownBlock ∨ v2.ownBlock = some X.heap.size) :
    Hand (w2.setCell ⟨b, 2, none⟩ v2) B b ⟨z, l, ss'⟩ ev nv v2 vv ∧ Below B w (w2.setCell ⟨b, 2, none⟩ v2) ∧ w2.cell? ⟨b, 2, none⟩ = some sv ∧ w2.frozen? ⟨b, 2, none⟩ = false ∧ b < w2.heap.size := by
  have hbl := HH.bk.lt
  have hbB := HH.base
  have hXs := hX.size
  have hk : Bk w2 b [.int .i64 z, nv, sv, vv] 90 := (HH.bk.below hX).grown hg2 (fun e => HH.sb e.symm)
  refine ⟨(HH.below hX).sessions hg2 hown2 (ha.imp id (fun e => ⟨_, e, Nat.le_refl _⟩)), ?_, hk.cell 2, hk.frozen 2, hk.lt⟩
  exact Below.set_up (Below.grown_up (HB.trans (hX.mono (by omega))) (by omega) hg2 (fun q hq => ((HH.sess.below hX).own_in hq).1)) hbB
end Go.Proofs.YteolglmifimnaaaDoor
