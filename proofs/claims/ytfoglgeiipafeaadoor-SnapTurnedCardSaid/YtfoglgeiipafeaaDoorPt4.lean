/- Lemmas for the statement: OrdE, TreeNew, T3N, TreeA, T4N, Clear, T5, T5N, QG, Hand, Lacks, TreeK, BsI, Cnt, TreeG. -/
import Derived.OrdersHeld
import Derived.Deep.RegionHeld
import Derived.Deep.RegionHeld3
import Derived.Deep.CutBlock
import Derived.BigQuiet
import Derived.Maps.OwnOps
import Derived.Maps.OwnSet
import Derived.Maps.Views
import Derived.StringKeys
import Derived.Deep.CutRange
import Derived.Test.YtfoglgeiipafeaaDoorPt1
import Derived.Test.YtfoglgeiipafeaaDoorPt2
import Derived.Test.YtfoglgeiipafeaaDoorPt3
/- Regions that draw their order: loads are taken first under a condition that only the region's last stores may break. -/
namespace Go.Proofs.YtfoglgeiipafeaaDoor
open Go.RowKit
theorem below_d1 (B : Nat) (w : World) (e : Array Obj) (d d' : Nat) : Below B (grow w.drew e d) (grow w e d') := ⟨rfl, rfl, rfl, Nat.le_refl _, fun _ _ => rfl⟩
theorem below_d2 (B : Nat) (w : World) (e e1 : Array Obj) (d d' d1 d1' : Nat) : Below B (grow (grow w e d).drew e1 d1) (grow (grow w e d') e1 d1') := ⟨rfl, rfl, rfl, Nat.le_refl _, fun _ _ => rfl⟩
theorem below_d3 (B : Nat) (w : World) (e : Array Obj) (d d' : Nat) : Below B (grow w e d) (grow w e d') := ⟨rfl, rfl, rfl, Nat.le_refl _, fun _ _ => rfl⟩
theorem below_d4 (B : Nat) (w : World) (e e1 : Array Obj) (d d' d1 d1' : Nat) : Below B (grow (grow w e d) e1 d1) (grow (grow w e d') e1 d1') := ⟨rfl, rfl, rfl, Nat.le_refl _, fun _ _ => rfl⟩
theorem below_d5 (B : Nat) (w : World) : Below B w.drew w := ⟨rfl, rfl, rfl, Nat.le_refl _, fun _ _ => rfl⟩
@[go_sem] theorem grow_drewN' (w : World) (n : Nat) (e : Array Obj) (d : Nat) : grow (w.drewN n) e d = grow w e d := rfl
@[go_sem] theorem grow_drew' (w : World) (e : Array Obj) (d : Nat) : grow w.drew e d = grow w e d := rfl
@[go_sem] theorem setCell_drewN' (w : World) (n : Nat) (a : Addr) (v : Value) : (w.drewN n).setCell a v = (w.setCell a v).drewN n := rfl
section
variable {P : Program} {ops : Array Oper} {Q : Exit → Act → World → Prop} {md : Region.Mode} {S : World → Prop} {brk : Nat → Bool}
/-- none of the last stores has come up -/
def clean (ops : Array Oper) (brk : Nat → Bool) (listed : Array Bool) : Bool := (List.range ops.size).all fun k => !(brk k && listed.getD k true)
/-- whatever order is picked; S holds behind every operation till one of brk has come up -/
def wpE (P : Program) (md : Region.Mode) (ops : Array Oper) (Q : Exit → Act → World → Prop) (S : World → Prop) (brk : Nat → Bool) : Nat → Array Bool → Act → World → Prop
  | 0, listed, a, w => Region.ready md ops listed = [] ∧ Q .normal a w
  | fuel + 1, listed, a, w =>
    (Region.ready md ops listed = [] → Q .normal a w) ∧
    ∀ i ∈ Region.ready md ops listed, wpOp P ops Q i (fun a' w' => (clean ops brk (listed.setIfInBounds i true) = true → S w') ∧ wpE P md ops Q S brk fuel (listed.setIfInBounds i true) a' w') a w
theorem wpAny_of_E : ∀ (fuel : Nat) (listed : Array Bool) (a : Act) (w : World), wpE P md ops Q S brk fuel listed a w → wpAny P md ops Q fuel listed a w
  | 0, _, _, _, h => h
  | fuel + 1, _, _, _, h => ⟨h.1, fun i hi => wpOp_mono (fun a' w' h' => wpAny_of_E fuel _ a' w' h'.2) (h.2 i hi)⟩
theorem clean_of {listed : Array Bool} {j : Nat} (h : clean ops brk (listed.setIfInBounds j true) = true) : clean ops brk listed = true := by
  unfold clean at *
  rw [List.all_eq_true] at *
  intro k hk
  have h1 := h k hk
  by_cases hjk : j = k
  · subst hjk
    simp only [Bool.not_eq_true', Bool.and_eq_false_iff] at h1 ⊢
    rcases h1 with h1 | h1
    · exact .inl h1
    · rcases Nat.lt_or_ge j listed.size with h2 | h2
      · simp [h2] at h1
      · exact .inr (by simp [Array.getD_eq_getD_getElem?] at h1)
  · rw [getD_set_ne true hjk] at h1
    exact h1
theorem clean_set {listed : Array Bool} {j : Nat} (h : clean ops brk listed = true) (hj : brk j = false) : clean ops brk (listed.setIfInBounds j true) = true := by
  unfold clean at *
  rw [List.all_eq_true] at *
  intro k hk
  have h1 := h k hk
  by_cases hjk : j = k
  · subst hjk
    simp [hj]
  · rw [getD_set_ne true hjk]
    exact h1
/-- those of brk wait for i -/
def waits (md : Region.Mode) (ops : Array Oper) (brk : Nat → Bool) (i : Nat) : Bool :=
  (List.range ops.size).all fun j => !brk j || (match ops[j]? with | some o => o.after.any fun e => Region.binds md e && e.on == i | none => true)
theorem waits_spec {i j : Nat} {oj : Oper} (h : waits md ops brk i = true) (hj : ops[j]? = some oj) (hb : brk j = true) : ∃ e ∈ oj.after, Region.binds md e = true ∧ e.on = i := by
  have hlt : j < ops.size := (Array.getElem?_eq_some_iff.1 hj).1
  have h1 := List.all_eq_true.1 h j (List.mem_range.2 hlt)
  rw [hb, hj] at h1
  simp only [Bool.not_true, Bool.false_or] at h1
  obtain ⟨k, hk, he⟩ := Array.any_eq_true.1 h1
  simp only [Bool.and_eq_true, beq_iff_eq] at he
  exact ⟨_, Array.getElem_mem hk, he.1, he.2⟩
theorem not_waits {i j : Nat} {listed : Array Bool} (hr : i ∈ Region.ready md ops listed) (hj : j ∈ Region.ready md ops listed) : listed.getD j true = false ∧ ∃ oj, ops[j]? = some oj ∧ ∀ e ∈ oj.after, Region.binds md e = true → e.on ≠ i := by
  obtain ⟨hjun, oj, hoj, hall⟩ := mem_ready.1 hj
  refine ⟨hjun, oj, hoj, fun e he hb heq => ?_⟩
  have h1 := hall e he hb
  have h0 := (mem_ready.1 hr).1
  rw [heq] at h1
  rcases Nat.lt_or_ge i listed.size with h' | h'
  · simp [h'] at h0 h1; rw [h0] at h1; cases h1
  · simp [Array.getElem?_eq_none h'] at h1
/-- a load may be taken first -/
theorem wpE_first {i : Nat} {oi : Oper} {v : Value} (hi : ops[i]? = some oi) (hsel : ∀ (j : Nat) (o : Oper) cs b, ops[j]? = some o → o.op ≠ .select cs b)
    (hQ : ∀ c a w, Q (.panic c) (a.put oi.dst v) w → Q (.panic c) a w) (hwt : waits md ops brk i = true) (hbi : brk i = false) :
    ∀ (fuel : Nat) (listed : Array Bool) (a : Act) (w : World),
      (∀ j oj, ops[j]? = some oj → j ≠ i → listed.getD j true = false → (∀ e ∈ oj.after, Region.binds md e = true → e.on ≠ i) → oi.apart ops oj = true) →
      i ∈ Region.ready md ops listed → YieldsIf P ops S oi v a → clean ops brk listed = true → S w →
      wpE P md ops Q S brk fuel (listed.setIfInBounds i true) (a.put oi.dst v) w → wpE P md ops Q S brk (fuel + 1) listed a w := by
  intro fuel
  induction fuel with
  | zero =>
    intro listed a w _ hr hy hc hS H
    refine ⟨fun h => (by rw [h] at hr; cases hr), fun j hj => ?_⟩
    by_cases hji : j = i
    · subst hji; exact hy.wpOp hi hS ⟨fun _ => hS, H⟩
    · have := ready_mono hj hji
      rw [H.1] at this
      cases this
  | succ fuel ih =>
    intro listed a w hfree hr hy hc hS H
    refine ⟨fun h => (by rw [h] at hr; cases hr), fun j hj => ?_⟩
    by_cases hji : j = i
    · subst hji; exact hy.wpOp hi hS ⟨fun _ => hS, H⟩
    · have h1 := H.2 j (ready_mono hj hji)
      obtain ⟨hjun, oj, hoj, hnot⟩ := not_waits hr hj
      have hbj : brk j = false := by
        cases hb : brk j with
        | false => rfl
        | true =>
          obtain ⟨e, he, h2, h3⟩ := waits_spec hwt hoj hb
          exact absurd h3 (hnot e he h2)
      have h2 := wpOp_putIf hoj (hfree j oj hoj hji hjun hnot) (fun cs b => hsel i oi cs b hi) (fun cs b => hsel j oj cs b hoj) hQ hy h1
      have hfree' : ∀ k ok, ops[k]? = some ok → k ≠ i → (listed.setIfInBounds j true).getD k true = false →
          (∀ e ∈ ok.after, Region.binds md e = true → e.on ≠ i) → oi.apart ops ok = true := fun k ok hk hki hun hno => by
        refine hfree k ok hk hki ?_ hno
        by_cases hjk : j = k
        · subst hjk; exact hjun
        · rw [getD_set_ne true hjk] at hun; exact hun
      have hcj := clean_set hc hbj
      have hcij := clean_set (clean_set hc hbi) hbj
      refine wpOp_mono (fun a' w' h3 => ⟨fun _ => h3.2.1 hcij, ih (listed.setIfInBounds j true) a' w' hfree' (ready_mono hr (Ne.symm hji)) h3.1 hcj (h3.2.1 hcij) ?_⟩) h2
      rw [Array.setIfInBounds_comm _ _ hji]
      exact h3.2.2
/-- what looks at no memory may be taken first at any time -/
theorem wpE_firstP {i : Nat} {oi : Oper} {v : Value} (hi : ops[i]? = some oi) (hsel : ∀ (j : Nat) (o : Oper) cs b, ops[j]? = some o → o.op ≠ .select cs b)
    (hQ : ∀ c a w, Q (.panic c) (a.put oi.dst v) w → Q (.panic c) a w) (hbi : brk i = false) :
    ∀ (fuel : Nat) (listed : Array Bool) (a : Act) (w : World),
      (∀ j oj, ops[j]? = some oj → j ≠ i → listed.getD j true = false → (∀ e ∈ oj.after, Region.binds md e = true → e.on ≠ i) → oi.apart ops oj = true) →
      i ∈ Region.ready md ops listed → YieldsIf P ops (fun _ => True) oi v a → (clean ops brk listed = true → S w) →
      wpE P md ops Q S brk fuel (listed.setIfInBounds i true) (a.put oi.dst v) w → wpE P md ops Q S brk (fuel + 1) listed a w := by
  intro fuel
  induction fuel with
  | zero =>
    intro listed a w _ hr hy hS H
    refine ⟨fun h => (by rw [h] at hr; cases hr), fun j hj => ?_⟩
    by_cases hji : j = i
    · subst hji; exact hy.wpOp hi trivial ⟨fun hc => hS (clean_of hc), H⟩
    · have := ready_mono hj hji
      rw [H.1] at this
      cases this
  | succ fuel ih =>
    intro listed a w hfree hr hy hS H
    refine ⟨fun h => (by rw [h] at hr; cases hr), fun j hj => ?_⟩
    by_cases hji : j = i
    · subst hji; exact hy.wpOp hi trivial ⟨fun hc => hS (clean_of hc), H⟩
    · have h1 := H.2 j (ready_mono hj hji)
      obtain ⟨hjun, oj, hoj, hnot⟩ := not_waits hr hj
      have h2 := wpOp_putIf hoj (hfree j oj hoj hji hjun hnot) (fun cs b => hsel i oi cs b hi) (fun cs b => hsel j oj cs b hoj) hQ hy h1
      have hfree' : ∀ k ok, ops[k]? = some ok → k ≠ i → (listed.setIfInBounds j true).getD k true = false →
          (∀ e ∈ ok.after, Region.binds md e = true → e.on ≠ i) → oi.apart ops ok = true := fun k ok hk hki hun hno => by
        refine hfree k ok hk hki ?_ hno
        by_cases hjk : j = k
        · subst hjk; exact hjun
        · rw [getD_set_ne true hjk] at hun; exact hun
      have hcc : clean ops brk (listed.setIfInBounds j true) = true → clean ops brk ((listed.setIfInBounds i true).setIfInBounds j true) = true := fun hc => by
        rw [Array.setIfInBounds_comm _ _ (Ne.symm hji)]
        exact clean_set hc hbi
      refine wpOp_mono (fun a' w' h3 => ⟨fun hc => h3.2.1 (hcc hc), ih (listed.setIfInBounds j true) a' w' hfree' (ready_mono hr (Ne.symm hji)) h3.1 (fun hc => h3.2.1 (hcc hc)) ?_⟩) h2
      rw [Array.setIfInBounds_comm _ _ hji]
      exact h3.2.2
theorem wpE_take {i : Nat} {oi : Oper} {v : Value} {fuel : Nat} {listed : Array Bool} {a : Act} {w : World} (hi : ops[i]? = some oi)
    (hs : Region.noSelect ops = true) (hf : Region.free md ops listed i = true) (hr : (Region.ready md ops listed).contains i = true)
    (hwt : waits md ops brk i = true) (hc : clean ops brk listed = true) (hbi : brk i = false)
    (hQ : ∀ c a w, Q (.panic c) (a.put oi.dst v) w → Q (.panic c) a w) (hy : YieldsIf P ops S oi v a) (hS : S w)
    (h : wpE P md ops Q S brk fuel (listed.setIfInBounds i true) (a.put oi.dst v) w) : wpE P md ops Q S brk (fuel + 1) listed a w :=
  wpE_first hi (Region.noSelect_spec hs) hQ hwt hbi fuel listed a w (Region.free_spec hi hf) (by simpa using hr) hy hc hS h
theorem wpE_takeP {i : Nat} {oi : Oper} {v : Value} {fuel : Nat} {listed : Array Bool} {a : Act} {w : World} (hi : ops[i]? = some oi)
    (hs : Region.noSelect ops = true) (hf : Region.free md ops listed i = true) (hr : (Region.ready md ops listed).contains i = true) (hbi : brk i = false)
    (hQ : ∀ c a w, Q (.panic c) (a.put oi.dst v) w → Q (.panic c) a w) (hy : YieldsIf P ops (fun _ => True) oi v a) (hS : S w)
    (h : wpE P md ops Q S brk fuel (listed.setIfInBounds i true) (a.put oi.dst v) w) : wpE P md ops Q S brk (fuel + 1) listed a w :=
  wpE_firstP hi (Region.noSelect_spec hs) hQ hbi fuel listed a w (Region.free_spec hi hf) (by simpa using hr) hy (fun _ => hS) h
theorem wpE_takeQ {i : Nat} {oi : Oper} {v : Value} {fuel : Nat} {listed : Array Bool} {a : Act} {w : World} (hi : ops[i]? = some oi)
    (hs : Region.noSelect ops = true) (hf : Region.free md ops listed i = true) (hr : (Region.ready md ops listed).contains i = true) (hbi : brk i = false)
    (hQ : ∀ c a w, Q (.panic c) (a.put oi.dst v) w → Q (.panic c) a w) (hy : YieldsIf P ops (fun _ => True) oi v a) (hc : clean ops brk listed = false)
    (h : wpE P md ops Q S brk fuel (listed.setIfInBounds i true) (a.put oi.dst v) w) : wpE P md ops Q S brk (fuel + 1) listed a w :=
  wpE_firstP hi (Region.noSelect_spec hs) hQ hbi fuel listed a w (Region.free_spec hi hf) (by simpa using hr) hy (fun hc2 => by rw [hc] at hc2; cases hc2) h
def AllE (P : Program) (md : Region.Mode) (ops : Array Oper) (Q : Exit → Act → World → Prop) (S : World → Prop) (brk : Nat → Bool) (fuel : Nat) (listed : Array Bool) (a : Act) (w : World) (rs : List Nat) : Prop :=
  ∀ i ∈ rs, wpOp P ops Q i (fun a' w' => (clean ops brk (listed.setIfInBounds i true) = true → S w') ∧ wpE P md ops Q S brk fuel (listed.setIfInBounds i true) a' w') a w
theorem AllE.nil {fuel : Nat} {listed : Array Bool} {a : Act} {w : World} : AllE P md ops Q S brk fuel listed a w [] := fun _ h => by cases h
theorem AllE.cons {fuel : Nat} {listed : Array Bool} {a : Act} {w : World} {i : Nat} {o : Oper} {rs : List Nat} (ho : ops[i]? = some o)
    (h : ∀ K' : Act → World → Prop, Shut (∀ a w, S w → (S w → wpE P md ops Q S brk fuel (listed.setIfInBounds i true) a w) → K' a w) → if Region.wanted o (yielded ops a.tmps) = true then Oper.wp P o a w K' Q else K' (a.put o.dst undef) w)
    (hs : AllE P md ops Q S brk fuel listed a w rs) : AllE P md ops Q S brk fuel listed a w (i :: rs) := fun j hj => by
  rcases List.mem_cons.1 hj with rfl | hj
  · exact wpOp_step ho (fun K' hK => h K' (fun a w hS hW => hK a w ⟨fun _ => hS, hW hS⟩))
  · exact hs j hj
/-- one behind which S is asked no more -/
theorem AllE.last {fuel : Nat} {listed : Array Bool} {a : Act} {w : World} {i : Nat} {o : Oper} {rs : List Nat} (ho : ops[i]? = some o) (hb : clean ops brk (listed.setIfInBounds i true) = false)
    (h : ∀ K' : Act → World → Prop, Shut (∀ a w, wpE P md ops Q S brk fuel (listed.setIfInBounds i true) a w → K' a w) → if Region.wanted o (yielded ops a.tmps) = true then Oper.wp P o a w K' Q else K' (a.put o.dst undef) w)
    (hs : AllE P md ops Q S brk fuel listed a w rs) : AllE P md ops Q S brk fuel listed a w (i :: rs) := fun j hj => by
  rcases List.mem_cons.1 hj with rfl | hj
  · exact wpOp_step ho (fun K' hK => h K' (fun a w hW => hK a w ⟨fun hf => (by rw [hb] at hf; cases hf), hW⟩))
  · exact hs j hj
theorem wpE_ready {rs : List Nat} {fuel : Nat} {listed : Array Bool} {a : Act} {w : World} (hr : Region.ready md ops listed = rs) (hne : rs ≠ [])
    (h : AllE P md ops Q S brk fuel listed a w rs) : wpE P md ops Q S brk (fuel + 1) listed a w := ⟨fun h0 => absurd (hr ▸ h0) hne, by rw [hr]; exact h⟩
theorem wpE_done {listed : Array Bool} {a : Act} {w : World} (hr : Region.ready md ops listed = []) (h : Q .normal a w) :
    ∀ fuel, wpE P md ops Q S brk fuel listed a w
  | 0 => ⟨hr, h⟩
  | _ + 1 => ⟨fun _ => h, by rw [hr]; simp⟩
theorem wp_region_W {id : Nat} {a : Act} {w : World} (hm : P.follows .mixedOrders = true) (h : ∀ W, Hid (W = w.drew) → wpAny P .any ops Q ops.size (Array.replicate ops.size false) a W) : (Code.region id ops true).wp P Q a w :=
  wp_region_any hm (h _ (Lib.hid rfl))
theorem wpAny_S {a : Act} {W : World} (S : World → Prop) (brk : Nat → Bool) (hS : S W) (h : S W → wpE P .any ops Q S brk ops.size (Array.replicate ops.size false) a W) : wpAny P .any ops Q ops.size (Array.replicate ops.size false) a W :=
  wpAny_of_E _ _ _ _ (h hS)
end
section
variable {P : Program} {w : World} {ops : Array Oper} {o : Oper} {a : Act} {K : Act → World → Prop} {Q : Exit → Act → World → Prop} {EE : Prop}
theorem stepE_app (hw : Region.wanted o (yielded ops a.tmps) = true) (sv x : Operand) (t : TypeId)
    (ho : o.op = .call { callee := .builtin .append, args := #[sv, x], argTypes := #[t, t] })
    {α : Type} {f : α → List Value} {s : Nat} {e : TypeId} {z : Value} {bytes : Nat} (E : El P t e z s bytes) {B : Nat} {v xv : Value} {l m : List α}
    (hs : a.eval sv = v) (hx : a.eval x = xv) (hown : Ow f s e w B v l) (hsrc : Sl f s w xv m) (h1 : ∀ x, ∀ u ∈ f x, u.oneCell' = true)
    (h63 : l.length + m.length ≤ maxLen) (hbytes : (l.length + m.length) * bytes ≤ 140737488355328) (hbase : B ≤ w.heap.size)
    (h : ∀ v' w', Ow f s e w' B v' (l ++ m) → w.grownBy w' v.ownBlock → (v'.ownBlock = v.ownBlock ∨ v'.ownBlock = some w.heap.size) → K (a.put o.dst v') w') : if Region.wanted o (yielded ops a.tmps) = true then Oper.wp P o a w K Q else EE := by
  rw [if_pos hw]
  exact wp_app w sv x t ho E hs hx hown hsrc h1 h63 hbytes hbase h
theorem stepE_mk (hw : Region.wanted o (yielded ops a.tmps) = true) (x y : Operand) (t : TypeId) (ho : o.op = Op.makeSlice t x y)
    {α : Type} {f : α → List Value} {s : Nat} {e : TypeId} {z : Value} {bytes : Nat} (E : El P t e z s bytes) {B n : Nat} {C : Int} (hx : a.eval x = .int .i64 0) (hy : a.eval y = .int .i64 C) (hC : C = (n : Int))
    (hbytes : n * bytes ≤ 140737488355328) (hn : n ≤ maxLen) (hbase : B ≤ w.heap.size)
    (h : ∀ w', Ow f s e w' B (.slice (some ⟨w.heap.size, 0, none⟩) 0 n) [] → w.grownBy w' none → K (a.put o.dst (.slice (some ⟨w.heap.size, 0, none⟩) 0 n)) w') : if Region.wanted o (yielded ops a.tmps) = true then Oper.wp P o a w K Q else EE := by
  rw [if_pos hw]
  obtain ⟨i, hi, hz⟩ := Option.map_eq_some_iff.1 E.info
  simp only [Prod.mk.injEq] at hz
  obtain ⟨z1, z2, z3⟩ := hz
  obtain ⟨w', hrun, r1, r2⟩ := run_make_own (P := P) w B t e i z s E.slice hi z1 z2 .i64 .i64 n (by rw [z3, Nat.mul_comm]; omega) hn hbase
  subst hC
  unfold Oper.wp
  simp [execOp, ho, hx, hy, hrun, Result.andThen]
  exact h w' ⟨r1, by simp⟩ r2
end
theorem Ow.one_at {α : Type} (f : α → List Value) (s : Nat) (w : World) (x : α) (e : TypeId) (hs : (f x).length = s) (cs : Array Value) (hcs : cs.toList = f x) {n B : Nat} (hn : n = w.heap.size) (hB : B ≤ w.heap.size) : Ow f s e (w.alloc (.cells cs e)) B (.slice (some ⟨n, 0, none⟩) 1 1) [x] := by
  subst hn
  refine ⟨?_, by simpa using hs⟩
  have := World.ownsRow_lit (e := e) (size := s) w cs 1 hB (by simp [maxLen]) (by rw [← Array.length_toList, hcs, hs, Nat.one_mul])
  rw [hcs] at this
  simpa using this
/-- behind the building of a slice of one element -/
theorem build_one {α : Type} {K : Act → World → Prop} {A : Act} {Wc : World} {cs : Array Value} {e : TypeId} {n : Nat} (hn : n = Wc.heap.size) (B : Nat) (hB : B ≤ Wc.heap.size) (f : α → List Value) (s : Nat) (x : α) (hs : (f x).length = s) (hcs : cs.toList = f x)
    (h : ∀ w', Ow f s e w' B (.slice (some ⟨n, 0, none⟩) 1 1) [x] → Below Wc.heap.size Wc w' → K A w') : K A (Wc.alloc (.cells cs e)) :=
  h _ (Ow.one_at f s Wc x e hs cs hcs hn hB) ((Below.refl _ _).alloc (Nat.le_refl _) _)
theorem Ow.lt {α : Type} {f : α → List Value} {s : Nat} {e : TypeId} {w : World} {B : Nat} {v : Value} {l : List α} (h : Ow f s e w B v l) : ∀ g, v.ownBlock = some g → g < w.heap.size := by
  intro q hq
  obtain ⟨A, c, rfl, _, _, _, h4⟩ := h.form
  cases A with
  | none => cases hq
  | some a =>
    obtain ⟨g, rfl, _, hg⟩ := h4 _ rfl
    have e1 : g = q := by simpa [Value.ownBlock] using hq
    omega
/-- a row that was there, and one that is made now -/
theorem Ow.apart {α : Type} {f : α → List Value} {s : Nat} {e : TypeId} {w : World} {B : Nat} {v x : Value} {l : List α} (h : Ow f s e w B v l) {g : Nat} (hx : x.ownBlock = some g) (hg : w.heap.size ≤ g) : v.ownBlock ≠ x.ownBlock := by
  intro h1
  have := h.lt g (h1.trans hx)
  omega
/-- a row of what has grown, in a later world -/
theorem Ow.moved {α : Type} {f : α → List Value} {s : Nat} {e : TypeId} {W W' w' : World} {ext : Array Obj} {d d' B : Nat} {v : Value} {l : List α} (h : Ow f s e (grow W ext d) B v l) (hB : W.heap.size ≤ B) (hb : Below (grow W' ext d').heap.size (grow W' ext d') w') (hs : W'.heap.size = W.heap.size) : Ow f s e w' B v l :=
  (h.regrow hB hs).below hb
/-- the world at hand, by a name of its own -/
theorem gen_w {P : Program} {c : Code} {Q : Exit → Act → World → Prop} {a : Act} {w : World} (h : ∀ W, Hid (W = w) → c.wp P Q a W) : c.wp P Q a w := h w (Lib.hid rfl)
/-- the world behind an append onto a row that lies above a base -/
theorem grown_on {W w1 w2 : World} {r : Option Nat} (hb : Below W.heap.size W w1) (hg : w1.grownBy w2 r) (hr : ∀ g, r = some g → W.heap.size ≤ g) : ∃ ext d, w2 = grow W ext d := by
  obtain ⟨h1, h2, h3, h4, h5⟩ := hb
  obtain ⟨g1, g2, g3, g4, g5⟩ := hg
  refine Below.grown_eq W ⟨g1.trans h1, g2.trans h2, g3.trans h3, Nat.le_trans h4 g4, fun k hk => ?_⟩
  rw [g5 k (by omega) ?_, h5 k hk]
  cases r with
  | none => simp
  | some g => have := hr g rfl; simp; omega
theorem Ow.above {α : Type} {f : α → List Value} {s : Nat} {e : TypeId} {w : World} {B : Nat} {v : Value} {l : List α} (h : Ow f s e w B v l) : ∀ g, v.ownBlock = some g → B ≤ g := by
  intro q hq
  obtain ⟨A, c, rfl, _, _, _, h4⟩ := h.form
  cases A with
  | none => cases hq
  | some a =>
    obtain ⟨g, rfl, hB, _⟩ := h4 _ rfl
    have e1 : g = q := by simpa [Value.ownBlock] using hq
    omega
/-- a row made with room -/
theorem ow_made {α : Type} (f : α → List Value) (s : Nat) (e : TypeId) (w : World) (cs : Array Value) (n : Nat) {g B : Nat} (hg : g = w.heap.size) (hB : B ≤ w.heap.size) (hn : n ≤ maxLen) (hs : cs.size = n * s) : Ow f s e (w.alloc (.cells cs e)) B (.slice (some ⟨g, 0, none⟩) 0 n) [] := by
  subst hg
  refine ⟨⟨by simp, .inr ⟨w.heap.size, n, cs, rfl, hB, ?_, Nat.zero_le _, hn, hs, by simp⟩⟩, by simp⟩
  exact heap_alloc_new w _
end Go.Proofs.YtfoglgeiipafeaaDoor

/- tree.New. -/
namespace Go.Proofs.YtfoglgeiipafeaaDoor
open Go.RowKit Go.ChangeShapes Go.WideShapes Go.ChangeAt
def NewRes (w : World) (e : Ending) (w' : World) : Prop := ∃ A c, e = .returned (.agg #[.int .i64 0, .slice A 1 c, .slice none 0 0]) ∧ Ow cNode 9 45 w' w.heap.size (.slice A 1 c) [rootN] ∧ Below w.heap.size w w'
theorem treeNew (w : World) : Calls Tryd.prog 18 #[] w (NewRes w) := by
  go_enter Tryd.func18, Tryd.ntmps18
  go_wp2_with fail
  refine bodyPost_ret (v := .agg #[.int .i64 0, .slice (some ⟨w.heap.size + 1, 0, none⟩) 1 1, .slice none 0 0]) (by simp [results, Tryd.results18, go_sem]) rfl ⟨some ⟨w.heap.size + 1, 0, none⟩, 1, rfl, ?_, (by repeat (first | exact Below.refl _ _ | assumption | refine Below.drew ?_ | refine Below.drewN' ?_ _ | refine below_grow0 _ _ ?_ | refine below_alloc0 _ ?_ | refine Below.alloc ?_ (by first | omega | (simp; done) | (simp; omega)) _ | refine Below.setCell ?_ (by first | omega | (simp; done) | (simp; omega)) _ | refine Below.grow _ _ _ ?_ (by first | omega | (simp; done) | (simp; omega))))⟩
  exact Ow.one_at cNode 9 _ rootN _ rfl _ rfl (by simp) (by simp)
end Go.Proofs.YtfoglgeiipafeaaDoor

/- made by geninst.py from XT3.src -/
namespace Go.Proofs.YtfoglgeiipafeaaDoor
open Go.RowKit
theorem cmpNode (x : Node) (p : ByteArray) (w : World) :
    Calls Tryd.prog 32 #[.agg #[.string x.path, .string x.data, .int .i64 x.czxid, .int .i64 x.mzxid, .int .i64 x.pzxid, .int .i64 x.version, .int .i64 x.cversion, .int .i64 x.owner, .int .i64 x.kids], .string p] w fun e w' => e = .returned (.int .i64 (cmpB x.path p)) ∧ Below w.heap.size w w' := by
  go_enter Tryd.func32, Tryd.ntmps32
  go_wp2_with (go_at_call 33; refine (Tryd.strings_Compare _ _ _).mono ?_; rintro e w1 ⟨rfl, rfl⟩)
  go_ret
  exact ⟨rfl, (by repeat (first | exact Below.refl _ _ | assumption | refine Below.drew ?_ | refine Below.drewN' ?_ _ | refine below_grow0 _ _ ?_ | refine below_alloc0 _ ?_ | refine Below.alloc ?_ (by first | omega | (simp; done) | (simp; omega)) _ | refine Below.setCell ?_ (by first | omega | (simp; done) | (simp; omega)) _ | refine Below.grow _ _ _ ?_ (by first | omega | (simp; done) | (simp; omega))))⟩

set_option maxHeartbeats 1000000 in
theorem bsfNode (v : Value) (l : List Node) (p : ByteArray) (w : World) (h : Sl cNode 9 w v l) (hn : l.length ≤ 140737488355328) :
    Calls Tryd.prog 31 #[v, .string p, .func (.func 32) #[] #[]] w fun e w' => e = .returned (.tuple #[.int .i64 (posK (l.map Node.path) p), .bool (isK (l.map Node.path) p)]) ∧ Below w.heap.size w w' := by
  obtain ⟨A, c, rfl, hc1, hc2⟩ := h.form
  have H := Lib.hid h
  clear h
  go_enter Tryd.func31, Tryd.ntmps31
  go_wp2
  go_loopw [9, 10] (fun i j wr => ∃ (a b : Nat), a ≤ b ∧ b ≤ l.length ∧ i = .int .i64 a ∧ j = .int .i64 b ∧ Hid (bsr (ltK (l.map Node.path) p) a b = posK (l.map Node.path) p) ∧ Below w.heap.size w wr) (fun i j _ => (intOf j - intOf i).toNat)
  case atStart => exact ⟨0, l.length, Nat.zero_le _, Nat.le_refl _, rfl, rfl, (by simp [posK] : bsr (ltK (l.map Node.path) p) 0 l.length = posK (l.map Node.path) p), Below.refl _ _⟩
  case round =>
    obtain ⟨a, b, hab, hbl, rfl, rfl, hr, hb⟩ := hrel
    by_cases hlt : a < b
    · have hx : l[(a + b) / 2]? = some (l[(a + b) / 2]'(by omega)) := List.getElem?_eq_getElem _
      obtain ⟨bk, off, rfl, hbw, c0, c1, c2, c3, c4, c5, c6, c7, c8⟩ := (H.out.below hb).Node_at hx
      generalize hxe : l[(a + b) / 2]'(by omega) = x at hx c0 c1 c2 c3 c4 c5 c6 c7 c8
      have HX := Lib.hid hx
      clear hx hxe
      go_wp2_with (go_at_call 32; refine (cmpNode _ _ _).mono ?_; rintro e w1 ⟨rfl, hb1⟩; obtain ⟨ext1, d1, rfl⟩ := Below.grown_eq _ hb1)
      all_goals
        have hcmp := ltK_of (g := Node.path) HX.out p
        go_roundw
      case rel =>
        have hlt2 : cmpB x.path p < 0 := by assumption
        exact ⟨(a + b) / 2 + 1, b, by omega, by omega, by go_num, rfl, Eq.trans (bsr_up _ _ _ hlt (by rw [hcmp]; simpa using hlt2)).symm hr.out, (by repeat (first | exact Below.refl _ _ | assumption | refine Below.drew ?_ | refine Below.drewN' ?_ _ | refine below_grow0 _ _ ?_ | refine below_alloc0 _ ?_ | refine Below.alloc ?_ (by first | omega | (simp; done) | (simp; omega)) _ | refine Below.setCell ?_ (by first | omega | (simp; done) | (simp; omega)) _ | refine Below.grow _ _ _ ?_ (by first | omega | (simp; done) | (simp; omega))))⟩
      case measure => simp [intOf]; omega
      case rel =>
        have hge2 : 0 ≤ cmpB x.path p := by assumption
        exact ⟨a, (a + b) / 2, by omega, by omega, rfl, by go_num, Eq.trans (bsr_down _ _ _ hlt (by rw [hcmp]; simpa using hge2)).symm hr.out, (by repeat (first | exact Below.refl _ _ | assumption | refine Below.drew ?_ | refine Below.drewN' ?_ _ | refine below_grow0 _ _ ?_ | refine below_alloc0 _ ?_ | refine Below.alloc ?_ (by first | omega | (simp; done) | (simp; omega)) _ | refine Below.setCell ?_ (by first | omega | (simp; done) | (simp; omega)) _ | refine Below.grow _ _ _ ?_ (by first | omega | (simp; done) | (simp; omega))))⟩
      case measure => simp [intOf]; omega
    · obtain rfl : a = b := by omega
      have hpos : posK (l.map Node.path) p = a := by rw [← hr.out]; exact bsr_end _ _ _ hlt
      have HP := Lib.hid hpos
      clear hpos hr
      by_cases han : a < l.length
      · have hx : l[a]? = some (l[a]'(by omega)) := List.getElem?_eq_getElem _
        obtain ⟨bk, off, rfl, hbw, c0, c1, c2, c3, c4, c5, c6, c7, c8⟩ := (H.out.below hb).Node_at hx
        generalize hxe : l[a]'(by omega) = x at hx c0 c1 c2 c3 c4 c5 c6 c7 c8
        have HX := Lib.hid hx
        clear hx hxe
        go_wp2_with (go_at_call 32; refine (cmpNode _ _ _).mono ?_; rintro e w1 ⟨rfl, hb1⟩; obtain ⟨ext1, d1, rfl⟩ := Below.grown_eq _ hb1)
        go_ret2
        refine ⟨?_, (by repeat (first | exact Below.refl _ _ | assumption | refine Below.drew ?_ | refine Below.drewN' ?_ _ | refine below_grow0 _ _ ?_ | refine below_alloc0 _ ?_ | refine Below.alloc ?_ (by first | omega | (simp; done) | (simp; omega)) _ | refine Below.setCell ?_ (by first | omega | (simp; done) | (simp; omega)) _ | refine Below.grow _ _ _ ?_ (by first | omega | (simp; done) | (simp; omega))))⟩
        rw [isK_in HP.out HX.out, HP.out]
        rfl
      · go_wp2
        go_ret2
        refine ⟨?_, (by repeat (first | exact Below.refl _ _ | assumption | refine Below.drew ?_ | refine Below.drewN' ?_ _ | refine below_grow0 _ _ ?_ | refine below_alloc0 _ ?_ | refine Below.alloc ?_ (by first | omega | (simp; done) | (simp; omega)) _ | refine Below.setCell ?_ (by first | omega | (simp; done) | (simp; omega)) _ | refine Below.grow _ _ _ ?_ (by first | omega | (simp; done) | (simp; omega))))⟩
        rw [isK_out HP.out han, HP.out]
        rfl
end Go.Proofs.YtfoglgeiipafeaaDoor

/- package tree: find, Get, Open, copied. -/
namespace Go.Proofs.YtfoglgeiipafeaaDoor
open Go.RowKit Go.ChangeShapes Go.WideShapes Go.ChangeAt
theorem trFind (z : Int) (v : Value) (sa : Option Addr) (sn sc : Nat) (l : List Node) (p : ByteArray) (w : World) (h : Sl cNode 9 w v l) (hn : l.length ≤ 140737488355328) :
    Calls Tryd.prog 23 #[.agg #[.int .i64 z, v, .slice sa sn sc], .string p] w fun e w' => e = .returned (.tuple #[.int .i64 (posN l p), .bool (hasN l p)]) ∧ Below w.heap.size w w' := by
  obtain ⟨A, c, rfl, h1, h2⟩ := h.form
  have H := Lib.hid h
  clear h
  unfold posN hasN
  go_enter Tryd.func23, Tryd.ntmps23
  go_wp2_with (go_at_call 31; refine (bsfNode _ _ _ _ (H.out.alloc _) hn).mono ?_; rintro e w1 ⟨rfl, hb⟩; obtain ⟨ext, d, rfl⟩ := Below.grown_eq _ hb)
  go_ret2
  exact ⟨rfl, (by repeat (first | exact Below.refl _ _ | assumption | refine Below.drew ?_ | refine Below.drewN' ?_ _ | refine below_grow0 _ _ ?_ | refine below_alloc0 _ ?_ | refine Below.alloc ?_ (by first | omega | (simp; done) | (simp; omega)) _ | refine Below.setCell ?_ (by first | omega | (simp; done) | (simp; omega)) _ | refine Below.grow _ _ _ ?_ (by first | omega | (simp; done) | (simp; omega))))⟩
theorem hasN_lt {l : List Node} {p : ByteArray} (h : hasN l p = true) : posN l p < l.length := by
  unfold hasN isK at h
  simp at h
  exact h.1
theorem getN_at {l : List Node} {p : ByteArray} (h : hasN l p = true) : l[posN l p]? = some (getN l p) := by
  have hlt := hasN_lt h
  unfold getN
  rw [if_pos h, List.getD_eq_getElem?_getD, List.getElem?_eq_getElem hlt]
  rfl
abbrev vNode (x : Node) : Value := .agg #[.string x.path, .string x.data, .int .i64 x.czxid, .int .i64 x.mzxid, .int .i64 x.pzxid, .int .i64 x.version, .int .i64 x.cversion, .int .i64 x.owner, .int .i64 x.kids]
/-- a tree of the call's own -/
def TrIs (t : Tr) (w : World) (e : Ending) (w' : World) : Prop := ∃ A c A2 c2, e = .returned (.agg #[.int .i64 t.zxid, .slice A t.nodes.length c, .slice A2 t.sess.length c2]) ∧ Ow cNode 9 45 w' w.heap.size (.slice A t.nodes.length c) t.nodes ∧ Ow cInt 1 3 w' w.heap.size (.slice A2 t.sess.length c2) t.sess ∧ Below w.heap.size w w'
end Go.Proofs.YtfoglgeiipafeaaDoor

/- made by geninst.py from XT4.src -/
namespace Go.Proofs.YtfoglgeiipafeaaDoor
open Go.RowKit
end Go.Proofs.YtfoglgeiipafeaaDoor

/- clear(s[i:]) on a row that is known whole. -/
namespace Go.Proofs.YtfoglgeiipafeaaDoor
open Go.RowKit
section
variable {P : Program}
theorem zeros_len {z : Value} {s : Nat} (hs : z.cells.size = s) (n : Nat) : (Builtin.zeroCells z.cells n).toList.length = n * s := by simp [size_zeroCells, hs]
theorem run_clear_blk {w : World} {t ty e : TypeId} {z : Value} {s bytes g o n c : Nat} {cur : List Value} {et : TypeId} (E : El P t e z s bytes) (hg : Bk w g cur et) (h1 : ∀ v ∈ z.cells, v.oneCell' = true) (hn : 0 < n) (hfit : o + n * s ≤ cur.length) :
    (Builtin.clear_ #[t] ty #[.slice (some ⟨g, o, none⟩) n c]).run P w = .ok (.tuple #[]) (w.setRow g (splice cur o (Builtin.zeroCells z.cells n).toList).toArray) := by
  obtain ⟨i, hi, hz, hsz, _⟩ := info_of E.info
  obtain ⟨m, rfl⟩ : ∃ m, n = m + 1 := ⟨n - 1, by omega⟩
  have hst := run_storeCells_at P g o et (Builtin.zeroCells z.cells (m + 1)).toList 0 cur.toArray w hg (by rw [zeros_len E.cells]; simpa using hfit) (by
    intro v hv
    rw [Array.mem_toList_iff] at hv
    simp only [Builtin.zeroCells, Array.mem_map, Array.mem_range] at hv
    obtain ⟨k, _, rfl⟩ := hv
    have hlt : k % z.cells.size < z.cells.size := Nat.mod_lt _ (by rw [E.cells]; exact E.pos)
    rw [getElem!_pos z.cells _ hlt]
    exact h1 _ (Array.getElem_mem _))
  simp [Builtin.clear_, run_underlying E.slice, zeroValue, typeInfo, hi, hz, hst, splice]
theorem run_clear_none {w : World} {t ty e : TypeId} {z : Value} {s bytes c : Nat} {A : Option Addr} (E : El P t e z s bytes) : (Builtin.clear_ #[t] ty #[.slice A 0 c]).run P w = .ok (.tuple #[]) w := by
  cases A <;> simp [Builtin.clear_, run_underlying E.slice]
theorem wp_clr {w : World} {o : Oper} {a : Act} {K : Act → World → Prop} {Q : Exit → Act → World → Prop} (d : Operand) (t : TypeId)
    (ho : o.op = .call { callee := .builtin .clear, args := #[d], argTypes := #[t] }) {e : TypeId} {z : Value} {s bytes : Nat} (E : El P t e z s bytes) {g off n c : Nat} {cur : List Value} {et : TypeId}
    (hd : a.eval d = .slice (some ⟨g, off, none⟩) n c) (hg : Bk w g cur et) (h1 : ∀ v ∈ z.cells, v.oneCell' = true) (hfit : off + n * s ≤ cur.length)
    (h : ∀ w' cur', Bk w' g cur' et → cur'.length = cur.length → cur'.take off = cur.take off → w.grownBy w' (some g) → w'.heap.size = w.heap.size → K (a.put o.dst (.tuple #[])) w') : o.wp P a w K Q := by
  rcases Nat.eq_zero_or_pos n with rfl | hn
  · have hr := run_clear_none (P := P) (w := w) (ty := o.type) (c := c) (A := some ⟨g, off, none⟩) E
    unfold Oper.wp execOp
    simp only [ho, resolve, invoke, builtin, Sem.run_bind, Sem.run_pure, Result.andThen_ok, List.map_toArray, List.map_cons, List.map_nil, hd, hr]
    exact h _ _ hg rfl rfl ⟨rfl, rfl, rfl, Nat.le_refl _, fun _ _ _ => rfl⟩ rfl
  · have hr := run_clear_blk (P := P) (ty := o.type) (c := c) E hg h1 hn hfit
    unfold Oper.wp execOp
    simp only [ho, resolve, invoke, builtin, Sem.run_bind, Sem.run_pure, Result.andThen_ok, List.map_toArray, List.map_cons, List.map_nil, hd, hr]
    have hz := zeros_len E.cells n
    refine h _ _ hg.setRow (splice_length _ _ _ (by rw [hz]; exact hfit)) ?_ (setRow_grown _ _ _) (by simp [World.setRow])
    unfold splice
    rw [List.take_append_of_le_length (by simp; omega), List.take_take, Nat.min_self]
theorem wpList_clr {w : World} {ops : Array Oper} {rest : List Oper} {o : Oper} {a : Act} {Q : Exit → Act → World → Prop} (hgd : o.guard = none) (d : Operand) (t : TypeId)
    (ho : o.op = .call { callee := .builtin .clear, args := #[d], argTypes := #[t] }) {e : TypeId} {z : Value} {s bytes : Nat} (E : El P t e z s bytes) {g off n c : Nat} {cur : List Value} {et : TypeId}
    (hd : a.eval d = .slice (some ⟨g, off, none⟩) n c) (hg : Bk w g cur et) (h1 : ∀ v ∈ z.cells, v.oneCell' = true) (hfit : off + n * s ≤ cur.length)
    (h : ∀ w' cur', Bk w' g cur' et → cur'.length = cur.length → cur'.take off = cur.take off → w.grownBy w' (some g) → w'.heap.size = w.heap.size → wpList P ops Q rest (a.put o.dst (.tuple #[])) w') : wpList P ops Q (o :: rest) a w :=
  wpList_plain hgd fun _ hK => wp_clr d t ho E hd hg h1 hfit fun w' cur' h2 h3 h4 h5 h6 => hK _ _ (h w' cur' h2 h3 h4 h5 h6)
theorem wpList_atclr {ops : Array Oper} {rest : List Oper} {d : Option Tmp} {args : Array Operand} {ts : Array TypeId} {ty : TypeId} {pos : String} {af : Array Edge} {g : Option (Nat × Bool)} {a : Act} {w : World} {Q : Exit → Act → World → Prop}
    (h : wpList P ops Q (⟨d, .call { callee := .builtin .clear, args := args, argTypes := ts }, ty, pos, af, g⟩ :: rest) a w) : wpList P ops Q (⟨d, .call { callee := .builtin .clear, args := args, argTypes := ts }, ty, pos, af, g⟩ :: rest) a w := h
end
end Go.Proofs.YtfoglgeiipafeaaDoor

/- slices.Delete of one element, at Entry: on a row of the call's own. -/
namespace Go.Proofs.YtfoglgeiipafeaaDoor
open Go.RowKit
theorem step_apr {P : Program} {w : World} {ops : Array Oper} {o : Oper} {a : Act} {K : Act → World → Prop} {Q : Exit → Act → World → Prop} {EE : Prop} (hgd : o.guard = none) (sv x : Operand) (t : TypeId)
    (ho : o.op = .call { callee := .builtin .append, args := #[sv, x], argTypes := #[t, t] }) {e : TypeId} {z : Value} {s bytes : Nat} (E : El P t e z s bytes) {g k c off m cc : Nat} {cur news : List Value} {et : TypeId}
    (hs : a.eval sv = .slice (some ⟨g, 0, none⟩) k c) (hx : a.eval x = .slice (some ⟨g, off, none⟩) m cc) (hg : Bk w g cur et) (hn : news.length = m * s) (hsrc : ∀ j v, news[j]? = some v → cur[off + j]? = some v)
    (hroom : k + m ≤ c) (hfit : k * s + news.length ≤ cur.length) (h1 : ∀ v ∈ news, v.oneCell' = true)
    (h : ∀ w', Bk w' g (splice cur (k * s) news) et → w.grownBy w' (some g) → w'.heap.size = w.heap.size → K (a.put o.dst (.slice (some ⟨g, 0, none⟩) (k + m) c)) w') : if Region.wanted o (yielded ops a.tmps) = true then Oper.wp P o a w K Q else EE := by
  obtain ⟨i, hi, _, hsz, _⟩ := info_of E.info
  refine step_append_room hgd sv x t ho e i s E.slice hi hsz g 0 k c hs ⟨g, off, none⟩ m cc news hx hn (fun j u hu => ?_) h1 hroom (fun j hj => ?_) ?_
  · rw [Addr.add_lit, hg.cell]
    exact hsrc j u hu
  · rw [Nat.zero_add, hg.cell, hg.frozen]
    refine ⟨?_, rfl⟩
    rw [List.getElem?_eq_getElem (by omega)]
    rfl
  · rw [Nat.zero_add]
    refine h _ (hg.puts news (k * s) hfit) (grownBy_setCells g news (k * s) w) ?_
    have key : ∀ (vs : List Value) (o : Nat) (w : World), (w.setCells g o vs).heap.size = w.heap.size := by
      intro vs
      induction vs with
      | nil => intro o w; rfl
      | cons v r ih => intro o w; rw [World.setCells, ih]; simp [World.setCell]
    exact key _ _ _
theorem drop_rows {α : Type} {f : α → List Value} {s : Nat} {l : List α} (hf : ∀ x ∈ l, (f x).length = s) (k : Nat) : (l.flatMap f).drop (k * s) = (l.drop k).flatMap f := by
  rcases Nat.lt_or_ge l.length k with h | h
  · rw [List.drop_eq_nil_of_le (by rw [flatMap_length hf]; exact Nat.mul_le_mul_right s (by omega)), List.drop_eq_nil_of_le (by omega)]
    rfl
  · have e : l.flatMap f = (l.take k).flatMap f ++ (l.drop k).flatMap f := by rw [← List.flatMap_append, List.take_append_drop]
    rw [e, ← show ((l.take k).flatMap f).length = k * s from by rw [flatMap_length (fun x hx => hf x (List.mem_of_mem_take hx)), List.length_take, Nat.min_eq_left h], List.drop_left]
theorem take_rows2 {α : Type} {f : α → List Value} {s : Nat} {l : List α} (hf : ∀ x ∈ l, (f x).length = s) {k : Nat} (h : k ≤ l.length) (J : List Value) : (l.flatMap f ++ J).take (k * s) = (l.take k).flatMap f := by
  have e : l.flatMap f = (l.take k).flatMap f ++ (l.drop k).flatMap f := by rw [← List.flatMap_append, List.take_append_drop]
  rw [e, List.append_assoc, ← show ((l.take k).flatMap f).length = k * s from by rw [flatMap_length (fun x hx => hf x (List.mem_of_mem_take hx)), List.length_take, Nat.min_eq_left h], List.take_left]
end Go.Proofs.YtfoglgeiipafeaaDoor

/- made by geninst.py from XT5.src -/
namespace Go.Proofs.YtfoglgeiipafeaaDoor
open Go.RowKit
end Go.Proofs.YtfoglgeiipafeaaDoor

/- Regions that draw their order, whose operations read, and whose calls leave the memory as it was but for what they made anew: the lexical walk serves every order. -/
namespace Go.Proofs.YtfoglgeiipafeaaDoor
open Go.RowKit
/-- how memory has grown: one datum, that a simp does not take apart -/
structure Grn where
  ext : Array Obj
  d : Nat
instance : Nonempty Grn := ⟨⟨#[], 0⟩⟩
theorem grow_nil (W : World) (d : Nat) : grow W #[] d = { W with drawn := d } := by simp [grow]
theorem wp_region_grow {P : Program} {id : Nat} {Q : Exit → Act → World → Prop} {a : Act} {w : World} {l : List Oper} (hm : P.follows .mixedOrders = true) (hB : Region.lexB .any l.toArray = true)
    (h : wpQuiet P l.toArray (fun w' => ∃ p : Grn, w' = grow w p.ext p.d) (fun a' => ∀ w', (∃ p : Grn, w' = grow w p.ext p.d) → Q .normal a' w') l a) : (Code.region id l.toArray true).wp P Q a w :=
  wp_region_quiet (C := fun w' => ∃ p : Grn, w' = grow w p.ext p.d) hm hB ⟨⟨#[], w.drawn + 1⟩, (grow_nil w _).symm⟩ (by simpa using h)
/-- a contract that lets memory grow, met in such a region -/
theorem Calls.grow_of {P : Program} {f : FuncId} {args : Array Value} {w : World} {p : Grn} {v : Value}
    (h : Calls P f args (grow w p.ext p.d) fun e w' => e = .returned v ∧ Below (grow w p.ext p.d).heap.size (grow w p.ext p.d) w') : Calls P f args (grow w p.ext p.d) fun e w'' => e = .returned v ∧ ∃ p : Grn, w'' = grow w p.ext p.d :=
  h.mono fun _ _ ⟨he, hb⟩ => ⟨he, by
    obtain ⟨ext, d, h⟩ := Below.grown_eq w (Below.own (Below.grow w p.ext p.d (Below.refl _ _) (Nat.le_refl _)) hb)
    exact ⟨⟨ext, d⟩, h⟩⟩
theorem Calls.grow_of_same {P : Program} {f : FuncId} {args : Array Value} {w : World} {p : Grn} {v : Value}
    (h : Calls P f args (grow w p.ext p.d) fun e w' => e = .returned v ∧ w' = grow w p.ext p.d) : Calls P f args (grow w p.ext p.d) fun e w'' => e = .returned v ∧ ∃ p : Grn, w'' = grow w p.ext p.d :=
  h.mono fun _ _ ⟨he, hb⟩ => ⟨he, p, hb⟩
/-! a cut inside such a walk: the scratch slots from lo on are forgotten, but for the last of them, that holds a Bool -/
def junk : Nat → Nat → (Nat → Value) → List Value
  | 0, _, _ => []
  | n + 1, i, m => m i :: junk n (i + 1) m
theorem junk_get (m : Nat → Value) : ∀ (n i k : Nat), (junk n i m)[k]? = if k < n then some (m (i + k)) else none
  | 0, i, k => by simp [junk]
  | n + 1, i, 0 => by simp [junk]
  | n + 1, i, k + 1 => by
    unfold junk
    rw [List.getElem?_cons_succ, junk_get m n (i + 1) k]
    by_cases h : k < n
    · rw [if_pos h, if_pos (by omega), show i + 1 + k = i + (k + 1) from by omega]
    · rw [if_neg h, if_neg (by omega)]
theorem junk_of (l : List Value) : junk l.length 0 (fun i => l.getD i undef) = l := by
  apply List.ext_getElem?
  intro k
  rw [junk_get]
  by_cases h : k < l.length
  · rw [if_pos h, Nat.zero_add, List.getD_eq_getElem?_getD, List.getElem?_eq_getElem h]
    rfl
  · rw [if_neg h, List.getElem?_eq_none (by omega)]
theorem act_of {a' : Act} {L : List Value} {ds : List Deferred} {lo len : Nat} {v : Value} (h0 : a'.defers = ds) (h1 : a'.tmps.toList.take lo = L.take lo) (h2 : a'.tmps.toList.drop (lo + len + 1) = L.drop (lo + len + 1)) (h3 : a'.tmps.toList[lo + len]? = some v) :
    ∃ m, a' = ⟨(L.take lo ++ (junk len 0 m ++ v :: L.drop (lo + len + 1))).toArray, ds⟩ := by
  have hlt := (List.getElem?_eq_some_iff.1 h3).1
  refine ⟨fun i => ((a'.tmps.toList.drop lo).take len).getD i undef, ?_⟩
  have hj := junk_of ((a'.tmps.toList.drop lo).take len)
  rw [List.length_take, List.length_drop, Nat.min_eq_left (by omega)] at hj
  rw [hj, ← h1, ← h2]
  have e1 : v :: a'.tmps.toList.drop (lo + len + 1) = a'.tmps.toList.drop (lo + len) := by
    rw [List.drop_eq_getElem_cons hlt]
    congr 1
    rw [List.getElem?_eq_getElem hlt] at h3
    injection h3 with h3
    exact h3.symm
  have e2 : (a'.tmps.toList.drop lo).take len ++ a'.tmps.toList.drop (lo + len) = a'.tmps.toList.drop lo := by
    rw [← List.drop_drop, List.take_append_drop]
  rw [e1, e2, List.take_append_drop]
  cases a'
  subst h0
  simp
section
variable {P : Program} {ops : Array Oper} {C : World → Prop}
theorem wpQuiet_two {Q R : Act → Prop} : ∀ (l1 l2 : List Oper) (a : Act), wpQuiet P ops C R l1 a → (∀ a', R a' → wpQuiet P ops C Q l2 a') → wpQuiet P ops C Q (l1 ++ l2) a
  | [], l2, a, h1, h2 => h2 a h1
  | o :: l1, l2, a, h1, h2 => by
    rw [List.cons_append]
    unfold wpQuiet at h1 ⊢
    split
    · rename_i hw
      rw [if_pos hw] at h1
      exact Oper.quiet_mono (fun a h => wpQuiet_two l1 l2 a h h2) h1
    · rename_i hw
      rw [if_neg hw] at h1
      exact wpQuiet_two l1 l2 _ h1 h2
theorem wpQuiet_cut {Q : Act → Prop} {l : List Oper} {L : List Value} {ds : List Deferred} (n lo len : Nat) (v : Bool)
    (h1 : wpQuiet P ops C (fun a' => a'.defers = ds ∧ a'.tmps.toList.take lo = L.take lo ∧ a'.tmps.toList.drop (lo + len + 1) = L.drop (lo + len + 1) ∧ a'.tmps.toList[lo + len]? = some (.bool v)) (l.take n) ⟨L.toArray, ds⟩)
    (h2 : ∀ m b, Hid (v = b) → wpQuiet P ops C Q (l.drop n) ⟨(L.take lo ++ (junk len 0 m ++ .bool b :: L.drop (lo + len + 1))).toArray, ds⟩) : wpQuiet P ops C Q l ⟨L.toArray, ds⟩ := by
  rw [← List.take_append_drop n l]
  refine wpQuiet_two _ _ _ h1 (fun a' h => ?_)
  obtain ⟨m, e⟩ := act_of h.1 h.2.1 h.2.2.1 h.2.2.2
  rw [e]
  exact h2 m v (Lib.hid rfl)
end
end Go.Proofs.YtfoglgeiipafeaaDoor

/- The hand of package tree: a tree that is its own, in a block, and its rows. -/
namespace Go.Proofs.YtfoglgeiipafeaaDoor
open Go.RowKit Go.ChangeShapes Go.WideShapes Go.ChangeAt
theorem Bk.far {w : World} {g g2 j : Nat} {cs : List Value} {t : TypeId} {v : Value} (h : Bk w g cs t) (hne : g ≠ g2) : Bk (w.setCell ⟨g2, j, none⟩ v) g cs t := h.grown (grownBy_setCell w g2 j v) (by simpa using hne)
section
variable {α : Type} {f : α → List Value} {s : Nat} {e : TypeId} {w : World} {B : Nat} {v : Value} {l : List α}
theorem Ow.far2 (h : Ow f s e w B v l) {g j : Nat} {u : Value} (hne : v.ownBlock ≠ some g) : Ow f s e (w.setCell ⟨g, j, none⟩ u) B v l := h.kept (grownBy_setCell w g j u) (.inr hne)
theorem flatMap_set1 {x x' : α} {j : Nat} {u : Value} (J : List Value) (hj : j < s) (hx' : f x' = (f x).set j u) : ∀ (l : List α) (k : Nat), (∀ x ∈ l, (f x).length = s) → l[k]? = some x → (l.flatMap f ++ J).set (k * s + j) u = (l.set k x').flatMap f ++ J
  | [], k, _, h => by simp at h
  | y :: l, 0, hf, h => by
    simp at h
    subst h
    have hy := hf y (by simp)
    rw [Nat.zero_mul, Nat.zero_add, List.flatMap_cons, List.append_assoc, List.set_append_left _ _ (by omega), List.set_cons_zero, List.flatMap_cons, hx', List.append_assoc]
  | y :: l, k + 1, hf, h => by
    have hy := hf y (by simp)
    have ih := flatMap_set1 J hj hx' l k (fun x hx => hf x (by simp [hx])) (by simpa using h)
    rw [List.flatMap_cons, List.append_assoc, List.set_append_right _ _ (by rw [hy, Nat.succ_mul]; omega), hy, show (k + 1) * s + j - s = k * s + j from by rw [Nat.succ_mul]; omega, ih, List.set_cons_succ, List.flatMap_cons, List.append_assoc]
/-- one cell of an element of an owned row is written -/
theorem Ow.cell1 {g n c : Nat} (h : Ow f s e w B (.slice (some ⟨g, 0, none⟩) n c) l) {k j o : Nat} {x x' : α} {u : Value} (hx : l[k]? = some x) (hj : j < s) (ho : o = k * s + j) (hx' : f x' = (f x).set j u) :
    Ow f s e (w.setCell ⟨g, o, none⟩ u) B (.slice (some ⟨g, 0, none⟩) n c) (l.set k x') := by
  subst ho
  have hk := (List.getElem?_eq_some_iff.1 hx).1
  have hnl : n = l.length := by obtain ⟨_, _, h, _⟩ := h.form; injection h
  obtain ⟨g', J, hg, hB, hb, hl, hn, hc, _⟩ := h.blk (by omega)
  injection hg with hg
  injection hg with hg
  subst hg
  have hset := flatMap_set1 J hj hx' l k h.2 hx
  have hlen : (l.set k x').length = n := by rw [List.length_set, hnl]
  have hff : ∀ y ∈ l.set k x', (f y).length = s := by
    intro y hy
    rcases List.mem_or_eq_of_mem_set hy with h' | rfl
    · exact h.2 y h'
    · rw [hx', List.length_set]
      exact h.2 x (List.mem_of_getElem? hx)
  have := Ow.of_blk (J := J) hff hB (hb.put (k * s + j) u) hset (by rw [List.length_set]; exact hl) (by omega) hc
  rw [hlen] at this
  exact this
end
/-- the cells of an element of an owned row -/
theorem Ow.at_cell {α : Type} {f : α → List Value} {s : Nat} {e : TypeId} {w : World} {B g n c : Nat} {l : List α} (h : Ow f s e w B (.slice (some ⟨g, 0, none⟩) n c) l) {k j o : Nat} {x : α} {u : Value} (hx : l[k]? = some x) (hu : (f x)[j]? = some u) (ho : o = k * s + j) : w.cell? ⟨g, o, none⟩ = some u ∧ w.frozen? ⟨g, o, none⟩ = false := by
  subst ho
  have hk := (List.getElem?_eq_some_iff.1 hx).1
  have hnl : n = l.length := by obtain ⟨_, _, h, _⟩ := h.form; injection h
  obtain ⟨g', J, hg, hB, hb, hl, hn, hc, _⟩ := h.blk (by omega)
  injection hg with hg
  injection hg with hg
  subst hg
  refine ⟨?_, hb.frozen _⟩
  rw [hb.cell]
  have h1 := flatMap_get h.2 hx hu
  rw [List.getElem?_append_left (List.getElem?_eq_some_iff.1 h1).1]
  exact h1
abbrev txnV (t : Txn) : Value := .agg #[.int .i64 t.zxid, .int .i64 t.op, .int .i64 t.session, .string t.path, .string t.data, .int .i64 t.version, .int .i64 t.owner]
theorem Below.set_up {B : Nat} {w w1 : World} {g o : Nat} {v : Value} (h : Below B w w1) (hg : B ≤ g) : Below B w (w1.setCell ⟨g, o, none⟩ v) := h.setCell hg v
theorem Below.grown_up {B : Nat} {w w1 w2 : World} {row : Option Nat} (h : Below B w w1) (hB : B ≤ w1.heap.size) (hg : w1.grownBy w2 row) (hr : ∀ q, row = some q → B ≤ q) : Below B w w2 := by
  obtain ⟨g1, g2, g3, g4, g5⟩ := hg
  refine h.trans ⟨g1, g2, g3, g4, fun k hk => g5 k (by omega) ?_⟩
  cases row with
  | none => simp
  | some q => have := hr q rfl; simp; omega
end Go.Proofs.YtfoglgeiipafeaaDoor

/- package tree: lacks. -/
namespace Go.Proofs.YtfoglgeiipafeaaDoor
open Go.RowKit Go.ChangeShapes Go.WideShapes Go.ChangeAt
def lacksX (l : List Node) (x : Txn) (th : Int) : Int := if th = 0 then 8 else if hasN l (parent x.path) then (if (getN l (parent x.path)).owner ≠ 0 then 11 else if x.owner ≠ 0 ∧ x.owner ≠ x.session then 12 else if 400 ≤ l.length then 6 else 0) else 7
theorem lacks_is (t : Tr) (x : Txn) : lacksX t.nodes x (getE t.nodes x.path) = lacksE t x := by
  unfold lacksX lacksE getE
  cases hasN t.nodes x.path <;> rfl
end Go.Proofs.YtfoglgeiipafeaaDoor

/- package tree: Kids. -/
namespace Go.Proofs.YtfoglgeiipafeaaDoor
open Go.RowKit Go.ChangeShapes Go.WideShapes Go.ChangeAt
theorem kidsL_nil (p : ByteArray) : kidsL [] p = [] := rfl
theorem kidsL_step {l : List Node} {k : Nat} {x : Node} (h : l[k]? = some x) (p : ByteArray) : kidsL (l.take (k + 1)) p = kidsL (l.take k) p ++ (if kidB p x then [(splitR x.path).2.1] else []) := by
  unfold kidsL
  rw [List.take_add_one, h]
  simp only [Option.toList_some, List.filter_append, List.map_append]
  by_cases hk : kidB p x = true
  · rw [if_pos hk, List.filter_cons_of_pos hk]; rfl
  · rw [if_neg hk, List.filter_cons_of_neg hk]; rfl
theorem kidsL_le (l : List Node) (p : ByteArray) : (kidsL l p).length ≤ l.length := by
  unfold kidsL
  rw [List.length_map]
  exact List.length_filter_le _ _
/-- what Kids answers -/
def kidsR (l : List Node) (p : ByteArray) : List ByteArray := if hasN l p then kidsL l p else []
def KidsRes (l : List Node) (p : ByteArray) (w : World) (e : Ending) (w' : World) : Prop := ∃ A c, e = .returned (.tuple #[.slice A (kidsR l p).length c, .int .i64 (getE l p)]) ∧ Ow cStr 1 9 w' w.heap.size (.slice A (kidsR l p).length c) (kidsR l p) ∧ Below w.heap.size w w'
end Go.Proofs.YtfoglgeiipafeaaDoor

/- slices.BinarySearch at []int. -/
namespace Go.Proofs.YtfoglgeiipafeaaDoor
open Go.RowKit
theorem Sl.Int_at {w : World} {A : Option Addr} {n c : Nat} {l : List Int} (h : Sl cInt 1 w (.slice A n c) l) {i : Nat} {x : Int} (hx : l[i]? = some x) : ∃ b off, A = some ⟨b, off, none⟩ ∧ b < w.heap.size ∧ w.cell? ⟨b, off + i, none⟩ = some (.int .i64 x) := by
  obtain ⟨b, off, hA, hb, hc⟩ := h.at_ hx
  have := hc 0 (.int .i64 x) rfl
  rw [show off + i * 1 + 0 = off + i from by omega] at this
  exact ⟨b, off, hA, hb, this⟩
set_option maxHeartbeats 1000000 in
theorem bsI (v : Value) (l : List Int) (s : Int) (w : World) (h : Sl cInt 1 w v l) (hn : l.length ≤ 140737488355328) :
    Calls Tryd.prog 29 #[v, .int .i64 s] w fun e w' => e = .returned (.tuple #[.int .i64 (posI l s), .bool (isI l s)]) ∧ Below w.heap.size w w' := by
  obtain ⟨A, c, rfl, hc1, hc2⟩ := h.form
  have H := Lib.hid h
  clear h
  go_enter Tryd.func29, Tryd.ntmps29
  go_wp2
  go_loopw [7, 8] (fun i j wr => ∃ (a b : Nat), a ≤ b ∧ b ≤ l.length ∧ i = .int .i64 a ∧ j = .int .i64 b ∧ Hid (bsr (ltI l s) a b = posI l s) ∧ Below w.heap.size w wr) (fun i j _ => (intOf j - intOf i).toNat)
  case atStart => exact ⟨0, l.length, Nat.zero_le _, Nat.le_refl _, rfl, rfl, (rfl : bsr (ltI l s) 0 l.length = posI l s), Below.refl _ _⟩
  case round =>
    obtain ⟨a, b, hab, hbl, rfl, rfl, hr, hb⟩ := hrel
    by_cases hlt : a < b
    · have hx : l[(a + b) / 2]? = some (l[(a + b) / 2]'(by omega)) := List.getElem?_eq_getElem _
      obtain ⟨bk, off, rfl, hbw, c0⟩ := (H.out.below hb).Int_at hx
      generalize hxe : l[(a + b) / 2]'(by omega) = x at hx c0
      have HX := Lib.hid hx
      clear hx hxe
      by_cases hlt2 : x < s
      · have hd : decide (x < s) = true := decide_eq_true hlt2
        go_wp2_with (go_at_call 36; refine (Tryd.cmp_Less_int2 _ _ _).mono ?_; rintro e w1 ⟨rfl, rfl⟩; skip)
        have hcmp := ltI_of HX.out s
        go_roundw
        case rel => exact ⟨(a + b) / 2 + 1, b, by omega, by omega, by go_num, rfl, Eq.trans (bsr_up _ _ _ hlt (by rw [hcmp]; exact hd)).symm hr.out, (by repeat (first | exact Below.refl _ _ | assumption | refine Below.drew ?_ | refine Below.drewN' ?_ _ | refine below_grow0 _ _ ?_ | refine below_alloc0 _ ?_ | refine Below.alloc ?_ (by first | omega | (simp; done) | (simp; omega)) _ | refine Below.setCell ?_ (by first | omega | (simp; done) | (simp; omega)) _ | refine Below.grow _ _ _ ?_ (by first | omega | (simp; done) | (simp; omega))))⟩
        case measure => simp [intOf]; omega
      · have hd : decide (x < s) = false := decide_eq_false hlt2
        go_wp2_with (go_at_call 36; refine (Tryd.cmp_Less_int2 _ _ _).mono ?_; rintro e w1 ⟨rfl, rfl⟩; skip)
        have hcmp := ltI_of HX.out s
        go_roundw
        case rel => exact ⟨a, (a + b) / 2, by omega, by omega, rfl, by go_num, Eq.trans (bsr_down _ _ _ hlt (by rw [hcmp]; exact hd)).symm hr.out, (by repeat (first | exact Below.refl _ _ | assumption | refine Below.drew ?_ | refine Below.drewN' ?_ _ | refine below_grow0 _ _ ?_ | refine below_alloc0 _ ?_ | refine Below.alloc ?_ (by first | omega | (simp; done) | (simp; omega)) _ | refine Below.setCell ?_ (by first | omega | (simp; done) | (simp; omega)) _ | refine Below.grow _ _ _ ?_ (by first | omega | (simp; done) | (simp; omega))))⟩
        case measure => simp [intOf]; omega
    · obtain rfl : a = b := by omega
      have hpos : posI l s = a := by rw [← hr.out]; exact bsr_end _ _ _ hlt
      have HP := Lib.hid hpos
      clear hpos hr
      by_cases han : a < l.length
      · have hx : l[a]? = some (l[a]'(by omega)) := List.getElem?_eq_getElem _
        obtain ⟨bk, off, rfl, hbw, c0⟩ := (H.out.below hb).Int_at hx
        generalize hxe : l[a]'(by omega) = x at hx c0
        have HX := Lib.hid hx
        clear hx hxe
        by_cases he : x = s
        · subst he
          go_wp2_with (go_at_call 37; refine (Tryd.slices_isNaN_int2 _ _).mono ?_; rintro e w1 ⟨rfl, rfl⟩; skip)
          go_ret2
          refine ⟨?_, (by repeat (first | exact Below.refl _ _ | assumption | refine Below.drew ?_ | refine Below.drewN' ?_ _ | refine below_grow0 _ _ ?_ | refine below_alloc0 _ ?_ | refine Below.alloc ?_ (by first | omega | (simp; done) | (simp; omega)) _ | refine Below.setCell ?_ (by first | omega | (simp; done) | (simp; omega)) _ | refine Below.grow _ _ _ ?_ (by first | omega | (simp; done) | (simp; omega))))⟩
          rw [isI_in HP.out HX.out, HP.out]
          simp
        · have hne : (x == s) = false := beq_eq_false_iff_ne.2 he
          go_wp2_with (go_at_call 37; refine (Tryd.slices_isNaN_int2 _ _).mono ?_; rintro e w1 ⟨rfl, rfl⟩; skip)
          go_ret2
          refine ⟨?_, (by repeat (first | exact Below.refl _ _ | assumption | refine Below.drew ?_ | refine Below.drewN' ?_ _ | refine below_grow0 _ _ ?_ | refine below_alloc0 _ ?_ | refine Below.alloc ?_ (by first | omega | (simp; done) | (simp; omega)) _ | refine Below.setCell ?_ (by first | omega | (simp; done) | (simp; omega)) _ | refine Below.grow _ _ _ ?_ (by first | omega | (simp; done) | (simp; omega))))⟩
          rw [isI_in HP.out HX.out, HP.out, decide_eq_false he]
          rfl
      · go_wp2
        go_ret2
        refine ⟨?_, (by repeat (first | exact Below.refl _ _ | assumption | refine Below.drew ?_ | refine Below.drewN' ?_ _ | refine below_grow0 _ _ ?_ | refine below_alloc0 _ ?_ | refine Below.alloc ?_ (by first | omega | (simp; done) | (simp; omega)) _ | refine Below.setCell ?_ (by first | omega | (simp; done) | (simp; omega)) _ | refine Below.grow _ _ _ ?_ (by first | omega | (simp; done) | (simp; omega))))⟩
        rw [isI_out HP.out han, HP.out]
        rfl
theorem trOpen (z : Int) (v2 : Value) (na : Option Addr) (nn nc : Nat) (l : List Int) (s : Int) (w : World) (h : Sl cInt 1 w v2 l) (hn : l.length ≤ 140737488355328) :
    Calls Tryd.prog 21 #[.agg #[.int .i64 z, .slice na nn nc, v2], .int .i64 s] w fun e w' => e = .returned (.bool (isI l s)) ∧ Below w.heap.size w w' := by
  obtain ⟨A, c, rfl, h1, h2⟩ := h.form
  have H := Lib.hid h
  clear h
  go_enter Tryd.func21, Tryd.ntmps21
  go_wp2_with (go_at_call 29; refine (bsI _ _ _ _ (H.out.alloc _) hn).mono ?_; rintro e w1 ⟨rfl, hb⟩; obtain ⟨ext, d, rfl⟩ := Below.grown_eq _ hb)
  go_ret
  exact ⟨rfl, (by repeat (first | exact Below.refl _ _ | assumption | refine Below.drew ?_ | refine Below.drewN' ?_ _ | refine below_grow0 _ _ ?_ | refine below_alloc0 _ ?_ | refine Below.alloc ?_ (by first | omega | (simp; done) | (simp; omega)) _ | refine Below.setCell ?_ (by first | omega | (simp; done) | (simp; omega)) _ | refine Below.grow _ _ _ ?_ (by first | omega | (simp; done) | (simp; omega))))⟩
end Go.Proofs.YtfoglgeiipafeaaDoor

/- A map of counts, that is the function's own. -/
namespace Go.Proofs.YtfoglgeiipafeaaDoor
open Go.RowKit Go.Maps
/-- the block b holds a map of at most n keys, that counts c -/
def Cnt (w : World) (b n : Nat) (c : ByteArray → Int) : Prop := ∃ D : DataW Unit, w.ownsMap Tryd.prog 9 (plainElem Tryd.prog 3) b n D ∧ ∀ s : ByteArray, D.atKey (.string s.data.toList) (.lit (.int .i64 0)) = .lit (.int .i64 (c s))
theorem Cnt.made (w : World) : Cnt (w.alloc (.map #[] 0)) w.heap.size 0 (fun _ => 0) := ⟨.map [], World.ownsMap_made _ _ _ _, fun _ => rfl⟩
theorem Cnt.below {w w' : World} {b n : Nat} {c : ByteArray → Int} (h : Cnt w b n c) (hb : Below w.heap.size w w') : Cnt w' b n c := by
  obtain ⟨D, h, hc⟩ := h
  have hlt := h.lt
  obtain ⟨es, clock, h1, F, hs, hD⟩ := h
  exact ⟨D, ⟨es, clock, (hb.block b hlt).trans h1, F, hs, hD⟩, hc⟩
theorem wpList_cntget {w : World} {ops : Array Oper} {rest : List Oper} {o : Oper} {a : Act} {Q : Exit → Act → World → Prop} (hg : o.guard = none) (m x : Operand) (hop : o.op = Op.lookup 53 m x false) {b n : Nat} {c : ByteArray → Int}
    (hm : a.eval m = .map (some b)) (h : Cnt w b n c) (s : ByteArray) (hx : a.eval x = .string s) (hs : s.size ≤ maxLen) (hK : wpList Tryd.prog ops Q rest (a.put o.dst (.int .i64 (c s))) w) : wpList Tryd.prog ops Q (o :: rest) a w := by
  obtain ⟨D, ho, hc⟩ := h
  refine wpList_lookup_own_int w hg m x _ hop 9 3 .i64 (string_keyed Tryd.underlying9) Tryd.underlying53 Tryd.underlying3 (by kernel_rfl) b n D hm ho _ _ hx (Go.WideMaps.keyOf_string_mk Tryd.underlying9 hs) ?_
  intro q hq _
  have e := hq.symm.trans (hc s)
  injection e with e
  injection e with _ e
  subst e
  exact hK
theorem wpList_cntput {w : World} {ops : Array Oper} {rest : List Oper} {o : Oper} {a : Act} {Q : Exit → Act → World → Prop} (hg : o.guard = none) (m x v : Operand) (hop : o.op = Op.mapUpdate 53 m x v) {b n : Nat} {c : ByteArray → Int}
    (hm : a.eval m = .map (some b)) (h : Cnt w b n c) (hn : n < maxLen) (s : ByteArray) (hx : a.eval x = .string s) (hs : s.size ≤ maxLen) (q : Int) (hv : a.eval v = .int .i64 q) (hq : (Lit.int .i64 q).wf = true)
    (hK : ∀ w', Cnt w' b (n + 1) (fun z => if z = s then q else c z) → w.grownBy w' (some b) → wpList Tryd.prog ops Q rest (a.put o.dst undef) w') : wpList Tryd.prog ops Q (o :: rest) a w := by
  obtain ⟨D, ho, hc⟩ := h
  refine wpList_mapUpdate_own w hg m x v _ hop 9 3 (string_keyed Tryd.underlying9) Tryd.underlying53 _ b n D hm ho hn _ _ _ hx hv (Go.WideMaps.keyOf_string_mk Tryd.underlying9 hs) _ [] (plainElem_int Tryd.underlying3 hq) ?_
  intro w' ho' hg'
  refine hK w' ⟨_, ho', fun z => ?_⟩ hg'
  show (D.put (.string s.data.toList) (.lit (.int .i64 q))).atKey (.string z.data.toList) (.lit (.int .i64 0)) = .lit (.int .i64 (if z = s then q else c z))
  by_cases hz : z = s
  · subst hz
    rw [if_pos rfl, atKey_put_same ho.isMap (by trivial)]
  · rw [if_neg hz, atKey_put_other (by intro e; injection e with e; exact hz (ByteArray.ext (Array.toList_inj.1 e)))]
    exact hc z
end Go.Proofs.YtfoglgeiipafeaaDoor

/- package tree: Good. -/
namespace Go.Proofs.YtfoglgeiipafeaaDoor
open Go.RowKit Go.ChangeShapes Go.WideShapes Go.ChangeAt
abbrev sessB (t : Tr) : Bool := (List.range t.sess.length).all (okS t.sess)
abbrev nodesB (t : Tr) : Bool := (List.range t.nodes.length).all (okN t)
abbrev kidsB (t : Tr) : Bool := t.nodes.all (fun n => decide (n.kids = ((t.nodes.countP (kidB n.path) : Nat) : Int)))
theorem good_head {t : Tr} (h : headB t = false) : goodTree t = false := by unfold goodTree; rw [h]; rfl
theorem good_sess {t : Tr} (h : sessB t = false) : goodTree t = false := by unfold goodTree; rw [show (List.range t.sess.length).all (okS t.sess) = false from h, Bool.false_and, Bool.and_false]
theorem good_nodes {t : Tr} (h : nodesB t = false) : goodTree t = false := by unfold goodTree; rw [show (List.range t.nodes.length).all (okN t) = false from h, Bool.false_and, Bool.and_false, Bool.and_false]
theorem good_kids {t : Tr} (h : kidsB t = false) : goodTree t = false := by unfold goodTree; rw [show t.nodes.all (fun n => decide (n.kids = ((t.nodes.countP (kidB n.path) : Nat) : Int))) = false from h, Bool.and_false, Bool.and_false, Bool.and_false]
theorem good_all {t : Tr} (h1 : headB t = true) (h2 : sessB t = true) (h3 : nodesB t = true) (h4 : kidsB t = true) : goodTree t = true := by
  unfold goodTree
  rw [h1, show (List.range t.sess.length).all (okS t.sess) = true from h2, show (List.range t.nodes.length).all (okN t) = true from h3, show t.nodes.all (fun n => decide (n.kids = ((t.nodes.countP (kidB n.path) : Nat) : Int))) = true from h4]
  rfl
theorem all_no {n : Nat} {f : Nat → Bool} {k : Nat} (hk : k < n) (h : f k = false) : (List.range n).all f = false := by
  rw [Bool.eq_false_iff]
  intro ha
  rw [List.all_eq_true] at ha
  rw [ha k (List.mem_range.2 hk)] at h
  cases h
theorem all_yes {n : Nat} {f : Nat → Bool} (h : ∀ k, k < n → f k = true) : (List.range n).all f = true := List.all_eq_true.2 fun k hk => h k (List.mem_range.1 hk)
theorem all_yes_at {n : Nat} {f : Nat → Bool} (h : (List.range n).all f = true) {k : Nat} (hk : k < n) : f k = true := List.all_eq_true.1 h k (List.mem_range.2 hk)
theorem countP_step {l : List Node} {k : Nat} {x : Node} (h : l[k]? = some x) (q : ByteArray) : (l.take (k + 1)).countP (kidB q) = (l.take k).countP (kidB q) + (if kidB q x then 1 else 0) := by
  rw [List.take_add_one, h]
  simp [List.countP_append, List.countP_cons]
theorem not_less_of_cmp2 {a b : ByteArray} (h : ¬ cmpB a b < 0) : Op.bytesLess a.toList b.toList = false := by
  rw [ByteArray.toList_eq, ByteArray.toList_eq, less_of_cb]
  exact decide_eq_false h
theorem Cnt.mono {w : World} {b n m : Nat} {c : ByteArray → Int} (h : Cnt w b n c) (hn : n ≤ m) : Cnt w b m c := by
  obtain ⟨D, h, hc⟩ := h
  exact ⟨D, h.mono hn, hc⟩
theorem Cnt.lt {w : World} {b n : Nat} {c : ByteArray → Int} (h : Cnt w b n c) : b < w.heap.size := by
  obtain ⟨D, h, _⟩ := h
  exact h.lt
theorem Cnt.same {w : World} {b n : Nat} {c c' : ByteArray → Int} (h : Cnt w b n c) (hc : ∀ q, c' q = c q) : Cnt w b n c' := by
  rw [funext hc]
  exact h
theorem less_is (y : Node) (p : ByteArray) : Op.bytesLess y.path.toList p.toList = decide (cmpB y.path p < 0) := by
  rw [ByteArray.toList_eq, ByteArray.toList_eq, less_of_cb]
  rfl
theorem statB_q (z : Int) (xp xd : ByteArray) (xz xm xq xv xc xo xk : Int) : statB z ⟨xp, xd, xz, xm, xq, xv, xc, xo, xk⟩ =
    !(decide (xv < 0) || (decide (2147483647 < xv) || (decide (xc < 0) || (decide (2147483647 < xc) || (decide (xz < 0) || (decide (xm < xz) || (decide (xq < xz) || (decide (z < xm) || decide (z < xq))))))))) := by
  rw [Bool.eq_iff_iff]
  unfold statB
  simp only [decide_eq_true_eq, Bool.not_eq_true', Bool.or_eq_false_iff, decide_eq_false_iff_not]
  omega
theorem size_q (d : ByteArray) : decide (d.size ≤ 256) = !decide ((256 : Int) < (d.size : Int)) := by
  rw [Bool.eq_iff_iff]
  simp only [decide_eq_true_eq, Bool.not_eq_true', decide_eq_false_iff_not]
  omega
theorem ownB_q (ss : List Int) (xp xd : ByteArray) (xz xm xq xv xc xo xk : Int) : ownB ss ⟨xp, xd, xz, xm, xq, xv, xc, xo, xk⟩ = ((xo == 0) || (isI ss xo && (xk == 0))) := by
  unfold ownB
  rw [Bool.eq_iff_iff]
  simp
theorem gen_k {K : Act → World → Prop} {a : Act} {w : World} (h : ∀ W, Hid (W = w) → K a W) : K a w := h w (Lib.hid rfl)
theorem below_put {B b : Nat} {a X w2 : World} (h : Below B a X) (hB : B ≤ X.heap.size) (hb : B ≤ b) (hg : X.grownBy w2 (some b)) : Below B a w2 := by
  obtain ⟨g1, g2, g3, g4, g5⟩ := hg
  exact h.trans ⟨g1, g2, g3, g4, fun k hk => g5 k (by omega) (by simp; omega)⟩
theorem split_size (s : ByteArray) : (splitR s).1.size ≤ 200 := by
  unfold splitR
  by_cases h : goodP s = true
  · rw [if_pos h]
    have := (goodP_size h).2
    by_cases h2 : s = slash
    · rw [if_pos h2]
      show (0 : Nat) ≤ 200
      omega
    · rw [if_neg h2]
      by_cases h3 : lastP s = 0
      · rw [if_pos h3]
        show (1 : Nat) ≤ 200
        omega
      · rw [if_neg h3]
        show (s.extract 0 (lastP s)).size ≤ 200
        rw [ByteArray.size_extract]
        omega
  · rw [if_neg h]
    show (0 : Nat) ≤ 200
    omega
set_option maxRecDepth 100000 in
set_option maxHeartbeats 10000000 in
theorem trGood_head (z : Int) (v v2 : Value) (l : List Node) (ss : List Int) (w : World) (h : Sl cNode 9 w v l) (h2 : Sl cInt 1 w v2 ss) (hn : ss.length ≤ 140737488355328) (hh : headB ⟨z, l, ss⟩ = true) (hz : ∀ n ∈ l, n.path.size ≤ 9223372036854775807) :
    Calls Tryd.prog 10 #[.agg #[.int .i64 z, v, v2]] w fun e w' => e = .returned (.bool (goodTree ⟨z, l, ss⟩)) ∧ Below w.heap.size w w' := by
  obtain ⟨A, c, rfl, h1, h1b⟩ := h.form
  obtain ⟨A2, c2, rfl, h3, h3b⟩ := h2.form
  have H := Lib.hid h
  have H2 := Lib.hid h2
  have HG := Lib.hid (fun (W : World) (hz : Zx z) => zgood_yes z W hz)
  obtain ⟨hl4, hzx, n, hn0, hp, ho⟩ := head_inv hh
  have HF1 := Lib.hid (fun k (hk : k < ss.length) (h : okS ss k = false) => good_sess (t := ⟨z, l, ss⟩) (all_no hk h))
  have HF2 := Lib.hid (fun k (hk : k < l.length) (h : okN ⟨z, l, ss⟩ k = false) => good_nodes (t := ⟨z, l, ss⟩) (all_no hk h))
  have HF3 := Lib.hid (fun (h : kidsB ⟨z, l, ss⟩ = false) => good_kids (t := ⟨z, l, ss⟩) h)
  have HF4 := Lib.hid (fun (hs : ∀ k, k < ss.length → okS ss k = true) (hn : ∀ k, k < l.length → okN ⟨z, l, ss⟩ k = true) (hk : kidsB ⟨z, l, ss⟩ = true) => good_all hh (all_yes hs) (all_yes hn) hk)
  obtain ⟨bk, off, rfl, hbw, n0, n1, n2, n3, n4, n5, n6, n7, n8⟩ := h.Node_at hn0
  simp only [Nat.zero_mul, Nat.add_zero] at n0 n1 n2 n3 n4 n5 n6 n7 n8
  rw [hp] at n0
  rw [ho] at n7
  have hpp : (slash.toList == [47]) = true := by unfold slash; rw [ByteArray.toList_eq]; rfl
  have hm1 : 0 < l.length := (List.getElem?_eq_some_iff.1 hn0).1
  have hm0 : ((l.length : Int) == 0) = false := beq_eq_false_iff_ne.2 (by omega)
  have hm4 : decide ((400 : Int) < (l.length : Int)) = false := decide_eq_false (by omega)
  generalize goodTree ⟨z, l, ss⟩ = gt at *
  clear h h2 hh hn0 hp ho
  go_enter Tryd.func10, Tryd.ntmps10
  go_upto_region 3 with ((go_at_call 19; refine (HG.out _ hzx).mono ?_; rintro e w1 ⟨rfl, rfl⟩; skip))
  clear n0 n1 n2 n3 n4 n5 n6 n7 n8 HG
  go_wp2_with fail
  go_loopw [52] (fun i wr => ∃ k : Nat, k ≤ ss.length ∧ i = .int .i64 k ∧ Hid (∀ i, i < k → okS ss i = true) ∧ wr = w.alloc (.cells #[.int .i64 z, .slice (some ⟨bk, off, none⟩) l.length c, .slice A2 ss.length c2] 25)) (fun i _ => ss.length - (intOf i).toNat)
  case atStart => exact ⟨0, Nat.zero_le _, rfl, Lib.hid (fun i hi => absurd hi (Nat.not_lt_zero _)), rfl⟩
  case round =>
    obtain ⟨k, hk, rfl, hall, rfl⟩ := hrel
    by_cases hlt : k < ss.length
    · as_aux_lemma =>
      have hx : ss[k]? = some (ss[k]'hlt) := List.getElem?_eq_getElem _
      obtain ⟨b, o, rfl, hb, s0⟩ := (H2.out.below (w' := w.alloc (.cells #[.int .i64 z, .slice (some ⟨bk, off, none⟩) l.length c, .slice A2 ss.length c2] 25)) (by repeat (first | with_reducible exact Below.refl _ _ | with_reducible assumption | with_reducible exact below_d1 _ _ _ _ _ | with_reducible exact below_d2 _ _ _ _ _ _ _ _ | with_reducible exact below_d3 _ _ _ _ _ | with_reducible exact below_d4 _ _ _ _ _ _ _ _ | with_reducible exact below_d5 _ _ | with_reducible refine Below.drew ?_ | with_reducible refine Below.drewN' ?_ _ | with_reducible refine below_grow0 _ _ ?_ | with_reducible refine below_alloc0 _ ?_ | with_reducible refine Below.setCell ?_ ?_ _ | with_reducible refine Below.alloc ?_ ?_ _ | with_reducible refine Below.grow _ _ _ ?_ ?_ | omega | (simp; done) | (simp; omega)))).Int_at hx
      generalize ss[k]'hlt = s at *
      by_cases g1 : s < 1
      · have hbad : gt = false := HF1.out k hlt (by
          cases k with
          | zero => rw [okS_0 hx, decide_eq_false (by omega)]; rfl
          | succ j => rw [okS_s hx (List.getElem?_eq_getElem (by omega)), decide_eq_false (by omega)]; rfl)
        have hd : decide (s < 1) = true := decide_eq_true g1
        subst hbad
        clear hx g1
        go_wp2_with fail
        go_ret
        exact ⟨rfl, (by repeat (first | with_reducible exact Below.refl _ _ | with_reducible assumption | with_reducible exact below_d1 _ _ _ _ _ | with_reducible exact below_d2 _ _ _ _ _ _ _ _ | with_reducible exact below_d3 _ _ _ _ _ | with_reducible exact below_d4 _ _ _ _ _ _ _ _ | with_reducible exact below_d5 _ _ | with_reducible refine Below.drew ?_ | with_reducible refine Below.drewN' ?_ _ | with_reducible refine below_grow0 _ _ ?_ | with_reducible refine below_alloc0 _ ?_ | with_reducible refine Below.setCell ?_ ?_ _ | with_reducible refine Below.alloc ?_ ?_ _ | with_reducible refine Below.grow _ _ _ ?_ ?_ | omega | (simp; done) | (simp; omega)))⟩
      · have hd1 : decide (s < 1) = false := decide_eq_false g1
        by_cases g2 : 2147483647 < s
        · have hbad : gt = false := HF1.out k hlt (by
            cases k with
            | zero => rw [okS_0 hx, decide_eq_true (by omega), decide_eq_false (by omega)]; rfl
            | succ j => rw [okS_s hx (List.getElem?_eq_getElem (by omega)), decide_eq_true (by omega), decide_eq_false (by omega)]; rfl)
          have hd : decide (2147483647 < s) = true := decide_eq_true g2
          subst hbad
          clear hx g1 g2
          go_wp2_with fail
          go_ret
          exact ⟨rfl, (by repeat (first | with_reducible exact Below.refl _ _ | with_reducible assumption | with_reducible exact below_d1 _ _ _ _ _ | with_reducible exact below_d2 _ _ _ _ _ _ _ _ | with_reducible exact below_d3 _ _ _ _ _ | with_reducible exact below_d4 _ _ _ _ _ _ _ _ | with_reducible exact below_d5 _ _ | with_reducible refine Below.drew ?_ | with_reducible refine Below.drewN' ?_ _ | with_reducible refine below_grow0 _ _ ?_ | with_reducible refine below_alloc0 _ ?_ | with_reducible refine Below.setCell ?_ ?_ _ | with_reducible refine Below.alloc ?_ ?_ _ | with_reducible refine Below.grow _ _ _ ?_ ?_ | omega | (simp; done) | (simp; omega)))⟩
        · have hd2 : decide (2147483647 < s) = false := decide_eq_false g2
          cases k with
          | zero =>
            have hok := okS_0 hx
            rw [decide_eq_true (by omega), decide_eq_true (by omega)] at hok
            have HOK := Lib.hid hok
            simp only [Nat.add_zero] at s0
            clear hx g1 g2 hok
            go_wp2_with fail
            go_roundw
            case rel => exact ⟨1, by omega, by go_num, Lib.hid (fun i hi => (by omega : i = 0) ▸ HOK.out), by first | rfl | trivial⟩
            case measure => simp [intOf]; omega
          | succ j =>
            have hy : ss[j]? = some (ss[j]'(by omega)) := List.getElem?_eq_getElem _
            obtain ⟨b', o', hA', _, s1⟩ := (H2.out.below (w' := w.alloc (.cells #[.int .i64 z, .slice (some ⟨bk, off, none⟩) l.length c, .slice (some ⟨b, o, none⟩) ss.length c2] 25)) (by repeat (first | with_reducible exact Below.refl _ _ | with_reducible assumption | with_reducible exact below_d1 _ _ _ _ _ | with_reducible exact below_d2 _ _ _ _ _ _ _ _ | with_reducible exact below_d3 _ _ _ _ _ | with_reducible exact below_d4 _ _ _ _ _ _ _ _ | with_reducible exact below_d5 _ _ | with_reducible refine Below.drew ?_ | with_reducible refine Below.drewN' ?_ _ | with_reducible refine below_grow0 _ _ ?_ | with_reducible refine below_alloc0 _ ?_ | with_reducible refine Below.setCell ?_ ?_ _ | with_reducible refine Below.alloc ?_ ?_ _ | with_reducible refine Below.grow _ _ _ ?_ ?_ | omega | (simp; done) | (simp; omega)))).Int_at hy
            cases hA'
            generalize ss[j]'(by omega) = y at *
            have hok := okS_s hx hy
            rw [decide_eq_true (show 1 ≤ s by omega), decide_eq_true (show s ≤ 2147483647 by omega)] at hok
            have hwj : IntKind.i64.wrap ((j : Int) + 1 - 1) = (j : Int) := by unfold IntKind.wrap; simp [IntKind.signed, IntKind.bits]; omega
            have hjc : j < c2 := by omega
            have hj0 : decide (0 < (j : Int) + 1) = true := decide_eq_true (by omega)
            by_cases g3 : s ≤ y
            · have hbad : gt = false := HF1.out (j + 1) hlt (by rw [hok, decide_eq_false (by omega)]; rfl)
              have hd : decide (s ≤ y) = true := decide_eq_true g3
              subst hbad
              clear hx hy hok g1 g2 g3
              go_wp2_with fail
              go_ret
              exact ⟨rfl, (by repeat (first | with_reducible exact Below.refl _ _ | with_reducible assumption | with_reducible exact below_d1 _ _ _ _ _ | with_reducible exact below_d2 _ _ _ _ _ _ _ _ | with_reducible exact below_d3 _ _ _ _ _ | with_reducible exact below_d4 _ _ _ _ _ _ _ _ | with_reducible exact below_d5 _ _ | with_reducible refine Below.drew ?_ | with_reducible refine Below.drewN' ?_ _ | with_reducible refine below_grow0 _ _ ?_ | with_reducible refine below_alloc0 _ ?_ | with_reducible refine Below.setCell ?_ ?_ _ | with_reducible refine Below.alloc ?_ ?_ _ | with_reducible refine Below.grow _ _ _ ?_ ?_ | omega | (simp; done) | (simp; omega)))⟩
            · have hd : decide (s ≤ y) = false := decide_eq_false g3
              rw [decide_eq_true (show y < s by omega)] at hok
              have HOK := Lib.hid hok
              clear hx hy hok g1 g2 g3
              go_wp2_with fail
              go_roundw
              case rel => exact ⟨j + 1 + 1, by omega, by go_num, Lib.hid (fun i hi => by
                rcases Nat.lt_or_ge i (j + 1) with h | h
                · exact hall.out i h
                · obtain rfl : i = j + 1 := by omega
                  rw [HOK.out]; rfl), by first | rfl | trivial⟩
              case measure => simp [intOf]; omega
    · have hkl : k = ss.length := by omega
      subst hkl
      clear hk hlt
      have hmm := @run_makeMap Tryd.prog
      go_upto_region 10 with fail
      refine gen_w (fun W1 hW1 => ?_)
      have hb1 : Below w.heap.size w W1 := by rw [hW1.out]; exact (by repeat (first | with_reducible exact Below.refl _ _ | with_reducible assumption | with_reducible exact below_d1 _ _ _ _ _ | with_reducible exact below_d2 _ _ _ _ _ _ _ _ | with_reducible exact below_d3 _ _ _ _ _ | with_reducible exact below_d4 _ _ _ _ _ _ _ _ | with_reducible exact below_d5 _ _ | with_reducible refine Below.drew ?_ | with_reducible refine Below.drewN' ?_ _ | with_reducible refine below_grow0 _ _ ?_ | with_reducible refine below_alloc0 _ ?_ | with_reducible refine Below.setCell ?_ ?_ _ | with_reducible refine Below.alloc ?_ ?_ _ | with_reducible refine Below.grow _ _ _ ?_ ?_ | omega | (simp; done) | (simp; omega)))
      have kb0 : W1.cell? ⟨w.heap.size, 0, none⟩ = some (.int .i64 z) := by rw [hW1.out]; go_simp
      have kb1 : W1.cell? ⟨w.heap.size, 1, none⟩ = some (.slice (some ⟨bk, off, none⟩) l.length c) := by rw [hW1.out]; go_simp
      have kb2 : W1.cell? ⟨w.heap.size, 2, none⟩ = some (.slice A2 ss.length c2) := by rw [hW1.out]; go_simp
      have hsz1 : W1.heap.size = w.heap.size + 1 + 1 := by rw [hW1.out]; simp
      have HC1 : Hid (Cnt W1 (w.heap.size + 1) 0 (fun q => (((l.take 0).countP (kidB q) : Nat) : Int))) := Lib.hid (by rw [hW1.out]; have hq := Cnt.made (w.alloc (.cells #[.int .i64 z, .slice (some ⟨bk, off, none⟩) l.length c, .slice A2 ss.length c2] 25)); simpa using hq)
      clear hW1 hmm HF1
      go_wp2_with fail
      go_loopw [82] (fun i wr => ∃ k : Nat, k ≤ l.length ∧ i = .int .i64 k ∧ Hid (∀ i, i < k → okN ⟨z, l, ss⟩ i = true) ∧ Hid (Cnt wr (w.heap.size + 1) k (fun q => (((l.take k).countP (kidB q) : Nat) : Int))) ∧ Below (w.heap.size + 1) W1 wr) (fun i _ => l.length - (intOf i).toNat)
      case atStart => exact ⟨0, Nat.zero_le _, rfl, Lib.hid (fun i hi => absurd hi (Nat.not_lt_zero _)), HC1, Below.refl _ _⟩
      case round =>
        obtain ⟨k, hk, rfl, halln, hcn, hbx⟩ := hrel
        have hbwr : Below w.heap.size w wr := hb1.trans (hbx.mono (by omega))
        have kk0 := (hbx.cell (p := ⟨w.heap.size, 0, none⟩) (Nat.lt_succ_self _)).trans kb0
        have kk1 := (hbx.cell (p := ⟨w.heap.size, 1, none⟩) (Nat.lt_succ_self _)).trans kb1
        have kk2 := (hbx.cell (p := ⟨w.heap.size, 2, none⟩) (Nat.lt_succ_self _)).trans kb2
        have hmb := Cnt.lt hcn.out
        by_cases hlt : k < l.length
        · have hx : l[k]? = some (l[k]'hlt) := List.getElem?_eq_getElem _
          obtain ⟨bk', off', hA, _, c0, c1, c2', c3, c4, c5, c6, c7, c8⟩ := (H.out.below hbwr).Node_at hx
          cases hA
          have hmem := List.mem_of_getElem? hx
          have HPG := Lib.hid (fun (W : World) => good_any (l[k]'hlt).path W (hz _ hmem))
          have HSP := Lib.hid (fun (W : World) => split_any (l[k]'hlt).path W (hz _ hmem))
          have HOP := Lib.hid (fun (W : World) (h : Sl cInt 1 W (.slice A2 ss.length c2) ss) => trOpen z (.slice A2 ss.length c2) (some ⟨bk, off, none⟩) l.length c ss (l[k]'hlt).owner W h hn)
          have HFD := Lib.hid (fun (W : World) (h : Sl cNode 9 W (.slice (some ⟨bk, off, none⟩) l.length c) l) => trFind z (.slice (some ⟨bk, off, none⟩) l.length c) A2 ss.length c2 l (splitR (l[k]'hlt).path).1 W h (by omega))
          have hokk := okN_at (z := z) (ss := ss) hx
          have hcs := countP_step hx
          have hpsz := hz _ hmem
          generalize l[k]'hlt = x at *
          obtain ⟨xp, xd, xz, xm, xq, xv, xc, xo, xk⟩ := x
          simp only at *
          rw [size_q, statB_q, ownB_q] at hokk
          have HCS := Lib.hid hcs
          have HX := Lib.hid hx
          clear hx hmem hcs
          go_upto_region 14 with fail
          obtain ⟨okb, hokb⟩ : ∃ b, b = (goodP xp && (!decide ((256 : Int) < (xd.size : Int)) && (lessB l k ⟨xp, xd, xz, xm, xq, xv, xc, xo, xk⟩ && !(decide (xv < 0) || (decide (2147483647 < xv) || (decide (xc < 0) || (decide (2147483647 < xc) || (decide (xz < 0) || (decide (xm < xz) || (decide (xq < xz) || (decide (z < xm) || decide (z < xq)))))))))))) := ⟨_, rfl⟩
          have HOKK := Lib.hid (show okN ⟨z, l, ss⟩ k = (okb && (((xo == 0) || (isI ss xo && (xk == 0))) && (decide ((splitR xp).2.2 ≠ 0) || hasN l (splitR xp).1))) by rw [hokk, hokb]; simp only [Bool.and_assoc]; rfl)
          have HCQ := Lib.hid (fun q => show (l.take (k + 1)).countP (kidB q) = (l.take k).countP (kidB q) + (if (decide ((splitR xp).2.2 = 0) && decide ((splitR xp).1 = q)) = true then 1 else 0) from HCS.out q)
          have hsd := split_size xp
          obtain ⟨nb, hnb⟩ : ∃ b, b = !okb := ⟨_, rfl⟩
          clear hokk HCS
          go_cut [167] from 83 to 204 (fun s167 wx => s167 = .bool nb ∧ ∃ ext d, wx = grow ((wr.alloc (.cells #[.string xp, .string xd, .int .i64 xz, .int .i64 xm, .int .i64 xq, .int .i64 xv, .int .i64 xc, .int .i64 xo, .int .i64 xk] 45)).alloc (.cells #[.int .i64 xz, .int .i64 xm, .int .i64 xq, .int .i64 xv, .int .i64 xc, .int .i64 xo, .int .i64 xk] 43)) ext d)
          case first =>
            clear HOKK HCQ hsd HSP HOP HFD HF2 HF3 HF4 halln hcn HC1
            obtain ⟨gd, hgd⟩ : ∃ b, decide ((256 : Int) < (xd.size : Int)) = b := ⟨_, rfl⟩
            obtain ⟨q0, hq0⟩ : ∃ b, decide (xv < 0) = b := ⟨_, rfl⟩
            obtain ⟨q1, hq1⟩ : ∃ b, decide (2147483647 < xv) = b := ⟨_, rfl⟩
            obtain ⟨q2, hq2⟩ : ∃ b, decide (xc < 0) = b := ⟨_, rfl⟩
            obtain ⟨q3, hq3⟩ : ∃ b, decide (2147483647 < xc) = b := ⟨_, rfl⟩
            obtain ⟨q4, hq4⟩ : ∃ b, decide (xz < 0) = b := ⟨_, rfl⟩
            obtain ⟨q5, hq5⟩ : ∃ b, decide (xm < xz) = b := ⟨_, rfl⟩
            obtain ⟨q6, hq6⟩ : ∃ b, decide (xq < xz) = b := ⟨_, rfl⟩
            obtain ⟨q7, hq7⟩ : ∃ b, decide (z < xm) = b := ⟨_, rfl⟩
            obtain ⟨q8, hq8⟩ : ∃ b, decide (z < xq) = b := ⟨_, rfl⟩
            rw [hgd, hq0, hq1, hq2, hq3, hq4, hq5, hq6, hq7, hq8] at hokb
            obtain ⟨ng, hng⟩ : ∃ b, (!goodP xp) = b := ⟨_, rfl⟩
            rw [show goodP xp = !ng by rw [← hng, Bool.not_not]] at hokb
            have HOB := Lib.hid hokb
            have HNB := Lib.hid hnb
            clear hokb hnb
            -- REGION 14
            refine wp_region_grow (by as_aux_lemma => kernel_rfl) (by as_aux_lemma => kernel_rfl) ?_
            simp only [List.append]
            refine wpQuiet_cut 10 89 9 (ng || gd) ?hs0 ?hr0
            case hs0 =>
              as_aux_lemma =>
              simp only [List.take]
              repeat' (first | go_big_quiet_skip | (go_big_quiet_want; go_big_quiet_op; first | go_big_quiet_on | (apply Exists.intro; refine ⟨fun _ => ?hqg1, ?hqg2⟩; (case hqg1 => (go_at_call 20; refine Calls.grow_of (HPG.out _))); go_big_quiet_on)) | cases ng)
              all_goals exact wpQuiet_nil ⟨rfl, by kernel_rfl, by kernel_rfl, by kernel_rfl⟩
            intro m1 b1 hb1
            simp only [List.take, List.drop, junk, List.cons_append, List.nil_append, Nat.reduceAdd]
            refine wpQuiet_cut 16 89 25 (b1 || !lessB l k ⟨xp, xd, xz, xm, xq, xv, xc, xo, xk⟩) ?hs1 ?hr1
            case hs1 =>
              as_aux_lemma =>
              simp only [List.take]
              cases k with
              | zero =>
                simp only [Nat.zero_mul, Nat.add_zero] at c0 c1 c2' c3 c4 c5 c6 c7 c8
                repeat' (first | go_big_quiet_skip | (go_big_quiet_want; go_big_quiet_op; first | go_big_quiet_on | (apply Exists.intro; refine ⟨fun _ => ?hqg1, ?hqg2⟩; (case hqg1 => (go_at_call 20; refine Calls.grow_of (HPG.out _))); go_big_quiet_on)) | cases b1)
                all_goals exact wpQuiet_nil ⟨rfl, by kernel_rfl, by kernel_rfl, by kernel_rfl⟩
              | succ j =>
                have hy : l[j]? = some (l[j]'(by omega)) := List.getElem?_eq_getElem _
                obtain ⟨bk2, off2, hA2, _, y0, _⟩ := (H.out.below hbwr).Node_at hy
                cases hA2
                have hlb0 := lessB_s hy ⟨xp, xd, xz, xm, xq, xv, xc, xo, xk⟩
                generalize l[j]'(by omega) = y at *
                simp only at hlb0
                rw [← less_is] at hlb0
                rw [hlb0]
                have hwj : IntKind.i64.wrap ((j : Int) + 1 - 1) = (j : Int) := by unfold IntKind.wrap; simp [IntKind.signed, IntKind.bits]; omega
                have hj0 : decide (0 < (j : Int) + 1) = true := decide_eq_true (by omega)
                have hjc : j < l.length := by omega
                obtain ⟨ls, hls⟩ : ∃ b, (!Op.bytesLess y.path.toList xp.toList) = b := ⟨_, rfl⟩
                rw [hls]
                clear hlb0 hy HX
                repeat' (first | go_big_quiet_skip | (go_big_quiet_want; go_big_quiet_op; first | go_big_quiet_on | (apply Exists.intro; refine ⟨fun _ => ?hqg1, ?hqg2⟩; (case hqg1 => (go_at_call 20; refine Calls.grow_of (HPG.out _))); go_big_quiet_on)) | cases b1)
                all_goals exact wpQuiet_nil ⟨rfl, by kernel_rfl, by kernel_rfl, by kernel_rfl⟩
            intro m2 b2 hb2
            simp only [List.take, List.drop, junk, List.cons_append, List.nil_append, Nat.reduceAdd]
            refine wpQuiet_cut 5 89 30 (b2 || q0) ?hs2 ?hr2
            case hs2 =>
              as_aux_lemma =>
              simp only [List.take]
              repeat' (first | go_big_quiet_skip | (go_big_quiet_want; go_big_quiet_op; first | go_big_quiet_on | (apply Exists.intro; refine ⟨fun _ => ?hqg1, ?hqg2⟩; (case hqg1 => (go_at_call 20; refine Calls.grow_of (HPG.out _))); go_big_quiet_on)) | cases b2)
              all_goals exact wpQuiet_nil ⟨rfl, by kernel_rfl, by kernel_rfl, by kernel_rfl⟩
            intro m3 b3 hb3
            simp only [List.take, List.drop, junk, List.cons_append, List.nil_append, Nat.reduceAdd]
            refine wpQuiet_cut 5 89 35 (b3 || q1) ?hs3 ?hr3
            case hs3 =>
              as_aux_lemma =>
              simp only [List.take]
              repeat' (first | go_big_quiet_skip | (go_big_quiet_want; go_big_quiet_op; first | go_big_quiet_on | (apply Exists.intro; refine ⟨fun _ => ?hqg1, ?hqg2⟩; (case hqg1 => (go_at_call 20; refine Calls.grow_of (HPG.out _))); go_big_quiet_on)) | cases b3)
              all_goals exact wpQuiet_nil ⟨rfl, by kernel_rfl, by kernel_rfl, by kernel_rfl⟩
            intro m4 b4 hb4
            simp only [List.take, List.drop, junk, List.cons_append, List.nil_append, Nat.reduceAdd]
            refine wpQuiet_cut 5 89 40 (b4 || q2) ?hs4 ?hr4
            case hs4 =>
              as_aux_lemma =>
              simp only [List.take]
              repeat' (first | go_big_quiet_skip | (go_big_quiet_want; go_big_quiet_op; first | go_big_quiet_on | (apply Exists.intro; refine ⟨fun _ => ?hqg1, ?hqg2⟩; (case hqg1 => (go_at_call 20; refine Calls.grow_of (HPG.out _))); go_big_quiet_on)) | cases b4)
              all_goals exact wpQuiet_nil ⟨rfl, by kernel_rfl, by kernel_rfl, by kernel_rfl⟩
            intro m5 b5 hb5
            simp only [List.take, List.drop, junk, List.cons_append, List.nil_append, Nat.reduceAdd]
            refine wpQuiet_cut 5 89 45 (b5 || q3) ?hs5 ?hr5
            case hs5 =>
              as_aux_lemma =>
              simp only [List.take]
              repeat' (first | go_big_quiet_skip | (go_big_quiet_want; go_big_quiet_op; first | go_big_quiet_on | (apply Exists.intro; refine ⟨fun _ => ?hqg1, ?hqg2⟩; (case hqg1 => (go_at_call 20; refine Calls.grow_of (HPG.out _))); go_big_quiet_on)) | cases b5)
              all_goals exact wpQuiet_nil ⟨rfl, by kernel_rfl, by kernel_rfl, by kernel_rfl⟩
            intro m6 b6 hb6
            simp only [List.take, List.drop, junk, List.cons_append, List.nil_append, Nat.reduceAdd]
            refine wpQuiet_cut 5 89 50 (b6 || q4) ?hs6 ?hr6
            case hs6 =>
              as_aux_lemma =>
              simp only [List.take]
              repeat' (first | go_big_quiet_skip | (go_big_quiet_want; go_big_quiet_op; first | go_big_quiet_on | (apply Exists.intro; refine ⟨fun _ => ?hqg1, ?hqg2⟩; (case hqg1 => (go_at_call 20; refine Calls.grow_of (HPG.out _))); go_big_quiet_on)) | cases b6)
              all_goals exact wpQuiet_nil ⟨rfl, by kernel_rfl, by kernel_rfl, by kernel_rfl⟩
            intro m7 b7 hb7
            simp only [List.take, List.drop, junk, List.cons_append, List.nil_append, Nat.reduceAdd]
            refine wpQuiet_cut 7 89 57 (b7 || q5) ?hs7 ?hr7
            case hs7 =>
              as_aux_lemma =>
              simp only [List.take]
              repeat' (first | go_big_quiet_skip | (go_big_quiet_want; go_big_quiet_op; first | go_big_quiet_on | (apply Exists.intro; refine ⟨fun _ => ?hqg1, ?hqg2⟩; (case hqg1 => (go_at_call 20; refine Calls.grow_of (HPG.out _))); go_big_quiet_on)) | cases b7)
              all_goals exact wpQuiet_nil ⟨rfl, by kernel_rfl, by kernel_rfl, by kernel_rfl⟩
            intro m8 b8 hb8
            simp only [List.take, List.drop, junk, List.cons_append, List.nil_append, Nat.reduceAdd]
            refine wpQuiet_cut 7 89 64 (b8 || q6) ?hs8 ?hr8
            case hs8 =>
              as_aux_lemma =>
              simp only [List.take]
              repeat' (first | go_big_quiet_skip | (go_big_quiet_want; go_big_quiet_op; first | go_big_quiet_on | (apply Exists.intro; refine ⟨fun _ => ?hqg1, ?hqg2⟩; (case hqg1 => (go_at_call 20; refine Calls.grow_of (HPG.out _))); go_big_quiet_on)) | cases b8)
              all_goals exact wpQuiet_nil ⟨rfl, by kernel_rfl, by kernel_rfl, by kernel_rfl⟩
            intro m9 b9 hb9
            simp only [List.take, List.drop, junk, List.cons_append, List.nil_append, Nat.reduceAdd]
            refine wpQuiet_cut 7 89 71 (b9 || q7) ?hs9 ?hr9
            case hs9 =>
              as_aux_lemma =>
              simp only [List.take]
              repeat' (first | go_big_quiet_skip | (go_big_quiet_want; go_big_quiet_op; first | go_big_quiet_on | (apply Exists.intro; refine ⟨fun _ => ?hqg1, ?hqg2⟩; (case hqg1 => (go_at_call 20; refine Calls.grow_of (HPG.out _))); go_big_quiet_on)) | cases b9)
              all_goals exact wpQuiet_nil ⟨rfl, by kernel_rfl, by kernel_rfl, by kernel_rfl⟩
            intro m10 b10 hb10
            simp only [List.take, List.drop, junk, List.cons_append, List.nil_append, Nat.reduceAdd]
            refine wpQuiet_cut 7 89 78 (b10 || q8) ?hs10 ?hr10
            case hs10 =>
              as_aux_lemma =>
              simp only [List.take]
              repeat' (first | go_big_quiet_skip | (go_big_quiet_want; go_big_quiet_op; first | go_big_quiet_on | (apply Exists.intro; refine ⟨fun _ => ?hqg1, ?hqg2⟩; (case hqg1 => (go_at_call 20; refine Calls.grow_of (HPG.out _))); go_big_quiet_on)) | cases b10)
              all_goals exact wpQuiet_nil ⟨rfl, by kernel_rfl, by kernel_rfl, by kernel_rfl⟩
            intro m11 b11 hb11
            simp only [List.take, List.drop, junk, List.cons_append, List.nil_append, Nat.reduceAdd]
            refine wpQuiet_nil ?_
            rintro _ ⟨⟨extq, dq⟩, rfl⟩
            dsimp only
            go_wp2_with fail
            go_meet
            refine ⟨congrArg Value.bool ?_, _, _, rfl⟩
            rw [HNB.out, HOB.out, ← hb11.out, ← hb10.out, ← hb9.out, ← hb8.out, ← hb7.out, ← hb6.out, ← hb5.out, ← hb4.out, ← hb3.out, ← hb2.out, ← hb1.out]
            simp only [Bool.not_and, Bool.not_not, Bool.or_assoc]
            -- END 14
          case rest =>
            obtain ⟨rfl, ext0, d0, rfl⟩ := hcut
            refine gen_k (fun W2 hW2 => ?_)
            have hb2 : Below wr.heap.size wr W2 := by rw [hW2.out]; exact (by repeat (first | with_reducible exact Below.refl _ _ | with_reducible assumption | with_reducible exact below_d1 _ _ _ _ _ | with_reducible exact below_d2 _ _ _ _ _ _ _ _ | with_reducible exact below_d3 _ _ _ _ _ | with_reducible exact below_d4 _ _ _ _ _ _ _ _ | with_reducible exact below_d5 _ _ | with_reducible refine Below.drew ?_ | with_reducible refine Below.drewN' ?_ _ | with_reducible refine below_grow0 _ _ ?_ | with_reducible refine below_alloc0 _ ?_ | with_reducible refine Below.setCell ?_ ?_ _ | with_reducible refine Below.alloc ?_ ?_ _ | with_reducible refine Below.grow _ _ _ ?_ ?_ | omega | (simp; done) | (simp; omega)))
            have hs2 : wr.heap.size + 1 + 1 ≤ W2.heap.size := by rw [hW2.out]; simp
            have e0 : W2.cell? ⟨wr.heap.size, 0, none⟩ = some (.string xp) := by rw [hW2.out]; go_simp
            have e5 : W2.cell? ⟨wr.heap.size + 1, 5, none⟩ = some (.int .i64 xo) := by rw [hW2.out]; go_simp
            have e6 : W2.cell? ⟨wr.heap.size + 1, 6, none⟩ = some (.int .i64 xk) := by rw [hW2.out]; go_simp
            have t0 := (hb2.cell (p := ⟨w.heap.size, 0, none⟩) (Nat.lt_of_succ_lt hmb)).trans kk0
            have t1 := (hb2.cell (p := ⟨w.heap.size, 1, none⟩) (Nat.lt_of_succ_lt hmb)).trans kk1
            have t2 := (hb2.cell (p := ⟨w.heap.size, 2, none⟩) (Nat.lt_of_succ_lt hmb)).trans kk2
            have HC2 := Lib.hid (hcn.out.below hb2)
            have hbw2 : Below w.heap.size w W2 := Below.tr hbwr (by omega) hb2
            have hbx2 : Below (w.heap.size + 1) W1 W2 := hbx.trans (hb2.mono (by omega))
            have hs3 : w.heap.size + 1 < W2.heap.size := by omega
            clear hW2 c0 c1 c2' c3 c4 c5 c6 c7 c8 HPG kk0 kk1 kk2 hcn hokb hbwr hbx HC1
            cases nb with
            | true =>
              as_aux_lemma =>
              have hbad : gt = false := HF2.out k hlt (by rw [HOKK.out, show okb = false by simpa using hnb.symm]; rfl)
              subst hbad
              clear hnb
              go_wp2_with fail
              go_ret
              exact ⟨rfl, (by repeat (first | with_reducible exact Below.refl _ _ | with_reducible assumption | with_reducible exact below_d1 _ _ _ _ _ | with_reducible exact below_d2 _ _ _ _ _ _ _ _ | with_reducible exact below_d3 _ _ _ _ _ | with_reducible exact below_d4 _ _ _ _ _ _ _ _ | with_reducible exact below_d5 _ _ | with_reducible refine Below.drew ?_ | with_reducible refine Below.drewN' ?_ _ | with_reducible refine below_grow0 _ _ ?_ | with_reducible refine below_alloc0 _ ?_ | with_reducible refine Below.setCell ?_ ?_ _ | with_reducible refine Below.alloc ?_ ?_ _ | with_reducible refine Below.grow _ _ _ ?_ ?_ | omega | (simp; done) | (simp; omega)))⟩
            | false =>
              obtain rfl : okb = true := by simpa using hnb.symm
              clear hnb
              obtain ⟨p0, hp0⟩ : ∃ b, (xo == 0) = b := ⟨_, rfl⟩
              obtain ⟨p1, hp1⟩ : ∃ b, isI ss xo = b := ⟨_, rfl⟩
              obtain ⟨p2, hp2⟩ : ∃ b, (xk == 0) = b := ⟨_, rfl⟩
              obtain ⟨nw, hnw⟩ : ∃ b, b = (!p0 && (!p1 || !p2)) := ⟨_, rfl⟩
              rw [hp1] at HOP
              have HOK3 := Lib.hid (show okN ⟨z, l, ss⟩ k = (!nw && (decide ((splitR xp).2.2 ≠ 0) || hasN l (splitR xp).1)) by
                rw [HOKK.out, hnw, hp0, hp1, hp2]
                cases p0 <;> cases p1 <;> cases p2 <;> rfl)
              have HNW := Lib.hid hnw
              clear hnw HOKK
              go_upto_region 16 with fail
              go_cut [182] from 83 to 204 (fun s182 wx => s182 = .bool nw ∧ ∃ ext d, wx = grow W2 ext d)
              case first =>
                as_aux_lemma =>
                clear HOK3 HCQ hsd HSP HFD HF2 HF3 HF4 halln HC2
                by_cases hx0 : xo = 0
                · subst hx0
                  obtain rfl : p0 = true := by rw [← hp0]; rfl
                  go_wp2_with ((go_at_call 21; refine (HOP.out _ (H2.out.below (by repeat (first | with_reducible exact Below.refl _ _ | with_reducible assumption | with_reducible exact below_d1 _ _ _ _ _ | with_reducible exact below_d2 _ _ _ _ _ _ _ _ | with_reducible exact below_d3 _ _ _ _ _ | with_reducible exact below_d4 _ _ _ _ _ _ _ _ | with_reducible exact below_d5 _ _ | with_reducible refine Below.drew ?_ | with_reducible refine Below.drewN' ?_ _ | with_reducible refine below_grow0 _ _ ?_ | with_reducible refine below_alloc0 _ ?_ | with_reducible refine Below.setCell ?_ ?_ _ | with_reducible refine Below.alloc ?_ ?_ _ | with_reducible refine Below.grow _ _ _ ?_ ?_ | omega | (simp; done) | (simp; omega))))).mono ?_; rintro e w1 ⟨rfl, hb⟩; obtain ⟨ext1, d1, rfl⟩ := Below.grown_eq _ hb; clear hb))
                  go_meet
                  exact ⟨congrArg Value.bool (by rw [HNW.out]; rfl), _, _, grown_of (by repeat (first | with_reducible exact Below.refl _ _ | with_reducible assumption | with_reducible exact below_d1 _ _ _ _ _ | with_reducible exact below_d2 _ _ _ _ _ _ _ _ | with_reducible exact below_d3 _ _ _ _ _ | with_reducible exact below_d4 _ _ _ _ _ _ _ _ | with_reducible exact below_d5 _ _ | with_reducible refine Below.drew ?_ | with_reducible refine Below.drewN' ?_ _ | with_reducible refine below_grow0 _ _ ?_ | with_reducible refine below_alloc0 _ ?_ | with_reducible refine Below.setCell ?_ ?_ _ | with_reducible refine Below.alloc ?_ ?_ _ | with_reducible refine Below.grow _ _ _ ?_ ?_ | omega | (simp; done) | (simp; omega)))⟩
                · obtain rfl : p0 = false := by rw [← hp0]; exact beq_eq_false_iff_ne.2 hx0
                  cases p1 with
                  | false =>
                    go_wp2_with ((go_at_call 21; refine (HOP.out _ (H2.out.below (by repeat (first | with_reducible exact Below.refl _ _ | with_reducible assumption | with_reducible exact below_d1 _ _ _ _ _ | with_reducible exact below_d2 _ _ _ _ _ _ _ _ | with_reducible exact below_d3 _ _ _ _ _ | with_reducible exact below_d4 _ _ _ _ _ _ _ _ | with_reducible exact below_d5 _ _ | with_reducible refine Below.drew ?_ | with_reducible refine Below.drewN' ?_ _ | with_reducible refine below_grow0 _ _ ?_ | with_reducible refine below_alloc0 _ ?_ | with_reducible refine Below.setCell ?_ ?_ _ | with_reducible refine Below.alloc ?_ ?_ _ | with_reducible refine Below.grow _ _ _ ?_ ?_ | omega | (simp; done) | (simp; omega))))).mono ?_; rintro e w1 ⟨rfl, hb⟩; obtain ⟨ext1, d1, rfl⟩ := Below.grown_eq _ hb; clear hb))
                    go_meet
                    exact ⟨congrArg Value.bool (by rw [HNW.out]; simp [hx0]), _, _, grown_of (by repeat (first | with_reducible exact Below.refl _ _ | with_reducible assumption | with_reducible exact below_d1 _ _ _ _ _ | with_reducible exact below_d2 _ _ _ _ _ _ _ _ | with_reducible exact below_d3 _ _ _ _ _ | with_reducible exact below_d4 _ _ _ _ _ _ _ _ | with_reducible exact below_d5 _ _ | with_reducible refine Below.drew ?_ | with_reducible refine Below.drewN' ?_ _ | with_reducible refine below_grow0 _ _ ?_ | with_reducible refine below_alloc0 _ ?_ | with_reducible refine Below.setCell ?_ ?_ _ | with_reducible refine Below.alloc ?_ ?_ _ | with_reducible refine Below.grow _ _ _ ?_ ?_ | omega | (simp; done) | (simp; omega)))⟩
                  | true =>
                    by_cases hx1 : xk = 0
                    · subst hx1
                      obtain rfl : p2 = true := by rw [← hp2]; rfl
                      go_wp2_with ((go_at_call 21; refine (HOP.out _ (H2.out.below (by repeat (first | with_reducible exact Below.refl _ _ | with_reducible assumption | with_reducible exact below_d1 _ _ _ _ _ | with_reducible exact below_d2 _ _ _ _ _ _ _ _ | with_reducible exact below_d3 _ _ _ _ _ | with_reducible exact below_d4 _ _ _ _ _ _ _ _ | with_reducible exact below_d5 _ _ | with_reducible refine Below.drew ?_ | with_reducible refine Below.drewN' ?_ _ | with_reducible refine below_grow0 _ _ ?_ | with_reducible refine below_alloc0 _ ?_ | with_reducible refine Below.setCell ?_ ?_ _ | with_reducible refine Below.alloc ?_ ?_ _ | with_reducible refine Below.grow _ _ _ ?_ ?_ | omega | (simp; done) | (simp; omega))))).mono ?_; rintro e w1 ⟨rfl, hb⟩; obtain ⟨ext1, d1, rfl⟩ := Below.grown_eq _ hb; clear hb))
                      go_meet
                      exact ⟨congrArg Value.bool (by rw [HNW.out]; simp), _, _, grown_of (by repeat (first | with_reducible exact Below.refl _ _ | with_reducible assumption | with_reducible exact below_d1 _ _ _ _ _ | with_reducible exact below_d2 _ _ _ _ _ _ _ _ | with_reducible exact below_d3 _ _ _ _ _ | with_reducible exact below_d4 _ _ _ _ _ _ _ _ | with_reducible exact below_d5 _ _ | with_reducible refine Below.drew ?_ | with_reducible refine Below.drewN' ?_ _ | with_reducible refine below_grow0 _ _ ?_ | with_reducible refine below_alloc0 _ ?_ | with_reducible refine Below.setCell ?_ ?_ _ | with_reducible refine Below.alloc ?_ ?_ _ | with_reducible refine Below.grow _ _ _ ?_ ?_ | omega | (simp; done) | (simp; omega)))⟩
                    · obtain rfl : p2 = false := by rw [← hp2]; exact beq_eq_false_iff_ne.2 hx1
                      go_wp2_with ((go_at_call 21; refine (HOP.out _ (H2.out.below (by repeat (first | with_reducible exact Below.refl _ _ | with_reducible assumption | with_reducible exact below_d1 _ _ _ _ _ | with_reducible exact below_d2 _ _ _ _ _ _ _ _ | with_reducible exact below_d3 _ _ _ _ _ | with_reducible exact below_d4 _ _ _ _ _ _ _ _ | with_reducible exact below_d5 _ _ | with_reducible refine Below.drew ?_ | with_reducible refine Below.drewN' ?_ _ | with_reducible refine below_grow0 _ _ ?_ | with_reducible refine below_alloc0 _ ?_ | with_reducible refine Below.setCell ?_ ?_ _ | with_reducible refine Below.alloc ?_ ?_ _ | with_reducible refine Below.grow _ _ _ ?_ ?_ | omega | (simp; done) | (simp; omega))))).mono ?_; rintro e w1 ⟨rfl, hb⟩; obtain ⟨ext1, d1, rfl⟩ := Below.grown_eq _ hb; clear hb))
                      go_meet
                      exact ⟨congrArg Value.bool (by rw [HNW.out]; simp [hx0, hx1]), _, _, grown_of (by repeat (first | with_reducible exact Below.refl _ _ | with_reducible assumption | with_reducible exact below_d1 _ _ _ _ _ | with_reducible exact below_d2 _ _ _ _ _ _ _ _ | with_reducible exact below_d3 _ _ _ _ _ | with_reducible exact below_d4 _ _ _ _ _ _ _ _ | with_reducible exact below_d5 _ _ | with_reducible refine Below.drew ?_ | with_reducible refine Below.drewN' ?_ _ | with_reducible refine below_grow0 _ _ ?_ | with_reducible refine below_alloc0 _ ?_ | with_reducible refine Below.setCell ?_ ?_ _ | with_reducible refine Below.alloc ?_ ?_ _ | with_reducible refine Below.grow _ _ _ ?_ ?_ | omega | (simp; done) | (simp; omega)))⟩
              case rest =>
                obtain ⟨rfl, ext3, d3, rfl⟩ := hcut
                clear e5 e6 hp0 hp1 hp2 HOP HNW
                cases nw with
                | true =>
                  as_aux_lemma =>
                  have hbad : gt = false := HF2.out k hlt (by rw [HOK3.out]; rfl)
                  subst hbad
                  go_wp2_with fail
                  go_ret
                  exact ⟨rfl, (by repeat (first | with_reducible exact Below.refl _ _ | with_reducible assumption | with_reducible exact below_d1 _ _ _ _ _ | with_reducible exact below_d2 _ _ _ _ _ _ _ _ | with_reducible exact below_d3 _ _ _ _ _ | with_reducible exact below_d4 _ _ _ _ _ _ _ _ | with_reducible exact below_d5 _ _ | with_reducible refine Below.drew ?_ | with_reducible refine Below.drewN' ?_ _ | with_reducible refine below_grow0 _ _ ?_ | with_reducible refine below_alloc0 _ ?_ | with_reducible refine Below.setCell ?_ ?_ _ | with_reducible refine Below.alloc ?_ ?_ _ | with_reducible refine Below.grow _ _ _ ?_ ?_ | omega | (simp; done) | (simp; omega)))⟩
                | false =>
                  generalize splitR xp = sp at *
                  obtain ⟨sd, st, se⟩ := sp
                  simp only at *
                  by_cases hse : se = 0
                  · as_aux_lemma =>
                    subst hse
                    have HCQ2 := Lib.hid (fun q => show (l.take (k + 1)).countP (kidB q) = (l.take k).countP (kidB q) + (if sd = q then 1 else 0) by rw [HCQ.out q]; simp)
                    have HOK4 := Lib.hid (show okN ⟨z, l, ss⟩ k = hasN l sd by rw [HOK3.out]; rfl)
                    have hcl : (l.take k).countP (kidB sd) ≤ k := Nat.le_trans List.countP_le_length (by rw [List.length_take]; omega)
                    clear HOK3 HCQ
                    cases hhn : hasN l sd with
                    | false =>
                      rw [hhn] at HFD HOK4
                      have hbad : gt = false := HF2.out k hlt HOK4.out
                      subst hbad
                      clear hhn
                      go_wp2_with (first | (go_at_call 22; refine (HSP.out _).mono ?_; rintro e w1 ⟨rfl, hb⟩; obtain ⟨ext4, d4, rfl⟩ := Below.grown_eq _ hb; clear hb) | (go_at_call 23; refine (HFD.out _ (H.out.below (by repeat (first | with_reducible exact Below.refl _ _ | with_reducible assumption | with_reducible exact below_d1 _ _ _ _ _ | with_reducible exact below_d2 _ _ _ _ _ _ _ _ | with_reducible exact below_d3 _ _ _ _ _ | with_reducible exact below_d4 _ _ _ _ _ _ _ _ | with_reducible exact below_d5 _ _ | with_reducible refine Below.drew ?_ | with_reducible refine Below.drewN' ?_ _ | with_reducible refine below_grow0 _ _ ?_ | with_reducible refine below_alloc0 _ ?_ | with_reducible refine Below.setCell ?_ ?_ _ | with_reducible refine Below.alloc ?_ ?_ _ | with_reducible refine Below.grow _ _ _ ?_ ?_ | omega | (simp; done) | (simp; omega))))).mono ?_; rintro e w1 ⟨rfl, hb⟩; obtain ⟨ext5, d5, rfl⟩ := Below.grown_eq _ hb; clear hb))
                      go_ret
                      exact ⟨rfl, (by repeat (first | with_reducible exact Below.refl _ _ | with_reducible assumption | with_reducible exact below_d1 _ _ _ _ _ | with_reducible exact below_d2 _ _ _ _ _ _ _ _ | with_reducible exact below_d3 _ _ _ _ _ | with_reducible exact below_d4 _ _ _ _ _ _ _ _ | with_reducible exact below_d5 _ _ | with_reducible refine Below.drew ?_ | with_reducible refine Below.drewN' ?_ _ | with_reducible refine below_grow0 _ _ ?_ | with_reducible refine below_alloc0 _ ?_ | with_reducible refine Below.setCell ?_ ?_ _ | with_reducible refine Below.alloc ?_ ?_ _ | with_reducible refine Below.grow _ _ _ ?_ ?_ | omega | (simp; done) | (simp; omega)))⟩
                    | true =>
                      rw [hhn] at HFD HOK4
                      clear hhn
                      have HFN : Hid (∀ i, i < k + 1 → okN ⟨z, l, ss⟩ i = true) := Lib.hid (fun i hi => by
                        rcases Nat.lt_or_ge i k with h | h
                        · exact halln.out i h
                        · obtain rfl : i = k := by omega
                          exact HOK4.out)
                      have HGC : ∀ W, Below W2.heap.size W2 W → Hid (Cnt W (w.heap.size + 1) k (fun q => (((l.take k).countP (kidB q) : Nat) : Int))) := fun W hW => Lib.hid (HC2.out.below hW)
                      have HPC : Hid (∀ q, (((l.take (k + 1)).countP (kidB q) : Nat) : Int) = (if q = sd then (((l.take k).countP (kidB sd) : Nat) : Int) + 1 else (((l.take k).countP (kidB q) : Nat) : Int))) := Lib.hid (fun q => by
                        rw [HCQ2.out q]
                        by_cases hq : q = sd
                        · subst hq; simp
                        · rw [if_neg hq, if_neg (fun e => hq e.symm)]; rfl)
                      clear HOK4 halln HC2 HCQ2
                      go_wp2_with (first | (go_at_call 22; refine (HSP.out _).mono ?_; rintro e w1 ⟨rfl, hb⟩; obtain ⟨ext4, d4, rfl⟩ := Below.grown_eq _ hb; clear hb) | (go_at_call 23; refine (HFD.out _ (H.out.below (by repeat (first | with_reducible exact Below.refl _ _ | with_reducible assumption | with_reducible exact below_d1 _ _ _ _ _ | with_reducible exact below_d2 _ _ _ _ _ _ _ _ | with_reducible exact below_d3 _ _ _ _ _ | with_reducible exact below_d4 _ _ _ _ _ _ _ _ | with_reducible exact below_d5 _ _ | with_reducible refine Below.drew ?_ | with_reducible refine Below.drewN' ?_ _ | with_reducible refine below_grow0 _ _ ?_ | with_reducible refine below_alloc0 _ ?_ | with_reducible refine Below.setCell ?_ ?_ _ | with_reducible refine Below.alloc ?_ ?_ _ | with_reducible refine Below.grow _ _ _ ?_ ?_ | omega | (simp; done) | (simp; omega))))).mono ?_; rintro e w1 ⟨rfl, hb⟩; obtain ⟨ext5, d5, rfl⟩ := Below.grown_eq _ hb; clear hb) | (at_lookup; refine wpList_cntget rfl (.tmp 200) (.tmp 201) rfl rfl (HGC _ (by repeat (first | with_reducible exact Below.refl _ _ | with_reducible assumption | with_reducible exact below_d1 _ _ _ _ _ | with_reducible exact below_d2 _ _ _ _ _ _ _ _ | with_reducible exact below_d3 _ _ _ _ _ | with_reducible exact below_d4 _ _ _ _ _ _ _ _ | with_reducible exact below_d5 _ _ | with_reducible refine Below.drew ?_ | with_reducible refine Below.drewN' ?_ _ | with_reducible refine below_grow0 _ _ ?_ | with_reducible refine below_alloc0 _ ?_ | with_reducible refine Below.setCell ?_ ?_ _ | with_reducible refine Below.alloc ?_ ?_ _ | with_reducible refine Below.grow _ _ _ ?_ ?_ | omega | (simp; done) | (simp; omega)))).out sd rfl (by simp [maxLen]; omega) ?_; (try dsimp only)) | (at_mapUpdate; refine wpList_cntput rfl (.tmp 200) (.tmp 201) (.tmp 203) rfl rfl (HGC _ (by repeat (first | with_reducible exact Below.refl _ _ | with_reducible assumption | with_reducible exact below_d1 _ _ _ _ _ | with_reducible exact below_d2 _ _ _ _ _ _ _ _ | with_reducible exact below_d3 _ _ _ _ _ | with_reducible exact below_d4 _ _ _ _ _ _ _ _ | with_reducible exact below_d5 _ _ | with_reducible refine Below.drew ?_ | with_reducible refine Below.drewN' ?_ _ | with_reducible refine below_grow0 _ _ ?_ | with_reducible refine below_alloc0 _ ?_ | with_reducible refine Below.setCell ?_ ?_ _ | with_reducible refine Below.alloc ?_ ?_ _ | with_reducible refine Below.grow _ _ _ ?_ ?_ | omega | (simp; done) | (simp; omega)))).out (by simp [maxLen]; omega) sd rfl (by simp [maxLen]; omega) _ rfl (by simp [Lit.wf, IntKind.min, IntKind.max, IntKind.signed, IntKind.bits]; omega) ?_; intro w2 hC hg; have HCC := Lib.hid hC; have HGG := Lib.hid hg; clear hC hg))
                      have hbw' := below_put (B := w.heap.size + 1) (show Below (w.heap.size + 1) W1 _ from hbx2.trans (Below.mono (show Below W2.heap.size W2 _ from (by repeat (first | with_reducible exact Below.refl _ _ | with_reducible assumption | with_reducible exact below_d1 _ _ _ _ _ | with_reducible exact below_d2 _ _ _ _ _ _ _ _ | with_reducible exact below_d3 _ _ _ _ _ | with_reducible exact below_d4 _ _ _ _ _ _ _ _ | with_reducible exact below_d5 _ _ | with_reducible refine Below.drew ?_ | with_reducible refine Below.drewN' ?_ _ | with_reducible refine below_grow0 _ _ ?_ | with_reducible refine below_alloc0 _ ?_ | with_reducible refine Below.setCell ?_ ?_ _ | with_reducible refine Below.alloc ?_ ?_ _ | with_reducible refine Below.grow _ _ _ ?_ ?_ | omega | (simp; done) | (simp; omega)))) (by omega))) (by simp; omega) (Nat.le_refl _) HGG.out
                      go_roundw
                      case rel => exact ⟨k + 1, by omega, by go_num, HFN, Lib.hid (HCC.out.same (fun q => HPC.out q)), hbw'⟩
                      case measure => simp [intOf]; omega
                  · as_aux_lemma =>
                    have hne : (se == 0) = false := beq_eq_false_iff_ne.2 hse
                    have HFN : Hid (∀ i, i < k + 1 → okN ⟨z, l, ss⟩ i = true) := Lib.hid (fun i hi => by
                      rcases Nat.lt_or_ge i k with h | h
                      · exact halln.out i h
                      · obtain rfl : i = k := by omega
                        rw [HOK3.out, decide_eq_true hse]; rfl)
                    have HC3 : ∀ W, Below W2.heap.size W2 W → Hid (Cnt W (w.heap.size + 1) (k + 1) (fun q => (((l.take (k + 1)).countP (kidB q) : Nat) : Int))) := fun W hW => Lib.hid ((((HC2.out.below hW).mono (Nat.le_succ k))).same (fun q => by rw [HCQ.out q, decide_eq_false hse]; simp))
                    clear HOK3 halln HCQ HC2 hse
                    go_wp2_with ((go_at_call 22; refine (HSP.out _).mono ?_; rintro e w1 ⟨rfl, hb⟩; obtain ⟨ext4, d4, rfl⟩ := Below.grown_eq _ hb; clear hb))
                    go_roundw
                    case rel => exact ⟨k + 1, by omega, by go_num, HFN, HC3 _ (by repeat (first | with_reducible exact Below.refl _ _ | with_reducible assumption | with_reducible exact below_d1 _ _ _ _ _ | with_reducible exact below_d2 _ _ _ _ _ _ _ _ | with_reducible exact below_d3 _ _ _ _ _ | with_reducible exact below_d4 _ _ _ _ _ _ _ _ | with_reducible exact below_d5 _ _ | with_reducible refine Below.drew ?_ | with_reducible refine Below.drewN' ?_ _ | with_reducible refine below_grow0 _ _ ?_ | with_reducible refine below_alloc0 _ ?_ | with_reducible refine Below.setCell ?_ ?_ _ | with_reducible refine Below.alloc ?_ ?_ _ | with_reducible refine Below.grow _ _ _ ?_ ?_ | omega | (simp; done) | (simp; omega))), hbx2.trans (Below.mono (show Below W2.heap.size W2 _ from (by repeat (first | with_reducible exact Below.refl _ _ | with_reducible assumption | with_reducible exact below_d1 _ _ _ _ _ | with_reducible exact below_d2 _ _ _ _ _ _ _ _ | with_reducible exact below_d3 _ _ _ _ _ | with_reducible exact below_d4 _ _ _ _ _ _ _ _ | with_reducible exact below_d5 _ _ | with_reducible refine Below.drew ?_ | with_reducible refine Below.drewN' ?_ _ | with_reducible refine below_grow0 _ _ ?_ | with_reducible refine below_alloc0 _ ?_ | with_reducible refine Below.setCell ?_ ?_ _ | with_reducible refine Below.alloc ?_ ?_ _ | with_reducible refine Below.grow _ _ _ ?_ ?_ | omega | (simp; done) | (simp; omega)))) (by omega))⟩
                    case measure => simp [intOf]; omega
        · as_aux_lemma =>
          have hkl : k = l.length := by omega
          subst hkl
          rw [List.take_length] at hcn
          clear hk hlt HC1
          obtain ⟨wk, hwk⟩ : ∃ x : World, x = wr := ⟨wr, rfl⟩
          subst hwk
          go_wp2_with fail
          go_loopw [208] (fun i wr => ∃ j : Nat, j ≤ l.length ∧ i = .int .i64 j ∧ Hid (∀ i x, i < j → l[i]? = some x → x.kids = ((l.countP (kidB x.path) : Nat) : Int)) ∧ Below wk.heap.size wk wr) (fun i _ => l.length - (intOf i).toNat)
          case atStart => exact ⟨0, Nat.zero_le _, rfl, Lib.hid (fun i x hi => absurd hi (Nat.not_lt_zero _)), Below.refl _ _⟩
          case round =>
            obtain ⟨j, hj, rfl, hall3, hbs⟩ := hrel
            have hbws : Below w.heap.size w wr := Below.tr hbwr (by omega) hbs
            have s0 := (hbs.cell (p := ⟨w.heap.size, 0, none⟩) (Nat.lt_of_succ_lt hmb)).trans kk0
            have s1 := (hbs.cell (p := ⟨w.heap.size, 1, none⟩) (Nat.lt_of_succ_lt hmb)).trans kk1
            have s2 := (hbs.cell (p := ⟨w.heap.size, 2, none⟩) (Nat.lt_of_succ_lt hmb)).trans kk2
            have HCW := Lib.hid (hcn.out.below hbs)
            clear kk0 kk1 kk2
            by_cases hlt3 : j < l.length
            · have hx : l[j]? = some (l[j]'hlt3) := List.getElem?_eq_getElem _
              obtain ⟨bk', off', hA, _, c0, c1, c2', c3, c4, c5, c6, c7, c8⟩ := (H.out.below hbws).Node_at hx
              cases hA
              have hpsz := hz _ (List.mem_of_getElem? hx)
              have hcl : l.countP (kidB (l[j]'hlt3).path) ≤ l.length := List.countP_le_length
              have HGC : ∀ W, Below wr.heap.size wr W → Hid (Cnt W (w.heap.size + 1) l.length (fun q => ((l.countP (kidB q) : Nat) : Int))) := fun W hW => Lib.hid (HCW.out.below hW)
              have HX := Lib.hid hx
              generalize l[j]'hlt3 = x at *
              obtain ⟨xp, xd, xz, xm, xq, xv, xc, xo, xk⟩ := x
              simp only at *
              by_cases hkk : xk = ((l.countP (kidB xp) : Nat) : Int)
              · have hke : (xk == ((l.countP (kidB xp) : Nat) : Int)) = true := by rw [hkk]; simp
                have HA3 : Hid (∀ i x, i < j + 1 → l[i]? = some x → x.kids = ((l.countP (kidB x.path) : Nat) : Int)) := Lib.hid (fun i u hi hu => by
                  rcases Nat.lt_or_ge i j with h | h
                  · exact hall3.out i u h hu
                  · obtain rfl : i = j := by omega
                    rw [Option.some.inj (hu.symm.trans HX.out)]
                    exact hkk)
                clear hx hall3
                go_wp2_with (at_lookup; refine wpList_cntget rfl (.tmp 215) (.tmp 217) rfl rfl (HGC _ (by repeat (first | with_reducible exact Below.refl _ _ | with_reducible assumption | with_reducible exact below_d1 _ _ _ _ _ | with_reducible exact below_d2 _ _ _ _ _ _ _ _ | with_reducible exact below_d3 _ _ _ _ _ | with_reducible exact below_d4 _ _ _ _ _ _ _ _ | with_reducible exact below_d5 _ _ | with_reducible refine Below.drew ?_ | with_reducible refine Below.drewN' ?_ _ | with_reducible refine below_grow0 _ _ ?_ | with_reducible refine below_alloc0 _ ?_ | with_reducible refine Below.setCell ?_ ?_ _ | with_reducible refine Below.alloc ?_ ?_ _ | with_reducible refine Below.grow _ _ _ ?_ ?_ | omega | (simp; done) | (simp; omega)))).out xp rfl (by simp [maxLen]; omega) ?_; (try dsimp only))
                go_roundw
                case rel => exact ⟨j + 1, by omega, by go_num, HA3, (by repeat (first | with_reducible exact Below.refl _ _ | with_reducible assumption | with_reducible exact below_d1 _ _ _ _ _ | with_reducible exact below_d2 _ _ _ _ _ _ _ _ | with_reducible exact below_d3 _ _ _ _ _ | with_reducible exact below_d4 _ _ _ _ _ _ _ _ | with_reducible exact below_d5 _ _ | with_reducible refine Below.drew ?_ | with_reducible refine Below.drewN' ?_ _ | with_reducible refine below_grow0 _ _ ?_ | with_reducible refine below_alloc0 _ ?_ | with_reducible refine Below.setCell ?_ ?_ _ | with_reducible refine Below.alloc ?_ ?_ _ | with_reducible refine Below.grow _ _ _ ?_ ?_ | omega | (simp; done) | (simp; omega)))⟩
                case measure => simp [intOf]; omega
              · have hke : (xk == ((l.countP (kidB xp) : Nat) : Int)) = false := beq_eq_false_iff_ne.2 hkk
                have hbad : gt = false := HF3.out (by
                  unfold kidsB
                  rw [List.all_eq_false]
                  exact ⟨_, List.mem_of_getElem? HX.out, by simpa using hkk⟩)
                subst hbad
                clear hx hall3
                go_wp2_with (at_lookup; refine wpList_cntget rfl (.tmp 215) (.tmp 217) rfl rfl (HGC _ (by repeat (first | with_reducible exact Below.refl _ _ | with_reducible assumption | with_reducible exact below_d1 _ _ _ _ _ | with_reducible exact below_d2 _ _ _ _ _ _ _ _ | with_reducible exact below_d3 _ _ _ _ _ | with_reducible exact below_d4 _ _ _ _ _ _ _ _ | with_reducible exact below_d5 _ _ | with_reducible refine Below.drew ?_ | with_reducible refine Below.drewN' ?_ _ | with_reducible refine below_grow0 _ _ ?_ | with_reducible refine below_alloc0 _ ?_ | with_reducible refine Below.setCell ?_ ?_ _ | with_reducible refine Below.alloc ?_ ?_ _ | with_reducible refine Below.grow _ _ _ ?_ ?_ | omega | (simp; done) | (simp; omega)))).out xp rfl (by simp [maxLen]; omega) ?_; (try dsimp only))
                go_ret
                exact ⟨rfl, (by repeat (first | with_reducible exact Below.refl _ _ | with_reducible assumption | with_reducible exact below_d1 _ _ _ _ _ | with_reducible exact below_d2 _ _ _ _ _ _ _ _ | with_reducible exact below_d3 _ _ _ _ _ | with_reducible exact below_d4 _ _ _ _ _ _ _ _ | with_reducible exact below_d5 _ _ | with_reducible refine Below.drew ?_ | with_reducible refine Below.drewN' ?_ _ | with_reducible refine below_grow0 _ _ ?_ | with_reducible refine below_alloc0 _ ?_ | with_reducible refine Below.setCell ?_ ?_ _ | with_reducible refine Below.alloc ?_ ?_ _ | with_reducible refine Below.grow _ _ _ ?_ ?_ | omega | (simp; done) | (simp; omega)))⟩
            · have hjl : j = l.length := by omega
              subst hjl
              obtain rfl : gt = true := HF4.out hall.out halln.out (by
                unfold kidsB
                rw [List.all_eq_true]
                intro x hx
                obtain ⟨i, hi⟩ := List.mem_iff_getElem?.1 hx
                exact decide_eq_true (hall3.out i x (List.getElem?_eq_some_iff.1 hi).1 hi))
              go_wp2_with fail
              go_ret
              exact ⟨rfl, (by repeat (first | with_reducible exact Below.refl _ _ | with_reducible assumption | with_reducible exact below_d1 _ _ _ _ _ | with_reducible exact below_d2 _ _ _ _ _ _ _ _ | with_reducible exact below_d3 _ _ _ _ _ | with_reducible exact below_d4 _ _ _ _ _ _ _ _ | with_reducible exact below_d5 _ _ | with_reducible refine Below.drew ?_ | with_reducible refine Below.drewN' ?_ _ | with_reducible refine below_grow0 _ _ ?_ | with_reducible refine below_alloc0 _ ?_ | with_reducible refine Below.setCell ?_ ?_ _ | with_reducible refine Below.alloc ?_ ?_ _ | with_reducible refine Below.grow _ _ _ ?_ ?_ | omega | (simp; done) | (simp; omega)))⟩
end Go.Proofs.YtfoglgeiipafeaaDoor
