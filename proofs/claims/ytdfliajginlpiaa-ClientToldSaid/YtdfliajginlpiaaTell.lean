/- client.Tell; what is left of a cache behind notes. -/
import Derived.Test.YtdfliajginlpiaaOrder
import Derived.Test.YtdfliajginlpiaaT5
namespace Go.Proofs.Ytdfliajginlpiaa
open Go.RowKit Go.ChangeShapes Go.WideShapes Go.ChangeAt
def goneL (l : List Entry) (q : ByteArray) : List Entry := if isK (l.map Entry.path) q then l.take (posK (l.map Entry.path) q) ++ l.drop (posK (l.map Entry.path) q + 1) else l
theorem goneL_sub (l : List Entry) (q : ByteArray) : (goneL l q).Sublist l := by
  unfold goneL
  split
  · rw [← List.eraseIdx_eq_take_drop_succ]; exact List.eraseIdx_sublist _ _
  · exact List.Sublist.refl _
theorem goneL_sorted {l : List Entry} (h : SortedE l) (q : ByteArray) : SortedE (goneL l q) := by
  rw [sorted_pw] at *
  exact h.sublist (goneL_sub l q)
theorem mem_goneL {l : List Entry} (h : SortedE l) (q : ByteArray) (y : Entry) : y ∈ goneL l q ↔ y ∈ l ∧ y.path ≠ q := by
  unfold goneL
  cases hi : isK (l.map Entry.path) q with
  | false =>
    simp only [Bool.false_eq_true, if_false]
    refine ⟨fun hy => ⟨hy, fun e => ?_⟩, fun hy => hy.1⟩
    have := (look_of h hy).1
    rw [e, hi] at this
    cases this
  | true =>
    simp only [if_true]
    obtain ⟨hq, hp⟩ := is_at hi
    generalize posK (l.map Entry.path) q = k at *
    constructor
    · intro hy
      have hex : ∃ i, i ≠ k ∧ l[i]? = some y := by
        rcases List.mem_append.1 hy with hy | hy
        · obtain ⟨i, hi'⟩ := List.getElem?_of_mem hy
          have hlt : i < k := by have := (List.getElem?_eq_some_iff.1 hi').1; rw [List.length_take] at this; omega
          exact ⟨i, by omega, by rwa [List.getElem?_take_of_lt hlt] at hi'⟩
        · obtain ⟨i, hi'⟩ := List.getElem?_of_mem hy
          rw [List.getElem?_drop] at hi'
          exact ⟨k + 1 + i, by omega, hi'⟩
      obtain ⟨i, hne, hiy⟩ := hex
      refine ⟨List.mem_of_getElem? hiy, fun e => ?_⟩
      have hk : l[k]? = some (l[k]'hq) := List.getElem?_eq_getElem _
      rcases Nat.lt_or_gt_of_ne hne with hlt | hlt
      · have := h i k _ _ hlt hiy hk
        rw [e, hp, cmpB_self] at this
        omega
      · have := h k i _ _ hlt hk hiy
        rw [e, hp, cmpB_self] at this
        omega
    · rintro ⟨hy, hne⟩
      obtain ⟨i, hi'⟩ := List.getElem?_of_mem hy
      rcases Nat.lt_trichotomy i k with hlt | rfl | hlt
      · exact List.mem_append.2 (.inl (List.mem_of_getElem? (i := i) (by rwa [List.getElem?_take_of_lt hlt])))
      · rw [List.getElem?_eq_getElem hq] at hi'
        cases hi'
        exact absurd hp hne
      · exact List.mem_append.2 (.inr (List.mem_of_getElem? (i := i - (k + 1)) (by rw [List.getElem?_drop, show k + 1 + (i - (k + 1)) = i from by omega]; exact hi')))
def hitsB (s : Int) (n : Note) : Bool := decide (n.session = s) && !decide (n.kind = 4)
def tellE (s : Int) (l : List Entry) (n : Note) : List Entry := if hitsB s n then goneL l n.path else l
def tellL (s : Int) (l : List Entry) (ns : List Note) : List Entry := ns.foldl (tellE s) l
theorem tellL_succ {s : Int} {l : List Entry} {ns : List Note} {k : Nat} {n : Note} (h : ns[k]? = some n) : tellL s l (ns.take (k + 1)) = tellE s (tellL s l (ns.take k)) n := by
  unfold tellL
  rw [List.take_add_one, h]
  simp
theorem tellL_is {s : Int} {l : List Entry} (h : SortedE l) (ns : List Note) : SortedE (tellL s l ns) ∧ ∀ y, y ∈ tellL s l ns ↔ y ∈ l ∧ ∀ n ∈ ns, hitsB s n = true → y.path ≠ n.path := by
  unfold tellL
  induction ns generalizing l with
  | nil => exact ⟨h, fun y => by simp⟩
  | cons n ns ih =>
    rw [List.foldl_cons]
    cases hh : hitsB s n with
    | false =>
      have e : tellE s l n = l := by unfold tellE; rw [hh]; rfl
      rw [e]
      obtain ⟨h1, h2⟩ := ih h
      refine ⟨h1, fun y => ?_⟩
      rw [h2]
      simp [hh]
    | true =>
      have e : tellE s l n = goneL l n.path := by unfold tellE; rw [hh]; rfl
      rw [e]
      obtain ⟨h1, h2⟩ := ih (goneL_sorted h n.path)
      refine ⟨h1, fun y => ?_⟩
      rw [h2, mem_goneL h]
      simp [hh, and_assoc]
theorem tellL_len (s : Int) (l : List Entry) (ns : List Note) : (tellL s l ns).length ≤ l.length := by
  unfold tellL
  induction ns generalizing l with
  | nil => exact Nat.le_refl _
  | cons n ns ih =>
    rw [List.foldl_cons]
    refine Nat.le_trans (ih _) ?_
    unfold tellE
    split
    · exact (goneL_sub _ _).length_le
    · exact Nat.le_refl _
def toldB (s : Int) (ns : List Note) (p : ByteArray) : Prop := ∃ n ∈ ns, hitsB s n = true ∧ n.path = p
theorem look_told {s : Int} {l : List Entry} (h : SortedE l) {ns : List Note} {p : ByteArray} (ht : toldB s ns p) : isK ((tellL s l ns).map Entry.path) p = false ∧ lookE (tellL s l ns) p = noEntry := by
  obtain ⟨n, hn, hh, rfl⟩ := ht
  exact look_none fun y hy => (((tellL_is h ns).2 y).1 hy).2 n hn hh
theorem look_untold {s : Int} {l : List Entry} (h : SortedE l) {ns : List Note} {p : ByteArray} (ht : ¬ toldB s ns p) : isK ((tellL s l ns).map Entry.path) p = isK (l.map Entry.path) p ∧ lookE (tellL s l ns) p = lookE l p := by
  by_cases hex : ∃ y ∈ l, y.path = p
  · obtain ⟨y, hy, rfl⟩ := hex
    have hy' : y ∈ tellL s l ns := ((tellL_is h ns).2 y).2 ⟨hy, fun n hn hh e => ht ⟨n, hn, hh, e.symm⟩⟩
    obtain ⟨a1, a2⟩ := look_of h hy
    obtain ⟨b1, b2⟩ := look_of (tellL_is h ns).1 hy'
    exact ⟨by rw [a1, b1], by rw [a2, b2]⟩
  · have h1 : ∀ y ∈ l, y.path ≠ p := fun y hy e => hex ⟨y, hy, e⟩
    obtain ⟨a1, a2⟩ := look_none h1
    obtain ⟨b1, b2⟩ := look_none (fun y hy => h1 y (((tellL_is h ns).2 y).1 hy).1)
    exact ⟨by rw [a1, b1], by rw [a2, b2]⟩
end Go.Proofs.Ytdfliajginlpiaa
