/- rows of the call's own: general lemmas (once part of T4). -/
import Derived.Test.YtkogdnkifnhljaaDoorTypes
import Derived.Test.YtkogdnkifnhljaaDoorCopy
namespace Go.Proofs.YtkogdnkifnhljaaDoor
open Go.RowKit
/-- what a call that writes into its own row leaves: a row of these elements -/
def Rowed {α : Type} (f : α → List Value) (s : Nat) (e : TypeId) (B n : Nat) (l : List α) (row : Option Nat) (w : World) (r : Ending) (w' : World) : Prop :=
  ∃ A c, r = .returned (.slice A n c) ∧ Ow f s e w' B (.slice A n c) l ∧ w.grownBy w' row ∧ ((Value.slice A n c).ownBlock = row ∨ (Value.slice A n c).ownBlock = some w.heap.size)

theorem Ow.is_slice {α : Type} {f : α → List Value} {s : Nat} {e : TypeId} {w : World} {B : Nat} {v : Value} {l : List α} {m : Nat} (h : Ow f s e w B v l) (hm : l.length = m) : ∃ A c, v = .slice A m c := by
  obtain ⟨A, c, h, _⟩ := h.form
  exact ⟨A, c, by rw [h, hm]⟩
/-- a one-element slice over a block that is known -/
theorem Sl.blk {α : Type} {f : α → List Value} {s : Nat} {w : World} {g : Nat} {x : α} {e : TypeId} (hs : (f x).length = s) (h : Bk w g (f x) e) : Sl f s w (.slice (some ⟨g, 0, none⟩) 1 1) [x] := by
  refine ⟨some ⟨g, 0, none⟩, 1, rfl, Nat.le_refl _, by simp [maxLen], by simpa using hs, fun _ => ⟨_, _, rfl, h.lt, fun i y hy j u hu => ?_⟩⟩
  cases i with
  | zero =>
    simp at hy
    subst hy
    rw [show 0 + 0 * s + j = j from by omega, h.cell]
    exact hu
  | succ i => simp at hy
theorem flatMap_split {α : Type} {f : α → List Value} {s : Nat} {l : List α} (hf : ∀ x ∈ l, (f x).length = s) (k : Nat) : (l.take k).flatMap f = (l.flatMap f).take (k * s) ∧ (l.drop k).flatMap f = (l.flatMap f).drop (k * s) := by
  induction l generalizing k with
  | nil => simp
  | cons y l ih =>
    have hy : (f y).length = s := hf y (by simp)
    cases k with
    | zero => simp
    | succ k =>
      have h := ih (fun z hz => hf z (by simp [hz])) k
      have e1 : (k + 1) * s = (f y).length + k * s := by rw [hy, Nat.succ_mul, Nat.add_comm]
      constructor
      · rw [List.take_succ_cons, List.flatMap_cons, h.1, List.flatMap_cons, e1, List.take_length_add_append]
      · rw [List.drop_succ_cons, h.2, List.flatMap_cons, e1, List.drop_length_add_append]
/-- an owned row, opened -/
theorem Ow.blk {α : Type} {f : α → List Value} {s : Nat} {e : TypeId} {w : World} {B n c : Nat} {A : Option Addr} {l : List α} (h : Ow f s e w B (.slice A n c) l) (h0 : 0 < n) :
    ∃ g J, A = some ⟨g, 0, none⟩ ∧ B ≤ g ∧ Bk w g (l.flatMap f ++ J) e ∧ (l.flatMap f ++ J).length = c * s ∧ n ≤ c ∧ c ≤ maxLen ∧ n = l.length := by
  obtain ⟨_, _, hf1, _⟩ := h.form
  injection hf1 with _ e2 _
  rcases h.1.2 with ⟨hn, _⟩ | ⟨g, cap, cur, hv, hB, hg, h1, h2, h3, h4⟩
  · injection hn with _ e3 _; omega
  · injection hv with v1 v2 v3
    subst v3
    refine ⟨g, cur.toList.drop (l.length * s), v1, hB, ?_, ?_, by omega, h2, e2⟩
    · rw [← h4, List.take_append_drop]
      unfold Bk
      simpa using hg
    · rw [← h4, List.take_append_drop]
      simpa using h3
theorem Ow.of_blk {α : Type} {f : α → List Value} {s : Nat} {e : TypeId} {w : World} {B g c : Nat} {l : List α} {cur J : List Value} (hf : ∀ x ∈ l, (f x).length = s) (hB : B ≤ g) (hb : Bk w g cur e) (hcur : cur = l.flatMap f ++ J) (hl : cur.length = c * s) (hn : l.length ≤ c) (hc : c ≤ maxLen) :
    Ow f s e w B (.slice (some ⟨g, 0, none⟩) l.length c) l := by
  refine ⟨⟨flatMap_length hf, .inr ⟨g, c, cur.toArray, rfl, hB, hb, hn, hc, by simpa using hl, ?_⟩⟩, hf⟩
  rw [← flatMap_length hf]
  simp only [hcur]
  rw [List.take_left]

end Go.Proofs.YtkogdnkifnhljaaDoor
