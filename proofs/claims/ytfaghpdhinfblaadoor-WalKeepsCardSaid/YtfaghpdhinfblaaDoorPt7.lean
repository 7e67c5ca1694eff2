/- A disk that comes from outside, opened. -/
import Derived.Test.YtfaghpdhinfblaaDoorPt1
import Derived.Test.YtfaghpdhinfblaaDoorPt2
import Derived.Test.YtfaghpdhinfblaaDoorPt3
import Derived.Test.YtfaghpdhinfblaaDoorPt4
import Derived.Test.YtfaghpdhinfblaaDoorPt5
import Derived.Test.YtfaghpdhinfblaaDoorPt6
namespace Go.Proofs.YtfaghpdhinfblaaDoor
open Go.RowKit Go.ChangeShapes Go.WideShapes Go.ChangeAt
theorem Ow.regrow1 {α : Type} {f : α → List Value} {s : Nat} {e : TypeId} {W W' : World} {ext : Array Obj} {d d' B : Nat} {v : Value} {l : List α} (h : Ow f s e (grow W ext d) B v l) (hB : W.heap.size ≤ B) (hs : W'.heap.size = W.heap.size) : Sl f s (grow W' ext d') v l :=
  (h.regrow hB hs).sl
theorem Ow.regrow2 {α : Type} {f : α → List Value} {s : Nat} {e : TypeId} {W W' : World} {ext e1 : Array Obj} {d d' d1 B : Nat} {v : Value} {l : List α} (h : Ow f s e (grow W ext d) B v l) (hB : W.heap.size ≤ B) (hs : W'.heap.size = W.heap.size) : Sl f s (grow (grow W' ext d') e1 d1) v l :=
  ((h.regrow (W' := W') (d' := d') hB hs).below (below_grow0 _ _ (Below.refl _ _))).sl
theorem open_file {w : World} {n : Nat} {cs : List Value} (h : Deep Tryd.prog w (n + 2) 58 cs) : ∃ x : File, cs = cFile x ∧ x.sized := by
  obtain ⟨hl, hf⟩ := deep_struct Tryd.underlying58 h
  rw [show Tryd.prog.cellsOf 58 = 3 from by kernel_rfl] at hl
  obtain ⟨c0, c1, c2, rfl⟩ : ∃ a b c, cs = [a, b, c] := by
    rcases cs with _ | ⟨a, _ | ⟨b, _ | ⟨c, _ | ⟨d, cs⟩⟩⟩⟩ <;> simp at hl
    exact ⟨a, b, c, rfl⟩
  obtain ⟨m0, e0, s0⟩ := deep_string Tryd.underlying9 (deep_at hf 0 9 0 1 rfl (by kernel_rfl))
  obtain ⟨m1, e1, s1⟩ := deep_string Tryd.underlying9 (deep_at hf 1 9 1 1 rfl (by kernel_rfl))
  obtain ⟨m2, e2, s2⟩ := deep_string Tryd.underlying9 (deep_at hf 2 9 2 1 rfl (by kernel_rfl))
  simp only [List.drop_zero, List.drop_succ_cons, List.take_succ_cons, List.take_zero, List.cons.injEq, and_true] at e0 e1 e2
  subst e0 e1 e2
  simp only [reachBytes] at s0 s1 s2
  exact ⟨⟨m0, m1, m2⟩, rfl, by show m0.size ≤ _; omega, by show m1.size ≤ _; omega, by show m2.size ≤ _; omega⟩
theorem open_disk {w : World} {n : Nat} {cs : List Value} (h : Deep Tryd.prog w (n + 10) 24 cs) : ∃ (v : Value) (l : List File), cs = [v] ∧ Sl cFile 3 w v l ∧ (∀ x ∈ l, x.sized) ∧ l.length * 48 ≤ 140737488355328 := by
  obtain ⟨hl, hf⟩ := deep_struct Tryd.underlying24 h
  rw [show Tryd.prog.cellsOf 24 = 1 from by kernel_rfl] at hl
  obtain ⟨c0, rfl⟩ : ∃ a, cs = [a] := by
    rcases cs with _ | ⟨a, _ | ⟨b, cs⟩⟩ <;> simp at hl
    exact ⟨a, rfl⟩
  obtain ⟨v, xs, e, hr, hb, hx⟩ := deep_slice Tryd.underlying22 (deep_at hf 0 22 0 1 rfl (by kernel_rfl))
  simp only [List.drop_zero, List.take_succ_cons, List.take_zero, List.cons.injEq, and_true] at e
  subst e
  rw [show Tryd.prog.bytesOf 58 = 48 from by kernel_rfl] at hb
  rw [show Tryd.prog.cellsOf 58 = 3 from by kernel_rfl] at hr
  obtain ⟨l, rfl, hz⟩ := typed (fun x hxm => open_file (hx x hxm))
  have hs : Sl cFile 3 w c0 l := hr (by decide)
  exact ⟨c0, l, rfl, hs, hz, Nat.le_trans (by simpa [reachBytes] using hb) (by decide)⟩
end Go.Proofs.YtfaghpdhinfblaaDoor
