/- writing one element of a row of one's own; a row in a grown world. -/
import Derived.Test.YtkogdnkifnhljaaDoorOwn
namespace Go.Proofs.YtkogdnkifnhljaaDoor
open Go.RowKit
theorem Bk.put {w : World} {g : Nat} {cs : List Value} {t : TypeId} (h : Bk w g cs t) (j : Nat) (v : Value) : Bk (w.setCell ⟨g, j, none⟩ v) g (cs.set j v) t := by
  have hlt := h.lt
  unfold Bk at h ⊢
  unfold World.setCell
  simp only [Array.getElem?_modify, h]
  simp
theorem grownBy_setCell (w : World) (g j : Nat) (v : Value) : w.grownBy (w.setCell ⟨g, j, none⟩ v) (some g) := by
  refine ⟨rfl, rfl, rfl, by simp [World.setCell], fun k hk hne => ?_⟩
  unfold World.setCell
  simp only [Array.getElem?_modify]
  split
  · rename_i e; subst e; exact absurd rfl hne
  · rfl
theorem Bk.puts {g : Nat} {t : TypeId} : ∀ (vs : List Value) (o : Nat) {w : World} {cs : List Value}, Bk w g cs t → o + vs.length ≤ cs.length → Bk (w.setCells g o vs) g (splice cs o vs) t
  | [], o, w, cs, h, _ => by simpa [World.setCells, splice] using h
  | v :: r, o, w, cs, h, hl => by
    have := Bk.puts (t := t) r (o + 1) (h.put o v) (by simp at hl ⊢; omega)
    rw [World.setCells]
    have e : splice (cs.set o v) (o + 1) r = splice cs o (v :: r) := by
      simp only [List.length_cons] at hl
      unfold splice
      have h1 : (cs.set o v).take (o + 1) = cs.take o ++ [v] := by
        rw [List.take_add_one, List.getElem?_set_self (by omega), List.take_set_of_le (by omega)]
        rfl
      rw [h1, List.drop_set_of_lt (by omega), List.length_cons, show o + (r.length + 1) = o + 1 + r.length from by omega]
      simp
    rw [← e]
    exact this
theorem grownBy_setCells (g : Nat) : ∀ (vs : List Value) (o : Nat) (w : World), w.grownBy (w.setCells g o vs) (some g)
  | [], _, _ => World.grownBy.refl _ _
  | v :: r, o, w => (grownBy_setCell w g o v).trans (grownBy_setCells g r (o + 1) _)
theorem flatMap_set {α : Type} {f : α → List Value} {s : Nat} {l : List α} (hf : ∀ x ∈ l, (f x).length = s) {k : Nat} (hk : k < l.length) (x : α) (hx : (f x).length = s) (J : List Value) : splice (l.flatMap f ++ J) (k * s) (f x) = (l.set k x).flatMap f ++ J := by
  have e : l = l.take k ++ l[k] :: l.drop (k + 1) := by rw [List.getElem_cons_drop, List.take_append_drop]
  have hA : ((l.take k).flatMap f).length = k * s := by rw [flatMap_length (fun y hy => hf y (List.mem_of_mem_take hy)), List.length_take, Nat.min_eq_left (by omega)]
  have hm : (f l[k]).length = s := hf _ (List.getElem_mem _)
  have e2 : l.set k x = l.take k ++ x :: l.drop (k + 1) := by rw [List.set_eq_take_append_cons_drop, if_pos hk]
  rw [e2]
  have e3 : l.flatMap f = (l.take k).flatMap f ++ (f l[k] ++ (l.drop (k + 1)).flatMap f) := by
    conv => lhs; rw [e]
    rw [List.flatMap_append, List.flatMap_cons]
  rw [e3]
  unfold splice
  rw [List.append_assoc, ← hA, List.take_left, List.flatMap_append, List.flatMap_cons]
  have e4 : ((l.take k).flatMap f ++ (f l[k] ++ (l.drop (k + 1)).flatMap f ++ J)).drop (((l.take k).flatMap f).length + (f x).length) = (l.drop (k + 1)).flatMap f ++ J := by
    rw [List.append_assoc, ← List.drop_drop, List.drop_left, hx, ← hm, List.drop_left]
  rw [e4]
  simp
/-- a row of one's own, one element written -/
theorem Ow.put {α : Type} {f : α → List Value} {s : Nat} {e : TypeId} {w : World} {B n c g : Nat} {l : List α} {cur J : List Value} (hf : ∀ x ∈ l, (f x).length = s) (hb : Bk w g cur e) (hcur : cur = l.flatMap f ++ J) (hl : cur.length = c * s) (hB : B ≤ g) (hn : n = l.length) (hc : n ≤ c) (hcm : c ≤ maxLen)
    {k : Nat} (hk : k < l.length) (x : α) (hx : (f x).length = s) : Ow f s e (w.setCells g (k * s) (f x)) B (.slice (some ⟨g, 0, none⟩) n c) (l.set k x) := by
  have hks : k * s + (f x).length ≤ cur.length := by
    rw [hl, hx]
    calc k * s + s = (k + 1) * s := (Nat.succ_mul k s).symm
      _ ≤ c * s := Nat.mul_le_mul_right s (by omega)
  have h1 := hb.puts (f x) (k * s) hks
  rw [hcur, flatMap_set hf hk x hx J] at h1
  have hlen : (l.set k x).length = n := by rw [List.length_set, hn]
  rw [← hlen]
  refine ⟨⟨flatMap_length (fun y hy => ?_), .inr ⟨g, c, ((l.set k x).flatMap f ++ J).toArray, rfl, hB, h1, by omega, hcm, ?_, ?_⟩⟩, fun y hy => ?_⟩
  · rcases List.mem_or_eq_of_mem_set hy with h | rfl
    · exact hf y h
    · exact hx
  · have h2 := splice_length (l.flatMap f ++ J) (k * s) (f x) (by rw [← hcur]; exact hks)
    rw [flatMap_set hf hk x hx J, ← hcur] at h2
    simp only [List.size_toArray]
    rw [h2, hl]
  · rw [← flatMap_length (f := f) (s := s) (fun y hy => by rcases List.mem_or_eq_of_mem_set hy with h | rfl; exact hf y h; exact hx)]
    simp
  · rcases List.mem_or_eq_of_mem_set hy with h | rfl
    · exact hf y h
    · exact hx
theorem grown_after {W w w' : World} {row : Option Nat} (hb : Below W.heap.size W w) (hg : w.grownBy w' row) (hrow : ∀ k, row = some k → W.heap.size ≤ k) : ∃ ext d, w' = grow W ext d :=
  Below.grown_eq _ (hb.grown hg hb.size hrow)
theorem Ow.own_in {α : Type} {f : α → List Value} {s : Nat} {e : TypeId} {w : World} {B : Nat} {v : Value} {l : List α} (h : Ow f s e w B v l) {k : Nat} (hk : v.ownBlock = some k) : B ≤ k ∧ k < w.heap.size := by
  rcases h.1.2 with ⟨rfl, _⟩ | ⟨g, cap, cur, rfl, hB, hg, _⟩
  · simp [Value.ownBlock] at hk
  · obtain rfl : g = k := by simpa [Value.ownBlock] using hk
    exact ⟨hB, (Array.getElem?_eq_some_iff.1 hg).1⟩
theorem Bk.regrow {W W' : World} {ext : Array Obj} {d d' g : Nat} {cs : List Value} {t : TypeId} (h : Bk (grow W ext d) g cs t) (hg : W.heap.size ≤ g) (hs : W'.heap.size = W.heap.size) : Bk (grow W' ext d') g cs t := by
  unfold Bk grow at h ⊢
  simp only [Array.getElem?_append] at h ⊢
  rw [if_neg (by omega)] at h
  rw [if_neg (by omega), hs]
  exact h
/-- what the walk asks of the cells of one's own row, two layers deep -/
theorem Bk.cells2 {W : World} {ext : Array Obj} {d g n : Nat} {cs : List Value} {t : TypeId} (h : Bk (grow W ext d) g cs t) (hg : n ≤ g) (hn : W.heap.size = n) (j : Nat) (v : Value) (hv : cs[j]? = some v) :
    (∀ (W' : World) (d' : Nat) (e1 : Array Obj) (d1 : Nat), W'.heap.size = n → (grow (grow W' ext d') e1 d1).cell? ⟨g, j, none⟩ = some v) ∧ (∀ (W' : World) (d' : Nat) (e1 : Array Obj) (d1 : Nat), W'.heap.size = n → (grow (grow W' ext d') e1 d1).frozen? ⟨g, j, none⟩ = false) := by
  constructor
  · intro W' d' e1 d1 hs
    have h2 := (h.regrow (W' := W') (d' := d') (by omega) (by omega)).below (below_grow0 e1 d1 (Below.refl _ _))
    rw [h2.cell, hv]
  · intro W' d' e1 d1 hs
    have h2 := (h.regrow (W' := W') (d' := d') (by omega) (by omega)).below (below_grow0 e1 d1 (Below.refl _ _))
    exact h2.frozen _
/-- one's own row, its q-th element's cells laid open for a store -/
theorem Ow.open3 {α : Type} {f : α → List Value} {e : TypeId} {W : World} {ext : Array Obj} {d B N n c q : Nat} {A : Option Addr} {l : List α} (h : Ow f 3 e (grow W ext d) B (.slice A n c) l) (hB : N ≤ B) (hN : W.heap.size = N) (hq : q < l.length) :
    ∃ g J, A = some ⟨g, 0, none⟩ ∧ N ≤ g ∧ Bk (grow W ext d) g (l.flatMap f ++ J) e ∧ (l.flatMap f ++ J).length = c * 3 ∧ n ≤ c ∧ c ≤ maxLen ∧ n = l.length ∧ ∃ v0 v1 v2,
      (∀ (W' : World) (d' : Nat) (e1 : Array Obj) (d1 : Nat), W'.heap.size = N → (grow (grow W' ext d') e1 d1).cell? ⟨g, q * 3, none⟩ = some v0) ∧ (∀ (W' : World) (d' : Nat) (e1 : Array Obj) (d1 : Nat), W'.heap.size = N → (grow (grow W' ext d') e1 d1).frozen? ⟨g, q * 3, none⟩ = false) ∧
      (∀ (W' : World) (d' : Nat) (e1 : Array Obj) (d1 : Nat), W'.heap.size = N → (grow (grow W' ext d') e1 d1).cell? ⟨g, q * 3 + 1, none⟩ = some v1) ∧ (∀ (W' : World) (d' : Nat) (e1 : Array Obj) (d1 : Nat), W'.heap.size = N → (grow (grow W' ext d') e1 d1).frozen? ⟨g, q * 3 + 1, none⟩ = false) ∧
      (∀ (W' : World) (d' : Nat) (e1 : Array Obj) (d1 : Nat), W'.heap.size = N → (grow (grow W' ext d') e1 d1).cell? ⟨g, q * 3 + 2, none⟩ = some v2) ∧ (∀ (W' : World) (d' : Nat) (e1 : Array Obj) (d1 : Nat), W'.heap.size = N → (grow (grow W' ext d') e1 d1).frozen? ⟨g, q * 3 + 2, none⟩ = false) := by
  have hnl : n = l.length := by obtain ⟨_, _, h1, _⟩ := h.form; injection h1
  obtain ⟨g, J, rfl, hg, hb, hl, h1, h2, h3⟩ := h.blk (by omega)
  obtain ⟨x0, y0⟩ := hb.cells2 (n := N) (by omega) hN (q * 3) _ (List.getElem?_eq_getElem (by rw [hl]; omega))
  obtain ⟨x1, y1⟩ := hb.cells2 (n := N) (by omega) hN (q * 3 + 1) _ (List.getElem?_eq_getElem (by rw [hl]; omega))
  obtain ⟨x2, y2⟩ := hb.cells2 (n := N) (by omega) hN (q * 3 + 2) _ (List.getElem?_eq_getElem (by rw [hl]; omega))
  exact ⟨g, J, rfl, by omega, hb, hl, h1, h2, h3, _, _, _, x0, y0, x1, y1, x2, y2⟩
theorem Below.put {w w1 : World} {g j : Nat} {v : Value} (h : Below w.heap.size w w1) (hg : w.heap.size ≤ g) : Below w.heap.size w (w1.setCell ⟨g, j, none⟩ v) :=
  h.grown (grownBy_setCell w1 g j v) h.size (by rintro k ⟨⟩; exact hg)
theorem Ow.far {α : Type} {f : α → List Value} {s : Nat} {e : TypeId} {w : World} {B n c g g2 j : Nat} {l : List α} {v : Value} (h : Ow f s e w B (.slice (some ⟨g, 0, none⟩) n c) l) (hg : g ≠ g2) : Ow f s e (w.setCell ⟨g2, j, none⟩ v) B (.slice (some ⟨g, 0, none⟩) n c) l :=
  h.kept (grownBy_setCell w g2 j v) (.inr (by simpa [Value.ownBlock] using hg))
theorem Ow.put3 {α : Type} {f : α → List Value} {e : TypeId} {w : World} {B n c g : Nat} {l : List α} {J : List Value} {a0 a1 a2 : Value} {L : List α} (hf : ∀ x ∈ l, (f x).length = 3) (hb : Bk w g (l.flatMap f ++ J) e) (hl : (l.flatMap f ++ J).length = c * 3) (hB : B ≤ g) (hn : n = l.length) (hc : n ≤ c) (hcm : c ≤ maxLen)
    {k : Nat} (hk : k < l.length) (x : α) (hx : f x = [a0, a1, a2]) (hL : L = l.set k x) : Ow f 3 e (((w.setCell ⟨g, k * 3, none⟩ a0).setCell ⟨g, k * 3 + 1, none⟩ a1).setCell ⟨g, k * 3 + 2, none⟩ a2) B (.slice (some ⟨g, 0, none⟩) n c) L := by
  subst hL
  have h := Ow.put hf hb rfl hl hB hn hc hcm hk x (by rw [hx]; rfl)
  rw [hx] at h
  exact h
end Go.Proofs.YtkogdnkifnhljaaDoor
