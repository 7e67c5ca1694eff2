/- wire's cursor: text, number. -/
import Derived.Test.YtkogdnkifnhljaaDoorPutB
import Derived.Test.YtkogdnkifnhljaaDoorSmall
namespace Go.Proofs.YtkogdnkifnhljaaDoor
open Go.RowKit Go.ChangeShapes Go.WideShapes Go.ChangeAt
/-- a cursor in the block g -/
def Cur (w : World) (g : Nat) (s : ByteArray) (bad : Bool) : Prop := w.cell? ⟨g, 0, none⟩ = some (.string s) ∧ w.cell? ⟨g, 1, none⟩ = some (.bool bad) ∧ w.frozen? ⟨g, 0, none⟩ = false ∧ w.frozen? ⟨g, 1, none⟩ = false
def badT (s : ByteArray) (bad : Bool) (n : Nat) : Bool := bad || decide (s.size < n)
def takeT (s : ByteArray) (bad : Bool) (n : Nat) : ByteArray := if badT s bad n then ⟨#[]⟩ else s.extract 0 n
def restT (s : ByteArray) (bad : Bool) (n : Nat) : ByteArray := if badT s bad n then s else s.extract n s.size
theorem cur_set0 {w : World} {g : Nat} {s : ByteArray} {bad : Bool} (h : Cur w g s bad) (t : ByteArray) : Cur (w.setCell ⟨g, 0, none⟩ (.string t)) g t bad := by
  obtain ⟨h1, h2, h3, h4⟩ := h
  exact ⟨World.cell?_setCell_same' _ _ _ (by rw [h1]; rfl), (World.cell?_setCell_other _ _ _ _ (fun e => by injection e with _ e; exact absurd e (by decide))).trans h2, (World.frozen?_setCell ..).trans h3, (World.frozen?_setCell ..).trans h4⟩
theorem cur_set1 {w : World} {g : Nat} {s : ByteArray} {bad : Bool} (h : Cur w g s bad) (b : Bool) : Cur (w.setCell ⟨g, 1, none⟩ (.bool b)) g s b := by
  obtain ⟨h1, h2, h3, h4⟩ := h
  exact ⟨(World.cell?_setCell_other _ _ _ _ (fun e => by injection e with _ e; exact absurd e (by decide))).trans h1, World.cell?_setCell_same' _ _ _ (by rw [h2]; rfl), (World.frozen?_setCell ..).trans h3, (World.frozen?_setCell ..).trans h4⟩
set_option maxHeartbeats 1000000 in
theorem text_any (g : Nat) (s : ByteArray) (bad : Bool) (n : Nat) (w : World) (h : Cur w g s bad) (hn : n < 4611686018427387904) (_hs : s.size ≤ 4611686018427387904) :
    Calls Tryd.prog 46 #[.pointer (some ⟨g, 0, none⟩), .int .i64 n] w fun e w' => e = .returned (.string (takeT s bad n)) ∧ Cur w' g (restT s bad n) (badT s bad n) ∧ w.grownBy w' (some g) := by
  have HC := Lib.hid h
  obtain ⟨h1, h2, h3, h4⟩ := h
  unfold takeT restT
  cases bad with
  | true =>
    have hb : badT s true n = true := rfl
    rw [hb]
    simp only [if_true]
    go_enter Tryd.func46, Tryd.ntmps46
    go_wp2_with fail
    go_ret
    exact ⟨rfl, cur_set1 HC.out true, grownBy_setCell _ _ _ _⟩
  | false =>
    by_cases hlt : s.size < n
    · have hb : badT s false n = true := by unfold badT; rw [decide_eq_true hlt]; rfl
      rw [hb]
      simp only [if_true]
      have hi : (decide ((s.size : Int) < (n : Int))) = true := decide_eq_true (by omega)
      clear hb
      go_enter Tryd.func46, Tryd.ntmps46
      go_wp2_with fail
      go_ret
      exact ⟨rfl, cur_set1 HC.out true, grownBy_setCell _ _ _ _⟩
    · have hb : badT s false n = false := by unfold badT; rw [decide_eq_false hlt]; rfl
      rw [hb]
      simp only [Bool.false_eq_true, if_false]
      have hi : (decide ((s.size : Int) < (n : Int))) = false := decide_eq_false (by omega)
      clear hb
      go_enter Tryd.func46, Tryd.ntmps46
      go_wp2_with fail
      go_ret
      exact ⟨rfl, cur_set0 HC.out _, grownBy_setCell _ _ _ _⟩
end Go.Proofs.YtkogdnkifnhljaaDoor
