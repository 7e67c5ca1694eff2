/- slices.Clone at the program's element types: a new slice of the call's own, with the same elements. -/
import Derived.Test.YtkogdnkifnhljaaDoorTypes
namespace Go.Proofs.YtkogdnkifnhljaaDoor
open Go.RowKit
set_option maxHeartbeats 400000 in
theorem cloneWatch (v : Value) (l : List Watch) (w : World) (h : Sl cWatch 3 w v l) (hn : l.length * 32 ≤ 140737488355328) (hm : l.length ≤ maxLen) :
    Calls Tryd.prog 58 #[v] w (Owned cWatch 3 35 l w) := by
  have qT : ∀ (w : World) (a : Option Addr) (n c n' c' : Nat), (binOp .eql 33 (.slice a n c) (.slice none n' c')).run Tryd.prog w = .ok (.bool a.isNone) w := fun w a n c n' c' => Lib.run_eql_slice_nil w _ _ a n c n' c' Tryd.underlying33
  obtain ⟨A, c, rfl, h1, h2⟩ := h.form
  cases A with
  | none =>
    obtain rfl := h.none_nil
    clear h
    go_enter Tryd.func58, Tryd.ntmps58
    go_wp2
    go_ret
    exact Owned.mk (Ow.nil _ _ _ _ _) (Below.refl _ _)
  | some a =>
    have H := Lib.hid h
    clear h
    go_enter Tryd.func58, Tryd.ntmps58
    go_wp2_with (at_builtin; refine wpList_app _ rfl (.tmp 5) (.tmp 6) _ rfl elWatch rfl rfl (ow_lit0 _ _ _ _) (H.out.alloc _) cWatch_one (by simpa using hm) (by simpa using hn) (by simp) ?_; intro v' w1 hown hg hat)
    go_ret
    exact Owned.mk hown (((Below.refl _ _).alloc (Nat.le_refl _) _).grown hg (by simp) (by intro k hk; simp [Value.ownBlock, Act.eval] at hk; omega))
end Go.Proofs.YtkogdnkifnhljaaDoor
