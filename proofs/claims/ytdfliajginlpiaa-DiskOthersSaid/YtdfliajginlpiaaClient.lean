/- Contracts of package client: New, copied, See, and the laws' 'starts'. -/
import Derived.Test.YtdfliajginlpiaaClone
namespace Go.Proofs.Ytdfliajginlpiaa
open Go.RowKit
/-- an end: what came back, its cache new -/
def ClIs (s n : Int) (l : List Entry) (w : World) (e : Ending) (w' : World) : Prop := ∃ A c, e = .returned (.agg #[.int .i64 s, .int .i64 n, .slice A l.length c]) ∧ Ow cEntry 3 28 w' w.heap.size (.slice A l.length c) l ∧ Below w.heap.size w w'
/-- an end and an error's number -/
def ClIs2 (s n : Int) (l : List Entry) (c : Int) (w : World) (e : Ending) (w' : World) : Prop := ∃ A k, e = .returned (.tuple #[.agg #[.int .i64 s, .int .i64 n, .slice A l.length k], .int .i64 c]) ∧ Sl cEntry 3 w' (.slice A l.length k) l ∧ Below w.heap.size w w'
theorem clNew_ok (s : Int) (w : World) (h0 : 1 ≤ s) (h1 : s ≤ 2147483647) :
    Calls Try.prog 28 #[.int .i64 s] w fun e w' => e = .returned (.tuple #[.agg #[.int .i64 s, .int .i64 0, .slice none 0 0], .int .i64 0]) ∧ Below w.heap.size w w' := by
  go_enter Try.func28, Try.ntmps28
  go_wp2
  exact bodyPost_ret (v := .tuple #[.agg #[.int .i64 s, .int .i64 0, .slice none 0 0], .int .i64 0]) (by simp [results, Try.results28, go_sem]) rfl ⟨rfl, (Below.refl _ _).alloc (Nat.le_refl _) _⟩
theorem clNew_no (s : Int) (w : World) (h : s < 1 ∨ 2147483647 < s) :
    Calls Try.prog 28 #[.int .i64 s] w fun e w' => e = .returned (.tuple #[.agg #[.int .i64 0, .int .i64 0, .slice none 0 0], .int .i64 3]) ∧ Below w.heap.size w w' := by
  go_enter Try.func28, Try.ntmps28
  go_wp2
  all_goals
    exact bodyPost_ret (v := .tuple #[.agg #[.int .i64 0, .int .i64 0, .slice none 0 0], .int .i64 3]) (by simp [results, Try.results28, go_sem]) rfl ⟨rfl, (Below.refl _ _).alloc (Nat.le_refl _) _⟩
theorem starts_any (w : World) :
    Calls Try.prog 12 #[] w fun e w' => e = .returned (.bool true) ∧ Below w.heap.size w w' := by
  go_enter Try.func12, Try.ntmps12
  go_wp2_with (go_at_call 28; refine (clNew_ok _ _ (by omega) (by omega)).mono ?_; rintro e w' ⟨rfl, hb⟩)
  go_ret
  exact ⟨rfl, hb.alloc hb.size _⟩
set_option maxHeartbeats 400000 in
theorem clCopied (s n : Int) (v : Value) (l : List Entry) (w : World) (h : Sl cEntry 3 w v l) (hn : l.length * 40 ≤ 140737488355328) (hm : l.length ≤ maxLen) :
    Calls Try.prog 26 #[.agg #[.int .i64 s, .int .i64 n, v]] w (ClIs s n l w) := by
  obtain ⟨A, c, rfl, h1, h2⟩ := h.form
  have H := Lib.hid h
  clear h
  go_enter Try.func26, Try.ntmps26
  go_wp2_with (go_at_call 41; refine (cloneEntry _ _ _ ((H.out.alloc _).alloc _) hn hm).mono ?_; rintro e w1 ⟨A', c', rfl, hown, hb⟩; obtain ⟨ext, d, rfl⟩ := Below.grown_eq _ hb)
  refine bodyPost_ret (v := .agg #[.int .i64 s, .int .i64 n, .slice A' l.length c']) (by simp [results, Try.results26, go_sem]) rfl ⟨A', c', rfl, ?_, ?_⟩
  · exact (hown.regrow (Nat.le_refl _) (by simp)).mono (by simp; omega)
  · exact (by repeat (first | exact Below.refl _ _ | assumption | refine Below.drew ?_ | refine Below.drewN' ?_ _ | refine below_grow0 _ _ ?_ | refine below_alloc0 _ ?_ | refine Below.alloc ?_ (by first | omega | (simp; done) | (simp; omega)) _ | refine Below.setCell ?_ (by first | omega | (simp; done) | (simp; omega)) _ | refine Below.grow _ _ _ ?_ (by first | omega | (simp; done) | (simp; omega))))
/- See: an end behind an answer that is not older -/
end Go.Proofs.Ytdfliajginlpiaa
