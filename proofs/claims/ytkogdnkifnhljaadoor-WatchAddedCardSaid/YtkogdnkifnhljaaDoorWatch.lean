/- the laws' helpers on watches: kept, sameWatches, tells. -/
import Derived.Test.YtkogdnkifnhljaaDoorFire3
namespace Go.Proofs.YtkogdnkifnhljaaDoor
open Go.RowKit Go.ChangeShapes Go.WideShapes Go.ChangeAt
theorem kept_is (v : Value) (l : List Watch) (w : World) (h : Sl cWatch 3 w v l) (hn : l.length * 32 ≤ 140737488355328) :
    Calls Tryd.prog 21 #[v] w (Owned cWatch 3 35 l w) := by
  have H := Lib.hid h
  clear h
  go_enter Tryd.func21, Tryd.ntmps21
  go_wp2_with (at_builtin; refine wpList_app _ rfl (.const (.slice none 0 0)) (.tmp 3) _ rfl elWatch (B := w.heap.size) (m := l) rfl rfl (Ow.nil _ _ _ _ _) H.out cWatch_one (by simp [maxLen]; omega) (by simpa using hn) (Nat.le_refl _) ?_; intro v1 w1 hown1 hg1 _)
  rw [List.nil_append] at hown1
  obtain ⟨A1, c1, rfl, _⟩ := hown1.form
  refine bodyPost_ret (v := .slice A1 l.length c1) (by simp [results, Tryd.results21, go_sem]) rfl (Owned.mk hown1 (Below.of_grown hg1))
theorem sameWatches_eq (v v2 : Value) (l : List Watch) (w : World) (h : Sl cWatch 3 w v l) (h2 : Sl cWatch 3 w v2 l) (hn : l.length ≤ 140737488355328) :
    Calls Tryd.prog 23 #[v, v2] w fun e w' => e = .returned (.bool true) ∧ Below w.heap.size w w' := by
  obtain ⟨A, c, rfl, hc1, hc2⟩ := h.form
  obtain ⟨A2, c2, rfl, hc3, hc4⟩ := h2.form
  have H := Lib.hid h
  have H2 := Lib.hid h2
  clear h h2
  go_enter Tryd.func23, Tryd.ntmps23
  go_wp2_with fail
  go_loopw [5] (fun i wr => ∃ (k : Nat) (ext : Array Obj) (d : Nat), k ≤ l.length ∧ i = .int .i64 k ∧ wr = grow w ext d) (fun i _ => l.length - (intOf i).toNat)
  case atStart => exact ⟨0, _, _, Nat.zero_le _, rfl, grown_of (by repeat (first | exact Below.refl _ _ | assumption | refine Below.drew ?_ | refine Below.drewN' ?_ _ | refine below_grow0 _ _ ?_ | refine below_alloc0 _ ?_ | refine Below.alloc ?_ (by first | omega | (simp; done) | (simp; omega)) _ | refine Below.setCell ?_ (by first | omega | (simp; done) | (simp; omega)) _ | refine Below.grow _ _ _ ?_ (by first | omega | (simp; done) | (simp; omega))))⟩
  case round =>
    obtain ⟨k, ext, d, hk, rfl, rfl⟩ := hrel
    by_cases hlt : k < l.length
    · have hx : l[k]? = some (l[k]'hlt) := List.getElem?_eq_getElem _
      obtain ⟨b, off, rfl, _, x0, x1, x2⟩ := H.out.Watch_at hx
      obtain ⟨b2, off2, rfl, _, y0, y1, y2⟩ := H2.out.Watch_at hx
      generalize l[k]'hlt = x at *
      clear hx
      go_wp2_with fail
      go_quiet (fail)
      go_wp2_with fail
      go_roundw
      case rel => exact ⟨k + 1, _, _, by omega, by go_num, grown_of (by repeat (first | exact Below.refl _ _ | assumption | refine Below.drew ?_ | refine Below.drewN' ?_ _ | refine below_grow0 _ _ ?_ | refine below_alloc0 _ ?_ | refine Below.alloc ?_ (by first | omega | (simp; done) | (simp; omega)) _ | refine Below.setCell ?_ (by first | omega | (simp; done) | (simp; omega)) _ | refine Below.grow _ _ _ ?_ (by first | omega | (simp; done) | (simp; omega))))⟩
      case measure => simp [intOf]; omega
    · go_wp2_with fail
      go_ret
      exact ⟨rfl, (by repeat (first | exact Below.refl _ _ | assumption | refine Below.drew ?_ | refine Below.drewN' ?_ _ | refine below_grow0 _ _ ?_ | refine below_alloc0 _ ?_ | refine Below.alloc ?_ (by first | omega | (simp; done) | (simp; omega)) _ | refine Below.setCell ?_ (by first | omega | (simp; done) | (simp; omega)) _ | refine Below.grow _ _ _ ?_ (by first | omega | (simp; done) | (simp; omega))))⟩
def watch1 : Watch := ⟨1, 1, ⟨#[47]⟩⟩
def event3 : Event := ⟨3, ⟨#[47]⟩⟩
theorem tells_any (w : World) : Calls Tryd.prog 22 #[] w fun e w' => e = .returned (.bool true) ∧ Below w.heap.size w w' := by
  have HF := Lib.hid (fun (W : World) (v v2 : Value) (h : Sl cWatch 3 W v [watch1]) (h2 : Sl cEvent 2 W v2 [event3]) => show Calls Tryd.prog 42 #[v, v2] W fun e w' => ∃ A c A2, e = .returned (.tuple #[.slice A 1 c, .slice A2 0 0]) ∧ Below W.heap.size W w' from by
    refine (fire_is v v2 _ _ W h h2 (by decide) (by decide)).mono ?_
    rintro e w' ⟨A, c, A2, rfl, _, _, hb⟩
    exact ⟨A, c, A2, rfl, hb⟩)
  go_enter Tryd.func22, Tryd.ntmps22
  go_wp2_with (first | (go_at_call 42; refine (HF.out _ _ _ ((Sl.one_at cWatch 3 _ _ _ rfl _ rfl (by omega) (by simp)).alloc _) (Sl.one_at cEvent 2 _ _ _ rfl _ rfl (by omega) (by simp))).mono ?_; rintro e w1 ⟨A, c, A2, rfl, hb⟩; obtain ⟨ext, d, rfl⟩ := Below.grown_eq _ hb; clear hb))
  go_ret
  exact ⟨rfl, (by repeat (first | exact Below.refl _ _ | assumption | refine Below.drew ?_ | refine Below.drewN' ?_ _ | refine below_grow0 _ _ ?_ | refine below_alloc0 _ ?_ | refine Below.alloc ?_ (by first | omega | (simp; done) | (simp; omega)) _ | refine Below.setCell ?_ (by first | omega | (simp; done) | (simp; omega)) _ | refine Below.grow _ _ _ ?_ (by first | omega | (simp; done) | (simp; omega))))⟩
end Go.Proofs.YtkogdnkifnhljaaDoor
