/- the laws' helpers on disks: copied, sameDisk, pick. -/
import Derived.Test.YtdfliajginlpiaaDisk6
namespace Go.Proofs.Ytdfliajginlpiaa
open Go.RowKit Go.ChangeShapes Go.WideShapes Go.ChangeAt
theorem retI {k : IntKind} {a b : Int} (h : a = b) : Ending.returned (.int k a) = Ending.returned (.int k b) := by rw [h]
theorem lawCopied (v : Value) (l : List File) (w : World) (h : Sl cFile 3 w v l) (hn : l.length * 48 ≤ 140737488355328) :
    Calls Try.prog 14 #[.agg #[v]] w (DkIs l w) := by
  obtain ⟨A, c, rfl, h1, h2⟩ := h.form
  have H := Lib.hid h
  clear h
  go_enter Try.func14, Try.ntmps14
  go_wp2_with (at_builtin; refine wpList_app _ rfl (.const (.slice none 0 0)) (.tmp 4) _ rfl elFile (B := w.heap.size + 1 + 1) (m := l) rfl rfl (Ow.nil _ _ _ _ _) ((H.out.alloc _).alloc _) cFile_one (by simp [maxLen]; omega) (by simpa using hn) (by simp) ?_; intro v1 w1 hown1 hg1 _; rw [List.nil_append] at hown1; obtain ⟨A1, c1, rfl, _⟩ := hown1.form; have HO1 := Lib.hid hown1; obtain ⟨ext1, d1, rfl⟩ := Below.grown_eq _ (Below.of_grown hg1); clear hown1 hg1)
  refine bodyPost_ret (v := .agg #[.slice A1 l.length c1]) (by simp [results, Try.results14, go_sem]) rfl ⟨A1, c1, rfl, (HO1.out.regrow (by simp) (by simp)).mono (by omega), (by repeat (first | exact Below.refl _ _ | assumption | refine Below.drew ?_ | refine Below.drewN' ?_ _ | refine below_grow0 _ _ ?_ | refine below_alloc0 _ ?_ | refine Below.alloc ?_ (by first | omega | (simp; done) | (simp; omega)) _ | refine Below.setCell ?_ (by first | omega | (simp; done) | (simp; omega)) _ | refine Below.grow _ _ _ ?_ (by first | omega | (simp; done) | (simp; omega))))⟩
theorem sameDisk_eq (v v2 : Value) (l : List File) (w : World) (h : Sl cFile 3 w v l) (h2 : Sl cFile 3 w v2 l) (hn : l.length ≤ 140737488355328) :
    Calls Try.prog 17 #[.agg #[v], .agg #[v2]] w fun e w' => e = .returned (.bool true) ∧ Below w.heap.size w w' := by
  obtain ⟨A, c, rfl, hc1, hc2⟩ := h.form
  obtain ⟨A2, c2, rfl, hc3, hc4⟩ := h2.form
  have H := Lib.hid h
  have H2 := Lib.hid h2
  clear h h2
  go_enter Try.func17, Try.ntmps17
  go_wp2_with fail
  go_loopw [5] (fun i wr => ∃ (k : Nat) (ext : Array Obj) (d : Nat), k ≤ l.length ∧ i = .int .i64 k ∧ wr = grow ((w.alloc (.cells #[.slice A l.length c] 40)).alloc (.cells #[.slice A2 l.length c2] 40)) ext d) (fun i _ => l.length - (intOf i).toNat)
  case atStart => exact ⟨0, _, _, Nat.zero_le _, rfl, grown_of (by repeat (first | exact Below.refl _ _ | assumption | refine Below.drew ?_ | refine Below.drewN' ?_ _ | refine below_grow0 _ _ ?_ | refine below_alloc0 _ ?_ | refine Below.alloc ?_ (by first | omega | (simp; done) | (simp; omega)) _ | refine Below.setCell ?_ (by first | omega | (simp; done) | (simp; omega)) _ | refine Below.grow _ _ _ ?_ (by first | omega | (simp; done) | (simp; omega))))⟩
  case round =>
    obtain ⟨k, ext, d, hk, rfl, rfl⟩ := hrel
    by_cases hlt : k < l.length
    · have hx : l[k]? = some (l[k]'hlt) := List.getElem?_eq_getElem _
      obtain ⟨b, off, rfl, _, x0, x1, x2⟩ := H.out.File_at hx
      obtain ⟨b2, off2, rfl, _, y0, y1, y2⟩ := H2.out.File_at hx
      generalize l[k]'hlt = x at *
      clear hx
      go_wp2_with fail
      go_quiet (fail)
      go_wp2_with fail
      go_roundw
      case rel => exact ⟨k + 1, _, _, by omega, by go_num, grown_of (by repeat (first | exact Below.refl _ _ | assumption | refine Below.drew ?_ | refine Below.drewN' ?_ _ | refine below_grow0 _ _ ?_ | refine below_alloc0 _ ?_ | refine Below.alloc ?_ (by first | omega | (simp; done) | (simp; omega)) _ | refine Below.setCell ?_ (by first | omega | (simp; done) | (simp; omega)) _ | refine Below.grow _ _ _ ?_ (by first | omega | (simp; done) | (simp; omega))))⟩
      case measure => simp [intOf]; omega
    · go_wp2_with fail
      go_ret
      exact ⟨rfl, (by repeat (first | exact Below.refl _ _ | assumption | refine Below.drew ?_ | refine Below.drewN' ?_ _ | refine below_grow0 _ _ ?_ | refine below_alloc0 _ ?_ | refine Below.alloc ?_ (by first | omega | (simp; done) | (simp; omega)) _ | refine Below.setCell ?_ (by first | omega | (simp; done) | (simp; omega)) _ | refine Below.grow _ _ _ ?_ (by first | omega | (simp; done) | (simp; omega))))⟩
theorem pick_is (k : Int) (n : Nat) (w : World) (h0 : 0 < n) (h1 : n ≤ 140737488355328) :
    Calls Try.prog 16 #[.int .i64 k, .int .i64 n] w fun e w' => ∃ f : Nat, f < n ∧ e = .returned (.int .i64 f) ∧ w = w' := by
  have ht1 : -(n : Int) < k.tmod n := by
    have := Int.tmod_lt_of_pos (-k) (show (0 : Int) < n by omega)
    rw [Int.neg_tmod] at this
    omega
  have ht2 : k.tmod n < (n : Int) := Int.tmod_lt_of_pos _ (by omega)
  generalize hq : k.tmod n = q at *
  by_cases hn : q < 0
  · go_enter Try.func16, Try.ntmps16
    go_wp2
    go_ret
    exact ⟨(q + n).toNat, by omega, retI (by omega), rfl⟩
  · go_enter Try.func16, Try.ntmps16
    go_wp2
    go_ret
    exact ⟨q.toNat, by omega, retI (by omega), rfl⟩
end Go.Proofs.Ytdfliajginlpiaa
