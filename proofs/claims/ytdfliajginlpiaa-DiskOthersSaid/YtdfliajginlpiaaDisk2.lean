/- package disk: Read. -/
import Derived.Test.YtdfliajginlpiaaDisk
namespace Go.Proofs.Ytdfliajginlpiaa
open Go.RowKit Go.ChangeShapes Go.WideShapes Go.ChangeAt
def fileAt (l : List File) (p : ByteArray) : File := l.getD (posK (l.map File.name) p) ⟨ByteArray.empty, ByteArray.empty, ByteArray.empty⟩
def readE (l : List File) (p : ByteArray) : Int := if goodD l then (if isK (l.map File.name) p then 0 else 7) else 3
def readS (l : List File) (p : ByteArray) : ByteArray := if goodD l && isK (l.map File.name) p then (fileAt l p).safe ++ (fileAt l p).tail else ⟨#[]⟩
theorem isK_in_file {l : List File} {p : ByteArray} (h : isK (l.map File.name) p = true) : posK (l.map File.name) p < l.length := by
  unfold isK at h
  simp at h
  exact h.1
theorem goodD_len {l : List File} (h : goodD l = true) : l.length ≤ 16 := by
  unfold goodD at h
  simp at h
  exact h.1
set_option maxHeartbeats 1000000 in
theorem dkRead (v : Value) (l : List File) (p : ByteArray) (w : World) (h : Sl cFile 3 w v l) (hz : ∀ x ∈ l, x.sized) :
    Calls Try.prog 19 #[.agg #[v], .string p] w fun e w' => e = .returned (.tuple #[.string (readS l p), .int .i64 (readE l p)]) ∧ Below w.heap.size w w' := by
  obtain ⟨A, c, rfl, hc1, hc2⟩ := h.form
  have H := Lib.hid h
  have HG := Lib.hid (fun (W : World) (hs : Sl cFile 3 W (.slice A l.length c) l) => dkGood _ l W hs hz)
  unfold readS readE
  cases hg : goodD l with
  | false =>
    rw [hg] at HG
    clear h hz hg
    simp only [Bool.false_and, Bool.false_eq_true, if_false]
    go_enter Try.func19, Try.ntmps19
    go_wp2_with (first | (go_at_call 21; refine (HG.out _ (H.out.alloc _)).mono ?_; rintro e w1 ⟨rfl, hb⟩; obtain ⟨ext, d, rfl⟩ := Below.grown_eq _ hb; clear hb))
    go_ret2
    exact ⟨rfl, (by repeat (first | exact Below.refl _ _ | assumption | refine Below.drew ?_ | refine Below.drewN' ?_ _ | refine below_grow0 _ _ ?_ | refine below_alloc0 _ ?_ | refine Below.alloc ?_ (by first | omega | (simp; done) | (simp; omega)) _ | refine Below.setCell ?_ (by first | omega | (simp; done) | (simp; omega)) _ | refine Below.grow _ _ _ ?_ (by first | omega | (simp; done) | (simp; omega))))⟩
  | true =>
    rw [hg] at HG
    have hl16 := goodD_len hg
    have hfind := fun (W : World) (v : Value) (hs : Sl cFile 3 W v l) => dkFind v l p W hs (by omega)
    clear hg
    simp only [Bool.true_and, if_true]
    cases hk : isK (l.map File.name) p with
    | false =>
      rw [hk] at hfind
      have HF := Lib.hid hfind
      generalize posK (l.map File.name) p = q at *
      clear h hz hk hfind
      simp only [Bool.false_eq_true, if_false]
      go_enter Try.func19, Try.ntmps19
      go_wp2_with (first | (go_at_call 21; refine (HG.out _ (H.out.alloc _)).mono ?_; rintro e w1 ⟨rfl, hb⟩; obtain ⟨ext, d, rfl⟩ := Below.grown_eq _ hb; clear hb) | (go_at_call 31; refine (HF.out _ _ (H.out.below (by repeat (first | exact Below.refl _ _ | assumption | refine Below.drew ?_ | refine Below.drewN' ?_ _ | refine below_grow0 _ _ ?_ | refine below_alloc0 _ ?_ | refine Below.alloc ?_ (by first | omega | (simp; done) | (simp; omega)) _ | refine Below.setCell ?_ (by first | omega | (simp; done) | (simp; omega)) _ | refine Below.grow _ _ _ ?_ (by first | omega | (simp; done) | (simp; omega)))))).mono ?_; rintro e w1 ⟨rfl, hb⟩; obtain ⟨ext2, d2, rfl⟩ := Below.grown_eq _ hb; clear hb))
      go_ret2
      exact ⟨rfl, (by repeat (first | exact Below.refl _ _ | assumption | refine Below.drew ?_ | refine Below.drewN' ?_ _ | refine below_grow0 _ _ ?_ | refine below_alloc0 _ ?_ | refine Below.alloc ?_ (by first | omega | (simp; done) | (simp; omega)) _ | refine Below.setCell ?_ (by first | omega | (simp; done) | (simp; omega)) _ | refine Below.grow _ _ _ ?_ (by first | omega | (simp; done) | (simp; omega))))⟩
    | true =>
      rw [hk] at hfind
      have HF := Lib.hid hfind
      have hq := isK_in_file hk
      have hx : l[posK (l.map File.name) p]? = some (fileAt l p) := by
        unfold fileAt
        rw [List.getD_eq_getElem?_getD, List.getElem?_eq_getElem hq]
        rfl
      obtain ⟨z0, z1, z2⟩ := hz _ (List.mem_of_getElem? hx)
      obtain ⟨b, off, rfl, hbw, x0, x1, x2⟩ := H.out.File_at hx
      generalize fileAt l p = x at *
      generalize posK (l.map File.name) p = q at *
      clear h hz hk hfind hx
      simp only [if_true]
      go_enter Try.func19, Try.ntmps19
      go_wp2_with (first | (go_at_call 21; refine (HG.out _ (H.out.alloc _)).mono ?_; rintro e w1 ⟨rfl, hb⟩; obtain ⟨ext, d, rfl⟩ := Below.grown_eq _ hb; clear hb) | (go_at_call 31; refine (HF.out _ _ (H.out.below (by repeat (first | exact Below.refl _ _ | assumption | refine Below.drew ?_ | refine Below.drewN' ?_ _ | refine below_grow0 _ _ ?_ | refine below_alloc0 _ ?_ | refine Below.alloc ?_ (by first | omega | (simp; done) | (simp; omega)) _ | refine Below.setCell ?_ (by first | omega | (simp; done) | (simp; omega)) _ | refine Below.grow _ _ _ ?_ (by first | omega | (simp; done) | (simp; omega)))))).mono ?_; rintro e w1 ⟨rfl, hb⟩; obtain ⟨ext2, d2, rfl⟩ := Below.grown_eq _ hb; clear hb))
      go_quiet (fail)
      go_wp2_with fail
      go_ret2
      exact ⟨rfl, (by repeat (first | exact Below.refl _ _ | assumption | refine Below.drew ?_ | refine Below.drewN' ?_ _ | refine below_grow0 _ _ ?_ | refine below_alloc0 _ ?_ | refine Below.alloc ?_ (by first | omega | (simp; done) | (simp; omega)) _ | refine Below.setCell ?_ (by first | omega | (simp; done) | (simp; omega)) _ | refine Below.grow _ _ _ ?_ (by first | omega | (simp; done) | (simp; omega))))⟩
/-- a disk and an error's number -/
def DkRes (l : List File) (c : Int) (w : World) (e : Ending) (w' : World) : Prop := ∃ A k, e = .returned (.tuple #[.agg #[.slice A l.length k], .int .i64 c]) ∧ Ow cFile 3 47 w' w.heap.size (.slice A l.length k) l ∧ Below w.heap.size w w'
def removeL (l : List File) (p : ByteArray) : List File := if goodD l && isK (l.map File.name) p then l.take (posK (l.map File.name) p) ++ l.drop (posK (l.map File.name) p + 1) else []
set_option maxHeartbeats 2000000 in
theorem dkRemove (v : Value) (l : List File) (p : ByteArray) (w : World) (h : Sl cFile 3 w v l) (hz : ∀ x ∈ l, x.sized) :
    Calls Try.prog 23 #[.agg #[v], .string p] w (DkRes (removeL l p) (readE l p) w) := by
  obtain ⟨A, c, rfl, hc1, hc2⟩ := h.form
  have H := Lib.hid h
  have HG := Lib.hid (fun (W : World) (hs : Sl cFile 3 W (.slice A l.length c) l) => dkGood _ l W hs hz)
  unfold removeL readE
  cases hg : goodD l with
  | false =>
    rw [hg] at HG
    clear h hz hg
    simp only [Bool.false_and, Bool.false_eq_true, if_false]
    go_enter Try.func23, Try.ntmps23
    go_wp2_with
      (first | (go_at_call 21; refine (HG.out _ (H.out.below (by repeat (first | exact Below.refl _ _ | assumption | refine Below.drew ?_ | refine Below.drewN' ?_ _ | refine below_grow0 _ _ ?_ | refine below_alloc0 _ ?_ | refine Below.alloc ?_ (by first | omega | (simp; done) | (simp; omega)) _ | refine Below.setCell ?_ (by first | omega | (simp; done) | (simp; omega)) _ | refine Below.grow _ _ _ ?_ (by first | omega | (simp; done) | (simp; omega)))))).mono ?_; rintro e w1 ⟨rfl, hb⟩; obtain ⟨ext, d, rfl⟩ := Below.grown_eq _ hb; clear hb) | (go_at_call 31; refine (HF.out _ _ (H.out.below (by repeat (first | exact Below.refl _ _ | assumption | refine Below.drew ?_ | refine Below.drewN' ?_ _ | refine below_grow0 _ _ ?_ | refine below_alloc0 _ ?_ | refine Below.alloc ?_ (by first | omega | (simp; done) | (simp; omega)) _ | refine Below.setCell ?_ (by first | omega | (simp; done) | (simp; omega)) _ | refine Below.grow _ _ _ ?_ (by first | omega | (simp; done) | (simp; omega)))))).mono ?_; rintro e w1 ⟨rfl, hb⟩; obtain ⟨ext2, d2, rfl⟩ := Below.grown_eq _ hb; clear hb))
    refine bodyPost_ret (v := .tuple #[.agg #[.slice none 0 0], .int .i64 3]) (by simp [results, Try.results23, go_sem]) rfl ⟨none, 0, rfl, Ow.nil _ _ _ _ _, (by repeat (first | exact Below.refl _ _ | assumption | refine Below.drew ?_ | refine Below.drewN' ?_ _ | refine below_grow0 _ _ ?_ | refine below_alloc0 _ ?_ | refine Below.alloc ?_ (by first | omega | (simp; done) | (simp; omega)) _ | refine Below.setCell ?_ (by first | omega | (simp; done) | (simp; omega)) _ | refine Below.grow _ _ _ ?_ (by first | omega | (simp; done) | (simp; omega))))⟩
  | true =>
    rw [hg] at HG
    have hl16 := goodD_len hg
    have hfind := fun (W : World) (v : Value) (hs : Sl cFile 3 W v l) => dkFind v l p W hs (by omega)
    clear hg
    simp only [Bool.true_and, if_true]
    cases hk : isK (l.map File.name) p with
    | false =>
      rw [hk] at hfind
      have HF := Lib.hid hfind
      generalize posK (l.map File.name) p = q at *
      clear h hz hk hfind
      simp only [Bool.false_eq_true, if_false]
      go_enter Try.func23, Try.ntmps23
      go_wp2_with
        (first | (go_at_call 21; refine (HG.out _ (H.out.below (by repeat (first | exact Below.refl _ _ | assumption | refine Below.drew ?_ | refine Below.drewN' ?_ _ | refine below_grow0 _ _ ?_ | refine below_alloc0 _ ?_ | refine Below.alloc ?_ (by first | omega | (simp; done) | (simp; omega)) _ | refine Below.setCell ?_ (by first | omega | (simp; done) | (simp; omega)) _ | refine Below.grow _ _ _ ?_ (by first | omega | (simp; done) | (simp; omega)))))).mono ?_; rintro e w1 ⟨rfl, hb⟩; obtain ⟨ext, d, rfl⟩ := Below.grown_eq _ hb; clear hb) | (go_at_call 31; refine (HF.out _ _ (H.out.below (by repeat (first | exact Below.refl _ _ | assumption | refine Below.drew ?_ | refine Below.drewN' ?_ _ | refine below_grow0 _ _ ?_ | refine below_alloc0 _ ?_ | refine Below.alloc ?_ (by first | omega | (simp; done) | (simp; omega)) _ | refine Below.setCell ?_ (by first | omega | (simp; done) | (simp; omega)) _ | refine Below.grow _ _ _ ?_ (by first | omega | (simp; done) | (simp; omega)))))).mono ?_; rintro e w1 ⟨rfl, hb⟩; obtain ⟨ext2, d2, rfl⟩ := Below.grown_eq _ hb; clear hb))
      refine bodyPost_ret (v := .tuple #[.agg #[.slice none 0 0], .int .i64 7]) (by simp [results, Try.results23, go_sem]) rfl ⟨none, 0, rfl, Ow.nil _ _ _ _ _, (by repeat (first | exact Below.refl _ _ | assumption | refine Below.drew ?_ | refine Below.drewN' ?_ _ | refine below_grow0 _ _ ?_ | refine below_alloc0 _ ?_ | refine Below.alloc ?_ (by first | omega | (simp; done) | (simp; omega)) _ | refine Below.setCell ?_ (by first | omega | (simp; done) | (simp; omega)) _ | refine Below.grow _ _ _ ?_ (by first | omega | (simp; done) | (simp; omega))))⟩
    | true =>
      rw [hk] at hfind
      have HF := Lib.hid hfind
      have hq := isK_in_file hk
      generalize posK (l.map File.name) p = q at *
      clear h hz hk hfind
      simp only [if_true]
      have HQ := Lib.hid hq
      go_enter Try.func23, Try.ntmps23
      go_wp2_with
        (first | (go_at_call 21; refine (HG.out _ (H.out.below (by repeat (first | exact Below.refl _ _ | assumption | refine Below.drew ?_ | refine Below.drewN' ?_ _ | refine below_grow0 _ _ ?_ | refine below_alloc0 _ ?_ | refine Below.alloc ?_ (by first | omega | (simp; done) | (simp; omega)) _ | refine Below.setCell ?_ (by first | omega | (simp; done) | (simp; omega)) _ | refine Below.grow _ _ _ ?_ (by first | omega | (simp; done) | (simp; omega)))))).mono ?_; rintro e w1 ⟨rfl, hb⟩; obtain ⟨ext, d, rfl⟩ := Below.grown_eq _ hb; clear hb) | (go_at_call 31; refine (HF.out _ _ (H.out.below (by repeat (first | exact Below.refl _ _ | assumption | refine Below.drew ?_ | refine Below.drewN' ?_ _ | refine below_grow0 _ _ ?_ | refine below_alloc0 _ ?_ | refine Below.alloc ?_ (by first | omega | (simp; done) | (simp; omega)) _ | refine Below.setCell ?_ (by first | omega | (simp; done) | (simp; omega)) _ | refine Below.grow _ _ _ ?_ (by first | omega | (simp; done) | (simp; omega)))))).mono ?_; rintro e w1 ⟨rfl, hb⟩; obtain ⟨ext2, d2, rfl⟩ := Below.grown_eq _ hb; clear hb))
      refine (dkCopied _ l _ (H.out.below (by repeat (first | exact Below.refl _ _ | assumption | refine Below.drew ?_ | refine Below.drewN' ?_ _ | refine below_grow0 _ _ ?_ | refine below_alloc0 _ ?_ | refine Below.alloc ?_ (by first | omega | (simp; done) | (simp; omega)) _ | refine Below.setCell ?_ (by first | omega | (simp; done) | (simp; omega)) _ | refine Below.grow _ _ _ ?_ (by first | omega | (simp; done) | (simp; omega))))) (by omega) (by simp [maxLen]; omega)).mono ?_
      rintro e w3 ⟨A3, c3, rfl, ho3, hb3⟩
      obtain ⟨ext3, d3, rfl⟩ := Below.grown_eq _ hb3
      have HO3 := Lib.hid ho3
      have hc3 : c3 ≤ 9223372036854775807 := Nat.le_trans ho3.sl.cap_le (Nat.le_of_eq rfl)
      clear hb3 ho3
      go_wp2_with fail
      have HO4 := Lib.hid (HO3.out.regrow (W' := (grow (grow ((w.alloc (.cells #[.slice A3 l.length c3] 40)).alloc (.cells #[.slice none 0 0] 40)) ext d) ext2 d2)) (d' := d3) (Nat.le_refl _) (by simp))
      refine (delFile A3 l.length c3 q l _ _ HO4.out HQ.out hc3).mono ?_
      rintro e w4 ⟨rfl, hd⟩
      have hb4 : Below ((w.alloc (.cells #[.slice A3 l.length c3] 40)).alloc (.cells #[.slice none 0 0] 40)).heap.size ((w.alloc (.cells #[.slice A3 l.length c3] 40)).alloc (.cells #[.slice none 0 0] 40)) w4 :=
        Below.grown (by repeat (first | exact Below.refl _ _ | assumption | refine Below.drew ?_ | refine Below.drewN' ?_ _ | refine below_grow0 _ _ ?_ | refine below_alloc0 _ ?_ | refine Below.alloc ?_ (by first | omega | (simp; done) | (simp; omega)) _ | refine Below.setCell ?_ (by first | omega | (simp; done) | (simp; omega)) _ | refine Below.grow _ _ _ ?_ (by first | omega | (simp; done) | (simp; omega)))) hd.out.2 (by simp; omega) (fun g hg => by have := (Ow.own_in HO4.out hg).1; simp at this ⊢; omega)
      have HD := Lib.hid hd.out.1
      obtain ⟨ext5, d5, rfl⟩ := Below.grown_eq _ hb4
      have hgl : (l.take q ++ l.drop (q + 1)).length = l.length - 1 := by rw [List.length_append, List.length_take, List.length_drop]; have := HQ.out; omega
      have HGN := Lib.hid hgl
      clear hb4 hd hgl
      go_wp2_with fail
      refine bodyPost_ret (v := .tuple #[.agg #[.slice A3 (l.length - 1) c3], .int .i64 0]) (by simp [results, Try.results23, go_sem]) rfl ⟨A3, c3, by rw [HGN.out], ?_, (by repeat (first | exact Below.refl _ _ | assumption | refine Below.drew ?_ | refine Below.drewN' ?_ _ | refine below_grow0 _ _ ?_ | refine below_alloc0 _ ?_ | refine Below.alloc ?_ (by first | omega | (simp; done) | (simp; omega)) _ | refine Below.setCell ?_ (by first | omega | (simp; done) | (simp; omega)) _ | refine Below.grow _ _ _ ?_ (by first | omega | (simp; done) | (simp; omega))))⟩
      rw [HGN.out]
      exact (HD.out.regrow (by simp; omega) (by simp)).mono (by simp; omega)
end Go.Proofs.Ytdfliajginlpiaa
