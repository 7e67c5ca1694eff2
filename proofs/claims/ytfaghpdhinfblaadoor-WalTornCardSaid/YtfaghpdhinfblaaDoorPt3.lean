/- Lemmas for the statement: Disk5, Disk6, DiskLaw, Files, Disk7, Files2, Range, Split, Good. -/
import Derived.RangeFuncNested
import Derived.RangeFuncBound
import Derived.RangeFuncCalls
import Derived.RangeFuncLeaves
import Derived.Shelf.Abstract
import Derived.Shelf.RegionOpen
import Derived.OwnWalkIn
import Derived.TacticsInMore
import Derived.LoopNIn
import Derived.LoopIn
import Derived.Lib.IndexLaws
import Derived.Test.YtfaghpdhinfblaaDoorPt1
import Derived.Test.YtfaghpdhinfblaaDoorPt2
/- package disk: Cut. -/
namespace Go.Proofs.YtfaghpdhinfblaaDoor
open Go.RowKit Go.ChangeShapes Go.WideShapes Go.ChangeAt
def cutF (x : File) (n : Nat) : File := ⟨x.name, (x.safe ++ x.tail).extract 0 n, ⟨#[]⟩⟩
def cutL (l : List File) (p : ByteArray) (n : Int) : List File := if goodD l && isK (l.map File.name) p then (if 0 ≤ n ∧ n ≤ (((fileAt l p).safe ++ (fileAt l p).tail).size : Int) then l.set (posK (l.map File.name) p) (cutF (fileAt l p) n.toNat) else []) else []
def cutE (l : List File) (p : ByteArray) (n : Int) : Int := if goodD l then (if isK (l.map File.name) p then (if 0 ≤ n ∧ n ≤ (((fileAt l p).safe ++ (fileAt l p).tail).size : Int) then 0 else 3) else 7) else 3
set_option maxHeartbeats 2000000 in
theorem dkChangeCut (v : Value) (l : List File) (p : ByteArray) (bn : Nat) (n : Int) (w : World) (h : Sl cFile 3 w v l) (hz : ∀ x ∈ l, x.sized) (cn : w.cell? ⟨bn, 0, none⟩ = some (.int .i64 n)) (hbn : bn < w.heap.size) :
    Calls Tryd.prog 37 #[.agg #[v], .string p, .func (.func 38) #[] #[.pointer (some ⟨bn, 0, none⟩)]] w (DkRes (cutL l p n) (cutE l p n) w) := by
  obtain ⟨A, c, rfl, hc1, hc2⟩ := h.form
  have H := Lib.hid h
  have HG := Lib.hid (fun (W : World) (hs : Sl cFile 3 W (.slice A l.length c) l) => dkGood _ l W hs hz)
  unfold cutL cutE
  cases hg : goodD l with
  | false =>
    rw [hg] at HG
    clear h hz hg
    simp only [Bool.false_and, Bool.false_eq_true, if_false]
    go_enter Tryd.func37, Tryd.ntmps37
    go_wp2_with
      (first | (go_at_call 26; refine (HG.out _ (H.out.below (by repeat (first | exact Below.refl _ _ | assumption | refine Below.drew ?_ | refine Below.drewN' ?_ _ | refine below_grow0 _ _ ?_ | refine below_alloc0 _ ?_ | refine Below.alloc ?_ (by first | omega | (simp; done) | (simp; omega)) _ | refine Below.setCell ?_ (by first | omega | (simp; done) | (simp; omega)) _ | refine Below.grow _ _ _ ?_ (by first | omega | (simp; done) | (simp; omega)))))).mono ?_; rintro e w1 ⟨rfl, hb⟩; obtain ⟨ext, d, rfl⟩ := Below.grown_eq _ hb; clear hb) | (go_at_call 27; refine (HF.out _ _ (H.out.below (by repeat (first | exact Below.refl _ _ | assumption | refine Below.drew ?_ | refine Below.drewN' ?_ _ | refine below_grow0 _ _ ?_ | refine below_alloc0 _ ?_ | refine Below.alloc ?_ (by first | omega | (simp; done) | (simp; omega)) _ | refine Below.setCell ?_ (by first | omega | (simp; done) | (simp; omega)) _ | refine Below.grow _ _ _ ?_ (by first | omega | (simp; done) | (simp; omega)))))).mono ?_; rintro e w1 ⟨rfl, hb⟩; obtain ⟨ext2, d2, rfl⟩ := Below.grown_eq _ hb; clear hb))
    refine bodyPost_ret (v := .tuple #[.agg #[.slice none 0 0], .int .i64 3]) (by simp [results, Tryd.results37, go_sem]) rfl ⟨none, 0, rfl, Ow.nil _ _ _ _ _, (by repeat (first | exact Below.refl _ _ | assumption | refine Below.drew ?_ | refine Below.drewN' ?_ _ | refine below_grow0 _ _ ?_ | refine below_alloc0 _ ?_ | refine Below.alloc ?_ (by first | omega | (simp; done) | (simp; omega)) _ | refine Below.setCell ?_ (by first | omega | (simp; done) | (simp; omega)) _ | refine Below.grow _ _ _ ?_ (by first | omega | (simp; done) | (simp; omega))))⟩
  | true =>
    rw [hg] at HG
    have hl16 := goodD_len hg
    have hfind := fun (W : World) (v : Value) (hs : Sl cFile 3 W v l) => dkFind v l p W hs (by omega)
    clear hg
    simp only [Bool.true_and, if_true]
    cases hk : isK (l.map File.name) p with
    | false =>
      rw [hk] at hfind
      have HF := Lib.hid hfind
      generalize posK (l.map File.name) p = q at *
      clear h hz hk hfind
      simp only [Bool.false_eq_true, if_false]
      go_enter Tryd.func37, Tryd.ntmps37
      go_wp2_with
        (first | (go_at_call 26; refine (HG.out _ (H.out.below (by repeat (first | exact Below.refl _ _ | assumption | refine Below.drew ?_ | refine Below.drewN' ?_ _ | refine below_grow0 _ _ ?_ | refine below_alloc0 _ ?_ | refine Below.alloc ?_ (by first | omega | (simp; done) | (simp; omega)) _ | refine Below.setCell ?_ (by first | omega | (simp; done) | (simp; omega)) _ | refine Below.grow _ _ _ ?_ (by first | omega | (simp; done) | (simp; omega)))))).mono ?_; rintro e w1 ⟨rfl, hb⟩; obtain ⟨ext, d, rfl⟩ := Below.grown_eq _ hb; clear hb) | (go_at_call 27; refine (HF.out _ _ (H.out.below (by repeat (first | exact Below.refl _ _ | assumption | refine Below.drew ?_ | refine Below.drewN' ?_ _ | refine below_grow0 _ _ ?_ | refine below_alloc0 _ ?_ | refine Below.alloc ?_ (by first | omega | (simp; done) | (simp; omega)) _ | refine Below.setCell ?_ (by first | omega | (simp; done) | (simp; omega)) _ | refine Below.grow _ _ _ ?_ (by first | omega | (simp; done) | (simp; omega)))))).mono ?_; rintro e w1 ⟨rfl, hb⟩; obtain ⟨ext2, d2, rfl⟩ := Below.grown_eq _ hb; clear hb))
      refine bodyPost_ret (v := .tuple #[.agg #[.slice none 0 0], .int .i64 7]) (by simp [results, Tryd.results37, go_sem]) rfl ⟨none, 0, rfl, Ow.nil _ _ _ _ _, (by repeat (first | exact Below.refl _ _ | assumption | refine Below.drew ?_ | refine Below.drewN' ?_ _ | refine below_grow0 _ _ ?_ | refine below_alloc0 _ ?_ | refine Below.alloc ?_ (by first | omega | (simp; done) | (simp; omega)) _ | refine Below.setCell ?_ (by first | omega | (simp; done) | (simp; omega)) _ | refine Below.grow _ _ _ ?_ (by first | omega | (simp; done) | (simp; omega))))⟩
    | true =>
      rw [hk] at hfind
      have HF := Lib.hid hfind
      have hq := isK_in_file hk
      have hx : l[posK (l.map File.name) p]? = some (fileAt l p) := by
        unfold fileAt
        rw [List.getD_eq_getElem?_getD, List.getElem?_eq_getElem hq]
        rfl
      obtain ⟨z0, z1, z2⟩ := hz _ (List.mem_of_getElem? hx)
      generalize fileAt l p = x at *
      generalize posK (l.map File.name) p = q at *
      have HX := Lib.hid hx
      clear h hz hk hfind hx
      simp only [if_true]
      have hszx : (x.safe ++ x.tail).size = x.safe.size + x.tail.size := by simp
      by_cases hr : 0 ≤ n ∧ n ≤ ((x.safe ++ x.tail).size : Int)
      · simp only [if_pos hr]
        obtain ⟨m, rfl⟩ := Int.eq_ofNat_of_zero_le hr.1
        have HR : Hid (m ≤ (x.safe ++ x.tail).size) := Lib.hid (by have := hr.2; omega)
        clear hr hszx
        go_enter Tryd.func37, Tryd.ntmps37
        go_wp2_with
          (first | (go_at_call 26; refine (HG.out _ (H.out.below (by repeat (first | exact Below.refl _ _ | assumption | refine Below.drew ?_ | refine Below.drewN' ?_ _ | refine below_grow0 _ _ ?_ | refine below_alloc0 _ ?_ | refine Below.alloc ?_ (by first | omega | (simp; done) | (simp; omega)) _ | refine Below.setCell ?_ (by first | omega | (simp; done) | (simp; omega)) _ | refine Below.grow _ _ _ ?_ (by first | omega | (simp; done) | (simp; omega)))))).mono ?_; rintro e w1 ⟨rfl, hb⟩; obtain ⟨ext, d, rfl⟩ := Below.grown_eq _ hb; clear hb) | (go_at_call 27; refine (HF.out _ _ (H.out.below (by repeat (first | exact Below.refl _ _ | assumption | refine Below.drew ?_ | refine Below.drewN' ?_ _ | refine below_grow0 _ _ ?_ | refine below_alloc0 _ ?_ | refine Below.alloc ?_ (by first | omega | (simp; done) | (simp; omega)) _ | refine Below.setCell ?_ (by first | omega | (simp; done) | (simp; omega)) _ | refine Below.grow _ _ _ ?_ (by first | omega | (simp; done) | (simp; omega)))))).mono ?_; rintro e w1 ⟨rfl, hb⟩; obtain ⟨ext2, d2, rfl⟩ := Below.grown_eq _ hb; clear hb))
        refine (dkCopied _ l _ (H.out.below (by repeat (first | exact Below.refl _ _ | assumption | refine Below.drew ?_ | refine Below.drewN' ?_ _ | refine below_grow0 _ _ ?_ | refine below_alloc0 _ ?_ | refine Below.alloc ?_ (by first | omega | (simp; done) | (simp; omega)) _ | refine Below.setCell ?_ (by first | omega | (simp; done) | (simp; omega)) _ | refine Below.grow _ _ _ ?_ (by first | omega | (simp; done) | (simp; omega))))) (by omega) (by simp [maxLen]; omega)).mono ?_
        rintro e w3 ⟨A3, c3, rfl, ho3, hb3⟩
        obtain ⟨ext3, d3, rfl⟩ := Below.grown_eq _ hb3
        obtain ⟨g3, J, rfl, hg3, hbk3, hcl, hlc, hcm, _⟩ := ho3.blk (by omega)
        have hbk4 : Bk (grow (grow (grow ((w.alloc (.cells #[.slice (some ⟨g3, 0, none⟩) l.length c3] 24)).alloc (.cells #[.slice none 0 0] 24)) ext d) ext2 d2) ext3 d3) g3 (l.flatMap cFile ++ J) 58 := hbk3.regrow (by simpa using hg3) (by simp)
        have hg4 : w.heap.size + 1 + 1 ≤ g3 := by simp at hg3; omega
        obtain ⟨r0, r1, r2⟩ := file_cells hbk4 HX.out
        have HBK := Lib.hid hbk4
        have HCL := Lib.hid hcl
        clear hb3 ho3 hbk3 hbk4 hg3 hcl
        go_wp2_with fail
        refine (dkCut1_ok g3 (q * 3) bn m x _ r1 r2 (HBK.out.frozen _) (HBK.out.frozen _) ((show Below w.heap.size w _ from (by repeat (first | exact Below.refl _ _ | assumption | refine Below.drew ?_ | refine Below.drewN' ?_ _ | refine below_grow0 _ _ ?_ | refine below_alloc0 _ ?_ | refine Below.alloc ?_ (by first | omega | (simp; done) | (simp; omega)) _ | refine Below.setCell ?_ (by first | omega | (simp; done) | (simp; omega)) _ | refine Below.grow _ _ _ ?_ (by first | omega | (simp; done) | (simp; omega))))).cell (p := ⟨bn, 0, none⟩) hbn |>.trans cn) z1 z2 HR.out).mono ?_
        rintro e w4 ⟨rfl, rfl⟩
        have hb5 : Below ((w.alloc (.cells #[.slice (some ⟨g3, 0, none⟩) l.length c3] 24)).alloc (.cells #[.slice none 0 0] 24)).heap.size ((w.alloc (.cells #[.slice (some ⟨g3, 0, none⟩) l.length c3] 24)).alloc (.cells #[.slice none 0 0] 24)) ((((grow (grow (grow ((w.alloc (.cells #[.slice (some ⟨g3, 0, none⟩) l.length c3] 24)).alloc (.cells #[.slice none 0 0] 24)) ext d) ext2 d2) ext3 d3).setCell ⟨g3, q * 3 + 1, none⟩ (.string ((x.safe ++ x.tail).extract 0 m))).setCell ⟨g3, q * 3 + 2, none⟩ (.string ⟨#[]⟩)).drew) := Below.drew (Below.put (Below.put (by repeat (first | exact Below.refl _ _ | assumption | refine Below.drew ?_ | refine Below.drewN' ?_ _ | refine below_grow0 _ _ ?_ | refine below_alloc0 _ ?_ | refine Below.alloc ?_ (by first | omega | (simp; done) | (simp; omega)) _ | refine Below.setCell ?_ (by first | omega | (simp; done) | (simp; omega)) _ | refine Below.grow _ _ _ ?_ (by first | omega | (simp; done) | (simp; omega)))) (by simp; omega)) (by simp; omega))
        have hbk5 : Bk ((((grow (grow (grow ((w.alloc (.cells #[.slice (some ⟨g3, 0, none⟩) l.length c3] 24)).alloc (.cells #[.slice none 0 0] 24)) ext d) ext2 d2) ext3 d3).setCell ⟨g3, q * 3 + 1, none⟩ (.string ((x.safe ++ x.tail).extract 0 m))).setCell ⟨g3, q * 3 + 2, none⟩ (.string ⟨#[]⟩)).drew) g3 ((l.set q (cutF x m)).flatMap cFile ++ J) 58 := by
          have := (HBK.out.put (q * 3 + 1) (.string ((x.safe ++ x.tail).extract 0 m))).put (q * 3 + 2) (.string ⟨#[]⟩)
          rw [set_file HX.out] at this
          exact this
        generalize ((((grow (grow (grow ((w.alloc (.cells #[.slice (some ⟨g3, 0, none⟩) l.length c3] 24)).alloc (.cells #[.slice none 0 0] 24)) ext d) ext2 d2) ext3 d3).setCell ⟨g3, q * 3 + 1, none⟩ (.string ((x.safe ++ x.tail).extract 0 m))).setCell ⟨g3, q * 3 + 2, none⟩ (.string ⟨#[]⟩)).drew) = w5 at hb5 hbk5 ⊢
        obtain ⟨ext5, d5, rfl⟩ := Below.grown_eq _ hb5
        have HBK5 := Lib.hid hbk5
        clear hb5 hbk5 HBK r0 r1 r2
        go_wp2_with fail
        have hlen : ((l.set q (cutF x m)).flatMap cFile ++ J).length = c3 * 3 := by
          rw [← HCL.out, List.length_append, List.length_append, flatMap_length (f := cFile) (s := 3) (fun _ _ => rfl), flatMap_length (f := cFile) (s := 3) (fun _ _ => rfl), List.length_set]
        refine bodyPost_ret (v := .tuple #[.agg #[.slice (some ⟨g3, 0, none⟩) l.length c3], .int .i64 0]) (by simp [results, Tryd.results37, go_sem]) rfl ⟨some ⟨g3, 0, none⟩, c3, by rw [List.length_set], ?_, (by repeat (first | exact Below.refl _ _ | assumption | refine Below.drew ?_ | refine Below.drewN' ?_ _ | refine below_grow0 _ _ ?_ | refine below_alloc0 _ ?_ | refine Below.alloc ?_ (by first | omega | (simp; done) | (simp; omega)) _ | refine Below.setCell ?_ (by first | omega | (simp; done) | (simp; omega)) _ | refine Below.grow _ _ _ ?_ (by first | omega | (simp; done) | (simp; omega))))⟩
        exact Ow.of_blk (f := cFile) (s := 3) (B := w.heap.size) (fun _ _ => rfl) (by omega) (HBK5.out.regrow (by simp; omega) (by simp)) rfl hlen (by rw [List.length_set]; exact hlc) hcm
      · simp only [if_neg hr]
        have HR := Lib.hid (show n < 0 ∨ ((x.safe ++ x.tail).size : Int) < n by omega)
        clear hr hszx
        go_enter Tryd.func37, Tryd.ntmps37
        go_wp2_with
          (first | (go_at_call 26; refine (HG.out _ (H.out.below (by repeat (first | exact Below.refl _ _ | assumption | refine Below.drew ?_ | refine Below.drewN' ?_ _ | refine below_grow0 _ _ ?_ | refine below_alloc0 _ ?_ | refine Below.alloc ?_ (by first | omega | (simp; done) | (simp; omega)) _ | refine Below.setCell ?_ (by first | omega | (simp; done) | (simp; omega)) _ | refine Below.grow _ _ _ ?_ (by first | omega | (simp; done) | (simp; omega)))))).mono ?_; rintro e w1 ⟨rfl, hb⟩; obtain ⟨ext, d, rfl⟩ := Below.grown_eq _ hb; clear hb) | (go_at_call 27; refine (HF.out _ _ (H.out.below (by repeat (first | exact Below.refl _ _ | assumption | refine Below.drew ?_ | refine Below.drewN' ?_ _ | refine below_grow0 _ _ ?_ | refine below_alloc0 _ ?_ | refine Below.alloc ?_ (by first | omega | (simp; done) | (simp; omega)) _ | refine Below.setCell ?_ (by first | omega | (simp; done) | (simp; omega)) _ | refine Below.grow _ _ _ ?_ (by first | omega | (simp; done) | (simp; omega)))))).mono ?_; rintro e w1 ⟨rfl, hb⟩; obtain ⟨ext2, d2, rfl⟩ := Below.grown_eq _ hb; clear hb))
        refine (dkCopied _ l _ (H.out.below (by repeat (first | exact Below.refl _ _ | assumption | refine Below.drew ?_ | refine Below.drewN' ?_ _ | refine below_grow0 _ _ ?_ | refine below_alloc0 _ ?_ | refine Below.alloc ?_ (by first | omega | (simp; done) | (simp; omega)) _ | refine Below.setCell ?_ (by first | omega | (simp; done) | (simp; omega)) _ | refine Below.grow _ _ _ ?_ (by first | omega | (simp; done) | (simp; omega))))) (by omega) (by simp [maxLen]; omega)).mono ?_
        rintro e w3 ⟨A3, c3, rfl, ho3, hb3⟩
        obtain ⟨ext3, d3, rfl⟩ := Below.grown_eq _ hb3
        obtain ⟨g3, J, rfl, hg3, hbk3, hcl, hlc, hcm, _⟩ := ho3.blk (by omega)
        have hbk4 : Bk (grow (grow (grow ((w.alloc (.cells #[.slice (some ⟨g3, 0, none⟩) l.length c3] 24)).alloc (.cells #[.slice none 0 0] 24)) ext d) ext2 d2) ext3 d3) g3 (l.flatMap cFile ++ J) 58 := hbk3.regrow (by simpa using hg3) (by simp)
        have hg4 : w.heap.size + 1 + 1 ≤ g3 := by simp at hg3; omega
        obtain ⟨r0, r1, r2⟩ := file_cells hbk4 HX.out
        have HBK := Lib.hid hbk4
        have HCL := Lib.hid hcl
        clear hb3 ho3 hbk3 hbk4 hg3 hcl
        go_wp2_with fail
        refine (dkCut1_no g3 (q * 3) bn n x _ r1 r2 ((show Below w.heap.size w _ from (by repeat (first | exact Below.refl _ _ | assumption | refine Below.drew ?_ | refine Below.drewN' ?_ _ | refine below_grow0 _ _ ?_ | refine below_alloc0 _ ?_ | refine Below.alloc ?_ (by first | omega | (simp; done) | (simp; omega)) _ | refine Below.setCell ?_ (by first | omega | (simp; done) | (simp; omega)) _ | refine Below.grow _ _ _ ?_ (by first | omega | (simp; done) | (simp; omega))))).cell (p := ⟨bn, 0, none⟩) hbn |>.trans cn) z1 z2 HR.out).mono ?_
        rintro e w4 ⟨rfl, rfl⟩
        go_wp2_with fail
        refine bodyPost_ret (v := .tuple #[.agg #[.slice none 0 0], .int .i64 3]) (by simp [results, Tryd.results37, go_sem]) rfl ⟨none, 0, rfl, Ow.nil _ _ _ _ _, (by repeat (first | exact Below.refl _ _ | assumption | refine Below.drew ?_ | refine Below.drewN' ?_ _ | refine below_grow0 _ _ ?_ | refine below_alloc0 _ ?_ | refine Below.alloc ?_ (by first | omega | (simp; done) | (simp; omega)) _ | refine Below.setCell ?_ (by first | omega | (simp; done) | (simp; omega)) _ | refine Below.grow _ _ _ ?_ (by first | omega | (simp; done) | (simp; omega))))⟩
set_option maxHeartbeats 1000000 in
theorem dkCut (v : Value) (l : List File) (p : ByteArray) (n : Int) (w : World) (h : Sl cFile 3 w v l) (hz : ∀ x ∈ l, x.sized) :
    Calls Tryd.prog 24 #[.agg #[v], .string p, .int .i64 n] w (DkRes (cutL l p n) (cutE l p n) w) := by
  obtain ⟨A, c, rfl, hc1, hc2⟩ := h.form
  have H := Lib.hid h
  have HC := Lib.hid (fun (W : World) (bn : Nat) (hs : Sl cFile 3 W (.slice A l.length c) l) (cn : W.cell? ⟨bn, 0, none⟩ = some (.int .i64 n)) (hb : bn < W.heap.size) => dkChangeCut _ l p bn n W hs hz cn hb)
  generalize cutL l p n = L at *
  generalize cutE l p n = code at *
  clear h hz
  go_enter Tryd.func24, Tryd.ntmps24
  go_wp2_with (first | (go_at_call 37; refine (HC.out _ (w.heap.size + 1) (H.out.below (by repeat (first | exact Below.refl _ _ | assumption | refine Below.drew ?_ | refine Below.drewN' ?_ _ | refine below_grow0 _ _ ?_ | refine below_alloc0 _ ?_ | refine Below.alloc ?_ (by first | omega | (simp; done) | (simp; omega)) _ | refine Below.setCell ?_ (by first | omega | (simp; done) | (simp; omega)) _ | refine Below.grow _ _ _ ?_ (by first | omega | (simp; done) | (simp; omega))))) (by go_simp) (by simp)).mono ?_; rintro e w1 ⟨A1, k1, rfl, hs1, hb1⟩; have HS1 := Lib.hid hs1; obtain ⟨ext, d, rfl⟩ := Below.grown_eq _ hb1; clear hs1 hb1))
  refine bodyPost_ret (v := .tuple #[.agg #[.slice A1 L.length k1], .int .i64 code]) (by simp [results, Tryd.results24, go_sem]) rfl ⟨A1, k1, rfl, ?_, (by repeat (first | exact Below.refl _ _ | assumption | refine Below.drew ?_ | refine Below.drewN' ?_ _ | refine below_grow0 _ _ ?_ | refine below_alloc0 _ ?_ | refine Below.alloc ?_ (by first | omega | (simp; done) | (simp; omega)) _ | refine Below.setCell ?_ (by first | omega | (simp; done) | (simp; omega)) _ | refine Below.grow _ _ _ ?_ (by first | omega | (simp; done) | (simp; omega))))⟩
  exact (HS1.out.regrow (Nat.le_refl _) (by simp)).mono (by simp; omega)
end Go.Proofs.YtfaghpdhinfblaaDoor

/- package disk: Crash: under way. -/
namespace Go.Proofs.YtfaghpdhinfblaaDoor
open Go.RowKit Go.ChangeShapes Go.WideShapes Go.ChangeAt
def crashF (keep : Nat) (x : File) : File := ⟨x.name, x.safe ++ x.tail.extract 0 (min keep x.tail.size), ⟨#[]⟩⟩
def crashK (keep : Nat) (l : List File) (k : Nat) : List File := (l.take k).map (crashF keep) ++ l.drop k
theorem crashK_at {keep : Nat} {l : List File} {k : Nat} {x : File} (hx : l[k]? = some x) : (crashK keep l k)[k]? = some x ∧ (crashK keep l k).set k (crashF keep x) = crashK keep l (k + 1) := by
  have hk : k < l.length := (List.getElem?_eq_some_iff.1 hx).1
  have hl : ((l.take k).map (crashF keep)).length = k := by rw [List.length_map, List.length_take, Nat.min_eq_left (by omega)]
  have hd : l.drop k = x :: l.drop (k + 1) := by
    have : l[k] = x := (List.getElem?_eq_some_iff.1 hx).2
    rw [← this, List.getElem_cons_drop]
  unfold crashK
  constructor
  · rw [List.getElem?_append_right (by omega), hl, Nat.sub_self, hd]; rfl
  · rw [List.set_append_right _ _ (by omega), hl, Nat.sub_self, hd, List.take_add_one, hx]
    simp
theorem crashK_len (keep : Nat) (l : List File) (k : Nat) : (crashK keep l k).length = l.length := by unfold crashK; simp; omega
theorem crashK_all (keep : Nat) (l : List File) : crashK keep l l.length = l.map (crashF keep) := by unfold crashK; simp
def crashE (l : List File) (keep : Int) : Int := if goodD l then (if keep < 0 then 3 else 0) else 3
def crashL (l : List File) (keep : Int) : List File := if goodD l then (if keep < 0 then [] else l.map (crashF keep.toNat)) else []
set_option maxHeartbeats 2000000 in
theorem dkCrash (v : Value) (l : List File) (keep : Int) (w : World) (h : Sl cFile 3 w v l) (hz : ∀ x ∈ l, x.sized) :
    Calls Tryd.prog 16 #[.agg #[v], .int .i64 keep] w (DkRes (crashL l keep) (crashE l keep) w) := by
  obtain ⟨A, c, rfl, hc1, hc2⟩ := h.form
  have H := Lib.hid h
  have HG := Lib.hid (fun (W : World) (hs : Sl cFile 3 W (.slice A l.length c) l) => dkGood _ l W hs hz)
  have HZ := Lib.hid hz
  unfold crashL crashE
  cases hg : goodD l with
  | false =>
    rw [hg] at HG
    clear h hz hg
    simp only [Bool.false_eq_true, if_false]
    go_enter Tryd.func16, Tryd.ntmps16
    go_wp2_with
      (first | (go_at_call 26; refine (HG.out _ (H.out.below (by repeat (first | exact Below.refl _ _ | assumption | refine Below.drew ?_ | refine Below.drewN' ?_ _ | refine below_grow0 _ _ ?_ | refine below_alloc0 _ ?_ | refine Below.alloc ?_ (by first | omega | (simp; done) | (simp; omega)) _ | refine Below.setCell ?_ (by first | omega | (simp; done) | (simp; omega)) _ | refine Below.grow _ _ _ ?_ (by first | omega | (simp; done) | (simp; omega)))))).mono ?_; rintro e w1 ⟨rfl, hb⟩; obtain ⟨ext, d, rfl⟩ := Below.grown_eq _ hb; clear hb))
    refine bodyPost_ret (v := .tuple #[.agg #[.slice none 0 0], .int .i64 3]) (by simp [results, Tryd.results16, go_sem]) rfl ⟨none, 0, rfl, Ow.nil _ _ _ _ _, (by repeat (first | exact Below.refl _ _ | assumption | refine Below.drew ?_ | refine Below.drewN' ?_ _ | refine below_grow0 _ _ ?_ | refine below_alloc0 _ ?_ | refine Below.alloc ?_ (by first | omega | (simp; done) | (simp; omega)) _ | refine Below.setCell ?_ (by first | omega | (simp; done) | (simp; omega)) _ | refine Below.grow _ _ _ ?_ (by first | omega | (simp; done) | (simp; omega))))⟩
  | true =>
    rw [hg] at HG
    have hl16 := goodD_len hg
    clear h hz hg
    simp only [if_true]
    by_cases hk : keep < 0
    · simp only [if_pos hk]
      go_enter Tryd.func16, Tryd.ntmps16
      go_wp2_with
        (first | (go_at_call 26; refine (HG.out _ (H.out.below (by repeat (first | exact Below.refl _ _ | assumption | refine Below.drew ?_ | refine Below.drewN' ?_ _ | refine below_grow0 _ _ ?_ | refine below_alloc0 _ ?_ | refine Below.alloc ?_ (by first | omega | (simp; done) | (simp; omega)) _ | refine Below.setCell ?_ (by first | omega | (simp; done) | (simp; omega)) _ | refine Below.grow _ _ _ ?_ (by first | omega | (simp; done) | (simp; omega)))))).mono ?_; rintro e w1 ⟨rfl, hb⟩; obtain ⟨ext, d, rfl⟩ := Below.grown_eq _ hb; clear hb))
      refine bodyPost_ret (v := .tuple #[.agg #[.slice none 0 0], .int .i64 3]) (by simp [results, Tryd.results16, go_sem]) rfl ⟨none, 0, rfl, Ow.nil _ _ _ _ _, (by repeat (first | exact Below.refl _ _ | assumption | refine Below.drew ?_ | refine Below.drewN' ?_ _ | refine below_grow0 _ _ ?_ | refine below_alloc0 _ ?_ | refine Below.alloc ?_ (by first | omega | (simp; done) | (simp; omega)) _ | refine Below.setCell ?_ (by first | omega | (simp; done) | (simp; omega)) _ | refine Below.grow _ _ _ ?_ (by first | omega | (simp; done) | (simp; omega))))⟩
    · simp only [if_neg hk]
      obtain ⟨m, rfl⟩ := Int.eq_ofNat_of_zero_le (show 0 ≤ keep by omega)
      have hmn : (decide ((m : Int) < 0)) = false := by simp
      rw [Int.toNat_natCast]
      clear hk
      go_enter Tryd.func16, Tryd.ntmps16
      go_wp2_with
        (first | (go_at_call 26; refine (HG.out _ (H.out.below (by repeat (first | exact Below.refl _ _ | assumption | refine Below.drew ?_ | refine Below.drewN' ?_ _ | refine below_grow0 _ _ ?_ | refine below_alloc0 _ ?_ | refine Below.alloc ?_ (by first | omega | (simp; done) | (simp; omega)) _ | refine Below.setCell ?_ (by first | omega | (simp; done) | (simp; omega)) _ | refine Below.grow _ _ _ ?_ (by first | omega | (simp; done) | (simp; omega)))))).mono ?_; rintro e w1 ⟨rfl, hb⟩; obtain ⟨ext, d, rfl⟩ := Below.grown_eq _ hb; clear hb))
      refine (dkCopied _ l _ (H.out.below (by repeat (first | exact Below.refl _ _ | assumption | refine Below.drew ?_ | refine Below.drewN' ?_ _ | refine below_grow0 _ _ ?_ | refine below_alloc0 _ ?_ | refine Below.alloc ?_ (by first | omega | (simp; done) | (simp; omega)) _ | refine Below.setCell ?_ (by first | omega | (simp; done) | (simp; omega)) _ | refine Below.grow _ _ _ ?_ (by first | omega | (simp; done) | (simp; omega))))) (by omega) (by simp [maxLen]; omega)).mono ?_
      rintro e w3 ⟨A3, c3, rfl, ho3, hb3⟩
      obtain ⟨ext3, d3, rfl⟩ := Below.grown_eq _ hb3
      rcases Nat.eq_zero_or_pos l.length with h0 | h0
      · obtain rfl := List.eq_nil_of_length_eq_zero h0
        have HO3 := Lib.hid ho3
        clear hb3 ho3
        simp only [List.length_nil]
        go_wp2_with fail
        refine wp_loop_rounds 1 ?_
        rw [rounds_succ]
        go_wp2_with fail
        refine bodyPost_ret (v := .tuple #[.agg #[.slice A3 0 c3], .int .i64 0]) (by simp [results, Tryd.results16, go_sem]) rfl ⟨A3, c3, rfl, ?_, (by repeat (first | exact Below.refl _ _ | assumption | refine Below.drew ?_ | refine Below.drewN' ?_ _ | refine below_grow0 _ _ ?_ | refine below_alloc0 _ ?_ | refine Below.alloc ?_ (by first | omega | (simp; done) | (simp; omega)) _ | refine Below.setCell ?_ (by first | omega | (simp; done) | (simp; omega)) _ | refine Below.grow _ _ _ ?_ (by first | omega | (simp; done) | (simp; omega))))⟩
        exact (HO3.out.regrow (Nat.le_refl _) (by simp)).mono (by simp; omega)
      · obtain ⟨g3, J, rfl, hg3, hbk3, hcl, hlc, hcm, _⟩ := ho3.blk h0
        have hg4 : w.heap.size + 1 + 1 ≤ g3 := by simp at hg3; omega
        have HB3 := Lib.hid hbk3
        have HG3 := Lib.hid hg3
        have HCL := Lib.hid hcl
        clear hb3 ho3 hbk3 hg3 hcl
        go_wp2_with fail
        go_loopw [21] (fun i wr => ∃ (k : Nat) (ext : Array Obj) (d : Nat), k ≤ l.length ∧ i = .int .i64 k ∧ wr = grow ((w.alloc (.cells #[.slice (some ⟨g3, 0, none⟩) l.length c3] 24)).alloc (.cells #[.slice none 0 0] 24)) ext d ∧ Hid (Bk wr g3 ((crashK m l k).flatMap cFile ++ J) 58)) (fun i _ => l.length - (intOf i).toNat)
        case atStart => exact ⟨0, _, _, Nat.zero_le _, rfl, grown_of (by repeat (first | exact Below.refl _ _ | assumption | refine Below.drew ?_ | refine Below.drewN' ?_ _ | refine below_grow0 _ _ ?_ | refine below_alloc0 _ ?_ | refine Below.alloc ?_ (by first | omega | (simp; done) | (simp; omega)) _ | refine Below.setCell ?_ (by first | omega | (simp; done) | (simp; omega)) _ | refine Below.grow _ _ _ ?_ (by first | omega | (simp; done) | (simp; omega)))), Lib.hid (by simpa [crashK] using HB3.out.regrow HG3.out (by simp))⟩
        case round =>
          obtain ⟨k, ext5, d5, hk, rfl, rfl, hbk⟩ := hrel
          by_cases hlt : k < l.length
          · have hx : l[k]? = some (l[k]'hlt) := List.getElem?_eq_getElem _
            obtain ⟨z0, z1, z2⟩ := HZ.out _ (List.mem_of_getElem? hx)
            obtain ⟨hat, hset⟩ := crashK_at (keep := m) hx
            generalize l[k]'hlt = x at *
            have hbk1 : Bk (grow ((w.alloc (.cells #[.slice (some ⟨g3, 0, none⟩) l.length c3] 24)).alloc (.cells #[.slice none 0 0] 24)) ext5 (d5 + 1)) g3 ((crashK m l k).flatMap cFile ++ J) 58 := hbk.out
            obtain ⟨r0, r1, r2⟩ := file_cells hbk1 hat
            have f1 := hbk1.frozen (k * 3 + 1)
            have f2 := hbk1.frozen (k * 3 + 2)
            have HBK1 := Lib.hid hbk1
            clear hbk1
            have HAT := Lib.hid hat
            have HSET := Lib.hid hset
            clear hx hat hset
            go_wp2_with fail
            go_region
            have hb6 : Below ((w.alloc (.cells #[.slice (some ⟨g3, 0, none⟩) l.length c3] 24)).alloc (.cells #[.slice none 0 0] 24)).heap.size ((w.alloc (.cells #[.slice (some ⟨g3, 0, none⟩) l.length c3] 24)).alloc (.cells #[.slice none 0 0] 24)) (((grow ((w.alloc (.cells #[.slice (some ⟨g3, 0, none⟩) l.length c3] 24)).alloc (.cells #[.slice none 0 0] 24)) ext5 (d5 + 1)).setCell ⟨g3, k * 3 + 1, none⟩ (.string (x.safe ++ x.tail.extract 0 (min (m : Int) (x.tail.size : Int)).toNat))).setCell ⟨g3, k * 3 + 2, none⟩ (.string ⟨#[]⟩)) := Below.put (Below.put (by repeat (first | exact Below.refl _ _ | assumption | refine Below.drew ?_ | refine Below.drewN' ?_ _ | refine below_grow0 _ _ ?_ | refine below_alloc0 _ ?_ | refine Below.alloc ?_ (by first | omega | (simp; done) | (simp; omega)) _ | refine Below.setCell ?_ (by first | omega | (simp; done) | (simp; omega)) _ | refine Below.grow _ _ _ ?_ (by first | omega | (simp; done) | (simp; omega)))) (by simp; omega)) (by simp; omega)
            have hbk6 : Bk (((grow ((w.alloc (.cells #[.slice (some ⟨g3, 0, none⟩) l.length c3] 24)).alloc (.cells #[.slice none 0 0] 24)) ext5 (d5 + 1)).setCell ⟨g3, k * 3 + 1, none⟩ (.string (x.safe ++ x.tail.extract 0 (min (m : Int) (x.tail.size : Int)).toNat))).setCell ⟨g3, k * 3 + 2, none⟩ (.string ⟨#[]⟩)) g3 ((crashK m l (k + 1)).flatMap cFile ++ J) 58 := by
              have := (HBK1.out.put (k * 3 + 1) (.string (x.safe ++ x.tail.extract 0 (min (m : Int) (x.tail.size : Int)).toNat))).put (k * 3 + 2) (.string ⟨#[]⟩)
              rw [set_file HAT.out] at this
              rw [← HSET.out]
              unfold crashF
              rw [show (min (m : Int) (x.tail.size : Int)).toNat = min m x.tail.size from by omega] at this ⊢
              exact this
            generalize (((grow ((w.alloc (.cells #[.slice (some ⟨g3, 0, none⟩) l.length c3] 24)).alloc (.cells #[.slice none 0 0] 24)) ext5 (d5 + 1)).setCell ⟨g3, k * 3 + 1, none⟩ (.string (x.safe ++ x.tail.extract 0 (min (m : Int) (x.tail.size : Int)).toNat))).setCell ⟨g3, k * 3 + 2, none⟩ (.string ⟨#[]⟩)) = w6 at hb6 hbk6 ⊢
            obtain ⟨ext6, d6, rfl⟩ := Below.grown_eq _ hb6
            have HBK6 := Lib.hid hbk6
            clear hb6 hbk6 hbk HBK1 r0 r1 r2 f1 f2
            go_wp2_with fail
            go_roundw
            case rel => exact ⟨k + 1, _, _, by omega, by go_num, rfl, HBK6⟩
            case measure => simp [intOf]; omega
          · have hk' : k = l.length := by omega
            subst hk'
            have hbk' := hbk.out
            rw [crashK_all] at hbk'
            have HBK := Lib.hid hbk'
            clear hbk hbk'
            go_wp2_with fail
            have hlen : ((l.map (crashF m)).flatMap cFile ++ J).length = c3 * 3 := by
              rw [← HCL.out, List.length_append, List.length_append, flatMap_length (f := cFile) (s := 3) (fun _ _ => rfl), flatMap_length (f := cFile) (s := 3) (fun _ _ => rfl), List.length_map]
            refine bodyPost_ret (v := .tuple #[.agg #[.slice (some ⟨g3, 0, none⟩) l.length c3], .int .i64 0]) (by simp [results, Tryd.results16, go_sem]) rfl ⟨some ⟨g3, 0, none⟩, c3, by rw [List.length_map], ?_, (by repeat (first | exact Below.refl _ _ | assumption | refine Below.drew ?_ | refine Below.drewN' ?_ _ | refine below_grow0 _ _ ?_ | refine below_alloc0 _ ?_ | refine Below.alloc ?_ (by first | omega | (simp; done) | (simp; omega)) _ | refine Below.setCell ?_ (by first | omega | (simp; done) | (simp; omega)) _ | refine Below.grow _ _ _ ?_ (by first | omega | (simp; done) | (simp; omega))))⟩
            exact Ow.of_blk (f := cFile) (s := 3) (B := w.heap.size) (fun _ _ => rfl) (by omega) (HBK.out.regrow (by simp; omega) (by simp)) rfl hlen (by rw [List.length_map]; exact hlc) hcm
end Go.Proofs.YtfaghpdhinfblaaDoor

/- the laws' helpers on disks: copied, sameDisk, pick. -/
namespace Go.Proofs.YtfaghpdhinfblaaDoor
open Go.RowKit Go.ChangeShapes Go.WideShapes Go.ChangeAt
theorem retI {k : IntKind} {a b : Int} (h : a = b) : Ending.returned (.int k a) = Ending.returned (.int k b) := by rw [h]
theorem lawCopied (v : Value) (l : List File) (w : World) (h : Sl cFile 3 w v l) (hn : l.length * 48 ≤ 140737488355328) :
    Calls Tryd.prog 8 #[.agg #[v]] w (DkIs l w) := by
  obtain ⟨A, c, rfl, h1, h2⟩ := h.form
  have H := Lib.hid h
  clear h
  go_enter Tryd.func8, Tryd.ntmps8
  go_wp2_with (at_builtin; refine wpList_app _ rfl (.const (.slice none 0 0)) (.tmp 4) _ rfl elFile (B := w.heap.size + 1 + 1) (m := l) rfl rfl (Ow.nil _ _ _ _ _) ((H.out.alloc _).alloc _) cFile_one (by simp [maxLen]; omega) (by simpa using hn) (by simp) ?_; intro v1 w1 hown1 hg1 _; rw [List.nil_append] at hown1; obtain ⟨A1, c1, rfl, _⟩ := hown1.form; have HO1 := Lib.hid hown1; obtain ⟨ext1, d1, rfl⟩ := Below.grown_eq _ (Below.of_grown hg1); clear hown1 hg1)
  refine bodyPost_ret (v := .agg #[.slice A1 l.length c1]) (by simp [results, Tryd.results8, go_sem]) rfl ⟨A1, c1, rfl, (HO1.out.regrow (by simp) (by simp)).mono (by omega), (by repeat (first | exact Below.refl _ _ | assumption | refine Below.drew ?_ | refine Below.drewN' ?_ _ | refine below_grow0 _ _ ?_ | refine below_alloc0 _ ?_ | refine Below.alloc ?_ (by first | omega | (simp; done) | (simp; omega)) _ | refine Below.setCell ?_ (by first | omega | (simp; done) | (simp; omega)) _ | refine Below.grow _ _ _ ?_ (by first | omega | (simp; done) | (simp; omega))))⟩
theorem sameDisk_eq (v v2 : Value) (l : List File) (w : World) (h : Sl cFile 3 w v l) (h2 : Sl cFile 3 w v2 l) (hn : l.length ≤ 140737488355328) :
    Calls Tryd.prog 13 #[.agg #[v], .agg #[v2]] w fun e w' => e = .returned (.bool true) ∧ Below w.heap.size w w' := by
  obtain ⟨A, c, rfl, hc1, hc2⟩ := h.form
  obtain ⟨A2, c2, rfl, hc3, hc4⟩ := h2.form
  have H := Lib.hid h
  have H2 := Lib.hid h2
  clear h h2
  go_enter Tryd.func13, Tryd.ntmps13
  go_wp2_with fail
  go_loopw [5] (fun i wr => ∃ (k : Nat) (ext : Array Obj) (d : Nat), k ≤ l.length ∧ i = .int .i64 k ∧ wr = grow ((w.alloc (.cells #[.slice A l.length c] 24)).alloc (.cells #[.slice A2 l.length c2] 24)) ext d) (fun i _ => l.length - (intOf i).toNat)
  case atStart => exact ⟨0, _, _, Nat.zero_le _, rfl, grown_of (by repeat (first | exact Below.refl _ _ | assumption | refine Below.drew ?_ | refine Below.drewN' ?_ _ | refine below_grow0 _ _ ?_ | refine below_alloc0 _ ?_ | refine Below.alloc ?_ (by first | omega | (simp; done) | (simp; omega)) _ | refine Below.setCell ?_ (by first | omega | (simp; done) | (simp; omega)) _ | refine Below.grow _ _ _ ?_ (by first | omega | (simp; done) | (simp; omega))))⟩
  case round =>
    obtain ⟨k, ext, d, hk, rfl, rfl⟩ := hrel
    by_cases hlt : k < l.length
    · have hx : l[k]? = some (l[k]'hlt) := List.getElem?_eq_getElem _
      obtain ⟨b, off, rfl, _, x0, x1, x2⟩ := H.out.File_at hx
      obtain ⟨b2, off2, rfl, _, y0, y1, y2⟩ := H2.out.File_at hx
      generalize l[k]'hlt = x at *
      clear hx
      go_wp2_with fail
      go_quiet (fail)
      go_wp2_with fail
      go_roundw
      case rel => exact ⟨k + 1, _, _, by omega, by go_num, grown_of (by repeat (first | exact Below.refl _ _ | assumption | refine Below.drew ?_ | refine Below.drewN' ?_ _ | refine below_grow0 _ _ ?_ | refine below_alloc0 _ ?_ | refine Below.alloc ?_ (by first | omega | (simp; done) | (simp; omega)) _ | refine Below.setCell ?_ (by first | omega | (simp; done) | (simp; omega)) _ | refine Below.grow _ _ _ ?_ (by first | omega | (simp; done) | (simp; omega))))⟩
      case measure => simp [intOf]; omega
    · go_wp2_with fail
      go_ret
      exact ⟨rfl, (by repeat (first | exact Below.refl _ _ | assumption | refine Below.drew ?_ | refine Below.drewN' ?_ _ | refine below_grow0 _ _ ?_ | refine below_alloc0 _ ?_ | refine Below.alloc ?_ (by first | omega | (simp; done) | (simp; omega)) _ | refine Below.setCell ?_ (by first | omega | (simp; done) | (simp; omega)) _ | refine Below.grow _ _ _ ?_ (by first | omega | (simp; done) | (simp; omega))))⟩
theorem pick_is (k : Int) (n : Nat) (w : World) (h0 : 0 < n) (h1 : n ≤ 140737488355328) :
    Calls Tryd.prog 17 #[.int .i64 k, .int .i64 n] w fun e w' => ∃ f : Nat, f < n ∧ e = .returned (.int .i64 f) ∧ w = w' := by
  have ht1 : -(n : Int) < k.tmod n := by
    have := Int.tmod_lt_of_pos (-k) (show (0 : Int) < n by omega)
    rw [Int.neg_tmod] at this
    omega
  have ht2 : k.tmod n < (n : Int) := Int.tmod_lt_of_pos _ (by omega)
  generalize hq : k.tmod n = q at *
  by_cases hn : q < 0
  · go_enter Tryd.func17, Tryd.ntmps17
    go_wp2
    go_ret
    exact ⟨(q + n).toNat, by omega, retI (by omega), rfl⟩
  · go_enter Tryd.func17, Tryd.ntmps17
    go_wp2
    go_ret
    exact ⟨q.toNat, by omega, retI (by omega), rfl⟩
end Go.Proofs.YtfaghpdhinfblaaDoor

/- Files in order: plain laws of what is written, cut, removed and read. -/
namespace Go.Proofs.YtfaghpdhinfblaaDoor
open Go.RowKit Go.Lib
def ltF (x y : File) : Prop := cmpB x.name y.name < 0
theorem posF_of {l : List File} (hs : l.Pairwise ltF) (p : ByteArray) (k : Nat) (x : File) (hx : l[k]? = some x) : k < posK (l.map File.name) p ↔ cmpB x.name p < 0 := by
  have hk : k < l.length := (List.getElem?_eq_some_iff.1 hx).1
  have hlt : ∀ (k : Nat) (x : File), l[k]? = some x → ltK (l.map File.name) p k = decide (cmpB x.name p < 0) := fun k x h => ltK_of (g := File.name) h p
  obtain ⟨m, hm, h1, h2⟩ := border (ltK (l.map File.name) p) l.length (by
    intro i j hij hj h
    have hi := List.getElem?_eq_getElem (l := l) (i := i) (by omega)
    have hj2 := List.getElem?_eq_getElem (l := l) (i := j) hj
    rw [hlt j _ hj2] at h
    rw [hlt i _ hi]
    simp at h ⊢
    exact cb_trans _ _ _ (List.pairwise_iff_getElem.1 hs i j (by omega) hj hij) h)
  have hp : posK (l.map File.name) p = m := by
    unfold posK
    rw [List.length_map]
    exact bsr_sorted _ m l.length 0 l.length (by omega) (Nat.zero_le _) hm h1 h2
  rw [hp]
  constructor
  · intro h
    have := h1 k h
    rw [hlt k x hx] at this
    simpa using this
  · intro h
    rcases Nat.lt_or_ge k m with hlt2 | hge
    · exact hlt2
    · have := h2 k hge hk
      rw [hlt k x hx] at this
      simp at this
      omega
theorem atF_of {l : List File} (hs : l.Pairwise ltF) {k : Nat} {x : File} (hx : l[k]? = some x) : posK (l.map File.name) x.name = k ∧ isK (l.map File.name) x.name = true := by
  have h1 : ¬ k < posK (l.map File.name) x.name := by rw [posF_of hs x.name k x hx, cmpB_self]; omega
  have hk : k < l.length := (List.getElem?_eq_some_iff.1 hx).1
  have h2 : posK (l.map File.name) x.name = k := by
    rcases Nat.lt_or_ge (posK (l.map File.name) x.name) k with h | h
    · have hy := List.getElem?_eq_getElem (l := l) (i := posK (l.map File.name) x.name) (by omega)
      have h3 : cmpB l[posK (l.map File.name) x.name].name x.name < 0 := by
        have := List.pairwise_iff_getElem.1 hs _ k (by omega) hk h
        rw [(List.getElem?_eq_some_iff.1 hx).2] at this
        exact this
      rw [← posF_of hs x.name _ _ hy] at h3
      omega
    · omega
  exact ⟨h2, by rw [isK_in h2 hx, cmpB_self]; rfl⟩
theorem noneF_of {l : List File} (p : ByteArray) (h : ∀ x ∈ l, x.name ≠ p) : isK (l.map File.name) p = false := by
  rcases Nat.lt_or_ge (posK (l.map File.name) p) l.length with hlt | hge
  · have hy := List.getElem?_eq_getElem (l := l) (i := posK (l.map File.name) p) hlt
    rw [isK_in rfl hy]
    have := h _ (List.getElem_mem hlt)
    simp
    intro h0
    exact this (cmpB_zero h0)
  · exact isK_out rfl (by omega)
theorem beforeF_of {l : List File} (hs : l.Pairwise ltF) (p : ByteArray) : ∀ y ∈ l.take (posK (l.map File.name) p), cmpB y.name p < 0 := by
  intro y hy
  obtain ⟨k, hk⟩ := List.mem_iff_getElem?.1 hy
  rw [List.getElem?_take] at hk
  split at hk
  · exact (posF_of hs p k y hk).1 (by assumption)
  · cases hk
theorem behindF_of {l : List File} (hs : l.Pairwise ltF) (p : ByteArray) (h : isK (l.map File.name) p = false) : ∀ y ∈ l.drop (posK (l.map File.name) p), cmpB p y.name < 0 := by
  intro y hy
  obtain ⟨k, hk⟩ := List.mem_iff_getElem?.1 hy
  rw [List.getElem?_drop] at hk
  have h1 := mt (posF_of hs p _ y hk).2 (by omega)
  have h2 : cmpB y.name p ≠ 0 := by
    intro h0
    obtain rfl := cmpB_zero h0
    rw [(atF_of hs hk).2] at h
    cases h
  exact cb_swap' _ _ (by unfold cmpB at h1 h2; omega)
theorem isF_at {l : List File} {p : ByteArray} (h : isK (l.map File.name) p = true) : ∃ hq : posK (l.map File.name) p < l.length, (l[posK (l.map File.name) p]'hq).name = p := by
  have hq := isK_in_file h
  refine ⟨hq, ?_⟩
  rw [isK_in rfl (List.getElem?_eq_getElem hq)] at h
  exact cmpB_zero (by simpa using h)
theorem fileAt_is {l : List File} {p : ByteArray} (h : isK (l.map File.name) p = true) : (fileAt l p).name = p ∧ fileAt l p ∈ l := by
  obtain ⟨hq, hn⟩ := isF_at h
  have : fileAt l p = l[posK (l.map File.name) p] := by
    unfold fileAt
    rw [List.getD_eq_getElem?_getD, List.getElem?_eq_getElem hq]
    rfl
  rw [this]
  exact ⟨hn, List.getElem_mem hq⟩
theorem lookF_of {l : List File} (hs : l.Pairwise ltF) {y : File} (hy : y ∈ l) : isK (l.map File.name) y.name = true ∧ fileAt l y.name = y := by
  obtain ⟨k, hk⟩ := List.mem_iff_getElem?.1 hy
  obtain ⟨h1, h2⟩ := atF_of hs hk
  refine ⟨h2, ?_⟩
  unfold fileAt
  rw [h1, List.getD_eq_getElem?_getD, hk]
  rfl
/-- a file put where it stands, or would -/
def putL (l : List File) (x : File) : List File := if isK (l.map File.name) x.name then l.set (posK (l.map File.name) x.name) x else l.take (posK (l.map File.name) x.name) ++ x :: l.drop (posK (l.map File.name) x.name)
theorem setF_split {l : List File} {q : Nat} (hq : q < l.length) (x : File) : l.set q x = l.take q ++ x :: l.drop (q + 1) := by rw [List.set_eq_take_append_cons_drop, if_pos hq]
theorem putL_sorted {l : List File} (hpw : l.Pairwise ltF) (x : File) : (putL l x).Pairwise ltF := by
  unfold putL
  cases hk : isK (l.map File.name) x.name with
  | true =>
    obtain ⟨hq, he⟩ := isF_at hk
    rw [if_pos rfl, setF_split hq]
    have e : l = l.take (posK (l.map File.name) x.name) ++ l[posK (l.map File.name) x.name] :: l.drop (posK (l.map File.name) x.name + 1) := by rw [List.getElem_cons_drop, List.take_append_drop]
    generalize l[posK (l.map File.name) x.name] = y at e he
    generalize posK (l.map File.name) x.name = q at e
    generalize l.take q = a at e ⊢
    generalize l.drop (q + 1) = b at e ⊢
    rw [e] at hpw
    simp only [List.pairwise_append, List.pairwise_cons, List.mem_cons, forall_eq_or_imp] at hpw ⊢
    unfold ltF at hpw ⊢
    rw [← he]
    exact hpw
  | false =>
    rw [if_neg (by simp)]
    have e := List.take_append_drop (posK (l.map File.name) x.name) l
    have hb := beforeF_of hpw x.name
    have ha := behindF_of hpw x.name hk
    generalize posK (l.map File.name) x.name = q at e hb ha
    generalize l.take q = a at e hb ⊢
    generalize l.drop q = b at e ha ⊢
    rw [← e] at hpw
    simp only [List.pairwise_append, List.pairwise_cons, List.mem_cons, forall_eq_or_imp] at hpw ⊢
    unfold ltF at hpw ⊢
    exact ⟨hpw.1, ⟨ha, hpw.2.1⟩, fun y hy => ⟨hb y hy, hpw.2.2 y hy⟩⟩
theorem mem_putL {l : List File} (hpw : l.Pairwise ltF) (x y : File) : y ∈ putL l x ↔ y = x ∨ (y ∈ l ∧ y.name ≠ x.name) := by
  unfold putL
  cases hk : isK (l.map File.name) x.name with
  | true =>
    obtain ⟨hq, he⟩ := isF_at hk
    rw [if_pos rfl, setF_split hq]
    have e : l = l.take (posK (l.map File.name) x.name) ++ l[posK (l.map File.name) x.name] :: l.drop (posK (l.map File.name) x.name + 1) := by rw [List.getElem_cons_drop, List.take_append_drop]
    generalize l[posK (l.map File.name) x.name] = z at e he
    generalize posK (l.map File.name) x.name = q at e
    generalize l.take q = a at e ⊢
    generalize l.drop (q + 1) = b at e ⊢
    rw [e] at hpw
    simp only [List.pairwise_append, List.pairwise_cons, List.mem_cons, forall_eq_or_imp] at hpw
    unfold ltF at hpw
    rw [e]
    simp only [List.mem_append, List.mem_cons]
    constructor
    · rintro (h | h | h)
      · exact .inr ⟨.inl h, fun hp => by have := (hpw.2.2 y h).1; rw [hp, he, cmpB_self] at this; omega⟩
      · exact .inl h
      · exact .inr ⟨.inr (.inr h), fun hp => by have := hpw.2.1.1 y h; rw [hp, he, cmpB_self] at this; omega⟩
    · rintro (h | ⟨h | h | h, hp⟩)
      · exact .inr (.inl h)
      · exact .inl h
      · exact absurd (h ▸ he) hp
      · exact .inr (.inr h)
  | false =>
    rw [if_neg (by simp)]
    have hm : ∀ z, z ∈ l ↔ z ∈ l.take (posK (l.map File.name) x.name) ∨ z ∈ l.drop (posK (l.map File.name) x.name) := fun z => by rw [← List.mem_append, List.take_append_drop]
    have hn : y ∈ l → y.name ≠ x.name := by
      intro h hp
      obtain ⟨k, hk2⟩ := List.mem_iff_getElem?.1 h
      have := (atF_of hpw hk2).2
      rw [hp, hk] at this
      cases this
    simp only [List.mem_append, List.mem_cons]
    rw [hm]
    rw [hm] at hn
    constructor
    · rintro (h | h | h)
      · exact .inr ⟨.inl h, hn (.inl h)⟩
      · exact .inl h
      · exact .inr ⟨.inr h, hn (.inr h)⟩
    · rintro (h | ⟨h | h, _⟩)
      · exact .inr (.inl h)
      · exact .inl h
      · exact .inr (.inr h)
/-- the list without what stands at p -/
def offL (l : List File) (p : ByteArray) : List File := l.take (posK (l.map File.name) p) ++ l.drop (posK (l.map File.name) p + 1)
theorem offL_sorted {l : List File} (hpw : l.Pairwise ltF) (p : ByteArray) : (offL l p).Pairwise ltF := by
  refine List.Pairwise.sublist ?_ hpw
  unfold offL
  have h1 : (l.take (posK (l.map File.name) p) ++ l.drop (posK (l.map File.name) p)).Sublist l := by rw [List.take_append_drop]; exact List.Sublist.refl _
  refine List.Sublist.trans (List.Sublist.append (List.Sublist.refl _) ?_) h1
  rw [← List.drop_drop]
  exact List.drop_sublist _ _
theorem mem_offL {l : List File} (hpw : l.Pairwise ltF) {p : ByteArray} (hk : isK (l.map File.name) p = true) (y : File) : y ∈ offL l p ↔ (y ∈ l ∧ y.name ≠ p) := by
  obtain ⟨hq, he⟩ := isF_at hk
  unfold offL
  have e : l = l.take (posK (l.map File.name) p) ++ l[posK (l.map File.name) p] :: l.drop (posK (l.map File.name) p + 1) := by rw [List.getElem_cons_drop, List.take_append_drop]
  generalize l[posK (l.map File.name) p] = z at e he
  generalize posK (l.map File.name) p = q at e
  generalize l.take q = a at e ⊢
  generalize l.drop (q + 1) = b at e ⊢
  rw [e] at hpw
  simp only [List.pairwise_append, List.pairwise_cons, List.mem_cons, forall_eq_or_imp] at hpw
  unfold ltF at hpw
  rw [e]
  simp only [List.mem_append, List.mem_cons]
  constructor
  · rintro (h | h)
    · exact ⟨.inl h, fun hp => by have := (hpw.2.2 y h).1; rw [hp, he, cmpB_self] at this; omega⟩
    · exact ⟨.inr (.inr h), fun hp => by have := hpw.2.1.1 y h; rw [hp, he, cmpB_self] at this; omega⟩
  · rintro ⟨h | h | h, hp⟩
    · exact .inl h
    · exact absurd (h ▸ he) hp
    · exact .inr h
theorem goodD_iff (l : List File) : goodD l = true ↔ l.length ≤ 16 ∧ (∀ x ∈ l, okF x = true) ∧ l.Pairwise ltF := by
  unfold goodD
  rw [Bool.and_eq_true, List.all_eq_true, decide_eq_true_iff]
  refine and_congr Iff.rfl ?_
  constructor
  · intro h
    have hstep : ∀ k x, l[k]? = some x → okF x = true ∧ ∀ j y, k = j + 1 → l[j]? = some y → cmpB y.name x.name < 0 := by
      intro k x hx
      have h1 := h k (List.mem_range.2 (List.getElem?_eq_some_iff.1 hx).1)
      unfold stepF at h1
      rw [hx] at h1
      simp only [Bool.and_eq_true] at h1
      refine ⟨h1.1, fun j y hj hy => ?_⟩
      subst hj
      have h2 := h1.2
      simp only [hy] at h2
      simpa using h2
    refine ⟨fun x hx => ?_, ?_⟩
    · obtain ⟨k, hk⟩ := List.mem_iff_getElem?.1 hx
      exact (hstep k x hk).1
    · have hadj : ∀ d i x y, l[i]? = some x → l[i + d + 1]? = some y → cmpB x.name y.name < 0 := by
        intro d
        induction d with
        | zero => intro i x y hx hy; exact (hstep (i + 1) y hy).2 i x rfl hx
        | succ d ih =>
          intro i x y hx hy
          have hlt := (List.getElem?_eq_some_iff.1 hy).1
          have hz := List.getElem?_eq_getElem (l := l) (i := i + d + 1) (by omega)
          exact cb_trans _ _ _ (ih i x _ hx hz) ((hstep (i + d + 1 + 1) y hy).2 (i + d + 1) _ rfl hz)
      rw [List.pairwise_iff_getElem]
      intro i j hi hj hij
      exact hadj (j - i - 1) i _ _ (List.getElem?_eq_getElem hi) (by rw [show i + (j - i - 1) + 1 = j from by omega]; exact List.getElem?_eq_getElem hj)
  · rintro ⟨hok, hs⟩ i hi
    have hi2 := List.mem_range.1 hi
    have hx := List.getElem?_eq_getElem hi2
    unfold stepF
    simp only [hx, Bool.and_eq_true]
    refine ⟨hok _ (List.getElem_mem hi2), ?_⟩
    cases i with
    | zero => rfl
    | succ j =>
      have hy := List.getElem?_eq_getElem (l := l) (i := j) (by omega)
      simp only [hy]
      exact decide_eq_true (List.pairwise_iff_getElem.1 hs j (j + 1) (by omega) hi2 (by omega))
/-- what a read gives, by the files -/
theorem read_mem {l : List File} (hg : goodD l = true) {x : File} (hx : x ∈ l) : readE l x.name = 0 ∧ readS l x.name = x.safe ++ x.tail := by
  have := lookF_of ((goodD_iff l).1 hg).2.2 hx
  unfold readE readS
  rw [hg, this.1, this.2]
  exact ⟨rfl, rfl⟩
theorem read_none {l : List File} (hg : goodD l = true) {p : ByteArray} (h : ∀ x ∈ l, x.name ≠ p) : readE l p = 7 ∧ readS l p = ⟨#[]⟩ := by
  have := noneF_of p h
  unfold readE readS
  rw [hg, this]
  exact ⟨rfl, rfl⟩
/-- two good disks with the same files under p read alike at p -/
theorem read_alike {l m : List File} (hl : goodD l = true) (hm : goodD m = true) (p : ByteArray) (h : ∀ x : File, x.name = p → (x ∈ m ↔ x ∈ l)) : readE m p = readE l p ∧ readS m p = readS l p := by
  by_cases hx : ∃ x, x ∈ l ∧ x.name = p
  · obtain ⟨x, h1, rfl⟩ := hx
    have a := read_mem hl h1
    have b := read_mem hm ((h x rfl).2 h1)
    exact ⟨b.1.trans a.1.symm, b.2.trans a.2.symm⟩
  · have a := read_none hl (p := p) (fun x h1 h2 => hx ⟨x, h1, h2⟩)
    have b := read_none hm (p := p) (fun x h1 h2 => hx ⟨x, (h x h2).1 h1, h2⟩)
    exact ⟨b.1.trans a.1.symm, b.2.trans a.2.symm⟩
theorem putL_good {l : List File} (hl : goodD l = true) {x : File} (hx : okF x = true) (hn : isK (l.map File.name) x.name = true ∨ l.length < 16) : goodD (putL l x) = true := by
  obtain ⟨h1, h2, h3⟩ := (goodD_iff l).1 hl
  refine (goodD_iff _).2 ⟨?_, ?_, putL_sorted h3 x⟩
  · unfold putL
    split
    · rw [List.length_set]; exact h1
    · rename_i hk
      rcases hn with h | h
      · exact absurd h hk
      · simp
        omega
  · intro y hy
    rcases (mem_putL h3 x y).1 hy with rfl | ⟨h, _⟩
    · exact hx
    · exact h2 y h
theorem putL_reads {l : List File} (hl : goodD l = true) {x : File} (hx : goodD (putL l x) = true) : readE (putL l x) x.name = 0 ∧ readS (putL l x) x.name = x.safe ++ x.tail :=
  read_mem hx ((mem_putL ((goodD_iff l).1 hl).2.2 x x).2 (.inl rfl))
theorem putL_others {l : List File} (hl : goodD l = true) {x : File} (hx : goodD (putL l x) = true) {p : ByteArray} (hp : p ≠ x.name) : readE (putL l x) p = readE l p ∧ readS (putL l x) p = readS l p := by
  refine read_alike hl hx p fun y hy => ?_
  rw [mem_putL ((goodD_iff l).1 hl).2.2]
  constructor
  · rintro (rfl | h)
    · exact absurd hy.symm hp
    · exact h.1
  · intro h
    exact .inr ⟨h, by rw [hy]; exact hp⟩
theorem offL_good {l : List File} (hl : goodD l = true) {p : ByteArray} (hk : isK (l.map File.name) p = true) : goodD (offL l p) = true := by
  obtain ⟨h1, h2, h3⟩ := (goodD_iff l).1 hl
  refine (goodD_iff _).2 ⟨?_, ?_, offL_sorted h3 p⟩
  · unfold offL
    simp
    omega
  · intro y hy
    exact h2 y ((mem_offL h3 hk y).1 hy).1
theorem crash_good {l : List File} (hl : goodD l = true) (n : Nat) : goodD (l.map (crashF n)) = true := by
  obtain ⟨h1, h2, h3⟩ := (goodD_iff l).1 hl
  refine (goodD_iff _).2 ⟨by simpa using h1, ?_, ?_⟩
  · intro y hy
    obtain ⟨x, hx, rfl⟩ := List.mem_map.1 hy
    have := h2 x hx
    unfold okF at this ⊢
    rw [Bool.and_eq_true, decide_eq_true_iff] at this ⊢
    refine ⟨this.1, ?_⟩
    have := this.2
    show (x.safe ++ x.tail.extract 0 (min n x.tail.size)).size + 0 ≤ 1048576
    rw [ByteArray.size_append, ByteArray.size_extract]
    omega
  · rw [List.pairwise_map]
    exact h3
theorem crash_reads {l : List File} (hl : goodD l = true) (n : Nat) {x : File} (hx : x ∈ l) : readE (l.map (crashF n)) x.name = 0 ∧ readS (l.map (crashF n)) x.name = x.safe ++ x.tail.extract 0 (min n x.tail.size) := by
  have := read_mem (crash_good hl n) (List.mem_map.2 ⟨x, hx, rfl⟩)
  exact ⟨this.1, this.2.trans ByteArray.append_empty⟩
end Go.Proofs.YtfaghpdhinfblaaDoor

/- package disk: Write. -/
namespace Go.Proofs.YtfaghpdhinfblaaDoor
open Go.RowKit Go.ChangeShapes Go.WideShapes Go.ChangeAt
def writeE (l : List File) (p s : ByteArray) : Int := if goodD l then (if named (bs p) then (if isK (l.map File.name) p then (if (fileAt l p).safe.size + (fileAt l p).tail.size + s.size ≤ 1048576 then 0 else 1) else (if 16 ≤ l.length then 6 else (if s.size ≤ 1048576 then 0 else 1))) else 2) else 3
def writeL (l : List File) (p s : ByteArray) : List File := if goodD l then (if named (bs p) then (if isK (l.map File.name) p then (if (fileAt l p).safe.size + (fileAt l p).tail.size + s.size ≤ 1048576 then l.set (posK (l.map File.name) p) ⟨(fileAt l p).name, (fileAt l p).safe, (fileAt l p).tail ++ s⟩ else []) else (if 16 ≤ l.length then [] else (if s.size ≤ 1048576 then l.take (posK (l.map File.name) p) ++ ⟨p, ⟨#[]⟩, s⟩ :: l.drop (posK (l.map File.name) p) else []))) else []) else []
/-- one cell of one file set anew -/
theorem set_tail {l : List File} {J : List Value} {k : Nat} {x : File} (hx : l[k]? = some x) (t : ByteArray) :
    (l.flatMap cFile ++ J).set (k * 3 + 2) (.string t) = (l.set k ⟨x.name, x.safe, t⟩).flatMap cFile ++ J := by
  rw [← set_file hx x.safe t]
  congr 1
  have hk : k < l.length := (List.getElem?_eq_some_iff.1 hx).1
  have hlen : (l.flatMap cFile).length = l.length * 3 := flatMap_length (fun y _ => rfl)
  have h0 : (l.flatMap cFile)[k * 3 + 1]? = some (.string x.safe) := flatMap_get (f := cFile) (s := 3) (fun y _ => rfl) hx rfl
  apply List.ext_getElem?
  intro i
  rw [List.getElem?_set]
  split
  · rename_i e
    subst e
    rw [if_pos (by rw [List.length_append]; omega), List.getElem?_append_left (by rw [hlen]; omega), h0]
  · rfl
def InsFs (l : List File) (W : World) (r : Ending) (w' : World) : Prop := ∃ A c ext d, r = .returned (.slice A l.length c) ∧ w' = grow W ext d ∧ Ow cFile 3 58 w' W.heap.size (.slice A l.length c) l
theorem insFile_in {L : List File} {W w1 : World} {v : Value} {k : Nat} {l : List File} {x : File} (hb1 : Below W.heap.size W w1) (hown : Ow cFile 3 58 w1 W.heap.size v l) (hk : k ≤ l.length) (hn : (l.length + 1) * 48 ≤ 140737488355328) (vb : Nat) (hvb : vb = w1.heap.size) (hL : L = l.take k ++ x :: l.drop k) :
    Calls Tryd.prog 35 #[v, .int .i64 k, .slice (some ⟨vb, 0, none⟩) 1 1] (w1.alloc (.cells #[.string x.name, .string x.safe, .string x.tail] 58)) (InsFs L W) := by
  subst hL
  have hb : Below W.heap.size W (w1.alloc (.cells #[.string x.name, .string x.safe, .string x.tail] 58)) := hb1.alloc hb1.size _
  have ho : Ow cFile 3 58 (w1.alloc (.cells #[.string x.name, .string x.safe, .string x.tail] 58)) W.heap.size v l := hown.alloc _
  refine (insFile v k l x _ W.heap.size vb ho hk ?_ ?_ hb.size hn).mono ?_
  · subst hvb
    have := heap_alloc_new w1 (.cells #[.string x.name, .string x.safe, .string x.tail] 58)
    exact this
  · intro hc
    have h2 := (hown.own_in hc).2
    omega
  · rintro r w' ⟨A, c, rfl, h1, h2, h3⟩
    have hl : (l.take k ++ x :: l.drop k).length = l.length + 1 := by simp; omega
    obtain ⟨ext, d, rfl⟩ := grown_after hb h2 (fun k hk => (hown.own_in hk).1)
    exact ⟨A, c, ext, d, by rw [hl], rfl, by rw [hl]; exact h1⟩
set_option maxHeartbeats 4000000 in
theorem dkWrite (v : Value) (l : List File) (p s : ByteArray) (w : World) (h : Sl cFile 3 w v l) (hz : ∀ x ∈ l, x.sized) (hp : p.size ≤ 9223372036854775807) (hs : s.size ≤ 140737488355328) :
    Calls Tryd.prog 22 #[.agg #[v], .string p, .string s] w (DkRes (writeL l p s) (writeE l p s) w) := by
  obtain ⟨A, c, rfl, hc1, hc2⟩ := h.form
  have H := Lib.hid h
  have HG := Lib.hid (fun (W : World) (hs : Sl cFile 3 W (.slice A l.length c) l) => dkGood _ l W hs hz)
  have HN := Lib.hid (fun (W : World) => named_any p W hp)
  unfold writeL writeE
  cases hg : goodD l with
  | false =>
    rw [hg] at HG
    clear h hz hg
    simp only [Bool.false_eq_true, if_false]
    go_enter Tryd.func22, Tryd.ntmps22
    go_wp2_with
      (first | (go_at_call 26; refine (HG.out _ (H.out.below (by repeat (first | exact Below.refl _ _ | assumption | refine Below.drew ?_ | refine Below.drewN' ?_ _ | refine below_grow0 _ _ ?_ | refine below_alloc0 _ ?_ | refine Below.alloc ?_ (by first | omega | (simp; done) | (simp; omega)) _ | refine Below.setCell ?_ (by first | omega | (simp; done) | (simp; omega)) _ | refine Below.grow _ _ _ ?_ (by first | omega | (simp; done) | (simp; omega)))))).mono ?_; rintro e w1 ⟨rfl, hb⟩; obtain ⟨ext, d, rfl⟩ := Below.grown_eq _ hb; clear hb) | (go_at_call 27; refine (HF.out _ _ (H.out.below (by repeat (first | exact Below.refl _ _ | assumption | refine Below.drew ?_ | refine Below.drewN' ?_ _ | refine below_grow0 _ _ ?_ | refine below_alloc0 _ ?_ | refine Below.alloc ?_ (by first | omega | (simp; done) | (simp; omega)) _ | refine Below.setCell ?_ (by first | omega | (simp; done) | (simp; omega)) _ | refine Below.grow _ _ _ ?_ (by first | omega | (simp; done) | (simp; omega)))))).mono ?_; rintro e w1 ⟨rfl, hb⟩; obtain ⟨ext2, d2, rfl⟩ := Below.grown_eq _ hb; clear hb) | (go_at_call 34; refine (HN.out _).mono ?_; rintro e w1 ⟨rfl, rfl⟩; skip))
    refine bodyPost_ret (v := .tuple #[.agg #[.slice none 0 0], .int .i64 3]) (by simp [results, Tryd.results22, go_sem]) rfl ⟨none, 0, rfl, Ow.nil _ _ _ _ _, (by repeat (first | exact Below.refl _ _ | assumption | refine Below.drew ?_ | refine Below.drewN' ?_ _ | refine below_grow0 _ _ ?_ | refine below_alloc0 _ ?_ | refine Below.alloc ?_ (by first | omega | (simp; done) | (simp; omega)) _ | refine Below.setCell ?_ (by first | omega | (simp; done) | (simp; omega)) _ | refine Below.grow _ _ _ ?_ (by first | omega | (simp; done) | (simp; omega))))⟩
  | true =>
    rw [hg] at HG
    have hl16 := goodD_len hg
    clear hg
    simp only [if_true]
    cases hnm : named (bs p) with
    | false =>
      rw [hnm] at HN
      clear h hz hnm
      simp only [Bool.false_eq_true, if_false]
      go_enter Tryd.func22, Tryd.ntmps22
      go_wp2_with
        (first | (go_at_call 26; refine (HG.out _ (H.out.below (by repeat (first | exact Below.refl _ _ | assumption | refine Below.drew ?_ | refine Below.drewN' ?_ _ | refine below_grow0 _ _ ?_ | refine below_alloc0 _ ?_ | refine Below.alloc ?_ (by first | omega | (simp; done) | (simp; omega)) _ | refine Below.setCell ?_ (by first | omega | (simp; done) | (simp; omega)) _ | refine Below.grow _ _ _ ?_ (by first | omega | (simp; done) | (simp; omega)))))).mono ?_; rintro e w1 ⟨rfl, hb⟩; obtain ⟨ext, d, rfl⟩ := Below.grown_eq _ hb; clear hb) | (go_at_call 27; refine (HF.out _ _ (H.out.below (by repeat (first | exact Below.refl _ _ | assumption | refine Below.drew ?_ | refine Below.drewN' ?_ _ | refine below_grow0 _ _ ?_ | refine below_alloc0 _ ?_ | refine Below.alloc ?_ (by first | omega | (simp; done) | (simp; omega)) _ | refine Below.setCell ?_ (by first | omega | (simp; done) | (simp; omega)) _ | refine Below.grow _ _ _ ?_ (by first | omega | (simp; done) | (simp; omega)))))).mono ?_; rintro e w1 ⟨rfl, hb⟩; obtain ⟨ext2, d2, rfl⟩ := Below.grown_eq _ hb; clear hb) | (go_at_call 34; refine (HN.out _).mono ?_; rintro e w1 ⟨rfl, rfl⟩; skip))
      refine bodyPost_ret (v := .tuple #[.agg #[.slice none 0 0], .int .i64 2]) (by simp [results, Tryd.results22, go_sem]) rfl ⟨none, 0, rfl, Ow.nil _ _ _ _ _, (by repeat (first | exact Below.refl _ _ | assumption | refine Below.drew ?_ | refine Below.drewN' ?_ _ | refine below_grow0 _ _ ?_ | refine below_alloc0 _ ?_ | refine Below.alloc ?_ (by first | omega | (simp; done) | (simp; omega)) _ | refine Below.setCell ?_ (by first | omega | (simp; done) | (simp; omega)) _ | refine Below.grow _ _ _ ?_ (by first | omega | (simp; done) | (simp; omega))))⟩
    | true =>
      rw [hnm] at HN
      clear hnm
      simp only [if_true]
      have hfind := fun (W : World) (v : Value) (hs : Sl cFile 3 W v l) => dkFind v l p W hs (by omega)
      cases hk : isK (l.map File.name) p with
      | true =>
        rw [hk] at hfind
        have HF := Lib.hid hfind
        have hq := isK_in_file hk
        have hx : l[posK (l.map File.name) p]? = some (fileAt l p) := by
          unfold fileAt
          rw [List.getD_eq_getElem?_getD, List.getElem?_eq_getElem hq]
          rfl
        obtain ⟨z0, z1, z2⟩ := hz _ (List.mem_of_getElem? hx)
        generalize fileAt l p = x at *
        generalize posK (l.map File.name) p = q at *
        have HX := Lib.hid hx
        clear h hz hk hfind hx
        simp only [if_true]
        by_cases hl : x.safe.size + x.tail.size + s.size ≤ 1048576
        · have hli : (decide ((1048576 : Int) < (x.safe.size : Int) + (x.tail.size : Int) + (s.size : Int))) = false := decide_eq_false (by omega)
          simp only [if_pos hl]
          clear hl
          go_enter Tryd.func22, Tryd.ntmps22
          go_wp2_with
            (first | (go_at_call 26; refine (HG.out _ (H.out.below (by repeat (first | exact Below.refl _ _ | assumption | refine Below.drew ?_ | refine Below.drewN' ?_ _ | refine below_grow0 _ _ ?_ | refine below_alloc0 _ ?_ | refine Below.alloc ?_ (by first | omega | (simp; done) | (simp; omega)) _ | refine Below.setCell ?_ (by first | omega | (simp; done) | (simp; omega)) _ | refine Below.grow _ _ _ ?_ (by first | omega | (simp; done) | (simp; omega)))))).mono ?_; rintro e w1 ⟨rfl, hb⟩; obtain ⟨ext, d, rfl⟩ := Below.grown_eq _ hb; clear hb) | (go_at_call 27; refine (HF.out _ _ (H.out.below (by repeat (first | exact Below.refl _ _ | assumption | refine Below.drew ?_ | refine Below.drewN' ?_ _ | refine below_grow0 _ _ ?_ | refine below_alloc0 _ ?_ | refine Below.alloc ?_ (by first | omega | (simp; done) | (simp; omega)) _ | refine Below.setCell ?_ (by first | omega | (simp; done) | (simp; omega)) _ | refine Below.grow _ _ _ ?_ (by first | omega | (simp; done) | (simp; omega)))))).mono ?_; rintro e w1 ⟨rfl, hb⟩; obtain ⟨ext2, d2, rfl⟩ := Below.grown_eq _ hb; clear hb) | (go_at_call 34; refine (HN.out _).mono ?_; rintro e w1 ⟨rfl, rfl⟩; skip))
          refine (dkCopied _ l _ (H.out.below (by repeat (first | exact Below.refl _ _ | assumption | refine Below.drew ?_ | refine Below.drewN' ?_ _ | refine below_grow0 _ _ ?_ | refine below_alloc0 _ ?_ | refine Below.alloc ?_ (by first | omega | (simp; done) | (simp; omega)) _ | refine Below.setCell ?_ (by first | omega | (simp; done) | (simp; omega)) _ | refine Below.grow _ _ _ ?_ (by first | omega | (simp; done) | (simp; omega))))) (by omega) (by simp [maxLen]; omega)).mono ?_
          rintro e w3 ⟨A3, c3, rfl, ho3, hb3⟩
          obtain ⟨ext3, d3, rfl⟩ := Below.grown_eq _ hb3
          obtain ⟨g3, J, rfl, hg3, hbk3, hcl, hlc, hcm, _⟩ := ho3.blk (by omega)
          have hg4 : w.heap.size + 1 + 1 ≤ g3 := by simp at hg3; omega
          have hbk4 : ∀ d', Bk (grow (grow (grow ((w.alloc (.cells #[.slice (some ⟨g3, 0, none⟩) l.length c3] 24)).alloc (.cells #[.slice none 0 0] 24)) ext d) ext2 d2) ext3 d') g3 (l.flatMap cFile ++ J) 58 := fun d' => hbk3.regrow (by simpa using hg3) (by simp)
          obtain ⟨r0, r1, r2⟩ := file_cells (hbk4 (d3 + 1)) HX.out
          obtain ⟨s0, s1, s2⟩ := file_cells (hbk4 (d3 + 1)) HX.out
          have f2 := (hbk4 (d3 + 1)).frozen (q * 3 + 2)
          have HBK := Lib.hid hbk4
          have HCL := Lib.hid hcl
          clear hb3 ho3 hbk3 hbk4 hg3 hcl
          go_wp2_with fail
          go_region
          go_wp2_with fail
          have hlen : ((l.set q ⟨x.name, x.safe, x.tail ++ s⟩).flatMap cFile ++ J).length = c3 * 3 := by
            rw [← HCL.out, List.length_append, List.length_append, flatMap_length (f := cFile) (s := 3) (fun _ _ => rfl), flatMap_length (f := cFile) (s := 3) (fun _ _ => rfl), List.length_set]
          have n1 : ¬ w.heap.size + 1 = g3 := by omega
          have n2 : ¬ g3 = w.heap.size + 1 := by omega
          refine bodyPost_ret (v := .tuple #[.agg #[.slice (some ⟨g3, 0, none⟩) l.length c3], .int .i64 0]) (by simp [results, Tryd.results22, go_sem]) rfl ⟨some ⟨g3, 0, none⟩, c3, by rw [List.length_set], ?_, ?_⟩
          · refine Ow.far (Ow.of_blk (f := cFile) (s := 3) (B := w.heap.size) (fun _ _ => rfl) (by omega) ?_ rfl hlen (by rw [List.length_set]; exact hlc) hcm) (by omega)
            have := (HBK.out (d3 + 1)).put (q * 3 + 2) (.string (x.tail ++ s))
            rw [set_tail HX.out] at this
            exact this
          · refine Below.put (Below.put ?_ ?_) ?_
            · exact (by repeat (first | exact Below.refl _ _ | assumption | refine Below.drew ?_ | refine Below.drewN' ?_ _ | refine below_grow0 _ _ ?_ | refine below_alloc0 _ ?_ | refine Below.alloc ?_ (by first | omega | (simp; done) | (simp; omega)) _ | refine Below.setCell ?_ (by first | omega | (simp; done) | (simp; omega)) _ | refine Below.grow _ _ _ ?_ (by first | omega | (simp; done) | (simp; omega))))
            all_goals omega
        · have hli : (decide ((1048576 : Int) < (x.safe.size : Int) + (x.tail.size : Int) + (s.size : Int))) = true := decide_eq_true (by omega)
          simp only [if_neg hl]
          clear hl
          go_enter Tryd.func22, Tryd.ntmps22
          go_wp2_with
            (first | (go_at_call 26; refine (HG.out _ (H.out.below (by repeat (first | exact Below.refl _ _ | assumption | refine Below.drew ?_ | refine Below.drewN' ?_ _ | refine below_grow0 _ _ ?_ | refine below_alloc0 _ ?_ | refine Below.alloc ?_ (by first | omega | (simp; done) | (simp; omega)) _ | refine Below.setCell ?_ (by first | omega | (simp; done) | (simp; omega)) _ | refine Below.grow _ _ _ ?_ (by first | omega | (simp; done) | (simp; omega)))))).mono ?_; rintro e w1 ⟨rfl, hb⟩; obtain ⟨ext, d, rfl⟩ := Below.grown_eq _ hb; clear hb) | (go_at_call 27; refine (HF.out _ _ (H.out.below (by repeat (first | exact Below.refl _ _ | assumption | refine Below.drew ?_ | refine Below.drewN' ?_ _ | refine below_grow0 _ _ ?_ | refine below_alloc0 _ ?_ | refine Below.alloc ?_ (by first | omega | (simp; done) | (simp; omega)) _ | refine Below.setCell ?_ (by first | omega | (simp; done) | (simp; omega)) _ | refine Below.grow _ _ _ ?_ (by first | omega | (simp; done) | (simp; omega)))))).mono ?_; rintro e w1 ⟨rfl, hb⟩; obtain ⟨ext2, d2, rfl⟩ := Below.grown_eq _ hb; clear hb) | (go_at_call 34; refine (HN.out _).mono ?_; rintro e w1 ⟨rfl, rfl⟩; skip))
          refine (dkCopied _ l _ (H.out.below (by repeat (first | exact Below.refl _ _ | assumption | refine Below.drew ?_ | refine Below.drewN' ?_ _ | refine below_grow0 _ _ ?_ | refine below_alloc0 _ ?_ | refine Below.alloc ?_ (by first | omega | (simp; done) | (simp; omega)) _ | refine Below.setCell ?_ (by first | omega | (simp; done) | (simp; omega)) _ | refine Below.grow _ _ _ ?_ (by first | omega | (simp; done) | (simp; omega))))) (by omega) (by simp [maxLen]; omega)).mono ?_
          rintro e w3 ⟨A3, c3, rfl, ho3, hb3⟩
          obtain ⟨ext3, d3, rfl⟩ := Below.grown_eq _ hb3
          obtain ⟨g3, J, rfl, hg3, hbk3, hcl, hlc, hcm, _⟩ := ho3.blk (by omega)
          have hg4 : w.heap.size + 1 + 1 ≤ g3 := by simp at hg3; omega
          have hbk4 : ∀ d', Bk (grow (grow (grow ((w.alloc (.cells #[.slice (some ⟨g3, 0, none⟩) l.length c3] 24)).alloc (.cells #[.slice none 0 0] 24)) ext d) ext2 d2) ext3 d') g3 (l.flatMap cFile ++ J) 58 := fun d' => hbk3.regrow (by simpa using hg3) (by simp)
          obtain ⟨r0, r1, r2⟩ := file_cells (hbk4 (d3 + 1)) HX.out
          have HBK := Lib.hid hbk4
          have HCL := Lib.hid hcl
          clear hb3 ho3 hbk3 hbk4 hg3 hcl
          go_wp2_with fail
          go_region
          go_wp2_with fail
          refine bodyPost_ret (v := .tuple #[.agg #[.slice none 0 0], .int .i64 1]) (by simp [results, Tryd.results22, go_sem]) rfl ⟨none, 0, rfl, Ow.nil _ _ _ _ _, (by repeat (first | exact Below.refl _ _ | assumption | refine Below.drew ?_ | refine Below.drewN' ?_ _ | refine below_grow0 _ _ ?_ | refine below_alloc0 _ ?_ | refine Below.alloc ?_ (by first | omega | (simp; done) | (simp; omega)) _ | refine Below.setCell ?_ (by first | omega | (simp; done) | (simp; omega)) _ | refine Below.grow _ _ _ ?_ (by first | omega | (simp; done) | (simp; omega))))⟩
      | false =>
        rw [hk] at hfind
        have HF := Lib.hid hfind
        have hq : posK (l.map File.name) p ≤ l.length := by unfold posK; have := bsr_le (ltK (l.map File.name) p) (l.map File.name).length; simpa using this
        generalize posK (l.map File.name) p = q at *
        clear h hz hk hfind
        simp only [Bool.false_eq_true, if_false]
        by_cases h16 : 16 ≤ l.length
        · have h16i : (decide ((16 : Int) ≤ (l.length : Int))) = true := decide_eq_true (by omega)
          simp only [if_pos h16]
          go_enter Tryd.func22, Tryd.ntmps22
          go_wp2_with
            (first | (go_at_call 26; refine (HG.out _ (H.out.below (by repeat (first | exact Below.refl _ _ | assumption | refine Below.drew ?_ | refine Below.drewN' ?_ _ | refine below_grow0 _ _ ?_ | refine below_alloc0 _ ?_ | refine Below.alloc ?_ (by first | omega | (simp; done) | (simp; omega)) _ | refine Below.setCell ?_ (by first | omega | (simp; done) | (simp; omega)) _ | refine Below.grow _ _ _ ?_ (by first | omega | (simp; done) | (simp; omega)))))).mono ?_; rintro e w1 ⟨rfl, hb⟩; obtain ⟨ext, d, rfl⟩ := Below.grown_eq _ hb; clear hb) | (go_at_call 27; refine (HF.out _ _ (H.out.below (by repeat (first | exact Below.refl _ _ | assumption | refine Below.drew ?_ | refine Below.drewN' ?_ _ | refine below_grow0 _ _ ?_ | refine below_alloc0 _ ?_ | refine Below.alloc ?_ (by first | omega | (simp; done) | (simp; omega)) _ | refine Below.setCell ?_ (by first | omega | (simp; done) | (simp; omega)) _ | refine Below.grow _ _ _ ?_ (by first | omega | (simp; done) | (simp; omega)))))).mono ?_; rintro e w1 ⟨rfl, hb⟩; obtain ⟨ext2, d2, rfl⟩ := Below.grown_eq _ hb; clear hb) | (go_at_call 34; refine (HN.out _).mono ?_; rintro e w1 ⟨rfl, rfl⟩; skip))
          refine bodyPost_ret (v := .tuple #[.agg #[.slice none 0 0], .int .i64 6]) (by simp [results, Tryd.results22, go_sem]) rfl ⟨none, 0, rfl, Ow.nil _ _ _ _ _, (by repeat (first | exact Below.refl _ _ | assumption | refine Below.drew ?_ | refine Below.drewN' ?_ _ | refine below_grow0 _ _ ?_ | refine below_alloc0 _ ?_ | refine Below.alloc ?_ (by first | omega | (simp; done) | (simp; omega)) _ | refine Below.setCell ?_ (by first | omega | (simp; done) | (simp; omega)) _ | refine Below.grow _ _ _ ?_ (by first | omega | (simp; done) | (simp; omega))))⟩
        · have h16i : (decide ((16 : Int) ≤ (l.length : Int))) = false := decide_eq_false (by omega)
          simp only [if_neg h16]
          generalize hL : l.take q ++ (⟨p, ⟨#[]⟩, ⟨#[]⟩⟩ : File) :: l.drop q = L
          have hX : L[q]? = some (⟨p, ⟨#[]⟩, ⟨#[]⟩⟩ : File) := by rw [← hL, List.getElem?_append_right (by simp; omega)]; simp [Nat.min_eq_left hq]
          have hX2 : L.set q ⟨p, ⟨#[]⟩, s⟩ = l.take q ++ (⟨p, ⟨#[]⟩, s⟩ : File) :: l.drop q := by rw [← hL, List.set_append_right _ _ (by simp; omega)]; simp [Nat.min_eq_left hq]
          have hLl : 0 < L.length := Nat.lt_of_le_of_lt (Nat.zero_le q) (List.getElem?_eq_some_iff.1 hX).1
          have HL := Lib.hid hL
          have HX := Lib.hid hX
          rw [← hX2]
          clear hL hX hX2
          by_cases hl : s.size ≤ 1048576
          · have hli : (decide ((1048576 : Int) < (s.size : Int))) = false := decide_eq_false (by omega)
            simp only [if_pos hl]
            clear hl
            go_enter Tryd.func22, Tryd.ntmps22
            go_wp2_with
              (first | (go_at_call 26; refine (HG.out _ (H.out.below (by repeat (first | exact Below.refl _ _ | assumption | refine Below.drew ?_ | refine Below.drewN' ?_ _ | refine below_grow0 _ _ ?_ | refine below_alloc0 _ ?_ | refine Below.alloc ?_ (by first | omega | (simp; done) | (simp; omega)) _ | refine Below.setCell ?_ (by first | omega | (simp; done) | (simp; omega)) _ | refine Below.grow _ _ _ ?_ (by first | omega | (simp; done) | (simp; omega)))))).mono ?_; rintro e w1 ⟨rfl, hb⟩; obtain ⟨ext, d, rfl⟩ := Below.grown_eq _ hb; clear hb) | (go_at_call 27; refine (HF.out _ _ (H.out.below (by repeat (first | exact Below.refl _ _ | assumption | refine Below.drew ?_ | refine Below.drewN' ?_ _ | refine below_grow0 _ _ ?_ | refine below_alloc0 _ ?_ | refine Below.alloc ?_ (by first | omega | (simp; done) | (simp; omega)) _ | refine Below.setCell ?_ (by first | omega | (simp; done) | (simp; omega)) _ | refine Below.grow _ _ _ ?_ (by first | omega | (simp; done) | (simp; omega)))))).mono ?_; rintro e w1 ⟨rfl, hb⟩; obtain ⟨ext2, d2, rfl⟩ := Below.grown_eq _ hb; clear hb) | (go_at_call 34; refine (HN.out _).mono ?_; rintro e w1 ⟨rfl, rfl⟩; skip))
            refine (dkCopied _ l _ (H.out.below (by repeat (first | exact Below.refl _ _ | assumption | refine Below.drew ?_ | refine Below.drewN' ?_ _ | refine below_grow0 _ _ ?_ | refine below_alloc0 _ ?_ | refine Below.alloc ?_ (by first | omega | (simp; done) | (simp; omega)) _ | refine Below.setCell ?_ (by first | omega | (simp; done) | (simp; omega)) _ | refine Below.grow _ _ _ ?_ (by first | omega | (simp; done) | (simp; omega))))) (by omega) (by simp [maxLen]; omega)).mono ?_
            rintro e w3 ⟨A3, c3, rfl, ho3, hb3⟩
            obtain ⟨ext3, d3, rfl⟩ := Below.grown_eq _ hb3
            have HO3 := Lib.hid ho3
            clear ho3
            go_wp2_with fail
            refine (insFile_in (x := ⟨p, ⟨#[]⟩, ⟨#[]⟩⟩) (W := ((w.alloc (.cells #[.slice A3 l.length c3] 24)).alloc (.cells #[.slice none 0 0] 24))) (by repeat (first | exact Below.refl _ _ | assumption | refine Below.drew ?_ | refine Below.drewN' ?_ _ | refine below_grow0 _ _ ?_ | refine below_alloc0 _ ?_ | refine Below.alloc ?_ (by first | omega | (simp; done) | (simp; omega)) _ | refine Below.setCell ?_ (by first | omega | (simp; done) | (simp; omega)) _ | refine Below.grow _ _ _ ?_ (by first | omega | (simp; done) | (simp; omega)))) ((HO3.out.regrow (Nat.le_refl _) (by simp)).mono (by simp; omega)) hq (by omega) _ (by simp) HL.out.symm).mono ?_
            rintro e w4 ⟨A4, c4, ext4, d4, rfl, rfl, ho4⟩
            obtain ⟨g3, J, rfl, hg3, hbk3, hcl, hlc, hcm, _⟩ := ho4.blk hLl
            have hg4 : w.heap.size + 1 + 1 ≤ g3 := by simp at hg3; omega
            have hbk4 : ∀ d', Bk (grow ((w.alloc (.cells #[.slice (some ⟨g3, 0, none⟩) L.length c4] 24)).alloc (.cells #[.slice none 0 0] 24)) ext4 d') g3 (L.flatMap cFile ++ J) 58 := fun d' => hbk3.regrow (by simpa using hg3) (by simp)
            obtain ⟨r0, r1, r2⟩ := file_cells (hbk4 (d4 + 1)) HX.out
            have f2 := (hbk4 (d4 + 1)).frozen (q * 3 + 2)
            have hqL : q < L.length := (List.getElem?_eq_some_iff.1 HX.out).1
            have HBK := Lib.hid hbk4
            have HCL := Lib.hid hcl
            clear ho4 hbk3 hbk4 hg3 hcl
            go_wp2_with fail
            go_region
            go_wp2_with fail
            have hlen : ((L.set q ⟨p, ⟨#[]⟩, s⟩).flatMap cFile ++ J).length = c4 * 3 := by
              rw [← HCL.out, List.length_append, List.length_append, flatMap_length (f := cFile) (s := 3) (fun _ _ => rfl), flatMap_length (f := cFile) (s := 3) (fun _ _ => rfl), List.length_set]
            have n1 : ¬ w.heap.size + 1 = g3 := by omega
            have n2 : ¬ g3 = w.heap.size + 1 := by omega
            refine bodyPost_ret (v := .tuple #[.agg #[.slice (some ⟨g3, 0, none⟩) L.length c4], .int .i64 0]) (by simp [results, Tryd.results22, go_sem]) rfl ⟨some ⟨g3, 0, none⟩, c4, by rw [List.length_set], ?_, ?_⟩
            · refine Ow.far (Ow.of_blk (f := cFile) (s := 3) (B := w.heap.size) (fun _ _ => rfl) (by omega) ?_ rfl hlen (by rw [List.length_set]; exact hlc) hcm) (by omega)
              have := (HBK.out (d4 + 1)).put (q * 3 + 2) (.string s)
              rw [set_tail HX.out] at this
              exact this
            · refine Below.put (Below.put ?_ ?_) ?_
              · exact (by repeat (first | exact Below.refl _ _ | assumption | refine Below.drew ?_ | refine Below.drewN' ?_ _ | refine below_grow0 _ _ ?_ | refine below_alloc0 _ ?_ | refine Below.alloc ?_ (by first | omega | (simp; done) | (simp; omega)) _ | refine Below.setCell ?_ (by first | omega | (simp; done) | (simp; omega)) _ | refine Below.grow _ _ _ ?_ (by first | omega | (simp; done) | (simp; omega))))
              all_goals omega
          · have hli : (decide ((1048576 : Int) < (s.size : Int))) = true := decide_eq_true (by omega)
            simp only [if_neg hl]
            clear hl
            go_enter Tryd.func22, Tryd.ntmps22
            go_wp2_with
              (first | (go_at_call 26; refine (HG.out _ (H.out.below (by repeat (first | exact Below.refl _ _ | assumption | refine Below.drew ?_ | refine Below.drewN' ?_ _ | refine below_grow0 _ _ ?_ | refine below_alloc0 _ ?_ | refine Below.alloc ?_ (by first | omega | (simp; done) | (simp; omega)) _ | refine Below.setCell ?_ (by first | omega | (simp; done) | (simp; omega)) _ | refine Below.grow _ _ _ ?_ (by first | omega | (simp; done) | (simp; omega)))))).mono ?_; rintro e w1 ⟨rfl, hb⟩; obtain ⟨ext, d, rfl⟩ := Below.grown_eq _ hb; clear hb) | (go_at_call 27; refine (HF.out _ _ (H.out.below (by repeat (first | exact Below.refl _ _ | assumption | refine Below.drew ?_ | refine Below.drewN' ?_ _ | refine below_grow0 _ _ ?_ | refine below_alloc0 _ ?_ | refine Below.alloc ?_ (by first | omega | (simp; done) | (simp; omega)) _ | refine Below.setCell ?_ (by first | omega | (simp; done) | (simp; omega)) _ | refine Below.grow _ _ _ ?_ (by first | omega | (simp; done) | (simp; omega)))))).mono ?_; rintro e w1 ⟨rfl, hb⟩; obtain ⟨ext2, d2, rfl⟩ := Below.grown_eq _ hb; clear hb) | (go_at_call 34; refine (HN.out _).mono ?_; rintro e w1 ⟨rfl, rfl⟩; skip))
            refine (dkCopied _ l _ (H.out.below (by repeat (first | exact Below.refl _ _ | assumption | refine Below.drew ?_ | refine Below.drewN' ?_ _ | refine below_grow0 _ _ ?_ | refine below_alloc0 _ ?_ | refine Below.alloc ?_ (by first | omega | (simp; done) | (simp; omega)) _ | refine Below.setCell ?_ (by first | omega | (simp; done) | (simp; omega)) _ | refine Below.grow _ _ _ ?_ (by first | omega | (simp; done) | (simp; omega))))) (by omega) (by simp [maxLen]; omega)).mono ?_
            rintro e w3 ⟨A3, c3, rfl, ho3, hb3⟩
            obtain ⟨ext3, d3, rfl⟩ := Below.grown_eq _ hb3
            have HO3 := Lib.hid ho3
            clear ho3
            go_wp2_with fail
            refine (insFile_in (x := ⟨p, ⟨#[]⟩, ⟨#[]⟩⟩) (W := ((w.alloc (.cells #[.slice A3 l.length c3] 24)).alloc (.cells #[.slice none 0 0] 24))) (by repeat (first | exact Below.refl _ _ | assumption | refine Below.drew ?_ | refine Below.drewN' ?_ _ | refine below_grow0 _ _ ?_ | refine below_alloc0 _ ?_ | refine Below.alloc ?_ (by first | omega | (simp; done) | (simp; omega)) _ | refine Below.setCell ?_ (by first | omega | (simp; done) | (simp; omega)) _ | refine Below.grow _ _ _ ?_ (by first | omega | (simp; done) | (simp; omega)))) ((HO3.out.regrow (Nat.le_refl _) (by simp)).mono (by simp; omega)) hq (by omega) _ (by simp) HL.out.symm).mono ?_
            rintro e w4 ⟨A4, c4, ext4, d4, rfl, rfl, ho4⟩
            obtain ⟨g3, J, rfl, hg3, hbk3, hcl, hlc, hcm, _⟩ := ho4.blk hLl
            have hg4 : w.heap.size + 1 + 1 ≤ g3 := by simp at hg3; omega
            have hbk4 : ∀ d', Bk (grow ((w.alloc (.cells #[.slice (some ⟨g3, 0, none⟩) L.length c4] 24)).alloc (.cells #[.slice none 0 0] 24)) ext4 d') g3 (L.flatMap cFile ++ J) 58 := fun d' => hbk3.regrow (by simpa using hg3) (by simp)
            obtain ⟨r0, r1, r2⟩ := file_cells (hbk4 (d4 + 1)) HX.out
            have f2 := (hbk4 (d4 + 1)).frozen (q * 3 + 2)
            have hqL : q < L.length := (List.getElem?_eq_some_iff.1 HX.out).1
            have HBK := Lib.hid hbk4
            have HCL := Lib.hid hcl
            clear ho4 hbk3 hbk4 hg3 hcl
            go_wp2_with fail
            go_region
            go_wp2_with fail
            refine bodyPost_ret (v := .tuple #[.agg #[.slice none 0 0], .int .i64 1]) (by simp [results, Tryd.results22, go_sem]) rfl ⟨none, 0, rfl, Ow.nil _ _ _ _ _, (by repeat (first | exact Below.refl _ _ | assumption | refine Below.drew ?_ | refine Below.drewN' ?_ _ | refine below_grow0 _ _ ?_ | refine below_alloc0 _ ?_ | refine Below.alloc ?_ (by first | omega | (simp; done) | (simp; omega)) _ | refine Below.setCell ?_ (by first | omega | (simp; done) | (simp; omega)) _ | refine Below.grow _ _ _ ?_ (by first | omega | (simp; done) | (simp; omega))))⟩
end Go.Proofs.YtfaghpdhinfblaaDoor

/- What the disk's operations leave, as files put, taken off and read; and the laws' 'stores'. -/
namespace Go.Proofs.YtfaghpdhinfblaaDoor
open Go.RowKit Go.ChangeShapes Go.WideShapes Go.ChangeAt
theorem goodD_sized {l : List File} (h : goodD l = true) : ∀ x ∈ l, x.sized ∧ x.safe.size + x.tail.size ≤ 1048576 := by
  intro x hx
  have := ((goodD_iff l).1 h).2.1 x hx
  unfold okF named at this
  simp only [Bool.and_eq_true, decide_eq_true_iff] at this
  obtain ⟨⟨⟨_, _⟩, h1⟩, h2⟩ := this
  have h3 : (bs x.name).length = x.name.size := rfl
  refine ⟨⟨?_, ?_, ?_⟩, h2⟩ <;> omega
def noFile (p : ByteArray) : File := ⟨p, ⟨#[]⟩, ⟨#[]⟩⟩
def fileOr (l : List File) (p : ByteArray) : File := if isK (l.map File.name) p then fileAt l p else noFile p
theorem fileOr_name (l : List File) (p : ByteArray) : (fileOr l p).name = p := by
  unfold fileOr
  split
  · exact (fileAt_is (by assumption)).1
  · rfl
theorem readS_or {l : List File} (h : goodD l = true) (p : ByteArray) : readS l p = (fileOr l p).safe ++ (fileOr l p).tail := by
  unfold readS fileOr
  rw [h, Bool.true_and]
  split
  · rfl
  · exact ByteArray.append_empty.symm
theorem write_not {l : List File} {p s : ByteArray} (h : writeE l p s ≠ 0) : writeL l p s = [] := by
  unfold writeE at h
  unfold writeL
  by_cases h1 : goodD l = true
  · by_cases h2 : named (bs p) = true
    · by_cases h3 : isK (l.map File.name) p = true
      · by_cases h4 : (fileAt l p).safe.size + (fileAt l p).tail.size + s.size ≤ 1048576
        · simp [h1, h2, h3, h4] at h
        · simp [h1, h2, h3, h4]
      · by_cases h4 : 16 ≤ l.length
        · simp [h1, h2, h3, h4]
        · by_cases h5 : s.size ≤ 1048576
          · simp [h1, h2, h3, h4, h5] at h
          · simp [h1, h2, h3, h4, h5]
    · simp [h1, h2]
  · simp [h1]
theorem write_ok {l : List File} {p s : ByteArray} (h : writeE l p s = 0) : goodD l = true ∧ writeL l p s = putL l ⟨p, (fileOr l p).safe, (fileOr l p).tail ++ s⟩ ∧ goodD (writeL l p s) = true := by
  have key : goodD l = true ∧ writeL l p s = putL l ⟨p, (fileOr l p).safe, (fileOr l p).tail ++ s⟩ ∧ named (bs p) = true ∧ (fileOr l p).safe.size + ((fileOr l p).tail ++ s).size ≤ 1048576 ∧ (isK (l.map File.name) p = true ∨ l.length < 16) := by
    unfold writeE at h
    unfold writeL putL fileOr
    rw [ByteArray.size_append]
    by_cases h1 : goodD l = true
    · by_cases h2 : named (bs p) = true
      · by_cases h3 : isK (l.map File.name) p = true
        · by_cases h4 : (fileAt l p).safe.size + (fileAt l p).tail.size + s.size ≤ 1048576
          · simp only [if_pos h1, if_pos h2, if_pos h3, if_pos h4]
            exact ⟨h1, by rw [(fileAt_is h3).1], h2, by omega, .inl h3⟩
          · simp [h1, h2, h3, h4] at h
        · by_cases h4 : 16 ≤ l.length
          · simp [h1, h2, h3, h4] at h
          · by_cases h5 : s.size ≤ 1048576
            · simp only [if_pos h1, if_pos h2, if_neg h3, if_neg h4, if_pos h5]
              exact ⟨h1, by rw [show (noFile p).tail ++ s = s from ByteArray.empty_append]; rfl, h2, by show 0 + (0 + s.size) ≤ _; omega, .inr (by omega)⟩
            · simp [h1, h2, h3, h4, h5] at h
      · simp [h1, h2] at h
    · simp [h1] at h
  obtain ⟨h1, h2, h3, h4, h5⟩ := key
  refine ⟨h1, h2, ?_⟩
  rw [h2]
  refine putL_good h1 ?_ h5
  unfold okF
  rw [h3, Bool.true_and]
  exact decide_eq_true h4
theorem readE_0 {l : List File} {p : ByteArray} (h : readE l p = 0) : goodD l = true ∧ isK (l.map File.name) p = true := by
  unfold readE at h
  by_cases h1 : goodD l = true
  · by_cases h2 : isK (l.map File.name) p = true
    · exact ⟨h1, h2⟩
    · simp [h1, h2] at h
  · simp [h1] at h
theorem readE_in {l : List File} {p : ByteArray} (h1 : goodD l = true) (h2 : isK (l.map File.name) p = true) : readE l p = 0 := by
  unfold readE
  rw [h1, h2]
  rfl
theorem sync_ok {l : List File} {p : ByteArray} (h : readE l p = 0) : syncL l p = putL l ⟨p, (fileAt l p).safe ++ (fileAt l p).tail, ⟨#[]⟩⟩ ∧ goodD (syncL l p) = true := by
  obtain ⟨h1, h2⟩ := readE_0 h
  have e : syncL l p = putL l ⟨p, (fileAt l p).safe ++ (fileAt l p).tail, ⟨#[]⟩⟩ := by
    unfold syncL putL syncF
    simp only [h1, h2, Bool.and_self, if_true]
    rw [(fileAt_is h2).1]
  refine ⟨e, ?_⟩
  rw [e]
  refine putL_good h1 ?_ (.inl h2)
  have h3 := ((goodD_iff l).1 h1).2.1 _ (fileAt_is h2).2
  unfold okF at h3 ⊢
  rw [(fileAt_is h2).1] at h3
  rw [Bool.and_eq_true, decide_eq_true_iff] at h3 ⊢
  refine ⟨h3.1, ?_⟩
  have := h3.2
  show ((fileAt l p).safe ++ (fileAt l p).tail).size + 0 ≤ 1048576
  rw [ByteArray.size_append]
  omega
theorem sync_not {l : List File} {p : ByteArray} (h : readE l p ≠ 0) : syncL l p = [] := by
  unfold readE at h
  unfold syncL
  by_cases h1 : goodD l = true
  · by_cases h2 : isK (l.map File.name) p = true
    · simp [h1, h2] at h
    · simp [h1, h2]
  · simp [h1]
theorem cut_ok {l : List File} {p : ByteArray} {n : Int} (h : cutE l p n = 0) : readE l p = 0 ∧ 0 ≤ n ∧ n ≤ ((readS l p).size : Int) ∧ cutL l p n = putL l ⟨p, (readS l p).extract 0 n.toNat, ⟨#[]⟩⟩ ∧ goodD (cutL l p n) = true := by
  have key : goodD l = true ∧ isK (l.map File.name) p = true ∧ (0 ≤ n ∧ n ≤ (((fileAt l p).safe ++ (fileAt l p).tail).size : Int)) := by
    unfold cutE at h
    by_cases h1 : goodD l = true
    · by_cases h2 : isK (l.map File.name) p = true
      · by_cases h3 : 0 ≤ n ∧ n ≤ (((fileAt l p).safe ++ (fileAt l p).tail).size : Int)
        · exact ⟨h1, h2, h3⟩
        · rw [if_pos h1, if_pos h2, if_neg h3] at h; simp at h
      · simp [h1, h2] at h
    · simp [h1] at h
  obtain ⟨h1, h2, h3⟩ := key
  have hr : readS l p = (fileAt l p).safe ++ (fileAt l p).tail := by
    rw [readS_or h1]; unfold fileOr; rw [if_pos h2]
  have e : cutL l p n = putL l ⟨p, (readS l p).extract 0 n.toNat, ⟨#[]⟩⟩ := by
    unfold cutL putL cutF
    rw [hr]
    simp only [h1, h2, Bool.and_self, if_true]
    rw [if_pos h3, (fileAt_is h2).1]
  refine ⟨readE_in h1 h2, h3.1, by rw [hr]; exact h3.2, e, ?_⟩
  rw [e]
  refine putL_good h1 ?_ (.inl h2)
  have h4 := ((goodD_iff l).1 h1).2.1 _ (fileAt_is h2).2
  unfold okF at h4 ⊢
  rw [(fileAt_is h2).1] at h4
  rw [Bool.and_eq_true, decide_eq_true_iff] at h4 ⊢
  refine ⟨h4.1, ?_⟩
  have := h4.2
  show ((readS l p).extract 0 n.toNat).size + 0 ≤ 1048576
  rw [hr, ByteArray.size_extract, ByteArray.size_append]
  omega
theorem remove_ok {l : List File} {p : ByteArray} (h : readE l p = 0) : removeL l p = offL l p ∧ goodD (removeL l p) = true ∧ (removeL l p).length + 1 = l.length := by
  obtain ⟨h1, h2⟩ := readE_0 h
  have e : removeL l p = offL l p := by
    unfold removeL offL
    rw [h1, h2]
    rfl
  refine ⟨e, by rw [e]; exact offL_good h1 h2, ?_⟩
  have := isK_in_file h2
  rw [e]
  unfold offL
  simp
  omega
theorem crash_ok {l : List File} {keep : Int} (h : crashE l keep = 0) : goodD l = true ∧ 0 ≤ keep ∧ crashL l keep = l.map (crashF keep.toNat) := by
  unfold crashE at h
  by_cases h1 : goodD l = true
  · by_cases h2 : keep < 0
    · simp [h1, h2] at h
    · refine ⟨h1, by omega, ?_⟩
      unfold crashL
      rw [if_pos h1, if_neg h2]
  · simp [h1] at h
theorem crash_not {l : List File} {keep : Int} (h : crashE l keep ≠ 0) : crashL l keep = [] := by
  unfold crashE at h
  unfold crashL
  by_cases h1 : goodD l = true
  · by_cases h2 : keep < 0
    · simp [h1, h2]
    · simp [h1, h2] at h
  · simp [h1]
theorem crash_is {l : List File} (h1 : goodD l = true) (n : Nat) : crashE l n = 0 ∧ crashL l n = l.map (crashF n) := by
  unfold crashE crashL
  have h2 : ¬ (n : Int) < 0 := by omega
  rw [if_pos h1, if_pos h1, if_neg h2, if_neg h2]
  exact ⟨rfl, rfl⟩
theorem crash_twice (l : List File) (n m : Nat) : (l.map (crashF n)).map (crashF m) = l.map (crashF n) := by
  rw [List.map_map]
  congr 1
  funext x
  show File.mk _ _ _ = File.mk _ _ _
  congr 1
  have h : ∀ k, ByteArray.extract ⟨#[]⟩ 0 k = ByteArray.empty := fun k => ByteArray.ext (by simp)
  show (x.safe ++ x.tail.extract 0 (min n x.tail.size)) ++ ByteArray.extract ⟨#[]⟩ 0 _ = _
  rw [h, ByteArray.append_empty]
theorem stores1 : writeE [] ⟨#[97]⟩ ⟨#[98, 99]⟩ = 0 ∧ writeL [] ⟨#[97]⟩ ⟨#[98, 99]⟩ = [⟨⟨#[97]⟩, ⟨#[]⟩, ⟨#[98, 99]⟩⟩] := by
  constructor <;> kernel_rfl
theorem stores2 : readE [⟨⟨#[97]⟩, ⟨#[]⟩, ⟨#[98, 99]⟩⟩] ⟨#[97]⟩ = 0 ∧ readS [⟨⟨#[97]⟩, ⟨#[]⟩, ⟨#[98, 99]⟩⟩] ⟨#[97]⟩ = ⟨#[98, 99]⟩ := by
  constructor <;> kernel_rfl
end Go.Proofs.YtfaghpdhinfblaaDoor

/- A range over a function whose iterator keeps a state of its own in one cell: the law for the caller. No program is in sight but by variable. -/
namespace Go.Proofs.YtfaghpdhinfblaaDoor
open Go.RowKit
theorem setCell_other {w : World} {b j k : Nat} {v : Value} (h : k ≠ b) : (w.setCell ⟨b, j, none⟩ v).heap[k]? = w.heap[k]? := by
  unfold World.setCell
  simp only [Array.getElem?_modify]
  rw [if_neg (fun e => h e.symm)]
/-- an iterator that keeps a state in the block b gives just these elements, one by one, or stops where a round says so -/
def SeqCells {α : Type} (F : Fence) (n : Nat) (P : Program) (g : Nat) (lb : Array Value) (encs : α → Array Value) (b n₀ : Nat) (S : List α) (w : World) : Prop :=
  ∀ (l : Nat) (J Jx : List α → World → Prop) (W : World), Below n₀ w W → (∀ s A v, J s A → J s (A.setCell ⟨b, 0, none⟩ v)) →
    (∀ pre x W1, J pre W1 → (pre ++ [x]) <+: S → YieldAt F (n - 1) P l (encs x) W1 fun e W' =>
      (e = .returned (.bool true) ∧ J (pre ++ [x]) W' ∧ Below n₀ W1 W') ∨ (e = .returned (.bool false) ∧ Jx (pre ++ [x]) W')) →
    J [] W →
    CallsIn F n P g (#[.func (.yield l) #[] #[]] ++ lb) W fun e W' => (∃ v, e = .returned v) ∧ (J S W' ∨ ∃ pre, Jx pre W')
variable {F : Fence} {n : Nat} {P : Program}
theorem wpIn_range_cells {α : Type} {g : Operand} {ps : Array Tmp} {assign body : Code} {Q : Exit → Act → World → Prop} {a : Act} {w : World}
    (hro : F.round = none) (h1 : 1 ≤ n) {gf : Nat} {lb : Array Value} (hg : a.eval g = .func (.func gf) #[] lb) (hFg : F.fn gf) (eg : ∀ args w, (callFunc gf args).run P w = .ok (.enter gf args) w)
    {encs : α → Array Value} {b : Nat} {S : List α} (hb : b < w.heap.size) (hseq : SeqCells F (n - 1) P gf lb encs b w.heap.size S w) (hps : ∀ x, (encs x).size = ps.size)
    (I : List α → World → Prop) (Ix : Code → List α → World → Prop) (hI : OwnFrom w.heap.size I) (hIx : ∀ c, OwnFrom w.heap.size (Ix c)) (hIs : ∀ s A v, I s A → I s (A.setCell ⟨b, 0, none⟩ v)) (h0 : I [] w) (a₁ : α → Act)
    (hassign : ∀ (l : Nat) (x : α) (W : World) (K : Act → World → Prop), K (a₁ x) W →
      assign.wpIn (F.inRound l) (n - 1 - 1) P (Exit.then K (fun _ _ _ => False)) { tmps := (ps.zip (encs x)).foldl (fun t (p, v) => t.setIfInBounds p v) a.tmps, defers := [] } W)
    (hbody : ∀ (l : Nat) (pre : List α) (x : α) (W : World), I pre W → (pre ++ [x]) <+: S → body.wpIn (F.inRound l) (n - 1 - 1) P (ownPostK (Below w.heap.size) I Ix (pre ++ [x]) W) (a₁ x) W)
    (hdone : ∀ (D : Nat) (W : World), w.heap.size ≤ D → I S W → W.heap[D]? = some (.deferred (some [])) → Q .normal { a with defers := { target := .collected D, args := #[] } :: a.defers } W)
    (hstop : ∀ (D : Nat) (c : Code) (pre : List α) (W : World), w.heap.size ≤ D → Ix c pre W → W.heap[D]? = some (.deferred (some [])) → c.wpIn F n P Q { a with defers := { target := .collected D, args := #[] } :: a.defers } W) :
    (Code.rangeFunc g ps assign body).wpIn F n P Q a w := by
  have hKt : ∀ {A B C : World}, Below w.heap.size A B → Below w.heap.size B C → Below w.heap.size A C := fun h k => h.trans k
  have hKb : ∀ (W : World) (l : Nat) (o o' : Obj), w.heap.size ≤ l → W.heap[l]? = some o → o.isCells = false → o.isWalk = false → Below w.heap.size W (W.putObj l o') := belowK_b (Nat.le_refl _)
  refine wpIn_rangeFunc ?_
  intro fn hfn
  rw [hro]
  obtain ⟨rec, hrec⟩ : ∃ rec : LoopState → Option Code → Loop, rec = fun st pe => { state := st, pending := pe, fn, tmps := a.tmps, params := ps, assign, body, defers := w.heap.size } := ⟨_, rfl⟩
  obtain ⟨W1, hW1⟩ : ∃ W1, (w.alloc (.deferred (some []))).alloc (.loop (rec .ready none)) = W1 := ⟨_, rfl⟩
  have hL1 : W1.heap[w.heap.size + 1]? = some (.loop (rec .ready none)) := by
    rw [← hW1]; have := World.alloc_heap_new (w.alloc (.deferred (some []))) (.loop (rec .ready none)); rwa [World.size_alloc] at this
  have hK1 : W1.heap[w.heap.size]? = some (.deferred (some [])) := by
    rw [← hW1]; exact (Below.heap_alloc _ _ _ (by simp)).trans (World.alloc_heap_new w _)
  have hI1 : I [] W1 := by rw [← hW1]; exact hI.alloc _ (hI.alloc _ h0)
  have hb1 : Below w.heap.size w W1 := by
    rw [← hW1]; exact ((Below.refl _ w).alloc (Nat.le_refl _) _).alloc (by simp) _
  refine ⟨w.heap.size + 1, [{ target := .collected w.heap.size, args := #[] }], W1, { target := .fn (.func gf) lb, args := #[.func (.yield (w.heap.size + 1)) #[] #[]] }, W1, gf,
    #[.func (.yield (w.heap.size + 1)) #[] #[]] ++ lb, W1, ?_, ?_, ?_, ?_, fun _ => h1, ?_⟩
  · rw [← hW1, hrec]; exact run_enterLoop_outer _ _ _ _ _
  · simp only [resolve, hg]
    simp [go_sem]
  · intro f' hf'; simp [Target.leads] at hf'; subst hf'; exact hFg
  · simp [invoke, go_sem, eg]
  · refine (hseq (w.heap.size + 1)
      (fun pre W => I pre W ∧ W.heap[w.heap.size + 1]? = some (.loop (rec .ready none)) ∧ W.heap[w.heap.size]? = some (.deferred (some [])))
      (fun pre W => ∃ c, Ix c pre W ∧ W.heap[w.heap.size + 1]? = some (.loop (rec .done (some c))) ∧ W.heap[w.heap.size]? = some (.deferred (some [])))
      W1 hb1
      (fun s A v hs => ⟨hIs s A v hs.1, (setCell_other (by omega)).trans hs.2.1, (setCell_other (by omega)).trans hs.2.2⟩)
      ?_ ⟨hI1, hL1, hK1⟩).mono ?_
    · rintro pre x W ⟨hi, hl, hk⟩ hlen
      have hlt : w.heap.size + 1 < W.heap.size := (Array.getElem?_eq_some_iff.1 hl).1
      have hy := run_yield (P := P) (args := encs x) hl (by rw [hrec]; exact hps x)
      rw [hrec] at hy
      refine ⟨fn, _, assign, body, hy, roundIn_of_wpIn hfn (hassign _ x W _ ⟨_, run_beginRound hl (by rw [hrec]), ?_⟩)⟩
      have hl2 : (W.putObj (w.heap.size + 1) (.loop { rec .ready none with state := .busy })).heap[w.heap.size + 1]? = some (.loop { rec .ready none with state := .busy }) := World.putObj_heap_same hlt
      have hk2 : (W.putObj (w.heap.size + 1) (.loop { rec .ready none with state := .busy })).heap[w.heap.size]? = some (.deferred (some [])) := (World.putObj_heap_other (by omega)).trans hk
      have hw2 : Below w.heap.size W (W.putObj (w.heap.size + 1) (.loop { rec .ready none with state := .busy })) := hKb _ _ _ _ (by omega) hl rfl rfl
      refine wpIn_mono (hbody _ pre x _ (hI.putObj _ hi (by omega) hl rfl) hlen) ?_
      have fin : ∀ (jump : Option Code) (W3 : World), KeepsOthers (W.putObj (w.heap.size + 1) (.loop { rec .ready none with state := .busy })) W3 →
          (Instr.endRound (w.heap.size + 1) jump).run P W3 = .ok (.bool jump.isNone) (W3.putObj (w.heap.size + 1) (.loop (rec (if jump.isNone then .ready else .done) jump))) ∧
          W3.heap[w.heap.size + 1]? = some (.loop { rec .ready none with state := .busy }) ∧
          (W3.putObj (w.heap.size + 1) (.loop (rec (if jump.isNone then .ready else .done) jump))).heap[w.heap.size + 1]? = some (.loop (rec (if jump.isNone then .ready else .done) jump)) ∧
          (W3.putObj (w.heap.size + 1) (.loop (rec (if jump.isNone then .ready else .done) jump))).heap[w.heap.size]? = some (.deferred (some [])) := fun jump W3 hk3 => by
        have hl3 := hk3.same _ _ hl2 rfl
        have := run_endRound (P := P) jump hl3
        rw [hrec] at this ⊢
        exact ⟨this, by rw [hrec] at hl3; exact hl3, World.putObj_heap_same (Array.getElem?_eq_some_iff.1 hl3).1, (World.putObj_heap_other (by omega)).trans (hk3.same _ _ hk2 rfl)⟩
      rintro e a3 W3 hp
      cases e with
      | normal =>
        obtain ⟨hk3, hkp3, hi3⟩ := hp
        obtain ⟨hr, hl3, hl4, hk4⟩ := fin none W3 hk3
        exact ⟨_, _, hr, .inl ⟨rfl, ⟨hI.putObj _ hi3 (by omega) hl3 rfl, hl4, hk4⟩, hKt (hKt hw2 hkp3) (hKb _ _ _ _ (by omega) hl3 rfl rfl)⟩⟩
      | ret =>
        obtain ⟨hk3, hi3⟩ := hp
        obtain ⟨hr, hl3, hl4, hk4⟩ := fin (some .ret) W3 hk3
        exact ⟨_, _, hr, .inr ⟨rfl, .ret, (hIx _).putObj _ hi3 (by omega) hl3 rfl, hl4, hk4⟩⟩
      | exit id =>
        obtain ⟨hk3, hi3⟩ := hp
        obtain ⟨hr, hl3, hl4, hk4⟩ := fin (some (.exit id)) W3 hk3
        exact ⟨_, _, hr, .inr ⟨rfl, .exit id, (hIx _).putObj _ hi3 (by omega) hl3 rfl, hl4, hk4⟩⟩
      | goto t =>
        obtain ⟨hk3, hi3⟩ := hp
        obtain ⟨hr, hl3, hl4, hk4⟩ := fin (some (.goto t)) W3 hk3
        exact ⟨_, _, hr, .inr ⟨rfl, .goto t, (hIx _).putObj _ hi3 (by omega) hl3 rfl, hl4, hk4⟩⟩
      | panic ch => exact hp.elim
      | outgrown => exact hp.elim
    · rintro e W2 ⟨⟨v, rfl⟩, (⟨hi, hl, hk⟩ | ⟨pre, c, hi, hl, hk⟩)⟩
      · exact ⟨none, _, by have := run_endLoop (P := P) hl (by rw [hrec]; simp); rw [hrec] at this; exact this, hdone _ _ (Nat.le_refl _) (hI.putObj _ hi (by omega) hl rfl) ((World.putObj_heap_other (by omega)).trans hk)⟩
      · exact ⟨some c, _, by have := run_endLoop (P := P) hl (by rw [hrec]; simp); rw [hrec] at this; exact this, hstop _ c pre _ (Nat.le_refl _) ((hIx c).putObj _ hi (by omega) hl rfl) ((World.putObj_heap_other (by omega)).trans hk)⟩
end Go.Proofs.YtfaghpdhinfblaaDoor

/- strings.SplitSeq at a separator of one byte: its iterator, which keeps the rest in a cell of its own. -/
namespace Go.Proofs.YtfaghpdhinfblaaDoor
open Go.RowKit Go.Shelf
attribute [local go_sem] Oper.semAt_some
/-- the parts of a text between slashes -/
def stepsB (s : ByteArray) : List ByteArray :=
  if h : 0 ≤ Lib.indexByte s.data.toList 47 ∧ (Lib.indexByte s.data.toList 47).toNat < s.size then s.extract 0 (Lib.indexByte s.data.toList 47).toNat :: stepsB (s.extract ((Lib.indexByte s.data.toList 47).toNat + 1) s.size) else [s]
termination_by s.size
decreasing_by rw [ByteArray.size_extract]; omega
theorem index_lt {s : ByteArray} {o : Nat} (h : Lib.indexByte s.data.toList 47 = o) : o < s.size := by
  have := (Lib.indexByte_some h).1
  have h2 := (List.getElem?_eq_some_iff.1 this).1
  simpa using h2
theorem stepsB_no {s : ByteArray} (h : Lib.indexByte s.data.toList 47 < 0) : stepsB s = [s] := by
  rw [stepsB, dif_neg (fun k => by omega)]
theorem stepsB_yes {s : ByteArray} {o : Nat} (h : Lib.indexByte s.data.toList 47 = o) : stepsB s = s.extract 0 o :: stepsB (s.extract (o + 1) s.size) := by
  have := index_lt h
  rw [stepsB, dif_pos ⟨by omega, by omega⟩, h]
  rfl
def leftS (b : Nat) (w : World) : Nat := match w.cell? ⟨b, 0, none⟩ with
  | some (.string r) => r.size
  | _ => 0
theorem leftS_eq {b : Nat} {w : World} {r : ByteArray} (h : w.cell? ⟨b, 0, none⟩ = some (.string r)) : leftS b w = r.size := by unfold leftS; rw [h]
set_option maxHeartbeats 1000000 in
theorem split_stops (n : Nat) (hn : 1 ≤ n) (w : World) (b b1 b2 : Nat) (s : ByteArray) (c0 : w.cell? ⟨b, 0, none⟩ = some (.string s)) (f0 : w.frozen? ⟨b, 0, none⟩ = false) (c1 : w.cell? ⟨b1, 0, none⟩ = some (.string ⟨#[47]⟩)) (c2 : w.cell? ⟨b2, 0, none⟩ = some (.int .i64 0)) (n1 : b1 ≠ b) (n2 : b2 ≠ b) (hs : s.size ≤ 4611686018427387904) :
    SeqCells Fence.wide n Tryd.prog 55 #[.pointer (some ⟨b1, 0, none⟩), .pointer (some ⟨b, 0, none⟩), .pointer (some ⟨b2, 0, none⟩)] (fun x : ByteArray => #[.string x]) b w.heap.size (stepsB s) w := by
  intro l J Jx W hW hJs hY h0
  have hb : b < w.heap.size := World.block_lt_of_cell? w _ c0
  have hb1 : b1 < w.heap.size := World.block_lt_of_cell? w _ c1
  have hb2 : b2 < w.heap.size := World.block_lt_of_cell? w _ c2
  have C0 := (hW.cell (p := ⟨b, 0, none⟩) hb).trans c0
  have C1 := (hW.cell (p := ⟨b1, 0, none⟩) hb1).trans c1
  have C2 := (hW.cell (p := ⟨b2, 0, none⟩) hb2).trans c2
  have F0 := (World.frozen?_of_block (a := ⟨b, 0, none⟩) (hW.block b hb)).trans f0
  refine callsIn_of_wp Tryd.func55 rfl trivial ?_ rfl
  simp only [Tryd.ntmps55, List.size_toArray, List.length_cons, List.length_nil, Nat.reduceAdd, Nat.reduceSub, Array.replicate_succ, Array.replicate_zero, List.push_toArray, List.append_toArray, List.nil_append, List.cons_append]
  gi_wp2
  gi_loopw [7] (fun i wr => ∃ (k : Int) (pre : List ByteArray) (r : ByteArray), (i = .int .i64 k ∨ i = undef) ∧ Hid (pre ++ stepsB r = stepsB s) ∧ J pre wr ∧ wr.cell? ⟨b, 0, none⟩ = some (.string r) ∧ wr.cell? ⟨b1, 0, none⟩ = some (.string ⟨#[47]⟩) ∧ wr.cell? ⟨b2, 0, none⟩ = some (.int .i64 0) ∧ wr.frozen? ⟨b, 0, none⟩ = false ∧ r.size ≤ s.size) (fun _ wr => leftS b wr)
  case atStart => exact ⟨0, [], s, .inr rfl, Lib.hid rfl, h0, C0, C1, C2, F0, Nat.le_refl _⟩
  case round =>
    obtain ⟨k, pre, r, _, hst, hJ, d0, d1, d2, df, hrs⟩ := hrel
    clear C0 C1 C2 F0 c0 c1 c2 f0
    have hm := leftS_eq d0
    have hge := Lib.indexByte_ge r.data.toList 47
    rcases Int.lt_or_le (Lib.indexByte r.data.toList 47) 0 with hi | hi
    · have hlast := stepsB_no hi
      have hi1 : Lib.indexByte r.data.toList 47 = -1 := by omega
      obtain ⟨fn, tmps, assign, body, hy, hR⟩ := hY pre r wr hJ (by rw [← hst.out, hlast]; exact List.prefix_refl _)
      have HST := Lib.hid (show pre ++ [r] = stepsB s by rw [← hst.out, hlast])
      clear hst hlast hY
      gi_wp2_with (refine ⟨trivial, ?_⟩; gi_at_call 57; refine (callsIn_wide.2 (Tryd.strings_Index_one _ _ _)).mono ?_; rintro e w' ⟨rfl, rfl⟩; rw [hi1])
      refine hR.mono ?_
      rintro e W3 (⟨rfl, hJ3, hk3⟩ | ⟨rfl, hJx3⟩)
      · gi_wp2
        go_end0
        exact ⟨⟨_, rfl⟩, .inl (by rw [← HST.out]; exact hJ3)⟩
      · gi_wp2
        go_end0
        exact ⟨⟨_, rfl⟩, .inr ⟨_, hJx3⟩⟩
    · obtain ⟨o, ho⟩ := Int.eq_ofNat_of_zero_le hi
      have hlt := index_lt ho
      have hyes := stepsB_yes ho
      obtain ⟨fn, tmps, assign, body, hy, hR⟩ := hY pre (r.extract 0 o) wr hJ (by rw [← hst.out, hyes]; exact ⟨stepsB (r.extract (o + 1) r.size), by simp⟩)
      have HST := Lib.hid (show (pre ++ [r.extract 0 o]) ++ stepsB (r.extract (o + 1) r.size) = stepsB s by rw [← hst.out, hyes, List.append_assoc]; rfl)
      clear hst hyes hY
      gi_wp2_with (refine ⟨trivial, ?_⟩; gi_at_call 57; refine (callsIn_wide.2 (Tryd.strings_Index_one _ _ _)).mono ?_; rintro e w' ⟨rfl, rfl⟩; rw [ho])
      refine hR.mono ?_
      rintro e W3 (⟨rfl, hJ3, hk3⟩ | ⟨rfl, hJx3⟩)
      · have e0 := (hk3.cell (p := ⟨b, 0, none⟩) hb).trans d0
        have e1 := (hk3.cell (p := ⟨b1, 0, none⟩) hb1).trans d1
        have e2 := (hk3.cell (p := ⟨b2, 0, none⟩) hb2).trans d2
        have ef := (World.frozen?_of_block (a := ⟨b, 0, none⟩) (hk3.block b hb)).trans df
        clear d0 d1 d2 df
        gi_wp2
        have g0 : (W3.setCell ⟨b, 0, none⟩ (.string (r.extract (o + 1) r.size))).cell? ⟨b, 0, none⟩ = some (.string (r.extract (o + 1) r.size)) := World.cell?_setCell_same' _ _ _ (by rw [e0]; rfl)
        have hsz : (r.extract (o + 1) r.size).size = r.size - (o + 1) := by rw [ByteArray.size_extract]; omega
        go_roundw
        case rel => exact ⟨_, _, _, .inl rfl, HST, hJs _ _ _ hJ3, g0, (World.cell?_setCell_other _ _ _ _ (fun h => n1 (by injection h with h; exact h.symm))).trans e1, (World.cell?_setCell_other _ _ _ _ (fun h => n2 (by injection h with h; exact h.symm))).trans e2, by rw [World.frozen?_setCell]; exact ef, by omega⟩
        case measure => rw [leftS_eq g0, hm, hsz]; omega
      · gi_wp2
        refine bodyPost_ret (results_none rfl _ _ _) rfl ?_
        exact ⟨⟨_, rfl⟩, .inr ⟨_, hJx3⟩⟩
end Go.Proofs.YtfaghpdhinfblaaDoor

/- path.Good: each step between the slashes is named. -/
namespace Go.Proofs.YtfaghpdhinfblaaDoor
open Go.RowKit Go.Shelf
attribute [local go_sem] Oper.semAt_some
def goodP (s : ByteArray) : Bool := decide (s = ⟨#[47]⟩) || (decide (s.size ≤ 200) && Lib.hasPrefix s.data.toList [47] && (stepsB (s.extract 1 s.size)).all fun x => named (bs x))
theorem splitSeq_is (s sep : ByteArray) (w : World) :
    Calls Tryd.prog 45 #[.string s, .string sep] w fun e w' => e = .returned (.func (.func 55) #[] #[.pointer (some ⟨w.heap.size + 1, 0, none⟩), .pointer (some ⟨w.heap.size, 0, none⟩), .pointer (some ⟨w.heap.size + 2, 0, none⟩)]) ∧
      w' = ((w.alloc (.cells #[.string s] 9)).alloc (.cells #[.string sep] 9)).alloc (.cells #[.int .i64 0] 3) := by
  go_enter Tryd.func45, Tryd.ntmps45
  go_wp2
  go_ret
  exact ⟨rfl, rfl⟩
theorem stepsB_size (s : ByteArray) : ∀ x ∈ stepsB s, x.size ≤ s.size := by
  generalize hn : s.size = n
  induction n using Nat.strongRecOn generalizing s with
  | ind n ih =>
    intro x hx
    rcases Int.lt_or_le (Lib.indexByte s.data.toList 47) 0 with hi | hi
    · rw [stepsB_no hi] at hx
      simp at hx
      subst hx
      omega
    · obtain ⟨o, ho⟩ := Int.eq_ofNat_of_zero_le hi
      have hlt := index_lt ho
      rw [stepsB_yes ho] at hx
      rcases List.mem_cons.1 hx with rfl | h
      · rw [ByteArray.size_extract]; omega
      · have hsz : (s.extract (o + 1) s.size).size = s.size - (o + 1) := by rw [ByteArray.size_extract]; omega
        have := ih (s.size - (o + 1)) (by omega) _ hsz x h
        omega
set_option maxHeartbeats 1000000 in
theorem good_steps (s : ByteArray) (w : World) (hs : s.size ≤ 200) (hne : (s.toList == [47]) = false) (hp : Lib.hasPrefix s.data.toList [47] = true) :
    Calls Tryd.prog 33 #[.string s] w fun e w' => e = .returned (.bool ((stepsB (s.extract 1 s.size)).all fun x => named (bs x))) ∧ Below w.heap.size w w' := by
  have h1 : 1 ≤ s.size := by
    cases hd : s.data.toList with
    | nil => rw [hd] at hp; cases hp
    | cons x r =>
      have : s.data.toList.length = s.size := by simp
      rw [hd] at this
      simp at this
      omega
  have hgt : (decide ((200 : Int) < (s.size : Int))) = false := decide_eq_false (by omega)
  refine (callsIn_wide (n := 9)).1 ?_
  refine callsIn_of_wp_marks Tryd.func33 rfl trivial ?_ rfl
  simp only [Tryd.ntmps33, List.size_toArray, List.length_cons, List.length_nil, Nat.reduceAdd, Nat.reduceSub, Array.replicate_succ, Array.replicate_zero, List.push_toArray, List.append_toArray, List.nil_append, List.cons_append]
  gi_wp2_with (first | (refine ⟨trivial, ?_⟩; gi_at_call 44; refine (callsIn_wide.2 (Tryd.strings_HasPrefix _ _ _)).mono ?_; rintro e w' ⟨rfl, rfl⟩; rw [hp]) | (refine ⟨trivial, ?_⟩; gi_at_call 45; refine (callsIn_wide.2 (splitSeq_is _ _ _)).mono ?_; rintro e w' ⟨rfl, rfl⟩))
  generalize hT : s.extract 1 s.size = t at *
  have hts : t.size ≤ 200 := by rw [← hT, ByteArray.size_extract]; omega
  have HTT := Lib.hid hT
  clear hT hgt hne hp
  obtain ⟨W0, hW0⟩ : ∃ W0, ((((w.alloc (.cells #[.bool false] 4)).alloc (.cells #[.string t] 9)).alloc (.cells #[.string ⟨#[47]⟩] 9)).alloc (.cells #[.int .i64 0] 3)) = W0 := ⟨_, rfl⟩
  have hsz : W0.heap.size = w.heap.size + 1 + 1 + 1 + 1 := by subst hW0; simp
  have hB0 : Below w.heap.size w W0 := by subst hW0; exact (by repeat (first | exact Below.refl _ _ | assumption | refine Below.drew ?_ | refine Below.drewN' ?_ _ | refine below_grow0 _ _ ?_ | refine below_alloc0 _ ?_ | refine Below.alloc ?_ (by first | omega | (simp; done) | (simp; omega)) _ | refine Below.setCell ?_ (by first | omega | (simp; done) | (simp; omega)) _ | refine Below.grow _ _ _ ?_ (by first | omega | (simp; done) | (simp; omega))))
  have r0 : W0.cell? ⟨w.heap.size, 0, none⟩ = some (.bool false) := by subst hW0; go_simp
  have f0 : W0.frozen? ⟨w.heap.size, 0, none⟩ = false := by subst hW0; go_simp
  have s0 : W0.cell? ⟨w.heap.size + 1, 0, none⟩ = some (.string t) := by subst hW0; go_simp
  have g0 : W0.frozen? ⟨w.heap.size + 1, 0, none⟩ = false := by subst hW0; go_simp
  have s1 : W0.cell? ⟨w.heap.size + 1 + 1, 0, none⟩ = some (.string ⟨#[47]⟩) := by subst hW0; go_simp
  have s2 : W0.cell? ⟨w.heap.size + 1 + 1 + 1, 0, none⟩ = some (.int .i64 0) := by subst hW0; go_simp
  rw [hW0]
  clear hW0
  refine wpIn_range_cells (S := stepsB t) (b := w.heap.size + 1) rfl (by omega) rfl trivial (enters_of Tryd.func55 (by kernel_rfl) rfl) (by omega)
    (split_stops 8 (by omega) W0 (w.heap.size + 1) (w.heap.size + 1 + 1) (w.heap.size + 1 + 2) t s0 g0 s1 s2 (by omega) (by omega) (by omega)) (fun _ => rfl)
    (fun pre W => (W.cell? ⟨w.heap.size, 0, none⟩ = some (.bool false) ∧ W.frozen? ⟨w.heap.size, 0, none⟩ = false ∧ Hid (∀ x ∈ pre, named (bs x) = true)) ∧ Below w.heap.size w W)
    (fun c pre W => (W.cell? ⟨w.heap.size, 0, none⟩ = some (.bool false) ∧ W.frozen? ⟨w.heap.size, 0, none⟩ = false ∧ Hid (c = .ret ∧ ((stepsB t).all fun x => named (bs x)) = false)) ∧ Below w.heap.size w W)
    (OwnFrom.and (Own.from (fun s A B row hs hg hr => ⟨cell_kept hs.1 hg hr, (frozen_kept hs.1 hg hr).trans hs.2.1, hs.2.2⟩) _) (ownFrom_below (Nat.le_refl _) (by omega)))
    (fun c => OwnFrom.and (Own.from (fun s A B row hs hg hr => ⟨cell_kept hs.1 hg hr, (frozen_kept hs.1 hg hr).trans hs.2.1, hs.2.2⟩) _) (ownFrom_below (Nat.le_refl _) (by omega)))
    (fun s A v h => ⟨⟨(World.cell?_setCell_other _ _ _ _ (fun h => by injection h with h; omega)).trans h.1.1, (World.frozen?_setCell ..).trans h.1.2.1, h.1.2.2⟩, h.2.setCell (p := ⟨w.heap.size + 1, 0, none⟩) (Nat.le_succ _) _⟩)
    ⟨⟨r0, f0, Lib.hid (by simp)⟩, hB0⟩
    (fun x => { tmps := #[.string s, undef, .pointer (some ⟨w.heap.size, 0, none⟩), .string x, .string s, .bool false, .string s, .int .i64 s.size, .bool false, .bool false, .string s, .bool true, .bool false, .bool false, .string s, .string t, .func (.func 55) #[] #[.pointer (some ⟨w.heap.size + 1 + 1, 0, none⟩), .pointer (some ⟨w.heap.size + 1, 0, none⟩), .pointer (some ⟨w.heap.size + 1 + 2, 0, none⟩)], .string x, undef, undef, undef], defers := [] }) ?assign ?body ?done ?stop
  case assign =>
    intro l x W K hK
    gi_wp2
    exact hK
  case body =>
    rintro l pre x W ⟨⟨hc, hf, hall⟩, hB⟩ hpre
    have hmem : x ∈ stepsB t := hpre.subset (by simp)
    have hx := stepsB_size t x hmem
    cases hn : named (bs x) with
    | true =>
      have HA := Lib.hid (show ∀ y ∈ pre ++ [x], named (bs y) = true from fun y hy => by
        rcases List.mem_append.1 hy with h | h
        · exact hall.out y h
        · simp at h; subst h; exact hn)
      clear hall hmem hpre
      gi_wp2_with (refine ⟨trivial, ?_⟩; gi_at_call 34; refine (CallsIn.inRound l (callsIn_wide.2 (named_any x _ (by omega)))).mono ?_; rintro e w' ⟨rfl, rfl⟩; rw [hn])
      exact ⟨KeepsOthers.refl _, Below.refl _ _, ⟨hc, hf, HA⟩, hB⟩
    | false =>
      have HA := Lib.hid (show ((stepsB t).all fun x => named (bs x)) = false by rw [List.all_eq_false]; exact ⟨x, hmem, by simp [hn]⟩)
      clear hall hmem hpre
      gi_wp2_with (refine ⟨trivial, ?_⟩; gi_at_call 34; refine (CallsIn.inRound l (callsIn_wide.2 (named_any x _ (by omega)))).mono ?_; rintro e w' ⟨rfl, rfl⟩; rw [hn])
      exact ⟨KeepsOthers.setCell _ _ _, ⟨World.cell?_setCell_same' _ _ _ (by rw [hc]; rfl), by rw [World.frozen?_setCell]; exact hf, Lib.hid ⟨rfl, HA.out⟩⟩, hB.setCell (p := ⟨w.heap.size, 0, none⟩) (Nat.le_refl _) _⟩
  case done =>
    rintro D W hD ⟨⟨hc, hf, hall⟩, hB⟩ hK
    have hT : ((stepsB t).all fun x => named (bs x)) = true := List.all_eq_true.2 hall.out
    have HA := Lib.hid hT
    clear hall hT
    gi_wp2
    have hK' := (KeepsOthers.setCell W ⟨w.heap.size, 0, none⟩ (.bool true)).same D _ hK rfl
    refine ⟨by simp, .inl ⟨_, _, rfl, run_takeDeferred hK', ?_⟩⟩
    have hc5 := cell_kept (World.cell?_setCell_same' W ⟨w.heap.size, 0, none⟩ (.bool true) (by rw [hc]; rfl)) (grownBy_putObj' _ D (.deferred none)) (fun r e => by cases e; exact ⟨_, hK', rfl⟩)
    refine ⟨.bool true, ?_, by rw [HTT.out, HA.out], (hB.setCell (p := ⟨w.heap.size, 0, none⟩) (Nat.le_refl _) _).trans (belowK_b (w := w) (Nat.le_refl _) _ D _ _ (by omega) hK' rfl rfl)⟩
    simp [results, Tryd.f33, go_sem, hc5]
  case stop =>
    rintro D c pre W hD ⟨⟨hc, hf, hbad⟩, hB⟩ hK
    obtain ⟨rfl, hb⟩ := hbad.out
    have HA := Lib.hid hb
    clear hbad hb
    gi_wp2
    refine ⟨by simp, .inl ⟨_, _, rfl, run_takeDeferred hK, ?_⟩⟩
    have hc5 := cell_kept hc (grownBy_putObj' _ D (.deferred none)) (fun r e => by cases e; exact ⟨_, hK, rfl⟩)
    refine ⟨.bool false, ?_, by rw [HTT.out, HA.out], hB.trans (belowK_b (w := w) (Nat.le_refl _) W D _ _ (by omega) hK rfl rfl)⟩
    simp [results, Tryd.f33, go_sem, hc5]
theorem bytes_eqB {a b : ByteArray} (e : a.toList = b.toList) : a = b := by
  rw [ByteArray.toList_eq, ByteArray.toList_eq] at e
  exact ByteArray.ext (Array.toList_inj.mp e)
set_option maxHeartbeats 1000000 in
/-- path.Good, at every text -/
theorem good_any (s : ByteArray) (w : World) (hs : s.size ≤ 9223372036854775807) :
    Calls Tryd.prog 33 #[.string s] w fun e w' => e = .returned (.bool (goodP s)) ∧ Below w.heap.size w w' := by
  by_cases hr : s = ⟨#[47]⟩
  · subst hr
    have hg : goodP ⟨#[47]⟩ = true := by unfold goodP; rw [decide_eq_true rfl]; rfl
    rw [hg]
    go_enter Tryd.func33, Tryd.ntmps33
    go_wp2
    refine bodyPost_ret (v := .bool true) (by simp [results, Tryd.f33, go_sem]) rfl ⟨rfl, (by repeat (first | exact Below.refl _ _ | assumption | refine Below.drew ?_ | refine Below.drewN' ?_ _ | refine below_grow0 _ _ ?_ | refine below_alloc0 _ ?_ | refine Below.alloc ?_ (by first | omega | (simp; done) | (simp; omega)) _ | refine Below.setCell ?_ (by first | omega | (simp; done) | (simp; omega)) _ | refine Below.grow _ _ _ ?_ (by first | omega | (simp; done) | (simp; omega))))⟩
  · have hne : (s.toList == [47]) = false := beq_eq_false_iff_ne.2 (fun e => hr (bytes_eqB (by rw [e, ByteArray.toList_eq])))
    by_cases h200 : s.size ≤ 200
    · cases hp : Lib.hasPrefix s.data.toList [47] with
      | true =>
        have hg : goodP s = ((stepsB (s.extract 1 s.size)).all fun x => named (bs x)) := by unfold goodP; rw [decide_eq_false hr, decide_eq_true h200, hp]; rfl
        rw [hg]
        exact good_steps s w h200 hne hp
      | false =>
        have hg : goodP s = false := by unfold goodP; rw [decide_eq_false hr, hp]; simp
        have hgt : (decide ((200 : Int) < (s.size : Int))) = false := decide_eq_false (by omega)
        rw [hg]
        clear hg
        go_enter Tryd.func33, Tryd.ntmps33
        go_wp2_with (go_at_call 44; refine (Tryd.strings_HasPrefix _ _ _).mono ?_; rintro e w' ⟨rfl, rfl⟩; rw [hp])
        refine bodyPost_ret (v := .bool false) (by simp [results, Tryd.f33, go_sem]) rfl ⟨rfl, (by repeat (first | exact Below.refl _ _ | assumption | refine Below.drew ?_ | refine Below.drewN' ?_ _ | refine below_grow0 _ _ ?_ | refine below_alloc0 _ ?_ | refine Below.alloc ?_ (by first | omega | (simp; done) | (simp; omega)) _ | refine Below.setCell ?_ (by first | omega | (simp; done) | (simp; omega)) _ | refine Below.grow _ _ _ ?_ (by first | omega | (simp; done) | (simp; omega))))⟩
    · have hg : goodP s = false := by unfold goodP; rw [decide_eq_false hr, decide_eq_false h200]; simp
      have hgt : (decide ((200 : Int) < (s.size : Int))) = true := decide_eq_true (by omega)
      rw [hg]
      clear hg
      go_enter Tryd.func33, Tryd.ntmps33
      go_wp2_with fail
      refine bodyPost_ret (v := .bool false) (by simp [results, Tryd.f33, go_sem]) rfl ⟨rfl, (by repeat (first | exact Below.refl _ _ | assumption | refine Below.drew ?_ | refine Below.drewN' ?_ _ | refine below_grow0 _ _ ?_ | refine below_alloc0 _ ?_ | refine Below.alloc ?_ (by first | omega | (simp; done) | (simp; omega)) _ | refine Below.setCell ?_ (by first | omega | (simp; done) | (simp; omega)) _ | refine Below.grow _ _ _ ?_ (by first | omega | (simp; done) | (simp; omega))))⟩
end Go.Proofs.YtfaghpdhinfblaaDoor
