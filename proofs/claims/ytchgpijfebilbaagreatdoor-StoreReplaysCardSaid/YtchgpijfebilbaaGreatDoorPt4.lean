/- Lemmas for the statement: Disk5, Disk6, DiskLaw, Files, Disk7, Files2, PutB, Apps, Sum, Encode, Enc2. -/
import Derived.Lib.AppendStr
import Derived.Deep.RegionHeld3
import Derived.Deep.Cut
import Derived.Test.YtchgpijfebilbaaGreatDoorPt1
import Derived.Test.YtchgpijfebilbaaGreatDoorPt2
import Derived.Test.YtchgpijfebilbaaGreatDoorPt3
/- package disk: Cut. -/
namespace Go.Proofs.YtchgpijfebilbaaGreatDoor
open Go.RowKit Go.ChangeShapes Go.WideShapes Go.ChangeAt
def cutF (x : File) (n : Nat) : File := ⟨x.name, (x.safe ++ x.tail).extract 0 n, ⟨#[]⟩⟩
def cutL (l : List File) (p : ByteArray) (n : Int) : List File := if goodD l && isK (l.map File.name) p then (if 0 ≤ n ∧ n ≤ (((fileAt l p).safe ++ (fileAt l p).tail).size : Int) then l.set (posK (l.map File.name) p) (cutF (fileAt l p) n.toNat) else []) else []
def cutE (l : List File) (p : ByteArray) (n : Int) : Int := if goodD l then (if isK (l.map File.name) p then (if 0 ≤ n ∧ n ≤ (((fileAt l p).safe ++ (fileAt l p).tail).size : Int) then 0 else 3) else 7) else 3
set_option maxHeartbeats 2000000 in
theorem dkChangeCut (v : Value) (l : List File) (p : ByteArray) (bn : Nat) (n : Int) (w : World) (h : Sl cFile 3 w v l) (hz : ∀ x ∈ l, x.sized) (cn : w.cell? ⟨bn, 0, none⟩ = some (.int .i64 n)) (hbn : bn < w.heap.size) :
    Calls Tryz.prog 89 #[.agg #[v], .string p, .func (.func 90) #[] #[.pointer (some ⟨bn, 0, none⟩)]] w (DkRes (cutL l p n) (cutE l p n) w) := by
  obtain ⟨A, c, rfl, hc1, hc2⟩ := h.form
  have H := Lib.hid h
  have HG := Lib.hid (fun (W : World) (hs : Sl cFile 3 W (.slice A l.length c) l) => dkGood _ l W hs hz)
  unfold cutL cutE
  cases hg : goodD l with
  | false =>
    rw [hg] at HG
    clear h hz hg
    simp only [Bool.false_and, Bool.false_eq_true, if_false]
    go_enter Tryz.func89, Tryz.ntmps89
    go_wp2_with
      (first | (go_at_call 81; refine (HG.out _ (H.out.below (by repeat (first | exact bA .. | assumption | refine bB ?_ | refine bC ?_ _ | refine bD _ _ ?_ | refine bE _ ?_ | refine bG ?_ (by first | omega | (simp; done) | (simp; omega)) _ | refine Below.setCell ?_ (by first | omega | (simp; done) | (simp; omega)) _ | refine Below.grow _ _ _ ?_ (by first | omega | (simp; done) | (simp; omega)))))).mono ?_; rintro e w1 ⟨rfl, hb⟩; obtain ⟨ext, d, rfl⟩ := Below.grown_eq _ hb; clear hb) | (go_at_call 82; refine (HF.out _ _ (H.out.below (by repeat (first | exact bA .. | assumption | refine bB ?_ | refine bC ?_ _ | refine bD _ _ ?_ | refine bE _ ?_ | refine bG ?_ (by first | omega | (simp; done) | (simp; omega)) _ | refine Below.setCell ?_ (by first | omega | (simp; done) | (simp; omega)) _ | refine Below.grow _ _ _ ?_ (by first | omega | (simp; done) | (simp; omega)))))).mono ?_; rintro e w1 ⟨rfl, hb⟩; obtain ⟨ext2, d2, rfl⟩ := Below.grown_eq _ hb; clear hb))
    refine bodyPost_ret (v := .tuple #[.agg #[.slice none 0 0], .int .i64 3]) (by simp [results, Tryz.results89, go_sem]) rfl ⟨none, 0, rfl, Ow.nil _ _ _ _ _, (by repeat (first | exact bA .. | assumption | refine bB ?_ | refine bC ?_ _ | refine bD _ _ ?_ | refine bE _ ?_ | refine bG ?_ (by first | omega | (simp; done) | (simp; omega)) _ | refine Below.setCell ?_ (by first | omega | (simp; done) | (simp; omega)) _ | refine Below.grow _ _ _ ?_ (by first | omega | (simp; done) | (simp; omega))))⟩
  | true =>
    rw [hg] at HG
    have hl16 := goodD_len hg
    have hfind := fun (W : World) (v : Value) (hs : Sl cFile 3 W v l) => dkFind v l p W hs (by omega)
    clear hg
    simp only [Bool.true_and, if_true]
    cases hk : isK (l.map File.name) p with
    | false =>
      rw [hk] at hfind
      have HF := Lib.hid hfind
      generalize posK (l.map File.name) p = q at *
      clear h hz hk hfind
      simp only [Bool.false_eq_true, if_false]
      go_enter Tryz.func89, Tryz.ntmps89
      go_wp2_with
        (first | (go_at_call 81; refine (HG.out _ (H.out.below (by repeat (first | exact bA .. | assumption | refine bB ?_ | refine bC ?_ _ | refine bD _ _ ?_ | refine bE _ ?_ | refine bG ?_ (by first | omega | (simp; done) | (simp; omega)) _ | refine Below.setCell ?_ (by first | omega | (simp; done) | (simp; omega)) _ | refine Below.grow _ _ _ ?_ (by first | omega | (simp; done) | (simp; omega)))))).mono ?_; rintro e w1 ⟨rfl, hb⟩; obtain ⟨ext, d, rfl⟩ := Below.grown_eq _ hb; clear hb) | (go_at_call 82; refine (HF.out _ _ (H.out.below (by repeat (first | exact bA .. | assumption | refine bB ?_ | refine bC ?_ _ | refine bD _ _ ?_ | refine bE _ ?_ | refine bG ?_ (by first | omega | (simp; done) | (simp; omega)) _ | refine Below.setCell ?_ (by first | omega | (simp; done) | (simp; omega)) _ | refine Below.grow _ _ _ ?_ (by first | omega | (simp; done) | (simp; omega)))))).mono ?_; rintro e w1 ⟨rfl, hb⟩; obtain ⟨ext2, d2, rfl⟩ := Below.grown_eq _ hb; clear hb))
      refine bodyPost_ret (v := .tuple #[.agg #[.slice none 0 0], .int .i64 7]) (by simp [results, Tryz.results89, go_sem]) rfl ⟨none, 0, rfl, Ow.nil _ _ _ _ _, (by repeat (first | exact bA .. | assumption | refine bB ?_ | refine bC ?_ _ | refine bD _ _ ?_ | refine bE _ ?_ | refine bG ?_ (by first | omega | (simp; done) | (simp; omega)) _ | refine Below.setCell ?_ (by first | omega | (simp; done) | (simp; omega)) _ | refine Below.grow _ _ _ ?_ (by first | omega | (simp; done) | (simp; omega))))⟩
    | true =>
      rw [hk] at hfind
      have HF := Lib.hid hfind
      have hq := isK_in_file hk
      have hx : l[posK (l.map File.name) p]? = some (fileAt l p) := by
        unfold fileAt
        rw [List.getD_eq_getElem?_getD, List.getElem?_eq_getElem hq]
        rfl
      obtain ⟨z0, z1, z2⟩ := hz _ (List.mem_of_getElem? hx)
      generalize fileAt l p = x at *
      generalize posK (l.map File.name) p = q at *
      have HX := Lib.hid hx
      clear h hz hk hfind hx
      simp only [if_true]
      have hszx : (x.safe ++ x.tail).size = x.safe.size + x.tail.size := by simp
      by_cases hr : 0 ≤ n ∧ n ≤ ((x.safe ++ x.tail).size : Int)
      · simp only [if_pos hr]
        obtain ⟨m, rfl⟩ := Int.eq_ofNat_of_zero_le hr.1
        have HR : Hid (m ≤ (x.safe ++ x.tail).size) := Lib.hid (by have := hr.2; omega)
        clear hr hszx
        go_enter Tryz.func89, Tryz.ntmps89
        go_wp2_with
          (first | (go_at_call 81; refine (HG.out _ (H.out.below (by repeat (first | exact bA .. | assumption | refine bB ?_ | refine bC ?_ _ | refine bD _ _ ?_ | refine bE _ ?_ | refine bG ?_ (by first | omega | (simp; done) | (simp; omega)) _ | refine Below.setCell ?_ (by first | omega | (simp; done) | (simp; omega)) _ | refine Below.grow _ _ _ ?_ (by first | omega | (simp; done) | (simp; omega)))))).mono ?_; rintro e w1 ⟨rfl, hb⟩; obtain ⟨ext, d, rfl⟩ := Below.grown_eq _ hb; clear hb) | (go_at_call 82; refine (HF.out _ _ (H.out.below (by repeat (first | exact bA .. | assumption | refine bB ?_ | refine bC ?_ _ | refine bD _ _ ?_ | refine bE _ ?_ | refine bG ?_ (by first | omega | (simp; done) | (simp; omega)) _ | refine Below.setCell ?_ (by first | omega | (simp; done) | (simp; omega)) _ | refine Below.grow _ _ _ ?_ (by first | omega | (simp; done) | (simp; omega)))))).mono ?_; rintro e w1 ⟨rfl, hb⟩; obtain ⟨ext2, d2, rfl⟩ := Below.grown_eq _ hb; clear hb))
        refine (dkCopied _ l _ (H.out.below (by repeat (first | exact bA .. | assumption | refine bB ?_ | refine bC ?_ _ | refine bD _ _ ?_ | refine bE _ ?_ | refine bG ?_ (by first | omega | (simp; done) | (simp; omega)) _ | refine Below.setCell ?_ (by first | omega | (simp; done) | (simp; omega)) _ | refine Below.grow _ _ _ ?_ (by first | omega | (simp; done) | (simp; omega))))) (by omega) (by simp [maxLen]; omega)).mono ?_
        rintro e w3 ⟨A3, c3, rfl, ho3, hb3⟩
        obtain ⟨ext3, d3, rfl⟩ := Below.grown_eq _ hb3
        obtain ⟨g3, J, rfl, hg3, hbk3, hcl, hlc, hcm, _⟩ := ho3.blk (by omega)
        have hbk4 : Bk (grow (grow (grow ((w.alloc (.cells #[.slice (some ⟨g3, 0, none⟩) l.length c3] 28)).alloc (.cells #[.slice none 0 0] 28)) ext d) ext2 d2) ext3 d3) g3 (l.flatMap cFile ++ J) 151 := hbk3.regrow (by simpa using hg3) (by simp)
        have hg4 : w.heap.size + 1 + 1 ≤ g3 := by simp at hg3; omega
        obtain ⟨r0, r1, r2⟩ := file_cells hbk4 HX.out
        have HBK := Lib.hid hbk4
        have HCL := Lib.hid hcl
        clear hb3 ho3 hbk3 hbk4 hg3 hcl
        go_wp2_with fail
        refine (dkCut1_ok g3 (q * 3) bn m x _ r1 r2 (HBK.out.frozen _) (HBK.out.frozen _) ((show Below w.heap.size w _ from (by repeat (first | exact bA .. | assumption | refine bB ?_ | refine bC ?_ _ | refine bD _ _ ?_ | refine bE _ ?_ | refine bG ?_ (by first | omega | (simp; done) | (simp; omega)) _ | refine Below.setCell ?_ (by first | omega | (simp; done) | (simp; omega)) _ | refine Below.grow _ _ _ ?_ (by first | omega | (simp; done) | (simp; omega))))).cell (p := ⟨bn, 0, none⟩) hbn |>.trans cn) z1 z2 HR.out).mono ?_
        rintro e w4 ⟨rfl, rfl⟩
        have hb5 : Below ((w.alloc (.cells #[.slice (some ⟨g3, 0, none⟩) l.length c3] 28)).alloc (.cells #[.slice none 0 0] 28)).heap.size ((w.alloc (.cells #[.slice (some ⟨g3, 0, none⟩) l.length c3] 28)).alloc (.cells #[.slice none 0 0] 28)) ((((grow (grow (grow ((w.alloc (.cells #[.slice (some ⟨g3, 0, none⟩) l.length c3] 28)).alloc (.cells #[.slice none 0 0] 28)) ext d) ext2 d2) ext3 d3).setCell ⟨g3, q * 3 + 1, none⟩ (.string ((x.safe ++ x.tail).extract 0 m))).setCell ⟨g3, q * 3 + 2, none⟩ (.string ⟨#[]⟩)).drew) := Below.drew (Below.put (Below.put (by repeat (first | exact bA .. | assumption | refine bB ?_ | refine bC ?_ _ | refine bD _ _ ?_ | refine bE _ ?_ | refine bG ?_ (by first | omega | (simp; done) | (simp; omega)) _ | refine Below.setCell ?_ (by first | omega | (simp; done) | (simp; omega)) _ | refine Below.grow _ _ _ ?_ (by first | omega | (simp; done) | (simp; omega)))) (by simp; omega)) (by simp; omega))
        have hbk5 : Bk ((((grow (grow (grow ((w.alloc (.cells #[.slice (some ⟨g3, 0, none⟩) l.length c3] 28)).alloc (.cells #[.slice none 0 0] 28)) ext d) ext2 d2) ext3 d3).setCell ⟨g3, q * 3 + 1, none⟩ (.string ((x.safe ++ x.tail).extract 0 m))).setCell ⟨g3, q * 3 + 2, none⟩ (.string ⟨#[]⟩)).drew) g3 ((l.set q (cutF x m)).flatMap cFile ++ J) 151 := by
          have := (HBK.out.put (q * 3 + 1) (.string ((x.safe ++ x.tail).extract 0 m))).put (q * 3 + 2) (.string ⟨#[]⟩)
          rw [set_file HX.out] at this
          exact this
        generalize ((((grow (grow (grow ((w.alloc (.cells #[.slice (some ⟨g3, 0, none⟩) l.length c3] 28)).alloc (.cells #[.slice none 0 0] 28)) ext d) ext2 d2) ext3 d3).setCell ⟨g3, q * 3 + 1, none⟩ (.string ((x.safe ++ x.tail).extract 0 m))).setCell ⟨g3, q * 3 + 2, none⟩ (.string ⟨#[]⟩)).drew) = w5 at hb5 hbk5 ⊢
        obtain ⟨ext5, d5, rfl⟩ := Below.grown_eq _ hb5
        have HBK5 := Lib.hid hbk5
        clear hb5 hbk5 HBK r0 r1 r2
        go_wp2_with fail
        have hlen : ((l.set q (cutF x m)).flatMap cFile ++ J).length = c3 * 3 := by
          rw [← HCL.out, List.length_append, List.length_append, flatMap_length (f := cFile) (s := 3) (fun _ _ => rfl), flatMap_length (f := cFile) (s := 3) (fun _ _ => rfl), List.length_set]
        refine bodyPost_ret (v := .tuple #[.agg #[.slice (some ⟨g3, 0, none⟩) l.length c3], .int .i64 0]) (by simp [results, Tryz.results89, go_sem]) rfl ⟨some ⟨g3, 0, none⟩, c3, by rw [List.length_set], ?_, (by repeat (first | exact bA .. | assumption | refine bB ?_ | refine bC ?_ _ | refine bD _ _ ?_ | refine bE _ ?_ | refine bG ?_ (by first | omega | (simp; done) | (simp; omega)) _ | refine Below.setCell ?_ (by first | omega | (simp; done) | (simp; omega)) _ | refine Below.grow _ _ _ ?_ (by first | omega | (simp; done) | (simp; omega))))⟩
        exact Ow.of_blk (f := cFile) (s := 3) (B := w.heap.size) (fun _ _ => rfl) (by omega) (HBK5.out.regrow (by simp; omega) (by simp)) rfl hlen (by rw [List.length_set]; exact hlc) hcm
      · simp only [if_neg hr]
        have HR := Lib.hid (show n < 0 ∨ ((x.safe ++ x.tail).size : Int) < n by omega)
        clear hr hszx
        go_enter Tryz.func89, Tryz.ntmps89
        go_wp2_with
          (first | (go_at_call 81; refine (HG.out _ (H.out.below (by repeat (first | exact bA .. | assumption | refine bB ?_ | refine bC ?_ _ | refine bD _ _ ?_ | refine bE _ ?_ | refine bG ?_ (by first | omega | (simp; done) | (simp; omega)) _ | refine Below.setCell ?_ (by first | omega | (simp; done) | (simp; omega)) _ | refine Below.grow _ _ _ ?_ (by first | omega | (simp; done) | (simp; omega)))))).mono ?_; rintro e w1 ⟨rfl, hb⟩; obtain ⟨ext, d, rfl⟩ := Below.grown_eq _ hb; clear hb) | (go_at_call 82; refine (HF.out _ _ (H.out.below (by repeat (first | exact bA .. | assumption | refine bB ?_ | refine bC ?_ _ | refine bD _ _ ?_ | refine bE _ ?_ | refine bG ?_ (by first | omega | (simp; done) | (simp; omega)) _ | refine Below.setCell ?_ (by first | omega | (simp; done) | (simp; omega)) _ | refine Below.grow _ _ _ ?_ (by first | omega | (simp; done) | (simp; omega)))))).mono ?_; rintro e w1 ⟨rfl, hb⟩; obtain ⟨ext2, d2, rfl⟩ := Below.grown_eq _ hb; clear hb))
        refine (dkCopied _ l _ (H.out.below (by repeat (first | exact bA .. | assumption | refine bB ?_ | refine bC ?_ _ | refine bD _ _ ?_ | refine bE _ ?_ | refine bG ?_ (by first | omega | (simp; done) | (simp; omega)) _ | refine Below.setCell ?_ (by first | omega | (simp; done) | (simp; omega)) _ | refine Below.grow _ _ _ ?_ (by first | omega | (simp; done) | (simp; omega))))) (by omega) (by simp [maxLen]; omega)).mono ?_
        rintro e w3 ⟨A3, c3, rfl, ho3, hb3⟩
        obtain ⟨ext3, d3, rfl⟩ := Below.grown_eq _ hb3
        obtain ⟨g3, J, rfl, hg3, hbk3, hcl, hlc, hcm, _⟩ := ho3.blk (by omega)
        have hbk4 : Bk (grow (grow (grow ((w.alloc (.cells #[.slice (some ⟨g3, 0, none⟩) l.length c3] 28)).alloc (.cells #[.slice none 0 0] 28)) ext d) ext2 d2) ext3 d3) g3 (l.flatMap cFile ++ J) 151 := hbk3.regrow (by simpa using hg3) (by simp)
        have hg4 : w.heap.size + 1 + 1 ≤ g3 := by simp at hg3; omega
        obtain ⟨r0, r1, r2⟩ := file_cells hbk4 HX.out
        have HBK := Lib.hid hbk4
        have HCL := Lib.hid hcl
        clear hb3 ho3 hbk3 hbk4 hg3 hcl
        go_wp2_with fail
        refine (dkCut1_no g3 (q * 3) bn n x _ r1 r2 ((show Below w.heap.size w _ from (by repeat (first | exact bA .. | assumption | refine bB ?_ | refine bC ?_ _ | refine bD _ _ ?_ | refine bE _ ?_ | refine bG ?_ (by first | omega | (simp; done) | (simp; omega)) _ | refine Below.setCell ?_ (by first | omega | (simp; done) | (simp; omega)) _ | refine Below.grow _ _ _ ?_ (by first | omega | (simp; done) | (simp; omega))))).cell (p := ⟨bn, 0, none⟩) hbn |>.trans cn) z1 z2 HR.out).mono ?_
        rintro e w4 ⟨rfl, rfl⟩
        go_wp2_with fail
        refine bodyPost_ret (v := .tuple #[.agg #[.slice none 0 0], .int .i64 3]) (by simp [results, Tryz.results89, go_sem]) rfl ⟨none, 0, rfl, Ow.nil _ _ _ _ _, (by repeat (first | exact bA .. | assumption | refine bB ?_ | refine bC ?_ _ | refine bD _ _ ?_ | refine bE _ ?_ | refine bG ?_ (by first | omega | (simp; done) | (simp; omega)) _ | refine Below.setCell ?_ (by first | omega | (simp; done) | (simp; omega)) _ | refine Below.grow _ _ _ ?_ (by first | omega | (simp; done) | (simp; omega))))⟩
set_option maxHeartbeats 1000000 in
theorem dkCut (v : Value) (l : List File) (p : ByteArray) (n : Int) (w : World) (h : Sl cFile 3 w v l) (hz : ∀ x ∈ l, x.sized) :
    Calls Tryz.prog 68 #[.agg #[v], .string p, .int .i64 n] w (DkRes (cutL l p n) (cutE l p n) w) := by
  obtain ⟨A, c, rfl, hc1, hc2⟩ := h.form
  have H := Lib.hid h
  have HC := Lib.hid (fun (W : World) (bn : Nat) (hs : Sl cFile 3 W (.slice A l.length c) l) (cn : W.cell? ⟨bn, 0, none⟩ = some (.int .i64 n)) (hb : bn < W.heap.size) => dkChangeCut _ l p bn n W hs hz cn hb)
  generalize cutL l p n = L at *
  generalize cutE l p n = code at *
  clear h hz
  go_enter Tryz.func68, Tryz.ntmps68
  go_wp2_with (first | (go_at_call 89; refine (HC.out _ (w.heap.size + 1) (H.out.below (by repeat (first | exact bA .. | assumption | refine bB ?_ | refine bC ?_ _ | refine bD _ _ ?_ | refine bE _ ?_ | refine bG ?_ (by first | omega | (simp; done) | (simp; omega)) _ | refine Below.setCell ?_ (by first | omega | (simp; done) | (simp; omega)) _ | refine Below.grow _ _ _ ?_ (by first | omega | (simp; done) | (simp; omega))))) (by go_simp) (by simp)).mono ?_; rintro e w1 ⟨A1, k1, rfl, hs1, hb1⟩; have HS1 := Lib.hid hs1; obtain ⟨ext, d, rfl⟩ := Below.grown_eq _ hb1; clear hs1 hb1))
  refine bodyPost_ret (v := .tuple #[.agg #[.slice A1 L.length k1], .int .i64 code]) (by simp [results, Tryz.results68, go_sem]) rfl ⟨A1, k1, rfl, ?_, (by repeat (first | exact bA .. | assumption | refine bB ?_ | refine bC ?_ _ | refine bD _ _ ?_ | refine bE _ ?_ | refine bG ?_ (by first | omega | (simp; done) | (simp; omega)) _ | refine Below.setCell ?_ (by first | omega | (simp; done) | (simp; omega)) _ | refine Below.grow _ _ _ ?_ (by first | omega | (simp; done) | (simp; omega))))⟩
  exact (HS1.out.regrow (Nat.le_refl _) (by simp)).mono (by simp; omega)
end Go.Proofs.YtchgpijfebilbaaGreatDoor

/- package disk: Crash: under way. -/
namespace Go.Proofs.YtchgpijfebilbaaGreatDoor
open Go.RowKit Go.ChangeShapes Go.WideShapes Go.ChangeAt
end Go.Proofs.YtchgpijfebilbaaGreatDoor

/- the laws' helpers on disks: copied, sameDisk, pick. -/
namespace Go.Proofs.YtchgpijfebilbaaGreatDoor
open Go.RowKit Go.ChangeShapes Go.WideShapes Go.ChangeAt
end Go.Proofs.YtchgpijfebilbaaGreatDoor

/- Files in order: plain laws of what is written, cut, removed and read. -/
namespace Go.Proofs.YtchgpijfebilbaaGreatDoor
open Go.RowKit Go.Lib
def ltF (x y : File) : Prop := cmpB x.name y.name < 0
theorem posF_of {l : List File} (hs : l.Pairwise ltF) (p : ByteArray) (k : Nat) (x : File) (hx : l[k]? = some x) : k < posK (l.map File.name) p ↔ cmpB x.name p < 0 := by
  have hk : k < l.length := (List.getElem?_eq_some_iff.1 hx).1
  have hlt : ∀ (k : Nat) (x : File), l[k]? = some x → ltK (l.map File.name) p k = decide (cmpB x.name p < 0) := fun k x h => ltK_of (g := File.name) h p
  obtain ⟨m, hm, h1, h2⟩ := border (ltK (l.map File.name) p) l.length (by
    intro i j hij hj h
    have hi := List.getElem?_eq_getElem (l := l) (i := i) (by omega)
    have hj2 := List.getElem?_eq_getElem (l := l) (i := j) hj
    rw [hlt j _ hj2] at h
    rw [hlt i _ hi]
    simp at h ⊢
    exact cb_trans _ _ _ (List.pairwise_iff_getElem.1 hs i j (by omega) hj hij) h)
  have hp : posK (l.map File.name) p = m := by
    unfold posK
    rw [List.length_map]
    exact bsr_sorted _ m l.length 0 l.length (by omega) (Nat.zero_le _) hm h1 h2
  rw [hp]
  constructor
  · intro h
    have := h1 k h
    rw [hlt k x hx] at this
    simpa using this
  · intro h
    rcases Nat.lt_or_ge k m with hlt2 | hge
    · exact hlt2
    · have := h2 k hge hk
      rw [hlt k x hx] at this
      simp at this
      omega
theorem atF_of {l : List File} (hs : l.Pairwise ltF) {k : Nat} {x : File} (hx : l[k]? = some x) : posK (l.map File.name) x.name = k ∧ isK (l.map File.name) x.name = true := by
  have h1 : ¬ k < posK (l.map File.name) x.name := by rw [posF_of hs x.name k x hx, cmpB_self]; omega
  have hk : k < l.length := (List.getElem?_eq_some_iff.1 hx).1
  have h2 : posK (l.map File.name) x.name = k := by
    rcases Nat.lt_or_ge (posK (l.map File.name) x.name) k with h | h
    · have hy := List.getElem?_eq_getElem (l := l) (i := posK (l.map File.name) x.name) (by omega)
      have h3 : cmpB l[posK (l.map File.name) x.name].name x.name < 0 := by
        have := List.pairwise_iff_getElem.1 hs _ k (by omega) hk h
        rw [(List.getElem?_eq_some_iff.1 hx).2] at this
        exact this
      rw [← posF_of hs x.name _ _ hy] at h3
      omega
    · omega
  exact ⟨h2, by rw [isK_in h2 hx, cmpB_self]; rfl⟩
theorem noneF_of {l : List File} (p : ByteArray) (h : ∀ x ∈ l, x.name ≠ p) : isK (l.map File.name) p = false := by
  rcases Nat.lt_or_ge (posK (l.map File.name) p) l.length with hlt | hge
  · have hy := List.getElem?_eq_getElem (l := l) (i := posK (l.map File.name) p) hlt
    rw [isK_in rfl hy]
    have := h _ (List.getElem_mem hlt)
    simp
    intro h0
    exact this (cmpB_zero h0)
  · exact isK_out rfl (by omega)
theorem beforeF_of {l : List File} (hs : l.Pairwise ltF) (p : ByteArray) : ∀ y ∈ l.take (posK (l.map File.name) p), cmpB y.name p < 0 := by
  intro y hy
  obtain ⟨k, hk⟩ := List.mem_iff_getElem?.1 hy
  rw [List.getElem?_take] at hk
  split at hk
  · exact (posF_of hs p k y hk).1 (by assumption)
  · cases hk
theorem behindF_of {l : List File} (hs : l.Pairwise ltF) (p : ByteArray) (h : isK (l.map File.name) p = false) : ∀ y ∈ l.drop (posK (l.map File.name) p), cmpB p y.name < 0 := by
  intro y hy
  obtain ⟨k, hk⟩ := List.mem_iff_getElem?.1 hy
  rw [List.getElem?_drop] at hk
  have h1 := mt (posF_of hs p _ y hk).2 (by omega)
  have h2 : cmpB y.name p ≠ 0 := by
    intro h0
    obtain rfl := cmpB_zero h0
    rw [(atF_of hs hk).2] at h
    cases h
  exact cb_swap' _ _ (by unfold cmpB at h1 h2; omega)
theorem isF_at {l : List File} {p : ByteArray} (h : isK (l.map File.name) p = true) : ∃ hq : posK (l.map File.name) p < l.length, (l[posK (l.map File.name) p]'hq).name = p := by
  have hq := isK_in_file h
  refine ⟨hq, ?_⟩
  rw [isK_in rfl (List.getElem?_eq_getElem hq)] at h
  exact cmpB_zero (by simpa using h)
theorem fileAt_is {l : List File} {p : ByteArray} (h : isK (l.map File.name) p = true) : (fileAt l p).name = p ∧ fileAt l p ∈ l := by
  obtain ⟨hq, hn⟩ := isF_at h
  have : fileAt l p = l[posK (l.map File.name) p] := by
    unfold fileAt
    rw [List.getD_eq_getElem?_getD, List.getElem?_eq_getElem hq]
    rfl
  rw [this]
  exact ⟨hn, List.getElem_mem hq⟩
theorem lookF_of {l : List File} (hs : l.Pairwise ltF) {y : File} (hy : y ∈ l) : isK (l.map File.name) y.name = true ∧ fileAt l y.name = y := by
  obtain ⟨k, hk⟩ := List.mem_iff_getElem?.1 hy
  obtain ⟨h1, h2⟩ := atF_of hs hk
  refine ⟨h2, ?_⟩
  unfold fileAt
  rw [h1, List.getD_eq_getElem?_getD, hk]
  rfl
def putL (l : List File) (x : File) : List File := if isK (l.map File.name) x.name then l.set (posK (l.map File.name) x.name) x else l.take (posK (l.map File.name) x.name) ++ x :: l.drop (posK (l.map File.name) x.name)
theorem setF_split {l : List File} {q : Nat} (hq : q < l.length) (x : File) : l.set q x = l.take q ++ x :: l.drop (q + 1) := by rw [List.set_eq_take_append_cons_drop, if_pos hq]
theorem putL_sorted {l : List File} (hpw : l.Pairwise ltF) (x : File) : (putL l x).Pairwise ltF := by
  unfold putL
  cases hk : isK (l.map File.name) x.name with
  | true =>
    obtain ⟨hq, he⟩ := isF_at hk
    rw [if_pos rfl, setF_split hq]
    have e : l = l.take (posK (l.map File.name) x.name) ++ l[posK (l.map File.name) x.name] :: l.drop (posK (l.map File.name) x.name + 1) := by rw [List.getElem_cons_drop, List.take_append_drop]
    generalize l[posK (l.map File.name) x.name] = y at e he
    generalize posK (l.map File.name) x.name = q at e
    generalize l.take q = a at e ⊢
    generalize l.drop (q + 1) = b at e ⊢
    rw [e] at hpw
    simp only [List.pairwise_append, List.pairwise_cons, List.mem_cons, forall_eq_or_imp] at hpw ⊢
    unfold ltF at hpw ⊢
    rw [← he]
    exact hpw
  | false =>
    rw [if_neg (by simp)]
    have e := List.take_append_drop (posK (l.map File.name) x.name) l
    have hb := beforeF_of hpw x.name
    have ha := behindF_of hpw x.name hk
    generalize posK (l.map File.name) x.name = q at e hb ha
    generalize l.take q = a at e hb ⊢
    generalize l.drop q = b at e ha ⊢
    rw [← e] at hpw
    simp only [List.pairwise_append, List.pairwise_cons, List.mem_cons, forall_eq_or_imp] at hpw ⊢
    unfold ltF at hpw ⊢
    exact ⟨hpw.1, ⟨ha, hpw.2.1⟩, fun y hy => ⟨hb y hy, hpw.2.2 y hy⟩⟩
theorem mem_putL {l : List File} (hpw : l.Pairwise ltF) (x y : File) : y ∈ putL l x ↔ y = x ∨ (y ∈ l ∧ y.name ≠ x.name) := by
  unfold putL
  cases hk : isK (l.map File.name) x.name with
  | true =>
    obtain ⟨hq, he⟩ := isF_at hk
    rw [if_pos rfl, setF_split hq]
    have e : l = l.take (posK (l.map File.name) x.name) ++ l[posK (l.map File.name) x.name] :: l.drop (posK (l.map File.name) x.name + 1) := by rw [List.getElem_cons_drop, List.take_append_drop]
    generalize l[posK (l.map File.name) x.name] = z at e he
    generalize posK (l.map File.name) x.name = q at e
    generalize l.take q = a at e ⊢
    generalize l.drop (q + 1) = b at e ⊢
    rw [e] at hpw
    simp only [List.pairwise_append, List.pairwise_cons, List.mem_cons, forall_eq_or_imp] at hpw
    unfold ltF at hpw
    rw [e]
    simp only [List.mem_append, List.mem_cons]
    constructor
    · rintro (h | h | h)
      · exact .inr ⟨.inl h, fun hp => by have := (hpw.2.2 y h).1; rw [hp, he, cmpB_self] at this; omega⟩
      · exact .inl h
      · exact .inr ⟨.inr (.inr h), fun hp => by have := hpw.2.1.1 y h; rw [hp, he, cmpB_self] at this; omega⟩
    · rintro (h | ⟨h | h | h, hp⟩)
      · exact .inr (.inl h)
      · exact .inl h
      · exact absurd (h ▸ he) hp
      · exact .inr (.inr h)
  | false =>
    rw [if_neg (by simp)]
    have hm : ∀ z, z ∈ l ↔ z ∈ l.take (posK (l.map File.name) x.name) ∨ z ∈ l.drop (posK (l.map File.name) x.name) := fun z => by rw [← List.mem_append, List.take_append_drop]
    have hn : y ∈ l → y.name ≠ x.name := by
      intro h hp
      obtain ⟨k, hk2⟩ := List.mem_iff_getElem?.1 h
      have := (atF_of hpw hk2).2
      rw [hp, hk] at this
      cases this
    simp only [List.mem_append, List.mem_cons]
    rw [hm]
    rw [hm] at hn
    constructor
    · rintro (h | h | h)
      · exact .inr ⟨.inl h, hn (.inl h)⟩
      · exact .inl h
      · exact .inr ⟨.inr h, hn (.inr h)⟩
    · rintro (h | ⟨h | h, _⟩)
      · exact .inr (.inl h)
      · exact .inl h
      · exact .inr (.inr h)
theorem goodD_iff (l : List File) : goodD l = true ↔ l.length ≤ 16 ∧ (∀ x ∈ l, okF x = true) ∧ l.Pairwise ltF := by
  unfold goodD
  rw [Bool.and_eq_true, List.all_eq_true, decide_eq_true_iff]
  refine and_congr Iff.rfl ?_
  constructor
  · intro h
    have hstep : ∀ k x, l[k]? = some x → okF x = true ∧ ∀ j y, k = j + 1 → l[j]? = some y → cmpB y.name x.name < 0 := by
      intro k x hx
      have h1 := h k (List.mem_range.2 (List.getElem?_eq_some_iff.1 hx).1)
      unfold stepF at h1
      rw [hx] at h1
      simp only [Bool.and_eq_true] at h1
      refine ⟨h1.1, fun j y hj hy => ?_⟩
      subst hj
      have h2 := h1.2
      simp only [hy] at h2
      simpa using h2
    refine ⟨fun x hx => ?_, ?_⟩
    · obtain ⟨k, hk⟩ := List.mem_iff_getElem?.1 hx
      exact (hstep k x hk).1
    · have hadj : ∀ d i x y, l[i]? = some x → l[i + d + 1]? = some y → cmpB x.name y.name < 0 := by
        intro d
        induction d with
        | zero => intro i x y hx hy; exact (hstep (i + 1) y hy).2 i x rfl hx
        | succ d ih =>
          intro i x y hx hy
          have hlt := (List.getElem?_eq_some_iff.1 hy).1
          have hz := List.getElem?_eq_getElem (l := l) (i := i + d + 1) (by omega)
          exact cb_trans _ _ _ (ih i x _ hx hz) ((hstep (i + d + 1 + 1) y hy).2 (i + d + 1) _ rfl hz)
      rw [List.pairwise_iff_getElem]
      intro i j hi hj hij
      exact hadj (j - i - 1) i _ _ (List.getElem?_eq_getElem hi) (by rw [show i + (j - i - 1) + 1 = j from by omega]; exact List.getElem?_eq_getElem hj)
  · rintro ⟨hok, hs⟩ i hi
    have hi2 := List.mem_range.1 hi
    have hx := List.getElem?_eq_getElem hi2
    unfold stepF
    simp only [hx, Bool.and_eq_true]
    refine ⟨hok _ (List.getElem_mem hi2), ?_⟩
    cases i with
    | zero => rfl
    | succ j =>
      have hy := List.getElem?_eq_getElem (l := l) (i := j) (by omega)
      simp only [hy]
      exact decide_eq_true (List.pairwise_iff_getElem.1 hs j (j + 1) (by omega) hi2 (by omega))
theorem read_mem {l : List File} (hg : goodD l = true) {x : File} (hx : x ∈ l) : readE l x.name = 0 ∧ readS l x.name = x.safe ++ x.tail := by
  have := lookF_of ((goodD_iff l).1 hg).2.2 hx
  unfold readE readS
  rw [hg, this.1, this.2]
  exact ⟨rfl, rfl⟩
theorem read_none {l : List File} (hg : goodD l = true) {p : ByteArray} (h : ∀ x ∈ l, x.name ≠ p) : readE l p = 7 ∧ readS l p = ⟨#[]⟩ := by
  have := noneF_of p h
  unfold readE readS
  rw [hg, this]
  exact ⟨rfl, rfl⟩
theorem putL_good {l : List File} (hl : goodD l = true) {x : File} (hx : okF x = true) (hn : isK (l.map File.name) x.name = true ∨ l.length < 16) : goodD (putL l x) = true := by
  obtain ⟨h1, h2, h3⟩ := (goodD_iff l).1 hl
  refine (goodD_iff _).2 ⟨?_, ?_, putL_sorted h3 x⟩
  · unfold putL
    split
    · rw [List.length_set]; exact h1
    · rename_i hk
      rcases hn with h | h
      · exact absurd h hk
      · simp
        omega
  · intro y hy
    rcases (mem_putL h3 x y).1 hy with rfl | ⟨h, _⟩
    · exact hx
    · exact h2 y h
end Go.Proofs.YtchgpijfebilbaaGreatDoor

/- package disk: Write. -/
namespace Go.Proofs.YtchgpijfebilbaaGreatDoor
open Go.RowKit Go.ChangeShapes Go.WideShapes Go.ChangeAt
def writeE (l : List File) (p s : ByteArray) : Int := if goodD l then (if named (bs p) then (if isK (l.map File.name) p then (if (fileAt l p).safe.size + (fileAt l p).tail.size + s.size ≤ 1048576 then 0 else 1) else (if 16 ≤ l.length then 6 else (if s.size ≤ 1048576 then 0 else 1))) else 2) else 3
def writeL (l : List File) (p s : ByteArray) : List File := if goodD l then (if named (bs p) then (if isK (l.map File.name) p then (if (fileAt l p).safe.size + (fileAt l p).tail.size + s.size ≤ 1048576 then l.set (posK (l.map File.name) p) ⟨(fileAt l p).name, (fileAt l p).safe, (fileAt l p).tail ++ s⟩ else []) else (if 16 ≤ l.length then [] else (if s.size ≤ 1048576 then l.take (posK (l.map File.name) p) ++ ⟨p, ⟨#[]⟩, s⟩ :: l.drop (posK (l.map File.name) p) else []))) else []) else []
theorem set_tail {l : List File} {J : List Value} {k : Nat} {x : File} (hx : l[k]? = some x) (t : ByteArray) :
    (l.flatMap cFile ++ J).set (k * 3 + 2) (.string t) = (l.set k ⟨x.name, x.safe, t⟩).flatMap cFile ++ J := by
  rw [← set_file hx x.safe t]
  congr 1
  have hk : k < l.length := (List.getElem?_eq_some_iff.1 hx).1
  have hlen : (l.flatMap cFile).length = l.length * 3 := flatMap_length (fun y _ => rfl)
  have h0 : (l.flatMap cFile)[k * 3 + 1]? = some (.string x.safe) := flatMap_get (f := cFile) (s := 3) (fun y _ => rfl) hx rfl
  apply List.ext_getElem?
  intro i
  rw [List.getElem?_set]
  split
  · rename_i e
    subst e
    rw [if_pos (by rw [List.length_append]; omega), List.getElem?_append_left (by rw [hlen]; omega), h0]
  · rfl
def InsFs (l : List File) (W : World) (r : Ending) (w' : World) : Prop := ∃ A c ext d, r = .returned (.slice A l.length c) ∧ w' = grow W ext d ∧ Ow cFile 3 151 w' W.heap.size (.slice A l.length c) l
theorem insFile_in {L : List File} {W w1 : World} {v : Value} {k : Nat} {l : List File} {x : File} (hb1 : Below W.heap.size W w1) (hown : Ow cFile 3 151 w1 W.heap.size v l) (hk : k ≤ l.length) (hn : (l.length + 1) * 48 ≤ 140737488355328) (vb : Nat) (hvb : vb = w1.heap.size) (hL : L = l.take k ++ x :: l.drop k) :
    Calls Tryz.prog 87 #[v, .int .i64 k, .slice (some ⟨vb, 0, none⟩) 1 1] (w1.alloc (.cells #[.string x.name, .string x.safe, .string x.tail] 151)) (InsFs L W) := by
  subst hL
  have hb : Below W.heap.size W (w1.alloc (.cells #[.string x.name, .string x.safe, .string x.tail] 151)) := hb1.alloc hb1.size _
  have ho : Ow cFile 3 151 (w1.alloc (.cells #[.string x.name, .string x.safe, .string x.tail] 151)) W.heap.size v l := hown.alloc _
  refine (insFile v k l x _ W.heap.size vb ho hk ?_ ?_ hb.size hn).mono ?_
  · subst hvb
    have := heap_alloc_new w1 (.cells #[.string x.name, .string x.safe, .string x.tail] 151)
    exact this
  · intro hc
    have h2 := (hown.own_in hc).2
    omega
  · rintro r w' ⟨A, c, rfl, h1, h2, h3⟩
    have hl : (l.take k ++ x :: l.drop k).length = l.length + 1 := by simp; omega
    obtain ⟨ext, d, rfl⟩ := grown_after hb h2 (fun k hk => (hown.own_in hk).1)
    exact ⟨A, c, ext, d, by rw [hl], rfl, by rw [hl]; exact h1⟩
set_option maxHeartbeats 4000000 in
theorem dkWrite (v : Value) (l : List File) (p s : ByteArray) (w : World) (h : Sl cFile 3 w v l) (hz : ∀ x ∈ l, x.sized) (hp : p.size ≤ 9223372036854775807) (hs : s.size ≤ 140737488355328) :
    Calls Tryz.prog 66 #[.agg #[v], .string p, .string s] w (DkRes (writeL l p s) (writeE l p s) w) := by
  obtain ⟨A, c, rfl, hc1, hc2⟩ := h.form
  have H := Lib.hid h
  have HG := Lib.hid (fun (W : World) (hs : Sl cFile 3 W (.slice A l.length c) l) => dkGood _ l W hs hz)
  have HN := Lib.hid (fun (W : World) => named_any p W hp)
  unfold writeL writeE
  cases hg : goodD l with
  | false =>
    rw [hg] at HG
    clear h hz hg
    simp only [Bool.false_eq_true, if_false]
    go_enter Tryz.func66, Tryz.ntmps66
    go_wp2_with
      (first | (go_at_call 81; refine (HG.out _ (H.out.below (by repeat (first | exact bA .. | assumption | refine bB ?_ | refine bC ?_ _ | refine bD _ _ ?_ | refine bE _ ?_ | refine bG ?_ (by first | omega | (simp; done) | (simp; omega)) _ | refine Below.setCell ?_ (by first | omega | (simp; done) | (simp; omega)) _ | refine Below.grow _ _ _ ?_ (by first | omega | (simp; done) | (simp; omega)))))).mono ?_; rintro e w1 ⟨rfl, hb⟩; obtain ⟨ext, d, rfl⟩ := Below.grown_eq _ hb; clear hb) | (go_at_call 82; refine (HF.out _ _ (H.out.below (by repeat (first | exact bA .. | assumption | refine bB ?_ | refine bC ?_ _ | refine bD _ _ ?_ | refine bE _ ?_ | refine bG ?_ (by first | omega | (simp; done) | (simp; omega)) _ | refine Below.setCell ?_ (by first | omega | (simp; done) | (simp; omega)) _ | refine Below.grow _ _ _ ?_ (by first | omega | (simp; done) | (simp; omega)))))).mono ?_; rintro e w1 ⟨rfl, hb⟩; obtain ⟨ext2, d2, rfl⟩ := Below.grown_eq _ hb; clear hb) | (go_at_call 79; refine (HN.out _).mono ?_; rintro e w1 ⟨rfl, rfl⟩; skip))
    refine bodyPost_ret (v := .tuple #[.agg #[.slice none 0 0], .int .i64 3]) (by simp [results, Tryz.results66, go_sem]) rfl ⟨none, 0, rfl, Ow.nil _ _ _ _ _, (by repeat (first | exact bA .. | assumption | refine bB ?_ | refine bC ?_ _ | refine bD _ _ ?_ | refine bE _ ?_ | refine bG ?_ (by first | omega | (simp; done) | (simp; omega)) _ | refine Below.setCell ?_ (by first | omega | (simp; done) | (simp; omega)) _ | refine Below.grow _ _ _ ?_ (by first | omega | (simp; done) | (simp; omega))))⟩
  | true =>
    rw [hg] at HG
    have hl16 := goodD_len hg
    clear hg
    simp only [if_true]
    cases hnm : named (bs p) with
    | false =>
      rw [hnm] at HN
      clear h hz hnm
      simp only [Bool.false_eq_true, if_false]
      go_enter Tryz.func66, Tryz.ntmps66
      go_wp2_with
        (first | (go_at_call 81; refine (HG.out _ (H.out.below (by repeat (first | exact bA .. | assumption | refine bB ?_ | refine bC ?_ _ | refine bD _ _ ?_ | refine bE _ ?_ | refine bG ?_ (by first | omega | (simp; done) | (simp; omega)) _ | refine Below.setCell ?_ (by first | omega | (simp; done) | (simp; omega)) _ | refine Below.grow _ _ _ ?_ (by first | omega | (simp; done) | (simp; omega)))))).mono ?_; rintro e w1 ⟨rfl, hb⟩; obtain ⟨ext, d, rfl⟩ := Below.grown_eq _ hb; clear hb) | (go_at_call 82; refine (HF.out _ _ (H.out.below (by repeat (first | exact bA .. | assumption | refine bB ?_ | refine bC ?_ _ | refine bD _ _ ?_ | refine bE _ ?_ | refine bG ?_ (by first | omega | (simp; done) | (simp; omega)) _ | refine Below.setCell ?_ (by first | omega | (simp; done) | (simp; omega)) _ | refine Below.grow _ _ _ ?_ (by first | omega | (simp; done) | (simp; omega)))))).mono ?_; rintro e w1 ⟨rfl, hb⟩; obtain ⟨ext2, d2, rfl⟩ := Below.grown_eq _ hb; clear hb) | (go_at_call 79; refine (HN.out _).mono ?_; rintro e w1 ⟨rfl, rfl⟩; skip))
      refine bodyPost_ret (v := .tuple #[.agg #[.slice none 0 0], .int .i64 2]) (by simp [results, Tryz.results66, go_sem]) rfl ⟨none, 0, rfl, Ow.nil _ _ _ _ _, (by repeat (first | exact bA .. | assumption | refine bB ?_ | refine bC ?_ _ | refine bD _ _ ?_ | refine bE _ ?_ | refine bG ?_ (by first | omega | (simp; done) | (simp; omega)) _ | refine Below.setCell ?_ (by first | omega | (simp; done) | (simp; omega)) _ | refine Below.grow _ _ _ ?_ (by first | omega | (simp; done) | (simp; omega))))⟩
    | true =>
      rw [hnm] at HN
      clear hnm
      simp only [if_true]
      have hfind := fun (W : World) (v : Value) (hs : Sl cFile 3 W v l) => dkFind v l p W hs (by omega)
      cases hk : isK (l.map File.name) p with
      | true =>
        rw [hk] at hfind
        have HF := Lib.hid hfind
        have hq := isK_in_file hk
        have hx : l[posK (l.map File.name) p]? = some (fileAt l p) := by
          unfold fileAt
          rw [List.getD_eq_getElem?_getD, List.getElem?_eq_getElem hq]
          rfl
        obtain ⟨z0, z1, z2⟩ := hz _ (List.mem_of_getElem? hx)
        generalize fileAt l p = x at *
        generalize posK (l.map File.name) p = q at *
        have HX := Lib.hid hx
        clear h hz hk hfind hx
        simp only [if_true]
        by_cases hl : x.safe.size + x.tail.size + s.size ≤ 1048576
        · have hli : (decide ((1048576 : Int) < (x.safe.size : Int) + (x.tail.size : Int) + (s.size : Int))) = false := decide_eq_false (by omega)
          simp only [if_pos hl]
          clear hl
          go_enter Tryz.func66, Tryz.ntmps66
          go_wp2_with
            (first | (go_at_call 81; refine (HG.out _ (H.out.below (by repeat (first | exact bA .. | assumption | refine bB ?_ | refine bC ?_ _ | refine bD _ _ ?_ | refine bE _ ?_ | refine bG ?_ (by first | omega | (simp; done) | (simp; omega)) _ | refine Below.setCell ?_ (by first | omega | (simp; done) | (simp; omega)) _ | refine Below.grow _ _ _ ?_ (by first | omega | (simp; done) | (simp; omega)))))).mono ?_; rintro e w1 ⟨rfl, hb⟩; obtain ⟨ext, d, rfl⟩ := Below.grown_eq _ hb; clear hb) | (go_at_call 82; refine (HF.out _ _ (H.out.below (by repeat (first | exact bA .. | assumption | refine bB ?_ | refine bC ?_ _ | refine bD _ _ ?_ | refine bE _ ?_ | refine bG ?_ (by first | omega | (simp; done) | (simp; omega)) _ | refine Below.setCell ?_ (by first | omega | (simp; done) | (simp; omega)) _ | refine Below.grow _ _ _ ?_ (by first | omega | (simp; done) | (simp; omega)))))).mono ?_; rintro e w1 ⟨rfl, hb⟩; obtain ⟨ext2, d2, rfl⟩ := Below.grown_eq _ hb; clear hb) | (go_at_call 79; refine (HN.out _).mono ?_; rintro e w1 ⟨rfl, rfl⟩; skip))
          refine (dkCopied _ l _ (H.out.below (by repeat (first | exact bA .. | assumption | refine bB ?_ | refine bC ?_ _ | refine bD _ _ ?_ | refine bE _ ?_ | refine bG ?_ (by first | omega | (simp; done) | (simp; omega)) _ | refine Below.setCell ?_ (by first | omega | (simp; done) | (simp; omega)) _ | refine Below.grow _ _ _ ?_ (by first | omega | (simp; done) | (simp; omega))))) (by omega) (by simp [maxLen]; omega)).mono ?_
          rintro e w3 ⟨A3, c3, rfl, ho3, hb3⟩
          obtain ⟨ext3, d3, rfl⟩ := Below.grown_eq _ hb3
          obtain ⟨g3, J, rfl, hg3, hbk3, hcl, hlc, hcm, _⟩ := ho3.blk (by omega)
          have hg4 : w.heap.size + 1 + 1 ≤ g3 := by simp at hg3; omega
          have hbk4 : ∀ d', Bk (grow (grow (grow ((w.alloc (.cells #[.slice (some ⟨g3, 0, none⟩) l.length c3] 28)).alloc (.cells #[.slice none 0 0] 28)) ext d) ext2 d2) ext3 d') g3 (l.flatMap cFile ++ J) 151 := fun d' => hbk3.regrow (by simpa using hg3) (by simp)
          obtain ⟨r0, r1, r2⟩ := file_cells (hbk4 (d3 + 1)) HX.out
          obtain ⟨s0, s1, s2⟩ := file_cells (hbk4 (d3 + 1)) HX.out
          have f2 := (hbk4 (d3 + 1)).frozen (q * 3 + 2)
          have HBK := Lib.hid hbk4
          have HCL := Lib.hid hcl
          clear hb3 ho3 hbk3 hbk4 hg3 hcl
          go_wp2_with fail
          go_region
          go_wp2_with fail
          have hlen : ((l.set q ⟨x.name, x.safe, x.tail ++ s⟩).flatMap cFile ++ J).length = c3 * 3 := by
            rw [← HCL.out, List.length_append, List.length_append, flatMap_length (f := cFile) (s := 3) (fun _ _ => rfl), flatMap_length (f := cFile) (s := 3) (fun _ _ => rfl), List.length_set]
          have n1 : ¬ w.heap.size + 1 = g3 := by omega
          have n2 : ¬ g3 = w.heap.size + 1 := by omega
          refine bodyPost_ret (v := .tuple #[.agg #[.slice (some ⟨g3, 0, none⟩) l.length c3], .int .i64 0]) (by simp [results, Tryz.results66, go_sem]) rfl ⟨some ⟨g3, 0, none⟩, c3, by rw [List.length_set], ?_, ?_⟩
          · refine Ow.far (Ow.of_blk (f := cFile) (s := 3) (B := w.heap.size) (fun _ _ => rfl) (by omega) ?_ rfl hlen (by rw [List.length_set]; exact hlc) hcm) (by omega)
            have := (HBK.out (d3 + 1)).put (q * 3 + 2) (.string (x.tail ++ s))
            rw [set_tail HX.out] at this
            exact this
          · refine Below.put (Below.put ?_ ?_) ?_
            · exact (by repeat (first | exact bA .. | assumption | refine bB ?_ | refine bC ?_ _ | refine bD _ _ ?_ | refine bE _ ?_ | refine bG ?_ (by first | omega | (simp; done) | (simp; omega)) _ | refine Below.setCell ?_ (by first | omega | (simp; done) | (simp; omega)) _ | refine Below.grow _ _ _ ?_ (by first | omega | (simp; done) | (simp; omega))))
            all_goals omega
        · have hli : (decide ((1048576 : Int) < (x.safe.size : Int) + (x.tail.size : Int) + (s.size : Int))) = true := decide_eq_true (by omega)
          simp only [if_neg hl]
          clear hl
          go_enter Tryz.func66, Tryz.ntmps66
          go_wp2_with
            (first | (go_at_call 81; refine (HG.out _ (H.out.below (by repeat (first | exact bA .. | assumption | refine bB ?_ | refine bC ?_ _ | refine bD _ _ ?_ | refine bE _ ?_ | refine bG ?_ (by first | omega | (simp; done) | (simp; omega)) _ | refine Below.setCell ?_ (by first | omega | (simp; done) | (simp; omega)) _ | refine Below.grow _ _ _ ?_ (by first | omega | (simp; done) | (simp; omega)))))).mono ?_; rintro e w1 ⟨rfl, hb⟩; obtain ⟨ext, d, rfl⟩ := Below.grown_eq _ hb; clear hb) | (go_at_call 82; refine (HF.out _ _ (H.out.below (by repeat (first | exact bA .. | assumption | refine bB ?_ | refine bC ?_ _ | refine bD _ _ ?_ | refine bE _ ?_ | refine bG ?_ (by first | omega | (simp; done) | (simp; omega)) _ | refine Below.setCell ?_ (by first | omega | (simp; done) | (simp; omega)) _ | refine Below.grow _ _ _ ?_ (by first | omega | (simp; done) | (simp; omega)))))).mono ?_; rintro e w1 ⟨rfl, hb⟩; obtain ⟨ext2, d2, rfl⟩ := Below.grown_eq _ hb; clear hb) | (go_at_call 79; refine (HN.out _).mono ?_; rintro e w1 ⟨rfl, rfl⟩; skip))
          refine (dkCopied _ l _ (H.out.below (by repeat (first | exact bA .. | assumption | refine bB ?_ | refine bC ?_ _ | refine bD _ _ ?_ | refine bE _ ?_ | refine bG ?_ (by first | omega | (simp; done) | (simp; omega)) _ | refine Below.setCell ?_ (by first | omega | (simp; done) | (simp; omega)) _ | refine Below.grow _ _ _ ?_ (by first | omega | (simp; done) | (simp; omega))))) (by omega) (by simp [maxLen]; omega)).mono ?_
          rintro e w3 ⟨A3, c3, rfl, ho3, hb3⟩
          obtain ⟨ext3, d3, rfl⟩ := Below.grown_eq _ hb3
          obtain ⟨g3, J, rfl, hg3, hbk3, hcl, hlc, hcm, _⟩ := ho3.blk (by omega)
          have hg4 : w.heap.size + 1 + 1 ≤ g3 := by simp at hg3; omega
          have hbk4 : ∀ d', Bk (grow (grow (grow ((w.alloc (.cells #[.slice (some ⟨g3, 0, none⟩) l.length c3] 28)).alloc (.cells #[.slice none 0 0] 28)) ext d) ext2 d2) ext3 d') g3 (l.flatMap cFile ++ J) 151 := fun d' => hbk3.regrow (by simpa using hg3) (by simp)
          obtain ⟨r0, r1, r2⟩ := file_cells (hbk4 (d3 + 1)) HX.out
          have HBK := Lib.hid hbk4
          have HCL := Lib.hid hcl
          clear hb3 ho3 hbk3 hbk4 hg3 hcl
          go_wp2_with fail
          go_region
          go_wp2_with fail
          refine bodyPost_ret (v := .tuple #[.agg #[.slice none 0 0], .int .i64 1]) (by simp [results, Tryz.results66, go_sem]) rfl ⟨none, 0, rfl, Ow.nil _ _ _ _ _, (by repeat (first | exact bA .. | assumption | refine bB ?_ | refine bC ?_ _ | refine bD _ _ ?_ | refine bE _ ?_ | refine bG ?_ (by first | omega | (simp; done) | (simp; omega)) _ | refine Below.setCell ?_ (by first | omega | (simp; done) | (simp; omega)) _ | refine Below.grow _ _ _ ?_ (by first | omega | (simp; done) | (simp; omega))))⟩
      | false =>
        rw [hk] at hfind
        have HF := Lib.hid hfind
        have hq : posK (l.map File.name) p ≤ l.length := by unfold posK; have := bsr_le (ltK (l.map File.name) p) (l.map File.name).length; simpa using this
        generalize posK (l.map File.name) p = q at *
        clear h hz hk hfind
        simp only [Bool.false_eq_true, if_false]
        by_cases h16 : 16 ≤ l.length
        · have h16i : (decide ((16 : Int) ≤ (l.length : Int))) = true := decide_eq_true (by omega)
          simp only [if_pos h16]
          go_enter Tryz.func66, Tryz.ntmps66
          go_wp2_with
            (first | (go_at_call 81; refine (HG.out _ (H.out.below (by repeat (first | exact bA .. | assumption | refine bB ?_ | refine bC ?_ _ | refine bD _ _ ?_ | refine bE _ ?_ | refine bG ?_ (by first | omega | (simp; done) | (simp; omega)) _ | refine Below.setCell ?_ (by first | omega | (simp; done) | (simp; omega)) _ | refine Below.grow _ _ _ ?_ (by first | omega | (simp; done) | (simp; omega)))))).mono ?_; rintro e w1 ⟨rfl, hb⟩; obtain ⟨ext, d, rfl⟩ := Below.grown_eq _ hb; clear hb) | (go_at_call 82; refine (HF.out _ _ (H.out.below (by repeat (first | exact bA .. | assumption | refine bB ?_ | refine bC ?_ _ | refine bD _ _ ?_ | refine bE _ ?_ | refine bG ?_ (by first | omega | (simp; done) | (simp; omega)) _ | refine Below.setCell ?_ (by first | omega | (simp; done) | (simp; omega)) _ | refine Below.grow _ _ _ ?_ (by first | omega | (simp; done) | (simp; omega)))))).mono ?_; rintro e w1 ⟨rfl, hb⟩; obtain ⟨ext2, d2, rfl⟩ := Below.grown_eq _ hb; clear hb) | (go_at_call 79; refine (HN.out _).mono ?_; rintro e w1 ⟨rfl, rfl⟩; skip))
          refine bodyPost_ret (v := .tuple #[.agg #[.slice none 0 0], .int .i64 6]) (by simp [results, Tryz.results66, go_sem]) rfl ⟨none, 0, rfl, Ow.nil _ _ _ _ _, (by repeat (first | exact bA .. | assumption | refine bB ?_ | refine bC ?_ _ | refine bD _ _ ?_ | refine bE _ ?_ | refine bG ?_ (by first | omega | (simp; done) | (simp; omega)) _ | refine Below.setCell ?_ (by first | omega | (simp; done) | (simp; omega)) _ | refine Below.grow _ _ _ ?_ (by first | omega | (simp; done) | (simp; omega))))⟩
        · have h16i : (decide ((16 : Int) ≤ (l.length : Int))) = false := decide_eq_false (by omega)
          simp only [if_neg h16]
          generalize hL : l.take q ++ (⟨p, ⟨#[]⟩, ⟨#[]⟩⟩ : File) :: l.drop q = L
          have hX : L[q]? = some (⟨p, ⟨#[]⟩, ⟨#[]⟩⟩ : File) := by rw [← hL, List.getElem?_append_right (by simp; omega)]; simp [Nat.min_eq_left hq]
          have hX2 : L.set q ⟨p, ⟨#[]⟩, s⟩ = l.take q ++ (⟨p, ⟨#[]⟩, s⟩ : File) :: l.drop q := by rw [← hL, List.set_append_right _ _ (by simp; omega)]; simp [Nat.min_eq_left hq]
          have hLl : 0 < L.length := Nat.lt_of_le_of_lt (Nat.zero_le q) (List.getElem?_eq_some_iff.1 hX).1
          have HL := Lib.hid hL
          have HX := Lib.hid hX
          rw [← hX2]
          clear hL hX hX2
          by_cases hl : s.size ≤ 1048576
          · have hli : (decide ((1048576 : Int) < (s.size : Int))) = false := decide_eq_false (by omega)
            simp only [if_pos hl]
            clear hl
            go_enter Tryz.func66, Tryz.ntmps66
            go_wp2_with
              (first | (go_at_call 81; refine (HG.out _ (H.out.below (by repeat (first | exact bA .. | assumption | refine bB ?_ | refine bC ?_ _ | refine bD _ _ ?_ | refine bE _ ?_ | refine bG ?_ (by first | omega | (simp; done) | (simp; omega)) _ | refine Below.setCell ?_ (by first | omega | (simp; done) | (simp; omega)) _ | refine Below.grow _ _ _ ?_ (by first | omega | (simp; done) | (simp; omega)))))).mono ?_; rintro e w1 ⟨rfl, hb⟩; obtain ⟨ext, d, rfl⟩ := Below.grown_eq _ hb; clear hb) | (go_at_call 82; refine (HF.out _ _ (H.out.below (by repeat (first | exact bA .. | assumption | refine bB ?_ | refine bC ?_ _ | refine bD _ _ ?_ | refine bE _ ?_ | refine bG ?_ (by first | omega | (simp; done) | (simp; omega)) _ | refine Below.setCell ?_ (by first | omega | (simp; done) | (simp; omega)) _ | refine Below.grow _ _ _ ?_ (by first | omega | (simp; done) | (simp; omega)))))).mono ?_; rintro e w1 ⟨rfl, hb⟩; obtain ⟨ext2, d2, rfl⟩ := Below.grown_eq _ hb; clear hb) | (go_at_call 79; refine (HN.out _).mono ?_; rintro e w1 ⟨rfl, rfl⟩; skip))
            refine (dkCopied _ l _ (H.out.below (by repeat (first | exact bA .. | assumption | refine bB ?_ | refine bC ?_ _ | refine bD _ _ ?_ | refine bE _ ?_ | refine bG ?_ (by first | omega | (simp; done) | (simp; omega)) _ | refine Below.setCell ?_ (by first | omega | (simp; done) | (simp; omega)) _ | refine Below.grow _ _ _ ?_ (by first | omega | (simp; done) | (simp; omega))))) (by omega) (by simp [maxLen]; omega)).mono ?_
            rintro e w3 ⟨A3, c3, rfl, ho3, hb3⟩
            obtain ⟨ext3, d3, rfl⟩ := Below.grown_eq _ hb3
            have HO3 := Lib.hid ho3
            clear ho3
            go_wp2_with fail
            refine (insFile_in (x := ⟨p, ⟨#[]⟩, ⟨#[]⟩⟩) (W := ((w.alloc (.cells #[.slice A3 l.length c3] 28)).alloc (.cells #[.slice none 0 0] 28))) (by repeat (first | exact bA .. | assumption | refine bB ?_ | refine bC ?_ _ | refine bD _ _ ?_ | refine bE _ ?_ | refine bG ?_ (by first | omega | (simp; done) | (simp; omega)) _ | refine Below.setCell ?_ (by first | omega | (simp; done) | (simp; omega)) _ | refine Below.grow _ _ _ ?_ (by first | omega | (simp; done) | (simp; omega)))) ((HO3.out.regrow (Nat.le_refl _) (by simp)).mono (by simp; omega)) hq (by omega) _ (by simp) HL.out.symm).mono ?_
            rintro e w4 ⟨A4, c4, ext4, d4, rfl, rfl, ho4⟩
            obtain ⟨g3, J, rfl, hg3, hbk3, hcl, hlc, hcm, _⟩ := ho4.blk hLl
            have hg4 : w.heap.size + 1 + 1 ≤ g3 := by simp at hg3; omega
            have hbk4 : ∀ d', Bk (grow ((w.alloc (.cells #[.slice (some ⟨g3, 0, none⟩) L.length c4] 28)).alloc (.cells #[.slice none 0 0] 28)) ext4 d') g3 (L.flatMap cFile ++ J) 151 := fun d' => hbk3.regrow (by simpa using hg3) (by simp)
            obtain ⟨r0, r1, r2⟩ := file_cells (hbk4 (d4 + 1)) HX.out
            have f2 := (hbk4 (d4 + 1)).frozen (q * 3 + 2)
            have hqL : q < L.length := (List.getElem?_eq_some_iff.1 HX.out).1
            have HBK := Lib.hid hbk4
            have HCL := Lib.hid hcl
            clear ho4 hbk3 hbk4 hg3 hcl
            go_wp2_with fail
            go_region
            go_wp2_with fail
            have hlen : ((L.set q ⟨p, ⟨#[]⟩, s⟩).flatMap cFile ++ J).length = c4 * 3 := by
              rw [← HCL.out, List.length_append, List.length_append, flatMap_length (f := cFile) (s := 3) (fun _ _ => rfl), flatMap_length (f := cFile) (s := 3) (fun _ _ => rfl), List.length_set]
            have n1 : ¬ w.heap.size + 1 = g3 := by omega
            have n2 : ¬ g3 = w.heap.size + 1 := by omega
            refine bodyPost_ret (v := .tuple #[.agg #[.slice (some ⟨g3, 0, none⟩) L.length c4], .int .i64 0]) (by simp [results, Tryz.results66, go_sem]) rfl ⟨some ⟨g3, 0, none⟩, c4, by rw [List.length_set], ?_, ?_⟩
            · refine Ow.far (Ow.of_blk (f := cFile) (s := 3) (B := w.heap.size) (fun _ _ => rfl) (by omega) ?_ rfl hlen (by rw [List.length_set]; exact hlc) hcm) (by omega)
              have := (HBK.out (d4 + 1)).put (q * 3 + 2) (.string s)
              rw [set_tail HX.out] at this
              exact this
            · refine Below.put (Below.put ?_ ?_) ?_
              · exact (by repeat (first | exact bA .. | assumption | refine bB ?_ | refine bC ?_ _ | refine bD _ _ ?_ | refine bE _ ?_ | refine bG ?_ (by first | omega | (simp; done) | (simp; omega)) _ | refine Below.setCell ?_ (by first | omega | (simp; done) | (simp; omega)) _ | refine Below.grow _ _ _ ?_ (by first | omega | (simp; done) | (simp; omega))))
              all_goals omega
          · have hli : (decide ((1048576 : Int) < (s.size : Int))) = true := decide_eq_true (by omega)
            simp only [if_neg hl]
            clear hl
            go_enter Tryz.func66, Tryz.ntmps66
            go_wp2_with
              (first | (go_at_call 81; refine (HG.out _ (H.out.below (by repeat (first | exact bA .. | assumption | refine bB ?_ | refine bC ?_ _ | refine bD _ _ ?_ | refine bE _ ?_ | refine bG ?_ (by first | omega | (simp; done) | (simp; omega)) _ | refine Below.setCell ?_ (by first | omega | (simp; done) | (simp; omega)) _ | refine Below.grow _ _ _ ?_ (by first | omega | (simp; done) | (simp; omega)))))).mono ?_; rintro e w1 ⟨rfl, hb⟩; obtain ⟨ext, d, rfl⟩ := Below.grown_eq _ hb; clear hb) | (go_at_call 82; refine (HF.out _ _ (H.out.below (by repeat (first | exact bA .. | assumption | refine bB ?_ | refine bC ?_ _ | refine bD _ _ ?_ | refine bE _ ?_ | refine bG ?_ (by first | omega | (simp; done) | (simp; omega)) _ | refine Below.setCell ?_ (by first | omega | (simp; done) | (simp; omega)) _ | refine Below.grow _ _ _ ?_ (by first | omega | (simp; done) | (simp; omega)))))).mono ?_; rintro e w1 ⟨rfl, hb⟩; obtain ⟨ext2, d2, rfl⟩ := Below.grown_eq _ hb; clear hb) | (go_at_call 79; refine (HN.out _).mono ?_; rintro e w1 ⟨rfl, rfl⟩; skip))
            refine (dkCopied _ l _ (H.out.below (by repeat (first | exact bA .. | assumption | refine bB ?_ | refine bC ?_ _ | refine bD _ _ ?_ | refine bE _ ?_ | refine bG ?_ (by first | omega | (simp; done) | (simp; omega)) _ | refine Below.setCell ?_ (by first | omega | (simp; done) | (simp; omega)) _ | refine Below.grow _ _ _ ?_ (by first | omega | (simp; done) | (simp; omega))))) (by omega) (by simp [maxLen]; omega)).mono ?_
            rintro e w3 ⟨A3, c3, rfl, ho3, hb3⟩
            obtain ⟨ext3, d3, rfl⟩ := Below.grown_eq _ hb3
            have HO3 := Lib.hid ho3
            clear ho3
            go_wp2_with fail
            refine (insFile_in (x := ⟨p, ⟨#[]⟩, ⟨#[]⟩⟩) (W := ((w.alloc (.cells #[.slice A3 l.length c3] 28)).alloc (.cells #[.slice none 0 0] 28))) (by repeat (first | exact bA .. | assumption | refine bB ?_ | refine bC ?_ _ | refine bD _ _ ?_ | refine bE _ ?_ | refine bG ?_ (by first | omega | (simp; done) | (simp; omega)) _ | refine Below.setCell ?_ (by first | omega | (simp; done) | (simp; omega)) _ | refine Below.grow _ _ _ ?_ (by first | omega | (simp; done) | (simp; omega)))) ((HO3.out.regrow (Nat.le_refl _) (by simp)).mono (by simp; omega)) hq (by omega) _ (by simp) HL.out.symm).mono ?_
            rintro e w4 ⟨A4, c4, ext4, d4, rfl, rfl, ho4⟩
            obtain ⟨g3, J, rfl, hg3, hbk3, hcl, hlc, hcm, _⟩ := ho4.blk hLl
            have hg4 : w.heap.size + 1 + 1 ≤ g3 := by simp at hg3; omega
            have hbk4 : ∀ d', Bk (grow ((w.alloc (.cells #[.slice (some ⟨g3, 0, none⟩) L.length c4] 28)).alloc (.cells #[.slice none 0 0] 28)) ext4 d') g3 (L.flatMap cFile ++ J) 151 := fun d' => hbk3.regrow (by simpa using hg3) (by simp)
            obtain ⟨r0, r1, r2⟩ := file_cells (hbk4 (d4 + 1)) HX.out
            have f2 := (hbk4 (d4 + 1)).frozen (q * 3 + 2)
            have hqL : q < L.length := (List.getElem?_eq_some_iff.1 HX.out).1
            have HBK := Lib.hid hbk4
            have HCL := Lib.hid hcl
            clear ho4 hbk3 hbk4 hg3 hcl
            go_wp2_with fail
            go_region
            go_wp2_with fail
            refine bodyPost_ret (v := .tuple #[.agg #[.slice none 0 0], .int .i64 1]) (by simp [results, Tryz.results66, go_sem]) rfl ⟨none, 0, rfl, Ow.nil _ _ _ _ _, (by repeat (first | exact bA .. | assumption | refine bB ?_ | refine bC ?_ _ | refine bD _ _ ?_ | refine bE _ ?_ | refine bG ?_ (by first | omega | (simp; done) | (simp; omega)) _ | refine Below.setCell ?_ (by first | omega | (simp; done) | (simp; omega)) _ | refine Below.grow _ _ _ ?_ (by first | omega | (simp; done) | (simp; omega))))⟩
end Go.Proofs.YtchgpijfebilbaaGreatDoor

/- What the disk's operations leave, as files put, taken off and read; and the laws' 'stores'. -/
namespace Go.Proofs.YtchgpijfebilbaaGreatDoor
open Go.RowKit Go.ChangeShapes Go.WideShapes Go.ChangeAt
theorem goodD_sized {l : List File} (h : goodD l = true) : ∀ x ∈ l, x.sized ∧ x.safe.size + x.tail.size ≤ 1048576 := by
  intro x hx
  have := ((goodD_iff l).1 h).2.1 x hx
  unfold okF named at this
  simp only [Bool.and_eq_true, decide_eq_true_iff] at this
  obtain ⟨⟨⟨_, _⟩, h1⟩, h2⟩ := this
  have h3 : (bs x.name).length = x.name.size := rfl
  refine ⟨⟨?_, ?_, ?_⟩, h2⟩ <;> omega
def noFile (p : ByteArray) : File := ⟨p, ⟨#[]⟩, ⟨#[]⟩⟩
def fileOr (l : List File) (p : ByteArray) : File := if isK (l.map File.name) p then fileAt l p else noFile p
theorem readS_or {l : List File} (h : goodD l = true) (p : ByteArray) : readS l p = (fileOr l p).safe ++ (fileOr l p).tail := by
  unfold readS fileOr
  rw [h, Bool.true_and]
  split
  · rfl
  · exact ByteArray.append_empty.symm
theorem write_not {l : List File} {p s : ByteArray} (h : writeE l p s ≠ 0) : writeL l p s = [] := by
  unfold writeE at h
  unfold writeL
  by_cases h1 : goodD l = true
  · by_cases h2 : named (bs p) = true
    · by_cases h3 : isK (l.map File.name) p = true
      · by_cases h4 : (fileAt l p).safe.size + (fileAt l p).tail.size + s.size ≤ 1048576
        · simp [h1, h2, h3, h4] at h
        · simp [h1, h2, h3, h4]
      · by_cases h4 : 16 ≤ l.length
        · simp [h1, h2, h3, h4]
        · by_cases h5 : s.size ≤ 1048576
          · simp [h1, h2, h3, h4, h5] at h
          · simp [h1, h2, h3, h4, h5]
    · simp [h1, h2]
  · simp [h1]
theorem write_ok {l : List File} {p s : ByteArray} (h : writeE l p s = 0) : goodD l = true ∧ writeL l p s = putL l ⟨p, (fileOr l p).safe, (fileOr l p).tail ++ s⟩ ∧ goodD (writeL l p s) = true := by
  have key : goodD l = true ∧ writeL l p s = putL l ⟨p, (fileOr l p).safe, (fileOr l p).tail ++ s⟩ ∧ named (bs p) = true ∧ (fileOr l p).safe.size + ((fileOr l p).tail ++ s).size ≤ 1048576 ∧ (isK (l.map File.name) p = true ∨ l.length < 16) := by
    unfold writeE at h
    unfold writeL putL fileOr
    rw [ByteArray.size_append]
    by_cases h1 : goodD l = true
    · by_cases h2 : named (bs p) = true
      · by_cases h3 : isK (l.map File.name) p = true
        · by_cases h4 : (fileAt l p).safe.size + (fileAt l p).tail.size + s.size ≤ 1048576
          · simp only [if_pos h1, if_pos h2, if_pos h3, if_pos h4]
            exact ⟨h1, by rw [(fileAt_is h3).1], h2, by omega, .inl h3⟩
          · simp [h1, h2, h3, h4] at h
        · by_cases h4 : 16 ≤ l.length
          · simp [h1, h2, h3, h4] at h
          · by_cases h5 : s.size ≤ 1048576
            · simp only [if_pos h1, if_pos h2, if_neg h3, if_neg h4, if_pos h5]
              exact ⟨h1, by rw [show (noFile p).tail ++ s = s from ByteArray.empty_append]; rfl, h2, by show 0 + (0 + s.size) ≤ _; omega, .inr (by omega)⟩
            · simp [h1, h2, h3, h4, h5] at h
      · simp [h1, h2] at h
    · simp [h1] at h
  obtain ⟨h1, h2, h3, h4, h5⟩ := key
  refine ⟨h1, h2, ?_⟩
  rw [h2]
  refine putL_good h1 ?_ h5
  unfold okF
  rw [h3, Bool.true_and]
  exact decide_eq_true h4
theorem readE_0 {l : List File} {p : ByteArray} (h : readE l p = 0) : goodD l = true ∧ isK (l.map File.name) p = true := by
  unfold readE at h
  by_cases h1 : goodD l = true
  · by_cases h2 : isK (l.map File.name) p = true
    · exact ⟨h1, h2⟩
    · simp [h1, h2] at h
  · simp [h1] at h
theorem readE_in {l : List File} {p : ByteArray} (h1 : goodD l = true) (h2 : isK (l.map File.name) p = true) : readE l p = 0 := by
  unfold readE
  rw [h1, h2]
  rfl
theorem sync_ok {l : List File} {p : ByteArray} (h : readE l p = 0) : syncL l p = putL l ⟨p, (fileAt l p).safe ++ (fileAt l p).tail, ⟨#[]⟩⟩ ∧ goodD (syncL l p) = true := by
  obtain ⟨h1, h2⟩ := readE_0 h
  have e : syncL l p = putL l ⟨p, (fileAt l p).safe ++ (fileAt l p).tail, ⟨#[]⟩⟩ := by
    unfold syncL putL syncF
    simp only [h1, h2, Bool.and_self, if_true]
    rw [(fileAt_is h2).1]
  refine ⟨e, ?_⟩
  rw [e]
  refine putL_good h1 ?_ (.inl h2)
  have h3 := ((goodD_iff l).1 h1).2.1 _ (fileAt_is h2).2
  unfold okF at h3 ⊢
  rw [(fileAt_is h2).1] at h3
  rw [Bool.and_eq_true, decide_eq_true_iff] at h3 ⊢
  refine ⟨h3.1, ?_⟩
  have := h3.2
  show ((fileAt l p).safe ++ (fileAt l p).tail).size + 0 ≤ 1048576
  rw [ByteArray.size_append]
  omega
theorem cut_ok {l : List File} {p : ByteArray} {n : Int} (h : cutE l p n = 0) : readE l p = 0 ∧ 0 ≤ n ∧ n ≤ ((readS l p).size : Int) ∧ cutL l p n = putL l ⟨p, (readS l p).extract 0 n.toNat, ⟨#[]⟩⟩ ∧ goodD (cutL l p n) = true := by
  have key : goodD l = true ∧ isK (l.map File.name) p = true ∧ (0 ≤ n ∧ n ≤ (((fileAt l p).safe ++ (fileAt l p).tail).size : Int)) := by
    unfold cutE at h
    by_cases h1 : goodD l = true
    · by_cases h2 : isK (l.map File.name) p = true
      · by_cases h3 : 0 ≤ n ∧ n ≤ (((fileAt l p).safe ++ (fileAt l p).tail).size : Int)
        · exact ⟨h1, h2, h3⟩
        · rw [if_pos h1, if_pos h2, if_neg h3] at h; simp at h
      · simp [h1, h2] at h
    · simp [h1] at h
  obtain ⟨h1, h2, h3⟩ := key
  have hr : readS l p = (fileAt l p).safe ++ (fileAt l p).tail := by
    rw [readS_or h1]; unfold fileOr; rw [if_pos h2]
  have e : cutL l p n = putL l ⟨p, (readS l p).extract 0 n.toNat, ⟨#[]⟩⟩ := by
    unfold cutL putL cutF
    rw [hr]
    simp only [h1, h2, Bool.and_self, if_true]
    rw [if_pos h3, (fileAt_is h2).1]
  refine ⟨readE_in h1 h2, h3.1, by rw [hr]; exact h3.2, e, ?_⟩
  rw [e]
  refine putL_good h1 ?_ (.inl h2)
  have h4 := ((goodD_iff l).1 h1).2.1 _ (fileAt_is h2).2
  unfold okF at h4 ⊢
  rw [(fileAt_is h2).1] at h4
  rw [Bool.and_eq_true, decide_eq_true_iff] at h4 ⊢
  refine ⟨h4.1, ?_⟩
  have := h4.2
  show ((readS l p).extract 0 n.toNat).size + 0 ≤ 1048576
  rw [hr, ByteArray.size_extract, ByteArray.size_append]
  omega
end Go.Proofs.YtchgpijfebilbaaGreatDoor

/- wire.put: bytes of a number, the highest first, behind a row of one's own. -/
namespace Go.Proofs.YtchgpijfebilbaaGreatDoor
open Go.RowKit Go.ChangeShapes Go.WideShapes Go.ChangeAt
theorem cByte_ones : ∀ x : UInt8, ∀ u ∈ cByte x, u.oneCell' = true := by
  intro x u hu
  simp [cByte] at hu
  subst hu
  rfl
def be : Nat → Nat → List UInt8
  | 0, _ => []
  | n + 1, x => UInt8.ofNat (x / 256 ^ n) :: be n x
theorem be_length : ∀ n x, (be n x).length = n
  | 0, _ => rfl
  | n + 1, x => by simp [be, be_length n x]
set_option maxHeartbeats 1000000 in
theorem put_any (W : World) (v : Value) (l : List UInt8) (x n : Nat) (w : World) (hb : Below W.heap.size W w) (h : Ow cByte 1 5 w W.heap.size v l) (_hx : x < 9223372036854775808) (hn : n ≤ 8) (hl : l.length ≤ 100000) :
    Calls Tryz.prog 91 #[v, .int .i64 x, .int .i64 n] w fun e w' => ∃ A c, e = .returned (.slice A (l ++ be n x).length c) ∧ Ow cByte 1 5 w' W.heap.size (.slice A (l ++ be n x).length c) (l ++ be n x) ∧ Below W.heap.size W w' := by
  obtain ⟨A, c, rfl, _⟩ := h.form
  obtain ⟨ext0, d0, rfl⟩ := Below.grown_eq _ hb
  have HO := Lib.hid h
  have HL := Lib.hid (be_length n x)
  clear h hb
  go_enter Tryz.func91, Tryz.ntmps91
  go_wp2_with fail
  go_loopw [0, 7] (fun bv k wr => ∃ (m : Nat) (pre : List UInt8) (A : Option Addr) (c : Nat) (ext : Array Obj) (d : Nat), m ≤ n ∧ k = .int .i64 ((m : Int) - 1) ∧ bv = .slice A pre.length c ∧ wr = grow W ext d ∧ Hid (pre ++ be m x = l ++ be n x) ∧ Hid (Ow cByte 1 5 wr W.heap.size (.slice A pre.length c) pre)) (fun _ k _ => (intOf k + 1).toNat)
  case atStart => exact ⟨n, l, A, c, _, _, Nat.le_refl _, rfl, rfl, rfl, Lib.hid rfl, HO⟩
  case round =>
    obtain ⟨m, pre, A, c, ext, d, hm, rfl, rfl, rfl, hpre, ho⟩ := hrel
    have hpl : pre.length + m = l.length + n := by
      have := congrArg List.length hpre.out
      simpa [be_length] using this
    cases m with
    | zero =>
      have hpre2 := hpre.out
      simp only [be, List.append_nil] at hpre2
      subst hpre2
      go_wp2_with fail
      refine bodyPost_ret (v := .slice A (l ++ be n x).length c) (by simp [results, Tryz.results91, go_sem]) rfl ⟨A, c, rfl, ho.out, (by repeat (first | exact bA .. | assumption | refine bB ?_ | refine bC ?_ _ | refine bD _ _ ?_ | refine bE _ ?_ | refine bG ?_ (by first | omega | (simp; done) | (simp; omega)) _ | refine Below.setCell ?_ (by first | omega | (simp; done) | (simp; omega)) _ | refine Below.grow _ _ _ ?_ (by first | omega | (simp; done) | (simp; omega))))⟩
    | succ m =>
      have hbe : pre ++ be (m + 1) x = (pre ++ [UInt8.ofNat (x / 256 ^ m)]) ++ be m x := by simp [be]
      have hpre2 := Lib.hid (hbe.symm.trans hpre.out)
      have hbv : (x : Int) / 2 ^ (8 * m) % 256 = ((UInt8.ofNat (x / 256 ^ m)).toNat : Int) := by
        have h1 : (2 : Int) ^ (8 * m) = ((256 ^ m : Nat) : Int) := by rw [Int.pow_mul]; simp
        rw [h1, UInt8.toNat_ofNat']
        simp
      generalize UInt8.ofNat (x / 256 ^ m) = cc at *
      clear hbe hpre
      go_wp2_with (at_builtin; refine wpList_app _ rfl (.tmp 14) (.tmp 21) _ rfl elByte (m := [cc]) (v := .slice A pre.length c) rfl rfl (by exact ho.out.alloc _) (by exact Sl.one_at cByte 1 _ _ _ rfl _ rfl (by omega) (by simp)) cByte_ones (by simp [maxLen] <;> omega) (by simp <;> omega) (by simp <;> omega) ?_; intro v5 w5 hown5 hg5 _)
      obtain ⟨A5, k5, rfl, _⟩ := hown5.form
      obtain ⟨ext5, d5, rfl⟩ := grown_after (W := W) (by repeat (first | exact bA .. | assumption | refine bB ?_ | refine bC ?_ _ | refine bD _ _ ?_ | refine bE _ ?_ | refine bG ?_ (by first | omega | (simp; done) | (simp; omega)) _ | refine Below.setCell ?_ (by first | omega | (simp; done) | (simp; omega)) _ | refine Below.grow _ _ _ ?_ (by first | omega | (simp; done) | (simp; omega)))) hg5 (fun k hk => (ho.out.own_in hk).1)
      have HO5 := Lib.hid hown5
      clear ho hown5 hg5
      go_wp2_with fail
      go_roundw
      case rel => exact ⟨m, pre ++ [cc], A5, k5, _, _, by omega, by go_num, rfl, rfl, hpre2, HO5⟩
      case measure => simp [intOf] <;> omega
end Go.Proofs.YtchgpijfebilbaaGreatDoor

/- append of a string's bytes onto a row of one's own. -/
namespace Go.Proofs.YtchgpijfebilbaaGreatDoor
open Go.RowKit Go.ChangeShapes Go.WideShapes Go.ChangeAt
theorem below_regrow (W : World) (ext : Array Obj) (d d' : Nat) : Below (grow W ext d).heap.size (grow W ext d) (grow W ext d') := ⟨rfl, rfl, rfl, Nat.le_refl _, fun _ _ => rfl⟩
theorem ow_lit1 (W : World) (B : Nat) (e : TypeId) {n : Nat} (hn : n = W.heap.size) (hB : B ≤ W.heap.size) : Ow cByte 1 e (W.alloc (.cells #[.int .u8 84] e)) B (.slice (some ⟨n, 0, none⟩) 1 1) [84] := by
  subst hn
  exact ⟨World.ownsRow_lit W #[.int .u8 84] 1 hB (by simp [maxLen]) (by simp), fun x _ => rfl⟩
theorem flat_bytes (l : List UInt8) : l.flatMap cByte = l.map fun b => Value.int .u8 b.toNat := by
  induction l with
  | nil => rfl
  | cons a r ih => rw [List.flatMap_cons, ih]; rfl
section
variable {P : Program} (w : World)
theorem run_apps {t e ts : TypeId} {z : Value} (ty : TypeId) (E : El P t e z 1 1) (hz0 : z = .int .u8 0) (hu : P.underlying ts = some .string) {B : Nat} {v : Value} {l : List UInt8} (s : ByteArray)
    (hown : Ow cByte 1 e w B v l) (h63 : l.length + s.size ≤ maxLen) (hbytes : l.length + s.size ≤ 140737488355328) (hbase : B ≤ w.heap.size) :
    ∃ v' w', (Builtin.append_ #[t, ts] ty #[v, .string s]).run P w = .ok v' w' ∧ Ow cByte 1 e w' B v' (l ++ bs s) ∧ w.grownBy w' v.ownBlock := by
  obtain ⟨i, hi, hz, hs, hb⟩ := info_of E.info
  subst hz0
  obtain ⟨v', w', hr, h2, h3, _⟩ := Go.Lib.run_append_own_string (P := P) w B t ts ty e i E.slice hu hi hz hs hb v l.length (l.flatMap cByte) hown.1 s h63 hbytes hbase
  refine ⟨v', w', hr, ⟨?_, fun x _ => rfl⟩, h3⟩
  have e1 : (l ++ bs s).flatMap cByte = l.flatMap cByte ++ Go.Lib.strCells s := by rw [List.flatMap_append, flat_bytes (bs s)]; rfl
  have e2 : (l ++ bs s).length = l.length + s.size := by rw [List.length_append, length_bs]
  rw [e1, e2]
  exact h2
theorem wp_apps {o : Oper} {a : Act} {K : Act → World → Prop} {Q : Exit → Act → World → Prop} (sv x : Operand) (t ts : TypeId)
    (ho : o.op = .call { callee := .builtin .append, args := #[sv, x], argTypes := #[t, ts] })
    {e : TypeId} {z : Value} (E : El P t e z 1 1) (hz0 : z = .int .u8 0) (hu : P.underlying ts = some .string) {B : Nat} {v : Value} {l : List UInt8} (s : ByteArray)
    (hs : a.eval sv = v) (hx : a.eval x = .string s) (hown : Ow cByte 1 e w B v l)
    (h63 : l.length + s.size ≤ maxLen) (hbytes : l.length + s.size ≤ 140737488355328) (hbase : B ≤ w.heap.size)
    (h : ∀ v' w', Ow cByte 1 e w' B v' (l ++ bs s) → w.grownBy w' v.ownBlock → K (a.put o.dst v') w') : o.wp P a w K Q := by
  obtain ⟨v', w', hr, h2, h3⟩ := run_apps (P := P) w o.type E hz0 hu s hown h63 hbytes hbase
  unfold Oper.wp execOp
  simp only [ho, resolve, invoke, builtin, Sem.run_bind, Sem.run_pure, Result.andThen_ok, List.map_toArray, List.map_cons, List.map_nil, hs, hx, hr]
  exact h v' w' h2 h3
theorem step_apps {ops : Array Oper} {o : Oper} {a : Act} {K : Act → World → Prop} {Q : Exit → Act → World → Prop} {EE : Prop} (hgd : o.guard = none) (sv x : Operand) (t ts : TypeId)
    (ho : o.op = .call { callee := .builtin .append, args := #[sv, x], argTypes := #[t, ts] })
    {e : TypeId} {z : Value} (E : El P t e z 1 1) (hz0 : z = .int .u8 0) (hu : P.underlying ts = some .string) {B : Nat} {v : Value} {l : List UInt8} (s : ByteArray)
    (hs : a.eval sv = v) (hx : a.eval x = .string s) (hown : Ow cByte 1 e w B v l)
    (h63 : l.length + s.size ≤ maxLen) (hbytes : l.length + s.size ≤ 140737488355328) (hbase : B ≤ w.heap.size)
    (h : ∀ v' w', Ow cByte 1 e w' B v' (l ++ bs s) → w.grownBy w' v.ownBlock → K (a.put o.dst v') w') : if Region.wanted o (yielded ops a.tmps) = true then Oper.wp P o a w K Q else EE := by
  have hw : Region.wanted o (yielded ops a.tmps) = true := by simp [Region.wanted, hgd]
  rw [if_pos hw]
  exact wp_apps w sv x t ts ho E hz0 hu s hs hx hown h63 hbytes hbase h
theorem step_app {ops : Array Oper} {o : Oper} {a : Act} {K : Act → World → Prop} {Q : Exit → Act → World → Prop} {EE : Prop} (hgd : o.guard = none) (sv x : Operand) (t : TypeId)
    (ho : o.op = .call { callee := .builtin .append, args := #[sv, x], argTypes := #[t, t] })
    {α : Type} {f : α → List Value} {s : Nat} {e : TypeId} {z : Value} {bytes : Nat} (E : El P t e z s bytes) {B : Nat} {v xv : Value} {l m : List α}
    (hs : a.eval sv = v) (hx : a.eval x = xv) (hown : Ow f s e w B v l) (hsrc : Sl f s w xv m) (h1 : ∀ x, ∀ u ∈ f x, u.oneCell' = true)
    (h63 : l.length + m.length ≤ maxLen) (hbytes : (l.length + m.length) * bytes ≤ 140737488355328) (hbase : B ≤ w.heap.size)
    (h : ∀ v' w', Ow f s e w' B v' (l ++ m) → w.grownBy w' v.ownBlock → (v'.ownBlock = v.ownBlock ∨ v'.ownBlock = some w.heap.size) → K (a.put o.dst v') w') : if Region.wanted o (yielded ops a.tmps) = true then Oper.wp P o a w K Q else EE := by
  have hw : Region.wanted o (yielded ops a.tmps) = true := by simp [Region.wanted, hgd]
  rw [if_pos hw]
  exact wp_app w sv x t ho E hs hx hown hsrc h1 h63 hbytes hbase h
end
theorem run_row_text {P : Program} {w : World} {src e dst B : Nat} {v : Value} {l : List UInt8} (h : Ow cByte 1 e w B v l) (hs : P.underlying src = some (.slice e)) (he : P.underlying e = some (.int .u8)) (hd : P.underlying dst = some .string) :
    (convert src dst v).run P w = .ok (.string ⟨l.toArray⟩) w := by
  obtain ⟨A, c, rfl, h1, h2⟩ := h.sl.form
  cases A with
  | none =>
    have hl : l = [] := by
      cases l with
      | nil => rfl
      | cons x l => obtain ⟨a, o, ha, _⟩ := h.sl.at_ (i := 0) rfl; cases ha
    subst hl
    rw [run_convert_bytes_string w src dst e none [].length c hs he hd]
    rfl
  | some a =>
    refine run_convert_bytes_back w src dst e a c l hs he hd (fun j hj => ?_)
    obtain ⟨b, off, ha, _, hc⟩ := h.sl.at_ (i := j) (x := l[j]) (List.getElem?_eq_getElem hj)
    injection ha with ha
    subst ha
    have hadd : (⟨b, off, none⟩ : Addr).add j = ⟨b, off + j * 1, none⟩ := by
      unfold Addr.add
      split
      · rename_i h0'; rw [Nat.mul_one, h0']; rfl
      · rw [Nat.mul_one]
    rw [hadd]
    exact hc 0 _ rfl
end Go.Proofs.YtchgpijfebilbaaGreatDoor

/- wire.Sum: the cyclic sum of 32 bits. -/
namespace Go.Proofs.YtchgpijfebilbaaGreatDoor
open Go.RowKit
def rnd (c : Nat) : Nat := if c % 2 = 1 then (c / 2) ^^^ 3988292384 else c / 2
def rndN : Nat → Nat → Nat
  | 0, c => c
  | n + 1, c => rnd (rndN n c)
def sumK (l : List UInt8) (c : Nat) : Nat := l.foldl (fun c b => rndN 8 (c ^^^ b.toNat)) c
def sumN (l : List UInt8) : Nat := 4294967295 - sumK l 4294967295
theorem xor_lt {a b : Nat} (ha : a < 4294967296) (hb : b < 4294967296) : a ^^^ b < 4294967296 := Nat.xor_lt_two_pow (n := 32) ha hb
theorem rnd_lt {c : Nat} (h : c < 4294967296) : rnd c < 4294967296 := by
  unfold rnd
  split
  · exact xor_lt (by omega) (by omega)
  · omega
theorem rndN_lt {c : Nat} (h : c < 4294967296) : ∀ n, rndN n c < 4294967296
  | 0 => h
  | n + 1 => rnd_lt (rndN_lt h n)
theorem sumK_lt : ∀ (l : List UInt8) {c : Nat}, c < 4294967296 → sumK l c < 4294967296
  | [], _, h => h
  | b :: r, c, h => by
    have hb : b.toNat < 256 := b.toNat_lt
    exact sumK_lt r (rndN_lt (xor_lt h (by omega)) 8)
theorem sumK_snoc (l : List UInt8) (b : UInt8) (c : Nat) : sumK (l ++ [b]) c = rndN 8 (sumK l c ^^^ b.toNat) := by unfold sumK; rw [List.foldl_append]; rfl
theorem bv32 (a : Nat) (ha : a < 4294967296) : (BitVec.ofInt 32 (a : Int)).toNat = a := by
  rw [BitVec.ofInt_natCast, BitVec.toNat_ofNat]
  exact Nat.mod_eq_of_lt (by omega)
theorem wrap32n (a : Nat) (h : a < 4294967296) : IntKind.u32.wrap (a : Int) = a := by
  unfold IntKind.wrap
  simp [IntKind.signed, IntKind.bits]
  omega
theorem bits_xor32 (a b : Nat) (ha : a < 4294967296) (hb : b < 4294967296) : bits .xor .u32 (a : Int) (b : Int) = ((a ^^^ b : Nat) : Int) := by
  show IntKind.u32.wrap ((BitVec.ofInt 32 (a : Int) ^^^ BitVec.ofInt 32 (b : Int)).toNat : Int) = _
  rw [BitVec.toNat_xor, bv32 a ha, bv32 b hb, wrap32n _ (xor_lt ha hb)]
theorem bits_and1 (a : Nat) (ha : a < 4294967296) : bits .and .u32 (a : Int) 1 = ((a % 2 : Nat) : Int) := by
  show IntKind.u32.wrap ((BitVec.ofInt 32 (a : Int) &&& BitVec.ofInt 32 ((1 : Nat) : Int)).toNat : Int) = _
  rw [BitVec.toNat_and, bv32 a ha, bv32 1 (by omega), Nat.and_one_is_mod, wrap32n _ (by omega)]
theorem bits_not32 (a : Nat) (ha : a < 4294967296) : bits .xor .u32 IntKind.u32.max (a : Int) = ((4294967295 - a : Nat) : Int) := by
  show IntKind.u32.wrap ((BitVec.ofInt 32 ((4294967295 : Nat) : Int) ^^^ BitVec.ofInt 32 (a : Int)).toNat : Int) = _
  have h1 : BitVec.ofInt 32 ((4294967295 : Nat) : Int) = BitVec.allOnes 32 := by decide
  rw [h1, BitVec.xor_comm, BitVec.xor_allOnes, BitVec.toNat_not, bv32 a ha, wrap32n _ (by omega)]
set_option maxHeartbeats 1000000 in
theorem sum_any (s : ByteArray) (w : World) (hs : s.size ≤ 9223372036854775807) :
    Calls Tryz.prog 92 #[.string s] w fun e w' => e = .returned (.int .i64 (sumN (bs s))) ∧ w = w' := by
  go_enter Tryz.func92, Tryz.ntmps92
  go_wp2
  go_loop [3, 4] (fun c i => ∃ k : Nat, k ≤ s.size ∧ c = .int .u32 (sumK ((bs s).take k) 4294967295 : Nat) ∧ i = .int .i64 k) (fun _ i => s.size - (intOf i).toNat)
  case atStart => exact ⟨0, Nat.zero_le _, rfl, rfl⟩
  case round =>
    obtain ⟨k, hk, rfl, rfl⟩ := hrel
    have hlt0 := sumK_lt ((bs s).take k) (c := 4294967295) (by omega)
    by_cases hlt : k < s.size
    · have hx : (bs s)[k]? = some (s[k]) := List.getElem?_eq_getElem (by rw [length_bs]; exact hlt)
      have htk : (bs s).take (k + 1) = (bs s).take k ++ [s[k]] := by rw [List.take_add_one, hx]; rfl
      have hsn := sumK_snoc ((bs s).take k) s[k] 4294967295
      rw [← htk] at hsn
      have hc : s[k].toNat < 256 := s[k].toNat_lt
      have hxb := bits_xor32 (sumK ((bs s).take k) 4294967295) s[k].toNat hlt0 (by omega)
      have hx2 : sumK ((bs s).take k) 4294967295 ^^^ s[k].toNat < 4294967296 := xor_lt hlt0 (by omega)
      have HSN := Lib.hid hsn
      generalize sumK ((bs s).take k) 4294967295 = c0 at *
      clear htk hsn hx
      go_wp2
      generalize c0 ^^^ s[k].toNat = y at *
      go_loop [3, 18] (fun c j => ∃ n : Nat, n ≤ 8 ∧ c = .int .u32 (rndN n y : Nat) ∧ j = .int .i64 n) (fun _ j => 8 - (intOf j).toNat)
      case atStart => exact ⟨0, by omega, rfl, rfl⟩
      case round =>
        obtain ⟨n, hn, rfl, rfl⟩ := hrel
        have hr := rndN_lt hx2 n
        by_cases h8 : n < 8
        · have hand := bits_and1 (rndN n y) hr
          have hrd : rndN (n + 1) y = rnd (rndN n y) := rfl
          have hh : rndN n y / 2 < 4294967296 := by omega
          have hxr : bits .xor .u32 ((rndN n y : Int) / 2) 3988292384 = ((rndN n y / 2 ^^^ 3988292384 : Nat) : Int) := bits_xor32 (rndN n y / 2) 3988292384 hh (by omega)
          have HRD := Lib.hid hrd
          generalize rndN n y = z at *
          clear hrd
          rcases Nat.mod_two_eq_zero_or_one z with h2 | h2
          · have hz : rnd z = z / 2 := by unfold rnd; rw [if_neg (by omega)]
            have HZ := Lib.hid hz
            clear hz
            rw [h2] at hand
            go_wp2
            exact ⟨⟨n + 1, by omega, by rw [HRD.out, HZ.out] <;> rfl, by go_num⟩, by simp [intOf]; omega⟩
          · have hz : rnd z = (z / 2) ^^^ 3988292384 := by unfold rnd; rw [if_pos h2]
            have HZ := Lib.hid hz
            clear hz
            rw [h2] at hand
            go_wp2
            exact ⟨⟨n + 1, by omega, by rw [HRD.out, HZ.out], by go_num⟩, by simp [intOf]; omega⟩
        · have hn8 : n = 8 := by omega
          subst hn8
          go_wp2
          go_round
          case rel => exact ⟨k + 1, by omega, by rw [HSN.out], by go_num⟩
          case measure => simp [intOf]; omega
    · have hk' : k = s.size := by omega
      subst hk'
      have hfull : (bs s).take s.size = bs s := List.take_of_length_le (by rw [length_bs]; exact Nat.le_refl _)
      rw [hfull] at hlt0 ⊢
      have HSU := Lib.hid (show sumN (bs s) = 4294967295 - sumK (bs s) 4294967295 from rfl)
      generalize sumK (bs s) 4294967295 = c0 at *
      have hnot := bits_not32 c0 hlt0
      have hw : wrap64 (((4294967295 - c0 : Nat) : Int)) = ((4294967295 - c0 : Nat) : Int) := by unfold wrap64; omega
      generalize hd : 4294967295 - c0 = d at *
      clear hfull hd
      go_wp2
      go_ret
      exact ⟨by rw [HSU.out]; rfl, rfl⟩
end Go.Proofs.YtchgpijfebilbaaGreatDoor

/- wire.Encode: a transaction's bytes. -/
namespace Go.Proofs.YtchgpijfebilbaaGreatDoor
open Go.RowKit Go.ChangeShapes Go.WideShapes Go.ChangeAt
def headL (B : List UInt8) : List UInt8 := [84] ++ be 2 B.length ++ B
def recL (B : List UInt8) : List UInt8 := headL B ++ be 4 (sumN (headL B))
def bodyL (z o s v ow : Nat) (p d : List UInt8) : List UInt8 := be 8 z ++ [UInt8.ofNat o] ++ be 4 s ++ be 4 v ++ be 4 ow ++ [UInt8.ofNat p.length] ++ p ++ be 2 d.length ++ d
theorem bodyL_length (z o s v ow : Nat) (p d : List UInt8) : (bodyL z o s v ow p d).length = 24 + p.length + d.length := by
  simp [bodyL, be_length]
  omega
theorem sumN_lt (l : List UInt8) : sumN l < 4294967296 := by unfold sumN; omega
theorem str_snoc (S : ByteArray) (l : List UInt8) : S ++ (⟨l.toArray⟩ : ByteArray) = ⟨(bs S ++ l).toArray⟩ := by
  apply ByteArray.ext
  simp [bs]
set_option maxRecDepth 100000 in
set_option maxHeartbeats 600000 in
theorem encode_walk (z o s v ow : Nat) (p d : ByteArray) (w : World) (hg : goodT ⟨z, o, s, p, d, v, ow⟩ = 0) (hz : z < 4611686018427387904) (ho : o < 6) (hs : s < 2147483648) (hv : v < 2147483648) (how : ow < 2147483648) (hp : p.size ≤ 200) (hd : d.size ≤ 256) :
    Calls Tryz.prog 69 #[.agg #[.int .i64 z, .int .i64 o, .int .i64 s, .string p, .string d, .int .i64 v, .int .i64 ow]] w fun e w' => e = .returned (.tuple #[.string ⟨(recL (bodyL z o s v ow (bs p) (bs d))).toArray⟩, .int .i64 0]) ∧ Below w.heap.size w w' := by
  have HG := Lib.hid (fun w => tgood_any ⟨z, o, s, p, d, v, ow⟩ w (by show p.size ≤ _; omega))
  rw [hg] at HG
  clear hg
  go_enter Tryz.func69, Tryz.ntmps69
  go_wp2_with (first | (go_at_call 42; refine (HG.out _).mono ?_; rintro e w1 ⟨rfl, hb1⟩; obtain ⟨ext1, d1, rfl⟩ := Below.grown_eq _ hb1; clear hb1 HG) | (go_at_call 91; refine (put_any (World.alloc w _) _ [] z 8 _ (by exact (by repeat (first | exact bA .. | assumption | refine bB ?_ | refine bC ?_ _ | refine bD _ _ ?_ | refine bE _ ?_ | refine bG ?_ (by first | omega | (simp; done) | (simp; omega)) _ | refine Below.setCell ?_ (by first | omega | (simp; done) | (simp; omega)) _ | refine Below.grow _ _ _ ?_ (by first | omega | (simp; done) | (simp; omega))))) (by exact Ow.nil _ _ _ _ _) (by omega) (by omega) (by simp)).mono ?_; rintro e w1 ⟨A2, c2, rfl, ho2, hb2⟩; obtain ⟨ext2, d2, rfl⟩ := Below.grown_eq _ hb2; have HO2 := Lib.hid ho2; clear ho2 hb2))
  have e1 : (World.alloc w (.cells #[.int .i64 z, .int .i64 o, .int .i64 s, .string p, .string d, .int .i64 v, .int .i64 ow] 53)).cell? ⟨w.heap.size, 1, none⟩ = some (.int .i64 o) := by go_simp
  have e2 : (World.alloc w (.cells #[.int .i64 z, .int .i64 o, .int .i64 s, .string p, .string d, .int .i64 v, .int .i64 ow] 53)).cell? ⟨w.heap.size, 2, none⟩ = some (.int .i64 s) := by go_simp
  have e3 : (World.alloc w (.cells #[.int .i64 z, .int .i64 o, .int .i64 s, .string p, .string d, .int .i64 v, .int .i64 ow] 53)).cell? ⟨w.heap.size, 3, none⟩ = some (.string p) := by go_simp
  have e4 : (World.alloc w (.cells #[.int .i64 z, .int .i64 o, .int .i64 s, .string p, .string d, .int .i64 v, .int .i64 ow] 53)).cell? ⟨w.heap.size, 4, none⟩ = some (.string d) := by go_simp
  have e5 : (World.alloc w (.cells #[.int .i64 z, .int .i64 o, .int .i64 s, .string p, .string d, .int .i64 v, .int .i64 ow] 53)).cell? ⟨w.heap.size, 5, none⟩ = some (.int .i64 v) := by go_simp
  have e6 : (World.alloc w (.cells #[.int .i64 z, .int .i64 o, .int .i64 s, .string p, .string d, .int .i64 v, .int .i64 ow] 53)).cell? ⟨w.heap.size, 6, none⟩ = some (.int .i64 ow) := by go_simp
  have hB1 : Below w.heap.size w (World.alloc w (.cells #[.int .i64 z, .int .i64 o, .int .i64 s, .string p, .string d, .int .i64 v, .int .i64 ow] 53)) := (by repeat (first | exact bA .. | assumption | refine bB ?_ | refine bC ?_ _ | refine bD _ _ ?_ | refine bE _ ?_ | refine bG ?_ (by first | omega | (simp; done) | (simp; omega)) _ | refine Below.setCell ?_ (by first | omega | (simp; done) | (simp; omega)) _ | refine Below.grow _ _ _ ?_ (by first | omega | (simp; done) | (simp; omega))))
  have HB1 := Lib.hid hB1
  have HBW := Lib.hid hB1.size
  clear hB1
  generalize World.alloc w (.cells #[.int .i64 z, .int .i64 o, .int .i64 s, .string p, .string d, .int .i64 v, .int .i64 ow] 53) = W1 at *
  generalize hbw : w.heap.size = b at *
  have HBE := Lib.hid hbw
  clear hbw
  rw [List.nil_append] at *
  have HLZ := Lib.hid (be_length 8 z)
  have HL2 := Lib.hid (show (be 8 z).length = 8 from be_length 8 z)
  generalize hL2 : be 8 z = L2 at *
  have HE2 := Lib.hid hL2
  clear hL2
  have HB0 := Lib.hid (show [Value.int .u8 ((o : Int) % 256)] = cByte (UInt8.ofNat o) from by simp [cByte])
  have HB1' := Lib.hid (show [Value.int .u8 ((p.size : Int) % 256)] = cByte (UInt8.ofNat p.size) from by simp [cByte])
  have P4 := Lib.hid (put_any W1)
  have P5 := Lib.hid (put_any W1)
  have P6 := Lib.hid (put_any W1)
  have P9 := Lib.hid (put_any W1)
  have P11 := Lib.hid (put_any W1)
  have P13 := Lib.hid (put_any W1)
  go_region_held3 (fun w' => w'.cell? ⟨b, 1, none⟩ = some (.int .i64 o) ∧ w'.cell? ⟨b, 2, none⟩ = some (.int .i64 s)) ((refine ⟨?_, ?_⟩ <;> go_simp)) (first | (refine step_app _ rfl (.tmp 16) (.tmp 20) _ rfl elByte (B := W1.heap.size) (v := .slice A2 L2.length c2) (l := L2) (m := [UInt8.ofNat o]) rfl rfl (by exact (HO2.out.below (by repeat (first | exact bA .. | exact below_regrow _ _ _ _ | assumption | refine bB ?_ | refine bC ?_ _ | refine bD _ _ ?_ | refine bE _ ?_ | refine bG ?_ (by first | omega | (simp; done) | (simp; omega)) _ | refine Below.setCell ?_ (by first | omega | (simp; done) | (simp; omega)) _ | refine Below.grow _ _ _ ?_ (by first | omega | (simp; done) | (simp; omega)))))) (by exact Sl.one_at cByte 1 _ _ _ rfl _ (by exact HB0.out) (by omega) (by simp)) cByte_ones (by simp [HL2.out, maxLen] <;> omega) (by simp [HL2.out] <;> omega) (by simp <;> omega) ?_; intro v3 w3 hown3 hg3 _; obtain ⟨A3, c3, rfl, _⟩ := hown3.form; obtain ⟨ext3, d3, rfl⟩ := grown_after (W := W1) (by repeat (first | exact bA .. | exact below_regrow _ _ _ _ | assumption | refine bB ?_ | refine bC ?_ _ | refine bD _ _ ?_ | refine bE _ ?_ | refine bG ?_ (by first | omega | (simp; done) | (simp; omega)) _ | refine Below.setCell ?_ (by first | omega | (simp; done) | (simp; omega)) _ | refine Below.grow _ _ _ ?_ (by first | omega | (simp; done) | (simp; omega)))) hg3 (fun k hk => (HO2.out.own_in hk).1); have HO3 := Lib.hid hown3; clear hown3 hg3; have HL3 := Lib.hid (show (L2 ++ [UInt8.ofNat o]).length = 9 by simp [HL2.out]); generalize hE3 : L2 ++ [UInt8.ofNat o] = L3 at *; have HE3 := Lib.hid hE3; clear hE3) | (go_at_call 91; (refine (P4.out _ L3 s 4 _ (by exact (by repeat (first | exact bA .. | exact below_regrow _ _ _ _ | assumption | refine bB ?_ | refine bC ?_ _ | refine bD _ _ ?_ | refine bE _ ?_ | refine bG ?_ (by first | omega | (simp; done) | (simp; omega)) _ | refine Below.setCell ?_ (by first | omega | (simp; done) | (simp; omega)) _ | refine Below.grow _ _ _ ?_ (by first | omega | (simp; done) | (simp; omega))))) (by exact HO3.out.below (by repeat (first | exact bA .. | exact below_regrow _ _ _ _ | assumption | refine bB ?_ | refine bC ?_ _ | refine bD _ _ ?_ | refine bE _ ?_ | refine bG ?_ (by first | omega | (simp; done) | (simp; omega)) _ | refine Below.setCell ?_ (by first | omega | (simp; done) | (simp; omega)) _ | refine Below.grow _ _ _ ?_ (by first | omega | (simp; done) | (simp; omega))))) (by omega) (by omega) (by rw [HL3.out]; omega)).mono ?_); rintro e w4 ⟨A4, c4, rfl, ho4, hb4⟩; obtain ⟨ext4, d4, rfl⟩ := Below.grown_eq _ hb4; have HO4 := Lib.hid ho4; clear ho4 hb4 P4; have HL4 := Lib.hid (show (L3 ++ be 4 s).length = 13 by rw [List.length_append, HL3.out, be_length] <;> omega); generalize hE4 : L3 ++ be 4 s = L4 at *; have HE4 := Lib.hid hE4; clear hE4))
  go_wp2_with fail
  go_region_held3 (fun w' => w'.cell? ⟨b, 5, none⟩ = some (.int .i64 v) ∧ w'.cell? ⟨b, 6, none⟩ = some (.int .i64 ow)) ((refine ⟨?_, ?_⟩ <;> go_simp)) (first | (go_at_call 91; (refine (P5.out _ L4 v 4 _ (by exact (by repeat (first | exact bA .. | exact below_regrow _ _ _ _ | assumption | refine bB ?_ | refine bC ?_ _ | refine bD _ _ ?_ | refine bE _ ?_ | refine bG ?_ (by first | omega | (simp; done) | (simp; omega)) _ | refine Below.setCell ?_ (by first | omega | (simp; done) | (simp; omega)) _ | refine Below.grow _ _ _ ?_ (by first | omega | (simp; done) | (simp; omega))))) (by exact HO4.out.below (by repeat (first | exact bA .. | exact below_regrow _ _ _ _ | assumption | refine bB ?_ | refine bC ?_ _ | refine bD _ _ ?_ | refine bE _ ?_ | refine bG ?_ (by first | omega | (simp; done) | (simp; omega)) _ | refine Below.setCell ?_ (by first | omega | (simp; done) | (simp; omega)) _ | refine Below.grow _ _ _ ?_ (by first | omega | (simp; done) | (simp; omega))))) (by omega) (by omega) (by rw [HL4.out]; omega)).mono ?_); rintro e w5 ⟨A5, c5, rfl, ho5, hb5⟩; obtain ⟨ext5, d5, rfl⟩ := Below.grown_eq _ hb5; have HO5 := Lib.hid ho5; clear ho5 hb5 P5; have HL5 := Lib.hid (show (L4 ++ be 4 v).length = 17 by rw [List.length_append, HL4.out, be_length] <;> omega); generalize hE5 : L4 ++ be 4 v = L5 at *; have HE5 := Lib.hid hE5; clear hE5) | (go_at_call 91; (refine (P6.out _ L5 ow 4 _ (by exact (by repeat (first | exact bA .. | exact below_regrow _ _ _ _ | assumption | refine bB ?_ | refine bC ?_ _ | refine bD _ _ ?_ | refine bE _ ?_ | refine bG ?_ (by first | omega | (simp; done) | (simp; omega)) _ | refine Below.setCell ?_ (by first | omega | (simp; done) | (simp; omega)) _ | refine Below.grow _ _ _ ?_ (by first | omega | (simp; done) | (simp; omega))))) (by exact HO5.out.below (by repeat (first | exact bA .. | exact below_regrow _ _ _ _ | assumption | refine bB ?_ | refine bC ?_ _ | refine bD _ _ ?_ | refine bE _ ?_ | refine bG ?_ (by first | omega | (simp; done) | (simp; omega)) _ | refine Below.setCell ?_ (by first | omega | (simp; done) | (simp; omega)) _ | refine Below.grow _ _ _ ?_ (by first | omega | (simp; done) | (simp; omega))))) (by omega) (by omega) (by rw [HL5.out]; omega)).mono ?_); rintro e w6 ⟨A6, c6, rfl, ho6, hb6⟩; obtain ⟨ext6, d6, rfl⟩ := Below.grown_eq _ hb6; have HO6 := Lib.hid ho6; clear ho6 hb6 P6; have HL6 := Lib.hid (show (L5 ++ be 4 ow).length = 21 by rw [List.length_append, HL5.out, be_length] <;> omega); generalize hE6 : L5 ++ be 4 ow = L6 at *; have HE6 := Lib.hid hE6; clear hE6))
  go_upto_region 7 with (fail)
  go_region_held3 (fun w' => w'.cell? ⟨b, 3, none⟩ = some (.string p)) (go_simp) (first | (refine step_app _ rfl (.tmp 32) (.tmp 37) _ rfl elByte (B := W1.heap.size) (v := .slice A6 L6.length c6) (l := L6) (m := [UInt8.ofNat p.size]) rfl rfl (by exact (HO6.out.below (by repeat (first | exact bA .. | exact below_regrow _ _ _ _ | assumption | refine bB ?_ | refine bC ?_ _ | refine bD _ _ ?_ | refine bE _ ?_ | refine bG ?_ (by first | omega | (simp; done) | (simp; omega)) _ | refine Below.setCell ?_ (by first | omega | (simp; done) | (simp; omega)) _ | refine Below.grow _ _ _ ?_ (by first | omega | (simp; done) | (simp; omega)))))) (by exact Sl.one_at cByte 1 _ _ _ rfl _ (by exact HB1'.out) (by omega) (by simp)) cByte_ones (by simp [HL6.out, maxLen] <;> omega) (by simp [HL6.out] <;> omega) (by simp <;> omega) ?_; intro v7 w7 hown7 hg7 _; obtain ⟨A7, c7, rfl, _⟩ := hown7.form; obtain ⟨ext7, d7, rfl⟩ := grown_after (W := W1) (by repeat (first | exact bA .. | exact below_regrow _ _ _ _ | assumption | refine bB ?_ | refine bC ?_ _ | refine bD _ _ ?_ | refine bE _ ?_ | refine bG ?_ (by first | omega | (simp; done) | (simp; omega)) _ | refine Below.setCell ?_ (by first | omega | (simp; done) | (simp; omega)) _ | refine Below.grow _ _ _ ?_ (by first | omega | (simp; done) | (simp; omega)))) hg7 (fun k hk => (HO6.out.own_in hk).1); have HO7 := Lib.hid hown7; clear hown7 hg7; have HL7 := Lib.hid (show (L6 ++ [UInt8.ofNat p.size]).length = 22 by simp [HL6.out]); generalize hE7 : L6 ++ [UInt8.ofNat p.size] = L7 at *; have HE7 := Lib.hid hE7; clear hE7) | (refine step_apps _ rfl (.tmp 38) (.tmp 40) _ _ rfl elByte rfl Tryz.underlying9 (B := W1.heap.size) (v := .slice A7 L7.length c7) (l := L7) p rfl rfl (by exact (HO7.out.below (by repeat (first | exact bA .. | exact below_regrow _ _ _ _ | assumption | refine bB ?_ | refine bC ?_ _ | refine bD _ _ ?_ | refine bE _ ?_ | refine bG ?_ (by first | omega | (simp; done) | (simp; omega)) _ | refine Below.setCell ?_ (by first | omega | (simp; done) | (simp; omega)) _ | refine Below.grow _ _ _ ?_ (by first | omega | (simp; done) | (simp; omega)))))) (by simp [HL7.out, maxLen] <;> omega) (by simp [HL7.out] <;> omega) (by simp <;> omega) ?_; intro v8 w8 hown8 hg8; obtain ⟨A8, c8, rfl, _⟩ := hown8.form; obtain ⟨ext8, d8, rfl⟩ := grown_after (W := W1) (by repeat (first | exact bA .. | exact below_regrow _ _ _ _ | assumption | refine bB ?_ | refine bC ?_ _ | refine bD _ _ ?_ | refine bE _ ?_ | refine bG ?_ (by first | omega | (simp; done) | (simp; omega)) _ | refine Below.setCell ?_ (by first | omega | (simp; done) | (simp; omega)) _ | refine Below.grow _ _ _ ?_ (by first | omega | (simp; done) | (simp; omega)))) hg8 (fun k hk => (HO7.out.own_in hk).1); have HO8 := Lib.hid hown8; clear hown8 hg8; have HL8 := Lib.hid (show (L7 ++ bs p).length = 22 + p.size by rw [List.length_append, HL7.out, length_bs] <;> omega); generalize hE8 : L7 ++ bs p = L8 at *; have HE8 := Lib.hid hE8; clear hE8))
  go_upto_region 8 with (fail)
  go_region_held3 (fun w' => w'.cell? ⟨b, 4, none⟩ = some (.string d)) (go_simp) (first | (go_at_call 91; (refine (P9.out _ L8 d.size 2 _ (by exact (by repeat (first | exact bA .. | exact below_regrow _ _ _ _ | assumption | refine bB ?_ | refine bC ?_ _ | refine bD _ _ ?_ | refine bE _ ?_ | refine bG ?_ (by first | omega | (simp; done) | (simp; omega)) _ | refine Below.setCell ?_ (by first | omega | (simp; done) | (simp; omega)) _ | refine Below.grow _ _ _ ?_ (by first | omega | (simp; done) | (simp; omega))))) (by exact HO8.out.below (by repeat (first | exact bA .. | exact below_regrow _ _ _ _ | assumption | refine bB ?_ | refine bC ?_ _ | refine bD _ _ ?_ | refine bE _ ?_ | refine bG ?_ (by first | omega | (simp; done) | (simp; omega)) _ | refine Below.setCell ?_ (by first | omega | (simp; done) | (simp; omega)) _ | refine Below.grow _ _ _ ?_ (by first | omega | (simp; done) | (simp; omega))))) (by omega) (by omega) (by rw [HL8.out]; omega)).mono ?_); rintro e w9 ⟨A9, c9, rfl, ho9, hb9⟩; obtain ⟨ext9, d9, rfl⟩ := Below.grown_eq _ hb9; have HO9 := Lib.hid ho9; clear ho9 hb9 P9; have HL9 := Lib.hid (show (L8 ++ be 2 d.size).length = 24 + p.size by rw [List.length_append, HL8.out, be_length] <;> omega); generalize hE9 : L8 ++ be 2 d.size = L9 at *; have HE9 := Lib.hid hE9; clear hE9) | (refine step_apps _ rfl (.tmp 46) (.tmp 48) _ _ rfl elByte rfl Tryz.underlying9 (B := W1.heap.size) (v := .slice A9 L9.length c9) (l := L9) d rfl rfl (by exact (HO9.out.below (by repeat (first | exact bA .. | exact below_regrow _ _ _ _ | assumption | refine bB ?_ | refine bC ?_ _ | refine bD _ _ ?_ | refine bE _ ?_ | refine bG ?_ (by first | omega | (simp; done) | (simp; omega)) _ | refine Below.setCell ?_ (by first | omega | (simp; done) | (simp; omega)) _ | refine Below.grow _ _ _ ?_ (by first | omega | (simp; done) | (simp; omega)))))) (by simp [HL9.out, maxLen] <;> omega) (by simp [HL9.out] <;> omega) (by simp <;> omega) ?_; intro v10 w10 hown10 hg10; obtain ⟨A10, c10, rfl, _⟩ := hown10.form; obtain ⟨ext10, d10, rfl⟩ := grown_after (W := W1) (by repeat (first | exact bA .. | exact below_regrow _ _ _ _ | assumption | refine bB ?_ | refine bC ?_ _ | refine bD _ _ ?_ | refine bE _ ?_ | refine bG ?_ (by first | omega | (simp; done) | (simp; omega)) _ | refine Below.setCell ?_ (by first | omega | (simp; done) | (simp; omega)) _ | refine Below.grow _ _ _ ?_ (by first | omega | (simp; done) | (simp; omega)))) hg10 (fun k hk => (HO9.out.own_in hk).1); have HO10 := Lib.hid hown10; clear hown10 hg10; have HL10 := Lib.hid (show (L9 ++ bs d).length = 24 + p.size + d.size by rw [List.length_append, HL9.out, length_bs] <;> omega); generalize hE10 : L9 ++ bs d = L10 at *; have HE10 := Lib.hid hE10; clear hE10))
  have P11 := Lib.hid (put_any (grow W1 ext10 d10))
  have HSUM := Lib.hid (fun (s : ByteArray) (w : World) (h : s.size ≤ 9223372036854775807) => show Calls Tryz.prog 92 #[.string s] w fun e w' => ∃ n : Nat, e = .returned (.int .i64 n) ∧ n < 4294967296 ∧ Hid (sumN (bs s) = n) ∧ w = w' from (sum_any s w h).mono fun e w' h => ⟨_, h.1, sumN_lt _, Lib.hid rfl, h.2⟩)
  go_upto_region 11 with (first | (go_at_call 91; (refine (P11.out _ [84] L10.length 2 _ (by exact (by repeat (first | exact bA .. | exact below_regrow _ _ _ _ | assumption | refine bB ?_ | refine bC ?_ _ | refine bD _ _ ?_ | refine bE _ ?_ | refine bG ?_ (by first | omega | (simp; done) | (simp; omega)) _ | refine Below.setCell ?_ (by first | omega | (simp; done) | (simp; omega)) _ | refine Below.grow _ _ _ ?_ (by first | omega | (simp; done) | (simp; omega))))) (by exact ow_lit1 _ _ _ (by simp) (by simp)) (by rw [HL10.out]; omega) (by omega) (by simp)).mono ?_); rintro e w11 ⟨A11, c11, rfl, ho11, hb11⟩; have HO10b := Lib.hid (HO10.out.below (Below.own (by repeat (first | exact bA .. | exact below_regrow _ _ _ _ | assumption | refine bB ?_ | refine bC ?_ _ | refine bD _ _ ?_ | refine bE _ ?_ | refine bG ?_ (by first | omega | (simp; done) | (simp; omega)) _ | refine Below.setCell ?_ (by first | omega | (simp; done) | (simp; omega)) _ | refine Below.grow _ _ _ ?_ (by first | omega | (simp; done) | (simp; omega)))) hb11)); obtain ⟨ext11, d11, rfl⟩ := Below.grown_eq (grow W1 ext10 d10) hb11; have HO11 := Lib.hid ho11; clear ho11 hb11 P11; have HL11 := Lib.hid (show ([84] ++ be 2 L10.length).length = 3 by simp [be_length]); generalize hE11 : [84] ++ be 2 L10.length = L11 at *; have HE11 := Lib.hid hE11; clear hE11) | (at_builtin; go_must (refine wpList_app _ rfl (.tmp 54) (.tmp 55) _ rfl elByte (B := (grow W1 ext10 d10).heap.size) (v := .slice A11 L11.length c11) (l := L11) (m := L10) rfl rfl (by exact (HO11.out.below (by repeat (first | exact bA .. | exact below_regrow _ _ _ _ | assumption | refine bB ?_ | refine bC ?_ _ | refine bD _ _ ?_ | refine bE _ ?_ | refine bG ?_ (by first | omega | (simp; done) | (simp; omega)) _ | refine Below.setCell ?_ (by first | omega | (simp; done) | (simp; omega)) _ | refine Below.grow _ _ _ ?_ (by first | omega | (simp; done) | (simp; omega)))))) (by exact (HO10b.out.below (by repeat (first | exact bA .. | exact below_regrow _ _ _ _ | assumption | refine bB ?_ | refine bC ?_ _ | refine bD _ _ ?_ | refine bE _ ?_ | refine bG ?_ (by first | omega | (simp; done) | (simp; omega)) _ | refine Below.setCell ?_ (by first | omega | (simp; done) | (simp; omega)) _ | refine Below.grow _ _ _ ?_ (by first | omega | (simp; done) | (simp; omega))))).sl) cByte_ones (by simp [HL11.out, HL10.out, maxLen] <;> omega) (by simp [HL11.out, HL10.out] <;> omega) (by simp <;> omega) ?_); intro v12 w12 hown12 hg12 _; obtain ⟨A12, c12, rfl, _⟩ := hown12.form; obtain ⟨ext12, d12, rfl⟩ := grown_after (W := W1) (by repeat (first | exact bA .. | exact below_regrow _ _ _ _ | assumption | refine bB ?_ | refine bC ?_ _ | refine bD _ _ ?_ | refine bE _ ?_ | refine bG ?_ (by first | omega | (simp; done) | (simp; omega)) _ | refine Below.setCell ?_ (by first | omega | (simp; done) | (simp; omega)) _ | refine Below.grow _ _ _ ?_ (by first | omega | (simp; done) | (simp; omega)))) hg12 (fun k hk => Nat.le_trans (by simp) (HO11.out.own_in hk).1); have HO12 := Lib.hid hown12; clear hown12 hg12; have HL12 := Lib.hid (show (L11 ++ L10).length = 27 + p.size + d.size by rw [List.length_append, HL11.out, HL10.out]; omega); generalize hE12 : L11 ++ L10 = L12 at *; have HE12 := Lib.hid hE12; clear hE12; have hrow12 := run_row_text (P := Tryz.prog) (src := 147) (dst := 9) (HO12.out) Tryz.underlying147 Tryz.underlying5 Tryz.underlying9))
  have HB2 := Lib.hid (show Below b w (grow W1 ext12 d12) from HB1.out.trans (Below.mono (show Below W1.heap.size W1 (grow W1 ext12 d12) from (by repeat (first | exact bA .. | assumption | refine bB ?_ | refine bC ?_ _ | refine bD _ _ ?_ | refine bE _ ?_ | refine bG ?_ (by first | omega | (simp; done) | (simp; omega)) _ | refine Below.setCell ?_ (by first | omega | (simp; done) | (simp; omega)) _ | refine Below.grow _ _ _ ?_ (by first | omega | (simp; done) | (simp; omega))))) HBW.out))
  have HS12 := Lib.hid (show (⟨L12.toArray⟩ : ByteArray).size = 27 + p.size + d.size by show L12.toArray.size = _; rw [List.size_toArray, HL12.out])
  have HT12 := Lib.hid (show bs (⟨L12.toArray⟩ : ByteArray) = L12 from rfl)
  have HW2 := Lib.hid (show W1.heap.size ≤ (grow W1 ext12 d12).heap.size by simp)
  clear HO2 HO3 HO4 HO5 HO6 HO7 HO8 HO9 HO10 HO10b HO11 HO12 hrow12 HB0 HB1' P13 HB1 e1 e2 e3 e4 e5 e6
  generalize grow W1 ext12 d12 = W2 at *
  generalize (⟨L12.toArray⟩ : ByteArray) = S12 at *
  have P13 := Lib.hid (put_any W2)
  go_wp2_with (first | (go_at_call 92; go_must (refine (HSUM.out S12 _ (by rw [HS12.out]; omega)).mono ?_); rintro e w13 ⟨sm, rfl, hsm, HSM, rfl⟩) | (go_at_call 91; (refine (P13.out _ [] (sm) 4 _ (by exact (by repeat (first | exact bA .. | exact below_regrow _ _ _ _ | assumption | refine bB ?_ | refine bC ?_ _ | refine bD _ _ ?_ | refine bE _ ?_ | refine bG ?_ (by first | omega | (simp; done) | (simp; omega)) _ | refine Below.setCell ?_ (by first | omega | (simp; done) | (simp; omega)) _ | refine Below.grow _ _ _ ?_ (by first | omega | (simp; done) | (simp; omega))))) (by exact Ow.nil _ _ _ _ _) (by omega) (by omega) (by simp)).mono ?_); rintro e w14 ⟨A13, c13, rfl, ho13, hb13⟩; obtain ⟨ext13, d13, rfl⟩ := Below.grown_eq _ hb13; rw [List.nil_append] at ho13; have HO13 := Lib.hid ho13; clear ho13 hb13 P13; have HL13 := Lib.hid (show (be 4 (sm)).length = 4 by exact be_length _ _); generalize hE13 : be 4 (sm) = L13 at *; have HE13 := Lib.hid hE13; clear hE13; have hrow13 := run_row_text (P := Tryz.prog) (src := 147) (dst := 9) (HO13.out) Tryz.underlying147 Tryz.underlying5 Tryz.underlying9; have hS13 : (⟨L13.toArray⟩ : ByteArray).size = 4 := (show L13.toArray.size = 4 by rw [List.size_toArray, HL13.out]); have hS12 : S12.size = 27 + p.size + d.size := HS12.out))
  go_ret2
  refine ⟨?_, ?_⟩
  · have h10 : L10 = bodyL z o s v ow (bs p) (bs d) := by
      rw [← HE10.out, ← HE9.out, ← HE8.out, ← HE7.out, ← HE6.out, ← HE5.out, ← HE4.out, ← HE3.out, ← HE2.out]
      unfold bodyL
      rw [length_bs, length_bs]
    have h12 : L12 = headL (bodyL z o s v ow (bs p) (bs d)) := by
      rw [← HE12.out, ← HE11.out, h10]; rfl
    have e : S12 ++ (⟨L13.toArray⟩ : ByteArray) = ⟨(recL (bodyL z o s v ow (bs p) (bs d))).toArray⟩ := by
      rw [str_snoc, HT12.out, ← HE13.out, ← HSM.out, HT12.out, h12]; rfl
    rw [← e]
    rfl
  · rw [HBE.out]
    exact HB2.out.trans (Below.mono (show Below W2.heap.size W2 _ from (by repeat (first | exact bA .. | assumption | refine bB ?_ | refine bC ?_ _ | refine bD _ _ ?_ | refine bE _ ?_ | refine bG ?_ (by first | omega | (simp; done) | (simp; omega)) _ | refine Below.setCell ?_ (by first | omega | (simp; done) | (simp; omega)) _ | refine Below.grow _ _ _ ?_ (by first | omega | (simp; done) | (simp; omega))))) (Nat.le_trans HBW.out HW2.out))
end Go.Proofs.YtchgpijfebilbaaGreatDoor

/- wire.Encode: the contract for every transaction. -/
namespace Go.Proofs.YtchgpijfebilbaaGreatDoor
open Go.RowKit Go.ChangeShapes Go.WideShapes Go.ChangeAt
abbrev vTxn (t : Txn) : Value := .agg #[.int .i64 t.zxid, .int .i64 t.op, .int .i64 t.session, .string t.path, .string t.data, .int .i64 t.version, .int .i64 t.owner]
def recT (t : Txn) : List UInt8 := recL (bodyL t.zxid.toNat t.op.toNat t.session.toNat t.version.toNat t.owner.toNat (bs t.path) (bs t.data))
def encR (t : Txn) : ByteArray := if goodT t = 0 then ⟨(recT t).toArray⟩ else ⟨#[]⟩
structure GoodF (t : Txn) : Prop where
  z0 : 0 ≤ t.zxid
  z1 : t.zxid < 4611686018427387904
  o0 : 1 ≤ t.op
  o1 : t.op ≤ 5
  s0 : 1 ≤ t.session
  s1 : t.session ≤ 2147483647
  v0 : 0 ≤ t.version
  v1 : t.version ≤ 2147483647
  w0 : 0 ≤ t.owner
  w1 : t.owner ≤ 2147483647
  d1 : t.data.size ≤ 256
  p1 : t.path.size ≤ 200
theorem goodT_facts (t : Txn) (h : goodT t = 0) : GoodF t := by
  unfold goodT at h
  split at h
  · exact absurd h (by decide)
  rename_i a1
  split at h
  · exact absurd h (by decide)
  rename_i a2
  split at h
  · exact absurd h (by decide)
  rename_i a3
  split at h
  · exact absurd h (by decide)
  rename_i a4
  split at h
  · exact absurd h (by decide)
  rename_i a5
  clear h
  refine ⟨by omega, by omega, by omega, by omega, by omega, by omega, by omega, by omega, by omega, by omega, by omega, ?_⟩
  by_cases h2 : t.op ≤ 2
  · have h3 : t.path.toList = [] := by
      rcases Classical.em (t.path.toList = []) with e | e
      · exact e
      · exact absurd ⟨h2, .inl e⟩ a4
    rw [ByteArray.toList_eq] at h3
    have h4 := length_bs t.path
    unfold bs at h4
    rw [h3] at h4
    simp at h4
    omega
  · have h3 : goodP t.path = true := by
      cases e : goodP t.path with
      | true => rfl
      | false => exact absurd ⟨by omega, .inl e⟩ a5
    exact (goodP_size h3).2
set_option maxHeartbeats 600000 in
theorem encode_no (t : Txn) (w : World) (hp : t.path.size ≤ 9223372036854775807) (hg : goodT t ≠ 0) :
    Calls Tryz.prog 69 #[vTxn t] w fun e w' => e = .returned (.tuple #[.string ⟨#[]⟩, .int .i64 (goodT t)]) ∧ Below w.heap.size w w' := by
  have HG := Lib.hid (fun w => tgood_any t w hp)
  have hne : (goodT t != 0) = true := bne_iff_ne.2 hg
  generalize goodT t = g at *
  clear hg
  obtain ⟨z, o, s, p, d, v, ow⟩ := t
  dsimp only at *
  go_enter Tryz.func69, Tryz.ntmps69
  go_wp2_with (go_at_call 42; refine (HG.out _).mono ?_; rintro e w1 ⟨rfl, hb1⟩; obtain ⟨ext1, d1, rfl⟩ := Below.grown_eq _ hb1; clear hb1 HG)
  go_ret2
  exact ⟨rfl, (by repeat (first | exact bA .. | assumption | refine bB ?_ | refine bC ?_ _ | refine bD _ _ ?_ | refine bE _ ?_ | refine bG ?_ (by first | omega | (simp; done) | (simp; omega)) _ | refine Below.setCell ?_ (by first | omega | (simp; done) | (simp; omega)) _ | refine Below.grow _ _ _ ?_ (by first | omega | (simp; done) | (simp; omega))))⟩
theorem encode_any (t : Txn) (w : World) (hp : t.path.size ≤ 9223372036854775807) :
    Calls Tryz.prog 69 #[vTxn t] w fun e w' => e = .returned (.tuple #[.string (encR t), .int .i64 (goodT t)]) ∧ Below w.heap.size w w' := by
  by_cases hg : goodT t = 0
  · obtain ⟨z0, z1, o0, o1, s0, s1, v0, v1, w0, w1, d1, p1⟩ := goodT_facts t hg
    have e : encR t = ⟨(recT t).toArray⟩ := if_pos hg
    rw [e, hg]
    unfold recT vTxn
    obtain ⟨z, o, s, p, d, v, ow⟩ := t
    dsimp only at *
    obtain ⟨z, rfl⟩ := Int.eq_ofNat_of_zero_le z0
    obtain ⟨o, rfl⟩ := Int.eq_ofNat_of_zero_le (show 0 ≤ o by omega)
    obtain ⟨s, rfl⟩ := Int.eq_ofNat_of_zero_le (show 0 ≤ s by omega)
    obtain ⟨v, rfl⟩ := Int.eq_ofNat_of_zero_le v0
    obtain ⟨ow, rfl⟩ := Int.eq_ofNat_of_zero_le w0
    exact encode_walk z o s v ow p d w hg (by omega) (by omega) (by omega) (by omega) (by omega) p1 d1
  · have e : encR t = ⟨#[]⟩ := if_neg hg
    rw [e]
    exact encode_no t w hp hg
end Go.Proofs.YtchgpijfebilbaaGreatDoor
