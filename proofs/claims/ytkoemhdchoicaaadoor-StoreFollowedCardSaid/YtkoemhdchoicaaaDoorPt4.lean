/- Lemmas for the statement: Disk7, Files2, Range, Split, Good, Path, PathB, PathC, PutB, Apps, Zxid, WGood. -/
import Derived.RangeFuncNested
import Derived.RangeFuncBound
import Derived.RangeFuncCalls
import Derived.RangeFuncLeaves
import Derived.Shelf.Abstract
import Derived.Shelf.RegionOpen
import Derived.OwnWalkIn
import Derived.TacticsInMore
import Derived.LoopNIn
import Derived.LoopIn
import Derived.Lib.IndexLaws
import Derived.Lib.LastIndexByte
import Derived.Lib.AppendStr
import Derived.Laws.BitsAllLaws
import Derived.Laws.BitsLemmas
import Derived.Test.YtkoemhdchoicaaaDoorPt1
import Derived.Test.YtkoemhdchoicaaaDoorPt2
import Derived.Test.YtkoemhdchoicaaaDoorPt3
/- package disk: Write. -/
namespace Go.Proofs.YtkoemhdchoicaaaDoor
open Go.RowKit Go.ChangeShapes Go.WideShapes Go.ChangeAt
def writeE (l : List File) (p s : ByteArray) : Int := if goodD l then (if named (bs p) then (if isK (l.map File.name) p then (if (fileAt l p).safe.size + (fileAt l p).tail.size + s.size ≤ 1048576 then 0 else 1) else (if 16 ≤ l.length then 6 else (if s.size ≤ 1048576 then 0 else 1))) else 2) else 3
def writeL (l : List File) (p s : ByteArray) : List File := if goodD l then (if named (bs p) then (if isK (l.map File.name) p then (if (fileAt l p).safe.size + (fileAt l p).tail.size + s.size ≤ 1048576 then l.set (posK (l.map File.name) p) ⟨(fileAt l p).name, (fileAt l p).safe, (fileAt l p).tail ++ s⟩ else []) else (if 16 ≤ l.length then [] else (if s.size ≤ 1048576 then l.take (posK (l.map File.name) p) ++ ⟨p, ⟨#[]⟩, s⟩ :: l.drop (posK (l.map File.name) p) else []))) else []) else []
/-- one cell of one file set anew -/
theorem set_tail {l : List File} {J : List Value} {k : Nat} {x : File} (hx : l[k]? = some x) (t : ByteArray) :
    (l.flatMap cFile ++ J).set (k * 3 + 2) (.string t) = (l.set k ⟨x.name, x.safe, t⟩).flatMap cFile ++ J := by
  rw [← set_file hx x.safe t]
  congr 1
  have hk : k < l.length := (List.getElem?_eq_some_iff.1 hx).1
  have hlen : (l.flatMap cFile).length = l.length * 3 := flatMap_length (fun y _ => rfl)
  have h0 : (l.flatMap cFile)[k * 3 + 1]? = some (.string x.safe) := flatMap_get (f := cFile) (s := 3) (fun y _ => rfl) hx rfl
  apply List.ext_getElem?
  intro i
  rw [List.getElem?_set]
  split
  · rename_i e
    subst e
    rw [if_pos (by rw [List.length_append]; omega), List.getElem?_append_left (by rw [hlen]; omega), h0]
  · rfl
def InsFs (l : List File) (W : World) (r : Ending) (w' : World) : Prop := ∃ A c ext d, r = .returned (.slice A l.length c) ∧ w' = grow W ext d ∧ Ow cFile 3 70 w' W.heap.size (.slice A l.length c) l
theorem insFile_in {L : List File} {W w1 : World} {v : Value} {k : Nat} {l : List File} {x : File} (hb1 : Below W.heap.size W w1) (hown : Ow cFile 3 70 w1 W.heap.size v l) (hk : k ≤ l.length) (hn : (l.length + 1) * 48 ≤ 140737488355328) (vb : Nat) (hvb : vb = w1.heap.size) (hL : L = l.take k ++ x :: l.drop k) :
    Calls Tryd.prog 47 #[v, .int .i64 k, .slice (some ⟨vb, 0, none⟩) 1 1] (w1.alloc (.cells #[.string x.name, .string x.safe, .string x.tail] 70)) (InsFs L W) := by
  subst hL
  have hb : Below W.heap.size W (w1.alloc (.cells #[.string x.name, .string x.safe, .string x.tail] 70)) := hb1.alloc hb1.size _
  have ho : Ow cFile 3 70 (w1.alloc (.cells #[.string x.name, .string x.safe, .string x.tail] 70)) W.heap.size v l := hown.alloc _
  refine (insFile v k l x _ W.heap.size vb ho hk ?_ ?_ hb.size hn).mono ?_
  · subst hvb
    have := heap_alloc_new w1 (.cells #[.string x.name, .string x.safe, .string x.tail] 70)
    exact this
  · intro hc
    have h2 := (hown.own_in hc).2
    omega
  · rintro r w' ⟨A, c, rfl, h1, h2, h3⟩
    have hl : (l.take k ++ x :: l.drop k).length = l.length + 1 := by simp; omega
    obtain ⟨ext, d, rfl⟩ := grown_after hb h2 (fun k hk => (hown.own_in hk).1)
    exact ⟨A, c, ext, d, by rw [hl], rfl, by rw [hl]; exact h1⟩
set_option maxHeartbeats 4000000 in
theorem dkWrite (v : Value) (l : List File) (p s : ByteArray) (w : World) (h : Sl cFile 3 w v l) (hz : ∀ x ∈ l, x.sized) (hp : p.size ≤ 9223372036854775807) (hs : s.size ≤ 140737488355328) :
    Calls Tryd.prog 33 #[.agg #[v], .string p, .string s] w (DkRes (writeL l p s) (writeE l p s) w) := by
  obtain ⟨A, c, rfl, hc1, hc2⟩ := h.form
  have H := Lib.hid h
  have HG := Lib.hid (fun (W : World) (hs : Sl cFile 3 W (.slice A l.length c) l) => dkGood _ l W hs hz)
  have HN := Lib.hid (fun (W : World) => named_any p W hp)
  unfold writeL writeE
  cases hg : goodD l with
  | false =>
    rw [hg] at HG
    clear h hz hg
    simp only [Bool.false_eq_true, if_false]
    go_enter Tryd.func33, Tryd.ntmps33
    go_wp2_with
      (first | (go_at_call 28; refine (HG.out _ (H.out.below (by repeat (first | exact Below.refl _ _ | assumption | refine Below.drew ?_ | refine Below.drewN' ?_ _ | refine below_grow0 _ _ ?_ | refine below_alloc0 _ ?_ | refine Below.alloc ?_ (by first | omega | (simp; done) | (simp; omega)) _ | refine Below.setCell ?_ (by first | omega | (simp; done) | (simp; omega)) _ | refine Below.grow _ _ _ ?_ (by first | omega | (simp; done) | (simp; omega)))))).mono ?_; rintro e w1 ⟨rfl, hb⟩; obtain ⟨ext, d, rfl⟩ := Below.grown_eq _ hb; clear hb) | (go_at_call 44; refine (HF.out _ _ (H.out.below (by repeat (first | exact Below.refl _ _ | assumption | refine Below.drew ?_ | refine Below.drewN' ?_ _ | refine below_grow0 _ _ ?_ | refine below_alloc0 _ ?_ | refine Below.alloc ?_ (by first | omega | (simp; done) | (simp; omega)) _ | refine Below.setCell ?_ (by first | omega | (simp; done) | (simp; omega)) _ | refine Below.grow _ _ _ ?_ (by first | omega | (simp; done) | (simp; omega)))))).mono ?_; rintro e w1 ⟨rfl, hb⟩; obtain ⟨ext2, d2, rfl⟩ := Below.grown_eq _ hb; clear hb) | (go_at_call 42; refine (HN.out _).mono ?_; rintro e w1 ⟨rfl, rfl⟩; skip))
    refine bodyPost_ret (v := .tuple #[.agg #[.slice none 0 0], .int .i64 3]) (by simp [results, Tryd.results33, go_sem]) rfl ⟨none, 0, rfl, Ow.nil _ _ _ _ _, (by repeat (first | exact Below.refl _ _ | assumption | refine Below.drew ?_ | refine Below.drewN' ?_ _ | refine below_grow0 _ _ ?_ | refine below_alloc0 _ ?_ | refine Below.alloc ?_ (by first | omega | (simp; done) | (simp; omega)) _ | refine Below.setCell ?_ (by first | omega | (simp; done) | (simp; omega)) _ | refine Below.grow _ _ _ ?_ (by first | omega | (simp; done) | (simp; omega))))⟩
  | true =>
    rw [hg] at HG
    have hl16 := goodD_len hg
    clear hg
    simp only [if_true]
    cases hnm : named (bs p) with
    | false =>
      rw [hnm] at HN
      clear h hz hnm
      simp only [Bool.false_eq_true, if_false]
      go_enter Tryd.func33, Tryd.ntmps33
      go_wp2_with
        (first | (go_at_call 28; refine (HG.out _ (H.out.below (by repeat (first | exact Below.refl _ _ | assumption | refine Below.drew ?_ | refine Below.drewN' ?_ _ | refine below_grow0 _ _ ?_ | refine below_alloc0 _ ?_ | refine Below.alloc ?_ (by first | omega | (simp; done) | (simp; omega)) _ | refine Below.setCell ?_ (by first | omega | (simp; done) | (simp; omega)) _ | refine Below.grow _ _ _ ?_ (by first | omega | (simp; done) | (simp; omega)))))).mono ?_; rintro e w1 ⟨rfl, hb⟩; obtain ⟨ext, d, rfl⟩ := Below.grown_eq _ hb; clear hb) | (go_at_call 44; refine (HF.out _ _ (H.out.below (by repeat (first | exact Below.refl _ _ | assumption | refine Below.drew ?_ | refine Below.drewN' ?_ _ | refine below_grow0 _ _ ?_ | refine below_alloc0 _ ?_ | refine Below.alloc ?_ (by first | omega | (simp; done) | (simp; omega)) _ | refine Below.setCell ?_ (by first | omega | (simp; done) | (simp; omega)) _ | refine Below.grow _ _ _ ?_ (by first | omega | (simp; done) | (simp; omega)))))).mono ?_; rintro e w1 ⟨rfl, hb⟩; obtain ⟨ext2, d2, rfl⟩ := Below.grown_eq _ hb; clear hb) | (go_at_call 42; refine (HN.out _).mono ?_; rintro e w1 ⟨rfl, rfl⟩; skip))
      refine bodyPost_ret (v := .tuple #[.agg #[.slice none 0 0], .int .i64 2]) (by simp [results, Tryd.results33, go_sem]) rfl ⟨none, 0, rfl, Ow.nil _ _ _ _ _, (by repeat (first | exact Below.refl _ _ | assumption | refine Below.drew ?_ | refine Below.drewN' ?_ _ | refine below_grow0 _ _ ?_ | refine below_alloc0 _ ?_ | refine Below.alloc ?_ (by first | omega | (simp; done) | (simp; omega)) _ | refine Below.setCell ?_ (by first | omega | (simp; done) | (simp; omega)) _ | refine Below.grow _ _ _ ?_ (by first | omega | (simp; done) | (simp; omega))))⟩
    | true =>
      rw [hnm] at HN
      clear hnm
      simp only [if_true]
      have hfind := fun (W : World) (v : Value) (hs : Sl cFile 3 W v l) => dkFind v l p W hs (by omega)
      cases hk : isK (l.map File.name) p with
      | true =>
        rw [hk] at hfind
        have HF := Lib.hid hfind
        have hq := isK_in_file hk
        have hx : l[posK (l.map File.name) p]? = some (fileAt l p) := by
          unfold fileAt
          rw [List.getD_eq_getElem?_getD, List.getElem?_eq_getElem hq]
          rfl
        obtain ⟨z0, z1, z2⟩ := hz _ (List.mem_of_getElem? hx)
        generalize fileAt l p = x at *
        generalize posK (l.map File.name) p = q at *
        have HX := Lib.hid hx
        clear h hz hk hfind hx
        simp only [if_true]
        by_cases hl : x.safe.size + x.tail.size + s.size ≤ 1048576
        · have hli : (decide ((1048576 : Int) < (x.safe.size : Int) + (x.tail.size : Int) + (s.size : Int))) = false := decide_eq_false (by omega)
          simp only [if_pos hl]
          clear hl
          go_enter Tryd.func33, Tryd.ntmps33
          go_wp2_with
            (first | (go_at_call 28; refine (HG.out _ (H.out.below (by repeat (first | exact Below.refl _ _ | assumption | refine Below.drew ?_ | refine Below.drewN' ?_ _ | refine below_grow0 _ _ ?_ | refine below_alloc0 _ ?_ | refine Below.alloc ?_ (by first | omega | (simp; done) | (simp; omega)) _ | refine Below.setCell ?_ (by first | omega | (simp; done) | (simp; omega)) _ | refine Below.grow _ _ _ ?_ (by first | omega | (simp; done) | (simp; omega)))))).mono ?_; rintro e w1 ⟨rfl, hb⟩; obtain ⟨ext, d, rfl⟩ := Below.grown_eq _ hb; clear hb) | (go_at_call 44; refine (HF.out _ _ (H.out.below (by repeat (first | exact Below.refl _ _ | assumption | refine Below.drew ?_ | refine Below.drewN' ?_ _ | refine below_grow0 _ _ ?_ | refine below_alloc0 _ ?_ | refine Below.alloc ?_ (by first | omega | (simp; done) | (simp; omega)) _ | refine Below.setCell ?_ (by first | omega | (simp; done) | (simp; omega)) _ | refine Below.grow _ _ _ ?_ (by first | omega | (simp; done) | (simp; omega)))))).mono ?_; rintro e w1 ⟨rfl, hb⟩; obtain ⟨ext2, d2, rfl⟩ := Below.grown_eq _ hb; clear hb) | (go_at_call 42; refine (HN.out _).mono ?_; rintro e w1 ⟨rfl, rfl⟩; skip))
          refine (dkCopied _ l _ (H.out.below (by repeat (first | exact Below.refl _ _ | assumption | refine Below.drew ?_ | refine Below.drewN' ?_ _ | refine below_grow0 _ _ ?_ | refine below_alloc0 _ ?_ | refine Below.alloc ?_ (by first | omega | (simp; done) | (simp; omega)) _ | refine Below.setCell ?_ (by first | omega | (simp; done) | (simp; omega)) _ | refine Below.grow _ _ _ ?_ (by first | omega | (simp; done) | (simp; omega))))) (by omega) (by simp [maxLen]; omega)).mono ?_
          rintro e w3 ⟨A3, c3, rfl, ho3, hb3⟩
          obtain ⟨ext3, d3, rfl⟩ := Below.grown_eq _ hb3
          obtain ⟨g3, J, rfl, hg3, hbk3, hcl, hlc, hcm, _⟩ := ho3.blk (by omega)
          have hg4 : w.heap.size + 1 + 1 ≤ g3 := by simp at hg3; omega
          have hbk4 : ∀ d', Bk (grow (grow (grow ((w.alloc (.cells #[.slice (some ⟨g3, 0, none⟩) l.length c3] 26)).alloc (.cells #[.slice none 0 0] 26)) ext d) ext2 d2) ext3 d') g3 (l.flatMap cFile ++ J) 70 := fun d' => hbk3.regrow (by simpa using hg3) (by simp)
          obtain ⟨r0, r1, r2⟩ := file_cells (hbk4 (d3 + 1)) HX.out
          obtain ⟨s0, s1, s2⟩ := file_cells (hbk4 (d3 + 1)) HX.out
          have f2 := (hbk4 (d3 + 1)).frozen (q * 3 + 2)
          have HBK := Lib.hid hbk4
          have HCL := Lib.hid hcl
          clear hb3 ho3 hbk3 hbk4 hg3 hcl
          go_wp2_with fail
          go_region
          go_wp2_with fail
          have hlen : ((l.set q ⟨x.name, x.safe, x.tail ++ s⟩).flatMap cFile ++ J).length = c3 * 3 := by
            rw [← HCL.out, List.length_append, List.length_append, flatMap_length (f := cFile) (s := 3) (fun _ _ => rfl), flatMap_length (f := cFile) (s := 3) (fun _ _ => rfl), List.length_set]
          have n1 : ¬ w.heap.size + 1 = g3 := by omega
          have n2 : ¬ g3 = w.heap.size + 1 := by omega
          refine bodyPost_ret (v := .tuple #[.agg #[.slice (some ⟨g3, 0, none⟩) l.length c3], .int .i64 0]) (by simp [results, Tryd.results33, go_sem]) rfl ⟨some ⟨g3, 0, none⟩, c3, by rw [List.length_set], ?_, ?_⟩
          · refine Ow.far (Ow.of_blk (f := cFile) (s := 3) (B := w.heap.size) (fun _ _ => rfl) (by omega) ?_ rfl hlen (by rw [List.length_set]; exact hlc) hcm) (by omega)
            have := (HBK.out (d3 + 1)).put (q * 3 + 2) (.string (x.tail ++ s))
            rw [set_tail HX.out] at this
            exact this
          · refine Below.put (Below.put ?_ ?_) ?_
            · exact (by repeat (first | exact Below.refl _ _ | assumption | refine Below.drew ?_ | refine Below.drewN' ?_ _ | refine below_grow0 _ _ ?_ | refine below_alloc0 _ ?_ | refine Below.alloc ?_ (by first | omega | (simp; done) | (simp; omega)) _ | refine Below.setCell ?_ (by first | omega | (simp; done) | (simp; omega)) _ | refine Below.grow _ _ _ ?_ (by first | omega | (simp; done) | (simp; omega))))
            all_goals omega
        · have hli : (decide ((1048576 : Int) < (x.safe.size : Int) + (x.tail.size : Int) + (s.size : Int))) = true := decide_eq_true (by omega)
          simp only [if_neg hl]
          clear hl
          go_enter Tryd.func33, Tryd.ntmps33
          go_wp2_with
            (first | (go_at_call 28; refine (HG.out _ (H.out.below (by repeat (first | exact Below.refl _ _ | assumption | refine Below.drew ?_ | refine Below.drewN' ?_ _ | refine below_grow0 _ _ ?_ | refine below_alloc0 _ ?_ | refine Below.alloc ?_ (by first | omega | (simp; done) | (simp; omega)) _ | refine Below.setCell ?_ (by first | omega | (simp; done) | (simp; omega)) _ | refine Below.grow _ _ _ ?_ (by first | omega | (simp; done) | (simp; omega)))))).mono ?_; rintro e w1 ⟨rfl, hb⟩; obtain ⟨ext, d, rfl⟩ := Below.grown_eq _ hb; clear hb) | (go_at_call 44; refine (HF.out _ _ (H.out.below (by repeat (first | exact Below.refl _ _ | assumption | refine Below.drew ?_ | refine Below.drewN' ?_ _ | refine below_grow0 _ _ ?_ | refine below_alloc0 _ ?_ | refine Below.alloc ?_ (by first | omega | (simp; done) | (simp; omega)) _ | refine Below.setCell ?_ (by first | omega | (simp; done) | (simp; omega)) _ | refine Below.grow _ _ _ ?_ (by first | omega | (simp; done) | (simp; omega)))))).mono ?_; rintro e w1 ⟨rfl, hb⟩; obtain ⟨ext2, d2, rfl⟩ := Below.grown_eq _ hb; clear hb) | (go_at_call 42; refine (HN.out _).mono ?_; rintro e w1 ⟨rfl, rfl⟩; skip))
          refine (dkCopied _ l _ (H.out.below (by repeat (first | exact Below.refl _ _ | assumption | refine Below.drew ?_ | refine Below.drewN' ?_ _ | refine below_grow0 _ _ ?_ | refine below_alloc0 _ ?_ | refine Below.alloc ?_ (by first | omega | (simp; done) | (simp; omega)) _ | refine Below.setCell ?_ (by first | omega | (simp; done) | (simp; omega)) _ | refine Below.grow _ _ _ ?_ (by first | omega | (simp; done) | (simp; omega))))) (by omega) (by simp [maxLen]; omega)).mono ?_
          rintro e w3 ⟨A3, c3, rfl, ho3, hb3⟩
          obtain ⟨ext3, d3, rfl⟩ := Below.grown_eq _ hb3
          obtain ⟨g3, J, rfl, hg3, hbk3, hcl, hlc, hcm, _⟩ := ho3.blk (by omega)
          have hg4 : w.heap.size + 1 + 1 ≤ g3 := by simp at hg3; omega
          have hbk4 : ∀ d', Bk (grow (grow (grow ((w.alloc (.cells #[.slice (some ⟨g3, 0, none⟩) l.length c3] 26)).alloc (.cells #[.slice none 0 0] 26)) ext d) ext2 d2) ext3 d') g3 (l.flatMap cFile ++ J) 70 := fun d' => hbk3.regrow (by simpa using hg3) (by simp)
          obtain ⟨r0, r1, r2⟩ := file_cells (hbk4 (d3 + 1)) HX.out
          have HBK := Lib.hid hbk4
          have HCL := Lib.hid hcl
          clear hb3 ho3 hbk3 hbk4 hg3 hcl
          go_wp2_with fail
          go_region
          go_wp2_with fail
          refine bodyPost_ret (v := .tuple #[.agg #[.slice none 0 0], .int .i64 1]) (by simp [results, Tryd.results33, go_sem]) rfl ⟨none, 0, rfl, Ow.nil _ _ _ _ _, (by repeat (first | exact Below.refl _ _ | assumption | refine Below.drew ?_ | refine Below.drewN' ?_ _ | refine below_grow0 _ _ ?_ | refine below_alloc0 _ ?_ | refine Below.alloc ?_ (by first | omega | (simp; done) | (simp; omega)) _ | refine Below.setCell ?_ (by first | omega | (simp; done) | (simp; omega)) _ | refine Below.grow _ _ _ ?_ (by first | omega | (simp; done) | (simp; omega))))⟩
      | false =>
        rw [hk] at hfind
        have HF := Lib.hid hfind
        have hq : posK (l.map File.name) p ≤ l.length := by unfold posK; have := bsr_le (ltK (l.map File.name) p) (l.map File.name).length; simpa using this
        generalize posK (l.map File.name) p = q at *
        clear h hz hk hfind
        simp only [Bool.false_eq_true, if_false]
        by_cases h16 : 16 ≤ l.length
        · have h16i : (decide ((16 : Int) ≤ (l.length : Int))) = true := decide_eq_true (by omega)
          simp only [if_pos h16]
          go_enter Tryd.func33, Tryd.ntmps33
          go_wp2_with
            (first | (go_at_call 28; refine (HG.out _ (H.out.below (by repeat (first | exact Below.refl _ _ | assumption | refine Below.drew ?_ | refine Below.drewN' ?_ _ | refine below_grow0 _ _ ?_ | refine below_alloc0 _ ?_ | refine Below.alloc ?_ (by first | omega | (simp; done) | (simp; omega)) _ | refine Below.setCell ?_ (by first | omega | (simp; done) | (simp; omega)) _ | refine Below.grow _ _ _ ?_ (by first | omega | (simp; done) | (simp; omega)))))).mono ?_; rintro e w1 ⟨rfl, hb⟩; obtain ⟨ext, d, rfl⟩ := Below.grown_eq _ hb; clear hb) | (go_at_call 44; refine (HF.out _ _ (H.out.below (by repeat (first | exact Below.refl _ _ | assumption | refine Below.drew ?_ | refine Below.drewN' ?_ _ | refine below_grow0 _ _ ?_ | refine below_alloc0 _ ?_ | refine Below.alloc ?_ (by first | omega | (simp; done) | (simp; omega)) _ | refine Below.setCell ?_ (by first | omega | (simp; done) | (simp; omega)) _ | refine Below.grow _ _ _ ?_ (by first | omega | (simp; done) | (simp; omega)))))).mono ?_; rintro e w1 ⟨rfl, hb⟩; obtain ⟨ext2, d2, rfl⟩ := Below.grown_eq _ hb; clear hb) | (go_at_call 42; refine (HN.out _).mono ?_; rintro e w1 ⟨rfl, rfl⟩; skip))
          refine bodyPost_ret (v := .tuple #[.agg #[.slice none 0 0], .int .i64 6]) (by simp [results, Tryd.results33, go_sem]) rfl ⟨none, 0, rfl, Ow.nil _ _ _ _ _, (by repeat (first | exact Below.refl _ _ | assumption | refine Below.drew ?_ | refine Below.drewN' ?_ _ | refine below_grow0 _ _ ?_ | refine below_alloc0 _ ?_ | refine Below.alloc ?_ (by first | omega | (simp; done) | (simp; omega)) _ | refine Below.setCell ?_ (by first | omega | (simp; done) | (simp; omega)) _ | refine Below.grow _ _ _ ?_ (by first | omega | (simp; done) | (simp; omega))))⟩
        · have h16i : (decide ((16 : Int) ≤ (l.length : Int))) = false := decide_eq_false (by omega)
          simp only [if_neg h16]
          generalize hL : l.take q ++ (⟨p, ⟨#[]⟩, ⟨#[]⟩⟩ : File) :: l.drop q = L
          have hX : L[q]? = some (⟨p, ⟨#[]⟩, ⟨#[]⟩⟩ : File) := by rw [← hL, List.getElem?_append_right (by simp; omega)]; simp [Nat.min_eq_left hq]
          have hX2 : L.set q ⟨p, ⟨#[]⟩, s⟩ = l.take q ++ (⟨p, ⟨#[]⟩, s⟩ : File) :: l.drop q := by rw [← hL, List.set_append_right _ _ (by simp; omega)]; simp [Nat.min_eq_left hq]
          have hLl : 0 < L.length := Nat.lt_of_le_of_lt (Nat.zero_le q) (List.getElem?_eq_some_iff.1 hX).1
          have HL := Lib.hid hL
          have HX := Lib.hid hX
          rw [← hX2]
          clear hL hX hX2
          by_cases hl : s.size ≤ 1048576
          · have hli : (decide ((1048576 : Int) < (s.size : Int))) = false := decide_eq_false (by omega)
            simp only [if_pos hl]
            clear hl
            go_enter Tryd.func33, Tryd.ntmps33
            go_wp2_with
              (first | (go_at_call 28; refine (HG.out _ (H.out.below (by repeat (first | exact Below.refl _ _ | assumption | refine Below.drew ?_ | refine Below.drewN' ?_ _ | refine below_grow0 _ _ ?_ | refine below_alloc0 _ ?_ | refine Below.alloc ?_ (by first | omega | (simp; done) | (simp; omega)) _ | refine Below.setCell ?_ (by first | omega | (simp; done) | (simp; omega)) _ | refine Below.grow _ _ _ ?_ (by first | omega | (simp; done) | (simp; omega)))))).mono ?_; rintro e w1 ⟨rfl, hb⟩; obtain ⟨ext, d, rfl⟩ := Below.grown_eq _ hb; clear hb) | (go_at_call 44; refine (HF.out _ _ (H.out.below (by repeat (first | exact Below.refl _ _ | assumption | refine Below.drew ?_ | refine Below.drewN' ?_ _ | refine below_grow0 _ _ ?_ | refine below_alloc0 _ ?_ | refine Below.alloc ?_ (by first | omega | (simp; done) | (simp; omega)) _ | refine Below.setCell ?_ (by first | omega | (simp; done) | (simp; omega)) _ | refine Below.grow _ _ _ ?_ (by first | omega | (simp; done) | (simp; omega)))))).mono ?_; rintro e w1 ⟨rfl, hb⟩; obtain ⟨ext2, d2, rfl⟩ := Below.grown_eq _ hb; clear hb) | (go_at_call 42; refine (HN.out _).mono ?_; rintro e w1 ⟨rfl, rfl⟩; skip))
            refine (dkCopied _ l _ (H.out.below (by repeat (first | exact Below.refl _ _ | assumption | refine Below.drew ?_ | refine Below.drewN' ?_ _ | refine below_grow0 _ _ ?_ | refine below_alloc0 _ ?_ | refine Below.alloc ?_ (by first | omega | (simp; done) | (simp; omega)) _ | refine Below.setCell ?_ (by first | omega | (simp; done) | (simp; omega)) _ | refine Below.grow _ _ _ ?_ (by first | omega | (simp; done) | (simp; omega))))) (by omega) (by simp [maxLen]; omega)).mono ?_
            rintro e w3 ⟨A3, c3, rfl, ho3, hb3⟩
            obtain ⟨ext3, d3, rfl⟩ := Below.grown_eq _ hb3
            have HO3 := Lib.hid ho3
            clear ho3
            go_wp2_with fail
            refine (insFile_in (x := ⟨p, ⟨#[]⟩, ⟨#[]⟩⟩) (W := ((w.alloc (.cells #[.slice A3 l.length c3] 26)).alloc (.cells #[.slice none 0 0] 26))) (by repeat (first | exact Below.refl _ _ | assumption | refine Below.drew ?_ | refine Below.drewN' ?_ _ | refine below_grow0 _ _ ?_ | refine below_alloc0 _ ?_ | refine Below.alloc ?_ (by first | omega | (simp; done) | (simp; omega)) _ | refine Below.setCell ?_ (by first | omega | (simp; done) | (simp; omega)) _ | refine Below.grow _ _ _ ?_ (by first | omega | (simp; done) | (simp; omega)))) ((HO3.out.regrow (Nat.le_refl _) (by simp)).mono (by simp; omega)) hq (by omega) _ (by simp) HL.out.symm).mono ?_
            rintro e w4 ⟨A4, c4, ext4, d4, rfl, rfl, ho4⟩
            obtain ⟨g3, J, rfl, hg3, hbk3, hcl, hlc, hcm, _⟩ := ho4.blk hLl
            have hg4 : w.heap.size + 1 + 1 ≤ g3 := by simp at hg3; omega
            have hbk4 : ∀ d', Bk (grow ((w.alloc (.cells #[.slice (some ⟨g3, 0, none⟩) L.length c4] 26)).alloc (.cells #[.slice none 0 0] 26)) ext4 d') g3 (L.flatMap cFile ++ J) 70 := fun d' => hbk3.regrow (by simpa using hg3) (by simp)
            obtain ⟨r0, r1, r2⟩ := file_cells (hbk4 (d4 + 1)) HX.out
            have f2 := (hbk4 (d4 + 1)).frozen (q * 3 + 2)
            have hqL : q < L.length := (List.getElem?_eq_some_iff.1 HX.out).1
            have HBK := Lib.hid hbk4
            have HCL := Lib.hid hcl
            clear ho4 hbk3 hbk4 hg3 hcl
            go_wp2_with fail
            go_region
            go_wp2_with fail
            have hlen : ((L.set q ⟨p, ⟨#[]⟩, s⟩).flatMap cFile ++ J).length = c4 * 3 := by
              rw [← HCL.out, List.length_append, List.length_append, flatMap_length (f := cFile) (s := 3) (fun _ _ => rfl), flatMap_length (f := cFile) (s := 3) (fun _ _ => rfl), List.length_set]
            have n1 : ¬ w.heap.size + 1 = g3 := by omega
            have n2 : ¬ g3 = w.heap.size + 1 := by omega
            refine bodyPost_ret (v := .tuple #[.agg #[.slice (some ⟨g3, 0, none⟩) L.length c4], .int .i64 0]) (by simp [results, Tryd.results33, go_sem]) rfl ⟨some ⟨g3, 0, none⟩, c4, by rw [List.length_set], ?_, ?_⟩
            · refine Ow.far (Ow.of_blk (f := cFile) (s := 3) (B := w.heap.size) (fun _ _ => rfl) (by omega) ?_ rfl hlen (by rw [List.length_set]; exact hlc) hcm) (by omega)
              have := (HBK.out (d4 + 1)).put (q * 3 + 2) (.string s)
              rw [set_tail HX.out] at this
              exact this
            · refine Below.put (Below.put ?_ ?_) ?_
              · exact (by repeat (first | exact Below.refl _ _ | assumption | refine Below.drew ?_ | refine Below.drewN' ?_ _ | refine below_grow0 _ _ ?_ | refine below_alloc0 _ ?_ | refine Below.alloc ?_ (by first | omega | (simp; done) | (simp; omega)) _ | refine Below.setCell ?_ (by first | omega | (simp; done) | (simp; omega)) _ | refine Below.grow _ _ _ ?_ (by first | omega | (simp; done) | (simp; omega))))
              all_goals omega
          · have hli : (decide ((1048576 : Int) < (s.size : Int))) = true := decide_eq_true (by omega)
            simp only [if_neg hl]
            clear hl
            go_enter Tryd.func33, Tryd.ntmps33
            go_wp2_with
              (first | (go_at_call 28; refine (HG.out _ (H.out.below (by repeat (first | exact Below.refl _ _ | assumption | refine Below.drew ?_ | refine Below.drewN' ?_ _ | refine below_grow0 _ _ ?_ | refine below_alloc0 _ ?_ | refine Below.alloc ?_ (by first | omega | (simp; done) | (simp; omega)) _ | refine Below.setCell ?_ (by first | omega | (simp; done) | (simp; omega)) _ | refine Below.grow _ _ _ ?_ (by first | omega | (simp; done) | (simp; omega)))))).mono ?_; rintro e w1 ⟨rfl, hb⟩; obtain ⟨ext, d, rfl⟩ := Below.grown_eq _ hb; clear hb) | (go_at_call 44; refine (HF.out _ _ (H.out.below (by repeat (first | exact Below.refl _ _ | assumption | refine Below.drew ?_ | refine Below.drewN' ?_ _ | refine below_grow0 _ _ ?_ | refine below_alloc0 _ ?_ | refine Below.alloc ?_ (by first | omega | (simp; done) | (simp; omega)) _ | refine Below.setCell ?_ (by first | omega | (simp; done) | (simp; omega)) _ | refine Below.grow _ _ _ ?_ (by first | omega | (simp; done) | (simp; omega)))))).mono ?_; rintro e w1 ⟨rfl, hb⟩; obtain ⟨ext2, d2, rfl⟩ := Below.grown_eq _ hb; clear hb) | (go_at_call 42; refine (HN.out _).mono ?_; rintro e w1 ⟨rfl, rfl⟩; skip))
            refine (dkCopied _ l _ (H.out.below (by repeat (first | exact Below.refl _ _ | assumption | refine Below.drew ?_ | refine Below.drewN' ?_ _ | refine below_grow0 _ _ ?_ | refine below_alloc0 _ ?_ | refine Below.alloc ?_ (by first | omega | (simp; done) | (simp; omega)) _ | refine Below.setCell ?_ (by first | omega | (simp; done) | (simp; omega)) _ | refine Below.grow _ _ _ ?_ (by first | omega | (simp; done) | (simp; omega))))) (by omega) (by simp [maxLen]; omega)).mono ?_
            rintro e w3 ⟨A3, c3, rfl, ho3, hb3⟩
            obtain ⟨ext3, d3, rfl⟩ := Below.grown_eq _ hb3
            have HO3 := Lib.hid ho3
            clear ho3
            go_wp2_with fail
            refine (insFile_in (x := ⟨p, ⟨#[]⟩, ⟨#[]⟩⟩) (W := ((w.alloc (.cells #[.slice A3 l.length c3] 26)).alloc (.cells #[.slice none 0 0] 26))) (by repeat (first | exact Below.refl _ _ | assumption | refine Below.drew ?_ | refine Below.drewN' ?_ _ | refine below_grow0 _ _ ?_ | refine below_alloc0 _ ?_ | refine Below.alloc ?_ (by first | omega | (simp; done) | (simp; omega)) _ | refine Below.setCell ?_ (by first | omega | (simp; done) | (simp; omega)) _ | refine Below.grow _ _ _ ?_ (by first | omega | (simp; done) | (simp; omega)))) ((HO3.out.regrow (Nat.le_refl _) (by simp)).mono (by simp; omega)) hq (by omega) _ (by simp) HL.out.symm).mono ?_
            rintro e w4 ⟨A4, c4, ext4, d4, rfl, rfl, ho4⟩
            obtain ⟨g3, J, rfl, hg3, hbk3, hcl, hlc, hcm, _⟩ := ho4.blk hLl
            have hg4 : w.heap.size + 1 + 1 ≤ g3 := by simp at hg3; omega
            have hbk4 : ∀ d', Bk (grow ((w.alloc (.cells #[.slice (some ⟨g3, 0, none⟩) L.length c4] 26)).alloc (.cells #[.slice none 0 0] 26)) ext4 d') g3 (L.flatMap cFile ++ J) 70 := fun d' => hbk3.regrow (by simpa using hg3) (by simp)
            obtain ⟨r0, r1, r2⟩ := file_cells (hbk4 (d4 + 1)) HX.out
            have f2 := (hbk4 (d4 + 1)).frozen (q * 3 + 2)
            have hqL : q < L.length := (List.getElem?_eq_some_iff.1 HX.out).1
            have HBK := Lib.hid hbk4
            have HCL := Lib.hid hcl
            clear ho4 hbk3 hbk4 hg3 hcl
            go_wp2_with fail
            go_region
            go_wp2_with fail
            refine bodyPost_ret (v := .tuple #[.agg #[.slice none 0 0], .int .i64 1]) (by simp [results, Tryd.results33, go_sem]) rfl ⟨none, 0, rfl, Ow.nil _ _ _ _ _, (by repeat (first | exact Below.refl _ _ | assumption | refine Below.drew ?_ | refine Below.drewN' ?_ _ | refine below_grow0 _ _ ?_ | refine below_alloc0 _ ?_ | refine Below.alloc ?_ (by first | omega | (simp; done) | (simp; omega)) _ | refine Below.setCell ?_ (by first | omega | (simp; done) | (simp; omega)) _ | refine Below.grow _ _ _ ?_ (by first | omega | (simp; done) | (simp; omega))))⟩
end Go.Proofs.YtkoemhdchoicaaaDoor

/- What the disk's operations leave, as files put, taken off and read; and the laws' 'stores'. -/
namespace Go.Proofs.YtkoemhdchoicaaaDoor
open Go.RowKit Go.ChangeShapes Go.WideShapes Go.ChangeAt
theorem goodD_sized {l : List File} (h : goodD l = true) : ∀ x ∈ l, x.sized ∧ x.safe.size + x.tail.size ≤ 1048576 := by
  intro x hx
  have := ((goodD_iff l).1 h).2.1 x hx
  unfold okF named at this
  simp only [Bool.and_eq_true, decide_eq_true_iff] at this
  obtain ⟨⟨⟨_, _⟩, h1⟩, h2⟩ := this
  have h3 : (bs x.name).length = x.name.size := rfl
  refine ⟨⟨?_, ?_, ?_⟩, h2⟩ <;> omega
def noFile (p : ByteArray) : File := ⟨p, ⟨#[]⟩, ⟨#[]⟩⟩
def fileOr (l : List File) (p : ByteArray) : File := if isK (l.map File.name) p then fileAt l p else noFile p
theorem fileOr_name (l : List File) (p : ByteArray) : (fileOr l p).name = p := by
  unfold fileOr
  split
  · exact (fileAt_is (by assumption)).1
  · rfl
theorem readS_or {l : List File} (h : goodD l = true) (p : ByteArray) : readS l p = (fileOr l p).safe ++ (fileOr l p).tail := by
  unfold readS fileOr
  rw [h, Bool.true_and]
  split
  · rfl
  · exact ByteArray.append_empty.symm
theorem write_not {l : List File} {p s : ByteArray} (h : writeE l p s ≠ 0) : writeL l p s = [] := by
  unfold writeE at h
  unfold writeL
  by_cases h1 : goodD l = true
  · by_cases h2 : named (bs p) = true
    · by_cases h3 : isK (l.map File.name) p = true
      · by_cases h4 : (fileAt l p).safe.size + (fileAt l p).tail.size + s.size ≤ 1048576
        · simp [h1, h2, h3, h4] at h
        · simp [h1, h2, h3, h4]
      · by_cases h4 : 16 ≤ l.length
        · simp [h1, h2, h3, h4]
        · by_cases h5 : s.size ≤ 1048576
          · simp [h1, h2, h3, h4, h5] at h
          · simp [h1, h2, h3, h4, h5]
    · simp [h1, h2]
  · simp [h1]
theorem write_ok {l : List File} {p s : ByteArray} (h : writeE l p s = 0) : goodD l = true ∧ writeL l p s = putL l ⟨p, (fileOr l p).safe, (fileOr l p).tail ++ s⟩ ∧ goodD (writeL l p s) = true := by
  have key : goodD l = true ∧ writeL l p s = putL l ⟨p, (fileOr l p).safe, (fileOr l p).tail ++ s⟩ ∧ named (bs p) = true ∧ (fileOr l p).safe.size + ((fileOr l p).tail ++ s).size ≤ 1048576 ∧ (isK (l.map File.name) p = true ∨ l.length < 16) := by
    unfold writeE at h
    unfold writeL putL fileOr
    rw [ByteArray.size_append]
    by_cases h1 : goodD l = true
    · by_cases h2 : named (bs p) = true
      · by_cases h3 : isK (l.map File.name) p = true
        · by_cases h4 : (fileAt l p).safe.size + (fileAt l p).tail.size + s.size ≤ 1048576
          · simp only [if_pos h1, if_pos h2, if_pos h3, if_pos h4]
            exact ⟨h1, by rw [(fileAt_is h3).1], h2, by omega, .inl h3⟩
          · simp [h1, h2, h3, h4] at h
        · by_cases h4 : 16 ≤ l.length
          · simp [h1, h2, h3, h4] at h
          · by_cases h5 : s.size ≤ 1048576
            · simp only [if_pos h1, if_pos h2, if_neg h3, if_neg h4, if_pos h5]
              exact ⟨h1, by rw [show (noFile p).tail ++ s = s from ByteArray.empty_append]; rfl, h2, by show 0 + (0 + s.size) ≤ _; omega, .inr (by omega)⟩
            · simp [h1, h2, h3, h4, h5] at h
      · simp [h1, h2] at h
    · simp [h1] at h
  obtain ⟨h1, h2, h3, h4, h5⟩ := key
  refine ⟨h1, h2, ?_⟩
  rw [h2]
  refine putL_good h1 ?_ h5
  unfold okF
  rw [h3, Bool.true_and]
  exact decide_eq_true h4
theorem readE_0 {l : List File} {p : ByteArray} (h : readE l p = 0) : goodD l = true ∧ isK (l.map File.name) p = true := by
  unfold readE at h
  by_cases h1 : goodD l = true
  · by_cases h2 : isK (l.map File.name) p = true
    · exact ⟨h1, h2⟩
    · simp [h1, h2] at h
  · simp [h1] at h
theorem readE_in {l : List File} {p : ByteArray} (h1 : goodD l = true) (h2 : isK (l.map File.name) p = true) : readE l p = 0 := by
  unfold readE
  rw [h1, h2]
  rfl
theorem sync_ok {l : List File} {p : ByteArray} (h : readE l p = 0) : syncL l p = putL l ⟨p, (fileAt l p).safe ++ (fileAt l p).tail, ⟨#[]⟩⟩ ∧ goodD (syncL l p) = true := by
  obtain ⟨h1, h2⟩ := readE_0 h
  have e : syncL l p = putL l ⟨p, (fileAt l p).safe ++ (fileAt l p).tail, ⟨#[]⟩⟩ := by
    unfold syncL putL syncF
    simp only [h1, h2, Bool.and_self, if_true]
    rw [(fileAt_is h2).1]
  refine ⟨e, ?_⟩
  rw [e]
  refine putL_good h1 ?_ (.inl h2)
  have h3 := ((goodD_iff l).1 h1).2.1 _ (fileAt_is h2).2
  unfold okF at h3 ⊢
  rw [(fileAt_is h2).1] at h3
  rw [Bool.and_eq_true, decide_eq_true_iff] at h3 ⊢
  refine ⟨h3.1, ?_⟩
  have := h3.2
  show ((fileAt l p).safe ++ (fileAt l p).tail).size + 0 ≤ 1048576
  rw [ByteArray.size_append]
  omega
theorem sync_not {l : List File} {p : ByteArray} (h : readE l p ≠ 0) : syncL l p = [] := by
  unfold readE at h
  unfold syncL
  by_cases h1 : goodD l = true
  · by_cases h2 : isK (l.map File.name) p = true
    · simp [h1, h2] at h
    · simp [h1, h2]
  · simp [h1]
theorem cut_ok {l : List File} {p : ByteArray} {n : Int} (h : cutE l p n = 0) : readE l p = 0 ∧ 0 ≤ n ∧ n ≤ ((readS l p).size : Int) ∧ cutL l p n = putL l ⟨p, (readS l p).extract 0 n.toNat, ⟨#[]⟩⟩ ∧ goodD (cutL l p n) = true := by
  have key : goodD l = true ∧ isK (l.map File.name) p = true ∧ (0 ≤ n ∧ n ≤ (((fileAt l p).safe ++ (fileAt l p).tail).size : Int)) := by
    unfold cutE at h
    by_cases h1 : goodD l = true
    · by_cases h2 : isK (l.map File.name) p = true
      · by_cases h3 : 0 ≤ n ∧ n ≤ (((fileAt l p).safe ++ (fileAt l p).tail).size : Int)
        · exact ⟨h1, h2, h3⟩
        · rw [if_pos h1, if_pos h2, if_neg h3] at h; simp at h
      · simp [h1, h2] at h
    · simp [h1] at h
  obtain ⟨h1, h2, h3⟩ := key
  have hr : readS l p = (fileAt l p).safe ++ (fileAt l p).tail := by
    rw [readS_or h1]; unfold fileOr; rw [if_pos h2]
  have e : cutL l p n = putL l ⟨p, (readS l p).extract 0 n.toNat, ⟨#[]⟩⟩ := by
    unfold cutL putL cutF
    rw [hr]
    simp only [h1, h2, Bool.and_self, if_true]
    rw [if_pos h3, (fileAt_is h2).1]
  refine ⟨readE_in h1 h2, h3.1, by rw [hr]; exact h3.2, e, ?_⟩
  rw [e]
  refine putL_good h1 ?_ (.inl h2)
  have h4 := ((goodD_iff l).1 h1).2.1 _ (fileAt_is h2).2
  unfold okF at h4 ⊢
  rw [(fileAt_is h2).1] at h4
  rw [Bool.and_eq_true, decide_eq_true_iff] at h4 ⊢
  refine ⟨h4.1, ?_⟩
  have := h4.2
  show ((readS l p).extract 0 n.toNat).size + 0 ≤ 1048576
  rw [hr, ByteArray.size_extract, ByteArray.size_append]
  omega
theorem remove_ok {l : List File} {p : ByteArray} (h : readE l p = 0) : removeL l p = offL l p ∧ goodD (removeL l p) = true ∧ (removeL l p).length + 1 = l.length := by
  obtain ⟨h1, h2⟩ := readE_0 h
  have e : removeL l p = offL l p := by
    unfold removeL offL
    rw [h1, h2]
    rfl
  refine ⟨e, by rw [e]; exact offL_good h1 h2, ?_⟩
  have := isK_in_file h2
  rw [e]
  unfold offL
  simp
  omega
theorem crash_ok {l : List File} {keep : Int} (h : crashE l keep = 0) : goodD l = true ∧ 0 ≤ keep ∧ crashL l keep = l.map (crashF keep.toNat) := by
  unfold crashE at h
  by_cases h1 : goodD l = true
  · by_cases h2 : keep < 0
    · simp [h1, h2] at h
    · refine ⟨h1, by omega, ?_⟩
      unfold crashL
      rw [if_pos h1, if_neg h2]
  · simp [h1] at h
theorem crash_not {l : List File} {keep : Int} (h : crashE l keep ≠ 0) : crashL l keep = [] := by
  unfold crashE at h
  unfold crashL
  by_cases h1 : goodD l = true
  · by_cases h2 : keep < 0
    · simp [h1, h2]
    · simp [h1, h2] at h
  · simp [h1]
theorem crash_is {l : List File} (h1 : goodD l = true) (n : Nat) : crashE l n = 0 ∧ crashL l n = l.map (crashF n) := by
  unfold crashE crashL
  have h2 : ¬ (n : Int) < 0 := by omega
  rw [if_pos h1, if_pos h1, if_neg h2, if_neg h2]
  exact ⟨rfl, rfl⟩
theorem crash_twice (l : List File) (n m : Nat) : (l.map (crashF n)).map (crashF m) = l.map (crashF n) := by
  rw [List.map_map]
  congr 1
  funext x
  show File.mk _ _ _ = File.mk _ _ _
  congr 1
  have h : ∀ k, ByteArray.extract ⟨#[]⟩ 0 k = ByteArray.empty := fun k => ByteArray.ext (by simp)
  show (x.safe ++ x.tail.extract 0 (min n x.tail.size)) ++ ByteArray.extract ⟨#[]⟩ 0 _ = _
  rw [h, ByteArray.append_empty]
theorem stores1 : writeE [] ⟨#[97]⟩ ⟨#[98, 99]⟩ = 0 ∧ writeL [] ⟨#[97]⟩ ⟨#[98, 99]⟩ = [⟨⟨#[97]⟩, ⟨#[]⟩, ⟨#[98, 99]⟩⟩] := by
  constructor <;> kernel_rfl
theorem stores2 : readE [⟨⟨#[97]⟩, ⟨#[]⟩, ⟨#[98, 99]⟩⟩] ⟨#[97]⟩ = 0 ∧ readS [⟨⟨#[97]⟩, ⟨#[]⟩, ⟨#[98, 99]⟩⟩] ⟨#[97]⟩ = ⟨#[98, 99]⟩ := by
  constructor <;> kernel_rfl
end Go.Proofs.YtkoemhdchoicaaaDoor

/- A range over a function whose iterator keeps a state of its own in one cell: the law for the caller. No program is in sight but by variable. -/
namespace Go.Proofs.YtkoemhdchoicaaaDoor
open Go.RowKit
theorem setCell_other {w : World} {b j k : Nat} {v : Value} (h : k ≠ b) : (w.setCell ⟨b, j, none⟩ v).heap[k]? = w.heap[k]? := by
  unfold World.setCell
  simp only [Array.getElem?_modify]
  rw [if_neg (fun e => h e.symm)]
/-- an iterator that keeps a state in the block b gives just these elements, one by one, or stops where a round says so -/
def SeqCells {α : Type} (F : Fence) (n : Nat) (P : Program) (g : Nat) (lb : Array Value) (encs : α → Array Value) (b n₀ : Nat) (S : List α) (w : World) : Prop :=
  ∀ (l : Nat) (J Jx : List α → World → Prop) (W : World), Below n₀ w W → (∀ s A v, J s A → J s (A.setCell ⟨b, 0, none⟩ v)) →
    (∀ pre x W1, J pre W1 → (pre ++ [x]) <+: S → YieldAt F (n - 1) P l (encs x) W1 fun e W' =>
      (e = .returned (.bool true) ∧ J (pre ++ [x]) W' ∧ Below n₀ W1 W') ∨ (e = .returned (.bool false) ∧ Jx (pre ++ [x]) W')) →
    J [] W →
    CallsIn F n P g (#[.func (.yield l) #[] #[]] ++ lb) W fun e W' => (∃ v, e = .returned v) ∧ (J S W' ∨ ∃ pre, Jx pre W')
variable {F : Fence} {n : Nat} {P : Program}
theorem wpIn_range_cells {α : Type} {g : Operand} {ps : Array Tmp} {assign body : Code} {Q : Exit → Act → World → Prop} {a : Act} {w : World}
    (hro : F.round = none) (h1 : 1 ≤ n) {gf : Nat} {lb : Array Value} (hg : a.eval g = .func (.func gf) #[] lb) (hFg : F.fn gf) (eg : ∀ args w, (callFunc gf args).run P w = .ok (.enter gf args) w)
    {encs : α → Array Value} {b : Nat} {S : List α} (hb : b < w.heap.size) (hseq : SeqCells F (n - 1) P gf lb encs b w.heap.size S w) (hps : ∀ x, (encs x).size = ps.size)
    (I : List α → World → Prop) (Ix : Code → List α → World → Prop) (hI : OwnFrom w.heap.size I) (hIx : ∀ c, OwnFrom w.heap.size (Ix c)) (hIs : ∀ s A v, I s A → I s (A.setCell ⟨b, 0, none⟩ v)) (h0 : I [] w) (a₁ : α → Act)
    (hassign : ∀ (l : Nat) (x : α) (W : World) (K : Act → World → Prop), K (a₁ x) W →
      assign.wpIn (F.inRound l) (n - 1 - 1) P (Exit.then K (fun _ _ _ => False)) { tmps := (ps.zip (encs x)).foldl (fun t (p, v) => t.setIfInBounds p v) a.tmps, defers := [] } W)
    (hbody : ∀ (l : Nat) (pre : List α) (x : α) (W : World), I pre W → (pre ++ [x]) <+: S → body.wpIn (F.inRound l) (n - 1 - 1) P (ownPostK (Below w.heap.size) I Ix (pre ++ [x]) W) (a₁ x) W)
    (hdone : ∀ (D : Nat) (W : World), w.heap.size ≤ D → I S W → W.heap[D]? = some (.deferred (some [])) → Q .normal { a with defers := { target := .collected D, args := #[] } :: a.defers } W)
    (hstop : ∀ (D : Nat) (c : Code) (pre : List α) (W : World), w.heap.size ≤ D → Ix c pre W → W.heap[D]? = some (.deferred (some [])) → c.wpIn F n P Q { a with defers := { target := .collected D, args := #[] } :: a.defers } W) :
    (Code.rangeFunc g ps assign body).wpIn F n P Q a w := by
  have hKt : ∀ {A B C : World}, Below w.heap.size A B → Below w.heap.size B C → Below w.heap.size A C := fun h k => h.trans k
  have hKb : ∀ (W : World) (l : Nat) (o o' : Obj), w.heap.size ≤ l → W.heap[l]? = some o → o.isCells = false → o.isWalk = false → Below w.heap.size W (W.putObj l o') := belowK_b (Nat.le_refl _)
  refine wpIn_rangeFunc ?_
  intro fn hfn
  rw [hro]
  obtain ⟨rec, hrec⟩ : ∃ rec : LoopState → Option Code → Loop, rec = fun st pe => { state := st, pending := pe, fn, tmps := a.tmps, params := ps, assign, body, defers := w.heap.size } := ⟨_, rfl⟩
  obtain ⟨W1, hW1⟩ : ∃ W1, (w.alloc (.deferred (some []))).alloc (.loop (rec .ready none)) = W1 := ⟨_, rfl⟩
  have hL1 : W1.heap[w.heap.size + 1]? = some (.loop (rec .ready none)) := by
    rw [← hW1]; have := World.alloc_heap_new (w.alloc (.deferred (some []))) (.loop (rec .ready none)); rwa [World.size_alloc] at this
  have hK1 : W1.heap[w.heap.size]? = some (.deferred (some [])) := by
    rw [← hW1]; exact (Below.heap_alloc _ _ _ (by simp)).trans (World.alloc_heap_new w _)
  have hI1 : I [] W1 := by rw [← hW1]; exact hI.alloc _ (hI.alloc _ h0)
  have hb1 : Below w.heap.size w W1 := by
    rw [← hW1]; exact ((Below.refl _ w).alloc (Nat.le_refl _) _).alloc (by simp) _
  refine ⟨w.heap.size + 1, [{ target := .collected w.heap.size, args := #[] }], W1, { target := .fn (.func gf) lb, args := #[.func (.yield (w.heap.size + 1)) #[] #[]] }, W1, gf,
    #[.func (.yield (w.heap.size + 1)) #[] #[]] ++ lb, W1, ?_, ?_, ?_, ?_, fun _ => h1, ?_⟩
  · rw [← hW1, hrec]; exact run_enterLoop_outer _ _ _ _ _
  · simp only [resolve, hg]
    simp [go_sem]
  · intro f' hf'; simp [Target.leads] at hf'; subst hf'; exact hFg
  · simp [invoke, go_sem, eg]
  · refine (hseq (w.heap.size + 1)
      (fun pre W => I pre W ∧ W.heap[w.heap.size + 1]? = some (.loop (rec .ready none)) ∧ W.heap[w.heap.size]? = some (.deferred (some [])))
      (fun pre W => ∃ c, Ix c pre W ∧ W.heap[w.heap.size + 1]? = some (.loop (rec .done (some c))) ∧ W.heap[w.heap.size]? = some (.deferred (some [])))
      W1 hb1
      (fun s A v hs => ⟨hIs s A v hs.1, (setCell_other (by omega)).trans hs.2.1, (setCell_other (by omega)).trans hs.2.2⟩)
      ?_ ⟨hI1, hL1, hK1⟩).mono ?_
    · rintro pre x W ⟨hi, hl, hk⟩ hlen
      have hlt : w.heap.size + 1 < W.heap.size := (Array.getElem?_eq_some_iff.1 hl).1
      have hy := run_yield (P := P) (args := encs x) hl (by rw [hrec]; exact hps x)
      rw [hrec] at hy
      refine ⟨fn, _, assign, body, hy, roundIn_of_wpIn hfn (hassign _ x W _ ⟨_, run_beginRound hl (by rw [hrec]), ?_⟩)⟩
      have hl2 : (W.putObj (w.heap.size + 1) (.loop { rec .ready none with state := .busy })).heap[w.heap.size + 1]? = some (.loop { rec .ready none with state := .busy }) := World.putObj_heap_same hlt
      have hk2 : (W.putObj (w.heap.size + 1) (.loop { rec .ready none with state := .busy })).heap[w.heap.size]? = some (.deferred (some [])) := (World.putObj_heap_other (by omega)).trans hk
      have hw2 : Below w.heap.size W (W.putObj (w.heap.size + 1) (.loop { rec .ready none with state := .busy })) := hKb _ _ _ _ (by omega) hl rfl rfl
      refine wpIn_mono (hbody _ pre x _ (hI.putObj _ hi (by omega) hl rfl) hlen) ?_
      have fin : ∀ (jump : Option Code) (W3 : World), KeepsOthers (W.putObj (w.heap.size + 1) (.loop { rec .ready none with state := .busy })) W3 →
          (Instr.endRound (w.heap.size + 1) jump).run P W3 = .ok (.bool jump.isNone) (W3.putObj (w.heap.size + 1) (.loop (rec (if jump.isNone then .ready else .done) jump))) ∧
          W3.heap[w.heap.size + 1]? = some (.loop { rec .ready none with state := .busy }) ∧
          (W3.putObj (w.heap.size + 1) (.loop (rec (if jump.isNone then .ready else .done) jump))).heap[w.heap.size + 1]? = some (.loop (rec (if jump.isNone then .ready else .done) jump)) ∧
          (W3.putObj (w.heap.size + 1) (.loop (rec (if jump.isNone then .ready else .done) jump))).heap[w.heap.size]? = some (.deferred (some [])) := fun jump W3 hk3 => by
        have hl3 := hk3.same _ _ hl2 rfl
        have := run_endRound (P := P) jump hl3
        rw [hrec] at this ⊢
        exact ⟨this, by rw [hrec] at hl3; exact hl3, World.putObj_heap_same (Array.getElem?_eq_some_iff.1 hl3).1, (World.putObj_heap_other (by omega)).trans (hk3.same _ _ hk2 rfl)⟩
      rintro e a3 W3 hp
      cases e with
      | normal =>
        obtain ⟨hk3, hkp3, hi3⟩ := hp
        obtain ⟨hr, hl3, hl4, hk4⟩ := fin none W3 hk3
        exact ⟨_, _, hr, .inl ⟨rfl, ⟨hI.putObj _ hi3 (by omega) hl3 rfl, hl4, hk4⟩, hKt (hKt hw2 hkp3) (hKb _ _ _ _ (by omega) hl3 rfl rfl)⟩⟩
      | ret =>
        obtain ⟨hk3, hi3⟩ := hp
        obtain ⟨hr, hl3, hl4, hk4⟩ := fin (some .ret) W3 hk3
        exact ⟨_, _, hr, .inr ⟨rfl, .ret, (hIx _).putObj _ hi3 (by omega) hl3 rfl, hl4, hk4⟩⟩
      | exit id =>
        obtain ⟨hk3, hi3⟩ := hp
        obtain ⟨hr, hl3, hl4, hk4⟩ := fin (some (.exit id)) W3 hk3
        exact ⟨_, _, hr, .inr ⟨rfl, .exit id, (hIx _).putObj _ hi3 (by omega) hl3 rfl, hl4, hk4⟩⟩
      | goto t =>
        obtain ⟨hk3, hi3⟩ := hp
        obtain ⟨hr, hl3, hl4, hk4⟩ := fin (some (.goto t)) W3 hk3
        exact ⟨_, _, hr, .inr ⟨rfl, .goto t, (hIx _).putObj _ hi3 (by omega) hl3 rfl, hl4, hk4⟩⟩
      | panic ch => exact hp.elim
      | outgrown => exact hp.elim
    · rintro e W2 ⟨⟨v, rfl⟩, (⟨hi, hl, hk⟩ | ⟨pre, c, hi, hl, hk⟩)⟩
      · exact ⟨none, _, by have := run_endLoop (P := P) hl (by rw [hrec]; simp); rw [hrec] at this; exact this, hdone _ _ (Nat.le_refl _) (hI.putObj _ hi (by omega) hl rfl) ((World.putObj_heap_other (by omega)).trans hk)⟩
      · exact ⟨some c, _, by have := run_endLoop (P := P) hl (by rw [hrec]; simp); rw [hrec] at this; exact this, hstop _ c pre _ (Nat.le_refl _) ((hIx c).putObj _ hi (by omega) hl rfl) ((World.putObj_heap_other (by omega)).trans hk)⟩
end Go.Proofs.YtkoemhdchoicaaaDoor

/- strings.SplitSeq at a separator of one byte: its iterator, which keeps the rest in a cell of its own. -/
namespace Go.Proofs.YtkoemhdchoicaaaDoor
open Go.RowKit Go.Shelf
attribute [local go_sem] Oper.semAt_some
/-- the parts of a text between slashes -/
def stepsB (s : ByteArray) : List ByteArray :=
  if h : 0 ≤ Lib.indexByte s.data.toList 47 ∧ (Lib.indexByte s.data.toList 47).toNat < s.size then s.extract 0 (Lib.indexByte s.data.toList 47).toNat :: stepsB (s.extract ((Lib.indexByte s.data.toList 47).toNat + 1) s.size) else [s]
termination_by s.size
decreasing_by rw [ByteArray.size_extract]; omega
theorem index_lt {s : ByteArray} {o : Nat} (h : Lib.indexByte s.data.toList 47 = o) : o < s.size := by
  have := (Lib.indexByte_some h).1
  have h2 := (List.getElem?_eq_some_iff.1 this).1
  simpa using h2
theorem stepsB_no {s : ByteArray} (h : Lib.indexByte s.data.toList 47 < 0) : stepsB s = [s] := by
  rw [stepsB, dif_neg (fun k => by omega)]
theorem stepsB_yes {s : ByteArray} {o : Nat} (h : Lib.indexByte s.data.toList 47 = o) : stepsB s = s.extract 0 o :: stepsB (s.extract (o + 1) s.size) := by
  have := index_lt h
  rw [stepsB, dif_pos ⟨by omega, by omega⟩, h]
  rfl
def leftS (b : Nat) (w : World) : Nat := match w.cell? ⟨b, 0, none⟩ with
  | some (.string r) => r.size
  | _ => 0
theorem leftS_eq {b : Nat} {w : World} {r : ByteArray} (h : w.cell? ⟨b, 0, none⟩ = some (.string r)) : leftS b w = r.size := by unfold leftS; rw [h]
set_option maxHeartbeats 1000000 in
theorem split_stops (n : Nat) (hn : 1 ≤ n) (w : World) (b b1 b2 : Nat) (s : ByteArray) (c0 : w.cell? ⟨b, 0, none⟩ = some (.string s)) (f0 : w.frozen? ⟨b, 0, none⟩ = false) (c1 : w.cell? ⟨b1, 0, none⟩ = some (.string ⟨#[47]⟩)) (c2 : w.cell? ⟨b2, 0, none⟩ = some (.int .i64 0)) (n1 : b1 ≠ b) (n2 : b2 ≠ b) (hs : s.size ≤ 4611686018427387904) :
    SeqCells Fence.wide n Tryd.prog 71 #[.pointer (some ⟨b1, 0, none⟩), .pointer (some ⟨b, 0, none⟩), .pointer (some ⟨b2, 0, none⟩)] (fun x : ByteArray => #[.string x]) b w.heap.size (stepsB s) w := by
  intro l J Jx W hW hJs hY h0
  have hb : b < w.heap.size := World.block_lt_of_cell? w _ c0
  have hb1 : b1 < w.heap.size := World.block_lt_of_cell? w _ c1
  have hb2 : b2 < w.heap.size := World.block_lt_of_cell? w _ c2
  have C0 := (hW.cell (p := ⟨b, 0, none⟩) hb).trans c0
  have C1 := (hW.cell (p := ⟨b1, 0, none⟩) hb1).trans c1
  have C2 := (hW.cell (p := ⟨b2, 0, none⟩) hb2).trans c2
  have F0 := (World.frozen?_of_block (a := ⟨b, 0, none⟩) (hW.block b hb)).trans f0
  refine callsIn_of_wp Tryd.func71 rfl trivial ?_ rfl
  simp only [Tryd.ntmps71, List.size_toArray, List.length_cons, List.length_nil, Nat.reduceAdd, Nat.reduceSub, Array.replicate_succ, Array.replicate_zero, List.push_toArray, List.append_toArray, List.nil_append, List.cons_append]
  gi_wp2
  gi_loopw [7] (fun i wr => ∃ (k : Int) (pre : List ByteArray) (r : ByteArray), (i = .int .i64 k ∨ i = undef) ∧ Hid (pre ++ stepsB r = stepsB s) ∧ J pre wr ∧ wr.cell? ⟨b, 0, none⟩ = some (.string r) ∧ wr.cell? ⟨b1, 0, none⟩ = some (.string ⟨#[47]⟩) ∧ wr.cell? ⟨b2, 0, none⟩ = some (.int .i64 0) ∧ wr.frozen? ⟨b, 0, none⟩ = false ∧ r.size ≤ s.size) (fun _ wr => leftS b wr)
  case atStart => exact ⟨0, [], s, .inr rfl, Lib.hid rfl, h0, C0, C1, C2, F0, Nat.le_refl _⟩
  case round =>
    obtain ⟨k, pre, r, _, hst, hJ, d0, d1, d2, df, hrs⟩ := hrel
    clear C0 C1 C2 F0 c0 c1 c2 f0
    have hm := leftS_eq d0
    have hge := Lib.indexByte_ge r.data.toList 47
    rcases Int.lt_or_le (Lib.indexByte r.data.toList 47) 0 with hi | hi
    · have hlast := stepsB_no hi
      have hi1 : Lib.indexByte r.data.toList 47 = -1 := by omega
      obtain ⟨fn, tmps, assign, body, hy, hR⟩ := hY pre r wr hJ (by rw [← hst.out, hlast]; exact List.prefix_refl _)
      have HST := Lib.hid (show pre ++ [r] = stepsB s by rw [← hst.out, hlast])
      clear hst hlast hY
      gi_wp2_with (refine ⟨trivial, ?_⟩; gi_at_call 73; refine (callsIn_wide.2 (Tryd.strings_Index_one _ _ _)).mono ?_; rintro e w' ⟨rfl, rfl⟩; rw [hi1])
      refine hR.mono ?_
      rintro e W3 (⟨rfl, hJ3, hk3⟩ | ⟨rfl, hJx3⟩)
      · gi_wp2
        go_end0
        exact ⟨⟨_, rfl⟩, .inl (by rw [← HST.out]; exact hJ3)⟩
      · gi_wp2
        go_end0
        exact ⟨⟨_, rfl⟩, .inr ⟨_, hJx3⟩⟩
    · obtain ⟨o, ho⟩ := Int.eq_ofNat_of_zero_le hi
      have hlt := index_lt ho
      have hyes := stepsB_yes ho
      obtain ⟨fn, tmps, assign, body, hy, hR⟩ := hY pre (r.extract 0 o) wr hJ (by rw [← hst.out, hyes]; exact ⟨stepsB (r.extract (o + 1) r.size), by simp⟩)
      have HST := Lib.hid (show (pre ++ [r.extract 0 o]) ++ stepsB (r.extract (o + 1) r.size) = stepsB s by rw [← hst.out, hyes, List.append_assoc]; rfl)
      clear hst hyes hY
      gi_wp2_with (refine ⟨trivial, ?_⟩; gi_at_call 73; refine (callsIn_wide.2 (Tryd.strings_Index_one _ _ _)).mono ?_; rintro e w' ⟨rfl, rfl⟩; rw [ho])
      refine hR.mono ?_
      rintro e W3 (⟨rfl, hJ3, hk3⟩ | ⟨rfl, hJx3⟩)
      · have e0 := (hk3.cell (p := ⟨b, 0, none⟩) hb).trans d0
        have e1 := (hk3.cell (p := ⟨b1, 0, none⟩) hb1).trans d1
        have e2 := (hk3.cell (p := ⟨b2, 0, none⟩) hb2).trans d2
        have ef := (World.frozen?_of_block (a := ⟨b, 0, none⟩) (hk3.block b hb)).trans df
        clear d0 d1 d2 df
        gi_wp2
        have g0 : (W3.setCell ⟨b, 0, none⟩ (.string (r.extract (o + 1) r.size))).cell? ⟨b, 0, none⟩ = some (.string (r.extract (o + 1) r.size)) := World.cell?_setCell_same' _ _ _ (by rw [e0]; rfl)
        have hsz : (r.extract (o + 1) r.size).size = r.size - (o + 1) := by rw [ByteArray.size_extract]; omega
        go_roundw
        case rel => exact ⟨_, _, _, .inl rfl, HST, hJs _ _ _ hJ3, g0, (World.cell?_setCell_other _ _ _ _ (fun h => n1 (by injection h with h; exact h.symm))).trans e1, (World.cell?_setCell_other _ _ _ _ (fun h => n2 (by injection h with h; exact h.symm))).trans e2, by rw [World.frozen?_setCell]; exact ef, by omega⟩
        case measure => rw [leftS_eq g0, hm, hsz]; omega
      · gi_wp2
        refine bodyPost_ret (results_none rfl _ _ _) rfl ?_
        exact ⟨⟨_, rfl⟩, .inr ⟨_, hJx3⟩⟩
end Go.Proofs.YtkoemhdchoicaaaDoor

/- path.Good: each step between the slashes is named. -/
namespace Go.Proofs.YtkoemhdchoicaaaDoor
open Go.RowKit Go.Shelf
attribute [local go_sem] Oper.semAt_some
def goodP (s : ByteArray) : Bool := decide (s = ⟨#[47]⟩) || (decide (s.size ≤ 200) && Lib.hasPrefix s.data.toList [47] && (stepsB (s.extract 1 s.size)).all fun x => named (bs x))
theorem splitSeq_is (s sep : ByteArray) (w : World) :
    Calls Tryd.prog 53 #[.string s, .string sep] w fun e w' => e = .returned (.func (.func 71) #[] #[.pointer (some ⟨w.heap.size + 1, 0, none⟩), .pointer (some ⟨w.heap.size, 0, none⟩), .pointer (some ⟨w.heap.size + 2, 0, none⟩)]) ∧
      w' = ((w.alloc (.cells #[.string s] 9)).alloc (.cells #[.string sep] 9)).alloc (.cells #[.int .i64 0] 3) := by
  go_enter Tryd.func53, Tryd.ntmps53
  go_wp2
  go_ret
  exact ⟨rfl, rfl⟩
theorem stepsB_size (s : ByteArray) : ∀ x ∈ stepsB s, x.size ≤ s.size := by
  generalize hn : s.size = n
  induction n using Nat.strongRecOn generalizing s with
  | ind n ih =>
    intro x hx
    rcases Int.lt_or_le (Lib.indexByte s.data.toList 47) 0 with hi | hi
    · rw [stepsB_no hi] at hx
      simp at hx
      subst hx
      omega
    · obtain ⟨o, ho⟩ := Int.eq_ofNat_of_zero_le hi
      have hlt := index_lt ho
      rw [stepsB_yes ho] at hx
      rcases List.mem_cons.1 hx with rfl | h
      · rw [ByteArray.size_extract]; omega
      · have hsz : (s.extract (o + 1) s.size).size = s.size - (o + 1) := by rw [ByteArray.size_extract]; omega
        have := ih (s.size - (o + 1)) (by omega) _ hsz x h
        omega
set_option maxHeartbeats 1000000 in
theorem good_steps (s : ByteArray) (w : World) (hs : s.size ≤ 200) (hne : (s.toList == [47]) = false) (hp : Lib.hasPrefix s.data.toList [47] = true) :
    Calls Tryd.prog 38 #[.string s] w fun e w' => e = .returned (.bool ((stepsB (s.extract 1 s.size)).all fun x => named (bs x))) ∧ Below w.heap.size w w' := by
  have h1 : 1 ≤ s.size := by
    cases hd : s.data.toList with
    | nil => rw [hd] at hp; cases hp
    | cons x r =>
      have : s.data.toList.length = s.size := by simp
      rw [hd] at this
      simp at this
      omega
  have hgt : (decide ((200 : Int) < (s.size : Int))) = false := decide_eq_false (by omega)
  refine (callsIn_wide (n := 9)).1 ?_
  refine callsIn_of_wp_marks Tryd.func38 rfl trivial ?_ rfl
  simp only [Tryd.ntmps38, List.size_toArray, List.length_cons, List.length_nil, Nat.reduceAdd, Nat.reduceSub, Array.replicate_succ, Array.replicate_zero, List.push_toArray, List.append_toArray, List.nil_append, List.cons_append]
  gi_wp2_with (first | (refine ⟨trivial, ?_⟩; gi_at_call 52; refine (callsIn_wide.2 (Tryd.strings_HasPrefix _ _ _)).mono ?_; rintro e w' ⟨rfl, rfl⟩; rw [hp]) | (refine ⟨trivial, ?_⟩; gi_at_call 53; refine (callsIn_wide.2 (splitSeq_is _ _ _)).mono ?_; rintro e w' ⟨rfl, rfl⟩))
  generalize hT : s.extract 1 s.size = t at *
  have hts : t.size ≤ 200 := by rw [← hT, ByteArray.size_extract]; omega
  have HTT := Lib.hid hT
  clear hT hgt hne hp
  obtain ⟨W0, hW0⟩ : ∃ W0, ((((w.alloc (.cells #[.bool false] 4)).alloc (.cells #[.string t] 9)).alloc (.cells #[.string ⟨#[47]⟩] 9)).alloc (.cells #[.int .i64 0] 3)) = W0 := ⟨_, rfl⟩
  have hsz : W0.heap.size = w.heap.size + 1 + 1 + 1 + 1 := by subst hW0; simp
  have hB0 : Below w.heap.size w W0 := by subst hW0; exact (by repeat (first | exact Below.refl _ _ | assumption | refine Below.drew ?_ | refine Below.drewN' ?_ _ | refine below_grow0 _ _ ?_ | refine below_alloc0 _ ?_ | refine Below.alloc ?_ (by first | omega | (simp; done) | (simp; omega)) _ | refine Below.setCell ?_ (by first | omega | (simp; done) | (simp; omega)) _ | refine Below.grow _ _ _ ?_ (by first | omega | (simp; done) | (simp; omega))))
  have r0 : W0.cell? ⟨w.heap.size, 0, none⟩ = some (.bool false) := by subst hW0; go_simp
  have f0 : W0.frozen? ⟨w.heap.size, 0, none⟩ = false := by subst hW0; go_simp
  have s0 : W0.cell? ⟨w.heap.size + 1, 0, none⟩ = some (.string t) := by subst hW0; go_simp
  have g0 : W0.frozen? ⟨w.heap.size + 1, 0, none⟩ = false := by subst hW0; go_simp
  have s1 : W0.cell? ⟨w.heap.size + 1 + 1, 0, none⟩ = some (.string ⟨#[47]⟩) := by subst hW0; go_simp
  have s2 : W0.cell? ⟨w.heap.size + 1 + 1 + 1, 0, none⟩ = some (.int .i64 0) := by subst hW0; go_simp
  rw [hW0]
  clear hW0
  refine wpIn_range_cells (S := stepsB t) (b := w.heap.size + 1) rfl (by omega) rfl trivial (enters_of Tryd.func71 (by kernel_rfl) rfl) (by omega)
    (split_stops 8 (by omega) W0 (w.heap.size + 1) (w.heap.size + 1 + 1) (w.heap.size + 1 + 2) t s0 g0 s1 s2 (by omega) (by omega) (by omega)) (fun _ => rfl)
    (fun pre W => (W.cell? ⟨w.heap.size, 0, none⟩ = some (.bool false) ∧ W.frozen? ⟨w.heap.size, 0, none⟩ = false ∧ Hid (∀ x ∈ pre, named (bs x) = true)) ∧ Below w.heap.size w W)
    (fun c pre W => (W.cell? ⟨w.heap.size, 0, none⟩ = some (.bool false) ∧ W.frozen? ⟨w.heap.size, 0, none⟩ = false ∧ Hid (c = .ret ∧ ((stepsB t).all fun x => named (bs x)) = false)) ∧ Below w.heap.size w W)
    (OwnFrom.and (Own.from (fun s A B row hs hg hr => ⟨cell_kept hs.1 hg hr, (frozen_kept hs.1 hg hr).trans hs.2.1, hs.2.2⟩) _) (ownFrom_below (Nat.le_refl _) (by omega)))
    (fun c => OwnFrom.and (Own.from (fun s A B row hs hg hr => ⟨cell_kept hs.1 hg hr, (frozen_kept hs.1 hg hr).trans hs.2.1, hs.2.2⟩) _) (ownFrom_below (Nat.le_refl _) (by omega)))
    (fun s A v h => ⟨⟨(World.cell?_setCell_other _ _ _ _ (fun h => by injection h with h; omega)).trans h.1.1, (World.frozen?_setCell ..).trans h.1.2.1, h.1.2.2⟩, h.2.setCell (p := ⟨w.heap.size + 1, 0, none⟩) (Nat.le_succ _) _⟩)
    ⟨⟨r0, f0, Lib.hid (by simp)⟩, hB0⟩
    (fun x => { tmps := #[.string s, undef, .pointer (some ⟨w.heap.size, 0, none⟩), .string x, .string s, .bool false, .string s, .int .i64 s.size, .bool false, .bool false, .string s, .bool true, .bool false, .bool false, .string s, .string t, .func (.func 71) #[] #[.pointer (some ⟨w.heap.size + 1 + 1, 0, none⟩), .pointer (some ⟨w.heap.size + 1, 0, none⟩), .pointer (some ⟨w.heap.size + 1 + 2, 0, none⟩)], .string x, undef, undef, undef], defers := [] }) ?assign ?body ?done ?stop
  case assign =>
    intro l x W K hK
    gi_wp2
    exact hK
  case body =>
    rintro l pre x W ⟨⟨hc, hf, hall⟩, hB⟩ hpre
    have hmem : x ∈ stepsB t := hpre.subset (by simp)
    have hx := stepsB_size t x hmem
    cases hn : named (bs x) with
    | true =>
      have HA := Lib.hid (show ∀ y ∈ pre ++ [x], named (bs y) = true from fun y hy => by
        rcases List.mem_append.1 hy with h | h
        · exact hall.out y h
        · simp at h; subst h; exact hn)
      clear hall hmem hpre
      gi_wp2_with (refine ⟨trivial, ?_⟩; gi_at_call 42; refine (CallsIn.inRound l (callsIn_wide.2 (named_any x _ (by omega)))).mono ?_; rintro e w' ⟨rfl, rfl⟩; rw [hn])
      exact ⟨KeepsOthers.refl _, Below.refl _ _, ⟨hc, hf, HA⟩, hB⟩
    | false =>
      have HA := Lib.hid (show ((stepsB t).all fun x => named (bs x)) = false by rw [List.all_eq_false]; exact ⟨x, hmem, by simp [hn]⟩)
      clear hall hmem hpre
      gi_wp2_with (refine ⟨trivial, ?_⟩; gi_at_call 42; refine (CallsIn.inRound l (callsIn_wide.2 (named_any x _ (by omega)))).mono ?_; rintro e w' ⟨rfl, rfl⟩; rw [hn])
      exact ⟨KeepsOthers.setCell _ _ _, ⟨World.cell?_setCell_same' _ _ _ (by rw [hc]; rfl), by rw [World.frozen?_setCell]; exact hf, Lib.hid ⟨rfl, HA.out⟩⟩, hB.setCell (p := ⟨w.heap.size, 0, none⟩) (Nat.le_refl _) _⟩
  case done =>
    rintro D W hD ⟨⟨hc, hf, hall⟩, hB⟩ hK
    have hT : ((stepsB t).all fun x => named (bs x)) = true := List.all_eq_true.2 hall.out
    have HA := Lib.hid hT
    clear hall hT
    gi_wp2
    have hK' := (KeepsOthers.setCell W ⟨w.heap.size, 0, none⟩ (.bool true)).same D _ hK rfl
    refine ⟨by simp, .inl ⟨_, _, rfl, run_takeDeferred hK', ?_⟩⟩
    have hc5 := cell_kept (World.cell?_setCell_same' W ⟨w.heap.size, 0, none⟩ (.bool true) (by rw [hc]; rfl)) (grownBy_putObj' _ D (.deferred none)) (fun r e => by cases e; exact ⟨_, hK', rfl⟩)
    refine ⟨.bool true, ?_, by rw [HTT.out, HA.out], (hB.setCell (p := ⟨w.heap.size, 0, none⟩) (Nat.le_refl _) _).trans (belowK_b (w := w) (Nat.le_refl _) _ D _ _ (by omega) hK' rfl rfl)⟩
    simp [results, Tryd.f38, go_sem, hc5]
  case stop =>
    rintro D c pre W hD ⟨⟨hc, hf, hbad⟩, hB⟩ hK
    obtain ⟨rfl, hb⟩ := hbad.out
    have HA := Lib.hid hb
    clear hbad hb
    gi_wp2
    refine ⟨by simp, .inl ⟨_, _, rfl, run_takeDeferred hK, ?_⟩⟩
    have hc5 := cell_kept hc (grownBy_putObj' _ D (.deferred none)) (fun r e => by cases e; exact ⟨_, hK, rfl⟩)
    refine ⟨.bool false, ?_, by rw [HTT.out, HA.out], hB.trans (belowK_b (w := w) (Nat.le_refl _) W D _ _ (by omega) hK rfl rfl)⟩
    simp [results, Tryd.f38, go_sem, hc5]
theorem bytes_eqB {a b : ByteArray} (e : a.toList = b.toList) : a = b := by
  rw [ByteArray.toList_eq, ByteArray.toList_eq] at e
  exact ByteArray.ext (Array.toList_inj.mp e)
set_option maxHeartbeats 1000000 in
/-- path.Good, at every text -/
theorem good_any (s : ByteArray) (w : World) (hs : s.size ≤ 9223372036854775807) :
    Calls Tryd.prog 38 #[.string s] w fun e w' => e = .returned (.bool (goodP s)) ∧ Below w.heap.size w w' := by
  by_cases hr : s = ⟨#[47]⟩
  · subst hr
    have hg : goodP ⟨#[47]⟩ = true := by unfold goodP; rw [decide_eq_true rfl]; rfl
    rw [hg]
    go_enter Tryd.func38, Tryd.ntmps38
    go_wp2
    refine bodyPost_ret (v := .bool true) (by simp [results, Tryd.f38, go_sem]) rfl ⟨rfl, (by repeat (first | exact Below.refl _ _ | assumption | refine Below.drew ?_ | refine Below.drewN' ?_ _ | refine below_grow0 _ _ ?_ | refine below_alloc0 _ ?_ | refine Below.alloc ?_ (by first | omega | (simp; done) | (simp; omega)) _ | refine Below.setCell ?_ (by first | omega | (simp; done) | (simp; omega)) _ | refine Below.grow _ _ _ ?_ (by first | omega | (simp; done) | (simp; omega))))⟩
  · have hne : (s.toList == [47]) = false := beq_eq_false_iff_ne.2 (fun e => hr (bytes_eqB (by rw [e, ByteArray.toList_eq])))
    by_cases h200 : s.size ≤ 200
    · cases hp : Lib.hasPrefix s.data.toList [47] with
      | true =>
        have hg : goodP s = ((stepsB (s.extract 1 s.size)).all fun x => named (bs x)) := by unfold goodP; rw [decide_eq_false hr, decide_eq_true h200, hp]; rfl
        rw [hg]
        exact good_steps s w h200 hne hp
      | false =>
        have hg : goodP s = false := by unfold goodP; rw [decide_eq_false hr, hp]; simp
        have hgt : (decide ((200 : Int) < (s.size : Int))) = false := decide_eq_false (by omega)
        rw [hg]
        clear hg
        go_enter Tryd.func38, Tryd.ntmps38
        go_wp2_with (go_at_call 52; refine (Tryd.strings_HasPrefix _ _ _).mono ?_; rintro e w' ⟨rfl, rfl⟩; rw [hp])
        refine bodyPost_ret (v := .bool false) (by simp [results, Tryd.f38, go_sem]) rfl ⟨rfl, (by repeat (first | exact Below.refl _ _ | assumption | refine Below.drew ?_ | refine Below.drewN' ?_ _ | refine below_grow0 _ _ ?_ | refine below_alloc0 _ ?_ | refine Below.alloc ?_ (by first | omega | (simp; done) | (simp; omega)) _ | refine Below.setCell ?_ (by first | omega | (simp; done) | (simp; omega)) _ | refine Below.grow _ _ _ ?_ (by first | omega | (simp; done) | (simp; omega))))⟩
    · have hg : goodP s = false := by unfold goodP; rw [decide_eq_false hr, decide_eq_false h200]; simp
      have hgt : (decide ((200 : Int) < (s.size : Int))) = true := decide_eq_true (by omega)
      rw [hg]
      clear hg
      go_enter Tryd.func38, Tryd.ntmps38
      go_wp2_with fail
      refine bodyPost_ret (v := .bool false) (by simp [results, Tryd.f38, go_sem]) rfl ⟨rfl, (by repeat (first | exact Below.refl _ _ | assumption | refine Below.drew ?_ | refine Below.drewN' ?_ _ | refine below_grow0 _ _ ?_ | refine below_alloc0 _ ?_ | refine Below.alloc ?_ (by first | omega | (simp; done) | (simp; omega)) _ | refine Below.setCell ?_ (by first | omega | (simp; done) | (simp; omega)) _ | refine Below.grow _ _ _ ?_ (by first | omega | (simp; done) | (simp; omega))))⟩
end Go.Proofs.YtkoemhdchoicaaaDoor

/- path.Under, Split, Join, Depth. -/
namespace Go.Proofs.YtkoemhdchoicaaaDoor
open Go.RowKit Go.Shelf
def slash : ByteArray := ⟨#[47]⟩
def underB (s t : ByteArray) : Bool := goodP s && goodP t && decide (s ≠ t) && (decide (t = slash) || Lib.hasPrefix s.data.toList (t ++ slash).data.toList)
theorem goodP_size {s : ByteArray} (h : goodP s = true) : 1 ≤ s.size ∧ s.size ≤ 200 := by
  unfold goodP at h
  by_cases hs : s = ⟨#[47]⟩
  · subst hs; decide
  · rw [decide_eq_false hs, Bool.false_or] at h
    simp only [Bool.and_eq_true, decide_eq_true_iff] at h
    obtain ⟨⟨h1, hp⟩, _⟩ := h
    refine ⟨?_, h1⟩
    cases hd : s.data.toList with
    | nil => rw [hd] at hp; cases hp
    | cons x r =>
      have : s.data.toList.length = s.size := by simp
      rw [hd] at this
      simp at this
      omega
theorem ne_bytes {a b : ByteArray} (h : a ≠ b) : (a.toList == b.toList) = false := beq_eq_false_iff_ne.2 (fun e => h (bytes_eqB e))
theorem ne_slash {a : ByteArray} (h : a ≠ slash) : (a.toList == [47]) = false := beq_eq_false_iff_ne.2 (fun e => h (bytes_eqB (by rw [e]; unfold slash; rw [ByteArray.toList_eq])))
/-- where the last slash stands -/
def lastP (s : ByteArray) : Nat := (Lib.lastIndexByte s 47).toNat
theorem lastP_is {s : ByteArray} (hp : Lib.hasPrefix s.data.toList [47] = true) : Lib.lastIndexByte s 47 = (lastP s : Int) ∧ lastP s < s.size := by
  rcases Lib.lastIndexByte_spec s 47 with ⟨e, hn⟩ | ⟨i, hi, e, _⟩
  · exfalso
    cases hd : s.data.toList with
    | nil => rw [hd] at hp; cases hp
    | cons x r =>
      rw [hd] at hp
      have hx : (47 : UInt8) = x := by simpa [Lib.hasPrefix, List.isPrefixOf] using hp
      have hl : s.data.toList.length = s.size := by simp
      have h0 : 0 < s.size := by rw [hd] at hl; simp at hl; omega
      refine hn 0 h0 ?_
      have : s.data[0]! = x := by
        rw [← Array.getElem!_toList, hd]; rfl
      rw [this, ← hx]
      rfl
  · unfold lastP
    rw [e]
    exact ⟨by simp, by simpa using hi⟩
theorem goodP_pre {s : ByteArray} (h : goodP s = true) (hs : s ≠ slash) : Lib.hasPrefix s.data.toList [47] = true ∧ ((stepsB (s.extract 1 s.size)).all fun x => named (bs x)) = true := by
  unfold goodP at h
  rw [decide_eq_false (show ¬ s = ⟨#[47]⟩ from hs), Bool.false_or] at h
  simp only [Bool.and_eq_true] at h
  exact ⟨h.1.2, h.2⟩
def splitR (s : ByteArray) : ByteArray × ByteArray × Int := if goodP s then (if s = slash then (⟨#[]⟩, ⟨#[]⟩, 7) else if lastP s = 0 then (slash, s.extract 1 s.size, 0) else (s.extract 0 (lastP s), s.extract (lastP s + 1) s.size, 0)) else (⟨#[]⟩, ⟨#[]⟩, 2)
def joinT (d n : ByteArray) : ByteArray := if d = slash then slash ++ n else d ++ slash ++ n
def joinR (d n : ByteArray) : ByteArray × Int := if goodP d && named (bs n) then (if 200 < (joinT d n).size then (⟨#[]⟩, 1) else (joinT d n, 0)) else (⟨#[]⟩, 2)
def depthR (s : ByteArray) : Int × Int := if goodP s then (if s = slash then (0, 0) else ((Lib.countByte s.data.toList 47 : Nat), 0)) else (0, 2)
end Go.Proofs.YtkoemhdchoicaaaDoor

/- joins; plain laws of Under. -/
namespace Go.Proofs.YtkoemhdchoicaaaDoor
open Go.RowKit
theorem under_self (a : ByteArray) : underB a a = false := by unfold underB; simp
theorem good_nil : goodP ⟨#[]⟩ = false := by
  cases h : goodP ⟨#[]⟩ with
  | false => rfl
  | true => have := (goodP_size h).1; cases this
theorem under_parts {s t : ByteArray} (h : underB s t = true) : goodP s = true ∧ goodP t = true ∧ s ≠ t ∧ (t = slash ∨ ∃ r, s.data.toList = t.data.toList ++ 47 :: r) := by
  unfold underB at h
  simp only [Bool.and_eq_true, Bool.or_eq_true, decide_eq_true_iff] at h
  obtain ⟨⟨⟨h1, h2⟩, h3⟩, h4⟩ := h
  refine ⟨h1, h2, h3, h4.imp id fun h => ?_⟩
  have := List.isPrefixOf_iff_prefix.1 h
  obtain ⟨r, hr⟩ := this
  exact ⟨r, by rw [← hr, ByteArray.data_append]; simp [slash]⟩
theorem good_len {s : ByteArray} (h : goodP s = true) : 1 ≤ s.data.toList.length := by
  have := (goodP_size h).1
  have h2 : s.data.toList.length = s.size := by simp
  omega
theorem slash_under {t : ByteArray} (h : underB slash t = true) : False := by
  obtain ⟨h1, h2, h3, h4⟩ := under_parts h
  rcases h4 with h | ⟨r, h⟩
  · exact h3 h.symm
  · have := congrArg List.length h
    have h5 := good_len h2
    simp [slash] at this
    simp at h5
    omega
theorem under_both {a b : ByteArray} (h : underB a b = true) (k : underB b a = true) : False := by
  obtain ⟨_, _, _, h4⟩ := under_parts h
  obtain ⟨_, _, _, k4⟩ := under_parts k
  rcases h4 with rfl | ⟨r, h5⟩
  · exact slash_under k
  · rcases k4 with rfl | ⟨q, k5⟩
    · exact slash_under h
    · have := congrArg List.length h5
      have := congrArg List.length k5
      simp at *
      omega
theorem under_trans {a b c : ByteArray} (h : underB a b = true) (k : underB b c = true) : underB a c = true := by
  obtain ⟨h1, h2, h3, h4⟩ := under_parts h
  obtain ⟨k1, k2, k3, k4⟩ := under_parts k
  have hac : a ≠ c := by
    rintro rfl
    exact under_both h k
  have hor : (decide (c = slash) || Lib.hasPrefix a.data.toList (c ++ slash).data.toList) = true := by
    rcases k4 with rfl | ⟨q, k4⟩
    · simp
    · rcases h4 with rfl | ⟨r, h4⟩
      · exact absurd k (fun k => slash_under k)
      · rw [Bool.or_eq_true]
        refine .inr (List.isPrefixOf_iff_prefix.2 ⟨q ++ 47 :: r, ?_⟩)
        rw [h4, k4, ByteArray.data_append]
        simp [slash]
  unfold underB
  rw [h1, k2, decide_eq_true hac, hor]
  rfl
end Go.Proofs.YtkoemhdchoicaaaDoor

/- Paths as lists of bytes: plain laws of steps, joined and taken apart. -/
namespace Go.Proofs.YtkoemhdchoicaaaDoor
open Go.RowKit
def stepsL : List UInt8 → List (List UInt8)
  | [] => [[]]
  | c :: r => if c = 47 then [] :: stepsL r else (c :: (stepsL r).headD []) :: (stepsL r).tail
theorem stepsL_cons (c : UInt8) (r : List UInt8) : stepsL (c :: r) = if c = 47 then [] :: stepsL r else (c :: (stepsL r).headD []) :: (stepsL r).tail := rfl
theorem stepsL_ne : ∀ l, ∃ h t, stepsL l = h :: t
  | [] => ⟨[], [], rfl⟩
  | c :: r => by
    unfold stepsL
    split
    · exact ⟨_, _, rfl⟩
    · exact ⟨_, _, rfl⟩
theorem stepsL_app : ∀ (x y : List UInt8), stepsL (x ++ 47 :: y) = stepsL x ++ stepsL y
  | [], y => by simp [stepsL]
  | c :: r, y => by
    have ih := stepsL_app r y
    obtain ⟨h, t, e⟩ := stepsL_ne r
    rw [List.cons_append, stepsL_cons, stepsL_cons, ih, e]
    split <;> simp
theorem stepsL_none : ∀ (l : List UInt8), (47 : UInt8) ∉ l → stepsL l = [l]
  | [], _ => rfl
  | c :: r, h => by
    have ih := stepsL_none r (fun k => h (List.mem_cons_of_mem _ k))
    have hc : c ≠ 47 := fun e => h (by rw [e]; exact List.mem_cons_self)
    unfold stepsL
    rw [if_neg hc, ih]
    rfl
theorem bs_extract (s : ByteArray) (a b : Nat) : bs (s.extract a b) = ((bs s).take b).drop a := by
  unfold bs
  rw [ByteArray.data_extract, Array.toList_extract, List.extract_eq_take_drop, List.drop_take]
theorem bs_append (a b : ByteArray) : bs (a ++ b) = bs a ++ bs b := by unfold bs; rw [ByteArray.data_append]; simp
theorem bs_inj {a b : ByteArray} (h : bs a = bs b) : a = b := ByteArray.ext (Array.toList_inj.mp h)
theorem cut_at {l : List UInt8} {o : Nat} (h : l[o]? = some 47) : l = l.take o ++ 47 :: l.drop (o + 1) := by
  obtain ⟨h1, h2⟩ := List.getElem?_eq_some_iff.1 h
  rw [← h2, List.getElem_cons_drop, List.take_append_drop]
theorem stepsB_L (s : ByteArray) : (stepsB s).map bs = stepsL (bs s) := by
  generalize hn : s.size = n
  induction n using Nat.strongRecOn generalizing s with
  | ind n ih =>
    rcases Int.lt_or_le (Lib.indexByte s.data.toList 47) 0 with hi | hi
    · have hge := Lib.indexByte_ge s.data.toList 47
      have hno := Lib.indexByte_none (show Lib.indexByte s.data.toList 47 = -1 by omega)
      rw [stepsB_no hi, stepsL_none]
      · rfl
      · intro hm
        obtain ⟨k, hk⟩ := List.mem_iff_getElem?.1 hm
        exact hno k hk
    · obtain ⟨o, ho⟩ := Int.eq_ofNat_of_zero_le hi
      have hlt := index_lt ho
      have hso := Lib.indexByte_some ho
      have hsz : (s.extract (o + 1) s.size).size = s.size - (o + 1) := by rw [ByteArray.size_extract]; omega
      have h2 := ih (s.size - (o + 1)) (by omega) _ hsz
      have hl : (bs s).length = s.size := length_bs s
      have hno : (47 : UInt8) ∉ (bs s).take o := by
        intro hm
        obtain ⟨k, hk⟩ := List.mem_iff_getElem?.1 hm
        rw [List.getElem?_take] at hk
        split at hk
        · rename_i hko; exact hso.2 k hko hk
        · cases hk
      have hR : stepsL (bs s) = (bs s).take o :: stepsL ((bs s).drop (o + 1)) := by
        conv => lhs; rw [cut_at (show (bs s)[o]? = some 47 from hso.1)]
        rw [stepsL_app, stepsL_none _ hno]
        rfl
      rw [stepsB_yes ho, List.map_cons, h2, bs_extract, bs_extract, List.take_of_length_le (show (bs s).length ≤ s.size by omega), hR]
      rfl
def goodL (l : List UInt8) : Bool := decide (l = [47]) || (decide (l.length ≤ 200) && match l with
  | c :: r => c == 47 && (stepsL r).all named
  | [] => false)
theorem goodP_L (s : ByteArray) : goodP s = goodL (bs s) := by
  unfold goodP goodL
  have h1 : decide (s = ⟨#[47]⟩) = decide (bs s = [47]) := by
    by_cases h : s = ⟨#[47]⟩
    · subst h; rfl
    · rw [decide_eq_false h, decide_eq_false (fun k => h (bs_inj (by rw [k]; rfl)))]
  have h2 : decide (s.size ≤ 200) = decide ((bs s).length ≤ 200) := by rw [length_bs]
  rw [h1, h2, Bool.and_assoc]
  congr 2
  have h3 : ((stepsB (s.extract 1 s.size)).all fun x => named (bs x)) = (stepsL ((bs s).drop 1)).all named := by
    have := stepsB_L (s.extract 1 s.size)
    rw [bs_extract, List.take_of_length_le (by rw [length_bs]; exact Nat.le_refl _)] at this
    rw [← this, List.all_map]
    rfl
  rw [h3]
  show (Lib.hasPrefix (bs s) [47] && _) = _
  cases bs s with
  | nil => rfl
  | cons c r =>
    have hc : ((47 : UInt8) == c) = (c == 47) := by
      by_cases h : c = 47
      · subst h; rfl
      · rw [beq_eq_false_iff_ne.2 h, beq_eq_false_iff_ne.2 (Ne.symm h)]
    simp [Lib.hasPrefix, List.isPrefixOf, hc]
theorem named_no {l : List UInt8} (h : named l = true) : (47 : UInt8) ∉ l ∧ 1 ≤ l.length ∧ l.length ≤ 40 := by
  unfold named at h
  simp only [Bool.and_eq_true, decide_eq_true_iff] at h
  refine ⟨fun hm => ?_, h.1.2, h.2⟩
  have := List.all_eq_true.1 h.1.1 _ hm
  revert this
  decide
theorem goodL_root (n : List UInt8) (hn : (47 : UInt8) ∉ n) (hl : (47 :: n).length ≤ 200) : goodL (47 :: n) = (decide (n = []) || named n) := by
  show (decide (47 :: n = [47]) || (decide ((47 :: n).length ≤ 200) && ((47 : UInt8) == 47 && (stepsL n).all named))) = (decide (n = []) || named n)
  rw [stepsL_none n hn, decide_eq_true hl]
  simp
theorem goodL_deep (c : UInt8) (r n : List UInt8) (hd : c :: r ≠ [47]) (hn : (47 : UInt8) ∉ n) (hl : (c :: r ++ 47 :: n).length ≤ 200) : goodL (c :: r ++ 47 :: n) = (goodL (c :: r) && named n) := by
  show (decide (c :: (r ++ 47 :: n) = [47]) || (decide ((c :: (r ++ 47 :: n)).length ≤ 200) && (c == 47 && (stepsL (r ++ 47 :: n)).all named))) = ((decide (c :: r = [47]) || (decide ((c :: r).length ≤ 200) && (c == 47 && (stepsL r).all named))) && named n)
  have h1 : decide (c :: (r ++ 47 :: n) = [47]) = false := decide_eq_false (by simp)
  have h2 : decide (c :: r = [47]) = false := decide_eq_false hd
  have h3 : (c :: r).length ≤ 200 := by simp at hl ⊢; omega
  rw [h1, h2, stepsL_app, stepsL_none n hn, List.all_append, decide_eq_true (show (c :: (r ++ 47 :: n)).length ≤ 200 from hl), decide_eq_true h3]
  simp [Bool.and_assoc]
theorem lastP_spec {s : ByteArray} (hp : Lib.hasPrefix s.data.toList [47] = true) : (bs s)[lastP s]? = some 47 ∧ (47 : UInt8) ∉ (bs s).drop (lastP s + 1) := by
  obtain ⟨hL, hlt⟩ := lastP_is hp
  have get : ∀ j, j < s.size → (((s.data[j]!).toNat : Int) = 47 ↔ (bs s)[j]? = some 47) := by
    intro j hj
    have hj2 : j < (bs s).length := by rw [length_bs]; exact hj
    have h1 : s.data[j]! = (bs s)[j] := by
      rw [← Array.getElem!_toList]
      exact getElem!_pos s.data.toList j hj2
    rw [h1, List.getElem?_eq_getElem hj2]
    constructor
    · intro h
      have h2 : (bs s)[j].toNat = (47 : UInt8).toNat := by
        have : (47 : UInt8).toNat = 47 := rfl
        omega
      rw [UInt8.toNat_inj.1 h2]
    · intro h
      injection h with h
      rw [h]; rfl
  rcases Lib.lastIndexByte_spec s 47 with ⟨e, _⟩ | ⟨i, hi, e, hc, hn⟩
  · omega
  · have hik : lastP s = i := by omega
    rw [hik]
    refine ⟨(get i hi).1 hc, fun hm => ?_⟩
    obtain ⟨k, hk⟩ := List.mem_iff_getElem?.1 hm
    rw [List.getElem?_drop] at hk
    have hk2 : i + 1 + k < s.size := by
      have := (List.getElem?_eq_some_iff.1 hk).1
      rw [length_bs] at this
      exact this
    exact hn (i + 1 + k) (by omega) hk2 ((get _ hk2).2 hk)
/-- a text whose last slash stands behind d -/
theorem lastP_of {s : ByteArray} {d n : List UInt8} (h : bs s = d ++ 47 :: n) (hn : (47 : UInt8) ∉ n) (hp : Lib.hasPrefix s.data.toList [47] = true) : lastP s = d.length := by
  obtain ⟨h1, h2⟩ := lastP_spec hp
  rw [h] at h1 h2
  rcases Nat.lt_trichotomy (lastP s) d.length with hlt | heq | hgt
  · exfalso
    apply h2
    rw [List.drop_append]
    have : d.length - (lastP s + 1) + (lastP s + 1) = d.length := by omega
    rw [show lastP s + 1 - d.length = 0 from by omega]
    simp
  · exact heq
  · exfalso
    rw [List.getElem?_append_right (by omega)] at h1
    obtain ⟨m, hm⟩ : ∃ m, lastP s - d.length = m + 1 := ⟨lastP s - d.length - 1, by omega⟩
    rw [hm, List.getElem?_cons_succ] at h1
    exact hn (List.mem_iff_getElem?.2 ⟨m, h1⟩)
theorem slash_bs : bs slash = [47] := rfl
theorem good_slash : goodP slash = true := by unfold goodP slash; rw [decide_eq_true rfl]; rfl
theorem pre_of_bs {s : ByteArray} {r : List UInt8} (h : bs s = 47 :: r) : Lib.hasPrefix s.data.toList [47] = true := by
  show Lib.hasPrefix (bs s) [47] = true
  rw [h]
  simp [Lib.hasPrefix, List.isPrefixOf]
theorem bs_pre {s : ByteArray} (h : Lib.hasPrefix s.data.toList [47] = true) : ∃ r, bs s = 47 :: r := by
  have h2 : Lib.hasPrefix (bs s) [47] = true := h
  cases hb : bs s with
  | nil => rw [hb] at h2; cases h2
  | cons c r =>
    rw [hb] at h2
    have : (47 : UInt8) = c := by simpa [Lib.hasPrefix, List.isPrefixOf] using h2
    exact ⟨r, by rw [← this]⟩
theorem size_bs (s : ByteArray) : s.size = (bs s).length := (length_bs s).symm
/-- what Split gives can be joined again -/
theorem split_join {s : ByteArray} (h : goodP s = true) (hs : s ≠ slash) : joinR (splitR s).1 (splitR s).2.1 = (s, 0) ∧ goodP (splitR s).1 = true ∧ named (bs (splitR s).2.1) = true ∧ (splitR s).2.2 = 0 := by
  obtain ⟨hp, _⟩ := goodP_pre h hs
  obtain ⟨h1, h2⟩ := lastP_spec hp
  have hcut := cut_at h1
  have hsz := goodP_size h
  have hlen : (bs s).length ≤ 200 := by rw [length_bs]; exact hsz.2
  have hbs : bs (s.extract (lastP s + 1) s.size) = (bs s).drop (lastP s + 1) := by
    rw [bs_extract, List.take_of_length_le (by rw [length_bs]; exact Nat.le_refl _)]
  have hg : goodL (bs s) = true := by rw [← goodP_L]; exact h
  unfold splitR
  rw [if_pos h, if_neg hs]
  by_cases hk : lastP s = 0
  · rw [if_pos hk]
    have hbs1 : bs (s.extract 1 s.size) = (bs s).drop 1 := by rw [hk] at hbs; exact hbs
    have hcut0 : bs s = [] ++ 47 :: bs (s.extract 1 s.size) := by
      rw [hbs1]
      rw [hk] at hcut
      simpa using hcut
    have hn : (47 : UInt8) ∉ bs (s.extract 1 s.size) := by rw [hbs1]; rw [hk] at h2; exact h2
    have hcut1 : bs s = 47 :: bs (s.extract 1 s.size) := hcut0
    have hj := goodL_root (bs (s.extract 1 s.size)) hn (by rw [← hcut1]; exact hlen)
    rw [← hcut1, hg] at hj
    have hne : bs (s.extract 1 s.size) ≠ [] := by
      intro h0
      rw [h0] at hcut0
      exact hs (bs_inj (by rw [hcut0]; rfl))
    have hnm : named (bs (s.extract 1 s.size)) = true := by
      simp only [decide_eq_false hne, Bool.false_or] at hj
      exact hj.symm
    refine ⟨?_, good_slash, hnm, rfl⟩
    have hjt : joinT slash (s.extract 1 s.size) = s := by
      unfold joinT
      rw [if_pos rfl]
      apply bs_inj
      rw [bs_append, slash_bs, hcut0]
      rfl
    unfold joinR
    rw [good_slash, hnm, hjt, Bool.and_self, if_pos rfl, if_neg (by omega)]
  · rw [if_neg hk]
    have hbd : bs (s.extract 0 (lastP s)) = (bs s).take (lastP s) := by rw [bs_extract]; rfl
    have hcut0 : bs s = bs (s.extract 0 (lastP s)) ++ 47 :: bs (s.extract (lastP s + 1) s.size) := by rw [hbd, hbs]; exact hcut
    have hn : (47 : UInt8) ∉ bs (s.extract (lastP s + 1) s.size) := by rw [hbs]; exact h2
    have hlt := (lastP_is hp).2
    have hdl : (bs (s.extract 0 (lastP s))).length = lastP s := by rw [hbd, List.length_take, length_bs]; omega
    generalize s.extract 0 (lastP s) = d at *
    generalize s.extract (lastP s + 1) s.size = n at *
    have hds : bs d ≠ [47] := by
      intro h0
      rw [h0] at hcut0
      have : goodL (47 :: 47 :: bs n) = true := by rw [hcut0] at hg; exact hg
      have h3 : (47 :: 47 :: bs n).length ≤ 200 := by rw [hcut0] at hlen; exact hlen
      have h4 := stepsL_cons 47 (bs n)
      unfold goodL at this
      simp only [h4, if_true, List.all_cons, decide_eq_false (show ¬ (47 :: 47 :: bs n = [47]) by simp)] at this
      have h5 : named [] = false := by decide
      rw [h5] at this
      simp at this
    cases hbd2 : bs d with
    | nil => rw [hbd2] at hdl; simp at hdl; omega
    | cons c r =>
      rw [hbd2] at hds
      have hcut1 : bs s = c :: r ++ 47 :: bs n := by rw [hcut0, hbd2]
      have hj := goodL_deep c r (bs n) hds hn (by rw [← hcut1]; exact hlen)
      rw [← hcut1, hg] at hj
      have hj2 : goodL (c :: r) = true ∧ named (bs n) = true := by
        have := hj.symm
        simpa [Bool.and_eq_true] using this
      have hgd : goodP d = true := by rw [goodP_L, hbd2]; exact hj2.1
      have hdne : d ≠ slash := fun e => hds (by rw [← hbd2, e]; rfl)
      refine ⟨?_, hgd, hj2.2, rfl⟩
      have hjt : joinT d n = s := by
        unfold joinT
        rw [if_neg hdne]
        apply bs_inj
        rw [bs_append, bs_append, slash_bs, hcut0]
        simp
      unfold joinR
      rw [hgd, hj2.2, hjt, Bool.and_self, if_pos rfl, if_neg (by omega)]
end Go.Proofs.YtkoemhdchoicaaaDoor

/- wire.put: bytes of a number, the highest first, behind a row of one's own. -/
namespace Go.Proofs.YtkoemhdchoicaaaDoor
open Go.RowKit Go.ChangeShapes Go.WideShapes Go.ChangeAt
theorem cByte_ones : ∀ x : UInt8, ∀ u ∈ cByte x, u.oneCell' = true := by
  intro x u hu
  simp [cByte] at hu
  subst hu
  rfl
def be : Nat → Nat → List UInt8
  | 0, _ => []
  | n + 1, x => UInt8.ofNat (x / 256 ^ n) :: be n x
theorem be_length : ∀ n x, (be n x).length = n
  | 0, _ => rfl
  | n + 1, x => by simp [be, be_length n x]
set_option maxHeartbeats 1000000 in
theorem put_any (W : World) (v : Value) (l : List UInt8) (x n : Nat) (w : World) (hb : Below W.heap.size W w) (h : Ow cByte 1 5 w W.heap.size v l) (_hx : x < 9223372036854775808) (hn : n ≤ 8) (hl : l.length ≤ 100000) :
    Calls Tryd.prog 24 #[v, .int .i64 x, .int .i64 n] w fun e w' => ∃ A c, e = .returned (.slice A (l ++ be n x).length c) ∧ Ow cByte 1 5 w' W.heap.size (.slice A (l ++ be n x).length c) (l ++ be n x) ∧ Below W.heap.size W w' := by
  obtain ⟨A, c, rfl, _⟩ := h.form
  obtain ⟨ext0, d0, rfl⟩ := Below.grown_eq _ hb
  have HO := Lib.hid h
  have HL := Lib.hid (be_length n x)
  clear h hb
  go_enter Tryd.func24, Tryd.ntmps24
  go_wp2_with fail
  go_loopw [0, 7] (fun bv k wr => ∃ (m : Nat) (pre : List UInt8) (A : Option Addr) (c : Nat) (ext : Array Obj) (d : Nat), m ≤ n ∧ k = .int .i64 ((m : Int) - 1) ∧ bv = .slice A pre.length c ∧ wr = grow W ext d ∧ Hid (pre ++ be m x = l ++ be n x) ∧ Hid (Ow cByte 1 5 wr W.heap.size (.slice A pre.length c) pre)) (fun _ k _ => (intOf k + 1).toNat)
  case atStart => exact ⟨n, l, A, c, _, _, Nat.le_refl _, rfl, rfl, rfl, Lib.hid rfl, HO⟩
  case round =>
    obtain ⟨m, pre, A, c, ext, d, hm, rfl, rfl, rfl, hpre, ho⟩ := hrel
    have hpl : pre.length + m = l.length + n := by
      have := congrArg List.length hpre.out
      simpa [be_length] using this
    cases m with
    | zero =>
      have hpre2 := hpre.out
      simp only [be, List.append_nil] at hpre2
      subst hpre2
      go_wp2_with fail
      refine bodyPost_ret (v := .slice A (l ++ be n x).length c) (by simp [results, Tryd.results24, go_sem]) rfl ⟨A, c, rfl, ho.out, (by repeat (first | exact Below.refl _ _ | assumption | refine Below.drew ?_ | refine Below.drewN' ?_ _ | refine below_grow0 _ _ ?_ | refine below_alloc0 _ ?_ | refine Below.alloc ?_ (by first | omega | (simp; done) | (simp; omega)) _ | refine Below.setCell ?_ (by first | omega | (simp; done) | (simp; omega)) _ | refine Below.grow _ _ _ ?_ (by first | omega | (simp; done) | (simp; omega))))⟩
    | succ m =>
      have hbe : pre ++ be (m + 1) x = (pre ++ [UInt8.ofNat (x / 256 ^ m)]) ++ be m x := by simp [be]
      have hpre2 := Lib.hid (hbe.symm.trans hpre.out)
      have hbv : (x : Int) / 2 ^ (8 * m) % 256 = ((UInt8.ofNat (x / 256 ^ m)).toNat : Int) := by
        have h1 : (2 : Int) ^ (8 * m) = ((256 ^ m : Nat) : Int) := by rw [Int.pow_mul]; simp
        rw [h1, UInt8.toNat_ofNat']
        simp
      generalize UInt8.ofNat (x / 256 ^ m) = cc at *
      clear hbe hpre
      go_wp2_with (at_builtin; refine wpList_app _ rfl (.tmp 14) (.tmp 21) _ rfl elByte (m := [cc]) (v := .slice A pre.length c) rfl rfl (by exact ho.out.alloc _) (by exact Sl.one_at cByte 1 _ _ _ rfl _ rfl (by omega) (by simp)) cByte_ones (by simp [maxLen] <;> omega) (by simp <;> omega) (by simp <;> omega) ?_; intro v5 w5 hown5 hg5 _)
      obtain ⟨A5, k5, rfl, _⟩ := hown5.form
      obtain ⟨ext5, d5, rfl⟩ := grown_after (W := W) (by repeat (first | exact Below.refl _ _ | assumption | refine Below.drew ?_ | refine Below.drewN' ?_ _ | refine below_grow0 _ _ ?_ | refine below_alloc0 _ ?_ | refine Below.alloc ?_ (by first | omega | (simp; done) | (simp; omega)) _ | refine Below.setCell ?_ (by first | omega | (simp; done) | (simp; omega)) _ | refine Below.grow _ _ _ ?_ (by first | omega | (simp; done) | (simp; omega)))) hg5 (fun k hk => (ho.out.own_in hk).1)
      have HO5 := Lib.hid hown5
      clear ho hown5 hg5
      go_wp2_with fail
      go_roundw
      case rel => exact ⟨m, pre ++ [cc], A5, k5, _, _, by omega, by go_num, rfl, rfl, hpre2, HO5⟩
      case measure => simp [intOf] <;> omega
end Go.Proofs.YtkoemhdchoicaaaDoor

/- append of a string's bytes onto a row of one's own. -/
namespace Go.Proofs.YtkoemhdchoicaaaDoor
open Go.RowKit Go.ChangeShapes Go.WideShapes Go.ChangeAt
theorem below_regrow (W : World) (ext : Array Obj) (d d' : Nat) : Below (grow W ext d).heap.size (grow W ext d) (grow W ext d') := ⟨rfl, rfl, rfl, Nat.le_refl _, fun _ _ => rfl⟩
theorem ow_lit1 (W : World) (B : Nat) (e : TypeId) {n : Nat} (hn : n = W.heap.size) (hB : B ≤ W.heap.size) : Ow cByte 1 e (W.alloc (.cells #[.int .u8 84] e)) B (.slice (some ⟨n, 0, none⟩) 1 1) [84] := by
  subst hn
  exact ⟨World.ownsRow_lit W #[.int .u8 84] 1 hB (by simp [maxLen]) (by simp), fun x _ => rfl⟩
theorem flat_bytes (l : List UInt8) : l.flatMap cByte = l.map fun b => Value.int .u8 b.toNat := by
  induction l with
  | nil => rfl
  | cons a r ih => rw [List.flatMap_cons, ih]; rfl
section
variable {P : Program} (w : World)
theorem run_apps {t e ts : TypeId} {z : Value} (ty : TypeId) (E : El P t e z 1 1) (hz0 : z = .int .u8 0) (hu : P.underlying ts = some .string) {B : Nat} {v : Value} {l : List UInt8} (s : ByteArray)
    (hown : Ow cByte 1 e w B v l) (h63 : l.length + s.size ≤ maxLen) (hbytes : l.length + s.size ≤ 140737488355328) (hbase : B ≤ w.heap.size) :
    ∃ v' w', (Builtin.append_ #[t, ts] ty #[v, .string s]).run P w = .ok v' w' ∧ Ow cByte 1 e w' B v' (l ++ bs s) ∧ w.grownBy w' v.ownBlock := by
  obtain ⟨i, hi, hz, hs, hb⟩ := info_of E.info
  subst hz0
  obtain ⟨v', w', hr, h2, h3, _⟩ := Go.Lib.run_append_own_string (P := P) w B t ts ty e i E.slice hu hi hz hs hb v l.length (l.flatMap cByte) hown.1 s h63 hbytes hbase
  refine ⟨v', w', hr, ⟨?_, fun x _ => rfl⟩, h3⟩
  have e1 : (l ++ bs s).flatMap cByte = l.flatMap cByte ++ Go.Lib.strCells s := by rw [List.flatMap_append, flat_bytes (bs s)]; rfl
  have e2 : (l ++ bs s).length = l.length + s.size := by rw [List.length_append, length_bs]
  rw [e1, e2]
  exact h2
theorem wp_apps {o : Oper} {a : Act} {K : Act → World → Prop} {Q : Exit → Act → World → Prop} (sv x : Operand) (t ts : TypeId)
    (ho : o.op = .call { callee := .builtin .append, args := #[sv, x], argTypes := #[t, ts] })
    {e : TypeId} {z : Value} (E : El P t e z 1 1) (hz0 : z = .int .u8 0) (hu : P.underlying ts = some .string) {B : Nat} {v : Value} {l : List UInt8} (s : ByteArray)
    (hs : a.eval sv = v) (hx : a.eval x = .string s) (hown : Ow cByte 1 e w B v l)
    (h63 : l.length + s.size ≤ maxLen) (hbytes : l.length + s.size ≤ 140737488355328) (hbase : B ≤ w.heap.size)
    (h : ∀ v' w', Ow cByte 1 e w' B v' (l ++ bs s) → w.grownBy w' v.ownBlock → K (a.put o.dst v') w') : o.wp P a w K Q := by
  obtain ⟨v', w', hr, h2, h3⟩ := run_apps (P := P) w o.type E hz0 hu s hown h63 hbytes hbase
  unfold Oper.wp execOp
  simp only [ho, resolve, invoke, builtin, Sem.run_bind, Sem.run_pure, Result.andThen_ok, List.map_toArray, List.map_cons, List.map_nil, hs, hx, hr]
  exact h v' w' h2 h3
theorem step_apps {ops : Array Oper} {o : Oper} {a : Act} {K : Act → World → Prop} {Q : Exit → Act → World → Prop} {EE : Prop} (hgd : o.guard = none) (sv x : Operand) (t ts : TypeId)
    (ho : o.op = .call { callee := .builtin .append, args := #[sv, x], argTypes := #[t, ts] })
    {e : TypeId} {z : Value} (E : El P t e z 1 1) (hz0 : z = .int .u8 0) (hu : P.underlying ts = some .string) {B : Nat} {v : Value} {l : List UInt8} (s : ByteArray)
    (hs : a.eval sv = v) (hx : a.eval x = .string s) (hown : Ow cByte 1 e w B v l)
    (h63 : l.length + s.size ≤ maxLen) (hbytes : l.length + s.size ≤ 140737488355328) (hbase : B ≤ w.heap.size)
    (h : ∀ v' w', Ow cByte 1 e w' B v' (l ++ bs s) → w.grownBy w' v.ownBlock → K (a.put o.dst v') w') : if Region.wanted o (yielded ops a.tmps) = true then Oper.wp P o a w K Q else EE := by
  have hw : Region.wanted o (yielded ops a.tmps) = true := by simp [Region.wanted, hgd]
  rw [if_pos hw]
  exact wp_apps w sv x t ts ho E hz0 hu s hs hx hown h63 hbytes hbase h
theorem step_app {ops : Array Oper} {o : Oper} {a : Act} {K : Act → World → Prop} {Q : Exit → Act → World → Prop} {EE : Prop} (hgd : o.guard = none) (sv x : Operand) (t : TypeId)
    (ho : o.op = .call { callee := .builtin .append, args := #[sv, x], argTypes := #[t, t] })
    {α : Type} {f : α → List Value} {s : Nat} {e : TypeId} {z : Value} {bytes : Nat} (E : El P t e z s bytes) {B : Nat} {v xv : Value} {l m : List α}
    (hs : a.eval sv = v) (hx : a.eval x = xv) (hown : Ow f s e w B v l) (hsrc : Sl f s w xv m) (h1 : ∀ x, ∀ u ∈ f x, u.oneCell' = true)
    (h63 : l.length + m.length ≤ maxLen) (hbytes : (l.length + m.length) * bytes ≤ 140737488355328) (hbase : B ≤ w.heap.size)
    (h : ∀ v' w', Ow f s e w' B v' (l ++ m) → w.grownBy w' v.ownBlock → (v'.ownBlock = v.ownBlock ∨ v'.ownBlock = some w.heap.size) → K (a.put o.dst v') w') : if Region.wanted o (yielded ops a.tmps) = true then Oper.wp P o a w K Q else EE := by
  have hw : Region.wanted o (yielded ops a.tmps) = true := by simp [Region.wanted, hgd]
  rw [if_pos hw]
  exact wp_app w sv x t ho E hs hx hown hsrc h1 h63 hbytes hbase h
end
/-- the bytes of a row, as a text -/
theorem run_row_text {P : Program} {w : World} {src e dst B : Nat} {v : Value} {l : List UInt8} (h : Ow cByte 1 e w B v l) (hs : P.underlying src = some (.slice e)) (he : P.underlying e = some (.int .u8)) (hd : P.underlying dst = some .string) :
    (convert src dst v).run P w = .ok (.string ⟨l.toArray⟩) w := by
  obtain ⟨A, c, rfl, h1, h2⟩ := h.sl.form
  cases A with
  | none =>
    have hl : l = [] := by
      cases l with
      | nil => rfl
      | cons x l => obtain ⟨a, o, ha, _⟩ := h.sl.at_ (i := 0) rfl; cases ha
    subst hl
    rw [run_convert_bytes_string w src dst e none [].length c hs he hd]
    rfl
  | some a =>
    refine run_convert_bytes_back w src dst e a c l hs he hd (fun j hj => ?_)
    obtain ⟨b, off, ha, _, hc⟩ := h.sl.at_ (i := j) (x := l[j]) (List.getElem?_eq_getElem hj)
    injection ha with ha
    subst ha
    have hadd : (⟨b, off, none⟩ : Addr).add j = ⟨b, off + j * 1, none⟩ := by
      unfold Addr.add
      split
      · rename_i h0'; rw [Nat.mul_one, h0']; rfl
      · rw [Nat.mul_one]
    rw [hadd]
    exact hc 0 _ rfl
end Go.Proofs.YtkoemhdchoicaaaDoor

/- Contracts of package zxid (numbers alone), and of the laws' 'numbers'. -/
namespace Go.Proofs.YtkoemhdchoicaaaDoor
open Go.RowKit

theorem ret_int {k : IntKind} {a b : Int} (h : a = b) : Ending.returned (.int k a) = Ending.returned (.int k b) := by rw [h]
theorem ret_bool {a b : Bool} (h : a = b) : Ending.returned (.bool a) = Ending.returned (.bool b) := by rw [h]
theorem ret_ii {k k' : IntKind} {a b c d : Int} (h : a = b) (h' : c = d) : Ending.returned (.tuple #[.int k a, .int k' c]) = Ending.returned (.tuple #[.int k b, .int k' d]) := by rw [h, h']

theorem bv_nat (a : Nat) (ha : a < 9223372036854775808) : (BitVec.ofInt 64 (a : Int)).toNat = a := by
  rw [BitVec.ofInt_natCast, BitVec.toNat_ofNat]
  exact Nat.mod_eq_of_lt (by omega)
theorem bits_mask (a : Int) (h0 : 0 ≤ a) (h1 : a < 4611686018427387904) : bits .and .i64 a 2147483647 = a % 2147483648 := by
  obtain ⟨n, rfl⟩ := Int.eq_ofNat_of_zero_le h0
  have hx : n &&& 2147483647 = n % 2147483648 := Nat.and_two_pow_sub_one_eq_mod n 31
  show IntKind.i64.wrap ((BitVec.ofInt 64 (n : Int) &&& BitVec.ofInt 64 ((2147483647 : Nat) : Int)).toNat : Int) = _
  rw [BitVec.toNat_and, bv_nat n (by omega), bv_nat 2147483647 (by omega), hx, IntKind.wrap_i64]
  omega
theorem bits_join (a b : Int) (h0 : 0 ≤ a) (h1 : a ≤ 2147483647) (h2 : 0 ≤ b) (h3 : b ≤ 2147483647) : bits .or .i64 (a * 2147483648) b = a * 2147483648 + b := by
  obtain ⟨n, rfl⟩ := Int.eq_ofNat_of_zero_le h0
  obtain ⟨m, rfl⟩ := Int.eq_ofNat_of_zero_le h2
  have hx : n * 2147483648 ||| m = n * 2147483648 + m := by
    have := Nat.shiftLeft_add_eq_or_of_lt (b := m) (i := 31) (by omega) n
    rw [Nat.shiftLeft_eq] at this
    exact this.symm
  show IntKind.i64.wrap ((BitVec.ofInt 64 (((n * 2147483648 : Nat) : Int)) ||| BitVec.ofInt 64 (m : Int)).toNat : Int) = _
  rw [BitVec.toNat_or, bv_nat _ (by omega), bv_nat m (by omega), hx, IntKind.wrap_i64]
  omega

/-- a zxid -/
def Zx (a : Int) : Prop := 0 ≤ a ∧ a < 4611686018427387904
/-- an epoch, a count -/
def Half (a : Int) : Prop := 0 ≤ a ∧ a ≤ 2147483647

theorem zmake_ok (a b : Int) (w : World) (ha : Half a) (hb : Half b) :
    Calls Tryd.prog 39 #[.int .i64 a, .int .i64 b] w fun e w' => e = .returned (.tuple #[.int .i64 (a * 2147483648 + b), .int .i64 0]) ∧ w = w' := by
  obtain ⟨h0, h1⟩ := ha
  obtain ⟨h2, h3⟩ := hb
  go_enter Tryd.func39, Tryd.ntmps39
  go_wp2
  go_ret2
  exact ⟨ret_ii (bits_join a b h0 h1 h2 h3) rfl, rfl⟩
theorem zmake_no (a b : Int) (w : World) (h : ¬ (Half a ∧ Half b)) :
    Calls Tryd.prog 39 #[.int .i64 a, .int .i64 b] w fun e w' => e = .returned (.tuple #[.int .i64 0, .int .i64 3]) ∧ w = w' := by
  have h' : a < 0 ∨ 2147483647 < a ∨ b < 0 ∨ 2147483647 < b := by unfold Half at h; omega
  clear h
  go_enter Tryd.func39, Tryd.ntmps39
  go_wp2
  all_goals
    go_ret2
    exact ⟨rfl, rfl⟩
theorem zgood_yes (a : Int) (w : World) (h : Zx a) :
    Calls Tryd.prog 37 #[.int .i64 a] w fun e w' => e = .returned (.bool true) ∧ w = w' := by
  obtain ⟨ha, ha'⟩ := h
  go_enter Tryd.func37, Tryd.ntmps37
  go_wp2
  go_ret
  exact ⟨rfl, rfl⟩
theorem zgood_no (a : Int) (w : World) (h : ¬ Zx a) :
    Calls Tryd.prog 37 #[.int .i64 a] w fun e w' => e = .returned (.bool false) ∧ w = w' := by
  have ha : a < 0 ∨ (0 ≤ a ∧ ¬ a < 4611686018427387904) := by unfold Zx at h; omega
  clear h
  rcases ha with ha | ⟨h0, ha⟩
  · go_enter Tryd.func37, Tryd.ntmps37
    go_wp2
    go_ret
    exact ⟨rfl, rfl⟩
  · go_enter Tryd.func37, Tryd.ntmps37
    go_wp2
    go_ret
    exact ⟨ret_bool (by simp), rfl⟩
theorem zepoch_ok (a : Int) (w : World) (h : Zx a) :
    Calls Tryd.prog 32 #[.int .i64 a] w fun e w' => e = .returned (.int .i64 (a / 2147483648)) ∧ w = w' := by
  have ha := h.1
  have ha' := h.2
  go_enter Tryd.func32, Tryd.ntmps32
  go_wp2_with (go_at_call 37; refine (zgood_yes _ _ h).mono ?_; rintro e w' ⟨rfl, rfl⟩)
  go_ret
  exact ⟨rfl, rfl⟩
theorem zepoch_no (a : Int) (w : World) (h : ¬ Zx a) :
    Calls Tryd.prog 32 #[.int .i64 a] w fun e w' => e = .returned (.int .i64 0) ∧ w = w' := by
  have H := Lib.hid h
  clear h
  go_enter Tryd.func32, Tryd.ntmps32
  go_wp2_with (go_at_call 37; refine (zgood_no _ _ H.out).mono ?_; rintro e w' ⟨rfl, rfl⟩)
  go_ret
  exact ⟨rfl, rfl⟩
theorem zcount_ok (a : Int) (w : World) (h : Zx a) :
    Calls Tryd.prog 55 #[.int .i64 a] w fun e w' => e = .returned (.int .i64 (a % 2147483648)) ∧ w = w' := by
  have ha := h.1
  have ha' := h.2
  go_enter Tryd.func55, Tryd.ntmps55
  go_wp2_with (go_at_call 37; refine (zgood_yes _ _ h).mono ?_; rintro e w' ⟨rfl, rfl⟩)
  go_ret
  exact ⟨ret_int (bits_mask a ha ha'), rfl⟩
theorem zcount_no (a : Int) (w : World) (h : ¬ Zx a) :
    Calls Tryd.prog 55 #[.int .i64 a] w fun e w' => e = .returned (.int .i64 0) ∧ w = w' := by
  have H := Lib.hid h
  clear h
  go_enter Tryd.func55, Tryd.ntmps55
  go_wp2_with (go_at_call 37; refine (zgood_no _ _ H.out).mono ?_; rintro e w' ⟨rfl, rfl⟩)
  go_ret
  exact ⟨rfl, rfl⟩
end Go.Proofs.YtkoemhdchoicaaaDoor

/- wire.Good: what is wrong with a transaction. -/
namespace Go.Proofs.YtkoemhdchoicaaaDoor
open Go.RowKit Go.ChangeShapes Go.WideShapes Go.ChangeAt
def goodT (t : Txn) : Int :=
  if t.op < 1 ∨ 5 < t.op then 4
  else if ¬ (0 ≤ t.zxid ∧ t.zxid < 4611686018427387904) ∨ t.session < 1 ∨ 2147483647 < t.session ∨ t.version < 0 ∨ 2147483647 < t.version ∨ t.owner < 0 ∨ 2147483647 < t.owner then 3
  else if 256 < (t.data.size : Int) then 1
  else if t.op ≤ 2 ∧ (t.path.toList ≠ [] ∨ t.data.toList ≠ [] ∨ t.version ≠ 0 ∨ t.owner ≠ 0) then 2
  else if 3 ≤ t.op ∧ (goodP t.path = false ∨ (t.path.toList = [47] ∧ t.op ≠ 5)) then 2
  else if (t.op = 4 ∧ (t.data.toList ≠ [] ∨ t.version ≠ 0 ∨ t.owner ≠ 0)) ∨ (t.op = 3 ∧ t.version ≠ 0) ∨ (t.op = 5 ∧ t.owner ≠ 0) then 2
  else 0
set_option maxHeartbeats 1000000 in
theorem tgood_1 (z o s v ow : Int) (p d : ByteArray) (w : World) (h : o < 1 ∨ 5 < o) :
    Calls Tryd.prog 23 #[.agg #[.int .i64 z, .int .i64 o, .int .i64 s, .string p, .string d, .int .i64 v, .int .i64 ow]] w fun e w' => e = .returned (.int .i64 4) ∧ Below w.heap.size w w' := by
  rcases h with h | h
  · have h1 : decide (o < 1) = true := decide_eq_true h
    clear h
    go_enter Tryd.func23, Tryd.ntmps23
    go_wp2_with fail
    go_ret
    exact ⟨rfl, (by repeat (first | exact Below.refl _ _ | assumption | refine Below.drew ?_ | refine Below.drewN' ?_ _ | refine below_grow0 _ _ ?_ | refine below_alloc0 _ ?_ | refine Below.alloc ?_ (by first | omega | (simp; done) | (simp; omega)) _ | refine Below.setCell ?_ (by first | omega | (simp; done) | (simp; omega)) _ | refine Below.grow _ _ _ ?_ (by first | omega | (simp; done) | (simp; omega))))⟩
  · have h1 : decide (o < 1) = false := decide_eq_false (by omega)
    have h2 : decide (5 < o) = true := decide_eq_true h
    clear h
    go_enter Tryd.func23, Tryd.ntmps23
    go_wp2_with fail
    go_ret
    exact ⟨rfl, (by repeat (first | exact Below.refl _ _ | assumption | refine Below.drew ?_ | refine Below.drewN' ?_ _ | refine below_grow0 _ _ ?_ | refine below_alloc0 _ ?_ | refine Below.alloc ?_ (by first | omega | (simp; done) | (simp; omega)) _ | refine Below.setCell ?_ (by first | omega | (simp; done) | (simp; omega)) _ | refine Below.grow _ _ _ ?_ (by first | omega | (simp; done) | (simp; omega))))⟩
set_option maxHeartbeats 2000000 in
theorem tgood_2 (z o s v ow : Int) (p d : ByteArray) (w : World) (h1 : decide (o < 1) = false) (h2 : decide (5 < o) = false) (h : ¬ Zx z ∨ s < 1 ∨ 2147483647 < s ∨ v < 0 ∨ 2147483647 < v ∨ ow < 0 ∨ 2147483647 < ow) :
    Calls Tryd.prog 23 #[.agg #[.int .i64 z, .int .i64 o, .int .i64 s, .string p, .string d, .int .i64 v, .int .i64 ow]] w fun e w' => e = .returned (.int .i64 3) ∧ Below w.heap.size w w' := by
  by_cases hz : Zx z
  · have h' : s < 1 ∨ 2147483647 < s ∨ v < 0 ∨ 2147483647 < v ∨ ow < 0 ∨ 2147483647 < ow := by
      rcases h with h | h
      · exact absurd hz h
      · exact h
    have hd : (decide (s < 1) || (decide (2147483647 < s) || (decide (v < 0) || (decide (2147483647 < v) || (decide (ow < 0) || decide (2147483647 < ow)))))) = true := by simpa using h'
    clear h h'
    cases e1 : decide (s < 1) <;> cases e2 : decide (2147483647 < s) <;> cases e3 : decide (v < 0) <;> cases e4 : decide (2147483647 < v) <;> cases e5 : decide (ow < 0) <;> cases e6 : decide (2147483647 < ow)
    all_goals first | (rw [e1, e2, e3, e4, e5, e6] at hd; exact absurd hd (by decide)) | (exfalso; simp at e1 e2 e3 e4 e5 e6; omega) | skip
    all_goals clear hd
    all_goals go_enter Tryd.func23, Tryd.ntmps23
    all_goals go_wp2_with (go_at_call 37; refine (zgood_yes z _ hz).mono ?_; rintro e w1 ⟨rfl, rfl⟩; skip)
    all_goals go_ret
    all_goals exact ⟨rfl, (by repeat (first | exact Below.refl _ _ | assumption | refine Below.drew ?_ | refine Below.drewN' ?_ _ | refine below_grow0 _ _ ?_ | refine below_alloc0 _ ?_ | refine Below.alloc ?_ (by first | omega | (simp; done) | (simp; omega)) _ | refine Below.setCell ?_ (by first | omega | (simp; done) | (simp; omega)) _ | refine Below.grow _ _ _ ?_ (by first | omega | (simp; done) | (simp; omega))))⟩
  · clear h
    go_enter Tryd.func23, Tryd.ntmps23
    go_wp2_with (go_at_call 37; refine (zgood_no z _ hz).mono ?_; rintro e w1 ⟨rfl, rfl⟩; skip)
    go_ret
    exact ⟨rfl, (by repeat (first | exact Below.refl _ _ | assumption | refine Below.drew ?_ | refine Below.drewN' ?_ _ | refine below_grow0 _ _ ?_ | refine below_alloc0 _ ?_ | refine Below.alloc ?_ (by first | omega | (simp; done) | (simp; omega)) _ | refine Below.setCell ?_ (by first | omega | (simp; done) | (simp; omega)) _ | refine Below.grow _ _ _ ?_ (by first | omega | (simp; done) | (simp; omega))))⟩
set_option maxHeartbeats 1000000 in
theorem tgood_3 (z o s v ow : Int) (p d : ByteArray) (w : World) (h1 : decide (o < 1) = false) (h2 : decide (5 < o) = false) (hz : Zx z) (h3 : decide (s < 1) = false) (h4 : decide (2147483647 < s) = false) (h5 : decide (v < 0) = false) (h6 : decide (2147483647 < v) = false) (h7 : decide (ow < 0) = false) (h8 : decide (2147483647 < ow) = false) (h9 : decide (256 < (d.size : Int)) = true) :
    Calls Tryd.prog 23 #[.agg #[.int .i64 z, .int .i64 o, .int .i64 s, .string p, .string d, .int .i64 v, .int .i64 ow]] w fun e w' => e = .returned (.int .i64 1) ∧ Below w.heap.size w w' := by
  go_enter Tryd.func23, Tryd.ntmps23
  go_wp2_with (go_at_call 37; refine (zgood_yes z _ hz).mono ?_; rintro e w1 ⟨rfl, rfl⟩; skip)
  go_ret
  exact ⟨rfl, (by repeat (first | exact Below.refl _ _ | assumption | refine Below.drew ?_ | refine Below.drewN' ?_ _ | refine below_grow0 _ _ ?_ | refine below_alloc0 _ ?_ | refine Below.alloc ?_ (by first | omega | (simp; done) | (simp; omega)) _ | refine Below.setCell ?_ (by first | omega | (simp; done) | (simp; omega)) _ | refine Below.grow _ _ _ ?_ (by first | omega | (simp; done) | (simp; omega))))⟩
theorem goodT_low (z o s v ow : Int) (p d : ByteArray) (h1 : decide (o < 1) = false) (_h2 : decide (5 < o) = false) (hz : Zx z) (h3 : decide (s < 1) = false) (h4 : decide (2147483647 < s) = false) (h5 : decide (v < 0) = false) (h6 : decide (2147483647 < v) = false) (h7 : decide (ow < 0) = false) (h8 : decide (2147483647 < ow) = false) (h9 : decide (256 < (d.size : Int)) = false)
    (h10 : o ≤ 2) : goodT ⟨z, o, s, p, d, v, ow⟩ = if p.toList = [] ∧ d.toList = [] ∧ v = 0 ∧ ow = 0 then 0 else 2 := by
  simp at h1 h3 h4 h5 h6 h7 h8 h9
  unfold Zx at hz
  unfold goodT
  dsimp only
  rw [if_neg (by omega), if_neg (by omega), if_neg (by omega)]
  by_cases hh : p.toList = [] ∧ d.toList = [] ∧ v = 0 ∧ ow = 0
  · rw [if_pos hh, if_neg (by simp [hh.1, hh.2.1, hh.2.2.1, hh.2.2.2]), if_neg (by omega), if_neg (by omega)]
  · have hx : p.toList ≠ [] ∨ d.toList ≠ [] ∨ v ≠ 0 ∨ ow ≠ 0 := by
      by_cases a : p.toList = []
      · by_cases b : d.toList = []
        · have : ¬ (v = 0 ∧ ow = 0) := fun e => hh ⟨a, b, e⟩
          exact .inr (.inr (by omega))
        · exact .inr (.inl b)
      · exact .inl a
    rw [if_neg hh, if_pos ⟨h10, hx⟩]
theorem goodT_high (z o s v ow : Int) (p d : ByteArray) (h2 : decide (5 < o) = false) (hz : Zx z) (h3 : decide (s < 1) = false) (h4 : decide (2147483647 < s) = false) (h5 : decide (v < 0) = false) (h6 : decide (2147483647 < v) = false) (h7 : decide (ow < 0) = false) (h8 : decide (2147483647 < ow) = false) (h9 : decide (256 < (d.size : Int)) = false)
    (h10 : 3 ≤ o) : goodT ⟨z, o, s, p, d, v, ow⟩ = if goodP p = false ∨ (p.toList = [47] ∧ o ≠ 5) then 2
      else if (o = 4 ∧ (d.toList ≠ [] ∨ v ≠ 0 ∨ ow ≠ 0)) ∨ (o = 3 ∧ v ≠ 0) ∨ (o = 5 ∧ ow ≠ 0) then 2 else 0 := by
  simp at h2 h3 h4 h5 h6 h7 h8 h9
  unfold Zx at hz
  unfold goodT
  dsimp only
  rw [if_neg (by omega), if_neg (by omega), if_neg (by omega), if_neg (by omega)]
  by_cases hh : goodP p = false ∨ (p.toList = [47] ∧ o ≠ 5)
  · rw [if_pos ⟨h10, hh⟩, if_pos hh]
  · rw [if_neg (fun e => hh e.2), if_neg hh]
set_option maxHeartbeats 4000000 in
theorem tgood_4 (z o s v ow : Int) (p d : ByteArray) (w : World) (h1 : decide (o < 1) = false) (h2 : decide (5 < o) = false) (hz : Zx z) (h3 : decide (s < 1) = false) (h4 : decide (2147483647 < s) = false) (h5 : decide (v < 0) = false) (h6 : decide (2147483647 < v) = false) (h7 : decide (ow < 0) = false) (h8 : decide (2147483647 < ow) = false) (h9 : decide (256 < (d.size : Int)) = false)
    (h10 : decide (o ≤ 2) = true) (h11 : decide (3 ≤ o) = false) (h12 : (o == 4) = false) (h13 : (o == 3) = false) (h14 : (o == 5) = false) :
    Calls Tryd.prog 23 #[.agg #[.int .i64 z, .int .i64 o, .int .i64 s, .string p, .string d, .int .i64 v, .int .i64 ow]] w fun e w' => e = .returned (.int .i64 (if p.toList = [] ∧ d.toList = [] ∧ v = 0 ∧ ow = 0 then 0 else 2)) ∧ Below w.heap.size w w' := by
  go_enter Tryd.func23, Tryd.ntmps23
  go_wp2_with (go_at_call 37; refine (zgood_yes z _ hz).mono ?_; rintro e w1 ⟨rfl, rfl⟩; skip)
  all_goals go_ret
  all_goals refine ⟨?_, (by repeat (first | exact Below.refl _ _ | assumption | refine Below.drew ?_ | refine Below.drewN' ?_ _ | refine below_grow0 _ _ ?_ | refine below_alloc0 _ ?_ | refine Below.alloc ?_ (by first | omega | (simp; done) | (simp; omega)) _ | refine Below.setCell ?_ (by first | omega | (simp; done) | (simp; omega)) _ | refine Below.grow _ _ _ ?_ (by first | omega | (simp; done) | (simp; omega))))⟩
  all_goals (refine congrArg (fun x => Ending.returned (Value.int IntKind.i64 x)) ?_)
  all_goals simp_all
set_option maxHeartbeats 4000000 in
theorem tgood_5 (z o s v ow : Int) (p d : ByteArray) (w : World) (h1 : decide (o < 1) = false) (h2 : decide (5 < o) = false) (hz : Zx z) (h3 : decide (s < 1) = false) (h4 : decide (2147483647 < s) = false) (h5 : decide (v < 0) = false) (h6 : decide (2147483647 < v) = false) (h7 : decide (ow < 0) = false) (h8 : decide (2147483647 < ow) = false) (h9 : decide (256 < (d.size : Int)) = false)
    (h10 : decide (o ≤ 2) = false) (h11 : decide (3 ≤ o) = true) (hp : p.size ≤ 9223372036854775807) (hg : goodP p = false) :
    Calls Tryd.prog 23 #[.agg #[.int .i64 z, .int .i64 o, .int .i64 s, .string p, .string d, .int .i64 v, .int .i64 ow]] w fun e w' => e = .returned (.int .i64 2) ∧ Below w.heap.size w w' := by
  have HG := fun w => good_any p w hp
  rw [hg] at HG
  clear hg
  go_enter Tryd.func23, Tryd.ntmps23
  go_wp2_with first | (go_at_call 37; refine (zgood_yes z _ hz).mono ?_; rintro e w1 ⟨rfl, rfl⟩; skip) | (go_at_call 38; refine (HG _).mono ?_; rintro e w1 ⟨rfl, hb1⟩; obtain ⟨ext1, d1, rfl⟩ := Below.grown_eq _ hb1)
  go_ret
  exact ⟨rfl, (by repeat (first | exact Below.refl _ _ | assumption | refine Below.drew ?_ | refine Below.drewN' ?_ _ | refine below_grow0 _ _ ?_ | refine below_alloc0 _ ?_ | refine Below.alloc ?_ (by first | omega | (simp; done) | (simp; omega)) _ | refine Below.setCell ?_ (by first | omega | (simp; done) | (simp; omega)) _ | refine Below.grow _ _ _ ?_ (by first | omega | (simp; done) | (simp; omega))))⟩
set_option maxHeartbeats 4000000 in
theorem tgood_6 (z o s v ow : Int) (p d : ByteArray) (w : World) (hz : Zx z) (h3 : decide (s < 1) = false) (h4 : decide (2147483647 < s) = false) (h5 : decide (v < 0) = false) (h6 : decide (2147483647 < v) = false) (h7 : decide (ow < 0) = false) (h8 : decide (2147483647 < ow) = false) (h9 : decide (256 < (d.size : Int)) = false)
    (hp : p.size ≤ 9223372036854775807) (hg : goodP p = true) (ho : o = 3 ∨ o = 4 ∨ o = 5) :
    Calls Tryd.prog 23 #[.agg #[.int .i64 z, .int .i64 o, .int .i64 s, .string p, .string d, .int .i64 v, .int .i64 ow]] w fun e w' => e = .returned (.int .i64 (if (p.toList = [47] ∧ o ≠ 5) then 2
      else if (o = 4 ∧ (d.toList ≠ [] ∨ v ≠ 0 ∨ ow ≠ 0)) ∨ (o = 3 ∧ v ≠ 0) ∨ (o = 5 ∧ ow ≠ 0) then 2 else 0)) ∧ Below w.heap.size w w' := by
  have HG := fun w => good_any p w hp
  rw [hg] at HG
  clear hg
  rcases ho with rfl | rfl | rfl
  all_goals go_enter Tryd.func23, Tryd.ntmps23
  all_goals go_wp2_with first | (go_at_call 37; refine (zgood_yes z _ hz).mono ?_; rintro e w1 ⟨rfl, rfl⟩; skip) | (go_at_call 38; refine (HG _).mono ?_; rintro e w1 ⟨rfl, hb1⟩; obtain ⟨ext1, d1, rfl⟩ := Below.grown_eq _ hb1)
  all_goals go_ret
  all_goals refine ⟨?_, (by repeat (first | exact Below.refl _ _ | assumption | refine Below.drew ?_ | refine Below.drewN' ?_ _ | refine below_grow0 _ _ ?_ | refine below_alloc0 _ ?_ | refine Below.alloc ?_ (by first | omega | (simp; done) | (simp; omega)) _ | refine Below.setCell ?_ (by first | omega | (simp; done) | (simp; omega)) _ | refine Below.grow _ _ _ ?_ (by first | omega | (simp; done) | (simp; omega))))⟩
  all_goals (refine congrArg (fun x => Ending.returned (Value.int IntKind.i64 x)) ?_)
  all_goals simp_all
/-- wire.Good, at every transaction -/
theorem tgood_any (t : Txn) (w : World) (hp : t.path.size ≤ 9223372036854775807) :
    Calls Tryd.prog 23 #[.agg #[.int .i64 t.zxid, .int .i64 t.op, .int .i64 t.session, .string t.path, .string t.data, .int .i64 t.version, .int .i64 t.owner]] w fun e w' => e = .returned (.int .i64 (goodT t)) ∧ Below w.heap.size w w' := by
  obtain ⟨z, o, s, p, d, v, ow⟩ := t
  dsimp only at *
  by_cases a1 : o < 1 ∨ 5 < o
  · rw [show goodT ⟨z, o, s, p, d, v, ow⟩ = 4 from if_pos a1]
    exact tgood_1 z o s v ow p d w a1
  have h1 : decide (o < 1) = false := decide_eq_false (fun e => a1 (.inl e))
  have h2 : decide (5 < o) = false := decide_eq_false (fun e => a1 (.inr e))
  by_cases a2 : ¬ (0 ≤ z ∧ z < 4611686018427387904) ∨ s < 1 ∨ 2147483647 < s ∨ v < 0 ∨ 2147483647 < v ∨ ow < 0 ∨ 2147483647 < ow
  · rw [show goodT ⟨z, o, s, p, d, v, ow⟩ = 3 from (if_neg a1).trans (if_pos a2)]
    exact tgood_2 z o s v ow p d w h1 h2 a2
  have hz : Zx z := by unfold Zx; omega
  have h3 : decide (s < 1) = false := decide_eq_false (by omega)
  have h4 : decide (2147483647 < s) = false := decide_eq_false (by omega)
  have h5 : decide (v < 0) = false := decide_eq_false (by omega)
  have h6 : decide (2147483647 < v) = false := decide_eq_false (by omega)
  have h7 : decide (ow < 0) = false := decide_eq_false (by omega)
  have h8 : decide (2147483647 < ow) = false := decide_eq_false (by omega)
  by_cases a3 : 256 < (d.size : Int)
  · rw [show goodT ⟨z, o, s, p, d, v, ow⟩ = 1 from (if_neg a1).trans ((if_neg a2).trans (if_pos a3))]
    exact tgood_3 z o s v ow p d w h1 h2 hz h3 h4 h5 h6 h7 h8 (decide_eq_true a3)
  have h9 : decide (256 < (d.size : Int)) = false := decide_eq_false a3
  by_cases a4 : o ≤ 2
  · rw [goodT_low z o s v ow p d h1 h2 hz h3 h4 h5 h6 h7 h8 h9 a4]
    exact tgood_4 z o s v ow p d w h1 h2 hz h3 h4 h5 h6 h7 h8 h9 (decide_eq_true a4) (decide_eq_false (by omega)) (beq_eq_false_iff_ne.2 (by omega)) (beq_eq_false_iff_ne.2 (by omega)) (beq_eq_false_iff_ne.2 (by omega))
  · rw [goodT_high z o s v ow p d h2 hz h3 h4 h5 h6 h7 h8 h9 (by omega)]
    cases hg : goodP p with
    | false =>
      rw [if_pos (.inl rfl)]
      exact tgood_5 z o s v ow p d w h1 h2 hz h3 h4 h5 h6 h7 h8 h9 (decide_eq_false a4) (decide_eq_true (by omega)) hp hg
    | true =>
      have := tgood_6 z o s v ow p d w hz h3 h4 h5 h6 h7 h8 h9 hp hg (by omega)
      simpa using this
end Go.Proofs.YtkoemhdchoicaaaDoor
