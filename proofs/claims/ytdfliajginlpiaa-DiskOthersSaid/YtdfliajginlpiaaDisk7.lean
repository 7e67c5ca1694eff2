/- package disk: Write. -/
import Derived.Test.YtdfliajginlpiaaDisk6
namespace Go.Proofs.Ytdfliajginlpiaa
open Go.RowKit Go.ChangeShapes Go.WideShapes Go.ChangeAt
def writeE (l : List File) (p s : ByteArray) : Int := if goodD l then (if named (bs p) then (if isK (l.map File.name) p then (if (fileAt l p).safe.size + (fileAt l p).tail.size + s.size ≤ 1048576 then 0 else 1) else (if 16 ≤ l.length then 6 else (if s.size ≤ 1048576 then 0 else 1))) else 2) else 3
def writeL (l : List File) (p s : ByteArray) : List File := if goodD l then (if named (bs p) then (if isK (l.map File.name) p then (if (fileAt l p).safe.size + (fileAt l p).tail.size + s.size ≤ 1048576 then l.set (posK (l.map File.name) p) ⟨(fileAt l p).name, (fileAt l p).safe, (fileAt l p).tail ++ s⟩ else []) else (if 16 ≤ l.length then [] else (if s.size ≤ 1048576 then l.take (posK (l.map File.name) p) ++ ⟨p, ⟨#[]⟩, s⟩ :: l.drop (posK (l.map File.name) p) else []))) else []) else []
/-- one cell of one file set anew -/
theorem set_tail {l : List File} {J : List Value} {k : Nat} {x : File} (hx : l[k]? = some x) (t : ByteArray) :
    (l.flatMap cFile ++ J).set (k * 3 + 2) (.string t) = (l.set k ⟨x.name, x.safe, t⟩).flatMap cFile ++ J := by
  rw [← set_file hx x.safe t]
  congr 1
  have hk : k < l.length := (List.getElem?_eq_some_iff.1 hx).1
  have hlen : (l.flatMap cFile).length = l.length * 3 := flatMap_length (fun y _ => rfl)
  have h0 : (l.flatMap cFile)[k * 3 + 1]? = some (.string x.safe) := flatMap_get (f := cFile) (s := 3) (fun y _ => rfl) hx rfl
  apply List.ext_getElem?
  intro i
  rw [List.getElem?_set]
  split
  · rename_i e
    subst e
    rw [if_pos (by rw [List.length_append]; omega), List.getElem?_append_left (by rw [hlen]; omega), h0]
  · rfl
def InsFs (l : List File) (W : World) (r : Ending) (w' : World) : Prop := ∃ A c ext d, r = .returned (.slice A l.length c) ∧ w' = grow W ext d ∧ Ow cFile 3 47 w' W.heap.size (.slice A l.length c) l
theorem insFile_in {L : List File} {W w1 : World} {v : Value} {k : Nat} {l : List File} {x : File} (hb1 : Below W.heap.size W w1) (hown : Ow cFile 3 47 w1 W.heap.size v l) (hk : k ≤ l.length) (hn : (l.length + 1) * 48 ≤ 140737488355328) (vb : Nat) (hvb : vb = w1.heap.size) (hL : L = l.take k ++ x :: l.drop k) :
    Calls Try.prog 32 #[v, .int .i64 k, .slice (some ⟨vb, 0, none⟩) 1 1] (w1.alloc (.cells #[.string x.name, .string x.safe, .string x.tail] 47)) (InsFs L W) := by
  subst hL
  have hb : Below W.heap.size W (w1.alloc (.cells #[.string x.name, .string x.safe, .string x.tail] 47)) := hb1.alloc hb1.size _
  have ho : Ow cFile 3 47 (w1.alloc (.cells #[.string x.name, .string x.safe, .string x.tail] 47)) W.heap.size v l := hown.alloc _
  refine (insFile v k l x _ W.heap.size vb ho hk ?_ ?_ hb.size hn).mono ?_
  · subst hvb
    have := heap_alloc_new w1 (.cells #[.string x.name, .string x.safe, .string x.tail] 47)
    exact this
  · intro hc
    have h2 := (hown.own_in hc).2
    omega
  · rintro r w' ⟨A, c, rfl, h1, h2, h3⟩
    have hl : (l.take k ++ x :: l.drop k).length = l.length + 1 := by simp; omega
    obtain ⟨ext, d, rfl⟩ := grown_after hb h2 (fun k hk => (hown.own_in hk).1)
    exact ⟨A, c, ext, d, by rw [hl], rfl, by rw [hl]; exact h1⟩
set_option maxHeartbeats 4000000 in
theorem dkWrite (v : Value) (l : List File) (p s : ByteArray) (w : World) (h : Sl cFile 3 w v l) (hz : ∀ x ∈ l, x.sized) (hp : p.size ≤ 9223372036854775807) (hs : s.size ≤ 140737488355328) :
    Calls Try.prog 18 #[.agg #[v], .string p, .string s] w (DkRes (writeL l p s) (writeE l p s) w) := by
  obtain ⟨A, c, rfl, hc1, hc2⟩ := h.form
  have H := Lib.hid h
  have HG := Lib.hid (fun (W : World) (hs : Sl cFile 3 W (.slice A l.length c) l) => dkGood _ l W hs hz)
  have HN := Lib.hid (fun (W : World) => named_any p W hp)
  unfold writeL writeE
  cases hg : goodD l with
  | false =>
    rw [hg] at HG
    clear h hz hg
    simp only [Bool.false_eq_true, if_false]
    go_enter Try.func18, Try.ntmps18
    go_wp2_with
      (first | (go_at_call 21; refine (HG.out _ (H.out.below (by repeat (first | exact Below.refl _ _ | assumption | refine Below.drew ?_ | refine Below.drewN' ?_ _ | refine below_grow0 _ _ ?_ | refine below_alloc0 _ ?_ | refine Below.alloc ?_ (by first | omega | (simp; done) | (simp; omega)) _ | refine Below.setCell ?_ (by first | omega | (simp; done) | (simp; omega)) _ | refine Below.grow _ _ _ ?_ (by first | omega | (simp; done) | (simp; omega)))))).mono ?_; rintro e w1 ⟨rfl, hb⟩; obtain ⟨ext, d, rfl⟩ := Below.grown_eq _ hb; clear hb) | (go_at_call 31; refine (HF.out _ _ (H.out.below (by repeat (first | exact Below.refl _ _ | assumption | refine Below.drew ?_ | refine Below.drewN' ?_ _ | refine below_grow0 _ _ ?_ | refine below_alloc0 _ ?_ | refine Below.alloc ?_ (by first | omega | (simp; done) | (simp; omega)) _ | refine Below.setCell ?_ (by first | omega | (simp; done) | (simp; omega)) _ | refine Below.grow _ _ _ ?_ (by first | omega | (simp; done) | (simp; omega)))))).mono ?_; rintro e w1 ⟨rfl, hb⟩; obtain ⟨ext2, d2, rfl⟩ := Below.grown_eq _ hb; clear hb) | (go_at_call 30; refine (HN.out _).mono ?_; rintro e w1 ⟨rfl, rfl⟩; skip))
    refine bodyPost_ret (v := .tuple #[.agg #[.slice none 0 0], .int .i64 3]) (by simp [results, Try.results18, go_sem]) rfl ⟨none, 0, rfl, Ow.nil _ _ _ _ _, (by repeat (first | exact Below.refl _ _ | assumption | refine Below.drew ?_ | refine Below.drewN' ?_ _ | refine below_grow0 _ _ ?_ | refine below_alloc0 _ ?_ | refine Below.alloc ?_ (by first | omega | (simp; done) | (simp; omega)) _ | refine Below.setCell ?_ (by first | omega | (simp; done) | (simp; omega)) _ | refine Below.grow _ _ _ ?_ (by first | omega | (simp; done) | (simp; omega))))⟩
  | true =>
    rw [hg] at HG
    have hl16 := goodD_len hg
    clear hg
    simp only [if_true]
    cases hnm : named (bs p) with
    | false =>
      rw [hnm] at HN
      clear h hz hnm
      simp only [Bool.false_eq_true, if_false]
      go_enter Try.func18, Try.ntmps18
      go_wp2_with
        (first | (go_at_call 21; refine (HG.out _ (H.out.below (by repeat (first | exact Below.refl _ _ | assumption | refine Below.drew ?_ | refine Below.drewN' ?_ _ | refine below_grow0 _ _ ?_ | refine below_alloc0 _ ?_ | refine Below.alloc ?_ (by first | omega | (simp; done) | (simp; omega)) _ | refine Below.setCell ?_ (by first | omega | (simp; done) | (simp; omega)) _ | refine Below.grow _ _ _ ?_ (by first | omega | (simp; done) | (simp; omega)))))).mono ?_; rintro e w1 ⟨rfl, hb⟩; obtain ⟨ext, d, rfl⟩ := Below.grown_eq _ hb; clear hb) | (go_at_call 31; refine (HF.out _ _ (H.out.below (by repeat (first | exact Below.refl _ _ | assumption | refine Below.drew ?_ | refine Below.drewN' ?_ _ | refine below_grow0 _ _ ?_ | refine below_alloc0 _ ?_ | refine Below.alloc ?_ (by first | omega | (simp; done) | (simp; omega)) _ | refine Below.setCell ?_ (by first | omega | (simp; done) | (simp; omega)) _ | refine Below.grow _ _ _ ?_ (by first | omega | (simp; done) | (simp; omega)))))).mono ?_; rintro e w1 ⟨rfl, hb⟩; obtain ⟨ext2, d2, rfl⟩ := Below.grown_eq _ hb; clear hb) | (go_at_call 30; refine (HN.out _).mono ?_; rintro e w1 ⟨rfl, rfl⟩; skip))
      refine bodyPost_ret (v := .tuple #[.agg #[.slice none 0 0], .int .i64 2]) (by simp [results, Try.results18, go_sem]) rfl ⟨none, 0, rfl, Ow.nil _ _ _ _ _, (by repeat (first | exact Below.refl _ _ | assumption | refine Below.drew ?_ | refine Below.drewN' ?_ _ | refine below_grow0 _ _ ?_ | refine below_alloc0 _ ?_ | refine Below.alloc ?_ (by first | omega | (simp; done) | (simp; omega)) _ | refine Below.setCell ?_ (by first | omega | (simp; done) | (simp; omega)) _ | refine Below.grow _ _ _ ?_ (by first | omega | (simp; done) | (simp; omega))))⟩
    | true =>
      rw [hnm] at HN
      clear hnm
      simp only [if_true]
      have hfind := fun (W : World) (v : Value) (hs : Sl cFile 3 W v l) => dkFind v l p W hs (by omega)
      cases hk : isK (l.map File.name) p with
      | true =>
        rw [hk] at hfind
        have HF := Lib.hid hfind
        have hq := isK_in_file hk
        have hx : l[posK (l.map File.name) p]? = some (fileAt l p) := by
          unfold fileAt
          rw [List.getD_eq_getElem?_getD, List.getElem?_eq_getElem hq]
          rfl
        obtain ⟨z0, z1, z2⟩ := hz _ (List.mem_of_getElem? hx)
        generalize fileAt l p = x at *
        generalize posK (l.map File.name) p = q at *
        have HX := Lib.hid hx
        clear h hz hk hfind hx
        simp only [if_true]
        by_cases hl : x.safe.size + x.tail.size + s.size ≤ 1048576
        · have hli : (decide ((1048576 : Int) < (x.safe.size : Int) + (x.tail.size : Int) + (s.size : Int))) = false := decide_eq_false (by omega)
          simp only [if_pos hl]
          clear hl
          go_enter Try.func18, Try.ntmps18
          go_wp2_with
            (first | (go_at_call 21; refine (HG.out _ (H.out.below (by repeat (first | exact Below.refl _ _ | assumption | refine Below.drew ?_ | refine Below.drewN' ?_ _ | refine below_grow0 _ _ ?_ | refine below_alloc0 _ ?_ | refine Below.alloc ?_ (by first | omega | (simp; done) | (simp; omega)) _ | refine Below.setCell ?_ (by first | omega | (simp; done) | (simp; omega)) _ | refine Below.grow _ _ _ ?_ (by first | omega | (simp; done) | (simp; omega)))))).mono ?_; rintro e w1 ⟨rfl, hb⟩; obtain ⟨ext, d, rfl⟩ := Below.grown_eq _ hb; clear hb) | (go_at_call 31; refine (HF.out _ _ (H.out.below (by repeat (first | exact Below.refl _ _ | assumption | refine Below.drew ?_ | refine Below.drewN' ?_ _ | refine below_grow0 _ _ ?_ | refine below_alloc0 _ ?_ | refine Below.alloc ?_ (by first | omega | (simp; done) | (simp; omega)) _ | refine Below.setCell ?_ (by first | omega | (simp; done) | (simp; omega)) _ | refine Below.grow _ _ _ ?_ (by first | omega | (simp; done) | (simp; omega)))))).mono ?_; rintro e w1 ⟨rfl, hb⟩; obtain ⟨ext2, d2, rfl⟩ := Below.grown_eq _ hb; clear hb) | (go_at_call 30; refine (HN.out _).mono ?_; rintro e w1 ⟨rfl, rfl⟩; skip))
          refine (dkCopied _ l _ (H.out.below (by repeat (first | exact Below.refl _ _ | assumption | refine Below.drew ?_ | refine Below.drewN' ?_ _ | refine below_grow0 _ _ ?_ | refine below_alloc0 _ ?_ | refine Below.alloc ?_ (by first | omega | (simp; done) | (simp; omega)) _ | refine Below.setCell ?_ (by first | omega | (simp; done) | (simp; omega)) _ | refine Below.grow _ _ _ ?_ (by first | omega | (simp; done) | (simp; omega))))) (by omega) (by simp [maxLen]; omega)).mono ?_
          rintro e w3 ⟨A3, c3, rfl, ho3, hb3⟩
          obtain ⟨ext3, d3, rfl⟩ := Below.grown_eq _ hb3
          obtain ⟨g3, J, rfl, hg3, hbk3, hcl, hlc, hcm, _⟩ := ho3.blk (by omega)
          have hg4 : w.heap.size + 1 + 1 ≤ g3 := by simp at hg3; omega
          have hbk4 : ∀ d', Bk (grow (grow (grow ((w.alloc (.cells #[.slice (some ⟨g3, 0, none⟩) l.length c3] 40)).alloc (.cells #[.slice none 0 0] 40)) ext d) ext2 d2) ext3 d') g3 (l.flatMap cFile ++ J) 47 := fun d' => hbk3.regrow (by simpa using hg3) (by simp)
          obtain ⟨r0, r1, r2⟩ := file_cells (hbk4 (d3 + 1)) HX.out
          obtain ⟨s0, s1, s2⟩ := file_cells (hbk4 (d3 + 1)) HX.out
          have f2 := (hbk4 (d3 + 1)).frozen (q * 3 + 2)
          have HBK := Lib.hid hbk4
          have HCL := Lib.hid hcl
          clear hb3 ho3 hbk3 hbk4 hg3 hcl
          go_wp2_with fail
          go_region
          go_wp2_with fail
          have hlen : ((l.set q ⟨x.name, x.safe, x.tail ++ s⟩).flatMap cFile ++ J).length = c3 * 3 := by
            rw [← HCL.out, List.length_append, List.length_append, flatMap_length (f := cFile) (s := 3) (fun _ _ => rfl), flatMap_length (f := cFile) (s := 3) (fun _ _ => rfl), List.length_set]
          have n1 : ¬ w.heap.size + 1 = g3 := by omega
          have n2 : ¬ g3 = w.heap.size + 1 := by omega
          refine bodyPost_ret (v := .tuple #[.agg #[.slice (some ⟨g3, 0, none⟩) l.length c3], .int .i64 0]) (by simp [results, Try.results18, go_sem]) rfl ⟨some ⟨g3, 0, none⟩, c3, by rw [List.length_set], ?_, ?_⟩
          · refine Ow.far (Ow.of_blk (f := cFile) (s := 3) (B := w.heap.size) (fun _ _ => rfl) (by omega) ?_ rfl hlen (by rw [List.length_set]; exact hlc) hcm) (by omega)
            have := (HBK.out (d3 + 1)).put (q * 3 + 2) (.string (x.tail ++ s))
            rw [set_tail HX.out] at this
            exact this
          · refine Below.put (Below.put ?_ ?_) ?_
            · exact (by repeat (first | exact Below.refl _ _ | assumption | refine Below.drew ?_ | refine Below.drewN' ?_ _ | refine below_grow0 _ _ ?_ | refine below_alloc0 _ ?_ | refine Below.alloc ?_ (by first | omega | (simp; done) | (simp; omega)) _ | refine Below.setCell ?_ (by first | omega | (simp; done) | (simp; omega)) _ | refine Below.grow _ _ _ ?_ (by first | omega | (simp; done) | (simp; omega))))
            all_goals omega
        · have hli : (decide ((1048576 : Int) < (x.safe.size : Int) + (x.tail.size : Int) + (s.size : Int))) = true := decide_eq_true (by omega)
          simp only [if_neg hl]
          clear hl
          go_enter Try.func18, Try.ntmps18
          go_wp2_with
            (first | (go_at_call 21; refine (HG.out _ (H.out.below (by repeat (first | exact Below.refl _ _ | assumption | refine Below.drew ?_ | refine Below.drewN' ?_ _ | refine below_grow0 _ _ ?_ | refine below_alloc0 _ ?_ | refine Below.alloc ?_ (by first | omega | (simp; done) | (simp; omega)) _ | refine Below.setCell ?_ (by first | omega | (simp; done) | (simp; omega)) _ | refine Below.grow _ _ _ ?_ (by first | omega | (simp; done) | (simp; omega)))))).mono ?_; rintro e w1 ⟨rfl, hb⟩; obtain ⟨ext, d, rfl⟩ := Below.grown_eq _ hb; clear hb) | (go_at_call 31; refine (HF.out _ _ (H.out.below (by repeat (first | exact Below.refl _ _ | assumption | refine Below.drew ?_ | refine Below.drewN' ?_ _ | refine below_grow0 _ _ ?_ | refine below_alloc0 _ ?_ | refine Below.alloc ?_ (by first | omega | (simp; done) | (simp; omega)) _ | refine Below.setCell ?_ (by first | omega | (simp; done) | (simp; omega)) _ | refine Below.grow _ _ _ ?_ (by first | omega | (simp; done) | (simp; omega)))))).mono ?_; rintro e w1 ⟨rfl, hb⟩; obtain ⟨ext2, d2, rfl⟩ := Below.grown_eq _ hb; clear hb) | (go_at_call 30; refine (HN.out _).mono ?_; rintro e w1 ⟨rfl, rfl⟩; skip))
          refine (dkCopied _ l _ (H.out.below (by repeat (first | exact Below.refl _ _ | assumption | refine Below.drew ?_ | refine Below.drewN' ?_ _ | refine below_grow0 _ _ ?_ | refine below_alloc0 _ ?_ | refine Below.alloc ?_ (by first | omega | (simp; done) | (simp; omega)) _ | refine Below.setCell ?_ (by first | omega | (simp; done) | (simp; omega)) _ | refine Below.grow _ _ _ ?_ (by first | omega | (simp; done) | (simp; omega))))) (by omega) (by simp [maxLen]; omega)).mono ?_
          rintro e w3 ⟨A3, c3, rfl, ho3, hb3⟩
          obtain ⟨ext3, d3, rfl⟩ := Below.grown_eq _ hb3
          obtain ⟨g3, J, rfl, hg3, hbk3, hcl, hlc, hcm, _⟩ := ho3.blk (by omega)
          have hg4 : w.heap.size + 1 + 1 ≤ g3 := by simp at hg3; omega
          have hbk4 : ∀ d', Bk (grow (grow (grow ((w.alloc (.cells #[.slice (some ⟨g3, 0, none⟩) l.length c3] 40)).alloc (.cells #[.slice none 0 0] 40)) ext d) ext2 d2) ext3 d') g3 (l.flatMap cFile ++ J) 47 := fun d' => hbk3.regrow (by simpa using hg3) (by simp)
          obtain ⟨r0, r1, r2⟩ := file_cells (hbk4 (d3 + 1)) HX.out
          have HBK := Lib.hid hbk4
          have HCL := Lib.hid hcl
          clear hb3 ho3 hbk3 hbk4 hg3 hcl
          go_wp2_with fail
          go_region
          go_wp2_with fail
          refine bodyPost_ret (v := .tuple #[.agg #[.slice none 0 0], .int .i64 1]) (by simp [results, Try.results18, go_sem]) rfl ⟨none, 0, rfl, Ow.nil _ _ _ _ _, (by repeat (first | exact Below.refl _ _ | assumption | refine Below.drew ?_ | refine Below.drewN' ?_ _ | refine below_grow0 _ _ ?_ | refine below_alloc0 _ ?_ | refine Below.alloc ?_ (by first | omega | (simp; done) | (simp; omega)) _ | refine Below.setCell ?_ (by first | omega | (simp; done) | (simp; omega)) _ | refine Below.grow _ _ _ ?_ (by first | omega | (simp; done) | (simp; omega))))⟩
      | false =>
        rw [hk] at hfind
        have HF := Lib.hid hfind
        have hq : posK (l.map File.name) p ≤ l.length := by unfold posK; have := bsr_le (ltK (l.map File.name) p) (l.map File.name).length; simpa using this
        generalize posK (l.map File.name) p = q at *
        clear h hz hk hfind
        simp only [Bool.false_eq_true, if_false]
        by_cases h16 : 16 ≤ l.length
        · have h16i : (decide ((16 : Int) ≤ (l.length : Int))) = true := decide_eq_true (by omega)
          simp only [if_pos h16]
          go_enter Try.func18, Try.ntmps18
          go_wp2_with
            (first | (go_at_call 21; refine (HG.out _ (H.out.below (by repeat (first | exact Below.refl _ _ | assumption | refine Below.drew ?_ | refine Below.drewN' ?_ _ | refine below_grow0 _ _ ?_ | refine below_alloc0 _ ?_ | refine Below.alloc ?_ (by first | omega | (simp; done) | (simp; omega)) _ | refine Below.setCell ?_ (by first | omega | (simp; done) | (simp; omega)) _ | refine Below.grow _ _ _ ?_ (by first | omega | (simp; done) | (simp; omega)))))).mono ?_; rintro e w1 ⟨rfl, hb⟩; obtain ⟨ext, d, rfl⟩ := Below.grown_eq _ hb; clear hb) | (go_at_call 31; refine (HF.out _ _ (H.out.below (by repeat (first | exact Below.refl _ _ | assumption | refine Below.drew ?_ | refine Below.drewN' ?_ _ | refine below_grow0 _ _ ?_ | refine below_alloc0 _ ?_ | refine Below.alloc ?_ (by first | omega | (simp; done) | (simp; omega)) _ | refine Below.setCell ?_ (by first | omega | (simp; done) | (simp; omega)) _ | refine Below.grow _ _ _ ?_ (by first | omega | (simp; done) | (simp; omega)))))).mono ?_; rintro e w1 ⟨rfl, hb⟩; obtain ⟨ext2, d2, rfl⟩ := Below.grown_eq _ hb; clear hb) | (go_at_call 30; refine (HN.out _).mono ?_; rintro e w1 ⟨rfl, rfl⟩; skip))
          refine bodyPost_ret (v := .tuple #[.agg #[.slice none 0 0], .int .i64 6]) (by simp [results, Try.results18, go_sem]) rfl ⟨none, 0, rfl, Ow.nil _ _ _ _ _, (by repeat (first | exact Below.refl _ _ | assumption | refine Below.drew ?_ | refine Below.drewN' ?_ _ | refine below_grow0 _ _ ?_ | refine below_alloc0 _ ?_ | refine Below.alloc ?_ (by first | omega | (simp; done) | (simp; omega)) _ | refine Below.setCell ?_ (by first | omega | (simp; done) | (simp; omega)) _ | refine Below.grow _ _ _ ?_ (by first | omega | (simp; done) | (simp; omega))))⟩
        · have h16i : (decide ((16 : Int) ≤ (l.length : Int))) = false := decide_eq_false (by omega)
          simp only [if_neg h16]
          generalize hL : l.take q ++ (⟨p, ⟨#[]⟩, ⟨#[]⟩⟩ : File) :: l.drop q = L
          have hX : L[q]? = some (⟨p, ⟨#[]⟩, ⟨#[]⟩⟩ : File) := by rw [← hL, List.getElem?_append_right (by simp; omega)]; simp [Nat.min_eq_left hq]
          have hX2 : L.set q ⟨p, ⟨#[]⟩, s⟩ = l.take q ++ (⟨p, ⟨#[]⟩, s⟩ : File) :: l.drop q := by rw [← hL, List.set_append_right _ _ (by simp; omega)]; simp [Nat.min_eq_left hq]
          have hLl : 0 < L.length := Nat.lt_of_le_of_lt (Nat.zero_le q) (List.getElem?_eq_some_iff.1 hX).1
          have HL := Lib.hid hL
          have HX := Lib.hid hX
          rw [← hX2]
          clear hL hX hX2
          by_cases hl : s.size ≤ 1048576
          · have hli : (decide ((1048576 : Int) < (s.size : Int))) = false := decide_eq_false (by omega)
            simp only [if_pos hl]
            clear hl
            go_enter Try.func18, Try.ntmps18
            go_wp2_with
              (first | (go_at_call 21; refine (HG.out _ (H.out.below (by repeat (first | exact Below.refl _ _ | assumption | refine Below.drew ?_ | refine Below.drewN' ?_ _ | refine below_grow0 _ _ ?_ | refine below_alloc0 _ ?_ | refine Below.alloc ?_ (by first | omega | (simp; done) | (simp; omega)) _ | refine Below.setCell ?_ (by first | omega | (simp; done) | (simp; omega)) _ | refine Below.grow _ _ _ ?_ (by first | omega | (simp; done) | (simp; omega)))))).mono ?_; rintro e w1 ⟨rfl, hb⟩; obtain ⟨ext, d, rfl⟩ := Below.grown_eq _ hb; clear hb) | (go_at_call 31; refine (HF.out _ _ (H.out.below (by repeat (first | exact Below.refl _ _ | assumption | refine Below.drew ?_ | refine Below.drewN' ?_ _ | refine below_grow0 _ _ ?_ | refine below_alloc0 _ ?_ | refine Below.alloc ?_ (by first | omega | (simp; done) | (simp; omega)) _ | refine Below.setCell ?_ (by first | omega | (simp; done) | (simp; omega)) _ | refine Below.grow _ _ _ ?_ (by first | omega | (simp; done) | (simp; omega)))))).mono ?_; rintro e w1 ⟨rfl, hb⟩; obtain ⟨ext2, d2, rfl⟩ := Below.grown_eq _ hb; clear hb) | (go_at_call 30; refine (HN.out _).mono ?_; rintro e w1 ⟨rfl, rfl⟩; skip))
            refine (dkCopied _ l _ (H.out.below (by repeat (first | exact Below.refl _ _ | assumption | refine Below.drew ?_ | refine Below.drewN' ?_ _ | refine below_grow0 _ _ ?_ | refine below_alloc0 _ ?_ | refine Below.alloc ?_ (by first | omega | (simp; done) | (simp; omega)) _ | refine Below.setCell ?_ (by first | omega | (simp; done) | (simp; omega)) _ | refine Below.grow _ _ _ ?_ (by first | omega | (simp; done) | (simp; omega))))) (by omega) (by simp [maxLen]; omega)).mono ?_
            rintro e w3 ⟨A3, c3, rfl, ho3, hb3⟩
            obtain ⟨ext3, d3, rfl⟩ := Below.grown_eq _ hb3
            have HO3 := Lib.hid ho3
            clear ho3
            go_wp2_with fail
            refine (insFile_in (x := ⟨p, ⟨#[]⟩, ⟨#[]⟩⟩) (W := ((w.alloc (.cells #[.slice A3 l.length c3] 40)).alloc (.cells #[.slice none 0 0] 40))) (by repeat (first | exact Below.refl _ _ | assumption | refine Below.drew ?_ | refine Below.drewN' ?_ _ | refine below_grow0 _ _ ?_ | refine below_alloc0 _ ?_ | refine Below.alloc ?_ (by first | omega | (simp; done) | (simp; omega)) _ | refine Below.setCell ?_ (by first | omega | (simp; done) | (simp; omega)) _ | refine Below.grow _ _ _ ?_ (by first | omega | (simp; done) | (simp; omega)))) ((HO3.out.regrow (Nat.le_refl _) (by simp)).mono (by simp; omega)) hq (by omega) _ (by simp) HL.out.symm).mono ?_
            rintro e w4 ⟨A4, c4, ext4, d4, rfl, rfl, ho4⟩
            obtain ⟨g3, J, rfl, hg3, hbk3, hcl, hlc, hcm, _⟩ := ho4.blk hLl
            have hg4 : w.heap.size + 1 + 1 ≤ g3 := by simp at hg3; omega
            have hbk4 : ∀ d', Bk (grow ((w.alloc (.cells #[.slice (some ⟨g3, 0, none⟩) L.length c4] 40)).alloc (.cells #[.slice none 0 0] 40)) ext4 d') g3 (L.flatMap cFile ++ J) 47 := fun d' => hbk3.regrow (by simpa using hg3) (by simp)
            obtain ⟨r0, r1, r2⟩ := file_cells (hbk4 (d4 + 1)) HX.out
            have f2 := (hbk4 (d4 + 1)).frozen (q * 3 + 2)
            have hqL : q < L.length := (List.getElem?_eq_some_iff.1 HX.out).1
            have HBK := Lib.hid hbk4
            have HCL := Lib.hid hcl
            clear ho4 hbk3 hbk4 hg3 hcl
            go_wp2_with fail
            go_region
            go_wp2_with fail
            have hlen : ((L.set q ⟨p, ⟨#[]⟩, s⟩).flatMap cFile ++ J).length = c4 * 3 := by
              rw [← HCL.out, List.length_append, List.length_append, flatMap_length (f := cFile) (s := 3) (fun _ _ => rfl), flatMap_length (f := cFile) (s := 3) (fun _ _ => rfl), List.length_set]
            have n1 : ¬ w.heap.size + 1 = g3 := by omega
            have n2 : ¬ g3 = w.heap.size + 1 := by omega
            refine bodyPost_ret (v := .tuple #[.agg #[.slice (some ⟨g3, 0, none⟩) L.length c4], .int .i64 0]) (by simp [results, Try.results18, go_sem]) rfl ⟨some ⟨g3, 0, none⟩, c4, by rw [List.length_set], ?_, ?_⟩
            · refine Ow.far (Ow.of_blk (f := cFile) (s := 3) (B := w.heap.size) (fun _ _ => rfl) (by omega) ?_ rfl hlen (by rw [List.length_set]; exact hlc) hcm) (by omega)
              have := (HBK.out (d4 + 1)).put (q * 3 + 2) (.string s)
              rw [set_tail HX.out] at this
              exact this
            · refine Below.put (Below.put ?_ ?_) ?_
              · exact (by repeat (first | exact Below.refl _ _ | assumption | refine Below.drew ?_ | refine Below.drewN' ?_ _ | refine below_grow0 _ _ ?_ | refine below_alloc0 _ ?_ | refine Below.alloc ?_ (by first | omega | (simp; done) | (simp; omega)) _ | refine Below.setCell ?_ (by first | omega | (simp; done) | (simp; omega)) _ | refine Below.grow _ _ _ ?_ (by first | omega | (simp; done) | (simp; omega))))
              all_goals omega
          · have hli : (decide ((1048576 : Int) < (s.size : Int))) = true := decide_eq_true (by omega)
            simp only [if_neg hl]
            clear hl
            go_enter Try.func18, Try.ntmps18
            go_wp2_with
              (first | (go_at_call 21; refine (HG.out _ (H.out.below (by repeat (first | exact Below.refl _ _ | assumption | refine Below.drew ?_ | refine Below.drewN' ?_ _ | refine below_grow0 _ _ ?_ | refine below_alloc0 _ ?_ | refine Below.alloc ?_ (by first | omega | (simp; done) | (simp; omega)) _ | refine Below.setCell ?_ (by first | omega | (simp; done) | (simp; omega)) _ | refine Below.grow _ _ _ ?_ (by first | omega | (simp; done) | (simp; omega)))))).mono ?_; rintro e w1 ⟨rfl, hb⟩; obtain ⟨ext, d, rfl⟩ := Below.grown_eq _ hb; clear hb) | (go_at_call 31; refine (HF.out _ _ (H.out.below (by repeat (first | exact Below.refl _ _ | assumption | refine Below.drew ?_ | refine Below.drewN' ?_ _ | refine below_grow0 _ _ ?_ | refine below_alloc0 _ ?_ | refine Below.alloc ?_ (by first | omega | (simp; done) | (simp; omega)) _ | refine Below.setCell ?_ (by first | omega | (simp; done) | (simp; omega)) _ | refine Below.grow _ _ _ ?_ (by first | omega | (simp; done) | (simp; omega)))))).mono ?_; rintro e w1 ⟨rfl, hb⟩; obtain ⟨ext2, d2, rfl⟩ := Below.grown_eq _ hb; clear hb) | (go_at_call 30; refine (HN.out _).mono ?_; rintro e w1 ⟨rfl, rfl⟩; skip))
            refine (dkCopied _ l _ (H.out.below (by repeat (first | exact Below.refl _ _ | assumption | refine Below.drew ?_ | refine Below.drewN' ?_ _ | refine below_grow0 _ _ ?_ | refine below_alloc0 _ ?_ | refine Below.alloc ?_ (by first | omega | (simp; done) | (simp; omega)) _ | refine Below.setCell ?_ (by first | omega | (simp; done) | (simp; omega)) _ | refine Below.grow _ _ _ ?_ (by first | omega | (simp; done) | (simp; omega))))) (by omega) (by simp [maxLen]; omega)).mono ?_
            rintro e w3 ⟨A3, c3, rfl, ho3, hb3⟩
            obtain ⟨ext3, d3, rfl⟩ := Below.grown_eq _ hb3
            have HO3 := Lib.hid ho3
            clear ho3
            go_wp2_with fail
            refine (insFile_in (x := ⟨p, ⟨#[]⟩, ⟨#[]⟩⟩) (W := ((w.alloc (.cells #[.slice A3 l.length c3] 40)).alloc (.cells #[.slice none 0 0] 40))) (by repeat (first | exact Below.refl _ _ | assumption | refine Below.drew ?_ | refine Below.drewN' ?_ _ | refine below_grow0 _ _ ?_ | refine below_alloc0 _ ?_ | refine Below.alloc ?_ (by first | omega | (simp; done) | (simp; omega)) _ | refine Below.setCell ?_ (by first | omega | (simp; done) | (simp; omega)) _ | refine Below.grow _ _ _ ?_ (by first | omega | (simp; done) | (simp; omega)))) ((HO3.out.regrow (Nat.le_refl _) (by simp)).mono (by simp; omega)) hq (by omega) _ (by simp) HL.out.symm).mono ?_
            rintro e w4 ⟨A4, c4, ext4, d4, rfl, rfl, ho4⟩
            obtain ⟨g3, J, rfl, hg3, hbk3, hcl, hlc, hcm, _⟩ := ho4.blk hLl
            have hg4 : w.heap.size + 1 + 1 ≤ g3 := by simp at hg3; omega
            have hbk4 : ∀ d', Bk (grow ((w.alloc (.cells #[.slice (some ⟨g3, 0, none⟩) L.length c4] 40)).alloc (.cells #[.slice none 0 0] 40)) ext4 d') g3 (L.flatMap cFile ++ J) 47 := fun d' => hbk3.regrow (by simpa using hg3) (by simp)
            obtain ⟨r0, r1, r2⟩ := file_cells (hbk4 (d4 + 1)) HX.out
            have f2 := (hbk4 (d4 + 1)).frozen (q * 3 + 2)
            have hqL : q < L.length := (List.getElem?_eq_some_iff.1 HX.out).1
            have HBK := Lib.hid hbk4
            have HCL := Lib.hid hcl
            clear ho4 hbk3 hbk4 hg3 hcl
            go_wp2_with fail
            go_region
            go_wp2_with fail
            refine bodyPost_ret (v := .tuple #[.agg #[.slice none 0 0], .int .i64 1]) (by simp [results, Try.results18, go_sem]) rfl ⟨none, 0, rfl, Ow.nil _ _ _ _ _, (by repeat (first | exact Below.refl _ _ | assumption | refine Below.drew ?_ | refine Below.drewN' ?_ _ | refine below_grow0 _ _ ?_ | refine below_alloc0 _ ?_ | refine Below.alloc ?_ (by first | omega | (simp; done) | (simp; omega)) _ | refine Below.setCell ?_ (by first | omega | (simp; done) | (simp; omega)) _ | refine Below.grow _ _ _ ?_ (by first | omega | (simp; done) | (simp; omega))))⟩
end Go.Proofs.Ytdfliajginlpiaa
