/- package disk: Sync, Cut, Crash: under way. -/
import Derived.Test.YtdfliajginlpiaaDisk2
namespace Go.Proofs.Ytdfliajginlpiaa
open Go.RowKit Go.ChangeShapes Go.WideShapes Go.ChangeAt
set_option maxHeartbeats 1000000 in
theorem dkSync1 (g o : Nat) (x : File) (w : World) (c1 : w.cell? ⟨g, o + 1, none⟩ = some (.string x.safe)) (c2 : w.cell? ⟨g, o + 2, none⟩ = some (.string x.tail)) (f1 : w.frozen? ⟨g, o + 1, none⟩ = false) (f2 : w.frozen? ⟨g, o + 2, none⟩ = false)
    (z1 : x.safe.size ≤ 140737488355328) (z2 : x.tail.size ≤ 140737488355328) :
    Calls Try.prog 34 #[.pointer (some ⟨g, o, none⟩)] w fun e w' => e = .returned (.int .i64 0) ∧ w' = ((w.setCell ⟨g, o + 1, none⟩ (.string (x.safe ++ x.tail))).setCell ⟨g, o + 2, none⟩ (.string ⟨#[]⟩)).drew := by
  go_enter Try.func34, Try.ntmps34
  go_wp2_with fail
  go_region
  go_wp2_with fail
  go_ret
  exact ⟨rfl, rfl⟩
set_option maxHeartbeats 1000000 in
theorem dkCut1_no (g o bn : Nat) (n : Int) (x : File) (w : World) (c1 : w.cell? ⟨g, o + 1, none⟩ = some (.string x.safe)) (c2 : w.cell? ⟨g, o + 2, none⟩ = some (.string x.tail)) (cn : w.cell? ⟨bn, 0, none⟩ = some (.int .i64 n))
    (z1 : x.safe.size ≤ 140737488355328) (z2 : x.tail.size ≤ 140737488355328) (h : n < 0 ∨ ((x.safe ++ x.tail).size : Int) < n) :
    Calls Try.prog 35 #[.pointer (some ⟨g, o, none⟩), .pointer (some ⟨bn, 0, none⟩)] w fun e w' => e = .returned (.int .i64 3) ∧ w' = w.drew := by
  have hsz : (x.safe ++ x.tail).size = x.safe.size + x.tail.size := by simp
  generalize hall : x.safe ++ x.tail = all at *
  by_cases hn : n < 0
  · go_enter Try.func35, Try.ntmps35
    go_wp2_with fail
    go_region
    go_wp2_with fail
    go_ret
    exact ⟨rfl, rfl⟩
  · have hn2 : (all.size : Int) < n := by omega
    go_enter Try.func35, Try.ntmps35
    go_wp2_with fail
    go_region
    go_wp2_with fail
    go_ret
    exact ⟨rfl, rfl⟩
set_option maxHeartbeats 1000000 in
theorem dkCut1_ok (g o bn n : Nat) (x : File) (w : World) (c1 : w.cell? ⟨g, o + 1, none⟩ = some (.string x.safe)) (c2 : w.cell? ⟨g, o + 2, none⟩ = some (.string x.tail)) (f1 : w.frozen? ⟨g, o + 1, none⟩ = false) (f2 : w.frozen? ⟨g, o + 2, none⟩ = false) (cn : w.cell? ⟨bn, 0, none⟩ = some (.int .i64 n))
    (z1 : x.safe.size ≤ 140737488355328) (z2 : x.tail.size ≤ 140737488355328) (h : n ≤ (x.safe ++ x.tail).size) :
    Calls Try.prog 35 #[.pointer (some ⟨g, o, none⟩), .pointer (some ⟨bn, 0, none⟩)] w fun e w' => e = .returned (.int .i64 0) ∧ w' = ((w.setCell ⟨g, o + 1, none⟩ (.string ((x.safe ++ x.tail).extract 0 n))).setCell ⟨g, o + 2, none⟩ (.string ⟨#[]⟩)).drew := by
  have hsz : (x.safe ++ x.tail).size = x.safe.size + x.tail.size := by simp
  generalize hall : x.safe ++ x.tail = all at *
  go_enter Try.func35, Try.ntmps35
  go_wp2_with fail
  go_region
  go_wp2_with fail
  go_ret
  exact ⟨rfl, rfl⟩
theorem file_cells {W : World} {g k : Nat} {l : List File} {J : List Value} {t : TypeId} {x : File} (h : Bk W g (l.flatMap cFile ++ J) t) (hx : l[k]? = some x) :
    W.cell? ⟨g, k * 3, none⟩ = some (.string x.name) ∧ W.cell? ⟨g, k * 3 + 1, none⟩ = some (.string x.safe) ∧ W.cell? ⟨g, k * 3 + 2, none⟩ = some (.string x.tail) := by
  have key : ∀ j u, (cFile x)[j]? = some u → W.cell? ⟨g, k * 3 + j, none⟩ = some u := by
    intro j u hu
    have h0 : (l.flatMap cFile)[k * 3 + j]? = some u := flatMap_get (f := cFile) (s := 3) (fun y _ => rfl) hx hu
    rw [h.cell, List.getElem?_append_left (List.getElem?_eq_some_iff.1 h0).1, h0]
  exact ⟨key 0 _ rfl, key 1 _ rfl, key 2 _ rfl⟩
theorem splice1 (cs : List Value) (o : Nat) (v : Value) (r : List Value) (hl : o + (r.length + 1) ≤ cs.length) : splice (cs.set o v) (o + 1) r = splice cs o (v :: r) := by
  unfold splice
  have h1 : (cs.set o v).take (o + 1) = cs.take o ++ [v] := by
    rw [List.take_add_one, List.getElem?_set_self (by omega), List.take_set_of_le (by omega)]
    rfl
  rw [h1, List.drop_set_of_lt (by omega), List.length_cons, show o + (r.length + 1) = o + 1 + r.length from by omega]
  simp
/-- two cells of one file set anew -/
theorem set_file {l : List File} {J : List Value} {k : Nat} {x : File} (hx : l[k]? = some x) (s t : ByteArray) :
    (((l.flatMap cFile ++ J).set (k * 3 + 1) (.string s)).set (k * 3 + 2) (.string t)) = (l.set k ⟨x.name, s, t⟩).flatMap cFile ++ J := by
  have hk : k < l.length := (List.getElem?_eq_some_iff.1 hx).1
  have hlen : (l.flatMap cFile).length = l.length * 3 := flatMap_length (fun y _ => rfl)
  have hle : k * 3 + 3 ≤ (l.flatMap cFile ++ J).length := by rw [List.length_append, hlen]; omega
  have h0 : (l.flatMap cFile)[k * 3 + 0]? = some (.string x.name) := flatMap_get (f := cFile) (s := 3) (fun y _ => rfl) hx rfl
  have hself : (l.flatMap cFile ++ J).set (k * 3) (.string x.name) = l.flatMap cFile ++ J := by
    apply List.ext_getElem?
    intro i
    rw [List.getElem?_set]
    split
    · rename_i e
      subst e
      rw [if_pos (by omega), List.getElem?_append_left (by rw [hlen]; omega), ← Nat.add_zero (k * 3), h0]
    · rfl
  rw [← flatMap_set (f := cFile) (s := 3) (fun y _ => rfl) hk ⟨x.name, s, t⟩ rfl J]
  show _ = splice _ (k * 3) [Value.string x.name, Value.string s, Value.string t]
  rw [← splice1 _ _ _ _ (by simpa using hle), hself, ← splice1 _ _ _ _ (by simpa using hle), ← splice1 _ _ _ _ (by rw [List.length_set]; simpa using hle)]
  simp [splice]
def syncF (x : File) : File := ⟨x.name, x.safe ++ x.tail, ⟨#[]⟩⟩
def syncL (l : List File) (p : ByteArray) : List File := if goodD l && isK (l.map File.name) p then l.set (posK (l.map File.name) p) (syncF (fileAt l p)) else []
set_option maxHeartbeats 2000000 in
theorem dkChangeSync (v : Value) (l : List File) (p : ByteArray) (w : World) (h : Sl cFile 3 w v l) (hz : ∀ x ∈ l, x.sized) :
    Calls Try.prog 33 #[.agg #[v], .string p, .func (.func 34) #[] #[]] w (DkRes (syncL l p) (readE l p) w) := by
  obtain ⟨A, c, rfl, hc1, hc2⟩ := h.form
  have H := Lib.hid h
  have HG := Lib.hid (fun (W : World) (hs : Sl cFile 3 W (.slice A l.length c) l) => dkGood _ l W hs hz)
  unfold syncL readE
  cases hg : goodD l with
  | false =>
    rw [hg] at HG
    clear h hz hg
    simp only [Bool.false_and, Bool.false_eq_true, if_false]
    go_enter Try.func33, Try.ntmps33
    go_wp2_with
      (first | (go_at_call 21; refine (HG.out _ (H.out.below (by repeat (first | exact Below.refl _ _ | assumption | refine Below.drew ?_ | refine Below.drewN' ?_ _ | refine below_grow0 _ _ ?_ | refine below_alloc0 _ ?_ | refine Below.alloc ?_ (by first | omega | (simp; done) | (simp; omega)) _ | refine Below.setCell ?_ (by first | omega | (simp; done) | (simp; omega)) _ | refine Below.grow _ _ _ ?_ (by first | omega | (simp; done) | (simp; omega)))))).mono ?_; rintro e w1 ⟨rfl, hb⟩; obtain ⟨ext, d, rfl⟩ := Below.grown_eq _ hb; clear hb) | (go_at_call 31; refine (HF.out _ _ (H.out.below (by repeat (first | exact Below.refl _ _ | assumption | refine Below.drew ?_ | refine Below.drewN' ?_ _ | refine below_grow0 _ _ ?_ | refine below_alloc0 _ ?_ | refine Below.alloc ?_ (by first | omega | (simp; done) | (simp; omega)) _ | refine Below.setCell ?_ (by first | omega | (simp; done) | (simp; omega)) _ | refine Below.grow _ _ _ ?_ (by first | omega | (simp; done) | (simp; omega)))))).mono ?_; rintro e w1 ⟨rfl, hb⟩; obtain ⟨ext2, d2, rfl⟩ := Below.grown_eq _ hb; clear hb))
    refine bodyPost_ret (v := .tuple #[.agg #[.slice none 0 0], .int .i64 3]) (by simp [results, Try.results33, go_sem]) rfl ⟨none, 0, rfl, Ow.nil _ _ _ _ _, (by repeat (first | exact Below.refl _ _ | assumption | refine Below.drew ?_ | refine Below.drewN' ?_ _ | refine below_grow0 _ _ ?_ | refine below_alloc0 _ ?_ | refine Below.alloc ?_ (by first | omega | (simp; done) | (simp; omega)) _ | refine Below.setCell ?_ (by first | omega | (simp; done) | (simp; omega)) _ | refine Below.grow _ _ _ ?_ (by first | omega | (simp; done) | (simp; omega))))⟩
  | true =>
    rw [hg] at HG
    have hl16 := goodD_len hg
    have hfind := fun (W : World) (v : Value) (hs : Sl cFile 3 W v l) => dkFind v l p W hs (by omega)
    clear hg
    simp only [Bool.true_and, if_true]
    cases hk : isK (l.map File.name) p with
    | false =>
      rw [hk] at hfind
      have HF := Lib.hid hfind
      generalize posK (l.map File.name) p = q at *
      clear h hz hk hfind
      simp only [Bool.false_eq_true, if_false]
      go_enter Try.func33, Try.ntmps33
      go_wp2_with
        (first | (go_at_call 21; refine (HG.out _ (H.out.below (by repeat (first | exact Below.refl _ _ | assumption | refine Below.drew ?_ | refine Below.drewN' ?_ _ | refine below_grow0 _ _ ?_ | refine below_alloc0 _ ?_ | refine Below.alloc ?_ (by first | omega | (simp; done) | (simp; omega)) _ | refine Below.setCell ?_ (by first | omega | (simp; done) | (simp; omega)) _ | refine Below.grow _ _ _ ?_ (by first | omega | (simp; done) | (simp; omega)))))).mono ?_; rintro e w1 ⟨rfl, hb⟩; obtain ⟨ext, d, rfl⟩ := Below.grown_eq _ hb; clear hb) | (go_at_call 31; refine (HF.out _ _ (H.out.below (by repeat (first | exact Below.refl _ _ | assumption | refine Below.drew ?_ | refine Below.drewN' ?_ _ | refine below_grow0 _ _ ?_ | refine below_alloc0 _ ?_ | refine Below.alloc ?_ (by first | omega | (simp; done) | (simp; omega)) _ | refine Below.setCell ?_ (by first | omega | (simp; done) | (simp; omega)) _ | refine Below.grow _ _ _ ?_ (by first | omega | (simp; done) | (simp; omega)))))).mono ?_; rintro e w1 ⟨rfl, hb⟩; obtain ⟨ext2, d2, rfl⟩ := Below.grown_eq _ hb; clear hb))
      refine bodyPost_ret (v := .tuple #[.agg #[.slice none 0 0], .int .i64 7]) (by simp [results, Try.results33, go_sem]) rfl ⟨none, 0, rfl, Ow.nil _ _ _ _ _, (by repeat (first | exact Below.refl _ _ | assumption | refine Below.drew ?_ | refine Below.drewN' ?_ _ | refine below_grow0 _ _ ?_ | refine below_alloc0 _ ?_ | refine Below.alloc ?_ (by first | omega | (simp; done) | (simp; omega)) _ | refine Below.setCell ?_ (by first | omega | (simp; done) | (simp; omega)) _ | refine Below.grow _ _ _ ?_ (by first | omega | (simp; done) | (simp; omega))))⟩
    | true =>
      rw [hk] at hfind
      have HF := Lib.hid hfind
      have hq := isK_in_file hk
      have hx : l[posK (l.map File.name) p]? = some (fileAt l p) := by
        unfold fileAt
        rw [List.getD_eq_getElem?_getD, List.getElem?_eq_getElem hq]
        rfl
      obtain ⟨z0, z1, z2⟩ := hz _ (List.mem_of_getElem? hx)
      generalize fileAt l p = x at *
      generalize posK (l.map File.name) p = q at *
      have HX := Lib.hid hx
      clear h hz hk hfind hx
      simp only [if_true]
      go_enter Try.func33, Try.ntmps33
      go_wp2_with
        (first | (go_at_call 21; refine (HG.out _ (H.out.below (by repeat (first | exact Below.refl _ _ | assumption | refine Below.drew ?_ | refine Below.drewN' ?_ _ | refine below_grow0 _ _ ?_ | refine below_alloc0 _ ?_ | refine Below.alloc ?_ (by first | omega | (simp; done) | (simp; omega)) _ | refine Below.setCell ?_ (by first | omega | (simp; done) | (simp; omega)) _ | refine Below.grow _ _ _ ?_ (by first | omega | (simp; done) | (simp; omega)))))).mono ?_; rintro e w1 ⟨rfl, hb⟩; obtain ⟨ext, d, rfl⟩ := Below.grown_eq _ hb; clear hb) | (go_at_call 31; refine (HF.out _ _ (H.out.below (by repeat (first | exact Below.refl _ _ | assumption | refine Below.drew ?_ | refine Below.drewN' ?_ _ | refine below_grow0 _ _ ?_ | refine below_alloc0 _ ?_ | refine Below.alloc ?_ (by first | omega | (simp; done) | (simp; omega)) _ | refine Below.setCell ?_ (by first | omega | (simp; done) | (simp; omega)) _ | refine Below.grow _ _ _ ?_ (by first | omega | (simp; done) | (simp; omega)))))).mono ?_; rintro e w1 ⟨rfl, hb⟩; obtain ⟨ext2, d2, rfl⟩ := Below.grown_eq _ hb; clear hb))
      refine (dkCopied _ l _ (H.out.below (by repeat (first | exact Below.refl _ _ | assumption | refine Below.drew ?_ | refine Below.drewN' ?_ _ | refine below_grow0 _ _ ?_ | refine below_alloc0 _ ?_ | refine Below.alloc ?_ (by first | omega | (simp; done) | (simp; omega)) _ | refine Below.setCell ?_ (by first | omega | (simp; done) | (simp; omega)) _ | refine Below.grow _ _ _ ?_ (by first | omega | (simp; done) | (simp; omega))))) (by omega) (by simp [maxLen]; omega)).mono ?_
      rintro e w3 ⟨A3, c3, rfl, ho3, hb3⟩
      obtain ⟨ext3, d3, rfl⟩ := Below.grown_eq _ hb3
      obtain ⟨g3, J, rfl, hg3, hbk3, hcl, hlc, hcm, _⟩ := ho3.blk (by omega)
      have hbk4 : Bk (grow (grow (grow ((w.alloc (.cells #[.slice (some ⟨g3, 0, none⟩) l.length c3] 40)).alloc (.cells #[.slice none 0 0] 40)) ext d) ext2 d2) ext3 d3) g3 (l.flatMap cFile ++ J) 47 := hbk3.regrow (by simpa using hg3) (by simp)
      have hg4 : w.heap.size + 1 + 1 ≤ g3 := by simp at hg3; omega
      obtain ⟨r0, r1, r2⟩ := file_cells hbk4 HX.out
      have HBK := Lib.hid hbk4
      have HCL := Lib.hid hcl
      clear hb3 ho3 hbk3 hbk4 hg3 hcl
      go_wp2_with fail
      refine (dkSync1 g3 (q * 3) x _ r1 r2 (HBK.out.frozen _) (HBK.out.frozen _) z1 z2).mono ?_
      rintro e w4 ⟨rfl, rfl⟩
      have hb5 : Below ((w.alloc (.cells #[.slice (some ⟨g3, 0, none⟩) l.length c3] 40)).alloc (.cells #[.slice none 0 0] 40)).heap.size ((w.alloc (.cells #[.slice (some ⟨g3, 0, none⟩) l.length c3] 40)).alloc (.cells #[.slice none 0 0] 40)) ((((grow (grow (grow ((w.alloc (.cells #[.slice (some ⟨g3, 0, none⟩) l.length c3] 40)).alloc (.cells #[.slice none 0 0] 40)) ext d) ext2 d2) ext3 d3).setCell ⟨g3, q * 3 + 1, none⟩ (.string (x.safe ++ x.tail))).setCell ⟨g3, q * 3 + 2, none⟩ (.string ⟨#[]⟩)).drew) := Below.drew (Below.put (Below.put (by repeat (first | exact Below.refl _ _ | assumption | refine Below.drew ?_ | refine Below.drewN' ?_ _ | refine below_grow0 _ _ ?_ | refine below_alloc0 _ ?_ | refine Below.alloc ?_ (by first | omega | (simp; done) | (simp; omega)) _ | refine Below.setCell ?_ (by first | omega | (simp; done) | (simp; omega)) _ | refine Below.grow _ _ _ ?_ (by first | omega | (simp; done) | (simp; omega)))) (by simp; omega)) (by simp; omega))
      have hbk5 : Bk ((((grow (grow (grow ((w.alloc (.cells #[.slice (some ⟨g3, 0, none⟩) l.length c3] 40)).alloc (.cells #[.slice none 0 0] 40)) ext d) ext2 d2) ext3 d3).setCell ⟨g3, q * 3 + 1, none⟩ (.string (x.safe ++ x.tail))).setCell ⟨g3, q * 3 + 2, none⟩ (.string ⟨#[]⟩)).drew) g3 ((l.set q (syncF x)).flatMap cFile ++ J) 47 := by
        have := (HBK.out.put (q * 3 + 1) (.string (x.safe ++ x.tail))).put (q * 3 + 2) (.string ⟨#[]⟩)
        rw [set_file HX.out] at this
        exact this
      generalize ((((grow (grow (grow ((w.alloc (.cells #[.slice (some ⟨g3, 0, none⟩) l.length c3] 40)).alloc (.cells #[.slice none 0 0] 40)) ext d) ext2 d2) ext3 d3).setCell ⟨g3, q * 3 + 1, none⟩ (.string (x.safe ++ x.tail))).setCell ⟨g3, q * 3 + 2, none⟩ (.string ⟨#[]⟩)).drew) = w5 at hb5 hbk5 ⊢
      obtain ⟨ext5, d5, rfl⟩ := Below.grown_eq _ hb5
      have HBK5 := Lib.hid hbk5
      clear hb5 hbk5 HBK r0 r1 r2
      go_wp2_with fail
      have hlen : ((l.set q (syncF x)).flatMap cFile ++ J).length = c3 * 3 := by
        rw [← HCL.out, List.length_append, List.length_append, flatMap_length (f := cFile) (s := 3) (fun _ _ => rfl), flatMap_length (f := cFile) (s := 3) (fun _ _ => rfl), List.length_set]
      refine bodyPost_ret (v := .tuple #[.agg #[.slice (some ⟨g3, 0, none⟩) l.length c3], .int .i64 0]) (by simp [results, Try.results33, go_sem]) rfl ⟨some ⟨g3, 0, none⟩, c3, by rw [List.length_set], ?_, (by repeat (first | exact Below.refl _ _ | assumption | refine Below.drew ?_ | refine Below.drewN' ?_ _ | refine below_grow0 _ _ ?_ | refine below_alloc0 _ ?_ | refine Below.alloc ?_ (by first | omega | (simp; done) | (simp; omega)) _ | refine Below.setCell ?_ (by first | omega | (simp; done) | (simp; omega)) _ | refine Below.grow _ _ _ ?_ (by first | omega | (simp; done) | (simp; omega))))⟩
      exact Ow.of_blk (f := cFile) (s := 3) (B := w.heap.size) (fun _ _ => rfl) (by omega) (HBK5.out.regrow (by simp; omega) (by simp)) rfl hlen (by rw [List.length_set]; exact hlc) hcm
end Go.Proofs.Ytdfliajginlpiaa