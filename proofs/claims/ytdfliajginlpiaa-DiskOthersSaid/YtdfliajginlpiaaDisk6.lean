/- package disk: Crash: under way. -/
import Derived.Test.YtdfliajginlpiaaDisk5
namespace Go.Proofs.Ytdfliajginlpiaa
open Go.RowKit Go.ChangeShapes Go.WideShapes Go.ChangeAt
def crashF (keep : Nat) (x : File) : File := ⟨x.name, x.safe ++ x.tail.extract 0 (min keep x.tail.size), ⟨#[]⟩⟩
def crashK (keep : Nat) (l : List File) (k : Nat) : List File := (l.take k).map (crashF keep) ++ l.drop k
theorem crashK_at {keep : Nat} {l : List File} {k : Nat} {x : File} (hx : l[k]? = some x) : (crashK keep l k)[k]? = some x ∧ (crashK keep l k).set k (crashF keep x) = crashK keep l (k + 1) := by
  have hk : k < l.length := (List.getElem?_eq_some_iff.1 hx).1
  have hl : ((l.take k).map (crashF keep)).length = k := by rw [List.length_map, List.length_take, Nat.min_eq_left (by omega)]
  have hd : l.drop k = x :: l.drop (k + 1) := by
    have : l[k] = x := (List.getElem?_eq_some_iff.1 hx).2
    rw [← this, List.getElem_cons_drop]
  unfold crashK
  constructor
  · rw [List.getElem?_append_right (by omega), hl, Nat.sub_self, hd]; rfl
  · rw [List.set_append_right _ _ (by omega), hl, Nat.sub_self, hd, List.take_add_one, hx]
    simp
theorem crashK_len (keep : Nat) (l : List File) (k : Nat) : (crashK keep l k).length = l.length := by unfold crashK; simp; omega
theorem crashK_all (keep : Nat) (l : List File) : crashK keep l l.length = l.map (crashF keep) := by unfold crashK; simp
def crashE (l : List File) (keep : Int) : Int := if goodD l then (if keep < 0 then 3 else 0) else 3
def crashL (l : List File) (keep : Int) : List File := if goodD l then (if keep < 0 then [] else l.map (crashF keep.toNat)) else []
set_option maxHeartbeats 2000000 in
theorem dkCrash (v : Value) (l : List File) (keep : Int) (w : World) (h : Sl cFile 3 w v l) (hz : ∀ x ∈ l, x.sized) :
    Calls Try.prog 13 #[.agg #[v], .int .i64 keep] w (DkRes (crashL l keep) (crashE l keep) w) := by
  obtain ⟨A, c, rfl, hc1, hc2⟩ := h.form
  have H := Lib.hid h
  have HG := Lib.hid (fun (W : World) (hs : Sl cFile 3 W (.slice A l.length c) l) => dkGood _ l W hs hz)
  have HZ := Lib.hid hz
  unfold crashL crashE
  cases hg : goodD l with
  | false =>
    rw [hg] at HG
    clear h hz hg
    simp only [Bool.false_eq_true, if_false]
    go_enter Try.func13, Try.ntmps13
    go_wp2_with
      (first | (go_at_call 21; refine (HG.out _ (H.out.below (by repeat (first | exact Below.refl _ _ | assumption | refine Below.drew ?_ | refine Below.drewN' ?_ _ | refine below_grow0 _ _ ?_ | refine below_alloc0 _ ?_ | refine Below.alloc ?_ (by first | omega | (simp; done) | (simp; omega)) _ | refine Below.setCell ?_ (by first | omega | (simp; done) | (simp; omega)) _ | refine Below.grow _ _ _ ?_ (by first | omega | (simp; done) | (simp; omega)))))).mono ?_; rintro e w1 ⟨rfl, hb⟩; obtain ⟨ext, d, rfl⟩ := Below.grown_eq _ hb; clear hb))
    refine bodyPost_ret (v := .tuple #[.agg #[.slice none 0 0], .int .i64 3]) (by simp [results, Try.results13, go_sem]) rfl ⟨none, 0, rfl, Ow.nil _ _ _ _ _, (by repeat (first | exact Below.refl _ _ | assumption | refine Below.drew ?_ | refine Below.drewN' ?_ _ | refine below_grow0 _ _ ?_ | refine below_alloc0 _ ?_ | refine Below.alloc ?_ (by first | omega | (simp; done) | (simp; omega)) _ | refine Below.setCell ?_ (by first | omega | (simp; done) | (simp; omega)) _ | refine Below.grow _ _ _ ?_ (by first | omega | (simp; done) | (simp; omega))))⟩
  | true =>
    rw [hg] at HG
    have hl16 := goodD_len hg
    clear h hz hg
    simp only [if_true]
    by_cases hk : keep < 0
    · simp only [if_pos hk]
      go_enter Try.func13, Try.ntmps13
      go_wp2_with
        (first | (go_at_call 21; refine (HG.out _ (H.out.below (by repeat (first | exact Below.refl _ _ | assumption | refine Below.drew ?_ | refine Below.drewN' ?_ _ | refine below_grow0 _ _ ?_ | refine below_alloc0 _ ?_ | refine Below.alloc ?_ (by first | omega | (simp; done) | (simp; omega)) _ | refine Below.setCell ?_ (by first | omega | (simp; done) | (simp; omega)) _ | refine Below.grow _ _ _ ?_ (by first | omega | (simp; done) | (simp; omega)))))).mono ?_; rintro e w1 ⟨rfl, hb⟩; obtain ⟨ext, d, rfl⟩ := Below.grown_eq _ hb; clear hb))
      refine bodyPost_ret (v := .tuple #[.agg #[.slice none 0 0], .int .i64 3]) (by simp [results, Try.results13, go_sem]) rfl ⟨none, 0, rfl, Ow.nil _ _ _ _ _, (by repeat (first | exact Below.refl _ _ | assumption | refine Below.drew ?_ | refine Below.drewN' ?_ _ | refine below_grow0 _ _ ?_ | refine below_alloc0 _ ?_ | refine Below.alloc ?_ (by first | omega | (simp; done) | (simp; omega)) _ | refine Below.setCell ?_ (by first | omega | (simp; done) | (simp; omega)) _ | refine Below.grow _ _ _ ?_ (by first | omega | (simp; done) | (simp; omega))))⟩
    · simp only [if_neg hk]
      obtain ⟨m, rfl⟩ := Int.eq_ofNat_of_zero_le (show 0 ≤ keep by omega)
      have hmn : (decide ((m : Int) < 0)) = false := by simp
      rw [Int.toNat_natCast]
      clear hk
      go_enter Try.func13, Try.ntmps13
      go_wp2_with
        (first | (go_at_call 21; refine (HG.out _ (H.out.below (by repeat (first | exact Below.refl _ _ | assumption | refine Below.drew ?_ | refine Below.drewN' ?_ _ | refine below_grow0 _ _ ?_ | refine below_alloc0 _ ?_ | refine Below.alloc ?_ (by first | omega | (simp; done) | (simp; omega)) _ | refine Below.setCell ?_ (by first | omega | (simp; done) | (simp; omega)) _ | refine Below.grow _ _ _ ?_ (by first | omega | (simp; done) | (simp; omega)))))).mono ?_; rintro e w1 ⟨rfl, hb⟩; obtain ⟨ext, d, rfl⟩ := Below.grown_eq _ hb; clear hb))
      refine (dkCopied _ l _ (H.out.below (by repeat (first | exact Below.refl _ _ | assumption | refine Below.drew ?_ | refine Below.drewN' ?_ _ | refine below_grow0 _ _ ?_ | refine below_alloc0 _ ?_ | refine Below.alloc ?_ (by first | omega | (simp; done) | (simp; omega)) _ | refine Below.setCell ?_ (by first | omega | (simp; done) | (simp; omega)) _ | refine Below.grow _ _ _ ?_ (by first | omega | (simp; done) | (simp; omega))))) (by omega) (by simp [maxLen]; omega)).mono ?_
      rintro e w3 ⟨A3, c3, rfl, ho3, hb3⟩
      obtain ⟨ext3, d3, rfl⟩ := Below.grown_eq _ hb3
      rcases Nat.eq_zero_or_pos l.length with h0 | h0
      · obtain rfl := List.eq_nil_of_length_eq_zero h0
        have HO3 := Lib.hid ho3
        clear hb3 ho3
        simp only [List.length_nil, List.map_nil]
        go_wp2_with fail
        refine wp_loop_rounds 1 ?_
        rw [rounds_succ]
        go_wp2_with fail
        refine bodyPost_ret (v := .tuple #[.agg #[.slice A3 0 c3], .int .i64 0]) (by simp [results, Try.results13, go_sem]) rfl ⟨A3, c3, rfl, ?_, (by repeat (first | exact Below.refl _ _ | assumption | refine Below.drew ?_ | refine Below.drewN' ?_ _ | refine below_grow0 _ _ ?_ | refine below_alloc0 _ ?_ | refine Below.alloc ?_ (by first | omega | (simp; done) | (simp; omega)) _ | refine Below.setCell ?_ (by first | omega | (simp; done) | (simp; omega)) _ | refine Below.grow _ _ _ ?_ (by first | omega | (simp; done) | (simp; omega))))⟩
        exact (HO3.out.regrow (Nat.le_refl _) (by simp)).mono (by simp; omega)
      · obtain ⟨g3, J, rfl, hg3, hbk3, hcl, hlc, hcm, _⟩ := ho3.blk h0
        have hg4 : w.heap.size + 1 + 1 ≤ g3 := by simp at hg3; omega
        have HB3 := Lib.hid hbk3
        have HG3 := Lib.hid hg3
        have HCL := Lib.hid hcl
        clear hb3 ho3 hbk3 hg3 hcl
        go_wp2_with fail
        go_loopw [21] (fun i wr => ∃ (k : Nat) (ext : Array Obj) (d : Nat), k ≤ l.length ∧ i = .int .i64 k ∧ wr = grow ((w.alloc (.cells #[.slice (some ⟨g3, 0, none⟩) l.length c3] 40)).alloc (.cells #[.slice none 0 0] 40)) ext d ∧ Hid (Bk wr g3 ((crashK m l k).flatMap cFile ++ J) 47)) (fun i _ => l.length - (intOf i).toNat)
        case atStart => exact ⟨0, _, _, Nat.zero_le _, rfl, grown_of (by repeat (first | exact Below.refl _ _ | assumption | refine Below.drew ?_ | refine Below.drewN' ?_ _ | refine below_grow0 _ _ ?_ | refine below_alloc0 _ ?_ | refine Below.alloc ?_ (by first | omega | (simp; done) | (simp; omega)) _ | refine Below.setCell ?_ (by first | omega | (simp; done) | (simp; omega)) _ | refine Below.grow _ _ _ ?_ (by first | omega | (simp; done) | (simp; omega)))), Lib.hid (by simpa [crashK] using HB3.out.regrow HG3.out (by simp))⟩
        case round =>
          obtain ⟨k, ext5, d5, hk, rfl, rfl, hbk⟩ := hrel
          by_cases hlt : k < l.length
          · have hx : l[k]? = some (l[k]'hlt) := List.getElem?_eq_getElem _
            obtain ⟨z0, z1, z2⟩ := HZ.out _ (List.mem_of_getElem? hx)
            obtain ⟨hat, hset⟩ := crashK_at (keep := m) hx
            generalize l[k]'hlt = x at *
            have hbk1 : Bk (grow ((w.alloc (.cells #[.slice (some ⟨g3, 0, none⟩) l.length c3] 40)).alloc (.cells #[.slice none 0 0] 40)) ext5 (d5 + 1)) g3 ((crashK m l k).flatMap cFile ++ J) 47 := hbk.out
            obtain ⟨r0, r1, r2⟩ := file_cells hbk1 hat
            have f1 := hbk1.frozen (k * 3 + 1)
            have f2 := hbk1.frozen (k * 3 + 2)
            have HBK1 := Lib.hid hbk1
            clear hbk1
            have HAT := Lib.hid hat
            have HSET := Lib.hid hset
            clear hx hat hset
            go_wp2_with fail
            go_region
            have hb6 : Below ((w.alloc (.cells #[.slice (some ⟨g3, 0, none⟩) l.length c3] 40)).alloc (.cells #[.slice none 0 0] 40)).heap.size ((w.alloc (.cells #[.slice (some ⟨g3, 0, none⟩) l.length c3] 40)).alloc (.cells #[.slice none 0 0] 40)) (((grow ((w.alloc (.cells #[.slice (some ⟨g3, 0, none⟩) l.length c3] 40)).alloc (.cells #[.slice none 0 0] 40)) ext5 (d5 + 1)).setCell ⟨g3, k * 3 + 1, none⟩ (.string (x.safe ++ x.tail.extract 0 (min (m : Int) (x.tail.size : Int)).toNat))).setCell ⟨g3, k * 3 + 2, none⟩ (.string ⟨#[]⟩)) := Below.put (Below.put (by repeat (first | exact Below.refl _ _ | assumption | refine Below.drew ?_ | refine Below.drewN' ?_ _ | refine below_grow0 _ _ ?_ | refine below_alloc0 _ ?_ | refine Below.alloc ?_ (by first | omega | (simp; done) | (simp; omega)) _ | refine Below.setCell ?_ (by first | omega | (simp; done) | (simp; omega)) _ | refine Below.grow _ _ _ ?_ (by first | omega | (simp; done) | (simp; omega)))) (by simp; omega)) (by simp; omega)
            have hbk6 : Bk (((grow ((w.alloc (.cells #[.slice (some ⟨g3, 0, none⟩) l.length c3] 40)).alloc (.cells #[.slice none 0 0] 40)) ext5 (d5 + 1)).setCell ⟨g3, k * 3 + 1, none⟩ (.string (x.safe ++ x.tail.extract 0 (min (m : Int) (x.tail.size : Int)).toNat))).setCell ⟨g3, k * 3 + 2, none⟩ (.string ⟨#[]⟩)) g3 ((crashK m l (k + 1)).flatMap cFile ++ J) 47 := by
              have := (HBK1.out.put (k * 3 + 1) (.string (x.safe ++ x.tail.extract 0 (min (m : Int) (x.tail.size : Int)).toNat))).put (k * 3 + 2) (.string ⟨#[]⟩)
              rw [set_file HAT.out] at this
              rw [← HSET.out]
              unfold crashF
              rw [show (min (m : Int) (x.tail.size : Int)).toNat = min m x.tail.size from by omega] at this ⊢
              exact this
            generalize (((grow ((w.alloc (.cells #[.slice (some ⟨g3, 0, none⟩) l.length c3] 40)).alloc (.cells #[.slice none 0 0] 40)) ext5 (d5 + 1)).setCell ⟨g3, k * 3 + 1, none⟩ (.string (x.safe ++ x.tail.extract 0 (min (m : Int) (x.tail.size : Int)).toNat))).setCell ⟨g3, k * 3 + 2, none⟩ (.string ⟨#[]⟩)) = w6 at hb6 hbk6 ⊢
            obtain ⟨ext6, d6, rfl⟩ := Below.grown_eq _ hb6
            have HBK6 := Lib.hid hbk6
            clear hb6 hbk6 hbk HBK1 r0 r1 r2 f1 f2
            go_wp2_with fail
            go_roundw
            case rel => exact ⟨k + 1, _, _, by omega, by go_num, rfl, HBK6⟩
            case measure => simp [intOf]; omega
          · have hk' : k = l.length := by omega
            subst hk'
            have hbk' := hbk.out
            rw [crashK_all] at hbk'
            have HBK := Lib.hid hbk'
            clear hbk hbk'
            go_wp2_with fail
            have hlen : ((l.map (crashF m)).flatMap cFile ++ J).length = c3 * 3 := by
              rw [← HCL.out, List.length_append, List.length_append, flatMap_length (f := cFile) (s := 3) (fun _ _ => rfl), flatMap_length (f := cFile) (s := 3) (fun _ _ => rfl), List.length_map]
            refine bodyPost_ret (v := .tuple #[.agg #[.slice (some ⟨g3, 0, none⟩) l.length c3], .int .i64 0]) (by simp [results, Try.results13, go_sem]) rfl ⟨some ⟨g3, 0, none⟩, c3, by rw [List.length_map], ?_, (by repeat (first | exact Below.refl _ _ | assumption | refine Below.drew ?_ | refine Below.drewN' ?_ _ | refine below_grow0 _ _ ?_ | refine below_alloc0 _ ?_ | refine Below.alloc ?_ (by first | omega | (simp; done) | (simp; omega)) _ | refine Below.setCell ?_ (by first | omega | (simp; done) | (simp; omega)) _ | refine Below.grow _ _ _ ?_ (by first | omega | (simp; done) | (simp; omega))))⟩
            exact Ow.of_blk (f := cFile) (s := 3) (B := w.heap.size) (fun _ _ => rfl) (by omega) (HBK.out.regrow (by simp; omega) (by simp)) rfl hlen (by rw [List.length_map]; exact hlc) hcm
end Go.Proofs.Ytdfliajginlpiaa
