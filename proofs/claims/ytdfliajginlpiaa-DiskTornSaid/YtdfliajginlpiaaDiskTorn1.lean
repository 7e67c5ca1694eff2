/- The law DiskTorn, where nothing can be written. -/
import Derived.Test.YtdfliajginlpiaaDiskArg
namespace Go.Proofs.Ytdfliajginlpiaa
open Go.RowKit Go.ChangeShapes Go.WideShapes Go.ChangeAt
def scanF (l : List File) (p : ByteArray) : Nat → File
  | 0 => noFile p
  | k + 1 => match l[k]? with
    | some x => if x.name = p then x else scanF l p k
    | none => scanF l p k
theorem scanF_good {l : List File} (hs : l.Pairwise ltF) (p : ByteArray) : ∀ k, k ≤ l.length → scanF l p k = if isK (l.map File.name) p = true ∧ posK (l.map File.name) p < k then fileAt l p else noFile p
  | 0, _ => by rw [if_neg (by omega)]; rfl
  | k + 1, hk => by
    have ih := scanF_good hs p k (by omega)
    have hx := List.getElem?_eq_getElem (l := l) (i := k) (by omega)
    unfold scanF
    rw [hx]
    by_cases hn : l[k].name = p
    · have h1 := atF_of hs hx
      have h2 := lookF_of hs (List.getElem_mem (l := l) (n := k) (by omega))
      rw [hn] at h1 h2
      simp only [if_pos hn]
      rw [if_pos ⟨h1.2, by omega⟩, h2.2]
    · simp only [if_neg hn]
      rw [ih]
      by_cases h1 : isK (l.map File.name) p = true
      · obtain ⟨hq, he⟩ := isF_at h1
        have hne : posK (l.map File.name) p ≠ k := by
          intro h2
          apply hn
          rw [← he]
          congr 1
          simp only [h2]
        by_cases h3 : posK (l.map File.name) p < k
        · rw [if_pos ⟨h1, h3⟩, if_pos ⟨h1, by omega⟩]
        · rw [if_neg (fun h => h3 h.2), if_neg (fun h => by have := h.2; omega)]
      · rw [if_neg (fun h => h1 h.1), if_neg (fun h => h1 h.1)]
theorem scanF_all {l : List File} (hs : l.Pairwise ltF) (p : ByteArray) : scanF l p l.length = fileOr l p := by
  rw [scanF_good hs p _ (Nat.le_refl _)]
  unfold fileOr
  by_cases h1 : isK (l.map File.name) p = true
  · rw [if_pos ⟨h1, isK_in_file h1⟩, if_pos h1]
  · rw [if_neg (fun h => h1 h.1), if_neg h1]
theorem bytes_inj {a b : ByteArray} (e : a.toList = b.toList) : a = b := by
  rw [ByteArray.toList_eq, ByteArray.toList_eq] at e
  exact ByteArray.ext (Array.toList_inj.mp e)
set_option maxHeartbeats 2000000 in
theorem diskTorn_no (v : Value) (l : List File) (p s : ByteArray) (keep : Int) (w : World) (h : Sl cFile 3 w v l) (hz : ∀ x ∈ l, x.sized) (hp : p.size ≤ 9223372036854775807) (hs : s.size ≤ 140737488355328) (hl63 : l.length ≤ 140737488355328) (hwe : writeE l p s ≠ 0) :
    Calls Try.prog 5 #[.agg #[v], .string p, .string s, .int .i64 keep] w fun e w' => e = .returned (.bool true) ∧ Below w.heap.size w w' := by
  obtain ⟨A, c, rfl, hc1, hc2⟩ := h.form
  have H := Lib.hid h
  have HW := Lib.hid (fun (W : World) (v : Value) (h : Sl cFile 3 W v l) => by
    have h1 := dkWrite v l p s W h hz hp hs
    rw [write_not hwe] at h1
    exact h1)
  have HS := Lib.hid stores_is
  have HP := Lib.hid (fun (W : World) => pick_is keep 600 W (by decide) (by decide))
  generalize writeE l p s = code at *
  have hce : (code != 0) = true := by simpa using hwe
  clear h hz hwe
  go_enter Try.func5, Try.ntmps5
  go_wp2_with (first | (go_at_call 16; refine (HP.out _).mono ?_; rintro e w1 ⟨f, hf, rfl, rfl⟩; skip))
  go_loopw [9, 10, 11] (fun s9 s10 i wr => ∃ (k : Nat) (ext : Array Obj) (d : Nat), k ≤ l.length ∧ i = .int .i64 k ∧ s9 = .string (scanF l p k).safe ∧ s10 = .string (scanF l p k).tail ∧ wr = grow (w.alloc (.cells #[.slice A l.length c] 40)) ext d) (fun _ _ i _ => l.length - (intOf i).toNat)
  case atStart => exact ⟨0, _, _, Nat.zero_le _, rfl, rfl, rfl, grown_of (by repeat (first | exact Below.refl _ _ | assumption | refine Below.drew ?_ | refine Below.drewN' ?_ _ | refine below_grow0 _ _ ?_ | refine below_alloc0 _ ?_ | refine Below.alloc ?_ (by first | omega | (simp; done) | (simp; omega)) _ | refine Below.setCell ?_ (by first | omega | (simp; done) | (simp; omega)) _ | refine Below.grow _ _ _ ?_ (by first | omega | (simp; done) | (simp; omega))))⟩
  case round =>
    obtain ⟨k, ext, d, hk, rfl, rfl, rfl, rfl⟩ := hrel
    by_cases hlt : k < l.length
    · have hx : l[k]? = some (l[k]'hlt) := List.getElem?_eq_getElem _
      have hsc : scanF l p (k + 1) = if (l[k]'hlt).name = p then (l[k]'hlt) else scanF l p k := by
        rw [scanF, hx]
      obtain ⟨b1, o1, rfl, _, x0, x1, x2⟩ := H.out.File_at hx
      generalize l[k]'hlt = x at *
      clear hx
      by_cases hn : x.name = p
      · rw [if_pos hn] at hsc
        rw [hn] at x0
        have HSC := Lib.hid hsc
        clear hsc hn
        go_wp2_with fail
        go_region
        go_wp2_with fail
        go_roundw
        case rel => exact ⟨k + 1, _, _, by omega, by go_num, by rw [HSC.out], by rw [HSC.out], grown_of (by repeat (first | exact Below.refl _ _ | assumption | refine Below.drew ?_ | refine Below.drewN' ?_ _ | refine below_grow0 _ _ ?_ | refine below_alloc0 _ ?_ | refine Below.alloc ?_ (by first | omega | (simp; done) | (simp; omega)) _ | refine Below.setCell ?_ (by first | omega | (simp; done) | (simp; omega)) _ | refine Below.grow _ _ _ ?_ (by first | omega | (simp; done) | (simp; omega))))⟩
        case measure => simp [intOf]; omega
      · rw [if_neg hn] at hsc
        have HSC := Lib.hid hsc
        have hne : (x.name.toList == p.toList) = false := beq_eq_false_iff_ne.2 (fun h => hn (bytes_inj h))
        clear hsc
        go_wp2_with fail
        go_roundw
        case rel => exact ⟨k + 1, _, _, by omega, by go_num, by rw [HSC.out], by rw [HSC.out], grown_of (by repeat (first | exact Below.refl _ _ | assumption | refine Below.drew ?_ | refine Below.drewN' ?_ _ | refine below_grow0 _ _ ?_ | refine below_alloc0 _ ?_ | refine Below.alloc ?_ (by first | omega | (simp; done) | (simp; omega)) _ | refine Below.setCell ?_ (by first | omega | (simp; done) | (simp; omega)) _ | refine Below.grow _ _ _ ?_ (by first | omega | (simp; done) | (simp; omega))))⟩
        case measure => simp [intOf]; omega
    · have hk' : k = l.length := by omega
      subst hk'
      go_wp2_with (first | (go_at_call 18; refine (HW.out _ _ (H.out.below (by repeat (first | exact Below.refl _ _ | assumption | refine Below.drew ?_ | refine Below.drewN' ?_ _ | refine below_grow0 _ _ ?_ | refine below_alloc0 _ ?_ | refine Below.alloc ?_ (by first | omega | (simp; done) | (simp; omega)) _ | refine Below.setCell ?_ (by first | omega | (simp; done) | (simp; omega)) _ | refine Below.grow _ _ _ ?_ (by first | omega | (simp; done) | (simp; omega)))))).mono ?_; rintro e w1 ⟨A1, k1, rfl, ho1, hb2⟩; obtain ⟨ext2, d2, rfl⟩ := Below.grown_eq _ hb2; clear ho1 hb2; simp only [List.length_nil]) | (go_at_call 15; refine (HS.out _).mono ?_; rintro e w1 ⟨rfl, hb3⟩; obtain ⟨ext3, d3, rfl⟩ := Below.grown_eq _ hb3; clear hb3))
      go_ret
      exact ⟨rfl, (by repeat (first | exact Below.refl _ _ | assumption | refine Below.drew ?_ | refine Below.drewN' ?_ _ | refine below_grow0 _ _ ?_ | refine below_alloc0 _ ?_ | refine Below.alloc ?_ (by first | omega | (simp; done) | (simp; omega)) _ | refine Below.setCell ?_ (by first | omega | (simp; done) | (simp; omega)) _ | refine Below.grow _ _ _ ?_ (by first | omega | (simp; done) | (simp; omega))))⟩
end Go.Proofs.Ytdfliajginlpiaa
