/- The law ClientKept is true for every input; no conditions. -/
import Derived.Test.YtahcmfnpfepimaaOrder
namespace Go.Proofs.Ytahcmfnpfepimaa
open Go.RowKit Go.ChangeShapes Go.WideShapes Go.ChangeAt
theorem Below.set2 {B : Nat} {W w' : World} (h : Below B W w') (n i : Nat) (v : Value) : Below B (W.setCell ⟨n, i, none⟩ v) (w'.setCell ⟨n, i, none⟩ v) := by
  obtain ⟨h1, h2, h3, h4, h5⟩ := h
  refine ⟨h1, h2, h3, by simpa [World.setCell] using h4, fun k hk => ?_⟩
  unfold World.setCell
  simp only [Array.getElem?_modify]
  rw [h5 k hk]
theorem Below.self {B : Nat} {W w' : World} (h : Below B W w') (hB : W.heap.size ≤ B) : Below W.heap.size W w' := h.mono hB
set_option maxHeartbeats 1000000 in
theorem clientKept_ok (v : Value) (l : List Entry) (x : Entry) (p : ByteArray) (w : World) (h : Sl cEntry 3 w v l) :
    Calls Try.prog 14 #[v, .agg #[.string x.path, .string x.data, .bool x.there_], .string p] w fun e w' => e = .returned (.bool true) ∧ Below w.heap.size w w' := by
  obtain ⟨A, c, rfl, hc1, hc2⟩ := h.form
  have H := Lib.hid h
  clear h
  have hcl : (cacheL l).length ≤ 60 := by have := cacheK_length l (Nat.min l.length 60); have h2 : Nat.min l.length 60 ≤ 60 := Nat.min_le_right _ _; unfold cacheL; omega
  have HS : Hid (SortedE (cacheL l)) := Lib.hid (cacheK_sorted l (Nat.min l.length 60))
  generalize hC : cacheL l = C at hcl HS
  have HC := Lib.hid hC
  clear hC
  have hkl := keepL_length C x
  generalize hD : keepL C x = D at hkl
  have HD := Lib.hid hD
  clear hD
  obtain ⟨xp, xd, xt⟩ := x
  have HK := Lib.hid (fun (s n : Int) (w' : World) (v' : Value) (hs : Sl cEntry 3 w' v' C) => show Calls Try.prog 43 #[.agg #[.int .i64 s, .int .i64 n, v'], .agg #[.string xp, .string xd, .bool xt]] w' (ClIs s n D w') by
    have h := clKeep s n v' C ⟨xp, xd, xt⟩ w' hs (by omega)
    rw [HD.out] at h
    exact h)
  have HCA := Lib.hid (fun (w' : World) (hs : Sl cEntry 3 w' (.slice A l.length c) l) => show Calls Try.prog 41 #[.int .i64 3, .slice A l.length c] w' (ClIs 3 0 C w') by
    have h := caching_is 3 _ l w' hs
    rw [HC.out] at h
    exact h)
  go_enter Try.func14, Try.ntmps14
  go_wp2_with (first | (go_at_call 41; refine (HCA.out _ (H.out.alloc _)).mono ?_; rintro e w1 ⟨A1, c1, rfl, ho1, hb1⟩; obtain ⟨ext1, d1, rfl⟩ := Below.grown_eq _ hb1; have HO1 := Lib.hid ho1; clear ho1 hb1) | (go_at_call 42; refine (clLook _ _ _ C _ _ ((HO1.out.alloc _).sl) (by omega)).mono ?_; rintro e w1 ⟨rfl, hb2⟩; obtain ⟨ext2, d2, rfl⟩ := Below.grown_eq _ hb2; clear hb2))
  refine (HK.out _ _ _ _ (((HO1.out.alloc _).below (below_grow0 _ _ (Below.refl _ _))).alloc _).sl).mono ?_
  rintro e w3 ⟨A2, c2, rfl, ho2, hb3⟩
  have fz1 : w3.frozen? ⟨w.heap.size, 1, none⟩ = false := (World.frozen?_of_block (a := ⟨w.heap.size, 1, none⟩) (hb3.block w.heap.size (by simp <;> omega))).trans (by go_simp)
  have fx0 := (hb3.cell (p := ⟨w.heap.size, 0, none⟩) (by simp <;> omega)).trans (show _ = some (.string xp) by go_simp)
  have fx1 := (hb3.cell (p := ⟨w.heap.size, 1, none⟩) (by simp <;> omega)).trans (show _ = some (.string xd) by go_simp)
  have fx2 := (hb3.cell (p := ⟨w.heap.size, 2, none⟩) (by simp <;> omega)).trans (show _ = some (.bool xt) by go_simp)
  have fc0 := (hb3.cell (p := ⟨w.heap.size + 1 + ext1.size, 0, none⟩) (by simp <;> omega)).trans (show _ = some (.int .i64 3) by go_simp)
  have fc1 := (hb3.cell (p := ⟨w.heap.size + 1 + ext1.size, 1, none⟩) (by simp <;> omega)).trans (show _ = some (.int .i64 0) by go_simp)
  have fc2 := (hb3.cell (p := ⟨w.heap.size + 1 + ext1.size, 2, none⟩) (by simp <;> omega)).trans (show _ = some (.slice A1 C.length c1) by go_simp)
  have fw0 := (hb3.cell (p := ⟨w.heap.size + 1 + ext1.size + 1 + ext2.size, 0, none⟩) (by simp <;> omega)).trans (show _ = some (.string (lookE C p).path) by go_simp)
  have fw1 := (hb3.cell (p := ⟨w.heap.size + 1 + ext1.size + 1 + ext2.size, 1, none⟩) (by simp <;> omega)).trans (show _ = some (.string (lookE C p).data) by go_simp)
  have fw2 := (hb3.cell (p := ⟨w.heap.size + 1 + ext1.size + 1 + ext2.size, 2, none⟩) (by simp <;> omega)).trans (show _ = some (.bool (lookE C p).there_) by go_simp)
  have HO2 := Lib.hid ho2
  have HB3 := Lib.hid hb3
  clear ho2 hb3
  cases xt with
  | true =>
    go_wp2_with fail
    refine (clLook _ _ _ D _ _ ((HO2.out.alloc _).sl) (by omega)).mono ?_
    rintro e w4 ⟨rfl, hb4⟩
    obtain ⟨ext4, d4, rfl⟩ := Below.grown_eq _ hb4
    clear hb4
    go_wp2_with fail
    refine (clLook _ _ _ D _ _ ((((HO2.out.alloc _).below (below_grow0 _ _ (Below.refl _ _))).alloc _).sl) (by omega)).mono ?_
    rintro e w4 ⟨rfl, hb4⟩
    obtain ⟨ext5, d5, rfl⟩ := Below.grown_eq _ hb4
    clear hb4
    go_wp2_with fail
    have hwx : w.heap.size < w3.heap.size := by have := HB3.out.size; simp at this; omega
    have hwc : w.heap.size + 1 + ext1.size + 1 + ext2.size < w3.heap.size := by have := HB3.out.size; simp at this; omega
    refine (clLook _ _ _ C _ _ (Sl.below (Sl.below ((((HO1.out.regrow (W' := w.alloc (.cells #[.string xp, .string xd, .bool true] 79)) (d' := d1) (Nat.le_refl _) (by simp)).alloc _).below (below_grow0 _ _ (Below.refl _ _))).alloc _).sl HB3.out) (by repeat (first | exact Below.refl _ _ | assumption | refine Below.drew ?_ | refine Below.drewN' ?_ _ | refine below_grow0 _ _ ?_ | refine below_alloc0 _ ?_ | refine Below.alloc ?_ (by first | omega | (simp; done) | (simp; omega)) _ | refine Below.setCell ?_ (by first | omega | (simp; done) | (simp; omega)) _ | refine Below.grow _ _ _ ?_ (by first | omega | (simp; done) | (simp; omega))))) (by omega)).mono ?_
    rintro e w6 ⟨rfl, hb6⟩
    have gx0 := (hb6.cell (p := ⟨w.heap.size, 0, none⟩) (by simp <;> omega)).trans (show _ = some (.string xp) by go_simp)
    have gx1 := (hb6.cell (p := ⟨w.heap.size, 1, none⟩) (by simp <;> omega)).trans (show _ = some (.string xd) by go_simp)
    have gx2 := (hb6.cell (p := ⟨w.heap.size, 2, none⟩) (by simp <;> omega)).trans (show _ = some (.bool true) by go_simp)
    have gw0 := (hb6.cell (p := ⟨w.heap.size + 1 + ext1.size + 1 + ext2.size, 0, none⟩) (by simp <;> omega)).trans (show _ = some (.string (lookE C p).path) by go_simp)
    have gw1 := (hb6.cell (p := ⟨w.heap.size + 1 + ext1.size + 1 + ext2.size, 1, none⟩) (by simp <;> omega)).trans (show _ = some (.string (lookE C p).data) by go_simp)
    have gw2 := (hb6.cell (p := ⟨w.heap.size + 1 + ext1.size + 1 + ext2.size, 2, none⟩) (by simp <;> omega)).trans (show _ = some (.bool (lookE C p).there_) by go_simp)
    have gd2 := (hb6.cell (p := ⟨w3.heap.size, 2, none⟩) (by simp <;> omega)).trans (show _ = some (.slice A2 D.length c2) by go_simp)
    have gg0 := (hb6.cell (p := ⟨w3.heap.size + 1 + ext4.size, 0, none⟩) (by simp <;> omega)).trans (show _ = some (.string (lookE D xp).path) by go_simp)
    have gg1 := (hb6.cell (p := ⟨w3.heap.size + 1 + ext4.size, 1, none⟩) (by simp <;> omega)).trans (show _ = some (.string (lookE D xp).data) by go_simp)
    have gg2 := (hb6.cell (p := ⟨w3.heap.size + 1 + ext4.size, 2, none⟩) (by simp <;> omega)).trans (show _ = some (.bool (lookE D xp).there_) by go_simp)
    have gn0 := (hb6.cell (p := ⟨w3.heap.size + 1 + ext4.size + 1 + ext5.size, 0, none⟩) (by simp <;> omega)).trans (show _ = some (.string (lookE D p).path) by go_simp)
    have gn1 := (hb6.cell (p := ⟨w3.heap.size + 1 + ext4.size + 1 + ext5.size, 1, none⟩) (by simp <;> omega)).trans (show _ = some (.string (lookE D p).data) by go_simp)
    have gn2 := (hb6.cell (p := ⟨w3.heap.size + 1 + ext4.size + 1 + ext5.size, 2, none⟩) (by simp <;> omega)).trans (show _ = some (.bool (lookE D p).there_) by go_simp)
    have HB6 := Lib.hid hb6
    clear hb6
    go_wp2_with fail
    have hb06 : Below w.heap.size w w6 := by
      have h1 : Below w.heap.size w w3 := Below.own (by repeat (first | exact Below.refl _ _ | assumption | refine Below.drew ?_ | refine Below.drewN' ?_ _ | refine below_grow0 _ _ ?_ | refine below_alloc0 _ ?_ | refine Below.alloc ?_ (by first | omega | (simp; done) | (simp; omega)) _ | refine Below.setCell ?_ (by first | omega | (simp; done) | (simp; omega)) _ | refine Below.grow _ _ _ ?_ (by first | omega | (simp; done) | (simp; omega)))) HB3.out
      exact Below.own (by repeat (first | exact Below.refl _ _ | assumption | refine Below.drew ?_ | refine Below.drewN' ?_ _ | refine below_grow0 _ _ ?_ | refine below_alloc0 _ ?_ | refine Below.alloc ?_ (by first | omega | (simp; done) | (simp; omega)) _ | refine Below.setCell ?_ (by first | omega | (simp; done) | (simp; omega)) _ | refine Below.grow _ _ _ ?_ (by first | omega | (simp; done) | (simp; omega)))) HB6.out
    have HSD := Lib.hid (Sl.below (Sl.below (((HO2.out.alloc (.cells #[.int .i64 3, .int .i64 0, .slice A2 D.length c2] 38)).below (below_grow0 ext4 d4 (Below.refl _ _))).alloc (.cells #[.string (lookE D xp).path, .string (lookE D xp).data, .bool (lookE D xp).there_] 79)).sl (below_grow0 ext5 d5 (Below.refl _ _))) (below_alloc0 (.cells #[.string (lookE D p).path, .string (lookE D p).data, .bool (lookE D p).there_] 79) (Below.refl _ _)))
    go_loopw [17] (fun i wr => ∃ (k : Nat) (ext7 : Array Obj) (d7 : Nat), 1 ≤ k ∧ i = .int .i64 k ∧ wr = grow (w6.alloc (.cells #[.string (lookE C p).path, .string (lookE C p).data, .bool (lookE C p).there_] 79)) ext7 d7) (fun i _ => D.length - (intOf i).toNat)
    case atStart => exact ⟨1, _, _, Nat.le_refl _, rfl, grown_of (by repeat (first | exact Below.refl _ _ | assumption | refine Below.drew ?_ | refine Below.drewN' ?_ _ | refine below_grow0 _ _ ?_ | refine below_alloc0 _ ?_ | refine Below.alloc ?_ (by first | omega | (simp; done) | (simp; omega)) _ | refine Below.setCell ?_ (by first | omega | (simp; done) | (simp; omega)) _ | refine Below.grow _ _ _ ?_ (by first | omega | (simp; done) | (simp; omega))))⟩
    case round =>
      obtain ⟨k, ext7, d7, hk1, rfl, rfl⟩ := hrel
      obtain ⟨j, rfl⟩ : ∃ j, k = j + 1 := ⟨k - 1, by omega⟩
      by_cases hlt : j + 1 < D.length
      · have hx : D[j]? = some (D[j]'(by omega)) := List.getElem?_eq_getElem _
        have hy : D[j + 1]? = some (D[j + 1]'hlt) := List.getElem?_eq_getElem _
        have HS6 := HSD.out.below HB6.out
        obtain ⟨bk, off, hA2, hbw, x0, _, _⟩ := HS6.Entry_at hx
        obtain ⟨bk2, off2, hA3, _, y0, _, _⟩ := HS6.Entry_at hy
        subst hA2
        injection hA3 with hA3
        injection hA3 with e1 e2 _
        subst e1
        subst e2
        have hlt2 : cmpB (D[j]'(by omega)).path (D[j + 1]'hlt).path < 0 := by
          have := keepL_sorted HS.out ⟨xp, xd, true⟩
          rw [HD.out] at this
          exact this j (j + 1) _ _ (by omega) hx hy
        have HG := Lib.hid (less_of_cmp hlt2)
        clear hlt2
        go_wp2_with fail
        go_region
        go_wp2_with fail
        · rename_i hbad
          rw [HG.out] at hbad
          cases hbad
        · go_roundw
          case rel => exact ⟨j + 1 + 1, _, _, by omega, by go_num, grown_of (by repeat (first | exact Below.refl _ _ | assumption | refine Below.drew ?_ | refine Below.drewN' ?_ _ | refine below_grow0 _ _ ?_ | refine below_alloc0 _ ?_ | refine Below.alloc ?_ (by first | omega | (simp; done) | (simp; omega)) _ | refine Below.setCell ?_ (by first | omega | (simp; done) | (simp; omega)) _ | refine Below.grow _ _ _ ?_ (by first | omega | (simp; done) | (simp; omega))))⟩
          case measure => simp [intOf]; omega
      · have hk1 : isK (D.map Entry.path) xp = true := by have := (look_kept HS.out ⟨xp, xd, true⟩).1; rw [HD.out] at this; exact this
        have hk2 : lookE D xp = ⟨xp, xd, true⟩ := by have := (look_kept HS.out ⟨xp, xd, true⟩).2; rw [HD.out] at this; exact this
        simp only [hk1, hk2] at gg0 gg1 gg2 ⊢
        by_cases hp : p = xp
        · subst hp
          simp only [hk1, hk2] at gn0 gn1 gn2 ⊢
          go_wp2_with (first | (go_at_call 24; refine (starts_any _).mono ?_; rintro e w7 ⟨rfl, hb7⟩; obtain ⟨ext8, d8, rfl⟩ := Below.grown_eq _ hb7))
          all_goals exact bodyPost_ret (v := .bool true) (by simp [results, Try.results14, go_sem]) rfl ⟨rfl, (by repeat (first | exact Below.refl _ _ | assumption | refine Below.drew ?_ | refine Below.drewN' ?_ _ | refine below_grow0 _ _ ?_ | refine below_alloc0 _ ?_ | refine Below.alloc ?_ (by first | omega | (simp; done) | (simp; omega)) _ | refine Below.setCell ?_ (by first | omega | (simp; done) | (simp; omega)) _ | refine Below.grow _ _ _ ?_ (by first | omega | (simp; done) | (simp; omega))))⟩
        · have hp1 : isK (D.map Entry.path) p = isK (C.map Entry.path) p := by have := (look_other HS.out ⟨xp, xd, true⟩ hp).1; rw [HD.out] at this; exact this
          have hp2 : lookE D p = lookE C p := by have := (look_other HS.out ⟨xp, xd, true⟩ hp).2; rw [HD.out] at this; exact this
          simp only [hp1, hp2] at gn0 gn1 gn2 ⊢
          go_wp2_with (first | (go_at_call 24; refine (starts_any _).mono ?_; rintro e w7 ⟨rfl, hb7⟩; obtain ⟨ext8, d8, rfl⟩ := Below.grown_eq _ hb7))
          all_goals exact bodyPost_ret (v := .bool true) (by simp [results, Try.results14, go_sem]) rfl ⟨rfl, (by repeat (first | exact Below.refl _ _ | assumption | refine Below.drew ?_ | refine Below.drewN' ?_ _ | refine below_grow0 _ _ ?_ | refine below_alloc0 _ ?_ | refine Below.alloc ?_ (by first | omega | (simp; done) | (simp; omega)) _ | refine Below.setCell ?_ (by first | omega | (simp; done) | (simp; omega)) _ | refine Below.grow _ _ _ ?_ (by first | omega | (simp; done) | (simp; omega))))⟩
  | false =>
    go_wp2_with fail
    have hwx3 : w.heap.size < w3.heap.size := by have := HB3.out.size; simp at this; omega
    have E : (((grow ((grow (w.alloc (.cells #[.string xp, .string xd, .bool false] 79)) ext1 d1).alloc (.cells #[.int .i64 3, .int .i64 0, .slice A1 C.length c1] 38)) ext2 d2).alloc (.cells #[.string (lookE C p).path, .string (lookE C p).data, .bool (lookE C p).there_] 79)).setCell ⟨w.heap.size, 1, none⟩ (.string ⟨#[]⟩)) = ((grow ((grow (w.alloc (.cells #[.string xp, .string ⟨#[]⟩, .bool false] 79)) ext1 d1).alloc (.cells #[.int .i64 3, .int .i64 0, .slice A1 C.length c1] 38)) ext2 d2).alloc (.cells #[.string (lookE C p).path, .string (lookE C p).data, .bool (lookE C p).there_] 79)) := by simp [go_sem]
    have hb5 := Below.set2 HB3.out w.heap.size 1 (.string ⟨#[]⟩)
    have ho5 := HO2.out.setBelow (a := ⟨w.heap.size, 1, none⟩) (by simp <;> omega) (.string ⟨#[]⟩)
    rw [E] at hb5
    have hz5 : w3.heap.size = (w3.setCell ⟨w.heap.size, 1, none⟩ (.string ⟨#[]⟩)).heap.size := by simp
    simp only [hz5]
    generalize w3.setCell ⟨w.heap.size, 1, none⟩ (.string ⟨#[]⟩) = w5 at hb5 ho5 hz5 ⊢
    have ex0 := (hb5.cell (p := ⟨w.heap.size, 0, none⟩) (by simp <;> omega)).trans (show _ = some (.string xp) by go_simp)
    have ex1 := (hb5.cell (p := ⟨w.heap.size, 1, none⟩) (by simp <;> omega)).trans (show _ = some (.string ⟨#[]⟩) by go_simp)
    have ex2 := (hb5.cell (p := ⟨w.heap.size, 2, none⟩) (by simp <;> omega)).trans (show _ = some (.bool false) by go_simp)
    have ec0 := (hb5.cell (p := ⟨w.heap.size + 1 + ext1.size, 0, none⟩) (by simp <;> omega)).trans (show _ = some (.int .i64 3) by go_simp)
    have ec1 := (hb5.cell (p := ⟨w.heap.size + 1 + ext1.size, 1, none⟩) (by simp <;> omega)).trans (show _ = some (.int .i64 0) by go_simp)
    have ec2 := (hb5.cell (p := ⟨w.heap.size + 1 + ext1.size, 2, none⟩) (by simp <;> omega)).trans (show _ = some (.slice A1 C.length c1) by go_simp)
    have ew0 := (hb5.cell (p := ⟨w.heap.size + 1 + ext1.size + 1 + ext2.size, 0, none⟩) (by simp <;> omega)).trans (show _ = some (.string (lookE C p).path) by go_simp)
    have ew1 := (hb5.cell (p := ⟨w.heap.size + 1 + ext1.size + 1 + ext2.size, 1, none⟩) (by simp <;> omega)).trans (show _ = some (.string (lookE C p).data) by go_simp)
    have ew2 := (hb5.cell (p := ⟨w.heap.size + 1 + ext1.size + 1 + ext2.size, 2, none⟩) (by simp <;> omega)).trans (show _ = some (.bool (lookE C p).there_) by go_simp)
    have HO5 := Lib.hid ho5
    have HB5 := Lib.hid (Below.self hb5 (by simp))
    clear hb5 ho5 hz5 hwx3 E
    refine (clLook _ _ _ D _ _ ((HO5.out.alloc _).sl) (by omega)).mono ?_
    rintro e w4 ⟨rfl, hb4⟩
    obtain ⟨ext4, d4, rfl⟩ := Below.grown_eq _ hb4
    clear hb4
    go_wp2_with fail
    refine (clLook _ _ _ D _ _ ((((HO5.out.alloc _).below (below_grow0 _ _ (Below.refl _ _))).alloc _).sl) (by omega)).mono ?_
    rintro e w4 ⟨rfl, hb4⟩
    obtain ⟨ext5, d5, rfl⟩ := Below.grown_eq _ hb4
    clear hb4
    go_wp2_with fail
    have hwx : w.heap.size < w5.heap.size := by have := HB5.out.size; simp at this; omega
    have hwc : w.heap.size + 1 + ext1.size + 1 + ext2.size < w5.heap.size := by have := HB5.out.size; simp at this; omega
    refine (clLook _ _ _ C _ _ (Sl.below (Sl.below ((((HO1.out.regrow (W' := w.alloc (.cells #[.string xp, .string ⟨#[]⟩, .bool false] 79)) (d' := d1) (Nat.le_refl _) (by simp)).alloc _).below (below_grow0 _ _ (Below.refl _ _))).alloc _).sl HB5.out) (by repeat (first | exact Below.refl _ _ | assumption | refine Below.drew ?_ | refine Below.drewN' ?_ _ | refine below_grow0 _ _ ?_ | refine below_alloc0 _ ?_ | refine Below.alloc ?_ (by first | omega | (simp; done) | (simp; omega)) _ | refine Below.setCell ?_ (by first | omega | (simp; done) | (simp; omega)) _ | refine Below.grow _ _ _ ?_ (by first | omega | (simp; done) | (simp; omega))))) (by omega)).mono ?_
    rintro e w6 ⟨rfl, hb6⟩
    have gx0 := (hb6.cell (p := ⟨w.heap.size, 0, none⟩) (by simp <;> omega)).trans (show _ = some (.string xp) by go_simp)
    have gx1 := (hb6.cell (p := ⟨w.heap.size, 1, none⟩) (by simp <;> omega)).trans (show _ = some (.string ⟨#[]⟩) by go_simp)
    have gx2 := (hb6.cell (p := ⟨w.heap.size, 2, none⟩) (by simp <;> omega)).trans (show _ = some (.bool false) by go_simp)
    have gw0 := (hb6.cell (p := ⟨w.heap.size + 1 + ext1.size + 1 + ext2.size, 0, none⟩) (by simp <;> omega)).trans (show _ = some (.string (lookE C p).path) by go_simp)
    have gw1 := (hb6.cell (p := ⟨w.heap.size + 1 + ext1.size + 1 + ext2.size, 1, none⟩) (by simp <;> omega)).trans (show _ = some (.string (lookE C p).data) by go_simp)
    have gw2 := (hb6.cell (p := ⟨w.heap.size + 1 + ext1.size + 1 + ext2.size, 2, none⟩) (by simp <;> omega)).trans (show _ = some (.bool (lookE C p).there_) by go_simp)
    have gd2 := (hb6.cell (p := ⟨w5.heap.size, 2, none⟩) (by simp <;> omega)).trans (show _ = some (.slice A2 D.length c2) by go_simp)
    have gg0 := (hb6.cell (p := ⟨w5.heap.size + 1 + ext4.size, 0, none⟩) (by simp <;> omega)).trans (show _ = some (.string (lookE D xp).path) by go_simp)
    have gg1 := (hb6.cell (p := ⟨w5.heap.size + 1 + ext4.size, 1, none⟩) (by simp <;> omega)).trans (show _ = some (.string (lookE D xp).data) by go_simp)
    have gg2 := (hb6.cell (p := ⟨w5.heap.size + 1 + ext4.size, 2, none⟩) (by simp <;> omega)).trans (show _ = some (.bool (lookE D xp).there_) by go_simp)
    have gn0 := (hb6.cell (p := ⟨w5.heap.size + 1 + ext4.size + 1 + ext5.size, 0, none⟩) (by simp <;> omega)).trans (show _ = some (.string (lookE D p).path) by go_simp)
    have gn1 := (hb6.cell (p := ⟨w5.heap.size + 1 + ext4.size + 1 + ext5.size, 1, none⟩) (by simp <;> omega)).trans (show _ = some (.string (lookE D p).data) by go_simp)
    have gn2 := (hb6.cell (p := ⟨w5.heap.size + 1 + ext4.size + 1 + ext5.size, 2, none⟩) (by simp <;> omega)).trans (show _ = some (.bool (lookE D p).there_) by go_simp)
    have HB6 := Lib.hid hb6
    clear hb6
    go_wp2_with fail
    have hb06 : Below w.heap.size w w6 := by
      have h1 : Below w.heap.size w w5 := Below.own (by repeat (first | exact Below.refl _ _ | assumption | refine Below.drew ?_ | refine Below.drewN' ?_ _ | refine below_grow0 _ _ ?_ | refine below_alloc0 _ ?_ | refine Below.alloc ?_ (by first | omega | (simp; done) | (simp; omega)) _ | refine Below.setCell ?_ (by first | omega | (simp; done) | (simp; omega)) _ | refine Below.grow _ _ _ ?_ (by first | omega | (simp; done) | (simp; omega)))) HB5.out
      exact Below.own (by repeat (first | exact Below.refl _ _ | assumption | refine Below.drew ?_ | refine Below.drewN' ?_ _ | refine below_grow0 _ _ ?_ | refine below_alloc0 _ ?_ | refine Below.alloc ?_ (by first | omega | (simp; done) | (simp; omega)) _ | refine Below.setCell ?_ (by first | omega | (simp; done) | (simp; omega)) _ | refine Below.grow _ _ _ ?_ (by first | omega | (simp; done) | (simp; omega)))) HB6.out
    have HSD := Lib.hid (Sl.below (Sl.below (((HO5.out.alloc (.cells #[.int .i64 3, .int .i64 0, .slice A2 D.length c2] 38)).below (below_grow0 ext4 d4 (Below.refl _ _))).alloc (.cells #[.string (lookE D xp).path, .string (lookE D xp).data, .bool (lookE D xp).there_] 79)).sl (below_grow0 ext5 d5 (Below.refl _ _))) (below_alloc0 (.cells #[.string (lookE D p).path, .string (lookE D p).data, .bool (lookE D p).there_] 79) (Below.refl _ _)))
    go_loopw [17] (fun i wr => ∃ (k : Nat) (ext7 : Array Obj) (d7 : Nat), 1 ≤ k ∧ i = .int .i64 k ∧ wr = grow (w6.alloc (.cells #[.string (lookE C p).path, .string (lookE C p).data, .bool (lookE C p).there_] 79)) ext7 d7) (fun i _ => D.length - (intOf i).toNat)
    case atStart => exact ⟨1, _, _, Nat.le_refl _, rfl, grown_of (by repeat (first | exact Below.refl _ _ | assumption | refine Below.drew ?_ | refine Below.drewN' ?_ _ | refine below_grow0 _ _ ?_ | refine below_alloc0 _ ?_ | refine Below.alloc ?_ (by first | omega | (simp; done) | (simp; omega)) _ | refine Below.setCell ?_ (by first | omega | (simp; done) | (simp; omega)) _ | refine Below.grow _ _ _ ?_ (by first | omega | (simp; done) | (simp; omega))))⟩
    case round =>
      obtain ⟨k, ext7, d7, hk1, rfl, rfl⟩ := hrel
      obtain ⟨j, rfl⟩ : ∃ j, k = j + 1 := ⟨k - 1, by omega⟩
      by_cases hlt : j + 1 < D.length
      · have hx : D[j]? = some (D[j]'(by omega)) := List.getElem?_eq_getElem _
        have hy : D[j + 1]? = some (D[j + 1]'hlt) := List.getElem?_eq_getElem _
        have HS6 := HSD.out.below HB6.out
        obtain ⟨bk, off, hA2, hbw, x0, _, _⟩ := HS6.Entry_at hx
        obtain ⟨bk2, off2, hA3, _, y0, _, _⟩ := HS6.Entry_at hy
        subst hA2
        injection hA3 with hA3
        injection hA3 with e1 e2 _
        subst e1
        subst e2
        have hlt2 : cmpB (D[j]'(by omega)).path (D[j + 1]'hlt).path < 0 := by
          have := keepL_sorted HS.out ⟨xp, xd, false⟩
          rw [HD.out] at this
          exact this j (j + 1) _ _ (by omega) hx hy
        have HG := Lib.hid (less_of_cmp hlt2)
        clear hlt2
        go_wp2_with fail
        go_region
        go_wp2_with fail
        · rename_i hbad
          rw [HG.out] at hbad
          cases hbad
        · go_roundw
          case rel => exact ⟨j + 1 + 1, _, _, by omega, by go_num, grown_of (by repeat (first | exact Below.refl _ _ | assumption | refine Below.drew ?_ | refine Below.drewN' ?_ _ | refine below_grow0 _ _ ?_ | refine below_alloc0 _ ?_ | refine Below.alloc ?_ (by first | omega | (simp; done) | (simp; omega)) _ | refine Below.setCell ?_ (by first | omega | (simp; done) | (simp; omega)) _ | refine Below.grow _ _ _ ?_ (by first | omega | (simp; done) | (simp; omega))))⟩
          case measure => simp [intOf]; omega
      · have hk1 : isK (D.map Entry.path) xp = true := by have := (look_kept HS.out ⟨xp, xd, false⟩).1; rw [HD.out] at this; exact this
        have hk2 : lookE D xp = ⟨xp, ⟨#[]⟩, false⟩ := by have := (look_kept HS.out ⟨xp, xd, false⟩).2; rw [HD.out] at this; exact this
        simp only [hk1, hk2] at gg0 gg1 gg2 ⊢
        by_cases hp : p = xp
        · subst hp
          simp only [hk1, hk2] at gn0 gn1 gn2 ⊢
          go_wp2_with (first | (go_at_call 24; refine (starts_any _).mono ?_; rintro e w7 ⟨rfl, hb7⟩; obtain ⟨ext8, d8, rfl⟩ := Below.grown_eq _ hb7))
          all_goals exact bodyPost_ret (v := .bool true) (by simp [results, Try.results14, go_sem]) rfl ⟨rfl, (by repeat (first | exact Below.refl _ _ | assumption | refine Below.drew ?_ | refine Below.drewN' ?_ _ | refine below_grow0 _ _ ?_ | refine below_alloc0 _ ?_ | refine Below.alloc ?_ (by first | omega | (simp; done) | (simp; omega)) _ | refine Below.setCell ?_ (by first | omega | (simp; done) | (simp; omega)) _ | refine Below.grow _ _ _ ?_ (by first | omega | (simp; done) | (simp; omega))))⟩
        · have hp1 : isK (D.map Entry.path) p = isK (C.map Entry.path) p := by have := (look_other HS.out ⟨xp, xd, false⟩ hp).1; rw [HD.out] at this; exact this
          have hp2 : lookE D p = lookE C p := by have := (look_other HS.out ⟨xp, xd, false⟩ hp).2; rw [HD.out] at this; exact this
          simp only [hp1, hp2] at gn0 gn1 gn2 ⊢
          go_wp2_with (first | (go_at_call 24; refine (starts_any _).mono ?_; rintro e w7 ⟨rfl, hb7⟩; obtain ⟨ext8, d8, rfl⟩ := Below.grown_eq _ hb7))
          all_goals exact bodyPost_ret (v := .bool true) (by simp [results, Try.results14, go_sem]) rfl ⟨rfl, (by repeat (first | exact Below.refl _ _ | assumption | refine Below.drew ?_ | refine Below.drewN' ?_ _ | refine below_grow0 _ _ ?_ | refine below_alloc0 _ ?_ | refine Below.alloc ?_ (by first | omega | (simp; done) | (simp; omega)) _ | refine Below.setCell ?_ (by first | omega | (simp; done) | (simp; omega)) _ | refine Below.grow _ _ _ ?_ (by first | omega | (simp; done) | (simp; omega))))⟩
namespace clientKept
theorem own : ownKnob Try.prog.godebug = none := by kernel_rfl
theorem laidOut : laidOutB Try.prog = true := by kernel_rfl
set_option maxRecDepth 100000 in
set_option maxHeartbeats 1000000 in
theorem lifted (os : Os) (started : os.Started) (H : Type) (enc : TypeId × Value → H) :
    ReturnsInHanded {} Try.checked os 14 .any (Rows.clientKeptSpec.pre6 enc Try.prog Try.f14 Rows.clientKeptRow.domain false) (Rows.clientKeptSpec.post enc Try.prog Try.f14 false true false false) := by
  refine returnsInHanded_of_change_sized (C := Try.checked) own started (by kernel_rfl) Try.func14
    (ChangeSpec.witness6 (enc := enc) (C := Try.checked) false ⟨#[], #[.slice none 0 0, .agg #[.string ByteArray.empty, .string ByteArray.empty, .bool false], .string ByteArray.empty], []⟩ 8 (by kernel_rfl) (by kernel_rfl) (by kernel_rfl) (by kernel_rfl)) ?_
  intro W base args ds gs before hval0 hW0 _ hsz0 _
  have hval : ∀ (j : Nat) t v, Try.f14.params[j]? = some t → args[j]? = some v → Value.okWide Try.prog W .any base t v := hval0
  have hW : DataW.Whole enc Try.prog Try.f14.params.toList Rows.clientKeptSpec.vars false W args.toList ds gs before := hW0
  have hlt : ∀ p ∈ before, p.block < W.heap.size := fun p hp => hW.lt p hp
  have hW1 := hW
  obtain ⟨p, q, hA0, hV, rfl, hfz, hnd⟩ := hW1
  have hA : DataW.TrodAll enc Try.prog W 0 (fun _ => true) true Try.f14.params.toList args.toList ds p := hA0
  obtain ⟨rfl, rfl⟩ := trodVars_none hV
  rw [Try.params14] at hA hval
  obtain ⟨v0, vs0, d0, ds0, p0, q0, hargs, rfl, rfl, h0, r0⟩ := trodAll_cons hA
  obtain ⟨v1, vs1, d1, ds1, p1, q1, rfl, rfl, rfl, h1, r1⟩ := trodAll_cons r0
  obtain ⟨v2, vs2, d2, ds2, p2, q2, rfl, rfl, rfl, h2, r2⟩ := trodAll_cons r1
  obtain ⟨rfl, rfl, rfl⟩ := trodAll_nil r2
  obtain rfl : args = #[v0, v1, v2] := by cases args; simp_all
  have hsz : (DataW.weightsEach Try.prog [36, 79, 9] [d0, d1, d2]).all (· ≤ reachBytes) = true := hsz0
  have close : ∀ e W', (e = Ending.returned (.bool true) ∧ Below W.heap.size W W') → ∃ v, e = .returned v ∧ Rows.clientKeptSpec.post enc Try.prog Try.f14 false true false false W #[v0, v1, v2] v W' :=
    fun e W' ⟨he, hb⟩ => ⟨_, he, law_post laidOut (of_decide_eq_true (by kernel_rfl)) rfl rfl Try.underlying4 hW rfl hb⟩
  clear hA0 hsz0 hval0 hW0 hA hV hW hfz hnd
  obtain ⟨xs0, hr0, hf0, els0, sp0, he0⟩ := open_rows (ks := [.s, .s, .b]) 9 Try.underlying36 (by kernel_rfl) (hval 0 36 v0 rfl rfl) h0 (fun x hx => hlt x (by simp [hx])) (by decide)
  have rb0 : xs0.length * 40 ≤ 140737488351232 := by
    rcases he0 with ⟨_, rfl⟩ | ⟨hd, hl⟩
    · simp
    · rw [hd] at hsz
      have := sized_slice hsz (j := 0) rfl rfl Try.underlying36
      rw [show Try.prog.bytesOf 79 = 40 from by kernel_rfl] at this
      simp only [reachBytes] at this
      rw [hl] at this
      exact Nat.le_trans (Nat.mul_le_mul_right _ (Nat.le_add_right _ _)) this
  obtain ⟨cs1, rfl, hf1⟩ := open_flat (ks := [.s, .s, .b]) 9 Try.underlying79 (by kernel_rfl) (hval 1 79 v1 rfl rfl) h1
  obtain ⟨a2, rfl, hd2, _, wf2⟩ := Go.ChangeMaps.open_string Try.underlying9 (hval 2 9 v2 rfl rfl) h2
  have rb2 : a2.size ≤ 140737488351232 := by subst hd2; have := sized_string hsz (j := 2) rfl rfl; simpa [reachBytes] using this
  obtain ⟨l, rfl, _⟩ := typed (fun x hx => fitsEntry (hf0 x hx))
  have hs : Sl cEntry 3 W v0 l := hr0
  obtain ⟨x, rfl, _⟩ := fitsEntry hf1
  exact (clientKept_ok v0 l x a2 W hs).mono close
theorem proved : Rows.ClientKeptSaid :=
  OpenClaim.holds_of_wide 14 Try.f14 rfl rfl rfl rfl rfl rfl rfl ⟨rfl, rfl, rfl, rfl, rfl⟩ rfl rfl rfl rfl rfl (by kernel_rfl) Try.func14 (by kernel_rfl)
    (of_decide_eq_true (by kernel_rfl)) (by unfold Func.isWrapper; first | (rw [if_pos (by decide +kernel)]; kernel_rfl) | (rw [if_neg (by decide +kernel)]; exact ⟨rfl, rfl⟩))
    (fun os started H enc _ => lifted os started H enc)
end clientKept
end Go.Proofs.Ytahcmfnpfepimaa
