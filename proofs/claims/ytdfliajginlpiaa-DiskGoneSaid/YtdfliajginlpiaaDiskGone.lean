/- The law DiskGone is true for every input; no conditions. -/
import Derived.Test.YtdfliajginlpiaaDiskArg
namespace Go.Proofs.Ytdfliajginlpiaa
open Go.RowKit Go.ChangeShapes Go.WideShapes Go.ChangeAt
set_option maxHeartbeats 1000000 in
theorem diskGone_no (v : Value) (l : List File) (p : ByteArray) (n : Int) (w : World) (h : Sl cFile 3 w v l) (hz : ∀ x ∈ l, x.sized) (hre : readE l p ≠ 0) :
    Calls Try.prog 8 #[.agg #[v], .string p, .int .i64 n] w fun e w' => e = .returned (.bool true) ∧ Below w.heap.size w w' := by
  obtain ⟨A, c, rfl, hc1, hc2⟩ := h.form
  have H := Lib.hid h
  have HR0 := Lib.hid (fun (W : World) (v : Value) (h : Sl cFile 3 W v l) => dkRead v l p W h hz)
  have HX := Lib.hid (fun (W : World) (v : Value) (h : Sl cFile 3 W v l) => dkRemove v l p W h hz)
  have HC := Lib.hid (fun (W : World) (v : Value) (h : Sl cFile 3 W v l) => dkCut v l p n W h hz)
  have hce : cutE l p n ≠ 0 := fun h => hre (cut_ok h).1
  have HS := Lib.hid stores_is
  generalize readE l p = code0 at *
  generalize readS l p = was at *
  generalize removeL l p = R at *
  generalize cutL l p n = C at *
  generalize cutE l p n = code at *
  have h1 : (code != 0) = true := by simpa using hce
  have h2 : (code0 == 0) = false := by simpa using hre
  clear h hz hce hre
  go_enter Try.func8, Try.ntmps8
  go_wp2_with
    (first | (go_at_call 23; refine (HX.out _ _ (H.out.below (by repeat (first | exact Below.refl _ _ | assumption | refine Below.drew ?_ | refine Below.drewN' ?_ _ | refine below_grow0 _ _ ?_ | refine below_alloc0 _ ?_ | refine Below.alloc ?_ (by first | omega | (simp; done) | (simp; omega)) _ | refine Below.setCell ?_ (by first | omega | (simp; done) | (simp; omega)) _ | refine Below.grow _ _ _ ?_ (by first | omega | (simp; done) | (simp; omega)))))).mono ?_; rintro e w1 ⟨A1, k1, rfl, ho1, hb1⟩; obtain ⟨ext1, d1, rfl⟩ := Below.grown_eq _ hb1; have HO1 := Lib.hid ho1.sl; clear ho1 hb1) | (go_at_call 22; refine (HC.out _ _ (H.out.below (by repeat (first | exact Below.refl _ _ | assumption | refine Below.drew ?_ | refine Below.drewN' ?_ _ | refine below_grow0 _ _ ?_ | refine below_alloc0 _ ?_ | refine Below.alloc ?_ (by first | omega | (simp; done) | (simp; omega)) _ | refine Below.setCell ?_ (by first | omega | (simp; done) | (simp; omega)) _ | refine Below.grow _ _ _ ?_ (by first | omega | (simp; done) | (simp; omega)))))).mono ?_; rintro e w1 ⟨A2, k2, rfl, ho2, hb2⟩; obtain ⟨ext2, d2, rfl⟩ := Below.grown_eq _ hb2; have HO2 := Lib.hid ho2.sl; clear ho2 hb2) | (go_at_call 19; refine (HR0.out _ _ (H.out.below (by repeat (first | exact Below.refl _ _ | assumption | refine Below.drew ?_ | refine Below.drewN' ?_ _ | refine below_grow0 _ _ ?_ | refine below_alloc0 _ ?_ | refine Below.alloc ?_ (by first | omega | (simp; done) | (simp; omega)) _ | refine Below.setCell ?_ (by first | omega | (simp; done) | (simp; omega)) _ | refine Below.grow _ _ _ ?_ (by first | omega | (simp; done) | (simp; omega)))))).mono ?_; rintro e w1 ⟨rfl, hb3⟩; obtain ⟨ext3, d3, rfl⟩ := Below.grown_eq _ hb3; clear hb3) | (go_at_call 15; refine (HS.out _).mono ?_; rintro e w1 ⟨rfl, hb4⟩; obtain ⟨ext4, d4, rfl⟩ := Below.grown_eq _ hb4; clear hb4))
  go_ret
  exact ⟨rfl, (by repeat (first | exact Below.refl _ _ | assumption | refine Below.drew ?_ | refine Below.drewN' ?_ _ | refine below_grow0 _ _ ?_ | refine below_alloc0 _ ?_ | refine Below.alloc ?_ (by first | omega | (simp; done) | (simp; omega)) _ | refine Below.setCell ?_ (by first | omega | (simp; done) | (simp; omega)) _ | refine Below.grow _ _ _ ?_ (by first | omega | (simp; done) | (simp; omega))))⟩
set_option maxHeartbeats 2000000 in
theorem diskGone_half (v : Value) (l : List File) (p : ByteArray) (n : Int) (w : World) (h : Sl cFile 3 w v l) (hz : ∀ x ∈ l, x.sized) (hre : readE l p = 0) (hce : cutE l p n ≠ 0) :
    Calls Try.prog 8 #[.agg #[v], .string p, .int .i64 n] w fun e w' => e = .returned (.bool true) ∧ Below w.heap.size w w' := by
  obtain ⟨A, c, rfl, hc1, hc2⟩ := h.form
  have H := Lib.hid h
  obtain ⟨g1, g2⟩ := readE_0 hre
  obtain ⟨r1, r2, r3⟩ := remove_ok hre
  have h16 := goodD_len g1
  have HR0 := Lib.hid (fun (W : World) (v : Value) (h : Sl cFile 3 W v l) => dkRead v l p W h hz)
  have HX := Lib.hid (fun (W : World) (v : Value) (h : Sl cFile 3 W v l) => dkRemove v l p W h hz)
  have HC := Lib.hid (fun (W : World) (v : Value) (h : Sl cFile 3 W v l) => dkCut v l p n W h hz)
  have hnone := read_none r2 (p := p) (fun x hx => by rw [r1] at hx; exact ((mem_offL ((goodD_iff _).1 g1).2.2 g2 x).1 hx).2)
  have HR1 := Lib.hid (fun (W : World) (v : Value) (h : Sl cFile 3 W v (removeL l p)) => by
    have h1 := dkRead v _ p W h (fun x hx => (goodD_sized r2 x hx).1)
    rw [hnone.1, hnone.2] at h1
    exact h1)
  have HS := Lib.hid stores_is
  rw [hre] at HR0 HX
  clear hnone r1 r2 g1 g2 hre
  generalize readS l p = was at *
  generalize removeL l p = R at *
  generalize cutL l p n = C at *
  generalize cutE l p n = code at *
  have h1 : (code != 0) = true := by simpa using hce
  have hdl : ((l.length : Int) - (R.length : Int) != 1) = false := by
    have : (l.length : Int) - (R.length : Int) = 1 := by omega
    rw [this]; rfl
  clear h hz hce
  go_enter Try.func8, Try.ntmps8
  go_wp2_with
    (first | (go_at_call 23; refine (HX.out _ _ (H.out.below (by repeat (first | exact Below.refl _ _ | assumption | refine Below.drew ?_ | refine Below.drewN' ?_ _ | refine below_grow0 _ _ ?_ | refine below_alloc0 _ ?_ | refine Below.alloc ?_ (by first | omega | (simp; done) | (simp; omega)) _ | refine Below.setCell ?_ (by first | omega | (simp; done) | (simp; omega)) _ | refine Below.grow _ _ _ ?_ (by first | omega | (simp; done) | (simp; omega)))))).mono ?_; rintro e w1 ⟨A1, k1, rfl, ho1, hb1⟩; obtain ⟨ext1, d1, rfl⟩ := Below.grown_eq _ hb1; have HO1 := Lib.hid ho1.sl; clear ho1 hb1 HX) | (go_at_call 22; refine (HC.out _ _ (H.out.below (by repeat (first | exact Below.refl _ _ | assumption | refine Below.drew ?_ | refine Below.drewN' ?_ _ | refine below_grow0 _ _ ?_ | refine below_alloc0 _ ?_ | refine Below.alloc ?_ (by first | omega | (simp; done) | (simp; omega)) _ | refine Below.setCell ?_ (by first | omega | (simp; done) | (simp; omega)) _ | refine Below.grow _ _ _ ?_ (by first | omega | (simp; done) | (simp; omega)))))).mono ?_; rintro e w1 ⟨A2, k2, rfl, ho2, hb2⟩; obtain ⟨ext2, d2, rfl⟩ := Below.grown_eq _ hb2; have HO2 := Lib.hid ho2.sl; clear ho2 hb2 HC) | (go_at_call 19; refine (HR0.out _ _ (H.out.below (by repeat (first | exact Below.refl _ _ | assumption | refine Below.drew ?_ | refine Below.drewN' ?_ _ | refine below_grow0 _ _ ?_ | refine below_alloc0 _ ?_ | refine Below.alloc ?_ (by first | omega | (simp; done) | (simp; omega)) _ | refine Below.setCell ?_ (by first | omega | (simp; done) | (simp; omega)) _ | refine Below.grow _ _ _ ?_ (by first | omega | (simp; done) | (simp; omega)))))).mono ?_; rintro e w1 ⟨rfl, hb3⟩; obtain ⟨ext3, d3, rfl⟩ := Below.grown_eq _ hb3; clear hb3 HR0) | (go_at_call 15; refine (HS.out _).mono ?_; rintro e w1 ⟨rfl, hb4⟩; obtain ⟨ext4, d4, rfl⟩ := Below.grown_eq _ hb4; clear hb4) | (go_at_call 19; refine (HR1.out _ _ (HO1.out.below (by repeat (first | exact Below.refl _ _ | assumption | refine Below.drew ?_ | refine Below.drewN' ?_ _ | refine below_grow0 _ _ ?_ | refine below_alloc0 _ ?_ | refine Below.alloc ?_ (by first | omega | (simp; done) | (simp; omega)) _ | refine Below.setCell ?_ (by first | omega | (simp; done) | (simp; omega)) _ | refine Below.grow _ _ _ ?_ (by first | omega | (simp; done) | (simp; omega)))))).mono ?_; rintro e w1 ⟨rfl, hb3⟩; obtain ⟨ext5, d5, rfl⟩ := Below.grown_eq _ hb3; clear hb3 HR1) | (go_at_call 13; refine (HY.out _ _ (HO2.out.below (by repeat (first | exact Below.refl _ _ | assumption | refine Below.drew ?_ | refine Below.drewN' ?_ _ | refine below_grow0 _ _ ?_ | refine below_alloc0 _ ?_ | refine Below.alloc ?_ (by first | omega | (simp; done) | (simp; omega)) _ | refine Below.setCell ?_ (by first | omega | (simp; done) | (simp; omega)) _ | refine Below.grow _ _ _ ?_ (by first | omega | (simp; done) | (simp; omega)))))).mono ?_; rintro e w1 ⟨A3, k3, rfl, ho3, hb5⟩; obtain ⟨ext6, d6, rfl⟩ := Below.grown_eq _ hb5; have HO3 := Lib.hid ho3.sl; clear ho3 hb5) | (go_at_call 19; refine (HR2.out _ _ (HO3.out.below (by repeat (first | exact Below.refl _ _ | assumption | refine Below.drew ?_ | refine Below.drewN' ?_ _ | refine below_grow0 _ _ ?_ | refine below_alloc0 _ ?_ | refine Below.alloc ?_ (by first | omega | (simp; done) | (simp; omega)) _ | refine Below.setCell ?_ (by first | omega | (simp; done) | (simp; omega)) _ | refine Below.grow _ _ _ ?_ (by first | omega | (simp; done) | (simp; omega)))))).mono ?_; rintro e w1 ⟨rfl, hb3⟩; obtain ⟨ext7, d7, rfl⟩ := Below.grown_eq _ hb3; clear hb3))
  go_ret
  exact ⟨rfl, (by repeat (first | exact Below.refl _ _ | assumption | refine Below.drew ?_ | refine Below.drewN' ?_ _ | refine below_grow0 _ _ ?_ | refine below_alloc0 _ ?_ | refine Below.alloc ?_ (by first | omega | (simp; done) | (simp; omega)) _ | refine Below.setCell ?_ (by first | omega | (simp; done) | (simp; omega)) _ | refine Below.grow _ _ _ ?_ (by first | omega | (simp; done) | (simp; omega))))⟩
set_option maxHeartbeats 4000000 in
theorem diskGone_ok (v : Value) (l : List File) (p : ByteArray) (n : Int) (w : World) (h : Sl cFile 3 w v l) (hz : ∀ x ∈ l, x.sized) :
    Calls Try.prog 8 #[.agg #[v], .string p, .int .i64 n] w fun e w' => e = .returned (.bool true) ∧ Below w.heap.size w w' := by
  by_cases hre : readE l p ≠ 0
  · exact diskGone_no v l p n w h hz hre
  have hre : readE l p = 0 := by simpa using hre
  by_cases hce : cutE l p n ≠ 0
  · exact diskGone_half v l p n w h hz hre hce
  have hce : cutE l p n = 0 := by simpa using hce
  obtain ⟨A, c, rfl, hc1, hc2⟩ := h.form
  have H := Lib.hid h
  obtain ⟨g1, g2⟩ := readE_0 hre
  obtain ⟨r1, r2, r3⟩ := remove_ok hre
  obtain ⟨_, n0, n1, c1, c2⟩ := cut_ok hce
  obtain ⟨m, rfl⟩ := Int.eq_ofNat_of_zero_le n0
  have h16 := goodD_len g1
  have HR0 := Lib.hid (fun (W : World) (v : Value) (h : Sl cFile 3 W v l) => dkRead v l p W h hz)
  have HX := Lib.hid (fun (W : World) (v : Value) (h : Sl cFile 3 W v l) => dkRemove v l p W h hz)
  have HC := Lib.hid (fun (W : World) (v : Value) (h : Sl cFile 3 W v l) => dkCut v l p m W h hz)
  have hnone := read_none r2 (p := p) (fun x hx => by rw [r1] at hx; exact ((mem_offL ((goodD_iff _).1 g1).2.2 g2 x).1 hx).2)
  have hmem : (⟨p, (readS l p).extract 0 m, ⟨#[]⟩⟩ : File) ∈ cutL l p m := by
    rw [c1]
    exact (mem_putL ((goodD_iff _).1 g1).2.2 _ _).2 (.inl rfl)
  have hrd : readE ((cutL l p m).map (crashF 0)) p = 0 ∧ readS ((cutL l p m).map (crashF 0)) p = (readS l p).extract 0 m := by
    have h1 := crash_reads c2 0 hmem
    refine ⟨h1.1, h1.2.trans ?_⟩
    have h2 : ∀ k, ByteArray.extract ⟨#[]⟩ 0 k = ByteArray.empty := fun k => ByteArray.ext (by simp)
    show ((readS l p).extract 0 m) ++ ByteArray.extract ⟨#[]⟩ 0 _ = _
    rw [h2, ByteArray.append_empty]
  have HR1 := Lib.hid (fun (W : World) (v : Value) (h : Sl cFile 3 W v (removeL l p)) => by
    have h1 := dkRead v _ p W h (fun x hx => (goodD_sized r2 x hx).1)
    rw [hnone.1, hnone.2] at h1
    exact h1)
  obtain ⟨Y, hY⟩ : ∃ Y : List File, Y = (cutL l p m).map (crashF 0) := ⟨_, rfl⟩
  have HY := Lib.hid (fun (W : World) (v : Value) (h : Sl cFile 3 W v (cutL l p m)) => by
    have h1 := dkCrash v _ 0 W h (fun x hx => (goodD_sized c2 x hx).1)
    have h2 := crash_is c2 0
    rw [show crashE (cutL l p m) 0 = 0 from h2.1, show crashL (cutL l p m) 0 = _ from h2.2, ← hY] at h1
    exact h1)
  have HR2 := Lib.hid (fun (W : World) (v : Value) (h : Sl cFile 3 W v Y) => by
    rw [hY] at h
    have h1 := dkRead v _ p W h (fun x hx => (goodD_sized (crash_good c2 0) x hx).1)
    rw [hrd.1, hrd.2] at h1
    exact h1)
  have HS := Lib.hid stores_is
  have hsz : (readS l p).size ≤ 1048576 := by
    rw [readS_or g1]
    unfold fileOr
    rw [if_pos g2, ByteArray.size_append]
    exact (goodD_sized g1 _ (fileAt_is g2).2).2
  rw [hre] at HR0 HX
  rw [hce] at HC
  clear hnone hrd hmem hY r1 r2 g1 g2 hre hce n0 c1 c2
  generalize readS l p = was at *
  generalize removeL l p = R at *
  generalize cutL l p m = C at *
  have hdl : ((l.length : Int) - (R.length : Int) != 1) = false := by
    have : (l.length : Int) - (R.length : Int) = 1 := by omega
    rw [this]; rfl
  have hmi : (decide ((m : Int) ≤ (was.size : Int))) = true := decide_eq_true n1
  clear h hz
  go_enter Try.func8, Try.ntmps8
  go_wp2_with
    (first | (go_at_call 23; refine (HX.out _ _ (H.out.below (by repeat (first | exact Below.refl _ _ | assumption | refine Below.drew ?_ | refine Below.drewN' ?_ _ | refine below_grow0 _ _ ?_ | refine below_alloc0 _ ?_ | refine Below.alloc ?_ (by first | omega | (simp; done) | (simp; omega)) _ | refine Below.setCell ?_ (by first | omega | (simp; done) | (simp; omega)) _ | refine Below.grow _ _ _ ?_ (by first | omega | (simp; done) | (simp; omega)))))).mono ?_; rintro e w1 ⟨A1, k1, rfl, ho1, hb1⟩; obtain ⟨ext1, d1, rfl⟩ := Below.grown_eq _ hb1; have HO1 := Lib.hid ho1.sl; clear ho1 hb1 HX) | (go_at_call 22; refine (HC.out _ _ (H.out.below (by repeat (first | exact Below.refl _ _ | assumption | refine Below.drew ?_ | refine Below.drewN' ?_ _ | refine below_grow0 _ _ ?_ | refine below_alloc0 _ ?_ | refine Below.alloc ?_ (by first | omega | (simp; done) | (simp; omega)) _ | refine Below.setCell ?_ (by first | omega | (simp; done) | (simp; omega)) _ | refine Below.grow _ _ _ ?_ (by first | omega | (simp; done) | (simp; omega)))))).mono ?_; rintro e w1 ⟨A2, k2, rfl, ho2, hb2⟩; obtain ⟨ext2, d2, rfl⟩ := Below.grown_eq _ hb2; have HO2 := Lib.hid ho2.sl; clear ho2 hb2 HC) | (go_at_call 19; refine (HR0.out _ _ (H.out.below (by repeat (first | exact Below.refl _ _ | assumption | refine Below.drew ?_ | refine Below.drewN' ?_ _ | refine below_grow0 _ _ ?_ | refine below_alloc0 _ ?_ | refine Below.alloc ?_ (by first | omega | (simp; done) | (simp; omega)) _ | refine Below.setCell ?_ (by first | omega | (simp; done) | (simp; omega)) _ | refine Below.grow _ _ _ ?_ (by first | omega | (simp; done) | (simp; omega)))))).mono ?_; rintro e w1 ⟨rfl, hb3⟩; obtain ⟨ext3, d3, rfl⟩ := Below.grown_eq _ hb3; clear hb3 HR0) | (go_at_call 15; refine (HS.out _).mono ?_; rintro e w1 ⟨rfl, hb4⟩; obtain ⟨ext4, d4, rfl⟩ := Below.grown_eq _ hb4; clear hb4) | (go_at_call 19; refine (HR1.out _ _ (HO1.out.below (by repeat (first | exact Below.refl _ _ | assumption | refine Below.drew ?_ | refine Below.drewN' ?_ _ | refine below_grow0 _ _ ?_ | refine below_alloc0 _ ?_ | refine Below.alloc ?_ (by first | omega | (simp; done) | (simp; omega)) _ | refine Below.setCell ?_ (by first | omega | (simp; done) | (simp; omega)) _ | refine Below.grow _ _ _ ?_ (by first | omega | (simp; done) | (simp; omega)))))).mono ?_; rintro e w1 ⟨rfl, hb3⟩; obtain ⟨ext5, d5, rfl⟩ := Below.grown_eq _ hb3; clear hb3 HR1) | (go_at_call 13; refine (HY.out _ _ (HO2.out.below (by repeat (first | exact Below.refl _ _ | assumption | refine Below.drew ?_ | refine Below.drewN' ?_ _ | refine below_grow0 _ _ ?_ | refine below_alloc0 _ ?_ | refine Below.alloc ?_ (by first | omega | (simp; done) | (simp; omega)) _ | refine Below.setCell ?_ (by first | omega | (simp; done) | (simp; omega)) _ | refine Below.grow _ _ _ ?_ (by first | omega | (simp; done) | (simp; omega)))))).mono ?_; rintro e w1 ⟨A3, k3, rfl, ho3, hb5⟩; obtain ⟨ext6, d6, rfl⟩ := Below.grown_eq _ hb5; have HO3 := Lib.hid ho3.sl; clear ho3 hb5) | (go_at_call 19; refine (HR2.out _ _ (HO3.out.below (by repeat (first | exact Below.refl _ _ | assumption | refine Below.drew ?_ | refine Below.drewN' ?_ _ | refine below_grow0 _ _ ?_ | refine below_alloc0 _ ?_ | refine Below.alloc ?_ (by first | omega | (simp; done) | (simp; omega)) _ | refine Below.setCell ?_ (by first | omega | (simp; done) | (simp; omega)) _ | refine Below.grow _ _ _ ?_ (by first | omega | (simp; done) | (simp; omega)))))).mono ?_; rintro e w1 ⟨rfl, hb3⟩; obtain ⟨ext7, d7, rfl⟩ := Below.grown_eq _ hb3; clear hb3))
  go_ret
  exact ⟨rfl, (by repeat (first | exact Below.refl _ _ | assumption | refine Below.drew ?_ | refine Below.drewN' ?_ _ | refine below_grow0 _ _ ?_ | refine below_alloc0 _ ?_ | refine Below.alloc ?_ (by first | omega | (simp; done) | (simp; omega)) _ | refine Below.setCell ?_ (by first | omega | (simp; done) | (simp; omega)) _ | refine Below.grow _ _ _ ?_ (by first | omega | (simp; done) | (simp; omega))))⟩
namespace diskGone
theorem own : ownKnob Try.prog.godebug = none := by kernel_rfl
theorem laidOut : laidOutB Try.prog = true := by kernel_rfl
set_option maxRecDepth 100000 in
set_option maxHeartbeats 1000000 in
theorem lifted (os : Os) (started : os.Started) (H : Type) (enc : TypeId × Value → H) :
    ReturnsInHanded {} Try.checked os 8 .any (Rows.diskGoneSpec.pre6 enc Try.prog Try.f8 Rows.diskGoneRow.domain false) (Rows.diskGoneSpec.post enc Try.prog Try.f8 false true false false) := by
  refine returnsInHanded_of_change_sized (C := Try.checked) own started (by kernel_rfl) Try.func8
    (ChangeSpec.witness6 (enc := enc) (C := Try.checked) false ⟨#[], #[.agg #[.slice none 0 0], .string ByteArray.empty, .int .i64 0], []⟩ 8 (by kernel_rfl) (by kernel_rfl) (by kernel_rfl) (by kernel_rfl)) ?_
  intro W base args ds gs before hval0 hW0 _ hsz0 _
  have hval : ∀ (j : Nat) t v, Try.f8.params[j]? = some t → args[j]? = some v → Value.okWide Try.prog W .any base t v := hval0
  have hW : DataW.Whole enc Try.prog Try.f8.params.toList Rows.diskGoneSpec.vars false W args.toList ds gs before := hW0
  have hlt : ∀ p ∈ before, p.block < W.heap.size := fun p hp => hW.lt p hp
  have hW1 := hW
  obtain ⟨p, q, hA0, hV, rfl, hfz, hnd⟩ := hW1
  have hA : DataW.TrodAll enc Try.prog W 0 (fun _ => true) true Try.f8.params.toList args.toList ds p := hA0
  obtain ⟨rfl, rfl⟩ := trodVars_none hV
  rw [Try.params8] at hA hval
  obtain ⟨v0, vs0, d0, ds0, p0, q0, hargs, rfl, rfl, h0, r0⟩ := trodAll_cons hA
  obtain ⟨v1, vs1, d1, ds1, p1, q1, rfl, rfl, rfl, h1, r1⟩ := trodAll_cons r0
  obtain ⟨v2, vs2, d2, ds2, p2, q2, rfl, rfl, rfl, h2, r2⟩ := trodAll_cons r1
  obtain ⟨rfl, rfl, rfl⟩ := trodAll_nil r2
  obtain rfl : args = #[v0, v1, v2] := by cases args; simp_all
  have hsz : (DataW.weightsEach Try.prog [40, 9, 3] [d0, d1, d2]).all (· ≤ reachBytes) = true := hsz0
  have close : ∀ e W', (e = Ending.returned (.bool true) ∧ Below W.heap.size W W') → ∃ v, e = .returned v ∧ Rows.diskGoneSpec.post enc Try.prog Try.f8 false true false false W #[v0, v1, v2] v W' :=
    fun e W' ⟨he, hb⟩ => ⟨_, he, law_post laidOut (of_decide_eq_true (by kernel_rfl)) rfl rfl Try.underlying4 hW rfl hb⟩
  clear hA0 hsz0 hval0 hW0 hA hV hW hfz hnd
  obtain ⟨a1, rfl, hd1, _, wf1⟩ := Go.ChangeMaps.open_string Try.underlying9 (hval 1 9 v1 rfl rfl) h1
  have rb1 : a1.size ≤ 140737488351232 := by subst hd1; have := sized_string hsz (j := 1) rfl rfl; simpa [reachBytes] using this
  obtain ⟨a2, rfl, hd2, _, wf2⟩ := open_int Try.underlying3 (hval 2 3 v2 rfl rfl) h2
  obtain ⟨cs, rfl, _⟩ := okWide_struct Try.underlying40 (hval 0 _ v0 rfl rfl)
  obtain ⟨v, l, hp, hin, hz, _⟩ := open_disk (n := 0) (open_deep 10 h0 (sized_arg hsz 0 rfl rfl))
  obtain rfl : cs = #[v] := by simpa [Value.cells] using congrArg List.toArray hp
  exact (diskGone_ok v l a1 a2 W hin hz).mono close
theorem proved : Rows.DiskGoneSaid :=
  OpenClaim.holds_of_wide 8 Try.f8 rfl rfl rfl rfl rfl rfl rfl ⟨rfl, rfl, rfl, rfl, rfl⟩ rfl rfl rfl rfl rfl (by kernel_rfl) Try.func8 (by kernel_rfl)
    (of_decide_eq_true (by kernel_rfl)) (by unfold Func.isWrapper; first | (rw [if_pos (by decide +kernel)]; kernel_rfl) | (rw [if_neg (by decide +kernel)]; exact ⟨rfl, rfl⟩))
    (fun os started H enc _ => lifted os started H enc)
end diskGone
end Go.Proofs.Ytdfliajginlpiaa
