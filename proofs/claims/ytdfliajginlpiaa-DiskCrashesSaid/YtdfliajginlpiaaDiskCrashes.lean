/- The law DiskCrashes is true for every input; no conditions. -/
import Derived.Test.YtdfliajginlpiaaDiskArg
import Derived.Deep.RegionHeld3
namespace Go.Proofs.Ytdfliajginlpiaa
open Go.RowKit Go.ChangeShapes Go.WideShapes Go.ChangeAt
set_option maxHeartbeats 1000000 in
theorem diskCrashes_no (v : Value) (l : List File) (a b : Int) (w : World) (h : Sl cFile 3 w v l) (hz : ∀ x ∈ l, x.sized) (hn : l.length * 48 ≤ 140737488355328) (hce : crashE l a ≠ 0) :
    Calls Try.prog 4 #[.agg #[v], .int .i64 a, .int .i64 b] w fun e w' => e = .returned (.bool true) ∧ Below w.heap.size w w' := by
  obtain ⟨A, c, rfl, hc1, hc2⟩ := h.form
  have H := Lib.hid h
  have HL := Lib.hid (fun (W : World) (v : Value) (h : Sl cFile 3 W v l) => lawCopied v l W h hn)
  have HC := Lib.hid (fun (W : World) (v : Value) (h : Sl cFile 3 W v l) => by
    have h1 := dkCrash v l a W h hz
    rw [crash_not hce] at h1
    exact h1)
  have HS := Lib.hid stores_is
  generalize crashE l a = code at *
  have h1 : (code != 0) = true := by simpa using hce
  clear h hz hce hn
  go_enter Try.func4, Try.ntmps4
  go_wp2_with (first | (go_at_call 14; refine (HL.out _ _ (H.out.below (by repeat (first | exact Below.refl _ _ | assumption | refine Below.drew ?_ | refine Below.drewN' ?_ _ | refine below_grow0 _ _ ?_ | refine below_alloc0 _ ?_ | refine Below.alloc ?_ (by first | omega | (simp; done) | (simp; omega)) _ | refine Below.setCell ?_ (by first | omega | (simp; done) | (simp; omega)) _ | refine Below.grow _ _ _ ?_ (by first | omega | (simp; done) | (simp; omega)))))).mono ?_; rintro e w1 ⟨A1, k1, rfl, ho1, hb1⟩; obtain ⟨ext1, d1, rfl⟩ := Below.grown_eq _ hb1; have HO1 := Lib.hid ho1.sl; clear ho1 hb1) | (go_at_call 13; refine (HC.out _ _ (HO1.out.below (by repeat (first | exact Below.refl _ _ | assumption | refine Below.drew ?_ | refine Below.drewN' ?_ _ | refine below_grow0 _ _ ?_ | refine below_alloc0 _ ?_ | refine Below.alloc ?_ (by first | omega | (simp; done) | (simp; omega)) _ | refine Below.setCell ?_ (by first | omega | (simp; done) | (simp; omega)) _ | refine Below.grow _ _ _ ?_ (by first | omega | (simp; done) | (simp; omega)))))).mono ?_; rintro e w1 ⟨A2, k2, rfl, ho2, hb2⟩; obtain ⟨ext2, d2, rfl⟩ := Below.grown_eq _ hb2; clear ho2 hb2; simp only [List.length_nil]) | (go_at_call 15; refine (HS.out _).mono ?_; rintro e w1 ⟨rfl, hb4⟩; obtain ⟨ext4, d4, rfl⟩ := Below.grown_eq _ hb4; clear hb4))
  go_ret
  exact ⟨rfl, (by repeat (first | exact Below.refl _ _ | assumption | refine Below.drew ?_ | refine Below.drewN' ?_ _ | refine below_grow0 _ _ ?_ | refine below_alloc0 _ ?_ | refine Below.alloc ?_ (by first | omega | (simp; done) | (simp; omega)) _ | refine Below.setCell ?_ (by first | omega | (simp; done) | (simp; omega)) _ | refine Below.grow _ _ _ ?_ (by first | omega | (simp; done) | (simp; omega))))⟩
set_option maxHeartbeats 4000000 in
theorem diskCrashes_ok (v : Value) (l : List File) (a b : Int) (w : World) (h : Sl cFile 3 w v l) (hz : ∀ x ∈ l, x.sized) (hn : l.length * 48 ≤ 140737488355328) :
    Calls Try.prog 4 #[.agg #[v], .int .i64 a, .int .i64 b] w fun e w' => e = .returned (.bool true) ∧ Below w.heap.size w w' := by
  by_cases hce : crashE l a ≠ 0
  · exact diskCrashes_no v l a b w h hz hn hce
  have hce : crashE l a = 0 := by simpa using hce
  obtain ⟨A, c, rfl, hc1, hc2⟩ := h.form
  obtain ⟨g1, n0, g2⟩ := crash_ok hce
  obtain ⟨m, rfl⟩ := Int.eq_ofNat_of_zero_le n0
  have h16 := goodD_len g1
  have hgx := crash_good g1 m
  have hn16 : l.length * 48 ≤ 140737488355328 := hn
  rw [Int.toNat_natCast] at g2
  obtain ⟨X, hX⟩ : ∃ X : List File, X = l.map (crashF m) := ⟨_, rfl⟩
  have hXl : X.length = l.length := by rw [hX, List.length_map]
  have hXX : ∀ n, X.map (crashF n) = X := fun n => by rw [hX]; exact crash_twice l m n
  have H := Lib.hid h
  have HL := Lib.hid (fun (W : World) (v : Value) (h : Sl cFile 3 W v l) => lawCopied v l W h hn)
  have HL2 := Lib.hid (fun (W : World) (v : Value) (h : Sl cFile 3 W v X) => lawCopied v X W h (by rw [hXl]; exact hn))
  have HC := Lib.hid (fun (W : World) (v : Value) (h : Sl cFile 3 W v l) => by
    have h1 := dkCrash v l m W h hz
    rw [hce, g2, ← hX] at h1
    exact h1)
  have HC2 := Lib.hid (fun (W : World) (v : Value) (n : Nat) (h : Sl cFile 3 W v X) => by
    have h1 := dkCrash v X n W h (fun x hx => (goodD_sized hgx x (by rw [← hX]; exact hx)).1)
    rw [(crash_is (by rw [hX]; exact hgx) n).1, (crash_is (by rw [hX]; exact hgx) n).2, hXX n] at h1
    exact h1)
  have HM := Lib.hid (fun (W : World) (v v2 : Value) (h : Sl cFile 3 W v X) (h2 : Sl cFile 3 W v2 X) => sameDisk_eq v v2 X W h h2 (by omega))
  have HAT := Lib.hid (fun (k : Nat) (x : File) (hx : l[k]? = some x) => show X[k]? = some (crashF m x) from by rw [hX, List.getElem?_map, hx]; rfl)
  have HZ := Lib.hid (fun x hx => goodD_sized g1 x hx)
  have HP := Lib.hid (fun (W : World) => pick_is b 1000 W (by decide) (by decide))
  have HS := Lib.hid stores_is
  have HXL := Lib.hid hXl
  have HXI := Lib.hid (show ((X.length : Int) == (l.length : Int)) = true by rw [hXl]; exact beq_self_eq_true _)
  have hx16 : X.length ≤ 16 := by omega
  clear hgx hXX hce g2 hX n0 g1 hn hn16 hXl
  clear h hz
  go_enter Try.func4, Try.ntmps4
  go_wp2_with (first | (go_at_call 14; refine (HL.out _ _ (H.out.below (by repeat (first | exact Below.refl _ _ | assumption | refine Below.drew ?_ | refine Below.drewN' ?_ _ | refine below_grow0 _ _ ?_ | refine below_alloc0 _ ?_ | refine Below.alloc ?_ (by first | omega | (simp; done) | (simp; omega)) _ | refine Below.setCell ?_ (by first | omega | (simp; done) | (simp; omega)) _ | refine Below.grow _ _ _ ?_ (by first | omega | (simp; done) | (simp; omega)))))).mono ?_; rintro e w1 ⟨A1, k1, rfl, ho1, hb1⟩; obtain ⟨ext1, d1, rfl⟩ := Below.grown_eq _ hb1; have HO1 := Lib.hid ho1.sl; clear ho1 hb1 HL) | (go_at_call 13; refine (HC.out _ _ (HO1.out.below (by repeat (first | exact Below.refl _ _ | assumption | refine Below.drew ?_ | refine Below.drewN' ?_ _ | refine below_grow0 _ _ ?_ | refine below_alloc0 _ ?_ | refine Below.alloc ?_ (by first | omega | (simp; done) | (simp; omega)) _ | refine Below.setCell ?_ (by first | omega | (simp; done) | (simp; omega)) _ | refine Below.grow _ _ _ ?_ (by first | omega | (simp; done) | (simp; omega)))))).mono ?_; rintro e w1 ⟨A2, k2, rfl, ho2, hb2⟩; obtain ⟨ext2, d2, rfl⟩ := Below.grown_eq _ hb2; have HO2 := Lib.hid ho2.sl; clear ho2 hb2 HC) | (go_at_call 15; refine (HS.out _).mono ?_; rintro e w1 ⟨rfl, hb4⟩; obtain ⟨ext4, d4, rfl⟩ := Below.grown_eq _ hb4; clear hb4) | (go_at_call 14; refine (HL2.out _ _ (HO2.out.below (by repeat (first | exact Below.refl _ _ | assumption | refine Below.drew ?_ | refine Below.drewN' ?_ _ | refine below_grow0 _ _ ?_ | refine below_alloc0 _ ?_ | refine Below.alloc ?_ (by first | omega | (simp; done) | (simp; omega)) _ | refine Below.setCell ?_ (by first | omega | (simp; done) | (simp; omega)) _ | refine Below.grow _ _ _ ?_ (by first | omega | (simp; done) | (simp; omega)))))).mono ?_; rintro e w1 ⟨A3, k3, rfl, ho3, hb3⟩; obtain ⟨ext5, d5, rfl⟩ := Below.grown_eq _ hb3; have HO3 := Lib.hid ho3.sl; clear ho3 hb3 HL2) | (go_at_call 16; refine (HP.out _).mono ?_; rintro e w1 ⟨f, hf, rfl, rfl⟩; skip) | (go_at_call 13; refine (HC2.out _ _ _ (HO3.out.below (by repeat (first | exact Below.refl _ _ | assumption | refine Below.drew ?_ | refine Below.drewN' ?_ _ | refine below_grow0 _ _ ?_ | refine below_alloc0 _ ?_ | refine Below.alloc ?_ (by first | omega | (simp; done) | (simp; omega)) _ | refine Below.setCell ?_ (by first | omega | (simp; done) | (simp; omega)) _ | refine Below.grow _ _ _ ?_ (by first | omega | (simp; done) | (simp; omega)))))).mono ?_; rintro e w1 ⟨A4, k4, rfl, ho4, hb5⟩; obtain ⟨ext6, d6, rfl⟩ := Below.grown_eq _ hb5; have HO4 := Lib.hid ho4.sl; clear ho4 hb5 HC2))
  have j1 : ((grow (grow (grow ((grow (grow (w.alloc (.cells #[.slice A l.length c] 40)) ext1 d1) ext2 d2).alloc (.cells #[.slice A2 X.length k2] 40)) ext4 d4) ext5 d5) ext6 d6).alloc (.cells #[.slice A4 X.length k4] 40)).cell? ⟨w.heap.size, 0, none⟩ = some (.slice A l.length c) := by go_simp
  have j2 : ((grow (grow (grow ((grow (grow (w.alloc (.cells #[.slice A l.length c] 40)) ext1 d1) ext2 d2).alloc (.cells #[.slice A2 X.length k2] 40)) ext4 d4) ext5 d5) ext6 d6).alloc (.cells #[.slice A4 X.length k4] 40)).cell? ⟨w.heap.size + 1 + ext1.size + ext2.size, 0, none⟩ = some (.slice A2 X.length k2) := by go_simp
  have j3 : ((grow (grow (grow ((grow (grow (w.alloc (.cells #[.slice A l.length c] 40)) ext1 d1) ext2 d2).alloc (.cells #[.slice A2 X.length k2] 40)) ext4 d4) ext5 d5) ext6 d6).alloc (.cells #[.slice A4 X.length k4] 40)).cell? ⟨w.heap.size + 1 + ext1.size + ext2.size + 1 + ext4.size + ext5.size + ext6.size, 0, none⟩ = some (.slice A4 X.length k4) := by go_simp
  have HB0 := Lib.hid (show Below w.heap.size w ((grow (grow (grow ((grow (grow (w.alloc (.cells #[.slice A l.length c] 40)) ext1 d1) ext2 d2).alloc (.cells #[.slice A2 X.length k2] 40)) ext4 d4) ext5 d5) ext6 d6).alloc (.cells #[.slice A4 X.length k4] 40)) from (by repeat (first | exact Below.refl _ _ | assumption | refine Below.drew ?_ | refine Below.drewN' ?_ _ | refine below_grow0 _ _ ?_ | refine below_alloc0 _ ?_ | refine Below.alloc ?_ (by first | omega | (simp; done) | (simp; omega)) _ | refine Below.setCell ?_ (by first | omega | (simp; done) | (simp; omega)) _ | refine Below.grow _ _ _ ?_ (by first | omega | (simp; done) | (simp; omega)))))
  have H0 := Lib.hid (show Sl cFile 3 ((grow (grow (grow ((grow (grow (w.alloc (.cells #[.slice A l.length c] 40)) ext1 d1) ext2 d2).alloc (.cells #[.slice A2 X.length k2] 40)) ext4 d4) ext5 d5) ext6 d6).alloc (.cells #[.slice A4 X.length k4] 40)) (.slice A l.length c) l from H.out.below (by repeat (first | exact Below.refl _ _ | assumption | refine Below.drew ?_ | refine Below.drewN' ?_ _ | refine below_grow0 _ _ ?_ | refine below_alloc0 _ ?_ | refine Below.alloc ?_ (by first | omega | (simp; done) | (simp; omega)) _ | refine Below.setCell ?_ (by first | omega | (simp; done) | (simp; omega)) _ | refine Below.grow _ _ _ ?_ (by first | omega | (simp; done) | (simp; omega)))))
  have H2 := Lib.hid (show Sl cFile 3 ((grow (grow (grow ((grow (grow (w.alloc (.cells #[.slice A l.length c] 40)) ext1 d1) ext2 d2).alloc (.cells #[.slice A2 X.length k2] 40)) ext4 d4) ext5 d5) ext6 d6).alloc (.cells #[.slice A4 X.length k4] 40)) (.slice A2 X.length k2) X from HO2.out.below (by repeat (first | exact Below.refl _ _ | assumption | refine Below.drew ?_ | refine Below.drewN' ?_ _ | refine below_grow0 _ _ ?_ | refine below_alloc0 _ ?_ | refine Below.alloc ?_ (by first | omega | (simp; done) | (simp; omega)) _ | refine Below.setCell ?_ (by first | omega | (simp; done) | (simp; omega)) _ | refine Below.grow _ _ _ ?_ (by first | omega | (simp; done) | (simp; omega)))))
  have H4 := Lib.hid (show Sl cFile 3 ((grow (grow (grow ((grow (grow (w.alloc (.cells #[.slice A l.length c] 40)) ext1 d1) ext2 d2).alloc (.cells #[.slice A2 X.length k2] 40)) ext4 d4) ext5 d5) ext6 d6).alloc (.cells #[.slice A4 X.length k4] 40)) (.slice A4 X.length k4) X from HO4.out.below (by repeat (first | exact Below.refl _ _ | assumption | refine Below.drew ?_ | refine Below.drewN' ?_ _ | refine below_grow0 _ _ ?_ | refine below_alloc0 _ ?_ | refine Below.alloc ?_ (by first | omega | (simp; done) | (simp; omega)) _ | refine Below.setCell ?_ (by first | omega | (simp; done) | (simp; omega)) _ | refine Below.grow _ _ _ ?_ (by first | omega | (simp; done) | (simp; omega)))))
  generalize ((grow (grow (grow ((grow (grow (w.alloc (.cells #[.slice A l.length c] 40)) ext1 d1) ext2 d2).alloc (.cells #[.slice A2 X.length k2] 40)) ext4 d4) ext5 d5) ext6 d6).alloc (.cells #[.slice A4 X.length k4] 40)) = W0 at *
  generalize w.heap.size + 1 + ext1.size + ext2.size + 1 + ext4.size + ext5.size + ext6.size = bY at *
  generalize w.heap.size + 1 + ext1.size + ext2.size = bX at *
  clear H HO1 HO2 HO3 HO4
  go_loopw [11] (fun i wr => ∃ (k : Nat) (ext : Array Obj) (d : Nat), k ≤ X.length ∧ i = .int .i64 k ∧ wr = grow W0 ext d) (fun i _ => X.length - (intOf i).toNat)
  case atStart => exact ⟨0, _, _, Nat.zero_le _, rfl, grown_of (by repeat (first | exact Below.refl _ _ | assumption | refine Below.drew ?_ | refine Below.drewN' ?_ _ | refine below_grow0 _ _ ?_ | refine below_alloc0 _ ?_ | refine Below.alloc ?_ (by first | omega | (simp; done) | (simp; omega)) _ | refine Below.setCell ?_ (by first | omega | (simp; done) | (simp; omega)) _ | refine Below.grow _ _ _ ?_ (by first | omega | (simp; done) | (simp; omega))))⟩
  case round =>
    obtain ⟨k, ext, d, hk, rfl, rfl⟩ := hrel
    by_cases hlt : k < X.length
    · have hx : l[k]? = some (l[k]'(by have := HXL.out; omega)) := List.getElem?_eq_getElem _
      have hy := HAT.out k _ hx
      generalize l[k]'(by have := HXL.out; omega) = x at *
      obtain ⟨⟨z0, z1, z2⟩, z3⟩ := HZ.out x (List.mem_of_getElem? hx)
      obtain ⟨b1, o1, rfl, _, x0, x1, x2⟩ := H0.out.File_at hx
      obtain ⟨b2, o2, rfl, _, y0, y1, y2⟩ := H2.out.File_at hy
      have hs1 : ((crashF m x).safe.extract 0 x.safe.size) = x.safe := ByteArray.extract_append_eq_left rfl
      have hsz : (crashF m x).safe.size = x.safe.size + (min m x.tail.size) := by
        show (x.safe ++ x.tail.extract 0 (min m x.tail.size)).size = _
        rw [ByteArray.size_append, ByteArray.size_extract]
        omega
      replace y0 : W0.cell? ⟨b2, o2 + k * 3, none⟩ = some (.string x.name) := y0
      replace y2 : W0.cell? ⟨b2, o2 + k * 3 + 2, none⟩ = some (.string ⟨#[]⟩) := y2
      generalize (crashF m x).safe = sf at *
      have hs2 : (decide ((sf.size : Int) < (x.safe.size : Int))) = false := decide_eq_false (by omega)
      have hkl : k < l.length := (List.getElem?_eq_some_iff.1 hx).1
      have hsb : x.safe.size ≤ sf.size := by omega
      have hsc : sf.size ≤ 1048576 := by omega
      clear hx hy hsz
      go_wp2_with fail
      go_quiet (fail)
      go_wp2_with fail
      go_roundw
      case rel => exact ⟨k + 1, _, _, by omega, by go_num, grown_of (by repeat (first | exact Below.refl _ _ | assumption | refine Below.drew ?_ | refine Below.drewN' ?_ _ | refine below_grow0 _ _ ?_ | refine below_alloc0 _ ?_ | refine Below.alloc ?_ (by first | omega | (simp; done) | (simp; omega)) _ | refine Below.setCell ?_ (by first | omega | (simp; done) | (simp; omega)) _ | refine Below.grow _ _ _ ?_ (by first | omega | (simp; done) | (simp; omega))))⟩
      case measure => simp [intOf]; omega
    · have hk' : k = X.length := by omega
      subst hk'
      have hxi := HXI.out
      go_wp2_with (first | (go_at_call 17; refine (HM.out _ _ _ (H2.out.below (by repeat (first | exact Below.refl _ _ | assumption | refine Below.drew ?_ | refine Below.drewN' ?_ _ | refine below_grow0 _ _ ?_ | refine below_alloc0 _ ?_ | refine Below.alloc ?_ (by first | omega | (simp; done) | (simp; omega)) _ | refine Below.setCell ?_ (by first | omega | (simp; done) | (simp; omega)) _ | refine Below.grow _ _ _ ?_ (by first | omega | (simp; done) | (simp; omega))))) (H4.out.below (by repeat (first | exact Below.refl _ _ | assumption | refine Below.drew ?_ | refine Below.drewN' ?_ _ | refine below_grow0 _ _ ?_ | refine below_alloc0 _ ?_ | refine Below.alloc ?_ (by first | omega | (simp; done) | (simp; omega)) _ | refine Below.setCell ?_ (by first | omega | (simp; done) | (simp; omega)) _ | refine Below.grow _ _ _ ?_ (by first | omega | (simp; done) | (simp; omega)))))).mono ?_; rintro e w1 ⟨rfl, hb7⟩; obtain ⟨ext9, d9, rfl⟩ := Below.grown_eq _ hb7; clear hb7))
      go_ret
      exact ⟨rfl, (by repeat (first | exact Below.refl _ _ | assumption | refine Below.drew ?_ | refine Below.drewN' ?_ _ | refine below_grow0 _ _ ?_ | refine below_alloc0 _ ?_ | refine Below.alloc ?_ (by first | omega | (simp; done) | (simp; omega)) _ | refine Below.setCell ?_ (by first | omega | (simp; done) | (simp; omega)) _ | refine Below.grow _ _ _ ?_ (by first | omega | (simp; done) | (simp; omega))))⟩
namespace diskCrashes
theorem own : ownKnob Try.prog.godebug = none := by kernel_rfl
theorem laidOut : laidOutB Try.prog = true := by kernel_rfl
set_option maxRecDepth 100000 in
set_option maxHeartbeats 1000000 in
theorem lifted (os : Os) (started : os.Started) (H : Type) (enc : TypeId × Value → H) :
    ReturnsInHanded {} Try.checked os 4 .any (Rows.diskCrashesSpec.pre6 enc Try.prog Try.f4 Rows.diskCrashesRow.domain false) (Rows.diskCrashesSpec.post enc Try.prog Try.f4 false true false false) := by
  refine returnsInHanded_of_change_sized (C := Try.checked) own started (by kernel_rfl) Try.func4
    (ChangeSpec.witness6 (enc := enc) (C := Try.checked) false ⟨#[], #[.agg #[.slice none 0 0], .int .i64 0, .int .i64 0], []⟩ 8 (by kernel_rfl) (by kernel_rfl) (by kernel_rfl) (by kernel_rfl)) ?_
  intro W base args ds gs before hval0 hW0 _ hsz0 _
  have hval : ∀ (j : Nat) t v, Try.f4.params[j]? = some t → args[j]? = some v → Value.okWide Try.prog W .any base t v := hval0
  have hW : DataW.Whole enc Try.prog Try.f4.params.toList Rows.diskCrashesSpec.vars false W args.toList ds gs before := hW0
  have hlt : ∀ p ∈ before, p.block < W.heap.size := fun p hp => hW.lt p hp
  have hW1 := hW
  obtain ⟨p, q, hA0, hV, rfl, hfz, hnd⟩ := hW1
  have hA : DataW.TrodAll enc Try.prog W 0 (fun _ => true) true Try.f4.params.toList args.toList ds p := hA0
  obtain ⟨rfl, rfl⟩ := trodVars_none hV
  rw [Try.params4] at hA hval
  obtain ⟨v0, vs0, d0, ds0, p0, q0, hargs, rfl, rfl, h0, r0⟩ := trodAll_cons hA
  obtain ⟨v1, vs1, d1, ds1, p1, q1, rfl, rfl, rfl, h1, r1⟩ := trodAll_cons r0
  obtain ⟨v2, vs2, d2, ds2, p2, q2, rfl, rfl, rfl, h2, r2⟩ := trodAll_cons r1
  obtain ⟨rfl, rfl, rfl⟩ := trodAll_nil r2
  obtain rfl : args = #[v0, v1, v2] := by cases args; simp_all
  have hsz : (DataW.weightsEach Try.prog [40, 3, 3] [d0, d1, d2]).all (· ≤ reachBytes) = true := hsz0
  have close : ∀ e W', (e = Ending.returned (.bool true) ∧ Below W.heap.size W W') → ∃ v, e = .returned v ∧ Rows.diskCrashesSpec.post enc Try.prog Try.f4 false true false false W #[v0, v1, v2] v W' :=
    fun e W' ⟨he, hb⟩ => ⟨_, he, law_post laidOut (of_decide_eq_true (by kernel_rfl)) rfl rfl Try.underlying4 hW rfl hb⟩
  clear hA0 hsz0 hval0 hW0 hA hV hW hfz hnd
  obtain ⟨a1, rfl, hd1, _, wf1⟩ := open_int Try.underlying3 (hval 1 3 v1 rfl rfl) h1
  obtain ⟨a2, rfl, hd2, _, wf2⟩ := open_int Try.underlying3 (hval 2 3 v2 rfl rfl) h2
  obtain ⟨cs, rfl, _⟩ := okWide_struct Try.underlying40 (hval 0 _ v0 rfl rfl)
  obtain ⟨v, l, hp, hin, hz, hn⟩ := open_disk (n := 0) (open_deep 10 h0 (sized_arg hsz 0 rfl rfl))
  obtain rfl : cs = #[v] := by simpa [Value.cells] using congrArg List.toArray hp
  exact (diskCrashes_ok v l a1 a2 W hin hz hn).mono close
theorem proved : Rows.DiskCrashesSaid :=
  OpenClaim.holds_of_wide 4 Try.f4 rfl rfl rfl rfl rfl rfl rfl ⟨rfl, rfl, rfl, rfl, rfl⟩ rfl rfl rfl rfl rfl (by kernel_rfl) Try.func4 (by kernel_rfl)
    (of_decide_eq_true (by kernel_rfl)) (by unfold Func.isWrapper; first | (rw [if_pos (by decide +kernel)]; kernel_rfl) | (rw [if_neg (by decide +kernel)]; exact ⟨rfl, rfl⟩))
    (fun os started H enc _ => lifted os started H enc)
end diskCrashes
end Go.Proofs.Ytdfliajginlpiaa
