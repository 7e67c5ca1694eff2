/- The law DiskTorn is true for every input; no conditions. -/
import Derived.Test.YtdfliajginlpiaaDiskTorn1
namespace Go.Proofs.Ytdfliajginlpiaa
open Go.RowKit Go.ChangeShapes Go.WideShapes Go.ChangeAt
set_option maxHeartbeats 4000000 in
theorem diskTorn_ok (v : Value) (l : List File) (p s : ByteArray) (keep : Int) (w : World) (h : Sl cFile 3 w v l) (hz : ∀ x ∈ l, x.sized) (hp : p.size ≤ 9223372036854775807) (hs : s.size ≤ 140737488355328) (hl63 : l.length ≤ 140737488355328) :
    Calls Try.prog 5 #[.agg #[v], .string p, .string s, .int .i64 keep] w fun e w' => e = .returned (.bool true) ∧ Below w.heap.size w w' := by
  by_cases hwe : writeE l p s ≠ 0
  · exact diskTorn_no v l p s keep w h hz hp hs hl63 hwe
  have hwe : writeE l p s = 0 := by simpa using hwe
  obtain ⟨A, c, rfl, hc1, hc2⟩ := h.form
  obtain ⟨g1, g2, g3⟩ := write_ok hwe
  have hscan := scanF_all ((goodD_iff l).1 g1).2.2 p
  have hmem : (⟨p, (fileOr l p).safe, (fileOr l p).tail ++ s⟩ : File) ∈ writeL l p s := by
    rw [g2]
    exact (mem_putL ((goodD_iff _).1 g1).2.2 _ _).2 (.inl rfl)
  have hbz : (fileOr l p).safe.size + ((fileOr l p).tail.size + s.size) ≤ 1048576 := by
    have h1 : (fileOr l p).safe.size + ((fileOr l p).tail ++ s).size ≤ 1048576 := (goodD_sized g3 _ hmem).2
    have h2 : ((fileOr l p).tail ++ s).size = (fileOr l p).tail.size + s.size := ByteArray.size_append
    omega
  have hrd : ∀ f, readE ((writeL l p s).map (crashF f)) p = 0 ∧ readS ((writeL l p s).map (crashF f)) p = (fileOr l p).safe ++ ((fileOr l p).tail ++ s).extract 0 (min f ((fileOr l p).tail ++ s).size) := by
    intro f
    have h1 := crash_reads g3 f hmem
    exact h1
  have hlen : (writeL l p s).length ≤ 16 := goodD_len g3
  have H := Lib.hid h
  have HW := Lib.hid (fun (W : World) (v : Value) (h : Sl cFile 3 W v l) => by
    have h1 := dkWrite v l p s W h hz hp hs
    rw [hwe] at h1
    exact h1)
  obtain ⟨B, hB⟩ : ∃ B : Nat → List File, ∀ f, B f = (writeL l p s).map (crashF f) := ⟨_, fun _ => rfl⟩
  have hgB : ∀ f, goodD (B f) = true := fun f => by rw [hB]; exact crash_good g3 f
  have hBl : ∀ f, (B f).length ≤ 16 := fun f => by rw [hB, List.length_map]; exact hlen
  have hBB : ∀ f, (B f).map (crashF 0) = B f := fun f => by rw [hB]; exact crash_twice _ f 0
  have HC := Lib.hid (fun (W : World) (v : Value) (f : Nat) (h : Sl cFile 3 W v (writeL l p s)) => by
    have h1 := dkCrash v _ f W h (fun x hx => (goodD_sized g3 x hx).1)
    rw [(crash_is g3 f).1, (crash_is g3 f).2, ← hB f] at h1
    exact h1)
  have HC0 := Lib.hid (fun (W : World) (v : Value) (f : Nat) (h : Sl cFile 3 W v (B f)) => by
    have h1 := dkCrash v _ 0 W h (fun x hx => (goodD_sized (hgB f) x hx).1)
    have h2 := crash_is (hgB f) 0
    rw [show crashE (B f) 0 = 0 from h2.1, show crashL (B f) 0 = _ from h2.2, hBB f] at h1
    exact h1)
  have HM := Lib.hid (fun (W : World) (v v2 : Value) (f : Nat) (h : Sl cFile 3 W v (B f)) (h2 : Sl cFile 3 W v2 (B f)) => sameDisk_eq v v2 (B f) W h h2 (Nat.le_trans (hBl f) (by decide)))
  have HR := Lib.hid (fun (W : World) (v : Value) (f : Nat) (h : Sl cFile 3 W v (B f)) => by
    have h1 := dkRead v _ p W h (fun x hx => (goodD_sized (hgB f) x hx).1)
    rw [hB, (hrd f).1, (hrd f).2] at h1
    exact h1)
  have HS := Lib.hid stores_is
  have HP := Lib.hid (fun (W : World) => pick_is keep 600 W (by decide) (by decide))
  have HSC := Lib.hid hscan
  clear hscan hrd hB hBl hBB hgB hmem hlen g3 g2 g1 hwe
  generalize writeL l p s = a at *
  generalize fileOr l p = y at *
  obtain ⟨yn, ys, yt⟩ := y
  simp only at hbz HR
  clear h hz
  go_enter Try.func5, Try.ntmps5
  go_wp2_with (first | (go_at_call 16; refine (HP.out _).mono ?_; rintro e w1 ⟨f, hf, rfl, rfl⟩; skip))
  go_loopw [9, 10, 11] (fun s9 s10 i wr => ∃ (k : Nat) (ext : Array Obj) (d : Nat), k ≤ l.length ∧ i = .int .i64 k ∧ s9 = .string (scanF l p k).safe ∧ s10 = .string (scanF l p k).tail ∧ wr = grow (w.alloc (.cells #[.slice A l.length c] 40)) ext d) (fun _ _ i _ => l.length - (intOf i).toNat)
  case atStart => exact ⟨0, _, _, Nat.zero_le _, rfl, rfl, rfl, grown_of (by repeat (first | exact Below.refl _ _ | assumption | refine Below.drew ?_ | refine Below.drewN' ?_ _ | refine below_grow0 _ _ ?_ | refine below_alloc0 _ ?_ | refine Below.alloc ?_ (by first | omega | (simp; done) | (simp; omega)) _ | refine Below.setCell ?_ (by first | omega | (simp; done) | (simp; omega)) _ | refine Below.grow _ _ _ ?_ (by first | omega | (simp; done) | (simp; omega))))⟩
  case round =>
    obtain ⟨k, ext, d, hk, rfl, rfl, rfl, rfl⟩ := hrel
    by_cases hlt : k < l.length
    · have hx : l[k]? = some (l[k]'hlt) := List.getElem?_eq_getElem _
      have hsc : scanF l p (k + 1) = if (l[k]'hlt).name = p then (l[k]'hlt) else scanF l p k := by
        rw [scanF, hx]
      obtain ⟨b1, o1, rfl, _, x0, x1, x2⟩ := H.out.File_at hx
      generalize l[k]'hlt = x at *
      clear hx
      by_cases hn : x.name = p
      · rw [if_pos hn] at hsc
        rw [hn] at x0
        have HSC := Lib.hid hsc
        clear hsc hn
        go_wp2_with fail
        go_region
        go_wp2_with fail
        go_roundw
        case rel => exact ⟨k + 1, _, _, by omega, by go_num, by rw [HSC.out], by rw [HSC.out], grown_of (by repeat (first | exact Below.refl _ _ | assumption | refine Below.drew ?_ | refine Below.drewN' ?_ _ | refine below_grow0 _ _ ?_ | refine below_alloc0 _ ?_ | refine Below.alloc ?_ (by first | omega | (simp; done) | (simp; omega)) _ | refine Below.setCell ?_ (by first | omega | (simp; done) | (simp; omega)) _ | refine Below.grow _ _ _ ?_ (by first | omega | (simp; done) | (simp; omega))))⟩
        case measure => simp [intOf]; omega
      · rw [if_neg hn] at hsc
        have HSC := Lib.hid hsc
        have hne : (x.name.toList == p.toList) = false := beq_eq_false_iff_ne.2 (fun h => hn (bytes_inj h))
        clear hsc
        go_wp2_with fail
        go_roundw
        case rel => exact ⟨k + 1, _, _, by omega, by go_num, by rw [HSC.out], by rw [HSC.out], grown_of (by repeat (first | exact Below.refl _ _ | assumption | refine Below.drew ?_ | refine Below.drewN' ?_ _ | refine below_grow0 _ _ ?_ | refine below_alloc0 _ ?_ | refine Below.alloc ?_ (by first | omega | (simp; done) | (simp; omega)) _ | refine Below.setCell ?_ (by first | omega | (simp; done) | (simp; omega)) _ | refine Below.grow _ _ _ ?_ (by first | omega | (simp; done) | (simp; omega))))⟩
        case measure => simp [intOf]; omega
    · have hk' : k = l.length := by omega
      subst hk'
      rw [HSC.out]
      simp only
      have hts : (yt ++ s).size = yt.size + s.size := ByteArray.size_append
      have HTS := Lib.hid hts
      by_cases hgt : f < yt.size + s.size
      · have HR' := Lib.hid (fun (W : World) (v : Value) (h : Sl cFile 3 W v (B f)) => show Calls Try.prog 19 #[.agg #[v], .string p] W fun e w' => e = .returned (.tuple #[.string (ys ++ (yt ++ s).extract 0 f), .int .i64 0]) ∧ Below W.heap.size W w' from by
          have h1 := HR.out W v f h
          rw [hts, Nat.min_eq_left (by omega)] at h1
          exact h1)
        have hgi : (decide ((f : Int) < (yt.size : Int) + (s.size : Int))) = true := decide_eq_true (by omega)
        clear hts HR
        go_wp2_with (first | (go_at_call 18; refine (HW.out _ _ (H.out.below (by repeat (first | exact Below.refl _ _ | assumption | refine Below.drew ?_ | refine Below.drewN' ?_ _ | refine below_grow0 _ _ ?_ | refine below_alloc0 _ ?_ | refine Below.alloc ?_ (by first | omega | (simp; done) | (simp; omega)) _ | refine Below.setCell ?_ (by first | omega | (simp; done) | (simp; omega)) _ | refine Below.grow _ _ _ ?_ (by first | omega | (simp; done) | (simp; omega)))))).mono ?_; rintro e w1 ⟨A1, k1, rfl, ho1, hb2⟩; obtain ⟨ext2, d2, rfl⟩ := Below.grown_eq _ hb2; have HO1 := Lib.hid ho1.sl; clear ho1 hb2) | (go_at_call 15; refine (HS.out _).mono ?_; rintro e w1 ⟨rfl, hb3⟩; obtain ⟨ext3, d3, rfl⟩ := Below.grown_eq _ hb3; clear hb3) | (go_at_call 13; refine (HC.out _ _ _ (HO1.out.below (by repeat (first | exact Below.refl _ _ | assumption | refine Below.drew ?_ | refine Below.drewN' ?_ _ | refine below_grow0 _ _ ?_ | refine below_alloc0 _ ?_ | refine Below.alloc ?_ (by first | omega | (simp; done) | (simp; omega)) _ | refine Below.setCell ?_ (by first | omega | (simp; done) | (simp; omega)) _ | refine Below.grow _ _ _ ?_ (by first | omega | (simp; done) | (simp; omega)))))).mono ?_; rintro e w1 ⟨A2, k2, rfl, ho2, hb4⟩; obtain ⟨ext4, d4, rfl⟩ := Below.grown_eq _ hb4; have HO2 := Lib.hid ho2.sl; clear ho2 hb4 HC) | (go_at_call 19; refine (HR'.out _ _ (HO2.out.below (by repeat (first | exact Below.refl _ _ | assumption | refine Below.drew ?_ | refine Below.drewN' ?_ _ | refine below_grow0 _ _ ?_ | refine below_alloc0 _ ?_ | refine Below.alloc ?_ (by first | omega | (simp; done) | (simp; omega)) _ | refine Below.setCell ?_ (by first | omega | (simp; done) | (simp; omega)) _ | refine Below.grow _ _ _ ?_ (by first | omega | (simp; done) | (simp; omega)))))).mono ?_; rintro e w1 ⟨rfl, hb5⟩; obtain ⟨ext5, d5, rfl⟩ := Below.grown_eq _ hb5; clear hb5) | (go_at_call 13; refine (HC0.out _ _ _ (HO2.out.below (by repeat (first | exact Below.refl _ _ | assumption | refine Below.drew ?_ | refine Below.drewN' ?_ _ | refine below_grow0 _ _ ?_ | refine below_alloc0 _ ?_ | refine Below.alloc ?_ (by first | omega | (simp; done) | (simp; omega)) _ | refine Below.setCell ?_ (by first | omega | (simp; done) | (simp; omega)) _ | refine Below.grow _ _ _ ?_ (by first | omega | (simp; done) | (simp; omega)))))).mono ?_; rintro e w1 ⟨A3, k3, rfl, ho3, hb6⟩; obtain ⟨ext6, d6, rfl⟩ := Below.grown_eq _ hb6; have HO3 := Lib.hid ho3.sl; clear ho3 hb6 HC0) | (go_at_call 17; refine (HM.out _ _ _ _ (HO3.out.below (by repeat (first | exact Below.refl _ _ | assumption | refine Below.drew ?_ | refine Below.drewN' ?_ _ | refine below_grow0 _ _ ?_ | refine below_alloc0 _ ?_ | refine Below.alloc ?_ (by first | omega | (simp; done) | (simp; omega)) _ | refine Below.setCell ?_ (by first | omega | (simp; done) | (simp; omega)) _ | refine Below.grow _ _ _ ?_ (by first | omega | (simp; done) | (simp; omega))))) (HO2.out.below (by repeat (first | exact Below.refl _ _ | assumption | refine Below.drew ?_ | refine Below.drewN' ?_ _ | refine below_grow0 _ _ ?_ | refine below_alloc0 _ ?_ | refine Below.alloc ?_ (by first | omega | (simp; done) | (simp; omega)) _ | refine Below.setCell ?_ (by first | omega | (simp; done) | (simp; omega)) _ | refine Below.grow _ _ _ ?_ (by first | omega | (simp; done) | (simp; omega)))))).mono ?_; rintro e w1 ⟨rfl, hb7⟩; obtain ⟨ext9, d9, rfl⟩ := Below.grown_eq _ hb7; clear hb7))
        go_ret
        exact ⟨rfl, (by repeat (first | exact Below.refl _ _ | assumption | refine Below.drew ?_ | refine Below.drewN' ?_ _ | refine below_grow0 _ _ ?_ | refine below_alloc0 _ ?_ | refine Below.alloc ?_ (by first | omega | (simp; done) | (simp; omega)) _ | refine Below.setCell ?_ (by first | omega | (simp; done) | (simp; omega)) _ | refine Below.grow _ _ _ ?_ (by first | omega | (simp; done) | (simp; omega))))⟩
      · have HR' := Lib.hid (fun (W : World) (v : Value) (h : Sl cFile 3 W v (B f)) => show Calls Try.prog 19 #[.agg #[v], .string p] W fun e w' => e = .returned (.tuple #[.string (ys ++ (yt ++ s)), .int .i64 0]) ∧ Below W.heap.size W w' from by
          have h1 := HR.out W v f h
          rw [Nat.min_eq_right (by omega), ByteArray.extract_zero_size] at h1
          exact h1)
        have hgi : (decide ((f : Int) < (yt.size : Int) + (s.size : Int))) = false := decide_eq_false (by omega)
        clear hts HR
        go_wp2_with (first | (go_at_call 18; refine (HW.out _ _ (H.out.below (by repeat (first | exact Below.refl _ _ | assumption | refine Below.drew ?_ | refine Below.drewN' ?_ _ | refine below_grow0 _ _ ?_ | refine below_alloc0 _ ?_ | refine Below.alloc ?_ (by first | omega | (simp; done) | (simp; omega)) _ | refine Below.setCell ?_ (by first | omega | (simp; done) | (simp; omega)) _ | refine Below.grow _ _ _ ?_ (by first | omega | (simp; done) | (simp; omega)))))).mono ?_; rintro e w1 ⟨A1, k1, rfl, ho1, hb2⟩; obtain ⟨ext2, d2, rfl⟩ := Below.grown_eq _ hb2; have HO1 := Lib.hid ho1.sl; clear ho1 hb2) | (go_at_call 15; refine (HS.out _).mono ?_; rintro e w1 ⟨rfl, hb3⟩; obtain ⟨ext3, d3, rfl⟩ := Below.grown_eq _ hb3; clear hb3) | (go_at_call 13; refine (HC.out _ _ _ (HO1.out.below (by repeat (first | exact Below.refl _ _ | assumption | refine Below.drew ?_ | refine Below.drewN' ?_ _ | refine below_grow0 _ _ ?_ | refine below_alloc0 _ ?_ | refine Below.alloc ?_ (by first | omega | (simp; done) | (simp; omega)) _ | refine Below.setCell ?_ (by first | omega | (simp; done) | (simp; omega)) _ | refine Below.grow _ _ _ ?_ (by first | omega | (simp; done) | (simp; omega)))))).mono ?_; rintro e w1 ⟨A2, k2, rfl, ho2, hb4⟩; obtain ⟨ext4, d4, rfl⟩ := Below.grown_eq _ hb4; have HO2 := Lib.hid ho2.sl; clear ho2 hb4 HC) | (go_at_call 19; refine (HR'.out _ _ (HO2.out.below (by repeat (first | exact Below.refl _ _ | assumption | refine Below.drew ?_ | refine Below.drewN' ?_ _ | refine below_grow0 _ _ ?_ | refine below_alloc0 _ ?_ | refine Below.alloc ?_ (by first | omega | (simp; done) | (simp; omega)) _ | refine Below.setCell ?_ (by first | omega | (simp; done) | (simp; omega)) _ | refine Below.grow _ _ _ ?_ (by first | omega | (simp; done) | (simp; omega)))))).mono ?_; rintro e w1 ⟨rfl, hb5⟩; obtain ⟨ext5, d5, rfl⟩ := Below.grown_eq _ hb5; clear hb5) | (go_at_call 13; refine (HC0.out _ _ _ (HO2.out.below (by repeat (first | exact Below.refl _ _ | assumption | refine Below.drew ?_ | refine Below.drewN' ?_ _ | refine below_grow0 _ _ ?_ | refine below_alloc0 _ ?_ | refine Below.alloc ?_ (by first | omega | (simp; done) | (simp; omega)) _ | refine Below.setCell ?_ (by first | omega | (simp; done) | (simp; omega)) _ | refine Below.grow _ _ _ ?_ (by first | omega | (simp; done) | (simp; omega)))))).mono ?_; rintro e w1 ⟨A3, k3, rfl, ho3, hb6⟩; obtain ⟨ext6, d6, rfl⟩ := Below.grown_eq _ hb6; have HO3 := Lib.hid ho3.sl; clear ho3 hb6 HC0) | (go_at_call 17; refine (HM.out _ _ _ _ (HO3.out.below (by repeat (first | exact Below.refl _ _ | assumption | refine Below.drew ?_ | refine Below.drewN' ?_ _ | refine below_grow0 _ _ ?_ | refine below_alloc0 _ ?_ | refine Below.alloc ?_ (by first | omega | (simp; done) | (simp; omega)) _ | refine Below.setCell ?_ (by first | omega | (simp; done) | (simp; omega)) _ | refine Below.grow _ _ _ ?_ (by first | omega | (simp; done) | (simp; omega))))) (HO2.out.below (by repeat (first | exact Below.refl _ _ | assumption | refine Below.drew ?_ | refine Below.drewN' ?_ _ | refine below_grow0 _ _ ?_ | refine below_alloc0 _ ?_ | refine Below.alloc ?_ (by first | omega | (simp; done) | (simp; omega)) _ | refine Below.setCell ?_ (by first | omega | (simp; done) | (simp; omega)) _ | refine Below.grow _ _ _ ?_ (by first | omega | (simp; done) | (simp; omega)))))).mono ?_; rintro e w1 ⟨rfl, hb7⟩; obtain ⟨ext9, d9, rfl⟩ := Below.grown_eq _ hb7; clear hb7))
        go_ret
        exact ⟨rfl, (by repeat (first | exact Below.refl _ _ | assumption | refine Below.drew ?_ | refine Below.drewN' ?_ _ | refine below_grow0 _ _ ?_ | refine below_alloc0 _ ?_ | refine Below.alloc ?_ (by first | omega | (simp; done) | (simp; omega)) _ | refine Below.setCell ?_ (by first | omega | (simp; done) | (simp; omega)) _ | refine Below.grow _ _ _ ?_ (by first | omega | (simp; done) | (simp; omega))))⟩
namespace diskTorn
theorem own : ownKnob Try.prog.godebug = none := by kernel_rfl
theorem laidOut : laidOutB Try.prog = true := by kernel_rfl
set_option maxRecDepth 100000 in
set_option maxHeartbeats 1000000 in
theorem lifted (os : Os) (started : os.Started) (H : Type) (enc : TypeId × Value → H) :
    ReturnsInHanded {} Try.checked os 5 .any (Rows.diskTornSpec.pre6 enc Try.prog Try.f5 Rows.diskTornRow.domain false) (Rows.diskTornSpec.post enc Try.prog Try.f5 false true false false) := by
  refine returnsInHanded_of_change_sized (C := Try.checked) own started (by kernel_rfl) Try.func5
    (ChangeSpec.witness6 (enc := enc) (C := Try.checked) false ⟨#[], #[.agg #[.slice none 0 0], .string ByteArray.empty, .string ByteArray.empty, .int .i64 0], []⟩ 8 (by kernel_rfl) (by kernel_rfl) (by kernel_rfl) (by kernel_rfl)) ?_
  intro W base args ds gs before hval0 hW0 _ hsz0 _
  have hval : ∀ (j : Nat) t v, Try.f5.params[j]? = some t → args[j]? = some v → Value.okWide Try.prog W .any base t v := hval0
  have hW : DataW.Whole enc Try.prog Try.f5.params.toList Rows.diskTornSpec.vars false W args.toList ds gs before := hW0
  have hlt : ∀ p ∈ before, p.block < W.heap.size := fun p hp => hW.lt p hp
  have hW1 := hW
  obtain ⟨p, q, hA0, hV, rfl, hfz, hnd⟩ := hW1
  have hA : DataW.TrodAll enc Try.prog W 0 (fun _ => true) true Try.f5.params.toList args.toList ds p := hA0
  obtain ⟨rfl, rfl⟩ := trodVars_none hV
  rw [Try.params5] at hA hval
  obtain ⟨v0, vs0, d0, ds0, p0, q0, hargs, rfl, rfl, h0, r0⟩ := trodAll_cons hA
  obtain ⟨v1, vs1, d1, ds1, p1, q1, rfl, rfl, rfl, h1, r1⟩ := trodAll_cons r0
  obtain ⟨v2, vs2, d2, ds2, p2, q2, rfl, rfl, rfl, h2, r2⟩ := trodAll_cons r1
  obtain ⟨v3, vs3, d3, ds3, p3, q3, rfl, rfl, rfl, h3, r3⟩ := trodAll_cons r2
  obtain ⟨rfl, rfl, rfl⟩ := trodAll_nil r3
  obtain rfl : args = #[v0, v1, v2, v3] := by cases args; simp_all
  have hsz : (DataW.weightsEach Try.prog [40, 9, 9, 3] [d0, d1, d2, d3]).all (· ≤ reachBytes) = true := hsz0
  have close : ∀ e W', (e = Ending.returned (.bool true) ∧ Below W.heap.size W W') → ∃ v, e = .returned v ∧ Rows.diskTornSpec.post enc Try.prog Try.f5 false true false false W #[v0, v1, v2, v3] v W' :=
    fun e W' ⟨he, hb⟩ => ⟨_, he, law_post laidOut (of_decide_eq_true (by kernel_rfl)) rfl rfl Try.underlying4 hW rfl hb⟩
  clear hA0 hsz0 hval0 hW0 hA hV hW hfz hnd
  obtain ⟨a1, rfl, hd1, _, wf1⟩ := Go.ChangeMaps.open_string Try.underlying9 (hval 1 9 v1 rfl rfl) h1
  have rb1 : a1.size ≤ 140737488351232 := by subst hd1; have := sized_string hsz (j := 1) rfl rfl; simpa [reachBytes] using this
  obtain ⟨a2, rfl, hd2, _, wf2⟩ := Go.ChangeMaps.open_string Try.underlying9 (hval 2 9 v2 rfl rfl) h2
  have rb2 : a2.size ≤ 140737488351232 := by subst hd2; have := sized_string hsz (j := 2) rfl rfl; simpa [reachBytes] using this
  obtain ⟨a3, rfl, hd3, _, wf3⟩ := open_int Try.underlying3 (hval 3 3 v3 rfl rfl) h3
  obtain ⟨cs, rfl, _⟩ := okWide_struct Try.underlying40 (hval 0 _ v0 rfl rfl)
  obtain ⟨v, l, hp, hin, hz, hn⟩ := open_disk (n := 0) (open_deep 10 h0 (sized_arg hsz 0 rfl rfl))
  obtain rfl : cs = #[v] := by simpa [Value.cells] using congrArg List.toArray hp
  exact (diskTorn_ok v l a1 a2 a3 W hin hz (by omega) (by omega) (by omega)).mono close
theorem proved : Rows.DiskTornSaid :=
  OpenClaim.holds_of_wide 5 Try.f5 rfl rfl rfl rfl rfl rfl rfl ⟨rfl, rfl, rfl, rfl, rfl⟩ rfl rfl rfl rfl rfl (by kernel_rfl) Try.func5 (by kernel_rfl)
    (of_decide_eq_true (by kernel_rfl)) (by unfold Func.isWrapper; first | (rw [if_pos (by decide +kernel)]; kernel_rfl) | (rw [if_neg (by decide +kernel)]; exact ⟨rfl, rfl⟩))
    (fun os started H enc _ => lifted os started H enc)
end diskTorn
end Go.Proofs.Ytdfliajginlpiaa
