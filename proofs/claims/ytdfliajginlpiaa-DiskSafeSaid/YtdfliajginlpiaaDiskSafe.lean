/- The law DiskSafe is true for every input; no conditions. -/
import Derived.Test.YtdfliajginlpiaaDiskArg
import Derived.Deep.RegionHeld3
namespace Go.Proofs.Ytdfliajginlpiaa
open Go.RowKit Go.ChangeShapes Go.WideShapes Go.ChangeAt
set_option maxHeartbeats 1000000 in
theorem diskSafe_no (v : Value) (l : List File) (p s : ByteArray) (keep : Int) (w : World) (h : Sl cFile 3 w v l) (hz : ∀ x ∈ l, x.sized) (hp : p.size ≤ 9223372036854775807) (hs : s.size ≤ 140737488355328) (hwe : writeE l p s ≠ 0) :
    Calls Try.prog 6 #[.agg #[v], .string p, .string s, .int .i64 keep] w fun e w' => e = .returned (.bool true) ∧ Below w.heap.size w w' := by
  obtain ⟨A, c, rfl, hc1, hc2⟩ := h.form
  have H := Lib.hid h
  have HR0 := Lib.hid (fun (W : World) (v : Value) (h : Sl cFile 3 W v l) => dkRead v l p W h hz)
  have HW := Lib.hid (fun (W : World) (v : Value) (h : Sl cFile 3 W v l) => by
    have h1 := dkWrite v l p s W h hz hp hs
    rw [write_not hwe] at h1
    exact h1)
  have HS := Lib.hid stores_is
  generalize writeE l p s = code at *
  generalize readE l p = code0 at *
  generalize readS l p = was at *
  have hce : (code != 0) = true := by simpa using hwe
  clear h hz hwe
  go_enter Try.func6, Try.ntmps6
  go_wp2_with (first | (go_at_call 19; refine (HR0.out _ _ (H.out.below (by repeat (first | exact Below.refl _ _ | assumption | refine Below.drew ?_ | refine Below.drewN' ?_ _ | refine below_grow0 _ _ ?_ | refine below_alloc0 _ ?_ | refine Below.alloc ?_ (by first | omega | (simp; done) | (simp; omega)) _ | refine Below.setCell ?_ (by first | omega | (simp; done) | (simp; omega)) _ | refine Below.grow _ _ _ ?_ (by first | omega | (simp; done) | (simp; omega)))))).mono ?_; rintro e w1 ⟨rfl, hb1⟩; obtain ⟨ext1, d1, rfl⟩ := Below.grown_eq _ hb1; clear hb1) | (go_at_call 18; refine (HW.out _ _ (H.out.below (by repeat (first | exact Below.refl _ _ | assumption | refine Below.drew ?_ | refine Below.drewN' ?_ _ | refine below_grow0 _ _ ?_ | refine below_alloc0 _ ?_ | refine Below.alloc ?_ (by first | omega | (simp; done) | (simp; omega)) _ | refine Below.setCell ?_ (by first | omega | (simp; done) | (simp; omega)) _ | refine Below.grow _ _ _ ?_ (by first | omega | (simp; done) | (simp; omega)))))).mono ?_; rintro e w1 ⟨A1, k1, rfl, ho1, hb2⟩; obtain ⟨ext2, d2, rfl⟩ := Below.grown_eq _ hb2; clear ho1 hb2; simp only [List.length_nil]) | (go_at_call 15; refine (HS.out _).mono ?_; rintro e w1 ⟨rfl, hb3⟩; obtain ⟨ext3, d3, rfl⟩ := Below.grown_eq _ hb3; clear hb3))
  go_ret
  exact ⟨rfl, (by repeat (first | exact Below.refl _ _ | assumption | refine Below.drew ?_ | refine Below.drewN' ?_ _ | refine below_grow0 _ _ ?_ | refine below_alloc0 _ ?_ | refine Below.alloc ?_ (by first | omega | (simp; done) | (simp; omega)) _ | refine Below.setCell ?_ (by first | omega | (simp; done) | (simp; omega)) _ | refine Below.grow _ _ _ ?_ (by first | omega | (simp; done) | (simp; omega))))⟩
set_option maxHeartbeats 8000000 in
theorem diskSafe_ok (v : Value) (l : List File) (p s : ByteArray) (keep : Int) (w : World) (h : Sl cFile 3 w v l) (hz : ∀ x ∈ l, x.sized) (hp : p.size ≤ 9223372036854775807) (hs : s.size ≤ 140737488355328) :
    Calls Try.prog 6 #[.agg #[v], .string p, .string s, .int .i64 keep] w fun e w' => e = .returned (.bool true) ∧ Below w.heap.size w w' := by
  by_cases hwe : writeE l p s ≠ 0
  · exact diskSafe_no v l p s keep w h hz hp hs hwe
  have hwe : writeE l p s = 0 := by simpa using hwe
  obtain ⟨A, c, rfl, hc1, hc2⟩ := h.form
  obtain ⟨g1, g2, g3⟩ := write_ok hwe
  obtain ⟨e1, t1⟩ : readE (writeL l p s) p = 0 ∧ readS (writeL l p s) p = (fileOr l p).safe ++ ((fileOr l p).tail ++ s) := by
    have := putL_reads g1 (x := ⟨p, (fileOr l p).safe, (fileOr l p).tail ++ s⟩) (by rw [← g2]; exact g3)
    rw [← g2] at this
    exact this
  obtain ⟨g4, g5⟩ := sync_ok e1
  have hmem : (⟨p, (fileAt (writeL l p s) p).safe ++ (fileAt (writeL l p s) p).tail, ⟨#[]⟩⟩ : File) ∈ syncL (writeL l p s) p := by
    rw [g4]
    exact (mem_putL ((goodD_iff _).1 g3).2.2 _ _).2 (.inl rfl)
  have hrd : ∀ n, readE ((syncL (writeL l p s) p).map (crashF n)) p = 0 ∧ readS ((syncL (writeL l p s) p).map (crashF n)) p = readS l p ++ s := by
    intro n
    have h1 := crash_reads g5 n hmem
    refine ⟨h1.1, h1.2.trans ?_⟩
    have h2 : ∀ k, ByteArray.extract ⟨#[]⟩ 0 k = ByteArray.empty := fun k => ByteArray.ext (by simp)
    show ((fileAt (writeL l p s) p).safe ++ (fileAt (writeL l p s) p).tail) ++ ByteArray.extract ⟨#[]⟩ 0 _ = _
    rw [h2, ByteArray.append_empty, readS_or g1, ByteArray.append_assoc, ← t1]
    rw [readS_or g3]
    unfold fileOr
    rw [(readE_0 e1).2]
    rfl
  have H := Lib.hid h
  have HR0 := Lib.hid (fun (W : World) (v : Value) (h : Sl cFile 3 W v l) => dkRead v l p W h hz)
  have HW := Lib.hid (fun (W : World) (v : Value) (h : Sl cFile 3 W v l) => by
    have h1 := dkWrite v l p s W h hz hp hs
    rw [hwe] at h1
    exact h1)
  have HS := Lib.hid stores_is
  have HY := Lib.hid (fun (W : World) (v : Value) (h : Sl cFile 3 W v (writeL l p s)) => by
    have h1 := dkSync v _ p W h (fun x hx => (goodD_sized g3 x hx).1)
    rw [e1] at h1
    exact h1)
  obtain ⟨C, hC⟩ : ∃ C : Nat → List File, ∀ n, C n = (syncL (writeL l p s) p).map (crashF n) := ⟨_, fun _ => rfl⟩
  have HC := Lib.hid (fun (W : World) (v : Value) (n : Nat) (h : Sl cFile 3 W v (syncL (writeL l p s) p)) => by
    have h1 := dkCrash v _ n W h (fun x hx => (goodD_sized g5 x hx).1)
    rw [(crash_is g5 n).1, (crash_is g5 n).2, ← hC n] at h1
    exact h1)
  have HR1 := Lib.hid (fun (W : World) (v : Value) (n : Nat) (h : Sl cFile 3 W v (C n)) => by
    rw [hC n] at h
    have h1 := dkRead v _ p W h (fun x hx => (goodD_sized (crash_good g5 n) x hx).1)
    rw [(hrd n).1, (hrd n).2] at h1
    exact h1)
  have HG := Lib.hid (fun (W : World) (v : Value) (n : Nat) (h : Sl cFile 3 W v (C n)) => by
    rw [hC n] at h
    have h1 := dkGood v _ W h (fun x hx => (goodD_sized (crash_good g5 n) x hx).1)
    rw [crash_good g5 n] at h1
    exact h1)
  have HP := Lib.hid (fun (W : World) => pick_is keep 1000 W (by decide) (by decide))
  clear hrd hmem g5 g4 t1 e1 g3 g2 g1 hwe
  clear hC
  have hsz : (readS l p).size ≤ 281474976710656 := by
    unfold readS
    split
    · rename_i h1
      rw [Bool.and_eq_true] at h1
      have := hz _ (fileAt_is h1.2).2
      rw [ByteArray.size_append]
      unfold File.sized at this
      omega
    · exact Nat.zero_le _
  generalize readE l p = code0 at *
  generalize hwas : readS l p = was at *
  generalize syncL (writeL l p s) p = b at *
  generalize writeL l p s = a at *
  clear h hz hwas
  go_enter Try.func6, Try.ntmps6
  go_wp2_with (first | (go_at_call 19; refine (HR0.out _ _ (H.out.below (by repeat (first | exact Below.refl _ _ | assumption | refine Below.drew ?_ | refine Below.drewN' ?_ _ | refine below_grow0 _ _ ?_ | refine below_alloc0 _ ?_ | refine Below.alloc ?_ (by first | omega | (simp; done) | (simp; omega)) _ | refine Below.setCell ?_ (by first | omega | (simp; done) | (simp; omega)) _ | refine Below.grow _ _ _ ?_ (by first | omega | (simp; done) | (simp; omega)))))).mono ?_; rintro e w1 ⟨rfl, hb1⟩; obtain ⟨ext1, d1, rfl⟩ := Below.grown_eq _ hb1; clear hb1) | (go_at_call 18; refine (HW.out _ _ (H.out.below (by repeat (first | exact Below.refl _ _ | assumption | refine Below.drew ?_ | refine Below.drewN' ?_ _ | refine below_grow0 _ _ ?_ | refine below_alloc0 _ ?_ | refine Below.alloc ?_ (by first | omega | (simp; done) | (simp; omega)) _ | refine Below.setCell ?_ (by first | omega | (simp; done) | (simp; omega)) _ | refine Below.grow _ _ _ ?_ (by first | omega | (simp; done) | (simp; omega)))))).mono ?_; rintro e w1 ⟨A1, k1, rfl, ho1, hb2⟩; obtain ⟨ext2, d2, rfl⟩ := Below.grown_eq _ hb2; have HO1 := Lib.hid ho1.sl; clear ho1 hb2) | (go_at_call 15; refine (HS.out _).mono ?_; rintro e w1 ⟨rfl, hb3⟩; obtain ⟨ext3, d3, rfl⟩ := Below.grown_eq _ hb3; clear hb3) | (go_at_call 20; refine (HY.out _ _ (HO1.out.below (by repeat (first | exact Below.refl _ _ | assumption | refine Below.drew ?_ | refine Below.drewN' ?_ _ | refine below_grow0 _ _ ?_ | refine below_alloc0 _ ?_ | refine Below.alloc ?_ (by first | omega | (simp; done) | (simp; omega)) _ | refine Below.setCell ?_ (by first | omega | (simp; done) | (simp; omega)) _ | refine Below.grow _ _ _ ?_ (by first | omega | (simp; done) | (simp; omega)))))).mono ?_; rintro e w1 ⟨A2, k2, rfl, ho2, hb4⟩; obtain ⟨ext4, d4, rfl⟩ := Below.grown_eq _ hb4; have HO2 := Lib.hid ho2.sl; clear ho2 hb4))
  go_region_held3 (fun w' => w'.cell? ⟨w.heap.size + 1 + ext1.size + ext2.size + 1 + ext3.size + ext4.size, 0, none⟩ = some (.slice A2 b.length k2)) (go_simp) (first | (go_at_call 16; refine (HP.out _).mono ?_; rintro e w1 ⟨f, hf, rfl, rfl⟩; skip) | (go_at_call 13; refine (HC.out _ _ _ (HO2.out.below (by repeat (first | exact Below.refl _ _ | assumption | refine Below.drew ?_ | refine Below.drewN' ?_ _ | refine below_grow0 _ _ ?_ | refine below_alloc0 _ ?_ | refine Below.alloc ?_ (by first | omega | (simp; done) | (simp; omega)) _ | refine Below.setCell ?_ (by first | omega | (simp; done) | (simp; omega)) _ | refine Below.grow _ _ _ ?_ (by first | omega | (simp; done) | (simp; omega)))))).mono ?_; rintro e w1 ⟨A3, k3, rfl, ho3, hb5⟩; obtain ⟨ext5, d5, rfl⟩ := Below.grown_eq _ hb5; have HO3 := Lib.hid ho3; clear ho3 hb5))
  all_goals
    go_wp2_with (first | (go_at_call 19; refine (HR1.out _ _ _ (by first | exact HO3.out.regrow1 (Nat.le_refl _) (by simp) | exact HO3.out.sl.below (by repeat (first | exact Below.refl _ _ | assumption | refine Below.drew ?_ | refine Below.drewN' ?_ _ | refine below_grow0 _ _ ?_ | refine below_alloc0 _ ?_ | refine Below.alloc ?_ (by first | omega | (simp; done) | (simp; omega)) _ | refine Below.setCell ?_ (by first | omega | (simp; done) | (simp; omega)) _ | refine Below.grow _ _ _ ?_ (by first | omega | (simp; done) | (simp; omega)))))).mono ?_; rintro e w1 ⟨rfl, hb6⟩; obtain ⟨ext6, d6, rfl⟩ := Below.grown_eq _ hb6; clear hb6) | (go_at_call 21; refine (HG.out _ _ _ (by first | exact HO3.out.regrow2 (Nat.le_refl _) (by simp) | exact HO3.out.sl.below (by repeat (first | exact Below.refl _ _ | assumption | refine Below.drew ?_ | refine Below.drewN' ?_ _ | refine below_grow0 _ _ ?_ | refine below_alloc0 _ ?_ | refine Below.alloc ?_ (by first | omega | (simp; done) | (simp; omega)) _ | refine Below.setCell ?_ (by first | omega | (simp; done) | (simp; omega)) _ | refine Below.grow _ _ _ ?_ (by first | omega | (simp; done) | (simp; omega)))))).mono ?_; rintro e w1 ⟨rfl, hb6⟩; obtain ⟨ext7, d7, rfl⟩ := Below.grown_eq _ hb6; clear hb6))
    go_ret
    exact ⟨rfl, (by repeat (first | exact Below.refl _ _ | assumption | refine Below.drew ?_ | refine Below.drewN' ?_ _ | refine below_grow0 _ _ ?_ | refine below_alloc0 _ ?_ | refine Below.alloc ?_ (by first | omega | (simp; done) | (simp; omega)) _ | refine Below.setCell ?_ (by first | omega | (simp; done) | (simp; omega)) _ | refine Below.grow _ _ _ ?_ (by first | omega | (simp; done) | (simp; omega))))⟩
namespace diskSafe
theorem own : ownKnob Try.prog.godebug = none := by kernel_rfl
theorem laidOut : laidOutB Try.prog = true := by kernel_rfl
set_option maxRecDepth 100000 in
set_option maxHeartbeats 1000000 in
theorem lifted (os : Os) (started : os.Started) (H : Type) (enc : TypeId × Value → H) :
    ReturnsInHanded {} Try.checked os 6 .any (Rows.diskSafeSpec.pre6 enc Try.prog Try.f6 Rows.diskSafeRow.domain false) (Rows.diskSafeSpec.post enc Try.prog Try.f6 false true false false) := by
  refine returnsInHanded_of_change_sized (C := Try.checked) own started (by kernel_rfl) Try.func6
    (ChangeSpec.witness6 (enc := enc) (C := Try.checked) false ⟨#[], #[.agg #[.slice none 0 0], .string ByteArray.empty, .string ByteArray.empty, .int .i64 0], []⟩ 8 (by kernel_rfl) (by kernel_rfl) (by kernel_rfl) (by kernel_rfl)) ?_
  intro W base args ds gs before hval0 hW0 _ hsz0 _
  have hval : ∀ (j : Nat) t v, Try.f6.params[j]? = some t → args[j]? = some v → Value.okWide Try.prog W .any base t v := hval0
  have hW : DataW.Whole enc Try.prog Try.f6.params.toList Rows.diskSafeSpec.vars false W args.toList ds gs before := hW0
  have hlt : ∀ p ∈ before, p.block < W.heap.size := fun p hp => hW.lt p hp
  have hW1 := hW
  obtain ⟨p, q, hA0, hV, rfl, hfz, hnd⟩ := hW1
  have hA : DataW.TrodAll enc Try.prog W 0 (fun _ => true) true Try.f6.params.toList args.toList ds p := hA0
  obtain ⟨rfl, rfl⟩ := trodVars_none hV
  rw [Try.params6] at hA hval
  obtain ⟨v0, vs0, d0, ds0, p0, q0, hargs, rfl, rfl, h0, r0⟩ := trodAll_cons hA
  obtain ⟨v1, vs1, d1, ds1, p1, q1, rfl, rfl, rfl, h1, r1⟩ := trodAll_cons r0
  obtain ⟨v2, vs2, d2, ds2, p2, q2, rfl, rfl, rfl, h2, r2⟩ := trodAll_cons r1
  obtain ⟨v3, vs3, d3, ds3, p3, q3, rfl, rfl, rfl, h3, r3⟩ := trodAll_cons r2
  obtain ⟨rfl, rfl, rfl⟩ := trodAll_nil r3
  obtain rfl : args = #[v0, v1, v2, v3] := by cases args; simp_all
  have hsz : (DataW.weightsEach Try.prog [40, 9, 9, 3] [d0, d1, d2, d3]).all (· ≤ reachBytes) = true := hsz0
  have close : ∀ e W', (e = Ending.returned (.bool true) ∧ Below W.heap.size W W') → ∃ v, e = .returned v ∧ Rows.diskSafeSpec.post enc Try.prog Try.f6 false true false false W #[v0, v1, v2, v3] v W' :=
    fun e W' ⟨he, hb⟩ => ⟨_, he, law_post laidOut (of_decide_eq_true (by kernel_rfl)) rfl rfl Try.underlying4 hW rfl hb⟩
  clear hA0 hsz0 hval0 hW0 hA hV hW hfz hnd
  obtain ⟨a1, rfl, hd1, _, wf1⟩ := Go.ChangeMaps.open_string Try.underlying9 (hval 1 9 v1 rfl rfl) h1
  have rb1 : a1.size ≤ 140737488351232 := by subst hd1; have := sized_string hsz (j := 1) rfl rfl; simpa [reachBytes] using this
  obtain ⟨a2, rfl, hd2, _, wf2⟩ := Go.ChangeMaps.open_string Try.underlying9 (hval 2 9 v2 rfl rfl) h2
  have rb2 : a2.size ≤ 140737488351232 := by subst hd2; have := sized_string hsz (j := 2) rfl rfl; simpa [reachBytes] using this
  obtain ⟨a3, rfl, hd3, _, wf3⟩ := open_int Try.underlying3 (hval 3 3 v3 rfl rfl) h3
  obtain ⟨cs, rfl, _⟩ := okWide_struct Try.underlying40 (hval 0 _ v0 rfl rfl)
  obtain ⟨v, l, hp, hin, hz, _⟩ := open_disk (n := 0) (open_deep 10 h0 (sized_arg hsz 0 rfl rfl))
  obtain rfl : cs = #[v] := by simpa [Value.cells] using congrArg List.toArray hp
  exact (diskSafe_ok v l a1 a2 a3 W hin hz (by omega) (by omega)).mono close
theorem proved : Rows.DiskSafeSaid :=
  OpenClaim.holds_of_wide 6 Try.f6 rfl rfl rfl rfl rfl rfl rfl ⟨rfl, rfl, rfl, rfl, rfl⟩ rfl rfl rfl rfl rfl (by kernel_rfl) Try.func6 (by kernel_rfl)
    (of_decide_eq_true (by kernel_rfl)) (by unfold Func.isWrapper; first | (rw [if_pos (by decide +kernel)]; kernel_rfl) | (rw [if_neg (by decide +kernel)]; exact ⟨rfl, rfl⟩))
    (fun os started H enc _ => lifted os started H enc)
end diskSafe
end Go.Proofs.Ytdfliajginlpiaa
