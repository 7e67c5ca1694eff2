/- The law PathApart is true for every input; no conditions. -/
import Derived.Test.YtkogdnkifnhljaaDoorPathD
import Derived.Test.YtkogdnkifnhljaaDoorCards
import Derived.Test.YtkogdnkifnhljaaDoorTie
import Derived.Lay
import Derived.LaidMore
import Derived.SevenTiedAt
namespace Go.Proofs.YtkogdnkifnhljaaDoor
open Go.RowKit Go.ChangeShapes Go.WideShapes Go.ChangeAt
set_option maxHeartbeats 2000000 in
theorem pathApart_ok (s : ByteArray) (w : World) (hs : s.size ≤ 140737488351232) :
    Calls Tryd.prog 4 #[.string s] w fun e w' => e = .returned (.bool true) ∧ Below w.heap.size w w' := by
  have HSP := Lib.hid (fun (W : World) => split_any s W (by omega))
  have HG := Lib.hid (fun (W : World) => good_any s W (by omega))
  by_cases hr : s = slash
  · subst hr
    have e : splitR slash = (⟨#[]⟩, ⟨#[]⟩, 7) := by unfold splitR; rw [if_pos good_slash, if_pos rfl]
    rw [e] at HSP
    rw [good_slash] at HG
    clear e
    unfold slash at *
    go_enter Tryd.func4, Tryd.ntmps4
    go_wp2_with (first | (go_at_call 13; refine (joins_is _).mono ?_; rintro e w1 ⟨rfl, hb⟩; obtain ⟨ext1, d1, rfl⟩ := Below.grown_eq w (Below.own (by repeat (first | exact Below.refl _ _ | assumption | refine Below.drew ?_ | refine Below.drewN' ?_ _ | refine below_grow0 _ _ ?_ | refine below_alloc0 _ ?_ | refine Below.alloc ?_ (by first | omega | (simp; done) | (simp; omega)) _ | refine Below.setCell ?_ (by first | omega | (simp; done) | (simp; omega)) _ | refine Below.grow _ _ _ ?_ (by first | omega | (simp; done) | (simp; omega)))) hb); clear hb) | (go_at_call 15; refine (HSP.out _).mono ?_; rintro e w1 ⟨rfl, hb⟩; obtain ⟨ext1, d1, rfl⟩ := Below.grown_eq w (Below.own (by repeat (first | exact Below.refl _ _ | assumption | refine Below.drew ?_ | refine Below.drewN' ?_ _ | refine below_grow0 _ _ ?_ | refine below_alloc0 _ ?_ | refine Below.alloc ?_ (by first | omega | (simp; done) | (simp; omega)) _ | refine Below.setCell ?_ (by first | omega | (simp; done) | (simp; omega)) _ | refine Below.grow _ _ _ ?_ (by first | omega | (simp; done) | (simp; omega)))) hb); clear hb HSP) | (go_at_call 16; refine (HG.out _).mono ?_; rintro e w1 ⟨rfl, hb⟩; obtain ⟨ext1, d1, rfl⟩ := Below.grown_eq w (Below.own (by repeat (first | exact Below.refl _ _ | assumption | refine Below.drew ?_ | refine Below.drewN' ?_ _ | refine below_grow0 _ _ ?_ | refine below_alloc0 _ ?_ | refine Below.alloc ?_ (by first | omega | (simp; done) | (simp; omega)) _ | refine Below.setCell ?_ (by first | omega | (simp; done) | (simp; omega)) _ | refine Below.grow _ _ _ ?_ (by first | omega | (simp; done) | (simp; omega)))) hb); clear hb HG))
    go_ret
    exact ⟨rfl, (by repeat (first | exact Below.refl _ _ | assumption | refine Below.drew ?_ | refine Below.drewN' ?_ _ | refine below_grow0 _ _ ?_ | refine below_alloc0 _ ?_ | refine Below.alloc ?_ (by first | omega | (simp; done) | (simp; omega)) _ | refine Below.setCell ?_ (by first | omega | (simp; done) | (simp; omega)) _ | refine Below.grow _ _ _ ?_ (by first | omega | (simp; done) | (simp; omega))))⟩
  · have hne := ne_slash hr
    cases hg : goodP s with
    | false =>
      have e : splitR s = (⟨#[]⟩, ⟨#[]⟩, 2) := by unfold splitR; rw [if_neg (by rw [hg]; simp)]
      rw [e] at HSP
      rw [hg] at HG
      clear e hg hr
      go_enter Tryd.func4, Tryd.ntmps4
      go_wp2_with (first | (go_at_call 13; refine (joins_is _).mono ?_; rintro e w1 ⟨rfl, hb⟩; obtain ⟨ext1, d1, rfl⟩ := Below.grown_eq w (Below.own (by repeat (first | exact Below.refl _ _ | assumption | refine Below.drew ?_ | refine Below.drewN' ?_ _ | refine below_grow0 _ _ ?_ | refine below_alloc0 _ ?_ | refine Below.alloc ?_ (by first | omega | (simp; done) | (simp; omega)) _ | refine Below.setCell ?_ (by first | omega | (simp; done) | (simp; omega)) _ | refine Below.grow _ _ _ ?_ (by first | omega | (simp; done) | (simp; omega)))) hb); clear hb) | (go_at_call 15; refine (HSP.out _).mono ?_; rintro e w1 ⟨rfl, hb⟩; obtain ⟨ext1, d1, rfl⟩ := Below.grown_eq w (Below.own (by repeat (first | exact Below.refl _ _ | assumption | refine Below.drew ?_ | refine Below.drewN' ?_ _ | refine below_grow0 _ _ ?_ | refine below_alloc0 _ ?_ | refine Below.alloc ?_ (by first | omega | (simp; done) | (simp; omega)) _ | refine Below.setCell ?_ (by first | omega | (simp; done) | (simp; omega)) _ | refine Below.grow _ _ _ ?_ (by first | omega | (simp; done) | (simp; omega)))) hb); clear hb HSP) | (go_at_call 16; refine (HG.out _).mono ?_; rintro e w1 ⟨rfl, hb⟩; obtain ⟨ext1, d1, rfl⟩ := Below.grown_eq w (Below.own (by repeat (first | exact Below.refl _ _ | assumption | refine Below.drew ?_ | refine Below.drewN' ?_ _ | refine below_grow0 _ _ ?_ | refine below_alloc0 _ ?_ | refine Below.alloc ?_ (by first | omega | (simp; done) | (simp; omega)) _ | refine Below.setCell ?_ (by first | omega | (simp; done) | (simp; omega)) _ | refine Below.grow _ _ _ ?_ (by first | omega | (simp; done) | (simp; omega)))) hb); clear hb HG))
      go_ret
      exact ⟨rfl, (by repeat (first | exact Below.refl _ _ | assumption | refine Below.drew ?_ | refine Below.drewN' ?_ _ | refine below_grow0 _ _ ?_ | refine below_alloc0 _ ?_ | refine Below.alloc ?_ (by first | omega | (simp; done) | (simp; omega)) _ | refine Below.setCell ?_ (by first | omega | (simp; done) | (simp; omega)) _ | refine Below.grow _ _ _ ?_ (by first | omega | (simp; done) | (simp; omega))))⟩
    | true =>
      obtain ⟨h1, h2, h3, h4⟩ := split_join hg hr
      have z1 := (goodP_size h2).2
      have z2 := (named_no h3).2.2
      rw [length_bs] at z2
      have HJ := Lib.hid (fun (W : World) => by
        have h := join_any (splitR s).1 (splitR s).2.1 W (by omega) (by omega)
        rw [h1] at h
        exact h)
      have HGA := Lib.hid (fun (W : World) => by
        have h := good_any (splitR s).1 W (by omega)
        rw [h2] at h
        exact h)
      have HN := Lib.hid (fun (W : World) => by
        have h := named_any (splitR s).2.1 W (by omega)
        rw [h3] at h
        exact h)
      rw [h4] at HSP
      generalize (splitR s).1 = a at *
      generalize (splitR s).2.1 = b at *
      clear h1 h2 h3 h4 hg hr HG
      go_enter Tryd.func4, Tryd.ntmps4
      go_wp2_with (first | (go_at_call 13; refine (joins_is _).mono ?_; rintro e w1 ⟨rfl, hb⟩; obtain ⟨ext1, d1, rfl⟩ := Below.grown_eq w (Below.own (by repeat (first | exact Below.refl _ _ | assumption | refine Below.drew ?_ | refine Below.drewN' ?_ _ | refine below_grow0 _ _ ?_ | refine below_alloc0 _ ?_ | refine Below.alloc ?_ (by first | omega | (simp; done) | (simp; omega)) _ | refine Below.setCell ?_ (by first | omega | (simp; done) | (simp; omega)) _ | refine Below.grow _ _ _ ?_ (by first | omega | (simp; done) | (simp; omega)))) hb); clear hb) | (go_at_call 15; refine (HSP.out _).mono ?_; rintro e w1 ⟨rfl, hb⟩; obtain ⟨ext1, d1, rfl⟩ := Below.grown_eq w (Below.own (by repeat (first | exact Below.refl _ _ | assumption | refine Below.drew ?_ | refine Below.drewN' ?_ _ | refine below_grow0 _ _ ?_ | refine below_alloc0 _ ?_ | refine Below.alloc ?_ (by first | omega | (simp; done) | (simp; omega)) _ | refine Below.setCell ?_ (by first | omega | (simp; done) | (simp; omega)) _ | refine Below.grow _ _ _ ?_ (by first | omega | (simp; done) | (simp; omega)))) hb); clear hb HSP) | (go_at_call 17; refine (HJ.out _).mono ?_; rintro e w1 ⟨rfl, hb⟩; obtain ⟨ext1, d1, rfl⟩ := Below.grown_eq w (Below.own (by repeat (first | exact Below.refl _ _ | assumption | refine Below.drew ?_ | refine Below.drewN' ?_ _ | refine below_grow0 _ _ ?_ | refine below_alloc0 _ ?_ | refine Below.alloc ?_ (by first | omega | (simp; done) | (simp; omega)) _ | refine Below.setCell ?_ (by first | omega | (simp; done) | (simp; omega)) _ | refine Below.grow _ _ _ ?_ (by first | omega | (simp; done) | (simp; omega)))) hb); clear hb HJ) | (go_at_call 16; refine (HGA.out _).mono ?_; rintro e w1 ⟨rfl, hb⟩; obtain ⟨ext1, d1, rfl⟩ := Below.grown_eq w (Below.own (by repeat (first | exact Below.refl _ _ | assumption | refine Below.drew ?_ | refine Below.drewN' ?_ _ | refine below_grow0 _ _ ?_ | refine below_alloc0 _ ?_ | refine Below.alloc ?_ (by first | omega | (simp; done) | (simp; omega)) _ | refine Below.setCell ?_ (by first | omega | (simp; done) | (simp; omega)) _ | refine Below.grow _ _ _ ?_ (by first | omega | (simp; done) | (simp; omega)))) hb); clear hb HGA) | (go_at_call 18; refine (HN.out _).mono ?_; rintro e w1 ⟨rfl, rfl⟩; skip))
      go_ret
      exact ⟨rfl, (by repeat (first | exact Below.refl _ _ | assumption | refine Below.drew ?_ | refine Below.drewN' ?_ _ | refine below_grow0 _ _ ?_ | refine below_alloc0 _ ?_ | refine Below.alloc ?_ (by first | omega | (simp; done) | (simp; omega)) _ | refine Below.setCell ?_ (by first | omega | (simp; done) | (simp; omega)) _ | refine Below.grow _ _ _ ?_ (by first | omega | (simp; done) | (simp; omega))))⟩
namespace pathApart
theorem own : ownKnob Tryd.prog.godebug = none := by kernel_rfl
theorem laidOut : laidOutB Tryd.prog = true := by kernel_rfl
set_option maxRecDepth 100000 in
set_option maxHeartbeats 1000000 in
theorem lifted (os : Os) (started : os.Started) (H : Type) (enc : TypeId × Value → H) :
    ReturnsInHanded {} Tryd.checked os 4 .any (fun w args => (Rows.pathApartSpec.pre enc Tryd.prog Tryd.f4 Rows.pathApartRow.domain false w args ∧ laidMetH Tryd.prog Rows.pathApartRow.laid w) ∧ sizedMet enc Tryd.prog Tryd.f4 (OpenSpec.ofChange Rows.pathApartSpec) false w args) (Rows.pathApartSpec.post enc Tryd.prog Tryd.f4 false true false false) := by
  refine returnsInHanded_of_change_and (C := Tryd.checked) (X := fun w _ => laidMetH Tryd.prog Rows.pathApartRow.laid w) (fun _ _ _ hh h => h.of_heap hh) own started (by kernel_rfl) Tryd.func4
    (ChangeSpec.witness_shaped (enc := enc) (C := Tryd.checked) (os := os) (X := fun w _ => laidMetH Tryd.prog Rows.pathApartRow.laid w) false (World.laidAll Tryd.prog os Rows.pathApartRow.laid) #[.string ByteArray.empty] 8 (World.laidAll_os _ _ _)
      (World.shaped_of_ZipB (by kernel_rfl) (by kernel_rfl)) (by kernel_rfl) (by kernel_rfl) (by kernel_rfl)
      (by rw [MakeChecks.laidMetH_plain _ _ _ (by kernel_rfl)]; exact laidMet_laidAll _ (by kernel_rfl) (by kernel_rfl))) ?_
  intro W base args ds gs before hval0 hW0 _ hsz0 hL _
  have hval : ∀ (j : Nat) t v, Tryd.f4.params[j]? = some t → args[j]? = some v → Value.okWide Tryd.prog W .any base t v := hval0
  have hW : DataW.Whole enc Tryd.prog Tryd.f4.params.toList Rows.pathApartSpec.vars false W args.toList ds gs before := hW0
  have hlt : ∀ p ∈ before, p.block < W.heap.size := fun p hp => hW.lt p hp
  have hW1 := hW
  obtain ⟨p, q, hA0, hV, rfl, hfz, hnd⟩ := hW1
  have hA : DataW.TrodAll enc Tryd.prog W 0 (fun _ => true) true Tryd.f4.params.toList args.toList ds p := hA0
  obtain ⟨rfl, rfl⟩ := trodVars_none hV
  rw [Tryd.params4] at hA hval
  obtain ⟨v0, vs0, d0, ds0, p0, q0, hargs, rfl, rfl, h0, r0⟩ := trodAll_cons hA
  obtain ⟨rfl, rfl, rfl⟩ := trodAll_nil r0
  obtain rfl : args = #[v0] := by cases args; simp_all
  have hsz : (DataW.weightsEach Tryd.prog [9] [d0]).all (· ≤ reachBytes) = true := hsz0
  have close : ∀ e W', (e = Ending.returned (.bool true) ∧ Below W.heap.size W W') → ∃ v, e = .returned v ∧ Rows.pathApartSpec.post enc Tryd.prog Tryd.f4 false true false false W #[v0] v W' :=
    fun e W' ⟨he, hb⟩ => ⟨_, he, law_post laidOut (of_decide_eq_true (by kernel_rfl)) rfl rfl Tryd.underlying4 hW rfl hb⟩
  clear hA0 hsz0 hval0 hW0 hA hV hW hfz hnd
  obtain ⟨a0, rfl, hd0, _, wf0⟩ := Go.ChangeMaps.open_string Tryd.underlying9 (hval 0 9 v0 rfl rfl) h0
  have rb0 : a0.size ≤ 140737488351232 := by subst hd0; have := sized_string hsz (j := 0) rfl rfl; simpa [reachBytes] using this
  exact (pathApart_ok a0 W (by omega)).mono close
theorem proved : Rows.PathApartSaid :=
  OpenClaim.holds_of_wide 4 Tryd.f4 rfl rfl rfl rfl rfl rfl rfl ⟨rfl, rfl, rfl, rfl, rfl⟩ rfl rfl rfl rfl rfl (by kernel_rfl) Tryd.func4 (by kernel_rfl)
    (of_decide_eq_true (by kernel_rfl)) (by unfold Func.isWrapper; first | (rw [if_pos (by decide +kernel)]; kernel_rfl) | (rw [if_neg (by decide +kernel)]; exact ⟨rfl, rfl⟩))
    (fun os started H enc _ => lifted os started H enc)
theorem card : Rows.PathApartCardSaid :=
  Claim7.holds_tied_plain_at .later [] Rows.pathApartCard.laidKinds true Rows.pathApartCard.stood.harness false
    proved (fun _ h => by cases h) (by kernel_rfl) (fun _ h => by cases h) pathApart_row_tie rfl ⟨rfl, rfl⟩ (by kernel_rfl) rfl
    (fun f fn hf hfn => by
      obtain rfl : f = 4 := Option.some.inj ((show Tryd.prog.funcNamed "aviary/aviarykeep.PathApart" = some 4 by kernel_rfl).symm.trans hf) |>.symm
      obtain rfl : fn = Tryd.f4 := (Option.some.inj (Tryd.func4.symm.trans hfn)).symm
      exact ⟨by kernel_rfl, fun j t ht => by
        rw [Tryd.params4] at ht
        have hm : t ∈ [9] := by simpa using Array.mem_of_getElem? ht
        have hall : ([9].all fun u => !Tryd.prog.wantsStandIn u) = true := by kernel_rfl
        exact (show Tryd.prog.wantsStandIn t = false by simpa using List.all_eq_true.1 hall t hm)⟩)
    (by kernel_rfl)
end pathApart
end Go.Proofs.YtkogdnkifnhljaaDoor
