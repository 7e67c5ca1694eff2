/- The law WireOnly is true for every input; no conditions. -/
import Derived.Test.YtkogdnkifnhljaaDoorWrites
import Derived.Test.YtkogdnkifnhljaaDoorCards
import Derived.Test.YtkogdnkifnhljaaDoorTie
import Derived.Lay
import Derived.LaidMore
import Derived.SevenTiedAt
import Derived.Deep.Cut
namespace Go.Proofs.YtkogdnkifnhljaaDoor
open Go.RowKit Go.ChangeShapes Go.WideShapes Go.ChangeAt
set_option maxHeartbeats 2000000 in
theorem wireOnly_ok (s : ByteArray) (w : World) (hs : s.size ≤ 140737488351232) :
    Calls Tryd.prog 8 #[.string s] w fun e w' => e = .returned (.bool true) ∧ Below w.heap.size w w' := by
  have hl : (bs s).length ≤ 281474976710656 := by rw [length_bs]; omega
  rcases dec_inv s with ⟨t, rest, hg, hr, hd⟩ | ⟨e, he, hd⟩
  · have hp : t.path.size ≤ 9223372036854775807 := by have := (goodT_facts t hg).p1; omega
    have HE := Lib.hid (fun w => encode_any t w hp)
    have hrec : encR t = bS (recT t) := if_pos hg
    rw [hg, hrec] at HE
    have hd2 : decR (bS (bs s)) = (t, ((recT t).length : Int), 0) := by rw [bS_bs]; exact hd
    have HD := Lib.hid (fun W => dec_good hd2 hl W)
    rw [bS_bs] at HD
    have hx : s.extract 0 (recT t).length = bS (recT t) := by
      apply bs_inj
      rw [bs_extractTD, hr, bs_bS, List.drop_zero, List.take_left]
    have hn : (recT t).length ≤ s.size := by rw [← length_bs, hr, List.length_append]; omega
    clear hrec hg hd hd2 hr hp
    generalize recT t = l at *
    generalize bS l = r at *
    generalize l.length = n at *
    obtain ⟨z, o, s', p, d, v, ow⟩ := t
    dsimp only at *
    go_enter Tryd.func8, Tryd.ntmps8
    go_upto_region 2 with (first | (go_at_call 27; refine (HD.out _).mono ?_; rintro e w1 ⟨rfl, hb1⟩; obtain ⟨ext1, d1, rfl⟩ := Below.grown_eq w hb1; clear hb1 HD))
    have hB1 : Below w.heap.size w (World.alloc (grow w ext1 d1) (.cells #[.int .i64 z, .int .i64 o, .int .i64 s', .string p, .string d, .int .i64 v, .int .i64 ow] 42)) := (by repeat (first | exact Below.refl _ _ | assumption | refine Below.drew ?_ | refine Below.drewN' ?_ _ | refine below_grow0 _ _ ?_ | refine below_alloc0 _ ?_ | refine Below.alloc ?_ (by first | omega | (simp; done) | (simp; omega)) _ | refine Below.setCell ?_ (by first | omega | (simp; done) | (simp; omega)) _ | refine Below.grow _ _ _ ?_ (by first | omega | (simp; done) | (simp; omega))))
    have HW1 := Lib.hid hB1.size
    have HB1 := Lib.hid hB1
    clear hB1
    have e0 : (World.alloc (grow w ext1 d1) (.cells #[.int .i64 z, .int .i64 o, .int .i64 s', .string p, .string d, .int .i64 v, .int .i64 ow] 42)).cell? ⟨w.heap.size + ext1.size, 0, none⟩ = some (.int .i64 z) := by have h := (Blk.new (grow w ext1 d1) 42 #[.int .i64 z, .int .i64 o, .int .i64 s', .string p, .string d, .int .i64 v, .int .i64 ow]).cell 0; simpa using h
    have e1 : (World.alloc (grow w ext1 d1) (.cells #[.int .i64 z, .int .i64 o, .int .i64 s', .string p, .string d, .int .i64 v, .int .i64 ow] 42)).cell? ⟨w.heap.size + ext1.size, 1, none⟩ = some (.int .i64 o) := by have h := (Blk.new (grow w ext1 d1) 42 #[.int .i64 z, .int .i64 o, .int .i64 s', .string p, .string d, .int .i64 v, .int .i64 ow]).cell 1; simpa using h
    have e2 : (World.alloc (grow w ext1 d1) (.cells #[.int .i64 z, .int .i64 o, .int .i64 s', .string p, .string d, .int .i64 v, .int .i64 ow] 42)).cell? ⟨w.heap.size + ext1.size, 2, none⟩ = some (.int .i64 s') := by have h := (Blk.new (grow w ext1 d1) 42 #[.int .i64 z, .int .i64 o, .int .i64 s', .string p, .string d, .int .i64 v, .int .i64 ow]).cell 2; simpa using h
    have e3 : (World.alloc (grow w ext1 d1) (.cells #[.int .i64 z, .int .i64 o, .int .i64 s', .string p, .string d, .int .i64 v, .int .i64 ow] 42)).cell? ⟨w.heap.size + ext1.size, 3, none⟩ = some (.string p) := by have h := (Blk.new (grow w ext1 d1) 42 #[.int .i64 z, .int .i64 o, .int .i64 s', .string p, .string d, .int .i64 v, .int .i64 ow]).cell 3; simpa using h
    have e4 : (World.alloc (grow w ext1 d1) (.cells #[.int .i64 z, .int .i64 o, .int .i64 s', .string p, .string d, .int .i64 v, .int .i64 ow] 42)).cell? ⟨w.heap.size + ext1.size, 4, none⟩ = some (.string d) := by have h := (Blk.new (grow w ext1 d1) 42 #[.int .i64 z, .int .i64 o, .int .i64 s', .string p, .string d, .int .i64 v, .int .i64 ow]).cell 4; simpa using h
    have e5 : (World.alloc (grow w ext1 d1) (.cells #[.int .i64 z, .int .i64 o, .int .i64 s', .string p, .string d, .int .i64 v, .int .i64 ow] 42)).cell? ⟨w.heap.size + ext1.size, 5, none⟩ = some (.int .i64 v) := by have h := (Blk.new (grow w ext1 d1) 42 #[.int .i64 z, .int .i64 o, .int .i64 s', .string p, .string d, .int .i64 v, .int .i64 ow]).cell 5; simpa using h
    have e6 : (World.alloc (grow w ext1 d1) (.cells #[.int .i64 z, .int .i64 o, .int .i64 s', .string p, .string d, .int .i64 v, .int .i64 ow] 42)).cell? ⟨w.heap.size + ext1.size, 6, none⟩ = some (.int .i64 ow) := by have h := (Blk.new (grow w ext1 d1) 42 #[.int .i64 z, .int .i64 o, .int .i64 s', .string p, .string d, .int .i64 v, .int .i64 ow]).cell 6; simpa using h
    have hlt : w.heap.size + ext1.size < ((World.alloc (grow w ext1 d1) (.cells #[.int .i64 z, .int .i64 o, .int .i64 s', .string p, .string d, .int .i64 v, .int .i64 ow] 42))).heap.size := by simp
    generalize (World.alloc (grow w ext1 d1) (.cells #[.int .i64 z, .int .i64 o, .int .i64 s', .string p, .string d, .int .i64 v, .int .i64 ow] 42)) = W1 at *
    generalize w.heap.size + ext1.size = g at *
    generalize hbw : w.heap.size = b at *
    have HBE := Lib.hid hbw
    clear hbw
    go_wp2_with (first | (go_at_call 24; refine (HE.out _).mono ?_; rintro e w1 ⟨rfl, hb1⟩; obtain ⟨ext1, d1, rfl⟩ := Below.grown_eq W1 (Below.own (by repeat (first | exact Below.refl _ _ | assumption | refine Below.drew ?_ | refine Below.drewN' ?_ _ | refine below_grow0 _ _ ?_ | refine below_alloc0 _ ?_ | refine Below.alloc ?_ (by first | omega | (simp; done) | (simp; omega)) _ | refine Below.setCell ?_ (by first | omega | (simp; done) | (simp; omega)) _ | refine Below.grow _ _ _ ?_ (by first | omega | (simp; done) | (simp; omega)))) hb1); clear hb1 HE) | (go_at_call 25; refine (writes_is _).mono ?_; rintro e w1 ⟨rfl, hb1⟩; obtain ⟨ext1, d1, rfl⟩ := Below.grown_eq W1 (Below.own (by repeat (first | exact Below.refl _ _ | assumption | refine Below.drew ?_ | refine Below.drewN' ?_ _ | refine below_grow0 _ _ ?_ | refine below_alloc0 _ ?_ | refine Below.alloc ?_ (by first | omega | (simp; done) | (simp; omega)) _ | refine Below.setCell ?_ (by first | omega | (simp; done) | (simp; omega)) _ | refine Below.grow _ _ _ ?_ (by first | omega | (simp; done) | (simp; omega)))) hb1); clear hb1))
    go_ret
    refine ⟨rfl, ?_⟩
    rw [HBE.out]
    exact HB1.out.trans (Below.mono (show Below W1.heap.size W1 _ from (by repeat (first | exact Below.refl _ _ | assumption | refine Below.drew ?_ | refine Below.drewN' ?_ _ | refine below_grow0 _ _ ?_ | refine below_alloc0 _ ?_ | refine Below.alloc ?_ (by first | omega | (simp; done) | (simp; omega)) _ | refine Below.setCell ?_ (by first | omega | (simp; done) | (simp; omega)) _ | refine Below.grow _ _ _ ?_ (by first | omega | (simp; done) | (simp; omega))))) HW1.out)
  · have hne : (e != 0) = true := bne_iff_ne.2 he
    have hd2 : decR (bS (bs s)) = (txn0, 0, e) := by rw [bS_bs]; exact hd
    have HD := Lib.hid (fun W => dec_err hd2 hl W)
    rw [bS_bs] at HD
    clear he hd hd2
    go_enter Tryd.func8, Tryd.ntmps8
    go_upto_region 2 with (first | (go_at_call 27; refine (HD.out _).mono ?_; rintro e w1 ⟨rfl, hb1⟩; obtain ⟨ext1, d1, rfl⟩ := Below.grown_eq w hb1; clear hb1 HD))
    have hB1 : Below w.heap.size w (World.alloc (grow w ext1 d1) (.cells #[.int .i64 0, .int .i64 0, .int .i64 0, .string ⟨#[]⟩, .string ⟨#[]⟩, .int .i64 0, .int .i64 0] 42)) := (by repeat (first | exact Below.refl _ _ | assumption | refine Below.drew ?_ | refine Below.drewN' ?_ _ | refine below_grow0 _ _ ?_ | refine below_alloc0 _ ?_ | refine Below.alloc ?_ (by first | omega | (simp; done) | (simp; omega)) _ | refine Below.setCell ?_ (by first | omega | (simp; done) | (simp; omega)) _ | refine Below.grow _ _ _ ?_ (by first | omega | (simp; done) | (simp; omega))))
    have HW1 := Lib.hid hB1.size
    have HB1 := Lib.hid hB1
    clear hB1
    have e0 : (World.alloc (grow w ext1 d1) (.cells #[.int .i64 0, .int .i64 0, .int .i64 0, .string ⟨#[]⟩, .string ⟨#[]⟩, .int .i64 0, .int .i64 0] 42)).cell? ⟨w.heap.size + ext1.size, 0, none⟩ = some (.int .i64 0) := by have h := (Blk.new (grow w ext1 d1) 42 #[.int .i64 0, .int .i64 0, .int .i64 0, .string ⟨#[]⟩, .string ⟨#[]⟩, .int .i64 0, .int .i64 0]).cell 0; simpa using h
    have e1 : (World.alloc (grow w ext1 d1) (.cells #[.int .i64 0, .int .i64 0, .int .i64 0, .string ⟨#[]⟩, .string ⟨#[]⟩, .int .i64 0, .int .i64 0] 42)).cell? ⟨w.heap.size + ext1.size, 1, none⟩ = some (.int .i64 0) := by have h := (Blk.new (grow w ext1 d1) 42 #[.int .i64 0, .int .i64 0, .int .i64 0, .string ⟨#[]⟩, .string ⟨#[]⟩, .int .i64 0, .int .i64 0]).cell 1; simpa using h
    have e2 : (World.alloc (grow w ext1 d1) (.cells #[.int .i64 0, .int .i64 0, .int .i64 0, .string ⟨#[]⟩, .string ⟨#[]⟩, .int .i64 0, .int .i64 0] 42)).cell? ⟨w.heap.size + ext1.size, 2, none⟩ = some (.int .i64 0) := by have h := (Blk.new (grow w ext1 d1) 42 #[.int .i64 0, .int .i64 0, .int .i64 0, .string ⟨#[]⟩, .string ⟨#[]⟩, .int .i64 0, .int .i64 0]).cell 2; simpa using h
    have e3 : (World.alloc (grow w ext1 d1) (.cells #[.int .i64 0, .int .i64 0, .int .i64 0, .string ⟨#[]⟩, .string ⟨#[]⟩, .int .i64 0, .int .i64 0] 42)).cell? ⟨w.heap.size + ext1.size, 3, none⟩ = some (.string ⟨#[]⟩) := by have h := (Blk.new (grow w ext1 d1) 42 #[.int .i64 0, .int .i64 0, .int .i64 0, .string ⟨#[]⟩, .string ⟨#[]⟩, .int .i64 0, .int .i64 0]).cell 3; simpa using h
    have e4 : (World.alloc (grow w ext1 d1) (.cells #[.int .i64 0, .int .i64 0, .int .i64 0, .string ⟨#[]⟩, .string ⟨#[]⟩, .int .i64 0, .int .i64 0] 42)).cell? ⟨w.heap.size + ext1.size, 4, none⟩ = some (.string ⟨#[]⟩) := by have h := (Blk.new (grow w ext1 d1) 42 #[.int .i64 0, .int .i64 0, .int .i64 0, .string ⟨#[]⟩, .string ⟨#[]⟩, .int .i64 0, .int .i64 0]).cell 4; simpa using h
    have e5 : (World.alloc (grow w ext1 d1) (.cells #[.int .i64 0, .int .i64 0, .int .i64 0, .string ⟨#[]⟩, .string ⟨#[]⟩, .int .i64 0, .int .i64 0] 42)).cell? ⟨w.heap.size + ext1.size, 5, none⟩ = some (.int .i64 0) := by have h := (Blk.new (grow w ext1 d1) 42 #[.int .i64 0, .int .i64 0, .int .i64 0, .string ⟨#[]⟩, .string ⟨#[]⟩, .int .i64 0, .int .i64 0]).cell 5; simpa using h
    have e6 : (World.alloc (grow w ext1 d1) (.cells #[.int .i64 0, .int .i64 0, .int .i64 0, .string ⟨#[]⟩, .string ⟨#[]⟩, .int .i64 0, .int .i64 0] 42)).cell? ⟨w.heap.size + ext1.size, 6, none⟩ = some (.int .i64 0) := by have h := (Blk.new (grow w ext1 d1) 42 #[.int .i64 0, .int .i64 0, .int .i64 0, .string ⟨#[]⟩, .string ⟨#[]⟩, .int .i64 0, .int .i64 0]).cell 6; simpa using h
    have hlt : w.heap.size + ext1.size < ((World.alloc (grow w ext1 d1) (.cells #[.int .i64 0, .int .i64 0, .int .i64 0, .string ⟨#[]⟩, .string ⟨#[]⟩, .int .i64 0, .int .i64 0] 42))).heap.size := by simp
    generalize (World.alloc (grow w ext1 d1) (.cells #[.int .i64 0, .int .i64 0, .int .i64 0, .string ⟨#[]⟩, .string ⟨#[]⟩, .int .i64 0, .int .i64 0] 42)) = W1 at *
    generalize w.heap.size + ext1.size = g at *
    generalize hbw : w.heap.size = b at *
    have HBE := Lib.hid hbw
    clear hbw
    go_wp2_with (first | (go_at_call 25; refine (writes_is _).mono ?_; rintro e w1 ⟨rfl, hb1⟩; obtain ⟨ext1, d1, rfl⟩ := Below.grown_eq W1 (Below.own (by repeat (first | exact Below.refl _ _ | assumption | refine Below.drew ?_ | refine Below.drewN' ?_ _ | refine below_grow0 _ _ ?_ | refine below_alloc0 _ ?_ | refine Below.alloc ?_ (by first | omega | (simp; done) | (simp; omega)) _ | refine Below.setCell ?_ (by first | omega | (simp; done) | (simp; omega)) _ | refine Below.grow _ _ _ ?_ (by first | omega | (simp; done) | (simp; omega)))) hb1); clear hb1))
    go_ret
    refine ⟨rfl, ?_⟩
    rw [HBE.out]
    exact HB1.out.trans (Below.mono (show Below W1.heap.size W1 _ from (by repeat (first | exact Below.refl _ _ | assumption | refine Below.drew ?_ | refine Below.drewN' ?_ _ | refine below_grow0 _ _ ?_ | refine below_alloc0 _ ?_ | refine Below.alloc ?_ (by first | omega | (simp; done) | (simp; omega)) _ | refine Below.setCell ?_ (by first | omega | (simp; done) | (simp; omega)) _ | refine Below.grow _ _ _ ?_ (by first | omega | (simp; done) | (simp; omega))))) HW1.out)
namespace wireOnly
theorem own : ownKnob Tryd.prog.godebug = none := by kernel_rfl
theorem laidOut : laidOutB Tryd.prog = true := by kernel_rfl
set_option maxRecDepth 100000 in
set_option maxHeartbeats 1000000 in
theorem lifted (os : Os) (started : os.Started) (H : Type) (enc : TypeId × Value → H) :
    ReturnsInHanded {} Tryd.checked os 8 .any (fun w args => (Rows.wireOnlySpec.pre enc Tryd.prog Tryd.f8 Rows.wireOnlyRow.domain false w args ∧ laidMetH Tryd.prog Rows.wireOnlyRow.laid w) ∧ sizedMet enc Tryd.prog Tryd.f8 (OpenSpec.ofChange Rows.wireOnlySpec) false w args) (Rows.wireOnlySpec.post enc Tryd.prog Tryd.f8 false true false false) := by
  refine returnsInHanded_of_change_and (C := Tryd.checked) (X := fun w _ => laidMetH Tryd.prog Rows.wireOnlyRow.laid w) (fun _ _ _ hh h => h.of_heap hh) own started (by kernel_rfl) Tryd.func8
    (ChangeSpec.witness_shaped (enc := enc) (C := Tryd.checked) (os := os) (X := fun w _ => laidMetH Tryd.prog Rows.wireOnlyRow.laid w) false (World.laidAll Tryd.prog os Rows.wireOnlyRow.laid) #[.string ByteArray.empty] 8 (World.laidAll_os _ _ _)
      (World.shaped_of_ZipB (by kernel_rfl) (by kernel_rfl)) (by kernel_rfl) (by kernel_rfl) (by kernel_rfl)
      (by rw [MakeChecks.laidMetH_plain _ _ _ (by kernel_rfl)]; exact laidMet_laidAll _ (by kernel_rfl) (by kernel_rfl))) ?_
  intro W base args ds gs before hval0 hW0 _ hsz0 hL _
  have hval : ∀ (j : Nat) t v, Tryd.f8.params[j]? = some t → args[j]? = some v → Value.okWide Tryd.prog W .any base t v := hval0
  have hW : DataW.Whole enc Tryd.prog Tryd.f8.params.toList Rows.wireOnlySpec.vars false W args.toList ds gs before := hW0
  have hlt : ∀ p ∈ before, p.block < W.heap.size := fun p hp => hW.lt p hp
  have hW1 := hW
  obtain ⟨p, q, hA0, hV, rfl, hfz, hnd⟩ := hW1
  have hA : DataW.TrodAll enc Tryd.prog W 0 (fun _ => true) true Tryd.f8.params.toList args.toList ds p := hA0
  obtain ⟨rfl, rfl⟩ := trodVars_none hV
  rw [Tryd.params8] at hA hval
  obtain ⟨v0, vs0, d0, ds0, p0, q0, hargs, rfl, rfl, h0, r0⟩ := trodAll_cons hA
  obtain ⟨rfl, rfl, rfl⟩ := trodAll_nil r0
  obtain rfl : args = #[v0] := by cases args; simp_all
  have hsz : (DataW.weightsEach Tryd.prog [9] [d0]).all (· ≤ reachBytes) = true := hsz0
  have close : ∀ e W', (e = Ending.returned (.bool true) ∧ Below W.heap.size W W') → ∃ v, e = .returned v ∧ Rows.wireOnlySpec.post enc Tryd.prog Tryd.f8 false true false false W #[v0] v W' :=
    fun e W' ⟨he, hb⟩ => ⟨_, he, law_post laidOut (of_decide_eq_true (by kernel_rfl)) rfl rfl Tryd.underlying4 hW rfl hb⟩
  clear hA0 hsz0 hval0 hW0 hA hV hW hfz hnd
  obtain ⟨a0, rfl, hd0, _, wf0⟩ := Go.ChangeMaps.open_string Tryd.underlying9 (hval 0 9 v0 rfl rfl) h0
  have rb0 : a0.size ≤ 140737488351232 := by subst hd0; have := sized_string hsz (j := 0) rfl rfl; simpa [reachBytes] using this
  exact (wireOnly_ok a0 W rb0).mono close
theorem proved : Rows.WireOnlySaid :=
  OpenClaim.holds_of_wide 8 Tryd.f8 rfl rfl rfl rfl rfl rfl rfl ⟨rfl, rfl, rfl, rfl, rfl⟩ rfl rfl rfl rfl rfl (by kernel_rfl) Tryd.func8 (by kernel_rfl)
    (of_decide_eq_true (by kernel_rfl)) (by unfold Func.isWrapper; first | (rw [if_pos (by decide +kernel)]; kernel_rfl) | (rw [if_neg (by decide +kernel)]; exact ⟨rfl, rfl⟩))
    (fun os started H enc _ => lifted os started H enc)
theorem card : Rows.WireOnlyCardSaid :=
  Claim7.holds_tied_plain_at .later [] Rows.wireOnlyCard.laidKinds true Rows.wireOnlyCard.stood.harness false
    proved (fun _ h => by cases h) (by kernel_rfl) (fun _ h => by cases h) wireOnly_row_tie rfl ⟨rfl, rfl⟩ (by kernel_rfl) rfl
    (fun f fn hf hfn => by
      obtain rfl : f = 8 := Option.some.inj ((show Tryd.prog.funcNamed "aviary/aviarykeep.WireOnly" = some 8 by kernel_rfl).symm.trans hf) |>.symm
      obtain rfl : fn = Tryd.f8 := (Option.some.inj (Tryd.func8.symm.trans hfn)).symm
      exact ⟨by kernel_rfl, fun j t ht => by
        rw [Tryd.params8] at ht
        have hm : t ∈ [9] := by simpa using Array.mem_of_getElem? ht
        have hall : ([9].all fun u => !Tryd.prog.wantsStandIn u) = true := by kernel_rfl
        exact (show Tryd.prog.wantsStandIn t = false by simpa using List.all_eq_true.1 hall t hm)⟩)
    (by kernel_rfl)
end wireOnly
end Go.Proofs.YtkogdnkifnhljaaDoor
