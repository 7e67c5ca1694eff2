/- The law WireBack is true for every input; no conditions. -/
import Derived.Test.YtkogdnkifnhljaaDoorWrites
import Derived.Test.YtkogdnkifnhljaaDoorCards
import Derived.Test.YtkogdnkifnhljaaDoorTie
import Derived.Lay
import Derived.LaidMore
import Derived.SevenTiedAt
import Derived.Deep.Cut
namespace Go.Proofs.YtkogdnkifnhljaaDoor
open Go.RowKit Go.ChangeShapes Go.WideShapes Go.ChangeAt
set_option maxHeartbeats 2000000 in
theorem wireBack_ok (t : Txn) (m : ByteArray) (w : World) (hp : t.path.size ≤ 9223372036854775807) (hm : m.size ≤ 140737488351232) :
    Calls Tryd.prog 7 #[vTxn t, .string m] w fun e w' => e = .returned (.bool true) ∧ Below w.heap.size w w' := by
  have HE := Lib.hid (fun w => encode_any t w hp)
  have HG := Lib.hid (fun w => tgood_any t w hp)
  by_cases hg : goodT t = 0
  · have hrec : encR t = bS (recT t) := if_pos hg
    have hlen := rec_len t hg
    have hz := bS_size (recT t)
    have hl2 : (recT t ++ bs m).length ≤ 281474976710656 := by rw [List.length_append, length_bs]; omega
    have HD := Lib.hid (fun W => dec_good (dec_back t hg (bs m)) hl2 W)
    rw [← bS_add] at HD
    rw [hg, hrec] at HE
    clear hrec hg HG hl2
    have qE := fun w => eql_txn t t w
    rw [sameT_self] at qE
    rw [← hz] at HD
    generalize recT t = l at *
    generalize bS l = r at *
    obtain ⟨z, o, s, p, d, v, ow⟩ := t
    dsimp only at *
    go_enter Tryd.func7, Tryd.ntmps7
    go_upto_region 1 with (fail)
    have hB1 : Below w.heap.size w (World.alloc w (.cells #[.int .i64 z, .int .i64 o, .int .i64 s, .string p, .string d, .int .i64 v, .int .i64 ow] 42)) := (by repeat (first | exact Below.refl _ _ | assumption | refine Below.drew ?_ | refine Below.drewN' ?_ _ | refine below_grow0 _ _ ?_ | refine below_alloc0 _ ?_ | refine Below.alloc ?_ (by first | omega | (simp; done) | (simp; omega)) _ | refine Below.setCell ?_ (by first | omega | (simp; done) | (simp; omega)) _ | refine Below.grow _ _ _ ?_ (by first | omega | (simp; done) | (simp; omega))))
    have HW1 := Lib.hid hB1.size
    have HB1 := Lib.hid hB1
    clear hB1
    have e0 : (World.alloc w (.cells #[.int .i64 z, .int .i64 o, .int .i64 s, .string p, .string d, .int .i64 v, .int .i64 ow] 42)).cell? ⟨w.heap.size, 0, none⟩ = some (.int .i64 z) := (Blk.new w 42 _).cell 0
    have e1 : (World.alloc w (.cells #[.int .i64 z, .int .i64 o, .int .i64 s, .string p, .string d, .int .i64 v, .int .i64 ow] 42)).cell? ⟨w.heap.size, 1, none⟩ = some (.int .i64 o) := (Blk.new w 42 _).cell 1
    have e2 : (World.alloc w (.cells #[.int .i64 z, .int .i64 o, .int .i64 s, .string p, .string d, .int .i64 v, .int .i64 ow] 42)).cell? ⟨w.heap.size, 2, none⟩ = some (.int .i64 s) := (Blk.new w 42 _).cell 2
    have e3 : (World.alloc w (.cells #[.int .i64 z, .int .i64 o, .int .i64 s, .string p, .string d, .int .i64 v, .int .i64 ow] 42)).cell? ⟨w.heap.size, 3, none⟩ = some (.string p) := (Blk.new w 42 _).cell 3
    have e4 : (World.alloc w (.cells #[.int .i64 z, .int .i64 o, .int .i64 s, .string p, .string d, .int .i64 v, .int .i64 ow] 42)).cell? ⟨w.heap.size, 4, none⟩ = some (.string d) := (Blk.new w 42 _).cell 4
    have e5 : (World.alloc w (.cells #[.int .i64 z, .int .i64 o, .int .i64 s, .string p, .string d, .int .i64 v, .int .i64 ow] 42)).cell? ⟨w.heap.size, 5, none⟩ = some (.int .i64 v) := (Blk.new w 42 _).cell 5
    have e6 : (World.alloc w (.cells #[.int .i64 z, .int .i64 o, .int .i64 s, .string p, .string d, .int .i64 v, .int .i64 ow] 42)).cell? ⟨w.heap.size, 6, none⟩ = some (.int .i64 ow) := (Blk.new w 42 _).cell 6
    generalize (World.alloc w (.cells #[.int .i64 z, .int .i64 o, .int .i64 s, .string p, .string d, .int .i64 v, .int .i64 ow] 42)) = W1 at *
    generalize hbw : w.heap.size = b at *
    have HBE := Lib.hid hbw
    clear hbw
    go_wp2_with (first | (go_at_call 24; refine (HE.out _).mono ?_; rintro e w1 ⟨rfl, hb1⟩; obtain ⟨ext1, d1, rfl⟩ := Below.grown_eq W1 (Below.own (by repeat (first | exact Below.refl _ _ | assumption | refine Below.drew ?_ | refine Below.drewN' ?_ _ | refine below_grow0 _ _ ?_ | refine below_alloc0 _ ?_ | refine Below.alloc ?_ (by first | omega | (simp; done) | (simp; omega)) _ | refine Below.setCell ?_ (by first | omega | (simp; done) | (simp; omega)) _ | refine Below.grow _ _ _ ?_ (by first | omega | (simp; done) | (simp; omega)))) hb1); clear hb1 HE) | (go_at_call 25; refine (writes_is _).mono ?_; rintro e w1 ⟨rfl, hb1⟩; obtain ⟨ext1, d1, rfl⟩ := Below.grown_eq W1 (Below.own (by repeat (first | exact Below.refl _ _ | assumption | refine Below.drew ?_ | refine Below.drewN' ?_ _ | refine below_grow0 _ _ ?_ | refine below_alloc0 _ ?_ | refine Below.alloc ?_ (by first | omega | (simp; done) | (simp; omega)) _ | refine Below.setCell ?_ (by first | omega | (simp; done) | (simp; omega)) _ | refine Below.grow _ _ _ ?_ (by first | omega | (simp; done) | (simp; omega)))) hb1); clear hb1) | (go_at_call 27; refine (HD.out _).mono ?_; rintro e w1 ⟨rfl, hb1⟩; obtain ⟨ext1, d1, rfl⟩ := Below.grown_eq W1 (Below.own (by repeat (first | exact Below.refl _ _ | assumption | refine Below.drew ?_ | refine Below.drewN' ?_ _ | refine below_grow0 _ _ ?_ | refine below_alloc0 _ ?_ | refine Below.alloc ?_ (by first | omega | (simp; done) | (simp; omega)) _ | refine Below.setCell ?_ (by first | omega | (simp; done) | (simp; omega)) _ | refine Below.grow _ _ _ ?_ (by first | omega | (simp; done) | (simp; omega)))) hb1); clear hb1 HD))
    go_ret
    refine ⟨rfl, ?_⟩
    rw [HBE.out]
    exact HB1.out.trans (Below.mono (show Below W1.heap.size W1 _ from (by repeat (first | exact Below.refl _ _ | assumption | refine Below.drew ?_ | refine Below.drewN' ?_ _ | refine below_grow0 _ _ ?_ | refine below_alloc0 _ ?_ | refine Below.alloc ?_ (by first | omega | (simp; done) | (simp; omega)) _ | refine Below.setCell ?_ (by first | omega | (simp; done) | (simp; omega)) _ | refine Below.grow _ _ _ ?_ (by first | omega | (simp; done) | (simp; omega))))) HW1.out)
  · have hne : (goodT t != 0) = true := bne_iff_ne.2 hg
    have hrec : encR t = ⟨#[]⟩ := if_neg hg
    rw [hrec] at HE
    clear hrec hg
    generalize goodT t = g at *
    obtain ⟨z, o, s, p, d, v, ow⟩ := t
    dsimp only at *
    go_enter Tryd.func7, Tryd.ntmps7
    go_upto_region 1 with (fail)
    have hB1 : Below w.heap.size w (World.alloc w (.cells #[.int .i64 z, .int .i64 o, .int .i64 s, .string p, .string d, .int .i64 v, .int .i64 ow] 42)) := (by repeat (first | exact Below.refl _ _ | assumption | refine Below.drew ?_ | refine Below.drewN' ?_ _ | refine below_grow0 _ _ ?_ | refine below_alloc0 _ ?_ | refine Below.alloc ?_ (by first | omega | (simp; done) | (simp; omega)) _ | refine Below.setCell ?_ (by first | omega | (simp; done) | (simp; omega)) _ | refine Below.grow _ _ _ ?_ (by first | omega | (simp; done) | (simp; omega))))
    have HW1 := Lib.hid hB1.size
    have HB1 := Lib.hid hB1
    clear hB1
    have e0 : (World.alloc w (.cells #[.int .i64 z, .int .i64 o, .int .i64 s, .string p, .string d, .int .i64 v, .int .i64 ow] 42)).cell? ⟨w.heap.size, 0, none⟩ = some (.int .i64 z) := (Blk.new w 42 _).cell 0
    have e1 : (World.alloc w (.cells #[.int .i64 z, .int .i64 o, .int .i64 s, .string p, .string d, .int .i64 v, .int .i64 ow] 42)).cell? ⟨w.heap.size, 1, none⟩ = some (.int .i64 o) := (Blk.new w 42 _).cell 1
    have e2 : (World.alloc w (.cells #[.int .i64 z, .int .i64 o, .int .i64 s, .string p, .string d, .int .i64 v, .int .i64 ow] 42)).cell? ⟨w.heap.size, 2, none⟩ = some (.int .i64 s) := (Blk.new w 42 _).cell 2
    have e3 : (World.alloc w (.cells #[.int .i64 z, .int .i64 o, .int .i64 s, .string p, .string d, .int .i64 v, .int .i64 ow] 42)).cell? ⟨w.heap.size, 3, none⟩ = some (.string p) := (Blk.new w 42 _).cell 3
    have e4 : (World.alloc w (.cells #[.int .i64 z, .int .i64 o, .int .i64 s, .string p, .string d, .int .i64 v, .int .i64 ow] 42)).cell? ⟨w.heap.size, 4, none⟩ = some (.string d) := (Blk.new w 42 _).cell 4
    have e5 : (World.alloc w (.cells #[.int .i64 z, .int .i64 o, .int .i64 s, .string p, .string d, .int .i64 v, .int .i64 ow] 42)).cell? ⟨w.heap.size, 5, none⟩ = some (.int .i64 v) := (Blk.new w 42 _).cell 5
    have e6 : (World.alloc w (.cells #[.int .i64 z, .int .i64 o, .int .i64 s, .string p, .string d, .int .i64 v, .int .i64 ow] 42)).cell? ⟨w.heap.size, 6, none⟩ = some (.int .i64 ow) := (Blk.new w 42 _).cell 6
    generalize (World.alloc w (.cells #[.int .i64 z, .int .i64 o, .int .i64 s, .string p, .string d, .int .i64 v, .int .i64 ow] 42)) = W1 at *
    generalize hbw : w.heap.size = b at *
    have HBE := Lib.hid hbw
    clear hbw
    go_wp2_with (first | (go_at_call 24; refine (HE.out _).mono ?_; rintro e w1 ⟨rfl, hb1⟩; obtain ⟨ext1, d1, rfl⟩ := Below.grown_eq W1 (Below.own (by repeat (first | exact Below.refl _ _ | assumption | refine Below.drew ?_ | refine Below.drewN' ?_ _ | refine below_grow0 _ _ ?_ | refine below_alloc0 _ ?_ | refine Below.alloc ?_ (by first | omega | (simp; done) | (simp; omega)) _ | refine Below.setCell ?_ (by first | omega | (simp; done) | (simp; omega)) _ | refine Below.grow _ _ _ ?_ (by first | omega | (simp; done) | (simp; omega)))) hb1); clear hb1 HE) | (go_at_call 25; refine (writes_is _).mono ?_; rintro e w1 ⟨rfl, hb1⟩; obtain ⟨ext1, d1, rfl⟩ := Below.grown_eq W1 (Below.own (by repeat (first | exact Below.refl _ _ | assumption | refine Below.drew ?_ | refine Below.drewN' ?_ _ | refine below_grow0 _ _ ?_ | refine below_alloc0 _ ?_ | refine Below.alloc ?_ (by first | omega | (simp; done) | (simp; omega)) _ | refine Below.setCell ?_ (by first | omega | (simp; done) | (simp; omega)) _ | refine Below.grow _ _ _ ?_ (by first | omega | (simp; done) | (simp; omega)))) hb1); clear hb1) | (go_at_call 26; refine (HG.out _).mono ?_; rintro e w1 ⟨rfl, hb1⟩; obtain ⟨ext1, d1, rfl⟩ := Below.grown_eq W1 (Below.own (by repeat (first | exact Below.refl _ _ | assumption | refine Below.drew ?_ | refine Below.drewN' ?_ _ | refine below_grow0 _ _ ?_ | refine below_alloc0 _ ?_ | refine Below.alloc ?_ (by first | omega | (simp; done) | (simp; omega)) _ | refine Below.setCell ?_ (by first | omega | (simp; done) | (simp; omega)) _ | refine Below.grow _ _ _ ?_ (by first | omega | (simp; done) | (simp; omega)))) hb1); clear hb1 HG))
    go_ret
    refine ⟨rfl, ?_⟩
    rw [HBE.out]
    exact HB1.out.trans (Below.mono (show Below W1.heap.size W1 _ from (by repeat (first | exact Below.refl _ _ | assumption | refine Below.drew ?_ | refine Below.drewN' ?_ _ | refine below_grow0 _ _ ?_ | refine below_alloc0 _ ?_ | refine Below.alloc ?_ (by first | omega | (simp; done) | (simp; omega)) _ | refine Below.setCell ?_ (by first | omega | (simp; done) | (simp; omega)) _ | refine Below.grow _ _ _ ?_ (by first | omega | (simp; done) | (simp; omega))))) HW1.out)
namespace wireBack
theorem own : ownKnob Tryd.prog.godebug = none := by kernel_rfl
theorem laidOut : laidOutB Tryd.prog = true := by kernel_rfl
set_option maxRecDepth 100000 in
set_option maxHeartbeats 1000000 in
theorem lifted (os : Os) (started : os.Started) (H : Type) (enc : TypeId × Value → H) :
    ReturnsInHanded {} Tryd.checked os 7 .any (fun w args => (Rows.wireBackSpec.pre enc Tryd.prog Tryd.f7 Rows.wireBackRow.domain false w args ∧ laidMetH Tryd.prog Rows.wireBackRow.laid w) ∧ sizedMet enc Tryd.prog Tryd.f7 (OpenSpec.ofChange Rows.wireBackSpec) false w args) (Rows.wireBackSpec.post enc Tryd.prog Tryd.f7 false true false false) := by
  refine returnsInHanded_of_change_and (C := Tryd.checked) (X := fun w _ => laidMetH Tryd.prog Rows.wireBackRow.laid w) (fun _ _ _ hh h => h.of_heap hh) own started (by kernel_rfl) Tryd.func7
    (ChangeSpec.witness_shaped (enc := enc) (C := Tryd.checked) (os := os) (X := fun w _ => laidMetH Tryd.prog Rows.wireBackRow.laid w) false (World.laidAll Tryd.prog os Rows.wireBackRow.laid) #[.agg #[.int .i64 0, .int .i64 0, .int .i64 0, .string ByteArray.empty, .string ByteArray.empty, .int .i64 0, .int .i64 0], .string ByteArray.empty] 8 (World.laidAll_os _ _ _)
      (World.shaped_of_ZipB (by kernel_rfl) (by kernel_rfl)) (by kernel_rfl) (by kernel_rfl) (by kernel_rfl)
      (by rw [MakeChecks.laidMetH_plain _ _ _ (by kernel_rfl)]; exact laidMet_laidAll _ (by kernel_rfl) (by kernel_rfl))) ?_
  intro W base args ds gs before hval0 hW0 _ hsz0 hL _
  have hval : ∀ (j : Nat) t v, Tryd.f7.params[j]? = some t → args[j]? = some v → Value.okWide Tryd.prog W .any base t v := hval0
  have hW : DataW.Whole enc Tryd.prog Tryd.f7.params.toList Rows.wireBackSpec.vars false W args.toList ds gs before := hW0
  have hlt : ∀ p ∈ before, p.block < W.heap.size := fun p hp => hW.lt p hp
  have hW1 := hW
  obtain ⟨p, q, hA0, hV, rfl, hfz, hnd⟩ := hW1
  have hA : DataW.TrodAll enc Tryd.prog W 0 (fun _ => true) true Tryd.f7.params.toList args.toList ds p := hA0
  obtain ⟨rfl, rfl⟩ := trodVars_none hV
  rw [Tryd.params7] at hA hval
  obtain ⟨v0, vs0, d0, ds0, p0, q0, hargs, rfl, rfl, h0, r0⟩ := trodAll_cons hA
  obtain ⟨v1, vs1, d1, ds1, p1, q1, rfl, rfl, rfl, h1, r1⟩ := trodAll_cons r0
  obtain ⟨rfl, rfl, rfl⟩ := trodAll_nil r1
  obtain rfl : args = #[v0, v1] := by cases args; simp_all
  have hsz : (DataW.weightsEach Tryd.prog [42, 9] [d0, d1]).all (· ≤ reachBytes) = true := hsz0
  have close : ∀ e W', (e = Ending.returned (.bool true) ∧ Below W.heap.size W W') → ∃ v, e = .returned v ∧ Rows.wireBackSpec.post enc Tryd.prog Tryd.f7 false true false false W #[v0, v1] v W' :=
    fun e W' ⟨he, hb⟩ => ⟨_, he, law_post laidOut (of_decide_eq_true (by kernel_rfl)) rfl rfl Tryd.underlying4 hW rfl hb⟩
  clear hA0 hsz0 hval0 hW0 hA hV hW hfz hnd
  obtain ⟨cs0, rfl, hf0⟩ := open_flat (ks := [.i .i64, .i .i64, .i .i64, .s, .s, .i .i64, .i .i64]) 9 Tryd.underlying42 (by kernel_rfl) (hval 0 42 v0 rfl rfl) h0
  obtain ⟨a1, rfl, hd1, _, wf1⟩ := Go.ChangeMaps.open_string Tryd.underlying9 (hval 1 9 v1 rfl rfl) h1
  have rb1 : a1.size ≤ 140737488351232 := by subst hd1; have := sized_string hsz (j := 1) rfl rfl; simpa [reachBytes] using this
  obtain ⟨t, ht, hto⟩ := fitsTxn hf0
  subst ht
  have hp : t.path.size ≤ 9223372036854775807 := by have := hto.2.2.2.1; simpa [maxLen] using this
  exact (wireBack_ok t a1 W hp rb1).mono close
theorem proved : Rows.WireBackSaid :=
  OpenClaim.holds_of_wide 7 Tryd.f7 rfl rfl rfl rfl rfl rfl rfl ⟨rfl, rfl, rfl, rfl, rfl⟩ rfl rfl rfl rfl rfl (by kernel_rfl) Tryd.func7 (by kernel_rfl)
    (of_decide_eq_true (by kernel_rfl)) (by unfold Func.isWrapper; first | (rw [if_pos (by decide +kernel)]; kernel_rfl) | (rw [if_neg (by decide +kernel)]; exact ⟨rfl, rfl⟩))
    (fun os started H enc _ => lifted os started H enc)
theorem card : Rows.WireBackCardSaid :=
  Claim7.holds_tied_plain_at .later [] Rows.wireBackCard.laidKinds true Rows.wireBackCard.stood.harness false
    proved (fun _ h => by cases h) (by kernel_rfl) (fun _ h => by cases h) wireBack_row_tie rfl ⟨rfl, rfl⟩ (by kernel_rfl) rfl
    (fun f fn hf hfn => by
      obtain rfl : f = 7 := Option.some.inj ((show Tryd.prog.funcNamed "aviary/aviarykeep.WireBack" = some 7 by kernel_rfl).symm.trans hf) |>.symm
      obtain rfl : fn = Tryd.f7 := (Option.some.inj (Tryd.func7.symm.trans hfn)).symm
      exact ⟨by kernel_rfl, fun j t ht => by
        rw [Tryd.params7] at ht
        have hm : t ∈ [42, 9] := by simpa using Array.mem_of_getElem? ht
        have hall : ([42, 9].all fun u => !Tryd.prog.wantsStandIn u) = true := by kernel_rfl
        exact (show Tryd.prog.wantsStandIn t = false by simpa using List.all_eq_true.1 hall t hm)⟩)
    (by kernel_rfl)
end wireBack
end Go.Proofs.YtkogdnkifnhljaaDoor
