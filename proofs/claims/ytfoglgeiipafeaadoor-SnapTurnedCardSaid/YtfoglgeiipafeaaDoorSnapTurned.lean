/- The law SnapTurned is true for every input; no conditions. -/
import Derived.Test.YtfoglgeiipafeaaDoorCards
import Derived.Test.YtfoglgeiipafeaaDoorTie
import Derived.Lay
import Derived.LaidMore
import Derived.SevenTiedAt
import Derived.Test.YtfoglgeiipafeaaDoorPt1
import Derived.Test.YtfoglgeiipafeaaDoorPt2
import Derived.Test.YtfoglgeiipafeaaDoorPt3
import Derived.Test.YtfoglgeiipafeaaDoorPt4
import Derived.Test.YtfoglgeiipafeaaDoorPt5
import Derived.Test.YtfoglgeiipafeaaDoorPt6
import Derived.Test.YtfoglgeiipafeaaDoorPt7
namespace Go.Proofs.YtfoglgeiipafeaaDoor
open Go.RowKit Go.ChangeShapes Go.WideShapes Go.ChangeAt
set_option maxHeartbeats 2000000 in
theorem snapTurned_ok (z : Int) (v v2 : Value) (l : List Node) (ss : List Int) (k : Int) (b : Nat) (w : World) (h : Sl cNode 9 w v l) (h2 : Sl cInt 1 w v2 ss) (hn : l.length * 88 ≤ 140737488355328) (hn2 : ss.length * 8 ≤ 140737488355328) (hz : ∀ n ∈ l, n.path.size ≤ 9223372036854775807) (hb : b < 256) :
    Calls Tryd.prog 5 #[.agg #[.int .i64 z, v, v2], .int .i64 k, .int .u8 b] w fun e w' => e = .returned (.bool true) ∧ Below w.heap.size w w' := by
  obtain ⟨A, c, rfl, _, _⟩ := h.form
  obtain ⟨A2, c2, rfl, _, _⟩ := h2.form
  have H := Lib.hid h
  have H2 := Lib.hid h2
  clear h h2
  have HO := Lib.hid (fun (W : World) (h : Sl cNode 9 W (.slice A l.length c) l) (h2 : Sl cInt 1 W (.slice A2 ss.length c2) ss) => lawOwn z _ _ l ss W h h2 hn hn2)
  unfold TrIs at HO
  dsimp only at HO
  have HW := Lib.hid (fun v v2 w (h : Sl cNode 9 w v l) (h2 : Sl cInt 1 w v2 ss) => trWrite z v v2 l ss w h h2 (by omega) hz)
  have HS := Lib.hid (fun w => snaps_is w)
  cases hg : goodTree ⟨z, l, ss⟩ with
  | false =>
    have e : writeS ⟨z, l, ss⟩ = (⟨#[]⟩, 3) := by unfold writeS; rw [hg]; rfl
    rw [e] at HW
    simp only at HW
    clear e hg
    go_enter Tryd.func5, Tryd.ntmps5
    go_upto_region 1 with fail
    refine gen_w (fun W1 hW1 => ?_)
    have q0 : W1.cell? ⟨w.heap.size, 0, none⟩ = some (.int .i64 z) := by rw [hW1.out]; go_simp
    have q1 : W1.cell? ⟨w.heap.size, 1, none⟩ = some (.slice A l.length c) := by rw [hW1.out]; go_simp
    have q2 : W1.cell? ⟨w.heap.size, 2, none⟩ = some (.slice A2 ss.length c2) := by rw [hW1.out]; go_simp
    have hb1 : Below w.heap.size w W1 := by rw [hW1.out]; exact (by repeat (first | with_reducible exact Below.refl _ _ | with_reducible assumption | with_reducible exact below_d1 _ _ _ _ _ | with_reducible exact below_d2 _ _ _ _ _ _ _ _ | with_reducible exact below_d3 _ _ _ _ _ | with_reducible exact below_d4 _ _ _ _ _ _ _ _ | with_reducible exact below_d5 _ _ | with_reducible refine Below.drew ?_ | with_reducible refine Below.drewN' ?_ _ | with_reducible refine below_grow0 _ _ ?_ | with_reducible refine below_alloc0 _ ?_ | with_reducible refine Below.setCell ?_ ?_ _ | with_reducible refine Below.alloc ?_ ?_ _ | with_reducible refine Below.grow _ _ _ ?_ ?_ | omega | (simp; done) | (simp; omega)))
    have hlt : w.heap.size < W1.heap.size := by rw [hW1.out]; simp <;> omega
    have HN := Lib.hid (H.out.below hb1)
    have HI := Lib.hid (H2.out.below hb1)
    have HB1 := Lib.hid hb1
    clear hb1 hW1 H H2 hn hn2 hz
    go_wp2_with (first | (go_at_call 8; (with_reducible refine (HO.out _ HN.out HI.out).mono ?_); rintro e w2 ⟨A1, cA, A3, cB, rfl, ho2, hs2, hb2⟩; obtain ⟨ext2, d2, rfl⟩ := Below.grown_eq _ hb2; have HN2 := Lib.hid ho2.sl; have HI2 := Lib.hid hs2.sl; clear ho2 hs2 hb2 HO) | (go_at_call 7; (with_reducible refine (HW.out _ _ _ HN2.out HI2.out).mono ?_); rintro e w3 ⟨rfl, hb3⟩; obtain ⟨ext3, d3, rfl⟩ := Below.grown_eq W1 (Below.own (by repeat (first | with_reducible exact Below.refl _ _ | with_reducible assumption | with_reducible exact below_d1 _ _ _ _ _ | with_reducible exact below_d2 _ _ _ _ _ _ _ _ | with_reducible exact below_d3 _ _ _ _ _ | with_reducible exact below_d4 _ _ _ _ _ _ _ _ | with_reducible exact below_d5 _ _ | with_reducible refine Below.drew ?_ | with_reducible refine Below.drewN' ?_ _ | with_reducible refine below_grow0 _ _ ?_ | with_reducible refine below_alloc0 _ ?_ | with_reducible refine Below.setCell ?_ ?_ _ | with_reducible refine Below.alloc ?_ ?_ _ | with_reducible refine Below.grow _ _ _ ?_ ?_ | omega | (simp; done) | (simp; omega))) hb3); clear hb3 HW) | (go_at_call 9; (with_reducible refine (HS.out _).mono ?_); rintro e w6 ⟨rfl, hb4⟩; obtain ⟨ext6, d6, rfl⟩ := Below.grown_eq W1 (Below.own (by repeat (first | with_reducible exact Below.refl _ _ | with_reducible assumption | with_reducible exact below_d1 _ _ _ _ _ | with_reducible exact below_d2 _ _ _ _ _ _ _ _ | with_reducible exact below_d3 _ _ _ _ _ | with_reducible exact below_d4 _ _ _ _ _ _ _ _ | with_reducible exact below_d5 _ _ | with_reducible refine Below.drew ?_ | with_reducible refine Below.drewN' ?_ _ | with_reducible refine below_grow0 _ _ ?_ | with_reducible refine below_alloc0 _ ?_ | with_reducible refine Below.setCell ?_ ?_ _ | with_reducible refine Below.alloc ?_ ?_ _ | with_reducible refine Below.grow _ _ _ ?_ ?_ | omega | (simp; done) | (simp; omega))) hb4); clear hb4 HS))
    go_ret
    exact ⟨rfl, HB1.out.trans (Below.mono (show Below W1.heap.size W1 _ from (by repeat (first | with_reducible exact Below.refl _ _ | with_reducible assumption | with_reducible exact below_d1 _ _ _ _ _ | with_reducible exact below_d2 _ _ _ _ _ _ _ _ | with_reducible exact below_d3 _ _ _ _ _ | with_reducible exact below_d4 _ _ _ _ _ _ _ _ | with_reducible exact below_d5 _ _ | with_reducible refine Below.drew ?_ | with_reducible refine Below.drewN' ?_ _ | with_reducible refine below_grow0 _ _ ?_ | with_reducible refine below_alloc0 _ ?_ | with_reducible refine Below.setCell ?_ ?_ _ | with_reducible refine Below.alloc ?_ ?_ _ | with_reducible refine Below.grow _ _ _ ?_ ?_ | omega | (simp; done) | (simp; omega)))) HB1.out.size)⟩
  | true =>
    have e : writeS ⟨z, l, ss⟩ = (bS (snapBy ⟨z, l, ss⟩), 0) := by unfold writeS; rw [hg]; rfl
    rw [e] at HW
    simp only at HW
    have hl : (snapBy ⟨z, l, ss⟩).length ≤ 100000000000 := by
      have := body_le (snap_ok hg)
      unfold snapBy
      rw [List.length_append, be_length]
      omega
    have hl5 : 5 ≤ (snapBy ⟨z, l, ss⟩).length := by
      rw [snap_form, List.length_append, List.length_append, be_length, List.length_singleton]
      omega
    have HT := Lib.hid (fun i c c' => read_turned ⟨z, l, ss⟩ i c c')
    have hz2 := bS_size (snapBy ⟨z, l, ss⟩)
    clear e hg
    generalize snapBy ⟨z, l, ss⟩ = L at *
    have HU := Lib.hid (fun (i : Int) (W : World) (h0 : 0 ≤ i) (hi : i < (L.length : Int)) => turnedI L i b W h0 hi (by omega) hb)
    generalize hr : bS L = S at *
    clear hr
    go_enter Tryd.func5, Tryd.ntmps5
    go_upto_region 1 with fail
    refine gen_w (fun W1 hW1 => ?_)
    have q0 : W1.cell? ⟨w.heap.size, 0, none⟩ = some (.int .i64 z) := by rw [hW1.out]; go_simp
    have q1 : W1.cell? ⟨w.heap.size, 1, none⟩ = some (.slice A l.length c) := by rw [hW1.out]; go_simp
    have q2 : W1.cell? ⟨w.heap.size, 2, none⟩ = some (.slice A2 ss.length c2) := by rw [hW1.out]; go_simp
    have hb1 : Below w.heap.size w W1 := by rw [hW1.out]; exact (by repeat (first | with_reducible exact Below.refl _ _ | with_reducible assumption | with_reducible exact below_d1 _ _ _ _ _ | with_reducible exact below_d2 _ _ _ _ _ _ _ _ | with_reducible exact below_d3 _ _ _ _ _ | with_reducible exact below_d4 _ _ _ _ _ _ _ _ | with_reducible exact below_d5 _ _ | with_reducible refine Below.drew ?_ | with_reducible refine Below.drewN' ?_ _ | with_reducible refine below_grow0 _ _ ?_ | with_reducible refine below_alloc0 _ ?_ | with_reducible refine Below.setCell ?_ ?_ _ | with_reducible refine Below.alloc ?_ ?_ _ | with_reducible refine Below.grow _ _ _ ?_ ?_ | omega | (simp; done) | (simp; omega)))
    have hlt : w.heap.size < W1.heap.size := by rw [hW1.out]; simp <;> omega
    have HN := Lib.hid (H.out.below hb1)
    have HI := Lib.hid (H2.out.below hb1)
    have HB1 := Lib.hid hb1
    clear hb1 hW1 H H2 hn hn2 hz
    go_wp2_with (first | (go_at_call 8; (with_reducible refine (HO.out _ HN.out HI.out).mono ?_); rintro e w2 ⟨A1, cA, A3, cB, rfl, ho2, hs2, hb2⟩; obtain ⟨ext2, d2, rfl⟩ := Below.grown_eq _ hb2; have HN2 := Lib.hid ho2.sl; have HI2 := Lib.hid hs2.sl; clear ho2 hs2 hb2 HO) | (go_at_call 7; (with_reducible refine (HW.out _ _ _ HN2.out HI2.out).mono ?_); rintro e w3 ⟨rfl, hb3⟩; obtain ⟨ext3, d3, rfl⟩ := Below.grown_eq W1 (Below.own (by repeat (first | with_reducible exact Below.refl _ _ | with_reducible assumption | with_reducible exact below_d1 _ _ _ _ _ | with_reducible exact below_d2 _ _ _ _ _ _ _ _ | with_reducible exact below_d3 _ _ _ _ _ | with_reducible exact below_d4 _ _ _ _ _ _ _ _ | with_reducible exact below_d5 _ _ | with_reducible refine Below.drew ?_ | with_reducible refine Below.drewN' ?_ _ | with_reducible refine below_grow0 _ _ ?_ | with_reducible refine below_alloc0 _ ?_ | with_reducible refine Below.setCell ?_ ?_ _ | with_reducible refine Below.alloc ?_ ?_ _ | with_reducible refine Below.grow _ _ _ ?_ ?_ | omega | (simp; done) | (simp; omega))) hb3); clear hb3 HW) | (go_at_call 9; (with_reducible refine (HS.out _).mono ?_); rintro e w4 ⟨rfl, hb4⟩; obtain ⟨ext4, d4, rfl⟩ := Below.grown_eq W1 (Below.own (by repeat (first | with_reducible exact Below.refl _ _ | with_reducible assumption | with_reducible exact below_d1 _ _ _ _ _ | with_reducible exact below_d2 _ _ _ _ _ _ _ _ | with_reducible exact below_d3 _ _ _ _ _ | with_reducible exact below_d4 _ _ _ _ _ _ _ _ | with_reducible exact below_d5 _ _ | with_reducible refine Below.drew ?_ | with_reducible refine Below.drewN' ?_ _ | with_reducible refine below_grow0 _ _ ?_ | with_reducible refine below_alloc0 _ ?_ | with_reducible refine Below.setCell ?_ ?_ _ | with_reducible refine Below.alloc ?_ ?_ _ | with_reducible refine Below.grow _ _ _ ?_ ?_ | omega | (simp; done) | (simp; omega))) hb4); clear hb4 HS) | (go_at_call 14; (with_reducible refine (pickI _ _ _ (by omega) (by omega)).mono ?_); rintro e w7 ⟨f, hf, rfl, rfl⟩) | (go_at_call 13; (with_reducible refine (HU.out _ _ (by omega) (by omega)).mono ?_); rintro e w8 ⟨m, x, x', hm, hx, hne, rfl, hb8⟩; obtain ⟨ext8, d8, rfl⟩ := Below.grown_eq W1 (Below.own (by repeat (first | with_reducible exact Below.refl _ _ | with_reducible assumption | with_reducible exact below_d1 _ _ _ _ _ | with_reducible exact below_d2 _ _ _ _ _ _ _ _ | with_reducible exact below_d3 _ _ _ _ _ | with_reducible exact below_d4 _ _ _ _ _ _ _ _ | with_reducible exact below_d5 _ _ | with_reducible refine Below.drew ?_ | with_reducible refine Below.drewN' ?_ _ | with_reducible refine below_grow0 _ _ ?_ | with_reducible refine below_alloc0 _ ?_ | with_reducible refine Below.setCell ?_ ?_ _ | with_reducible refine Below.alloc ?_ ?_ _ | with_reducible refine Below.grow _ _ _ ?_ ?_ | omega | (simp; done) | (simp; omega))) hb8); clear hb8 HU; obtain rfl : m = f + 1 := (by omega); have HD := read_err (HT.out f x x' hx hne) (by have := (List.getElem?_eq_some_iff.1 hx).1; rw [bS_size]; simp <;> omega); generalize bS (List.take (f + 1) L ++ x' :: List.drop (f + 1 + 1) L) = u at *) | (go_at_call 11; (with_reducible refine (HD _).mono ?_); rintro e w5 ⟨An, cn, As, cs, rfl, hb5⟩; obtain ⟨ext5, d5, rfl⟩ := Below.grown_eq W1 (Below.own (by repeat (first | with_reducible exact Below.refl _ _ | with_reducible assumption | with_reducible exact below_d1 _ _ _ _ _ | with_reducible exact below_d2 _ _ _ _ _ _ _ _ | with_reducible exact below_d3 _ _ _ _ _ | with_reducible exact below_d4 _ _ _ _ _ _ _ _ | with_reducible exact below_d5 _ _ | with_reducible refine Below.drew ?_ | with_reducible refine Below.drewN' ?_ _ | with_reducible refine below_grow0 _ _ ?_ | with_reducible refine below_alloc0 _ ?_ | with_reducible refine Below.setCell ?_ ?_ _ | with_reducible refine Below.alloc ?_ ?_ _ | with_reducible refine Below.grow _ _ _ ?_ ?_ | omega | (simp; done) | (simp; omega))) hb5); clear hb5 HD))
    go_ret
    exact ⟨rfl, HB1.out.trans (Below.mono (show Below W1.heap.size W1 _ from (by repeat (first | with_reducible exact Below.refl _ _ | with_reducible assumption | with_reducible exact below_d1 _ _ _ _ _ | with_reducible exact below_d2 _ _ _ _ _ _ _ _ | with_reducible exact below_d3 _ _ _ _ _ | with_reducible exact below_d4 _ _ _ _ _ _ _ _ | with_reducible exact below_d5 _ _ | with_reducible refine Below.drew ?_ | with_reducible refine Below.drewN' ?_ _ | with_reducible refine below_grow0 _ _ ?_ | with_reducible refine below_alloc0 _ ?_ | with_reducible refine Below.setCell ?_ ?_ _ | with_reducible refine Below.alloc ?_ ?_ _ | with_reducible refine Below.grow _ _ _ ?_ ?_ | omega | (simp; done) | (simp; omega)))) HB1.out.size)⟩
namespace snapTurned
theorem own : ownKnob Tryd.prog.godebug = none := by kernel_rfl
theorem laidOut : laidOutB Tryd.prog = true := by kernel_rfl
set_option maxRecDepth 100000 in
set_option maxHeartbeats 1000000 in
theorem lifted (os : Os) (started : os.Started) (H : Type) (enc : TypeId × Value → H) :
    ReturnsInHanded {} Tryd.checked os 5 .any (fun w args => (Rows.snapTurnedSpec.pre enc Tryd.prog Tryd.f5 Rows.snapTurnedRow.domain false w args ∧ laidMetH Tryd.prog Rows.snapTurnedRow.laid w) ∧ sizedMet enc Tryd.prog Tryd.f5 (OpenSpec.ofChange Rows.snapTurnedSpec) false w args) (Rows.snapTurnedSpec.post enc Tryd.prog Tryd.f5 false true false false) := by
  refine returnsInHanded_of_change_and (C := Tryd.checked) (X := fun w _ => laidMetH Tryd.prog Rows.snapTurnedRow.laid w) (fun _ _ _ hh h => h.of_heap hh) own started (by kernel_rfl) Tryd.func5
    (ChangeSpec.witness_shaped (enc := enc) (C := Tryd.checked) (os := os) (X := fun w _ => laidMetH Tryd.prog Rows.snapTurnedRow.laid w) false (World.laidAll Tryd.prog os Rows.snapTurnedRow.laid) #[.agg #[.int .i64 0,.slice none 0 0,.slice none 0 0], .int .i64 0, .int .u8 0] 8 (World.laidAll_os _ _ _)
      (World.shaped_of_ZipB (by kernel_rfl) (by kernel_rfl)) (by kernel_rfl) (by kernel_rfl) (by kernel_rfl)
      (by rw [MakeChecks.laidMetH_plain _ _ _ (by kernel_rfl)]; exact laidMet_laidAll _ (by kernel_rfl) (by kernel_rfl))) ?_
  intro W base args ds gs before hval0 hW0 _ hsz0 hL _
  have hval : ∀ (j : Nat) t v, Tryd.f5.params[j]? = some t → args[j]? = some v → Value.okWide Tryd.prog W .any base t v := hval0
  have hW : DataW.Whole enc Tryd.prog Tryd.f5.params.toList Rows.snapTurnedSpec.vars false W args.toList ds gs before := hW0
  have hlt : ∀ p ∈ before, p.block < W.heap.size := fun p hp => hW.lt p hp
  have hW1 := hW
  obtain ⟨p, q, hA0, hV, rfl, hfz, hnd⟩ := hW1
  have hA : DataW.TrodAll enc Tryd.prog W 0 (fun _ => true) true Tryd.f5.params.toList args.toList ds p := hA0
  obtain ⟨rfl, rfl⟩ := trodVars_none hV
  rw [Tryd.params5] at hA hval
  obtain ⟨v0, vs0, d0, ds0, p0, q0, hargs, rfl, rfl, h0, r0⟩ := trodAll_cons hA
  obtain ⟨v1, vs1, d1, ds1, p1, q1, rfl, rfl, rfl, h1, r1⟩ := trodAll_cons r0
  obtain ⟨v2, vs2, d2, ds2, p2, q2, rfl, rfl, rfl, h2, r2⟩ := trodAll_cons r1
  obtain ⟨rfl, rfl, rfl⟩ := trodAll_nil r2
  obtain rfl : args = #[v0, v1, v2] := by cases args; simp_all
  have hsz : (DataW.weightsEach Tryd.prog [25, 3, 5] [d0, d1, d2]).all (· ≤ reachBytes) = true := hsz0
  have close : ∀ e W', (e = Ending.returned (.bool true) ∧ Below W.heap.size W W') → ∃ v, e = .returned v ∧ Rows.snapTurnedSpec.post enc Tryd.prog Tryd.f5 false true false false W #[v0, v1, v2] v W' :=
    fun e W' ⟨he, hb⟩ => ⟨_, he, law_post laidOut (of_decide_eq_true (by kernel_rfl)) rfl rfl Tryd.underlying4 hW rfl hb⟩
  clear hA0 hsz0 hval0 hW0 hA hV hW hfz hnd
  obtain ⟨a1, rfl, hd1, _, wf1⟩ := open_int Tryd.underlying3 (hval 1 3 v1 rfl rfl) h1
  obtain ⟨a2, rfl, hd2, _, wf2⟩ := open_int Tryd.underlying5 (hval 2 5 v2 rfl rfl) h2
  obtain ⟨cs, rfl, _⟩ := okWide_struct Tryd.underlying25 (hval 0 _ v0 rfl rfl)
  obtain ⟨z, v, v2, l, ss, hp, hN, hS, hz, hn, hn2⟩ := open_tree (n := 0) (open_deep 10 h0 (sized_arg hsz 0 rfl rfl))
  obtain rfl : cs = #[.int .i64 z, v, v2] := by simpa [Value.cells] using congrArg List.toArray hp
  have hb : 0 ≤ a2 ∧ a2 ≤ 255 := by simpa [Lit.wf, IntKind.min, IntKind.max, IntKind.signed, IntKind.bits] using wf2
  obtain ⟨b, rfl⟩ := Int.eq_ofNat_of_zero_le hb.1
  exact (snapTurned_ok z v v2 l ss a1 b W hN hS hn (by omega) hz (by omega)).mono close
theorem proved : Rows.SnapTurnedSaid :=
  OpenClaim.holds_of_wide 5 Tryd.f5 rfl rfl rfl rfl rfl rfl rfl ⟨rfl, rfl, rfl, rfl, rfl⟩ rfl rfl rfl rfl rfl (by kernel_rfl) Tryd.func5 (by kernel_rfl)
    (of_decide_eq_true (by kernel_rfl)) (by unfold Func.isWrapper; first | (rw [if_pos (by decide +kernel)]; kernel_rfl) | (rw [if_neg (by decide +kernel)]; exact ⟨rfl, rfl⟩))
    (fun os started H enc _ => lifted os started H enc)
theorem card : Rows.SnapTurnedCardSaid :=
  Claim7.holds_tied_plain_at .later [] Rows.snapTurnedCard.laidKinds true Rows.snapTurnedCard.stood.harness false
    proved (fun _ h => by cases h) (by kernel_rfl) (fun _ h => by cases h) snapTurned_row_tie rfl ⟨rfl, rfl⟩ (by kernel_rfl) rfl
    (fun f fn hf hfn => by
      obtain rfl : f = 5 := Option.some.inj ((show Tryd.prog.funcNamed "aviary/aviarykeep.SnapTurned" = some 5 by kernel_rfl).symm.trans hf) |>.symm
      obtain rfl : fn = Tryd.f5 := (Option.some.inj (Tryd.func5.symm.trans hfn)).symm
      exact ⟨by kernel_rfl, fun j t ht => by
        rw [Tryd.params5] at ht
        have hm : t ∈ [25, 3, 5] := by simpa using Array.mem_of_getElem? ht
        have hall : ([25, 3, 5].all fun u => !Tryd.prog.wantsStandIn u) = true := by kernel_rfl
        exact (show Tryd.prog.wantsStandIn t = false by simpa using List.all_eq_true.1 hall t hm)⟩)
    (by kernel_rfl)
end snapTurned
end Go.Proofs.YtfoglgeiipafeaaDoor
