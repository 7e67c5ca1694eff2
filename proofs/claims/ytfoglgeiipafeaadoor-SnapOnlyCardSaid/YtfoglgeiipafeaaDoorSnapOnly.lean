/- The law SnapOnly is true for every input; no conditions. -/
import Derived.Test.YtfoglgeiipafeaaDoorCards
import Derived.Test.YtfoglgeiipafeaaDoorTie
import Derived.Lay
import Derived.LaidMore
import Derived.SevenTiedAt
import Derived.Test.YtfoglgeiipafeaaDoorPt1
import Derived.Test.YtfoglgeiipafeaaDoorPt2
import Derived.Test.YtfoglgeiipafeaaDoorPt3
import Derived.Test.YtfoglgeiipafeaaDoorPt4
import Derived.Test.YtfoglgeiipafeaaDoorPt5
import Derived.Test.YtfoglgeiipafeaaDoorPt6
namespace Go.Proofs.YtfoglgeiipafeaaDoor
open Go.RowKit Go.ChangeShapes Go.WideShapes Go.ChangeAt
theorem read_ok {s : ByteArray} {t : Tr} (h : readS s = (t, 0)) (hs : s.size ≤ 4611686018427387904) (w : World) :
    Calls Tryd.prog 11 #[.string s] w fun e w' => ∃ An cn As cs, e = .returned (.tuple #[.agg #[.int .i64 t.zxid, .slice An t.nodes.length cn, .slice As t.sess.length cs], .int .i64 0]) ∧ Sl cNode 9 w' (.slice An t.nodes.length cn) t.nodes ∧ Sl cInt 1 w' (.slice As t.sess.length cs) t.sess ∧ Below w.heap.size w w' := by
  have h1 := trRead s w hs
  rw [h] at h1
  refine h1.mono ?_
  rintro e w' ⟨vn, vs, rfl, hn, hs, hb⟩
  obtain ⟨An, cn, rfl, _⟩ := hn.form
  obtain ⟨As, cs, rfl, _⟩ := hs.form
  exact ⟨An, cn, As, cs, rfl, hn, hs, hb⟩
set_option maxHeartbeats 2000000 in
theorem snapOnly_ok (s : ByteArray) (w : World) (hs : s.size ≤ 4611686018427387904) :
    Calls Tryd.prog 4 #[.string s] w fun e w' => e = .returned (.bool true) ∧ Below w.heap.size w w' := by
  have HS := Lib.hid (fun w => snaps_is w)
  rcases read_inv s with ⟨t, hg, hr, hb⟩ | ⟨x, hx, hr⟩
  · have HR := Lib.hid (fun w => read_ok hr hs w)
    have hok := snap_ok hg
    have e : writeS t = (s, 0) := by
      unfold writeS
      rw [hg, ← hb, bS_bs]
      rfl
    have hk1 := hok.ns
    have hk2 := fun n hn => (hok.n n hn).1
    clear hr hb hok
    obtain ⟨z, l, ss⟩ := t
    dsimp only at *
    have HW := Lib.hid (fun v v2 w (h : Sl cNode 9 w v l) (h2 : Sl cInt 1 w v2 ss) => trWrite z v v2 l ss w h h2 (by omega) (fun n hn => by have := hk2 n hn; omega))
    have HG := Lib.hid (fun v v2 w (h : Sl cNode 9 w v l) (h2 : Sl cInt 1 w v2 ss) => trGood z v v2 l ss w h h2 (by omega) (fun n hn => by have := hk2 n hn; omega))
    rw [e] at HW
    rw [hg] at HG
    clear e hg hk1 hk2
    go_enter Tryd.func4, Tryd.ntmps4
    go_upto_region 2 with (go_at_call 11; (with_reducible refine (HR.out _).mono ?_); rintro e w5 ⟨An, cn, As, cs, rfl, hn5, hs5, hb5⟩; have HB5 := Lib.hid hb5; clear hb5 HR)
    refine gen_w (fun W1 hW1 => ?_)
    have q0 : W1.cell? ⟨w5.heap.size, 0, none⟩ = some (.int .i64 z) := by rw [hW1.out]; go_simp
    have q1 : W1.cell? ⟨w5.heap.size, 1, none⟩ = some (.slice An l.length cn) := by rw [hW1.out]; go_simp
    have q2 : W1.cell? ⟨w5.heap.size, 2, none⟩ = some (.slice As ss.length cs) := by rw [hW1.out]; go_simp
    have hlt : w5.heap.size < W1.heap.size := by rw [hW1.out]; simp
    have hb1 : Below w5.heap.size w5 W1 := by rw [hW1.out]; exact (by repeat (first | with_reducible exact Below.refl _ _ | with_reducible assumption | with_reducible exact below_d1 _ _ _ _ _ | with_reducible exact below_d2 _ _ _ _ _ _ _ _ | with_reducible exact below_d3 _ _ _ _ _ | with_reducible exact below_d4 _ _ _ _ _ _ _ _ | with_reducible exact below_d5 _ _ | with_reducible refine Below.drew ?_ | with_reducible refine Below.drewN' ?_ _ | with_reducible refine below_grow0 _ _ ?_ | with_reducible refine below_alloc0 _ ?_ | with_reducible refine Below.setCell ?_ ?_ _ | with_reducible refine Below.alloc ?_ ?_ _ | with_reducible refine Below.grow _ _ _ ?_ ?_ | omega | (simp; done) | (simp; omega)))
    have HB1 : Hid (Below w.heap.size w W1) := Lib.hid (HB5.out.trans (hb1.mono HB5.out.size))
    have HN := Lib.hid (hn5.below hb1)
    have HI := Lib.hid (hs5.below hb1)
    clear hn5 hs5
    clear hb1 hW1
    go_wp2_with (first | (go_at_call 9; (with_reducible refine (HS.out _).mono ?_); rintro e w6 ⟨rfl, hb4⟩; obtain ⟨ext6, d6, rfl⟩ := Below.grown_eq W1 (Below.own (by repeat (first | with_reducible exact Below.refl _ _ | with_reducible assumption | with_reducible exact below_d1 _ _ _ _ _ | with_reducible exact below_d2 _ _ _ _ _ _ _ _ | with_reducible exact below_d3 _ _ _ _ _ | with_reducible exact below_d4 _ _ _ _ _ _ _ _ | with_reducible exact below_d5 _ _ | with_reducible refine Below.drew ?_ | with_reducible refine Below.drewN' ?_ _ | with_reducible refine below_grow0 _ _ ?_ | with_reducible refine below_alloc0 _ ?_ | with_reducible refine Below.setCell ?_ ?_ _ | with_reducible refine Below.alloc ?_ ?_ _ | with_reducible refine Below.grow _ _ _ ?_ ?_ | omega | (simp; done) | (simp; omega))) hb4); clear hb4 HS) | (go_at_call 7; (with_reducible refine (HW.out _ _ _ (HN.out.below (by repeat (first | with_reducible exact Below.refl _ _ | with_reducible assumption | with_reducible exact below_d1 _ _ _ _ _ | with_reducible exact below_d2 _ _ _ _ _ _ _ _ | with_reducible exact below_d3 _ _ _ _ _ | with_reducible exact below_d4 _ _ _ _ _ _ _ _ | with_reducible exact below_d5 _ _ | with_reducible refine Below.drew ?_ | with_reducible refine Below.drewN' ?_ _ | with_reducible refine below_grow0 _ _ ?_ | with_reducible refine below_alloc0 _ ?_ | with_reducible refine Below.setCell ?_ ?_ _ | with_reducible refine Below.alloc ?_ ?_ _ | with_reducible refine Below.grow _ _ _ ?_ ?_ | omega | (simp; done) | (simp; omega)))) (HI.out.below (by repeat (first | with_reducible exact Below.refl _ _ | with_reducible assumption | with_reducible exact below_d1 _ _ _ _ _ | with_reducible exact below_d2 _ _ _ _ _ _ _ _ | with_reducible exact below_d3 _ _ _ _ _ | with_reducible exact below_d4 _ _ _ _ _ _ _ _ | with_reducible exact below_d5 _ _ | with_reducible refine Below.drew ?_ | with_reducible refine Below.drewN' ?_ _ | with_reducible refine below_grow0 _ _ ?_ | with_reducible refine below_alloc0 _ ?_ | with_reducible refine Below.setCell ?_ ?_ _ | with_reducible refine Below.alloc ?_ ?_ _ | with_reducible refine Below.grow _ _ _ ?_ ?_ | omega | (simp; done) | (simp; omega))))).mono ?_); rintro e w3 ⟨rfl, hb3⟩; obtain ⟨ext3, d3, rfl⟩ := Below.grown_eq W1 (Below.own (by repeat (first | with_reducible exact Below.refl _ _ | with_reducible assumption | with_reducible exact below_d1 _ _ _ _ _ | with_reducible exact below_d2 _ _ _ _ _ _ _ _ | with_reducible exact below_d3 _ _ _ _ _ | with_reducible exact below_d4 _ _ _ _ _ _ _ _ | with_reducible exact below_d5 _ _ | with_reducible refine Below.drew ?_ | with_reducible refine Below.drewN' ?_ _ | with_reducible refine below_grow0 _ _ ?_ | with_reducible refine below_alloc0 _ ?_ | with_reducible refine Below.setCell ?_ ?_ _ | with_reducible refine Below.alloc ?_ ?_ _ | with_reducible refine Below.grow _ _ _ ?_ ?_ | omega | (simp; done) | (simp; omega))) hb3); clear hb3 HW) | (go_at_call 10; (with_reducible refine (HG.out _ _ _ (HN.out.below (by repeat (first | with_reducible exact Below.refl _ _ | with_reducible assumption | with_reducible exact below_d1 _ _ _ _ _ | with_reducible exact below_d2 _ _ _ _ _ _ _ _ | with_reducible exact below_d3 _ _ _ _ _ | with_reducible exact below_d4 _ _ _ _ _ _ _ _ | with_reducible exact below_d5 _ _ | with_reducible refine Below.drew ?_ | with_reducible refine Below.drewN' ?_ _ | with_reducible refine below_grow0 _ _ ?_ | with_reducible refine below_alloc0 _ ?_ | with_reducible refine Below.setCell ?_ ?_ _ | with_reducible refine Below.alloc ?_ ?_ _ | with_reducible refine Below.grow _ _ _ ?_ ?_ | omega | (simp; done) | (simp; omega)))) (HI.out.below (by repeat (first | with_reducible exact Below.refl _ _ | with_reducible assumption | with_reducible exact below_d1 _ _ _ _ _ | with_reducible exact below_d2 _ _ _ _ _ _ _ _ | with_reducible exact below_d3 _ _ _ _ _ | with_reducible exact below_d4 _ _ _ _ _ _ _ _ | with_reducible exact below_d5 _ _ | with_reducible refine Below.drew ?_ | with_reducible refine Below.drewN' ?_ _ | with_reducible refine below_grow0 _ _ ?_ | with_reducible refine below_alloc0 _ ?_ | with_reducible refine Below.setCell ?_ ?_ _ | with_reducible refine Below.alloc ?_ ?_ _ | with_reducible refine Below.grow _ _ _ ?_ ?_ | omega | (simp; done) | (simp; omega))))).mono ?_); rintro e w4 ⟨rfl, hb4⟩; obtain ⟨ext4, d4, rfl⟩ := Below.grown_eq W1 (Below.own (by repeat (first | with_reducible exact Below.refl _ _ | with_reducible assumption | with_reducible exact below_d1 _ _ _ _ _ | with_reducible exact below_d2 _ _ _ _ _ _ _ _ | with_reducible exact below_d3 _ _ _ _ _ | with_reducible exact below_d4 _ _ _ _ _ _ _ _ | with_reducible exact below_d5 _ _ | with_reducible refine Below.drew ?_ | with_reducible refine Below.drewN' ?_ _ | with_reducible refine below_grow0 _ _ ?_ | with_reducible refine below_alloc0 _ ?_ | with_reducible refine Below.setCell ?_ ?_ _ | with_reducible refine Below.alloc ?_ ?_ _ | with_reducible refine Below.grow _ _ _ ?_ ?_ | omega | (simp; done) | (simp; omega))) hb4); clear hb4 HG))
    go_ret
    exact ⟨rfl, HB1.out.trans (Below.mono (show Below W1.heap.size W1 _ from (by repeat (first | with_reducible exact Below.refl _ _ | with_reducible assumption | with_reducible exact below_d1 _ _ _ _ _ | with_reducible exact below_d2 _ _ _ _ _ _ _ _ | with_reducible exact below_d3 _ _ _ _ _ | with_reducible exact below_d4 _ _ _ _ _ _ _ _ | with_reducible exact below_d5 _ _ | with_reducible refine Below.drew ?_ | with_reducible refine Below.drewN' ?_ _ | with_reducible refine below_grow0 _ _ ?_ | with_reducible refine below_alloc0 _ ?_ | with_reducible refine Below.setCell ?_ ?_ _ | with_reducible refine Below.alloc ?_ ?_ _ | with_reducible refine Below.grow _ _ _ ?_ ?_ | omega | (simp; done) | (simp; omega)))) HB1.out.size)⟩
  · have HR := Lib.hid (fun w => read_err hr hs w)
    have hx1 : (x != 0) = true := bne_iff_ne.2 hx
    have hx2 : (x == 0) = false := beq_eq_false_iff_ne.2 hx
    clear hr
    go_enter Tryd.func4, Tryd.ntmps4
    go_upto_region 2 with (go_at_call 11; (with_reducible refine (HR.out _).mono ?_); rintro e w5 ⟨An, cn, As, cs, rfl, hb5⟩; have HB5 := Lib.hid hb5; clear hb5 HR)
    refine gen_w (fun W1 hW1 => ?_)
    have q0 : W1.cell? ⟨w5.heap.size, 0, none⟩ = some (.int .i64 0) := by rw [hW1.out]; go_simp
    have q1 : W1.cell? ⟨w5.heap.size, 1, none⟩ = some (.slice An 0 cn) := by rw [hW1.out]; go_simp
    have q2 : W1.cell? ⟨w5.heap.size, 2, none⟩ = some (.slice As 0 cs) := by rw [hW1.out]; go_simp
    have hlt : w5.heap.size < W1.heap.size := by rw [hW1.out]; simp
    have hb1 : Below w5.heap.size w5 W1 := by rw [hW1.out]; exact (by repeat (first | with_reducible exact Below.refl _ _ | with_reducible assumption | with_reducible exact below_d1 _ _ _ _ _ | with_reducible exact below_d2 _ _ _ _ _ _ _ _ | with_reducible exact below_d3 _ _ _ _ _ | with_reducible exact below_d4 _ _ _ _ _ _ _ _ | with_reducible exact below_d5 _ _ | with_reducible refine Below.drew ?_ | with_reducible refine Below.drewN' ?_ _ | with_reducible refine below_grow0 _ _ ?_ | with_reducible refine below_alloc0 _ ?_ | with_reducible refine Below.setCell ?_ ?_ _ | with_reducible refine Below.alloc ?_ ?_ _ | with_reducible refine Below.grow _ _ _ ?_ ?_ | omega | (simp; done) | (simp; omega)))
    have HB1 : Hid (Below w.heap.size w W1) := Lib.hid (HB5.out.trans (hb1.mono HB5.out.size))
    clear hb1 hW1
    go_wp2_with ((go_at_call 9; (with_reducible refine (HS.out _).mono ?_); rintro e w6 ⟨rfl, hb4⟩; obtain ⟨ext6, d6, rfl⟩ := Below.grown_eq W1 (Below.own (by repeat (first | with_reducible exact Below.refl _ _ | with_reducible assumption | with_reducible exact below_d1 _ _ _ _ _ | with_reducible exact below_d2 _ _ _ _ _ _ _ _ | with_reducible exact below_d3 _ _ _ _ _ | with_reducible exact below_d4 _ _ _ _ _ _ _ _ | with_reducible exact below_d5 _ _ | with_reducible refine Below.drew ?_ | with_reducible refine Below.drewN' ?_ _ | with_reducible refine below_grow0 _ _ ?_ | with_reducible refine below_alloc0 _ ?_ | with_reducible refine Below.setCell ?_ ?_ _ | with_reducible refine Below.alloc ?_ ?_ _ | with_reducible refine Below.grow _ _ _ ?_ ?_ | omega | (simp; done) | (simp; omega))) hb4); clear hb4 HS))
    go_ret
    exact ⟨rfl, HB1.out.trans (Below.mono (show Below W1.heap.size W1 _ from (by repeat (first | with_reducible exact Below.refl _ _ | with_reducible assumption | with_reducible exact below_d1 _ _ _ _ _ | with_reducible exact below_d2 _ _ _ _ _ _ _ _ | with_reducible exact below_d3 _ _ _ _ _ | with_reducible exact below_d4 _ _ _ _ _ _ _ _ | with_reducible exact below_d5 _ _ | with_reducible refine Below.drew ?_ | with_reducible refine Below.drewN' ?_ _ | with_reducible refine below_grow0 _ _ ?_ | with_reducible refine below_alloc0 _ ?_ | with_reducible refine Below.setCell ?_ ?_ _ | with_reducible refine Below.alloc ?_ ?_ _ | with_reducible refine Below.grow _ _ _ ?_ ?_ | omega | (simp; done) | (simp; omega)))) HB1.out.size)⟩
namespace snapOnly
theorem own : ownKnob Tryd.prog.godebug = none := by kernel_rfl
theorem laidOut : laidOutB Tryd.prog = true := by kernel_rfl
set_option maxRecDepth 100000 in
set_option maxHeartbeats 1000000 in
theorem lifted (os : Os) (started : os.Started) (H : Type) (enc : TypeId × Value → H) :
    ReturnsInHanded {} Tryd.checked os 4 .any (fun w args => (Rows.snapOnlySpec.pre enc Tryd.prog Tryd.f4 Rows.snapOnlyRow.domain false w args ∧ laidMetH Tryd.prog Rows.snapOnlyRow.laid w) ∧ sizedMet enc Tryd.prog Tryd.f4 (OpenSpec.ofChange Rows.snapOnlySpec) false w args) (Rows.snapOnlySpec.post enc Tryd.prog Tryd.f4 false true false false) := by
  refine returnsInHanded_of_change_and (C := Tryd.checked) (X := fun w _ => laidMetH Tryd.prog Rows.snapOnlyRow.laid w) (fun _ _ _ hh h => h.of_heap hh) own started (by kernel_rfl) Tryd.func4
    (ChangeSpec.witness_shaped (enc := enc) (C := Tryd.checked) (os := os) (X := fun w _ => laidMetH Tryd.prog Rows.snapOnlyRow.laid w) false (World.laidAll Tryd.prog os Rows.snapOnlyRow.laid) #[.string ByteArray.empty] 8 (World.laidAll_os _ _ _)
      (World.shaped_of_ZipB (by kernel_rfl) (by kernel_rfl)) (by kernel_rfl) (by kernel_rfl) (by kernel_rfl)
      (by rw [MakeChecks.laidMetH_plain _ _ _ (by kernel_rfl)]; exact laidMet_laidAll _ (by kernel_rfl) (by kernel_rfl))) ?_
  intro W base args ds gs before hval0 hW0 _ hsz0 hL _
  have hval : ∀ (j : Nat) t v, Tryd.f4.params[j]? = some t → args[j]? = some v → Value.okWide Tryd.prog W .any base t v := hval0
  have hW : DataW.Whole enc Tryd.prog Tryd.f4.params.toList Rows.snapOnlySpec.vars false W args.toList ds gs before := hW0
  have hlt : ∀ p ∈ before, p.block < W.heap.size := fun p hp => hW.lt p hp
  have hW1 := hW
  obtain ⟨p, q, hA0, hV, rfl, hfz, hnd⟩ := hW1
  have hA : DataW.TrodAll enc Tryd.prog W 0 (fun _ => true) true Tryd.f4.params.toList args.toList ds p := hA0
  obtain ⟨rfl, rfl⟩ := trodVars_none hV
  rw [Tryd.params4] at hA hval
  obtain ⟨v0, vs0, d0, ds0, p0, q0, hargs, rfl, rfl, h0, r0⟩ := trodAll_cons hA
  obtain ⟨rfl, rfl, rfl⟩ := trodAll_nil r0
  obtain rfl : args = #[v0] := by cases args; simp_all
  have hsz : (DataW.weightsEach Tryd.prog [9] [d0]).all (· ≤ reachBytes) = true := hsz0
  have close : ∀ e W', (e = Ending.returned (.bool true) ∧ Below W.heap.size W W') → ∃ v, e = .returned v ∧ Rows.snapOnlySpec.post enc Tryd.prog Tryd.f4 false true false false W #[v0] v W' :=
    fun e W' ⟨he, hb⟩ => ⟨_, he, law_post laidOut (of_decide_eq_true (by kernel_rfl)) rfl rfl Tryd.underlying4 hW rfl hb⟩
  clear hA0 hsz0 hval0 hW0 hA hV hW hfz hnd
  obtain ⟨a0, rfl, hd0, _, wf0⟩ := Go.ChangeMaps.open_string Tryd.underlying9 (hval 0 9 v0 rfl rfl) h0
  have rb0 : a0.size ≤ 140737488351232 := by subst hd0; have := sized_string hsz (j := 0) rfl rfl; simpa [reachBytes] using this
  exact (snapOnly_ok a0 W (by omega)).mono close
theorem proved : Rows.SnapOnlySaid :=
  OpenClaim.holds_of_wide 4 Tryd.f4 rfl rfl rfl rfl rfl rfl rfl ⟨rfl, rfl, rfl, rfl, rfl⟩ rfl rfl rfl rfl rfl (by kernel_rfl) Tryd.func4 (by kernel_rfl)
    (of_decide_eq_true (by kernel_rfl)) (by unfold Func.isWrapper; first | (rw [if_pos (by decide +kernel)]; kernel_rfl) | (rw [if_neg (by decide +kernel)]; exact ⟨rfl, rfl⟩))
    (fun os started H enc _ => lifted os started H enc)
theorem card : Rows.SnapOnlyCardSaid :=
  Claim7.holds_tied_plain_at .later [] Rows.snapOnlyCard.laidKinds true Rows.snapOnlyCard.stood.harness false
    proved (fun _ h => by cases h) (by kernel_rfl) (fun _ h => by cases h) snapOnly_row_tie rfl ⟨rfl, rfl⟩ (by kernel_rfl) rfl
    (fun f fn hf hfn => by
      obtain rfl : f = 4 := Option.some.inj ((show Tryd.prog.funcNamed "aviary/aviarykeep.SnapOnly" = some 4 by kernel_rfl).symm.trans hf) |>.symm
      obtain rfl : fn = Tryd.f4 := (Option.some.inj (Tryd.func4.symm.trans hfn)).symm
      exact ⟨by kernel_rfl, fun j t ht => by
        rw [Tryd.params4] at ht
        have hm : t ∈ [9] := by simpa using Array.mem_of_getElem? ht
        have hall : ([9].all fun u => !Tryd.prog.wantsStandIn u) = true := by kernel_rfl
        exact (show Tryd.prog.wantsStandIn t = false by simpa using List.all_eq_true.1 hall t hm)⟩)
    (by kernel_rfl)
end snapOnly
end Go.Proofs.YtfoglgeiipafeaaDoor
