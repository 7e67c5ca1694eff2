/- The law StoreReplays is true for every input; no conditions. -/
import Derived.Test.YtchgpijfebilbaaGreatDoorCards
import Derived.Test.YtchgpijfebilbaaGreatDoorTie
import Derived.Lay
import Derived.LaidMore
import Derived.SevenTiedAt
import Derived.Test.YtchgpijfebilbaaGreatDoorPt1
import Derived.Test.YtchgpijfebilbaaGreatDoorPt2
import Derived.Test.YtchgpijfebilbaaGreatDoorPt3
import Derived.Test.YtchgpijfebilbaaGreatDoorPt4
import Derived.Test.YtchgpijfebilbaaGreatDoorPt5
import Derived.Test.YtchgpijfebilbaaGreatDoorPt6
import Derived.Test.YtchgpijfebilbaaGreatDoorPt7
import Derived.Test.YtchgpijfebilbaaGreatDoorPt8
import Derived.Test.YtchgpijfebilbaaGreatDoorPt9
import Derived.Test.YtchgpijfebilbaaGreatDoorPt10
import Derived.Test.YtchgpijfebilbaaGreatDoorPt11
import Derived.Test.YtchgpijfebilbaaGreatDoorPt12
import Derived.Test.YtchgpijfebilbaaGreatDoorPt13
import Derived.Test.YtchgpijfebilbaaGreatDoorPt14
namespace Go.Proofs.YtchgpijfebilbaaGreatDoor
open Go.RowKit Go.ChangeShapes Go.WideShapes Go.ChangeAt
namespace storeReplays
theorem own : ownKnob Tryz.prog.godebug = none := by kernel_rfl
theorem laidOut : laidOutB Tryz.prog = true := by kernel_rfl
set_option maxRecDepth 100000 in
set_option maxHeartbeats 1000000 in
theorem lifted (os : Os) (started : os.Started) (H : Type) (enc : TypeId × Value → H) :
    ReturnsInHanded {} Tryz.checked os 3 .any (fun w args => (Rows.storeReplaysSpec.pre enc Tryz.prog Tryz.f3 Rows.storeReplaysRow.domain false w args ∧ laidMetH Tryz.prog Rows.storeReplaysRow.laid w) ∧ sizedMet enc Tryz.prog Tryz.f3 (OpenSpec.ofChange Rows.storeReplaysSpec) false w args) (Rows.storeReplaysSpec.post enc Tryz.prog Tryz.f3 false true false false) := by
  refine returnsInHanded_of_change_and (C := Tryz.checked) (X := fun w _ => laidMetH Tryz.prog Rows.storeReplaysRow.laid w) (fun _ _ _ hh h => h.of_heap hh) own started (by kernel_rfl) Tryz.func3
    (ChangeSpec.witness_shaped (enc := enc) (C := Tryz.checked) (os := os) (X := fun w _ => laidMetH Tryz.prog Rows.storeReplaysRow.laid w) false (World.laidAll Tryz.prog os Rows.storeReplaysRow.laid) #[.slice none 0 0, .slice none 0 0, .int .i64 0] 8 (World.laidAll_os _ _ _)
      (World.shaped_of_ZipB (by kernel_rfl) (by kernel_rfl)) (by kernel_rfl) (by kernel_rfl) (by kernel_rfl)
      (by rw [MakeChecks.laidMetH_plain _ _ _ (by kernel_rfl)]; exact laidMet_laidAll _ (by kernel_rfl) (by kernel_rfl))) ?_
  intro W base args ds gs before hval0 hW0 _ hsz0 hL _
  have hval : ∀ (j : Nat) t v, Tryz.f3.params[j]? = some t → args[j]? = some v → Value.okWide Tryz.prog W .any base t v := hval0
  have hW : DataW.Whole enc Tryz.prog Tryz.f3.params.toList Rows.storeReplaysSpec.vars false W args.toList ds gs before := hW0
  have hlt : ∀ p ∈ before, p.block < W.heap.size := fun p hp => hW.lt p hp
  have hW1 := hW
  obtain ⟨p, q, hA0, hV, rfl, hfz, hnd⟩ := hW1
  have hA : DataW.TrodAll enc Tryz.prog W 0 (fun _ => true) true Tryz.f3.params.toList args.toList ds p := hA0
  obtain ⟨rfl, rfl⟩ := trodVars_none hV
  rw [Tryz.params3] at hA hval
  obtain ⟨v0, vs0, d0, ds0, p0, q0, hargs, rfl, rfl, h0, r0⟩ := trodAll_cons hA
  obtain ⟨v1, vs1, d1, ds1, p1, q1, rfl, rfl, rfl, h1, r1⟩ := trodAll_cons r0
  obtain ⟨v2, vs2, d2, ds2, p2, q2, rfl, rfl, rfl, h2, r2⟩ := trodAll_cons r1
  obtain ⟨rfl, rfl, rfl⟩ := trodAll_nil r2
  obtain rfl : args = #[v0, v1, v2] := by cases args; simp_all
  have hsz : (DataW.weightsEach Tryz.prog [22, 23, 3] [d0, d1, d2]).all (· ≤ reachBytes) = true := hsz0
  have close : ∀ e W', (e = Ending.returned (.bool true) ∧ Below W.heap.size W W') → ∃ v, e = .returned v ∧ Rows.storeReplaysSpec.post enc Tryz.prog Tryz.f3 false true false false W #[v0, v1, v2] v W' :=
    fun e W' ⟨he, hb⟩ => ⟨_, he, law_post laidOut (of_decide_eq_true (by kernel_rfl)) rfl rfl Tryz.underlying4 hW rfl hb⟩
  clear hA0 hsz0 hval0 hW0 hA hV hW hfz hnd
  obtain ⟨xs1, hr1, hf1, els1, sp1, he1⟩ := open_rows (ks := [.i .i64, .i .i64, .s]) 9 Tryz.underlying23 (by kernel_rfl) (hval 1 23 v1 rfl rfl) h1 (fun x hx => hlt x (by simp [hx])) (by decide)
  have rb1 : xs1.length * 32 ≤ 140737488351232 := by
    rcases he1 with ⟨_, rfl⟩ | ⟨hd, hl⟩
    · simp
    · rw [hd] at hsz
      have := sized_slice hsz (j := 1) rfl rfl Tryz.underlying23
      rw [show Tryz.prog.bytesOf 70 = 32 from by kernel_rfl] at this
      simp only [reachBytes] at this
      rw [hl] at this
      exact Nat.le_trans (Nat.mul_le_mul_right _ (Nat.le_add_right _ _)) this
  obtain ⟨a2, rfl, hd2, _, wf2⟩ := open_int Tryz.underlying3 (hval 2 3 v2 rfl rfl) h2
  obtain ⟨A, len, cap, rfl⟩ := okWide_slice Tryz.underlying22 (hval 0 _ v0 rfl rfl)
  obtain ⟨v, xs, hv, hr, hb, hx⟩ := deep_slice Tryz.underlying22 (open_deep 11 h0 (sized_arg hsz 0 rfl rfl))
  rw [show Tryz.prog.cellsOf 58 = 6 from by kernel_rfl] at hr
  rw [show Tryz.prog.bytesOf 58 = 64 from by kernel_rfl] at hb
  obtain rfl : Value.slice A len cap = v := by simpa [Value.cells] using hv
  obtain ⟨l, rfl, hl⟩ := typed (f := cRequest) (Q := fun r => r.path.size ≤ 140737488351232) (fun x hxm => open_request (n := 0) (hx x hxm))
  have hs : Sl cRequest 6 W (.slice A len cap) l := hr (by decide)
  obtain ⟨wl, rfl, _⟩ := typed (fun x hx => fitsWatch (hf1 x hx))
  have hs2 : Sl cWatch 3 W v1 wl := hr1
  simp only [List.length_map, reachBytes] at hb rb1
  exact (storeReplays_ok _ v1 l wl a2 W hs hs2 (fun r hr => Nat.le_trans (hl r hr) (by decide)) (by omega) (by omega)).mono close
theorem proved : Rows.StoreReplaysSaid :=
  OpenClaim.holds_of_wide 3 Tryz.f3 rfl rfl rfl rfl rfl rfl rfl ⟨rfl, rfl, rfl, rfl, rfl⟩ rfl rfl rfl rfl rfl (by kernel_rfl) Tryz.func3 (by kernel_rfl)
    (of_decide_eq_true (by kernel_rfl)) (by unfold Func.isWrapper; first | (rw [if_pos (by decide +kernel)]; kernel_rfl) | (rw [if_neg (by decide +kernel)]; exact ⟨rfl, rfl⟩))
    (fun os started H enc _ => lifted os started H enc)
theorem card : Rows.StoreReplaysCardSaid :=
  Claim7.holds_tied_plain_at .later [] Rows.storeReplaysCard.laidKinds true Rows.storeReplaysCard.stood.harness false
    proved (fun _ h => by cases h) (by kernel_rfl) (fun _ h => by cases h) storeReplays_row_tie rfl ⟨rfl, rfl⟩ (by kernel_rfl) rfl
    (fun f fn hf hfn => by
      obtain rfl : f = 3 := Option.some.inj ((show Tryz.prog.funcNamed "aviary/aviarykeep.StoreReplays" = some 3 by kernel_rfl).symm.trans hf) |>.symm
      obtain rfl : fn = Tryz.f3 := (Option.some.inj (Tryz.func3.symm.trans hfn)).symm
      exact ⟨by kernel_rfl, fun j t ht => by
        rw [Tryz.params3] at ht
        have hm : t ∈ [22, 23, 3] := by simpa using Array.mem_of_getElem? ht
        have hall : ([22, 23, 3].all fun u => !Tryz.prog.wantsStandIn u) = true := by kernel_rfl
        exact (show Tryz.prog.wantsStandIn t = false by simpa using List.all_eq_true.1 hall t hm)⟩)
    (by kernel_rfl)
end storeReplays
end Go.Proofs.YtchgpijfebilbaaGreatDoor
