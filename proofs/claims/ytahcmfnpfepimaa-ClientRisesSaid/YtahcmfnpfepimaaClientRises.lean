/- The law ClientRises is true for every input; no conditions. -/
import Derived.Test.YtahcmfnpfepimaaClient
import Derived.Deep.RegionHeld3
namespace Go.Proofs.Ytahcmfnpfepimaa
open Go.RowKit Go.ChangeShapes Go.WideShapes Go.ChangeAt
set_option maxHeartbeats 1000000 in
theorem clientRises_ok (s : Int) (h0 : 1 ≤ s) (h1 : s ≤ 2147483647) (v : Value) (zs : List Int) (w : World) (h : Sl cInt 1 w v zs) (_hn : zs.length ≤ 17592186044160) :
    Calls Try.prog 6 #[.int .i64 s, v] w fun e w' => e = .returned (.bool true) ∧ Below w.heap.size w w' := by
  obtain ⟨A, c, rfl, hc1, hc2⟩ := h.form
  have hat := h.int_at
  have H := Lib.hid h
  clear h
  go_enter Try.func6, Try.ntmps6
  go_wp2_with (first | (go_at_call 23; refine (clNew_ok _ _ h0 h1).mono ?_; rintro e w1 ⟨rfl, hb⟩; obtain ⟨ext, d, rfl⟩ := Below.grown_eq _ hb) | (go_at_call 24; refine (starts_any _).mono ?_; rintro e w1 ⟨rfl, hb1⟩; obtain ⟨ext1, d1, rfl⟩ := Below.grown_eq _ hb1))
  have hWs : (grow w ext d).heap.size = w.heap.size + ext.size := by simp
  have hb0 : Below w.heap.size w (grow w ext d) := (by repeat (first | exact Below.refl _ _ | assumption | refine Below.drew ?_ | refine Below.drewN' ?_ _ | refine Below.alloc ?_ (by first | omega | (simp; done) | (simp; omega)) _ | refine Below.setCell ?_ (by first | omega | (simp; done) | (simp; omega)) _ | refine Below.grow _ _ _ ?_ (by first | omega | (simp; done) | (simp; omega))))
  have hB0 : w.heap.size ≤ w.heap.size + ext.size := by omega
  generalize grow w ext d = W0 at hWs hb0 ⊢
  generalize w.heap.size + ext.size = B0 at hWs hB0 ⊢
  go_loopw [7, 8] (fun sn i wr => ∃ (k : Nat) (m : Int) (A' : Option Addr) (c' : Nat) (ext2 : Array Obj) (d2 : Nat), k ≤ zs.length ∧ i = .int .i64 k ∧ sn = .int .i64 m ∧ c' ≤ maxLen ∧
     wr = grow (W0.alloc (.cells #[.int .i64 s, .int .i64 m, .slice A' 0 c'] 38)) ext2 d2) (fun _ i _ => zs.length - (intOf i).toNat)
  case atStart => exact ⟨0, _, none, 0, _, _, Nat.zero_le _, rfl, rfl, Nat.zero_le _, rfl⟩
  case round =>
    obtain ⟨k, m, A', c', ext2, d2, hk, rfl, rfl, hc', rfl⟩ := hrel
    by_cases hlt : k < zs.length
    · by_cases h100 : k < 100
      · obtain ⟨b, off, x, rfl, hbw, hx, hcell0⟩ := hat k hlt
        have hcell := (hb0.cell (p := ⟨b, off + k, none⟩) hbw).trans hcell0
        go_wp2_with fail
        by_cases hxm : x < m
        · go_region_held3 (fun w' => w'.cell? ⟨B0, 0, none⟩ = some (.int .i64 s) ∧ w'.cell? ⟨B0, 1, none⟩ = some (.int .i64 m) ∧ w'.cell? ⟨B0, 2, none⟩ = some (.slice A' 0 c') ∧ w'.cell? ⟨b, off + k, none⟩ = some (.int .i64 x)) (refine ⟨?_, ?_, ?_, ?_⟩ <;> go_simp) (first | (go_at_call 25; refine (clSee_no _ _ _ _ _ _ _ hxm).mono ?_; rintro e w1 ⟨rfl, hb⟩; obtain ⟨ext3, d3, rfl⟩ := Below.grown_eq _ hb))
          all_goals
            go_wp2_with fail
            go_roundw
            case rel => exact ⟨k + 1, m, A', c', _, _, by omega, by go_num, rfl, hc', grown_of (by repeat (first | exact Below.refl _ _ | assumption | refine Below.drew ?_ | refine Below.drewN' ?_ _ | refine Below.alloc ?_ (by first | omega | (simp; done) | (simp; omega)) _ | refine Below.setCell ?_ (by first | omega | (simp; done) | (simp; omega)) _ | refine Below.grow _ _ _ ?_ (by first | omega | (simp; done) | (simp; omega))))⟩
            case measure => simp [intOf]; omega
        · go_region_held3 (fun w' => w'.cell? ⟨B0, 0, none⟩ = some (.int .i64 s) ∧ w'.cell? ⟨B0, 1, none⟩ = some (.int .i64 m) ∧ w'.cell? ⟨B0, 2, none⟩ = some (.slice A' 0 c') ∧ w'.cell? ⟨b, off + k, none⟩ = some (.int .i64 x)) (refine ⟨?_, ?_, ?_, ?_⟩ <;> go_simp) (first | (go_at_call 25; refine (clSee_ok _ _ _ _ [] _ (Sl.empty _ _ _ _ hc') (by simp) (by simp) hxm).mono ?_; rintro e w1 ⟨A2, c2, rfl, hsl, hb⟩; have hc2 := hsl.cap_le; obtain ⟨ext3, d3, rfl⟩ := Below.grown_eq _ hb; clear hsl hb))
          all_goals
            go_wp2_with fail
            go_region
            go_wp2_with fail
            go_roundw
            case rel => exact ⟨k + 1, x, A2, c2, _, _, by omega, by go_num, rfl, hc2, grown_of (by repeat (first | exact Below.refl _ _ | assumption | refine Below.drew ?_ | refine Below.drewN' ?_ _ | refine Below.alloc ?_ (by first | omega | (simp; done) | (simp; omega)) _ | refine Below.setCell ?_ (by first | omega | (simp; done) | (simp; omega)) _ | refine Below.grow _ _ _ ?_ (by first | omega | (simp; done) | (simp; omega))))⟩
            case measure => simp [intOf]; omega
      · go_wp2_with fail
        go_ret
        exact ⟨rfl, (by repeat (first | exact Below.refl _ _ | assumption | refine Below.drew ?_ | refine Below.drewN' ?_ _ | refine Below.alloc ?_ (by first | omega | (simp; done) | (simp; omega)) _ | refine Below.setCell ?_ (by first | omega | (simp; done) | (simp; omega)) _ | refine Below.grow _ _ _ ?_ (by first | omega | (simp; done) | (simp; omega))))⟩
    · go_wp2_with fail
      go_ret
      exact ⟨rfl, (by repeat (first | exact Below.refl _ _ | assumption | refine Below.drew ?_ | refine Below.drewN' ?_ _ | refine Below.alloc ?_ (by first | omega | (simp; done) | (simp; omega)) _ | refine Below.setCell ?_ (by first | omega | (simp; done) | (simp; omega)) _ | refine Below.grow _ _ _ ?_ (by first | omega | (simp; done) | (simp; omega))))⟩
theorem clientRises_no (s : Int) (h : s < 1 ∨ 2147483647 < s) (v : Value) (w : World) :
    Calls Try.prog 6 #[.int .i64 s, v] w fun e w' => e = .returned (.bool true) ∧ Below w.heap.size w w' := by
  have H := Lib.hid h
  clear h
  go_enter Try.func6, Try.ntmps6
  go_wp2_with (first | (go_at_call 23; refine (clNew_no _ _ H.out).mono ?_; rintro e w1 ⟨rfl, hb⟩; obtain ⟨ext, d, rfl⟩ := Below.grown_eq _ hb) | (go_at_call 24; refine (starts_any _).mono ?_; rintro e w1 ⟨rfl, hb1⟩; obtain ⟨ext1, d1, rfl⟩ := Below.grown_eq _ hb1))
  go_ret
  exact ⟨rfl, (by repeat (first | exact Below.refl _ _ | assumption | refine Below.drew ?_ | refine Below.drewN' ?_ _ | refine Below.alloc ?_ (by first | omega | (simp; done) | (simp; omega)) _ | refine Below.setCell ?_ (by first | omega | (simp; done) | (simp; omega)) _ | refine Below.grow _ _ _ ?_ (by first | omega | (simp; done) | (simp; omega))))⟩
namespace clientRises
theorem own : ownKnob Try.prog.godebug = none := by kernel_rfl
theorem laidOut : laidOutB Try.prog = true := by kernel_rfl
set_option maxRecDepth 100000 in
set_option maxHeartbeats 1000000 in
theorem lifted (os : Os) (started : os.Started) (H : Type) (enc : TypeId × Value → H) :
    ReturnsInHanded {} Try.checked os 6 .any (Rows.clientRisesSpec.pre6 enc Try.prog Try.f6 Rows.clientRisesRow.domain false) (Rows.clientRisesSpec.post enc Try.prog Try.f6 false true false false) := by
  refine returnsInHanded_of_change_sized (C := Try.checked) own started (by kernel_rfl) Try.func6
    (ChangeSpec.witness6 (enc := enc) (C := Try.checked) false ⟨#[], #[.int .i64 0, .slice none 0 0], []⟩ 8 (by kernel_rfl) (by kernel_rfl) (by kernel_rfl) (by kernel_rfl)) ?_
  intro W base args ds gs before hval0 hW0 _ hsz0 _
  have hval : ∀ (j : Nat) t v, Try.f6.params[j]? = some t → args[j]? = some v → Value.okWide Try.prog W .any base t v := hval0
  have hW : DataW.Whole enc Try.prog Try.f6.params.toList Rows.clientRisesSpec.vars false W args.toList ds gs before := hW0
  have hlt : ∀ p ∈ before, p.block < W.heap.size := fun p hp => hW.lt p hp
  have hW1 := hW
  obtain ⟨p, q, hA0, hV, rfl, hfz, hnd⟩ := hW1
  have hA : DataW.TrodAll enc Try.prog W 0 (fun _ => true) true Try.f6.params.toList args.toList ds p := hA0
  obtain ⟨rfl, rfl⟩ := trodVars_none hV
  rw [Try.params6] at hA hval
  obtain ⟨v0, vs0, d0, ds0, p0, q0, hargs, rfl, rfl, h0, r0⟩ := trodAll_cons hA
  obtain ⟨v1, vs1, d1, ds1, p1, q1, rfl, rfl, rfl, h1, r1⟩ := trodAll_cons r0
  obtain ⟨rfl, rfl, rfl⟩ := trodAll_nil r1
  obtain rfl : args = #[v0, v1] := by cases args; simp_all
  have hsz : (DataW.weightsEach Try.prog [3, 22] [d0, d1]).all (· ≤ reachBytes) = true := hsz0
  have close : ∀ e W', (e = Ending.returned (.bool true) ∧ Below W.heap.size W W') → ∃ v, e = .returned v ∧ Rows.clientRisesSpec.post enc Try.prog Try.f6 false true false false W #[v0, v1] v W' :=
    fun e W' ⟨he, hb⟩ => ⟨_, he, law_post laidOut (of_decide_eq_true (by kernel_rfl)) rfl rfl Try.underlying4 hW rfl hb⟩
  clear hA0 hsz0 hval0 hW0 hA hV hW hfz hnd
  obtain ⟨a0, rfl, hd0, _, wf0⟩ := open_int Try.underlying3 (hval 0 3 v0 rfl rfl) h0
  obtain ⟨xs1, hr1, hf1, els1, sp1, he1⟩ := open_rows (ks := [.i .i64]) 9 Try.underlying22 (by kernel_rfl) (hval 1 22 v1 rfl rfl) h1 (fun x hx => hlt x (by simp [hx])) (by decide)
  have rb1 : xs1.length * 8 ≤ 140737488351232 := by
    rcases he1 with ⟨_, rfl⟩ | ⟨hd, hl⟩
    · simp
    · rw [hd] at hsz
      have := sized_slice hsz (j := 1) rfl rfl Try.underlying22
      rw [show Try.prog.bytesOf 3 = 8 from by kernel_rfl] at this
      simp only [reachBytes] at this
      rw [hl] at this
      exact Nat.le_trans (Nat.mul_le_mul_right _ (Nat.le_add_right _ _)) this
  obtain ⟨zs, rfl, _⟩ := typed (fun x hx => fits_int (hf1 x hx))
  have hs : Sl cInt 1 W v1 zs := hr1
  simp only [List.length_map] at rb1
  by_cases h1 : 1 ≤ a0 ∧ a0 ≤ 2147483647
  · exact (clientRises_ok a0 h1.1 h1.2 v1 zs W hs (by omega)).mono close
  · exact (clientRises_no a0 (by omega) v1 W).mono close
theorem proved : Rows.ClientRisesSaid :=
  OpenClaim.holds_of_wide 6 Try.f6 rfl rfl rfl rfl rfl rfl rfl ⟨rfl, rfl, rfl, rfl, rfl⟩ rfl rfl rfl rfl rfl (by kernel_rfl) Try.func6 (by kernel_rfl)
    (of_decide_eq_true (by kernel_rfl)) (by unfold Func.isWrapper; first | (rw [if_pos (by decide +kernel)]; kernel_rfl) | (rw [if_neg (by decide +kernel)]; exact ⟨rfl, rfl⟩))
    (fun os started H enc _ => lifted os started H enc)
end clientRises
end Go.Proofs.Ytahcmfnpfepimaa
