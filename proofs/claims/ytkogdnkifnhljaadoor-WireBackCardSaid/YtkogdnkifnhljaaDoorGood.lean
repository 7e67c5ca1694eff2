/- path.Good: each step between the slashes is named. -/
import Derived.Test.YtkogdnkifnhljaaDoorSplit
import Derived.Test.YtkogdnkifnhljaaDoorPathA
namespace Go.Proofs.YtkogdnkifnhljaaDoor
open Go.RowKit Go.Shelf
attribute [local go_sem] Oper.semAt_some
def goodP (s : ByteArray) : Bool := decide (s = ⟨#[47]⟩) || (decide (s.size ≤ 200) && Lib.hasPrefix s.data.toList [47] && (stepsB (s.extract 1 s.size)).all fun x => named (bs x))
theorem splitSeq_is (s sep : ByteArray) (w : World) :
    Calls Tryd.prog 39 #[.string s, .string sep] w fun e w' => e = .returned (.func (.func 65) #[] #[.pointer (some ⟨w.heap.size + 1, 0, none⟩), .pointer (some ⟨w.heap.size, 0, none⟩), .pointer (some ⟨w.heap.size + 2, 0, none⟩)]) ∧
      w' = ((w.alloc (.cells #[.string s] 9)).alloc (.cells #[.string sep] 9)).alloc (.cells #[.int .i64 0] 3) := by
  go_enter Tryd.func39, Tryd.ntmps39
  go_wp2
  go_ret
  exact ⟨rfl, rfl⟩
theorem stepsB_size (s : ByteArray) : ∀ x ∈ stepsB s, x.size ≤ s.size := by
  generalize hn : s.size = n
  induction n using Nat.strongRecOn generalizing s with
  | ind n ih =>
    intro x hx
    rcases Int.lt_or_le (Lib.indexByte s.data.toList 47) 0 with hi | hi
    · rw [stepsB_no hi] at hx
      simp at hx
      subst hx
      omega
    · obtain ⟨o, ho⟩ := Int.eq_ofNat_of_zero_le hi
      have hlt := index_lt ho
      rw [stepsB_yes ho] at hx
      rcases List.mem_cons.1 hx with rfl | h
      · rw [ByteArray.size_extract]; omega
      · have hsz : (s.extract (o + 1) s.size).size = s.size - (o + 1) := by rw [ByteArray.size_extract]; omega
        have := ih (s.size - (o + 1)) (by omega) _ hsz x h
        omega
set_option maxHeartbeats 1000000 in
theorem good_steps (s : ByteArray) (w : World) (hs : s.size ≤ 200) (hne : (s.toList == [47]) = false) (hp : Lib.hasPrefix s.data.toList [47] = true) :
    Calls Tryd.prog 16 #[.string s] w fun e w' => e = .returned (.bool ((stepsB (s.extract 1 s.size)).all fun x => named (bs x))) ∧ Below w.heap.size w w' := by
  have h1 : 1 ≤ s.size := by
    cases hd : s.data.toList with
    | nil => rw [hd] at hp; cases hp
    | cons x r =>
      have : s.data.toList.length = s.size := by simp
      rw [hd] at this
      simp at this
      omega
  have hgt : (decide ((200 : Int) < (s.size : Int))) = false := decide_eq_false (by omega)
  refine (callsIn_wide (n := 9)).1 ?_
  refine callsIn_of_wp_marks Tryd.func16 rfl trivial ?_ rfl
  simp only [Tryd.ntmps16, List.size_toArray, List.length_cons, List.length_nil, Nat.reduceAdd, Nat.reduceSub, Array.replicate_succ, Array.replicate_zero, List.push_toArray, List.append_toArray, List.nil_append, List.cons_append]
  gi_wp2_with (first | (refine ⟨trivial, ?_⟩; gi_at_call 37; refine (callsIn_wide.2 (Tryd.strings_HasPrefix _ _ _)).mono ?_; rintro e w' ⟨rfl, rfl⟩; rw [hp]) | (refine ⟨trivial, ?_⟩; gi_at_call 39; refine (callsIn_wide.2 (splitSeq_is _ _ _)).mono ?_; rintro e w' ⟨rfl, rfl⟩))
  generalize hT : s.extract 1 s.size = t at *
  have hts : t.size ≤ 200 := by rw [← hT, ByteArray.size_extract]; omega
  have HTT := Lib.hid hT
  clear hT hgt hne hp
  obtain ⟨W0, hW0⟩ : ∃ W0, ((((w.alloc (.cells #[.bool false] 4)).alloc (.cells #[.string t] 9)).alloc (.cells #[.string ⟨#[47]⟩] 9)).alloc (.cells #[.int .i64 0] 3)) = W0 := ⟨_, rfl⟩
  have hsz : W0.heap.size = w.heap.size + 1 + 1 + 1 + 1 := by subst hW0; simp
  have hB0 : Below w.heap.size w W0 := by subst hW0; exact (by repeat (first | exact Below.refl _ _ | assumption | refine Below.drew ?_ | refine Below.drewN' ?_ _ | refine below_grow0 _ _ ?_ | refine below_alloc0 _ ?_ | refine Below.alloc ?_ (by first | omega | (simp; done) | (simp; omega)) _ | refine Below.setCell ?_ (by first | omega | (simp; done) | (simp; omega)) _ | refine Below.grow _ _ _ ?_ (by first | omega | (simp; done) | (simp; omega))))
  have r0 : W0.cell? ⟨w.heap.size, 0, none⟩ = some (.bool false) := by subst hW0; go_simp
  have f0 : W0.frozen? ⟨w.heap.size, 0, none⟩ = false := by subst hW0; go_simp
  have s0 : W0.cell? ⟨w.heap.size + 1, 0, none⟩ = some (.string t) := by subst hW0; go_simp
  have g0 : W0.frozen? ⟨w.heap.size + 1, 0, none⟩ = false := by subst hW0; go_simp
  have s1 : W0.cell? ⟨w.heap.size + 1 + 1, 0, none⟩ = some (.string ⟨#[47]⟩) := by subst hW0; go_simp
  have s2 : W0.cell? ⟨w.heap.size + 1 + 1 + 1, 0, none⟩ = some (.int .i64 0) := by subst hW0; go_simp
  rw [hW0]
  clear hW0
  refine wpIn_range_cells (S := stepsB t) (b := w.heap.size + 1) rfl (by omega) rfl trivial (enters_of Tryd.func65 (by kernel_rfl) rfl) (by omega)
    (split_stops 8 (by omega) W0 (w.heap.size + 1) (w.heap.size + 1 + 1) (w.heap.size + 1 + 2) t s0 g0 s1 s2 (by omega) (by omega) (by omega)) (fun _ => rfl)
    (fun pre W => (W.cell? ⟨w.heap.size, 0, none⟩ = some (.bool false) ∧ W.frozen? ⟨w.heap.size, 0, none⟩ = false ∧ Hid (∀ x ∈ pre, named (bs x) = true)) ∧ Below w.heap.size w W)
    (fun c pre W => (W.cell? ⟨w.heap.size, 0, none⟩ = some (.bool false) ∧ W.frozen? ⟨w.heap.size, 0, none⟩ = false ∧ Hid (c = .ret ∧ ((stepsB t).all fun x => named (bs x)) = false)) ∧ Below w.heap.size w W)
    (OwnFrom.and (Own.from (fun s A B row hs hg hr => ⟨cell_kept hs.1 hg hr, (frozen_kept hs.1 hg hr).trans hs.2.1, hs.2.2⟩) _) (ownFrom_below (Nat.le_refl _) (by omega)))
    (fun c => OwnFrom.and (Own.from (fun s A B row hs hg hr => ⟨cell_kept hs.1 hg hr, (frozen_kept hs.1 hg hr).trans hs.2.1, hs.2.2⟩) _) (ownFrom_below (Nat.le_refl _) (by omega)))
    (fun s A v h => ⟨⟨(World.cell?_setCell_other _ _ _ _ (fun h => by injection h with h; omega)).trans h.1.1, (World.frozen?_setCell ..).trans h.1.2.1, h.1.2.2⟩, h.2.setCell (p := ⟨w.heap.size + 1, 0, none⟩) (Nat.le_succ _) _⟩)
    ⟨⟨r0, f0, Lib.hid (by simp)⟩, hB0⟩
    (fun x => { tmps := #[.string s, undef, .pointer (some ⟨w.heap.size, 0, none⟩), .string x, .string s, .bool false, .string s, .int .i64 s.size, .bool false, .bool false, .string s, .bool true, .bool false, .bool false, .string s, .string t, .func (.func 65) #[] #[.pointer (some ⟨w.heap.size + 1 + 1, 0, none⟩), .pointer (some ⟨w.heap.size + 1, 0, none⟩), .pointer (some ⟨w.heap.size + 1 + 2, 0, none⟩)], .string x, undef, undef, undef], defers := [] }) ?assign ?body ?done ?stop
  case assign =>
    intro l x W K hK
    gi_wp2
    exact hK
  case body =>
    rintro l pre x W ⟨⟨hc, hf, hall⟩, hB⟩ hpre
    have hmem : x ∈ stepsB t := hpre.subset (by simp)
    have hx := stepsB_size t x hmem
    cases hn : named (bs x) with
    | true =>
      have HA := Lib.hid (show ∀ y ∈ pre ++ [x], named (bs y) = true from fun y hy => by
        rcases List.mem_append.1 hy with h | h
        · exact hall.out y h
        · simp at h; subst h; exact hn)
      clear hall hmem hpre
      gi_wp2_with (refine ⟨trivial, ?_⟩; gi_at_call 18; refine (CallsIn.inRound l (callsIn_wide.2 (named_any x _ (by omega)))).mono ?_; rintro e w' ⟨rfl, rfl⟩; rw [hn])
      exact ⟨KeepsOthers.refl _, Below.refl _ _, ⟨hc, hf, HA⟩, hB⟩
    | false =>
      have HA := Lib.hid (show ((stepsB t).all fun x => named (bs x)) = false by rw [List.all_eq_false]; exact ⟨x, hmem, by simp [hn]⟩)
      clear hall hmem hpre
      gi_wp2_with (refine ⟨trivial, ?_⟩; gi_at_call 18; refine (CallsIn.inRound l (callsIn_wide.2 (named_any x _ (by omega)))).mono ?_; rintro e w' ⟨rfl, rfl⟩; rw [hn])
      exact ⟨KeepsOthers.setCell _ _ _, ⟨World.cell?_setCell_same' _ _ _ (by rw [hc]; rfl), by rw [World.frozen?_setCell]; exact hf, Lib.hid ⟨rfl, HA.out⟩⟩, hB.setCell (p := ⟨w.heap.size, 0, none⟩) (Nat.le_refl _) _⟩
  case done =>
    rintro D W hD ⟨⟨hc, hf, hall⟩, hB⟩ hK
    have hT : ((stepsB t).all fun x => named (bs x)) = true := List.all_eq_true.2 hall.out
    have HA := Lib.hid hT
    clear hall hT
    gi_wp2
    have hK' := (KeepsOthers.setCell W ⟨w.heap.size, 0, none⟩ (.bool true)).same D _ hK rfl
    refine ⟨by simp, .inl ⟨_, _, rfl, run_takeDeferred hK', ?_⟩⟩
    have hc5 := cell_kept (World.cell?_setCell_same' W ⟨w.heap.size, 0, none⟩ (.bool true) (by rw [hc]; rfl)) (grownBy_putObj' _ D (.deferred none)) (fun r e => by cases e; exact ⟨_, hK', rfl⟩)
    refine ⟨.bool true, ?_, by rw [HTT.out, HA.out], (hB.setCell (p := ⟨w.heap.size, 0, none⟩) (Nat.le_refl _) _).trans (belowK_b (w := w) (Nat.le_refl _) _ D _ _ (by omega) hK' rfl rfl)⟩
    simp [results, Tryd.f16, go_sem, hc5]
  case stop =>
    rintro D c pre W hD ⟨⟨hc, hf, hbad⟩, hB⟩ hK
    obtain ⟨rfl, hb⟩ := hbad.out
    have HA := Lib.hid hb
    clear hbad hb
    gi_wp2
    refine ⟨by simp, .inl ⟨_, _, rfl, run_takeDeferred hK, ?_⟩⟩
    have hc5 := cell_kept hc (grownBy_putObj' _ D (.deferred none)) (fun r e => by cases e; exact ⟨_, hK, rfl⟩)
    refine ⟨.bool false, ?_, by rw [HTT.out, HA.out], hB.trans (belowK_b (w := w) (Nat.le_refl _) W D _ _ (by omega) hK rfl rfl)⟩
    simp [results, Tryd.f16, go_sem, hc5]
theorem bytes_eqB {a b : ByteArray} (e : a.toList = b.toList) : a = b := by
  rw [ByteArray.toList_eq, ByteArray.toList_eq] at e
  exact ByteArray.ext (Array.toList_inj.mp e)
set_option maxHeartbeats 1000000 in
/-- path.Good, at every text -/
theorem good_any (s : ByteArray) (w : World) (hs : s.size ≤ 9223372036854775807) :
    Calls Tryd.prog 16 #[.string s] w fun e w' => e = .returned (.bool (goodP s)) ∧ Below w.heap.size w w' := by
  by_cases hr : s = ⟨#[47]⟩
  · subst hr
    have hg : goodP ⟨#[47]⟩ = true := by unfold goodP; rw [decide_eq_true rfl]; rfl
    rw [hg]
    go_enter Tryd.func16, Tryd.ntmps16
    go_wp2
    refine bodyPost_ret (v := .bool true) (by simp [results, Tryd.f16, go_sem]) rfl ⟨rfl, (by repeat (first | exact Below.refl _ _ | assumption | refine Below.drew ?_ | refine Below.drewN' ?_ _ | refine below_grow0 _ _ ?_ | refine below_alloc0 _ ?_ | refine Below.alloc ?_ (by first | omega | (simp; done) | (simp; omega)) _ | refine Below.setCell ?_ (by first | omega | (simp; done) | (simp; omega)) _ | refine Below.grow _ _ _ ?_ (by first | omega | (simp; done) | (simp; omega))))⟩
  · have hne : (s.toList == [47]) = false := beq_eq_false_iff_ne.2 (fun e => hr (bytes_eqB (by rw [e, ByteArray.toList_eq])))
    by_cases h200 : s.size ≤ 200
    · cases hp : Lib.hasPrefix s.data.toList [47] with
      | true =>
        have hg : goodP s = ((stepsB (s.extract 1 s.size)).all fun x => named (bs x)) := by unfold goodP; rw [decide_eq_false hr, decide_eq_true h200, hp]; rfl
        rw [hg]
        exact good_steps s w h200 hne hp
      | false =>
        have hg : goodP s = false := by unfold goodP; rw [decide_eq_false hr, hp]; simp
        have hgt : (decide ((200 : Int) < (s.size : Int))) = false := decide_eq_false (by omega)
        rw [hg]
        clear hg
        go_enter Tryd.func16, Tryd.ntmps16
        go_wp2_with (go_at_call 37; refine (Tryd.strings_HasPrefix _ _ _).mono ?_; rintro e w' ⟨rfl, rfl⟩; rw [hp])
        refine bodyPost_ret (v := .bool false) (by simp [results, Tryd.f16, go_sem]) rfl ⟨rfl, (by repeat (first | exact Below.refl _ _ | assumption | refine Below.drew ?_ | refine Below.drewN' ?_ _ | refine below_grow0 _ _ ?_ | refine below_alloc0 _ ?_ | refine Below.alloc ?_ (by first | omega | (simp; done) | (simp; omega)) _ | refine Below.setCell ?_ (by first | omega | (simp; done) | (simp; omega)) _ | refine Below.grow _ _ _ ?_ (by first | omega | (simp; done) | (simp; omega))))⟩
    · have hg : goodP s = false := by unfold goodP; rw [decide_eq_false hr, decide_eq_false h200]; simp
      have hgt : (decide ((200 : Int) < (s.size : Int))) = true := decide_eq_true (by omega)
      rw [hg]
      clear hg
      go_enter Tryd.func16, Tryd.ntmps16
      go_wp2_with fail
      refine bodyPost_ret (v := .bool false) (by simp [results, Tryd.f16, go_sem]) rfl ⟨rfl, (by repeat (first | exact Below.refl _ _ | assumption | refine Below.drew ?_ | refine Below.drewN' ?_ _ | refine below_grow0 _ _ ?_ | refine below_alloc0 _ ?_ | refine Below.alloc ?_ (by first | omega | (simp; done) | (simp; omega)) _ | refine Below.setCell ?_ (by first | omega | (simp; done) | (simp; omega)) _ | refine Below.grow _ _ _ ?_ (by first | omega | (simp; done) | (simp; omega))))⟩
end Go.Proofs.YtkogdnkifnhljaaDoor
