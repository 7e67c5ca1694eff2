/- Lemmas for the statement: Good, Path, PathB, PathC, Bs, T3, Copy, Own, T4, Put, Clone, Client, Cache, Cache2, Caching, Order, Zxid, WGood, TreeM, PathD, TreeL. -/
import Derived.Lib.LastIndexByte
import Derived.Laws.CopyOwn
import Derived.Lib.AppendZerosOnto
import Derived.Lib.AppendZeros
import Derived.Lib.Overlaps
import Derived.Laws.Externs
import Derived.Deep.RegionLaw
import Derived.Deep.RegionHeld3
import Derived.Laws.BitsAllLaws
import Derived.Laws.BitsLemmas
import Derived.Test.YtchgpijfebilbaaGreatDoorPt1
/- path.Good: each step between the slashes is named. -/
namespace Go.Proofs.YtchgpijfebilbaaGreatDoor
open Go.RowKit Go.Shelf
attribute [local go_sem] Oper.semAt_some
def goodP (s : ByteArray) : Bool := decide (s = ⟨#[47]⟩) || (decide (s.size ≤ 200) && Lib.hasPrefix s.data.toList [47] && (stepsB (s.extract 1 s.size)).all fun x => named (bs x))
theorem splitSeq_is (s sep : ByteArray) (w : World) :
    Calls Tryz.prog 78 #[.string s, .string sep] w fun e w' => e = .returned (.func (.func 109) #[] #[.pointer (some ⟨w.heap.size + 1, 0, none⟩), .pointer (some ⟨w.heap.size, 0, none⟩), .pointer (some ⟨w.heap.size + 2, 0, none⟩)]) ∧
      w' = ((w.alloc (.cells #[.string s] 9)).alloc (.cells #[.string sep] 9)).alloc (.cells #[.int .i64 0] 3) := by
  go_enter Tryz.func78, Tryz.ntmps78
  go_wp2
  go_ret
  exact ⟨rfl, rfl⟩
theorem stepsB_size (s : ByteArray) : ∀ x ∈ stepsB s, x.size ≤ s.size := by
  generalize hn : s.size = n
  induction n using Nat.strongRecOn generalizing s with
  | ind n ih =>
    intro x hx
    rcases Int.lt_or_le (Lib.indexByte s.data.toList 47) 0 with hi | hi
    · rw [stepsB_no hi] at hx
      simp at hx
      subst hx
      omega
    · obtain ⟨o, ho⟩ := Int.eq_ofNat_of_zero_le hi
      have hlt := index_lt ho
      rw [stepsB_yes ho] at hx
      rcases List.mem_cons.1 hx with rfl | h
      · rw [ByteArray.size_extract]; omega
      · have hsz : (s.extract (o + 1) s.size).size = s.size - (o + 1) := by rw [ByteArray.size_extract]; omega
        have := ih (s.size - (o + 1)) (by omega) _ hsz x h
        omega
set_option maxHeartbeats 1000000 in
theorem good_steps (s : ByteArray) (w : World) (hs : s.size ≤ 200) (hne : (s.toList == [47]) = false) (hp : Lib.hasPrefix s.data.toList [47] = true) :
    Calls Tryz.prog 59 #[.string s] w fun e w' => e = .returned (.bool ((stepsB (s.extract 1 s.size)).all fun x => named (bs x))) ∧ Below w.heap.size w w' := by
  have h1 : 1 ≤ s.size := by
    cases hd : s.data.toList with
    | nil => rw [hd] at hp; cases hp
    | cons x r =>
      have : s.data.toList.length = s.size := by simp
      rw [hd] at this
      simp at this
      omega
  have hgt : (decide ((200 : Int) < (s.size : Int))) = false := decide_eq_false (by omega)
  refine (callsIn_wide (n := 9)).1 ?_
  refine callsIn_of_wp_marks Tryz.func59 rfl trivial ?_ rfl
  simp only [Tryz.ntmps59, List.size_toArray, List.length_cons, List.length_nil, Nat.reduceAdd, Nat.reduceSub, Array.replicate_succ, Array.replicate_zero, List.push_toArray, List.append_toArray, List.nil_append, List.cons_append]
  gi_wp2_with (first | (refine ⟨trivial, ?_⟩; gi_at_call 77; refine (callsIn_wide.2 (Tryz.strings_HasPrefix _ _ _)).mono ?_; rintro e w' ⟨rfl, rfl⟩; rw [hp]) | (refine ⟨trivial, ?_⟩; gi_at_call 78; refine (callsIn_wide.2 (splitSeq_is _ _ _)).mono ?_; rintro e w' ⟨rfl, rfl⟩))
  generalize hT : s.extract 1 s.size = t at *
  have hts : t.size ≤ 200 := by rw [← hT, ByteArray.size_extract]; omega
  have HTT := Lib.hid hT
  clear hT hgt hne hp
  obtain ⟨W0, hW0⟩ : ∃ W0, ((((w.alloc (.cells #[.bool false] 4)).alloc (.cells #[.string t] 9)).alloc (.cells #[.string ⟨#[47]⟩] 9)).alloc (.cells #[.int .i64 0] 3)) = W0 := ⟨_, rfl⟩
  have hsz : W0.heap.size = w.heap.size + 1 + 1 + 1 + 1 := by subst hW0; simp
  have hB0 : Below w.heap.size w W0 := by subst hW0; exact (by repeat (first | exact bA .. | assumption | refine bB ?_ | refine bC ?_ _ | refine bD _ _ ?_ | refine bE _ ?_ | refine bG ?_ (by first | omega | (simp; done) | (simp; omega)) _ | refine Below.setCell ?_ (by first | omega | (simp; done) | (simp; omega)) _ | refine Below.grow _ _ _ ?_ (by first | omega | (simp; done) | (simp; omega))))
  have r0 : W0.cell? ⟨w.heap.size, 0, none⟩ = some (.bool false) := by subst hW0; go_simp
  have f0 : W0.frozen? ⟨w.heap.size, 0, none⟩ = false := by subst hW0; go_simp
  have s0 : W0.cell? ⟨w.heap.size + 1, 0, none⟩ = some (.string t) := by subst hW0; go_simp
  have g0 : W0.frozen? ⟨w.heap.size + 1, 0, none⟩ = false := by subst hW0; go_simp
  have s1 : W0.cell? ⟨w.heap.size + 1 + 1, 0, none⟩ = some (.string ⟨#[47]⟩) := by subst hW0; go_simp
  have s2 : W0.cell? ⟨w.heap.size + 1 + 1 + 1, 0, none⟩ = some (.int .i64 0) := by subst hW0; go_simp
  rw [hW0]
  clear hW0
  refine wpIn_range_cells (S := stepsB t) (b := w.heap.size + 1) rfl (by omega) rfl trivial (enters_of Tryz.func109 (by kernel_rfl) rfl) (by omega)
    (split_stops 8 (by omega) W0 (w.heap.size + 1) (w.heap.size + 1 + 1) (w.heap.size + 1 + 2) t s0 g0 s1 s2 (by omega) (by omega) (by omega)) (fun _ => rfl)
    (fun pre W => (W.cell? ⟨w.heap.size, 0, none⟩ = some (.bool false) ∧ W.frozen? ⟨w.heap.size, 0, none⟩ = false ∧ Hid (∀ x ∈ pre, named (bs x) = true)) ∧ Below w.heap.size w W)
    (fun c pre W => (W.cell? ⟨w.heap.size, 0, none⟩ = some (.bool false) ∧ W.frozen? ⟨w.heap.size, 0, none⟩ = false ∧ Hid (c = .ret ∧ ((stepsB t).all fun x => named (bs x)) = false)) ∧ Below w.heap.size w W)
    (OwnFrom.and (Own.from (fun s A B row hs hg hr => ⟨cell_kept hs.1 hg hr, (frozen_kept hs.1 hg hr).trans hs.2.1, hs.2.2⟩) _) (ownFrom_below (Nat.le_refl _) (by omega)))
    (fun c => OwnFrom.and (Own.from (fun s A B row hs hg hr => ⟨cell_kept hs.1 hg hr, (frozen_kept hs.1 hg hr).trans hs.2.1, hs.2.2⟩) _) (ownFrom_below (Nat.le_refl _) (by omega)))
    (fun s A v h => ⟨⟨(World.cell?_setCell_other _ _ _ _ (fun h => by injection h with h; omega)).trans h.1.1, (World.frozen?_setCell ..).trans h.1.2.1, h.1.2.2⟩, h.2.setCell (p := ⟨w.heap.size + 1, 0, none⟩) (Nat.le_succ _) _⟩)
    ⟨⟨r0, f0, Lib.hid (by simp)⟩, hB0⟩
    (fun x => { tmps := #[.string s, undef, .pointer (some ⟨w.heap.size, 0, none⟩), .string x, .string s, .bool false, .string s, .int .i64 s.size, .bool false, .bool false, .string s, .bool true, .bool false, .bool false, .string s, .string t, .func (.func 109) #[] #[.pointer (some ⟨w.heap.size + 1 + 1, 0, none⟩), .pointer (some ⟨w.heap.size + 1, 0, none⟩), .pointer (some ⟨w.heap.size + 1 + 2, 0, none⟩)], .string x, undef, undef, undef], defers := [] }) ?assign ?body ?done ?stop
  case assign =>
    intro l x W K hK
    gi_wp2
    exact hK
  case body =>
    rintro l pre x W ⟨⟨hc, hf, hall⟩, hB⟩ hpre
    have hmem : x ∈ stepsB t := hpre.subset (by simp)
    have hx := stepsB_size t x hmem
    cases hn : named (bs x) with
    | true =>
      have HA := Lib.hid (show ∀ y ∈ pre ++ [x], named (bs y) = true from fun y hy => by
        rcases List.mem_append.1 hy with h | h
        · exact hall.out y h
        · simp at h; subst h; exact hn)
      clear hall hmem hpre
      gi_wp2_with (refine ⟨trivial, ?_⟩; gi_at_call 79; refine (CallsIn.inRound l (callsIn_wide.2 (named_any x _ (by omega)))).mono ?_; rintro e w' ⟨rfl, rfl⟩; rw [hn])
      exact ⟨KeepsOthers.refl _, Below.refl _ _, ⟨hc, hf, HA⟩, hB⟩
    | false =>
      have HA := Lib.hid (show ((stepsB t).all fun x => named (bs x)) = false by rw [List.all_eq_false]; exact ⟨x, hmem, by simp [hn]⟩)
      clear hall hmem hpre
      gi_wp2_with (refine ⟨trivial, ?_⟩; gi_at_call 79; refine (CallsIn.inRound l (callsIn_wide.2 (named_any x _ (by omega)))).mono ?_; rintro e w' ⟨rfl, rfl⟩; rw [hn])
      exact ⟨KeepsOthers.setCell _ _ _, ⟨World.cell?_setCell_same' _ _ _ (by rw [hc]; rfl), by rw [World.frozen?_setCell]; exact hf, Lib.hid ⟨rfl, HA.out⟩⟩, hB.setCell (p := ⟨w.heap.size, 0, none⟩) (Nat.le_refl _) _⟩
  case done =>
    rintro D W hD ⟨⟨hc, hf, hall⟩, hB⟩ hK
    have hT : ((stepsB t).all fun x => named (bs x)) = true := List.all_eq_true.2 hall.out
    have HA := Lib.hid hT
    clear hall hT
    gi_wp2
    have hK' := (KeepsOthers.setCell W ⟨w.heap.size, 0, none⟩ (.bool true)).same D _ hK rfl
    refine ⟨by simp, .inl ⟨_, _, rfl, run_takeDeferred hK', ?_⟩⟩
    have hc5 := cell_kept (World.cell?_setCell_same' W ⟨w.heap.size, 0, none⟩ (.bool true) (by rw [hc]; rfl)) (grownBy_putObj' _ D (.deferred none)) (fun r e => by cases e; exact ⟨_, hK', rfl⟩)
    refine ⟨.bool true, ?_, by rw [HTT.out, HA.out], (hB.setCell (p := ⟨w.heap.size, 0, none⟩) (Nat.le_refl _) _).trans (belowK_b (w := w) (Nat.le_refl _) _ D _ _ (by omega) hK' rfl rfl)⟩
    simp [results, Tryz.f59, go_sem, hc5]
  case stop =>
    rintro D c pre W hD ⟨⟨hc, hf, hbad⟩, hB⟩ hK
    obtain ⟨rfl, hb⟩ := hbad.out
    have HA := Lib.hid hb
    clear hbad hb
    gi_wp2
    refine ⟨by simp, .inl ⟨_, _, rfl, run_takeDeferred hK, ?_⟩⟩
    have hc5 := cell_kept hc (grownBy_putObj' _ D (.deferred none)) (fun r e => by cases e; exact ⟨_, hK, rfl⟩)
    refine ⟨.bool false, ?_, by rw [HTT.out, HA.out], hB.trans (belowK_b (w := w) (Nat.le_refl _) W D _ _ (by omega) hK rfl rfl)⟩
    simp [results, Tryz.f59, go_sem, hc5]
theorem bytes_eqB {a b : ByteArray} (e : a.toList = b.toList) : a = b := by
  rw [ByteArray.toList_eq, ByteArray.toList_eq] at e
  exact ByteArray.ext (Array.toList_inj.mp e)
set_option maxHeartbeats 1000000 in
theorem good_any (s : ByteArray) (w : World) (hs : s.size ≤ 9223372036854775807) :
    Calls Tryz.prog 59 #[.string s] w fun e w' => e = .returned (.bool (goodP s)) ∧ Below w.heap.size w w' := by
  by_cases hr : s = ⟨#[47]⟩
  · subst hr
    have hg : goodP ⟨#[47]⟩ = true := by unfold goodP; rw [decide_eq_true rfl]; rfl
    rw [hg]
    go_enter Tryz.func59, Tryz.ntmps59
    go_wp2
    refine bodyPost_ret (v := .bool true) (by simp [results, Tryz.f59, go_sem]) rfl ⟨rfl, (by repeat (first | exact bA .. | assumption | refine bB ?_ | refine bC ?_ _ | refine bD _ _ ?_ | refine bE _ ?_ | refine bG ?_ (by first | omega | (simp; done) | (simp; omega)) _ | refine Below.setCell ?_ (by first | omega | (simp; done) | (simp; omega)) _ | refine Below.grow _ _ _ ?_ (by first | omega | (simp; done) | (simp; omega))))⟩
  · have hne : (s.toList == [47]) = false := beq_eq_false_iff_ne.2 (fun e => hr (bytes_eqB (by rw [e, ByteArray.toList_eq])))
    by_cases h200 : s.size ≤ 200
    · cases hp : Lib.hasPrefix s.data.toList [47] with
      | true =>
        have hg : goodP s = ((stepsB (s.extract 1 s.size)).all fun x => named (bs x)) := by unfold goodP; rw [decide_eq_false hr, decide_eq_true h200, hp]; rfl
        rw [hg]
        exact good_steps s w h200 hne hp
      | false =>
        have hg : goodP s = false := by unfold goodP; rw [decide_eq_false hr, hp]; simp
        have hgt : (decide ((200 : Int) < (s.size : Int))) = false := decide_eq_false (by omega)
        rw [hg]
        clear hg
        go_enter Tryz.func59, Tryz.ntmps59
        go_wp2_with (go_at_call 77; refine (Tryz.strings_HasPrefix _ _ _).mono ?_; rintro e w' ⟨rfl, rfl⟩; rw [hp])
        refine bodyPost_ret (v := .bool false) (by simp [results, Tryz.f59, go_sem]) rfl ⟨rfl, (by repeat (first | exact bA .. | assumption | refine bB ?_ | refine bC ?_ _ | refine bD _ _ ?_ | refine bE _ ?_ | refine bG ?_ (by first | omega | (simp; done) | (simp; omega)) _ | refine Below.setCell ?_ (by first | omega | (simp; done) | (simp; omega)) _ | refine Below.grow _ _ _ ?_ (by first | omega | (simp; done) | (simp; omega))))⟩
    · have hg : goodP s = false := by unfold goodP; rw [decide_eq_false hr, decide_eq_false h200]; simp
      have hgt : (decide ((200 : Int) < (s.size : Int))) = true := decide_eq_true (by omega)
      rw [hg]
      clear hg
      go_enter Tryz.func59, Tryz.ntmps59
      go_wp2_with fail
      refine bodyPost_ret (v := .bool false) (by simp [results, Tryz.f59, go_sem]) rfl ⟨rfl, (by repeat (first | exact bA .. | assumption | refine bB ?_ | refine bC ?_ _ | refine bD _ _ ?_ | refine bE _ ?_ | refine bG ?_ (by first | omega | (simp; done) | (simp; omega)) _ | refine Below.setCell ?_ (by first | omega | (simp; done) | (simp; omega)) _ | refine Below.grow _ _ _ ?_ (by first | omega | (simp; done) | (simp; omega))))⟩
end Go.Proofs.YtchgpijfebilbaaGreatDoor

/- path.Under, Split, Join, Depth. -/
namespace Go.Proofs.YtchgpijfebilbaaGreatDoor
open Go.RowKit Go.Shelf
def slash : ByteArray := ⟨#[47]⟩
theorem goodP_size {s : ByteArray} (h : goodP s = true) : 1 ≤ s.size ∧ s.size ≤ 200 := by
  unfold goodP at h
  by_cases hs : s = ⟨#[47]⟩
  · subst hs; decide
  · rw [decide_eq_false hs, Bool.false_or] at h
    simp only [Bool.and_eq_true, decide_eq_true_iff] at h
    obtain ⟨⟨h1, hp⟩, _⟩ := h
    refine ⟨?_, h1⟩
    cases hd : s.data.toList with
    | nil => rw [hd] at hp; cases hp
    | cons x r =>
      have : s.data.toList.length = s.size := by simp
      rw [hd] at this
      simp at this
      omega
theorem ne_slash {a : ByteArray} (h : a ≠ slash) : (a.toList == [47]) = false := beq_eq_false_iff_ne.2 (fun e => h (bytes_eqB (by rw [e]; unfold slash; rw [ByteArray.toList_eq])))
def lastP (s : ByteArray) : Nat := (Lib.lastIndexByte s 47).toNat
theorem lastP_is {s : ByteArray} (hp : Lib.hasPrefix s.data.toList [47] = true) : Lib.lastIndexByte s 47 = (lastP s : Int) ∧ lastP s < s.size := by
  rcases Lib.lastIndexByte_spec s 47 with ⟨e, hn⟩ | ⟨i, hi, e, _⟩
  · exfalso
    cases hd : s.data.toList with
    | nil => rw [hd] at hp; cases hp
    | cons x r =>
      rw [hd] at hp
      have hx : (47 : UInt8) = x := by simpa [Lib.hasPrefix, List.isPrefixOf] using hp
      have hl : s.data.toList.length = s.size := by simp
      have h0 : 0 < s.size := by rw [hd] at hl; simp at hl; omega
      refine hn 0 h0 ?_
      have : s.data[0]! = x := by
        rw [← Array.getElem!_toList, hd]; rfl
      rw [this, ← hx]
      rfl
  · unfold lastP
    rw [e]
    exact ⟨by simp, by simpa using hi⟩
theorem goodP_pre {s : ByteArray} (h : goodP s = true) (hs : s ≠ slash) : Lib.hasPrefix s.data.toList [47] = true ∧ ((stepsB (s.extract 1 s.size)).all fun x => named (bs x)) = true := by
  unfold goodP at h
  rw [decide_eq_false (show ¬ s = ⟨#[47]⟩ from hs), Bool.false_or] at h
  simp only [Bool.and_eq_true] at h
  exact ⟨h.1.2, h.2⟩
def splitR (s : ByteArray) : ByteArray × ByteArray × Int := if goodP s then (if s = slash then (⟨#[]⟩, ⟨#[]⟩, 7) else if lastP s = 0 then (slash, s.extract 1 s.size, 0) else (s.extract 0 (lastP s), s.extract (lastP s + 1) s.size, 0)) else (⟨#[]⟩, ⟨#[]⟩, 2)
set_option maxHeartbeats 1000000 in
theorem split_any (s : ByteArray) (w : World) (hs : s.size ≤ 9223372036854775807) :
    Calls Tryz.prog 60 #[.string s] w fun e w' => e = .returned (.tuple #[.string (splitR s).1, .string (splitR s).2.1, .int .i64 (splitR s).2.2]) ∧ Below w.heap.size w w' := by
  have HS := Lib.hid (fun (W : World) => good_any s W hs)
  unfold splitR
  cases hgs : goodP s with
  | false =>
    rw [hgs] at HS
    simp only [Bool.false_eq_true, if_false]
    clear hgs
    go_enter Tryz.func60, Tryz.ntmps60
    go_wp2_with (go_at_call 59; refine (HS.out _).mono ?_; rintro e w1 ⟨rfl, hb⟩; obtain ⟨ext1, d1, rfl⟩ := Below.grown_eq _ hb; clear hb HS)
    refine bodyPost_ret (v := .tuple #[.string ⟨#[]⟩, .string ⟨#[]⟩, .int .i64 2]) (by simp [results, Tryz.results60, go_sem]) rfl ⟨rfl, (by repeat (first | exact bA .. | assumption | refine bB ?_ | refine bC ?_ _ | refine bD _ _ ?_ | refine bE _ ?_ | refine bG ?_ (by first | omega | (simp; done) | (simp; omega)) _ | refine Below.setCell ?_ (by first | omega | (simp; done) | (simp; omega)) _ | refine Below.grow _ _ _ ?_ (by first | omega | (simp; done) | (simp; omega))))⟩
  | true =>
    rw [hgs] at HS
    have zs := goodP_size hgs
    simp only [if_true]
    by_cases hsl : s = slash
    · subst hsl
      simp only [if_true]
      unfold slash at *
      clear hgs
      go_enter Tryz.func60, Tryz.ntmps60
      go_wp2_with (go_at_call 59; refine (HS.out _).mono ?_; rintro e w1 ⟨rfl, hb⟩; obtain ⟨ext1, d1, rfl⟩ := Below.grown_eq _ hb; clear hb HS)
      refine bodyPost_ret (v := .tuple #[.string ⟨#[]⟩, .string ⟨#[]⟩, .int .i64 7]) (by simp [results, Tryz.results60, go_sem]) rfl ⟨rfl, (by repeat (first | exact bA .. | assumption | refine bB ?_ | refine bC ?_ _ | refine bD _ _ ?_ | refine bE _ ?_ | refine bG ?_ (by first | omega | (simp; done) | (simp; omega)) _ | refine Below.setCell ?_ (by first | omega | (simp; done) | (simp; omega)) _ | refine Below.grow _ _ _ ?_ (by first | omega | (simp; done) | (simp; omega))))⟩
    · simp only [if_neg hsl]
      have hne := ne_slash hsl
      obtain ⟨hL, hlt⟩ := lastP_is (goodP_pre hgs hsl).1
      have HL := Lib.hid (fun (W : World) => by
        have h := Tryz.strings_LastIndexByte s 47 (by omega) W
        rw [hL] at h
        exact h)
      clear hL hgs hsl
      generalize lastP s = k at *
      by_cases hk : k = 0
      · subst hk
        simp only [if_true]
        go_enter Tryz.func60, Tryz.ntmps60
        go_wp2_with (first | (go_at_call 59; refine (HS.out _).mono ?_; rintro e w1 ⟨rfl, hb⟩; obtain ⟨ext1, d1, rfl⟩ := Below.grown_eq _ hb; clear hb HS) | (go_at_call 80; refine (HL.out _).mono ?_; rintro e w1 ⟨rfl, rfl⟩; skip))
        go_region
        go_wp2_with fail
        refine bodyPost_ret (v := .tuple #[.string slash, .string (s.extract 1 s.size), .int .i64 0]) (by simp [results, Tryz.results60, go_sem, slash]) rfl ⟨rfl, (by repeat (first | exact bA .. | assumption | refine bB ?_ | refine bC ?_ _ | refine bD _ _ ?_ | refine bE _ ?_ | refine bG ?_ (by first | omega | (simp; done) | (simp; omega)) _ | refine Below.setCell ?_ (by first | omega | (simp; done) | (simp; omega)) _ | refine Below.grow _ _ _ ?_ (by first | omega | (simp; done) | (simp; omega))))⟩
      · simp only [if_neg hk]
        have hki : (((k : Nat) : Int) == 0) = false := beq_eq_false_iff_ne.2 (by omega)
        go_enter Tryz.func60, Tryz.ntmps60
        go_wp2_with (first | (go_at_call 59; refine (HS.out _).mono ?_; rintro e w1 ⟨rfl, hb⟩; obtain ⟨ext1, d1, rfl⟩ := Below.grown_eq _ hb; clear hb HS) | (go_at_call 80; refine (HL.out _).mono ?_; rintro e w1 ⟨rfl, rfl⟩; skip))
        go_region
        go_wp2_with fail
        refine bodyPost_ret (v := .tuple #[.string (s.extract 0 k), .string (s.extract (k + 1) s.size), .int .i64 0]) (by simp [results, Tryz.results60, go_sem]) rfl ⟨rfl, (by repeat (first | exact bA .. | assumption | refine bB ?_ | refine bC ?_ _ | refine bD _ _ ?_ | refine bE _ ?_ | refine bG ?_ (by first | omega | (simp; done) | (simp; omega)) _ | refine Below.setCell ?_ (by first | omega | (simp; done) | (simp; omega)) _ | refine Below.grow _ _ _ ?_ (by first | omega | (simp; done) | (simp; omega))))⟩
def joinT (d n : ByteArray) : ByteArray := if d = slash then slash ++ n else d ++ slash ++ n
def joinR (d n : ByteArray) : ByteArray × Int := if goodP d && named (bs n) then (if 200 < (joinT d n).size then (⟨#[]⟩, 1) else (joinT d n, 0)) else (⟨#[]⟩, 2)
set_option maxHeartbeats 1000000 in
theorem join_any (d n : ByteArray) (w : World) (hd : d.size ≤ 9223372036854775807) (hn : n.size ≤ 9223372036854775807) :
    Calls Tryz.prog 62 #[.string d, .string n] w fun e w' => e = .returned (.tuple #[.string (joinR d n).1, .int .i64 (joinR d n).2]) ∧ Below w.heap.size w w' := by
  have HS := Lib.hid (fun (W : World) => good_any d W hd)
  have HN := Lib.hid (fun (W : World) => named_any n W hn)
  unfold joinR
  cases hgs : goodP d with
  | false =>
    rw [hgs] at HS
    simp only [Bool.false_and, Bool.false_eq_true, if_false]
    clear hgs
    go_enter Tryz.func62, Tryz.ntmps62
    go_wp2_with (go_at_call 59; refine (HS.out _).mono ?_; rintro e w1 ⟨rfl, hb⟩; obtain ⟨ext1, d1, rfl⟩ := Below.grown_eq _ hb; clear hb HS)
    go_ret2
    exact ⟨rfl, (by repeat (first | exact bA .. | assumption | refine bB ?_ | refine bC ?_ _ | refine bD _ _ ?_ | refine bE _ ?_ | refine bG ?_ (by first | omega | (simp; done) | (simp; omega)) _ | refine Below.setCell ?_ (by first | omega | (simp; done) | (simp; omega)) _ | refine Below.grow _ _ _ ?_ (by first | omega | (simp; done) | (simp; omega))))⟩
  | true =>
    rw [hgs] at HS
    have zs := goodP_size hgs
    clear hgs
    cases hnm : named (bs n) with
    | false =>
      rw [hnm] at HN
      simp only [Bool.and_false, Bool.false_eq_true, if_false]
      clear hnm
      go_enter Tryz.func62, Tryz.ntmps62
      go_wp2_with (first | (go_at_call 59; refine (HS.out _).mono ?_; rintro e w1 ⟨rfl, hb⟩; obtain ⟨ext1, d1, rfl⟩ := Below.grown_eq _ hb; clear hb HS) | (go_at_call 79; refine (HN.out _).mono ?_; rintro e w1 ⟨rfl, rfl⟩; skip))
      go_ret2
      exact ⟨rfl, (by repeat (first | exact bA .. | assumption | refine bB ?_ | refine bC ?_ _ | refine bD _ _ ?_ | refine bE _ ?_ | refine bG ?_ (by first | omega | (simp; done) | (simp; omega)) _ | refine Below.setCell ?_ (by first | omega | (simp; done) | (simp; omega)) _ | refine Below.grow _ _ _ ?_ (by first | omega | (simp; done) | (simp; omega))))⟩
    | true =>
      rw [hnm] at HN
      have zn : n.size ≤ 40 := by
        unfold named at hnm
        simp only [Bool.and_eq_true, decide_eq_true_iff, length_bs] at hnm
        exact hnm.2
      clear hnm
      simp only [Bool.and_self, if_true]
      unfold joinT
      by_cases hsl : d = slash
      · subst hsl
        simp only [if_true]
        have hsz : (slash ++ n).size = 1 + n.size := by rw [ByteArray.size_append]; rfl
        have hgt : ¬ 200 < (slash ++ n).size := by omega
        simp only [if_neg hgt]
        have hgi : (decide ((200 : Int) < 1 + (n.size : Int))) = false := decide_eq_false (by omega)
        clear hgt hsz
        unfold slash at *
        go_enter Tryz.func62, Tryz.ntmps62
        go_wp2_with (first | (go_at_call 59; refine (HS.out _).mono ?_; rintro e w1 ⟨rfl, hb⟩; obtain ⟨ext1, d1, rfl⟩ := Below.grown_eq _ hb; clear hb HS) | (go_at_call 79; refine (HN.out _).mono ?_; rintro e w1 ⟨rfl, rfl⟩; skip))
        go_ret2
        exact ⟨rfl, (by repeat (first | exact bA .. | assumption | refine bB ?_ | refine bC ?_ _ | refine bD _ _ ?_ | refine bE _ ?_ | refine bG ?_ (by first | omega | (simp; done) | (simp; omega)) _ | refine Below.setCell ?_ (by first | omega | (simp; done) | (simp; omega)) _ | refine Below.grow _ _ _ ?_ (by first | omega | (simp; done) | (simp; omega))))⟩
      · have hne := ne_slash hsl
        simp only [if_neg hsl]
        have hsz : (d ++ slash ++ n).size = d.size + 1 + n.size := by rw [ByteArray.size_append, ByteArray.size_append]; rfl
        by_cases hgt : 200 < (d ++ slash ++ n).size
        · simp only [if_pos hgt]
          have hgi : (decide ((200 : Int) < (d.size : Int) + 1 + (n.size : Int))) = true := decide_eq_true (by omega)
          clear hgt hsz
          unfold slash at *
          go_enter Tryz.func62, Tryz.ntmps62
          go_wp2_with (first | (go_at_call 59; refine (HS.out _).mono ?_; rintro e w1 ⟨rfl, hb⟩; obtain ⟨ext1, d1, rfl⟩ := Below.grown_eq _ hb; clear hb HS) | (go_at_call 79; refine (HN.out _).mono ?_; rintro e w1 ⟨rfl, rfl⟩; skip))
          go_ret2
          exact ⟨rfl, (by repeat (first | exact bA .. | assumption | refine bB ?_ | refine bC ?_ _ | refine bD _ _ ?_ | refine bE _ ?_ | refine bG ?_ (by first | omega | (simp; done) | (simp; omega)) _ | refine Below.setCell ?_ (by first | omega | (simp; done) | (simp; omega)) _ | refine Below.grow _ _ _ ?_ (by first | omega | (simp; done) | (simp; omega))))⟩
        · simp only [if_neg hgt]
          have hgi : (decide ((200 : Int) < (d.size : Int) + 1 + (n.size : Int))) = false := decide_eq_false (by omega)
          clear hgt hsz
          unfold slash at *
          go_enter Tryz.func62, Tryz.ntmps62
          go_wp2_with (first | (go_at_call 59; refine (HS.out _).mono ?_; rintro e w1 ⟨rfl, hb⟩; obtain ⟨ext1, d1, rfl⟩ := Below.grown_eq _ hb; clear hb HS) | (go_at_call 79; refine (HN.out _).mono ?_; rintro e w1 ⟨rfl, rfl⟩; skip))
          go_ret2
          exact ⟨rfl, (by repeat (first | exact bA .. | assumption | refine bB ?_ | refine bC ?_ _ | refine bD _ _ ?_ | refine bE _ ?_ | refine bG ?_ (by first | omega | (simp; done) | (simp; omega)) _ | refine Below.setCell ?_ (by first | omega | (simp; done) | (simp; omega)) _ | refine Below.grow _ _ _ ?_ (by first | omega | (simp; done) | (simp; omega))))⟩
end Go.Proofs.YtchgpijfebilbaaGreatDoor

/- joins; plain laws of Under. -/
namespace Go.Proofs.YtchgpijfebilbaaGreatDoor
open Go.RowKit
end Go.Proofs.YtchgpijfebilbaaGreatDoor

/- Paths as lists of bytes: plain laws of steps, joined and taken apart. -/
namespace Go.Proofs.YtchgpijfebilbaaGreatDoor
open Go.RowKit
def stepsL : List UInt8 → List (List UInt8)
  | [] => [[]]
  | c :: r => if c = 47 then [] :: stepsL r else (c :: (stepsL r).headD []) :: (stepsL r).tail
theorem stepsL_cons (c : UInt8) (r : List UInt8) : stepsL (c :: r) = if c = 47 then [] :: stepsL r else (c :: (stepsL r).headD []) :: (stepsL r).tail := rfl
theorem stepsL_ne : ∀ l, ∃ h t, stepsL l = h :: t
  | [] => ⟨[], [], rfl⟩
  | c :: r => by
    unfold stepsL
    split
    · exact ⟨_, _, rfl⟩
    · exact ⟨_, _, rfl⟩
theorem stepsL_app : ∀ (x y : List UInt8), stepsL (x ++ 47 :: y) = stepsL x ++ stepsL y
  | [], y => by simp [stepsL]
  | c :: r, y => by
    have ih := stepsL_app r y
    obtain ⟨h, t, e⟩ := stepsL_ne r
    rw [List.cons_append, stepsL_cons, stepsL_cons, ih, e]
    split <;> simp
theorem stepsL_none : ∀ (l : List UInt8), (47 : UInt8) ∉ l → stepsL l = [l]
  | [], _ => rfl
  | c :: r, h => by
    have ih := stepsL_none r (fun k => h (List.mem_cons_of_mem _ k))
    have hc : c ≠ 47 := fun e => h (by rw [e]; exact List.mem_cons_self)
    unfold stepsL
    rw [if_neg hc, ih]
    rfl
theorem bs_extract (s : ByteArray) (a b : Nat) : bs (s.extract a b) = ((bs s).take b).drop a := by
  unfold bs
  rw [ByteArray.data_extract, Array.toList_extract, List.extract_eq_take_drop, List.drop_take]
theorem bs_append (a b : ByteArray) : bs (a ++ b) = bs a ++ bs b := by unfold bs; rw [ByteArray.data_append]; simp
theorem bs_inj {a b : ByteArray} (h : bs a = bs b) : a = b := ByteArray.ext (Array.toList_inj.mp h)
theorem cut_at {l : List UInt8} {o : Nat} (h : l[o]? = some 47) : l = l.take o ++ 47 :: l.drop (o + 1) := by
  obtain ⟨h1, h2⟩ := List.getElem?_eq_some_iff.1 h
  rw [← h2, List.getElem_cons_drop, List.take_append_drop]
theorem stepsB_L (s : ByteArray) : (stepsB s).map bs = stepsL (bs s) := by
  generalize hn : s.size = n
  induction n using Nat.strongRecOn generalizing s with
  | ind n ih =>
    rcases Int.lt_or_le (Lib.indexByte s.data.toList 47) 0 with hi | hi
    · have hge := Lib.indexByte_ge s.data.toList 47
      have hno := Lib.indexByte_none (show Lib.indexByte s.data.toList 47 = -1 by omega)
      rw [stepsB_no hi, stepsL_none]
      · rfl
      · intro hm
        obtain ⟨k, hk⟩ := List.mem_iff_getElem?.1 hm
        exact hno k hk
    · obtain ⟨o, ho⟩ := Int.eq_ofNat_of_zero_le hi
      have hlt := index_lt ho
      have hso := Lib.indexByte_some ho
      have hsz : (s.extract (o + 1) s.size).size = s.size - (o + 1) := by rw [ByteArray.size_extract]; omega
      have h2 := ih (s.size - (o + 1)) (by omega) _ hsz
      have hl : (bs s).length = s.size := length_bs s
      have hno : (47 : UInt8) ∉ (bs s).take o := by
        intro hm
        obtain ⟨k, hk⟩ := List.mem_iff_getElem?.1 hm
        rw [List.getElem?_take] at hk
        split at hk
        · rename_i hko; exact hso.2 k hko hk
        · cases hk
      have hR : stepsL (bs s) = (bs s).take o :: stepsL ((bs s).drop (o + 1)) := by
        conv => lhs; rw [cut_at (show (bs s)[o]? = some 47 from hso.1)]
        rw [stepsL_app, stepsL_none _ hno]
        rfl
      rw [stepsB_yes ho, List.map_cons, h2, bs_extract, bs_extract, List.take_of_length_le (show (bs s).length ≤ s.size by omega), hR]
      rfl
def goodL (l : List UInt8) : Bool := decide (l = [47]) || (decide (l.length ≤ 200) && match l with
  | c :: r => c == 47 && (stepsL r).all named
  | [] => false)
theorem goodP_L (s : ByteArray) : goodP s = goodL (bs s) := by
  unfold goodP goodL
  have h1 : decide (s = ⟨#[47]⟩) = decide (bs s = [47]) := by
    by_cases h : s = ⟨#[47]⟩
    · subst h; rfl
    · rw [decide_eq_false h, decide_eq_false (fun k => h (bs_inj (by rw [k]; rfl)))]
  have h2 : decide (s.size ≤ 200) = decide ((bs s).length ≤ 200) := by rw [length_bs]
  rw [h1, h2, Bool.and_assoc]
  congr 2
  have h3 : ((stepsB (s.extract 1 s.size)).all fun x => named (bs x)) = (stepsL ((bs s).drop 1)).all named := by
    have := stepsB_L (s.extract 1 s.size)
    rw [bs_extract, List.take_of_length_le (by rw [length_bs]; exact Nat.le_refl _)] at this
    rw [← this, List.all_map]
    rfl
  rw [h3]
  show (Lib.hasPrefix (bs s) [47] && _) = _
  cases bs s with
  | nil => rfl
  | cons c r =>
    have hc : ((47 : UInt8) == c) = (c == 47) := by
      by_cases h : c = 47
      · subst h; rfl
      · rw [beq_eq_false_iff_ne.2 h, beq_eq_false_iff_ne.2 (Ne.symm h)]
    simp [Lib.hasPrefix, List.isPrefixOf, hc]
theorem named_no {l : List UInt8} (h : named l = true) : (47 : UInt8) ∉ l ∧ 1 ≤ l.length ∧ l.length ≤ 40 := by
  unfold named at h
  simp only [Bool.and_eq_true, decide_eq_true_iff] at h
  refine ⟨fun hm => ?_, h.1.2, h.2⟩
  have := List.all_eq_true.1 h.1.1 _ hm
  revert this
  decide
theorem goodL_root (n : List UInt8) (hn : (47 : UInt8) ∉ n) (hl : (47 :: n).length ≤ 200) : goodL (47 :: n) = (decide (n = []) || named n) := by
  show (decide (47 :: n = [47]) || (decide ((47 :: n).length ≤ 200) && ((47 : UInt8) == 47 && (stepsL n).all named))) = (decide (n = []) || named n)
  rw [stepsL_none n hn, decide_eq_true hl]
  simp
theorem goodL_deep (c : UInt8) (r n : List UInt8) (hd : c :: r ≠ [47]) (hn : (47 : UInt8) ∉ n) (hl : (c :: r ++ 47 :: n).length ≤ 200) : goodL (c :: r ++ 47 :: n) = (goodL (c :: r) && named n) := by
  show (decide (c :: (r ++ 47 :: n) = [47]) || (decide ((c :: (r ++ 47 :: n)).length ≤ 200) && (c == 47 && (stepsL (r ++ 47 :: n)).all named))) = ((decide (c :: r = [47]) || (decide ((c :: r).length ≤ 200) && (c == 47 && (stepsL r).all named))) && named n)
  have h1 : decide (c :: (r ++ 47 :: n) = [47]) = false := decide_eq_false (by simp)
  have h2 : decide (c :: r = [47]) = false := decide_eq_false hd
  have h3 : (c :: r).length ≤ 200 := by simp at hl ⊢; omega
  rw [h1, h2, stepsL_app, stepsL_none n hn, List.all_append, decide_eq_true (show (c :: (r ++ 47 :: n)).length ≤ 200 from hl), decide_eq_true h3]
  simp [Bool.and_assoc]
theorem lastP_spec {s : ByteArray} (hp : Lib.hasPrefix s.data.toList [47] = true) : (bs s)[lastP s]? = some 47 ∧ (47 : UInt8) ∉ (bs s).drop (lastP s + 1) := by
  obtain ⟨hL, hlt⟩ := lastP_is hp
  have get : ∀ j, j < s.size → (((s.data[j]!).toNat : Int) = 47 ↔ (bs s)[j]? = some 47) := by
    intro j hj
    have hj2 : j < (bs s).length := by rw [length_bs]; exact hj
    have h1 : s.data[j]! = (bs s)[j] := by
      rw [← Array.getElem!_toList]
      exact getElem!_pos s.data.toList j hj2
    rw [h1, List.getElem?_eq_getElem hj2]
    constructor
    · intro h
      have h2 : (bs s)[j].toNat = (47 : UInt8).toNat := by
        have : (47 : UInt8).toNat = 47 := rfl
        omega
      rw [UInt8.toNat_inj.1 h2]
    · intro h
      injection h with h
      rw [h]; rfl
  rcases Lib.lastIndexByte_spec s 47 with ⟨e, _⟩ | ⟨i, hi, e, hc, hn⟩
  · omega
  · have hik : lastP s = i := by omega
    rw [hik]
    refine ⟨(get i hi).1 hc, fun hm => ?_⟩
    obtain ⟨k, hk⟩ := List.mem_iff_getElem?.1 hm
    rw [List.getElem?_drop] at hk
    have hk2 : i + 1 + k < s.size := by
      have := (List.getElem?_eq_some_iff.1 hk).1
      rw [length_bs] at this
      exact this
    exact hn (i + 1 + k) (by omega) hk2 ((get _ hk2).2 hk)
theorem slash_bs : bs slash = [47] := rfl
theorem good_slash : goodP slash = true := by unfold goodP slash; rw [decide_eq_true rfl]; rfl
theorem bs_pre {s : ByteArray} (h : Lib.hasPrefix s.data.toList [47] = true) : ∃ r, bs s = 47 :: r := by
  have h2 : Lib.hasPrefix (bs s) [47] = true := h
  cases hb : bs s with
  | nil => rw [hb] at h2; cases h2
  | cons c r =>
    rw [hb] at h2
    have : (47 : UInt8) = c := by simpa [Lib.hasPrefix, List.isPrefixOf] using h2
    exact ⟨r, by rw [← this]⟩
theorem split_join {s : ByteArray} (h : goodP s = true) (hs : s ≠ slash) : joinR (splitR s).1 (splitR s).2.1 = (s, 0) ∧ goodP (splitR s).1 = true ∧ named (bs (splitR s).2.1) = true ∧ (splitR s).2.2 = 0 := by
  obtain ⟨hp, _⟩ := goodP_pre h hs
  obtain ⟨h1, h2⟩ := lastP_spec hp
  have hcut := cut_at h1
  have hsz := goodP_size h
  have hlen : (bs s).length ≤ 200 := by rw [length_bs]; exact hsz.2
  have hbs : bs (s.extract (lastP s + 1) s.size) = (bs s).drop (lastP s + 1) := by
    rw [bs_extract, List.take_of_length_le (by rw [length_bs]; exact Nat.le_refl _)]
  have hg : goodL (bs s) = true := by rw [← goodP_L]; exact h
  unfold splitR
  rw [if_pos h, if_neg hs]
  by_cases hk : lastP s = 0
  · rw [if_pos hk]
    have hbs1 : bs (s.extract 1 s.size) = (bs s).drop 1 := by rw [hk] at hbs; exact hbs
    have hcut0 : bs s = [] ++ 47 :: bs (s.extract 1 s.size) := by
      rw [hbs1]
      rw [hk] at hcut
      simpa using hcut
    have hn : (47 : UInt8) ∉ bs (s.extract 1 s.size) := by rw [hbs1]; rw [hk] at h2; exact h2
    have hcut1 : bs s = 47 :: bs (s.extract 1 s.size) := hcut0
    have hj := goodL_root (bs (s.extract 1 s.size)) hn (by rw [← hcut1]; exact hlen)
    rw [← hcut1, hg] at hj
    have hne : bs (s.extract 1 s.size) ≠ [] := by
      intro h0
      rw [h0] at hcut0
      exact hs (bs_inj (by rw [hcut0]; rfl))
    have hnm : named (bs (s.extract 1 s.size)) = true := by
      simp only [decide_eq_false hne, Bool.false_or] at hj
      exact hj.symm
    refine ⟨?_, good_slash, hnm, rfl⟩
    have hjt : joinT slash (s.extract 1 s.size) = s := by
      unfold joinT
      rw [if_pos rfl]
      apply bs_inj
      rw [bs_append, slash_bs, hcut0]
      rfl
    unfold joinR
    rw [good_slash, hnm, hjt, Bool.and_self, if_pos rfl, if_neg (by omega)]
  · rw [if_neg hk]
    have hbd : bs (s.extract 0 (lastP s)) = (bs s).take (lastP s) := by rw [bs_extract]; rfl
    have hcut0 : bs s = bs (s.extract 0 (lastP s)) ++ 47 :: bs (s.extract (lastP s + 1) s.size) := by rw [hbd, hbs]; exact hcut
    have hn : (47 : UInt8) ∉ bs (s.extract (lastP s + 1) s.size) := by rw [hbs]; exact h2
    have hlt := (lastP_is hp).2
    have hdl : (bs (s.extract 0 (lastP s))).length = lastP s := by rw [hbd, List.length_take, length_bs]; omega
    generalize s.extract 0 (lastP s) = d at *
    generalize s.extract (lastP s + 1) s.size = n at *
    have hds : bs d ≠ [47] := by
      intro h0
      rw [h0] at hcut0
      have : goodL (47 :: 47 :: bs n) = true := by rw [hcut0] at hg; exact hg
      have h3 : (47 :: 47 :: bs n).length ≤ 200 := by rw [hcut0] at hlen; exact hlen
      have h4 := stepsL_cons 47 (bs n)
      unfold goodL at this
      simp only [h4, if_true, List.all_cons, decide_eq_false (show ¬ (47 :: 47 :: bs n = [47]) by simp)] at this
      have h5 : named [] = false := by decide
      rw [h5] at this
      simp at this
    cases hbd2 : bs d with
    | nil => rw [hbd2] at hdl; simp at hdl; omega
    | cons c r =>
      rw [hbd2] at hds
      have hcut1 : bs s = c :: r ++ 47 :: bs n := by rw [hcut0, hbd2]
      have hj := goodL_deep c r (bs n) hds hn (by rw [← hcut1]; exact hlen)
      rw [← hcut1, hg] at hj
      have hj2 : goodL (c :: r) = true ∧ named (bs n) = true := by
        have := hj.symm
        simpa [Bool.and_eq_true] using this
      have hgd : goodP d = true := by rw [goodP_L, hbd2]; exact hj2.1
      have hdne : d ≠ slash := fun e => hds (by rw [← hbd2, e]; rfl)
      refine ⟨?_, hgd, hj2.2, rfl⟩
      have hjt : joinT d n = s := by
        unfold joinT
        rw [if_neg hdne]
        apply bs_inj
        rw [bs_append, bs_append, slash_bs, hcut0]
        simp
      unfold joinR
      rw [hgd, hj2.2, hjt, Bool.and_self, if_pos rfl, if_neg (by omega)]
end Go.Proofs.YtchgpijfebilbaaGreatDoor

/- The search by halves, as a function on places; the comparing of bytes. -/
namespace Go.Proofs.YtchgpijfebilbaaGreatDoor
open Go.RowKit
def bsF (lt : Nat → Bool) : Nat → Nat → Nat → Nat
  | 0, i, _ => i
  | f + 1, i, j => if i < j then (if lt ((i + j) / 2) then bsF lt f ((i + j) / 2 + 1) j else bsF lt f i ((i + j) / 2)) else i
theorem bsF_fuel (lt : Nat → Bool) : ∀ (f g i j : Nat), j - i ≤ f → j - i ≤ g → bsF lt f i j = bsF lt g i j
  | 0, 0, i, j, _, _ => rfl
  | 0, g + 1, i, j, h, _ => by
    have : ¬ i < j := by omega
    simp [bsF, this]
  | f + 1, 0, i, j, _, h => by
    have : ¬ i < j := by omega
    simp [bsF, this]
  | f + 1, g + 1, i, j, h, h' => by
    simp only [bsF]
    split
    · split
      · exact bsF_fuel lt f g _ _ (by omega) (by omega)
      · exact bsF_fuel lt f g _ _ (by omega) (by omega)
    · rfl
def bsr (lt : Nat → Bool) (i j : Nat) : Nat := bsF lt (j - i) i j
theorem bsr_end (lt : Nat → Bool) (i j : Nat) (h : ¬ i < j) : bsr lt i j = i := by
  unfold bsr
  rw [show j - i = 0 from by omega]
  rfl
theorem bsr_up (lt : Nat → Bool) (i j : Nat) (h : i < j) (hl : lt ((i + j) / 2) = true) : bsr lt i j = bsr lt ((i + j) / 2 + 1) j := by
  unfold bsr
  obtain ⟨f, hf⟩ : ∃ f, j - i = f + 1 := ⟨j - i - 1, by omega⟩
  rw [hf]
  simp only [bsF, h, hl, if_true]
  exact bsF_fuel lt _ _ _ _ (by omega) (by omega)
theorem bsr_down (lt : Nat → Bool) (i j : Nat) (h : i < j) (hl : lt ((i + j) / 2) = false) : bsr lt i j = bsr lt i ((i + j) / 2) := by
  unfold bsr
  obtain ⟨f, hf⟩ : ∃ f, j - i = f + 1 := ⟨j - i - 1, by omega⟩
  rw [hf]
  simp only [bsF, h, hl, if_true, Bool.false_eq_true, if_false]
  exact bsF_fuel lt _ _ _ _ (by omega) (by omega)
theorem bsr_range (lt : Nat → Bool) : ∀ (f i j : Nat), j - i ≤ f → i ≤ j → i ≤ bsr lt i j ∧ bsr lt i j ≤ j
  | 0, i, j, h, hij => by rw [bsr_end lt i j (by omega)]; omega
  | f + 1, i, j, h, hij => by
    by_cases hlt : i < j
    · cases hl : lt ((i + j) / 2)
      · rw [bsr_down lt i j hlt hl]
        have := bsr_range lt f i ((i + j) / 2) (by omega) (by omega)
        omega
      · rw [bsr_up lt i j hlt hl]
        have := bsr_range lt f ((i + j) / 2 + 1) j (by omega) (by omega)
        omega
    · rw [bsr_end lt i j hlt]; omega
theorem bsr_le (lt : Nat → Bool) (n : Nat) : bsr lt 0 n ≤ n := (bsr_range lt n 0 n (by omega) (by omega)).2
theorem bsr_sorted (lt : Nat → Bool) (m : Nat) : ∀ (f i j : Nat), j - i ≤ f → i ≤ m → m ≤ j → (∀ k, k < m → lt k = true) → (∀ k, m ≤ k → k < j → lt k = false) → bsr lt i j = m
  | 0, i, j, h, h1, h2, _, _ => by rw [bsr_end lt i j (by omega)]; omega
  | f + 1, i, j, h, h1, h2, hl, hg => by
    by_cases hlt : i < j
    · cases hx : lt ((i + j) / 2)
      · rw [bsr_down lt i j hlt hx]
        have : m ≤ (i + j) / 2 := by
          rcases Nat.lt_or_ge ((i + j) / 2) m with h3 | h3
          · rw [hl _ h3] at hx; cases hx
          · exact h3
        exact bsr_sorted lt m f i _ (by omega) h1 this hl (fun k hk hk' => hg k hk (by omega))
      · rw [bsr_up lt i j hlt hx]
        have : (i + j) / 2 + 1 ≤ m := by
          rcases Nat.lt_or_ge ((i + j) / 2) m with h3 | h3
          · omega
          · rw [hg _ h3 (by omega)] at hx; cases hx
        exact bsr_sorted lt m f _ j (by omega) this h2 hl hg
    · rw [bsr_end lt i j hlt]; omega
end Go.Proofs.YtchgpijfebilbaaGreatDoor

namespace Go.Proofs.YtchgpijfebilbaaGreatDoor
open Go.RowKit
def bs3 (s : ByteArray) : List UInt8 := s.data.toList
def cmpB (a b : ByteArray) : Int := Lib.compareBytes a.data.toList b.data.toList
def ltK (ks : List ByteArray) (p : ByteArray) (k : Nat) : Bool := decide (cmpB (ks.getD k ByteArray.empty) p < 0)
def posK (ks : List ByteArray) (p : ByteArray) : Nat := bsr (ltK ks p) 0 ks.length
def isK (ks : List ByteArray) (p : ByteArray) : Bool := decide (posK ks p < ks.length) && decide (cmpB (ks.getD (posK ks p) ByteArray.empty) p = 0)

theorem ltK_of {α : Type} {g : α → ByteArray} {l : List α} {k : Nat} {x : α} (h : l[k]? = some x) (p : ByteArray) : ltK (l.map g) p k = decide (cmpB (g x) p < 0) := by
  unfold ltK
  rw [List.getD_eq_getElem?_getD, List.getElem?_map, h]
  rfl
theorem isK_in {α : Type} {g : α → ByteArray} {l : List α} {p : ByteArray} {k : Nat} {x : α} (hp : posK (l.map g) p = k) (h : l[k]? = some x) : isK (l.map g) p = (cmpB (g x) p == 0) := by
  have hk : k < l.length := (List.getElem?_eq_some_iff.1 h).1
  unfold isK
  rw [hp, List.getD_eq_getElem?_getD, List.getElem?_map, h]
  simp [hk]
  rfl
theorem isK_out {α : Type} {g : α → ByteArray} {l : List α} {p : ByteArray} {k : Nat} (hp : posK (l.map g) p = k) (h : ¬ k < l.length) : isK (l.map g) p = false := by
  unfold isK
  rw [hp]
  simp
  omega
end Go.Proofs.YtchgpijfebilbaaGreatDoor

/- copy and append with room made, for elements of several cells: laws of no program; a row spliced. -/
namespace Go.Proofs.YtchgpijfebilbaaGreatDoor
open Go.RowKit
def Bk (w : World) (g : Nat) (cs : List Value) (t : TypeId) : Prop := w.heap[g]? = some (.cells cs.toArray t (0, 0))
theorem Bk.lt {w : World} {g : Nat} {cs : List Value} {t : TypeId} (h : Bk w g cs t) : g < w.heap.size := (Array.getElem?_eq_some_iff.1 h).1
theorem Bk.cell {w : World} {g : Nat} {cs : List Value} {t : TypeId} (h : Bk w g cs t) (i : Nat) : w.cell? ⟨g, i, none⟩ = cs[i]? := by unfold Bk at h; simp [World.cell?, h]
theorem Bk.frozen {w : World} {g : Nat} {cs : List Value} {t : TypeId} (h : Bk w g cs t) (i : Nat) : w.frozen? ⟨g, i, none⟩ = false := by unfold Bk at h; simp [World.frozen?, h]
theorem Bk.grown {w w' : World} {g : Nat} {cs : List Value} {t : TypeId} {row : Option Nat} (h : Bk w g cs t) (hg : w.grownBy w' row) (hne : some g ≠ row) : Bk w' g cs t := (hg.block g h.lt hne).trans h
theorem Bk.below {w w' : World} {g : Nat} {cs : List Value} {t : TypeId} (h : Bk w g cs t) (hb : Below w.heap.size w w') : Bk w' g cs t := (hb.block g h.lt).trans h

theorem ins1 {α : Type} (A B J X : List α) (h : X.length ≤ J.length) : splice (splice (A ++ B ++ J) (A.length + X.length) B) A.length X = A ++ X ++ B ++ J.drop X.length := by
  unfold splice
  have e1 : ((A ++ B ++ J).take (A.length + X.length)).length = A.length + X.length := by simp; omega
  have e2 : (A ++ B ++ J).drop (A.length + X.length + B.length) = J.drop X.length := by
    rw [List.drop_append, List.drop_eq_nil_of_le (by simp <;> omega), List.nil_append]
    congr 1
    simp
    omega
  have e3 : (((A ++ B ++ J).take (A.length + X.length)) ++ (B ++ (A ++ B ++ J).drop (A.length + X.length + B.length))).take A.length = A := by
    rw [List.take_append_of_le_length (by rw [e1]; omega), List.take_take, Nat.min_eq_left (by omega), List.append_assoc, List.take_left]
  have e4 : (((A ++ B ++ J).take (A.length + X.length)) ++ (B ++ (A ++ B ++ J).drop (A.length + X.length + B.length))).drop (A.length + X.length) = B ++ (A ++ B ++ J).drop (A.length + X.length + B.length) := by
    rw [List.drop_append_of_le_length (by rw [e1]; omega), List.drop_eq_nil_of_le (by rw [e1]; omega), List.nil_append]
  rw [e3, e4, e2]
  simp
theorem ins2 {α : Type} (A Z B X : List α) : splice (splice (A ++ Z) A.length X) (A.length + X.length) B = A ++ X ++ B ++ Z.drop (X.length + B.length) := by
  unfold splice
  rw [List.take_left]
  have e1 : (A ++ Z).drop (A.length + X.length) = Z.drop X.length := by rw [List.drop_append, List.drop_eq_nil_of_le (by omega)]; simp
  rw [e1]
  have e2 : (A ++ (X ++ Z.drop X.length)).take (A.length + X.length) = A ++ X := by rw [← List.append_assoc, ← List.length_append, List.take_left]
  have e3 : (A ++ (X ++ Z.drop X.length)).drop (A.length + X.length + B.length) = Z.drop (X.length + B.length) := by
    rw [← List.append_assoc, ← List.length_append, ← List.drop_drop, List.drop_left, List.drop_drop]
  rw [e2, e3]
  simp
theorem splice_length {α : Type} (L : List α) (o : Nat) (cs : List α) (h : o + cs.length ≤ L.length) : (splice L o cs).length = L.length := length_splice L o cs h

section
variable {P : Program}
theorem run_copy_blk {w : World} {dT sT ty e : TypeId} {s g o dLen dCap : Nat} {a : Addr} {sLen sCap : Nat} {cur : List Value} {t : TypeId} {cs : List Value}
    (hu : P.underlying dT = some (.slice e)) (hs : (P.info? e).map (·.size) = some s) (hg : Bk w g cur t) (hn : cs.length = Nat.min sLen dLen * s)
    (hsrc : ∀ j v, cs[j]? = some v → w.cell? (a.add j) = some v) (hfit : o + cs.length ≤ cur.length) (h1 : ∀ v ∈ cs, v.oneCell' = true) :
    (Builtin.copy_ #[dT, sT] ty #[.slice (some ⟨g, o, none⟩) dLen dCap, .slice (some a) sLen sCap]).run P w =
      .ok (goInt (Nat.min sLen dLen)) (w.setRow g (splice cur o cs).toArray) := by
  have hl := run_firstCells_some (P := P) w s (Nat.min sLen dLen) a sLen sCap cs hn hsrc
  have hst := run_storeCells_at P g o t cs 0 cur.toArray w hg (by simpa using hfit) h1
  cases hq : P.info? e with
  | none => simp [hq] at hs
  | some i =>
    have hi : i.size = s := by simpa [hq] using hs
    simp only [Nat.min_def] at hl
    simp [Builtin.copy_, run_underlying hu, Builtin.lenOf, sizeOf, typeInfo, hq, hi, hl, hst, splice, Nat.min_def]
theorem grownCap_bounds (w : World) (need old : Nat) (e : TypeId) (h : need ≤ maxLen) : need ≤ grownCap w need old e ∧ grownCap w need old e ≤ maxLen := ⟨grownCap_ge _ _ _ _, grownCap_le_maxLen _ _ _ _ h⟩
theorem wpList_appz {w : World} {ops : Array Oper} {rest : List Oper} {o : Oper} {a : Act} {Q : Exit → Act → World → Prop} (hgd : o.guard = none) (sv x : Operand) (t tn : TypeId)
    (ho : o.op = .call { callee := .builtin .append, args := #[sv, x], argTypes := #[t, tn] }) {e : TypeId} {z : Value} {s bytes : Nat} (E : El P t e z s bytes) {kn : IntKind} (htn : P.underlying tn = some (.int kn))
    {g k c cnt : Nat} {cur : List Value} {et : TypeId} (hs : a.eval sv = .slice (some ⟨g, 0, none⟩) k c) (hx : a.eval x = .int .i64 (cnt : Int)) (hg : Bk w g cur et) (hk : k * s ≤ cur.length) (h0 : 0 < cnt) (hc : c < k + cnt)
    (h63 : k + cnt ≤ maxLen) (hbytes : (k + cnt) * bytes ≤ 140737488355328)
    (h : ∀ w1 (Z : List Value) (cap : Nat), Bk w1 w.heap.size (cur.take (k * s) ++ Z) e → Z.length = (cap - k) * s → k + cnt ≤ cap → cap ≤ maxLen → w.grownBy w1 none → w1.heap.size = w.heap.size + 1 →
      wpList P ops Q rest (a.put o.dst (.slice (some ⟨w.heap.size, 0, none⟩) (k + cnt) cap)) w1) : wpList P ops Q (o :: rest) a w := by
  obtain ⟨i, hi, hz, hsz, hby⟩ := info_of E.info
  have hcells : ∀ j v, (cur.take (k * s))[j]? = some v → w.drew.cell? ((⟨g, 0, none⟩ : Addr).add j) = some v := by
    intro j v hj
    have hadd : (⟨g, 0, none⟩ : Addr).add j = ⟨g, j, none⟩ := by unfold Addr.add; split <;> simp_all
    rw [List.getElem?_take] at hj
    split at hj
    · rw [hadd]
      show w.cell? _ = _
      rw [hg.cell, hj]
    · cases hj
  have hold := run_firstCells_some (P := P) w.drew i.size k ⟨g, 0, none⟩ k c (cur.take (k * s)) (by rw [List.length_take, hsz]; omega) hcells
  have hb1 : cnt * bytes ≤ 281474976710656 := by
    have : cnt * bytes ≤ (k + cnt) * bytes := Nat.mul_le_mul_right _ (by omega)
    omega
  have hr := Lib.run_append_grow_zeros (P := P) w t tn o.type e i z .i64 kn E.slice htn hi hz (some ⟨g, 0, none⟩) k c (cur.take (k * s)) hold cnt h0 (by rw [hsz]; exact E.pos) hc
    (by simp [maxLen] at h63; omega) (by rw [hby]; exact hb1) (by rw [hby]; exact growslice_fits hc hbytes)
  obtain ⟨hc1, hc2⟩ := grownCap_bounds w (k + cnt) c e h63
  refine Lib.wpList_append_run w hgd sv x t tn ho _ _ hs hx _ _ hr ?_
  refine h _ (Builtin.zeroCells z.cells cnt ++ Builtin.zeroCells z.cells (grownCap w (k + cnt) c e - (k + cnt))).toList _ ?_ ?_ hc1 hc2 ⟨rfl, rfl, rfl, by simp, fun j hj _ => heap_alloc_old w.drew _ hj⟩ (by simp)
  · have := heap_alloc_new w.drew (.cells ((cur.take (k * s)).toArray ++ Builtin.zeroCells z.cells cnt ++ Builtin.zeroCells z.cells (grownCap w (k + cnt) c e - (k + cnt))) e)
    unfold Bk
    rw [show ((cur.take (k * s) ++ (Builtin.zeroCells z.cells cnt ++ Builtin.zeroCells z.cells (grownCap w (k + cnt) c e - (k + cnt))).toList).toArray : Array Value) = (cur.take (k * s)).toArray ++ Builtin.zeroCells z.cells cnt ++ Builtin.zeroCells z.cells (grownCap w (k + cnt) c e - (k + cnt)) from by apply Array.ext'; simp]
    exact this
  · simp only [Array.toList_append, List.length_append, Array.length_toList, size_zeroCells, E.cells]
    rw [← Nat.add_mul]
    congr 1
    omega
theorem setRow_grown (w : World) (g : Nat) (cs : Array Value) : w.grownBy (w.setRow g cs) (some g) :=
  ⟨rfl, rfl, rfl, by simp [World.setRow], fun k hk hne => setRow_other w g k cs (fun h => hne (by rw [h]))⟩
theorem Bk.setRow {w : World} {g : Nat} {cur cs : List Value} {t : TypeId} (h : Bk w g cur t) : Bk (w.setRow g cs.toArray) g cs t := setRow_heap w g _ _ t _ h
theorem wp_cp {w : World} {o : Oper} {a : Act} {K : Act → World → Prop} {Q : Exit → Act → World → Prop} (d x : Operand) (dT sT : TypeId)
    (ho : o.op = .call { callee := .builtin .copy, args := #[d, x], argTypes := #[dT, sT] }) {e : TypeId} {z : Value} {s bytes : Nat} (E : El P dT e z s bytes) {g off dLen dCap : Nat} {ad : Addr} {sLen sCap : Nat} {cur : List Value} {t : TypeId} {cs : List Value}
    (hd : a.eval d = .slice (some ⟨g, off, none⟩) dLen dCap) (hx : a.eval x = .slice (some ad) sLen sCap) (hg : Bk w g cur t) (hn : cs.length = Nat.min sLen dLen * s)
    (hsrc : ∀ j v, cs[j]? = some v → w.cell? (ad.add j) = some v) (hfit : off + cs.length ≤ cur.length) (h1 : ∀ v ∈ cs, v.oneCell' = true)
    (h : ∀ w', Bk w' g (splice cur off cs) t → w.grownBy w' (some g) → w'.heap.size = w.heap.size → K (a.put o.dst (goInt (Nat.min sLen dLen))) w') : o.wp P a w K Q := by
  have hr := run_copy_blk (P := P) (ty := o.type) (sT := sT) (dCap := dCap) (sCap := sCap) E.slice (by obtain ⟨i, hi, _, hsz, _⟩ := info_of E.info; rw [hi, ← hsz]; rfl) hg hn hsrc hfit h1
  unfold Oper.wp execOp
  simp only [ho, resolve, invoke, builtin, Sem.run_bind, Sem.run_pure, Result.andThen_ok, List.map_toArray, List.map_cons, List.map_nil, hd, hx, hr]
  exact h _ hg.setRow (setRow_grown _ _ _) (by simp [World.setRow])
theorem wpList_cp {w : World} {ops : Array Oper} {rest : List Oper} {o : Oper} {a : Act} {Q : Exit → Act → World → Prop} (hgd : o.guard = none) (d x : Operand) (dT sT : TypeId)
    (ho : o.op = .call { callee := .builtin .copy, args := #[d, x], argTypes := #[dT, sT] }) {e : TypeId} {z : Value} {s bytes : Nat} (E : El P dT e z s bytes) {g off dLen dCap : Nat} {ad : Addr} {sLen sCap : Nat} {cur : List Value} {t : TypeId} {cs : List Value}
    (hd : a.eval d = .slice (some ⟨g, off, none⟩) dLen dCap) (hx : a.eval x = .slice (some ad) sLen sCap) (hg : Bk w g cur t) (hn : cs.length = Nat.min sLen dLen * s)
    (hsrc : ∀ j v, cs[j]? = some v → w.cell? (ad.add j) = some v) (hfit : off + cs.length ≤ cur.length) (h1 : ∀ v ∈ cs, v.oneCell' = true)
    (h : ∀ w', Bk w' g (splice cur off cs) t → w.grownBy w' (some g) → w'.heap.size = w.heap.size → wpList P ops Q rest (a.put o.dst (goInt (Nat.min sLen dLen))) w') : wpList P ops Q (o :: rest) a w :=
  wpList_plain hgd fun _ hK => wp_cp d x dT sT ho E hd hx hg hn hsrc hfit h1 fun w' h2 h3 h4 => hK _ _ (h w' h2 h3 h4)
theorem step_cp {w : World} {ops : Array Oper} {o : Oper} {a : Act} {K : Act → World → Prop} {Q : Exit → Act → World → Prop} {EE : Prop} (hgd : o.guard = none) (d x : Operand) (dT sT : TypeId)
    (ho : o.op = .call { callee := .builtin .copy, args := #[d, x], argTypes := #[dT, sT] }) {e : TypeId} {z : Value} {s bytes : Nat} (E : El P dT e z s bytes) {g off dLen dCap : Nat} {ad : Addr} {sLen sCap : Nat} {cur : List Value} {t : TypeId} {cs : List Value}
    (hd : a.eval d = .slice (some ⟨g, off, none⟩) dLen dCap) (hx : a.eval x = .slice (some ad) sLen sCap) (hg : Bk w g cur t) (hn : cs.length = Nat.min sLen dLen * s)
    (hsrc : ∀ j v, cs[j]? = some v → w.cell? (ad.add j) = some v) (hfit : off + cs.length ≤ cur.length) (h1 : ∀ v ∈ cs, v.oneCell' = true)
    (h : ∀ w', Bk w' g (splice cur off cs) t → w.grownBy w' (some g) → w'.heap.size = w.heap.size → K (a.put o.dst (goInt (Nat.min sLen dLen))) w') : if Region.wanted o (yielded ops a.tmps) = true then Oper.wp P o a w K Q else EE := by
  have hw : Region.wanted o (yielded ops a.tmps) = true := by simp [Region.wanted, hgd]
  rw [if_pos hw]
  exact wp_cp d x dT sT ho E hd hx hg hn hsrc hfit h1 h
theorem wpList_atcp {ops : Array Oper} {rest : List Oper} {d : Option Tmp} {args : Array Operand} {ts : Array TypeId} {ty : TypeId} {pos : String} {af : Array Edge} {g : Option (Nat × Bool)} {a : Act} {w : World} {Q : Exit → Act → World → Prop}
    (h : wpList P ops Q (⟨d, .call { callee := .builtin .copy, args := args, argTypes := ts }, ty, pos, af, g⟩ :: rest) a w) : wpList P ops Q (⟨d, .call { callee := .builtin .copy, args := args, argTypes := ts }, ty, pos, af, g⟩ :: rest) a w := h
theorem Bk.shape {w : World} {g : Nat} {cs : List Value} {t : TypeId} (h : Bk w g cs t) : w.shape? g = some (t, cs.length) := by unfold Bk at h; simp [World.shape?, h]
theorem overlaps_no {F : FuncId} {fn : Func} {tS tB e : TypeId} {z : Value} {s bytes : Nat} (E : El P tS e z s bytes) (hf : P.funcs[F]? = some fn) (hname : (fn.name == "runtime.NumGoroutine") = false)
    (hb : fn.body.isNone = true) (hn : Extern.findNext fn = none) (he : Extern.find fn = some (Extern.SlicesOverlaps.overlaps #[tS, tS] #[tB])) {w : World} {g vb : Nat} {xs cur : List Value} {t t' : TypeId} (hv : Bk w vb xs t) (hg : Bk w g cur t') (hne : vb ≠ g) (h0 : cur.length ≠ 0)
    (off la ca lb cb : Nat) : (callFunc F #[.slice (some ⟨vb, 0, none⟩) la ca, .slice (some ⟨g, off, none⟩) lb cb]).run P w = .ok (.value (.bool false)) w := by
  rw [run_callFunc_extern hf hname hb hn he, Lib.run_overlaps_apart w tS tB e E.slice s (fun w => by obtain ⟨i, hi, _, hsz, _⟩ := info_of E.info; simp [sizeOf, typeInfo, hi, hsz]) ⟨vb, 0, none⟩ ⟨g, off, none⟩ la ca lb cb hne t t' _ _ hv.shape hg.shape h0 (hv.frozen 0) (hv.frozen _)]
  rfl
end
end Go.Proofs.YtchgpijfebilbaaGreatDoor

/- rows of the call's own: general lemmas (once part of T4). -/
namespace Go.Proofs.YtchgpijfebilbaaGreatDoor
open Go.RowKit
def Rowed {α : Type} (f : α → List Value) (s : Nat) (e : TypeId) (B n : Nat) (l : List α) (row : Option Nat) (w : World) (r : Ending) (w' : World) : Prop :=
  ∃ A c, r = .returned (.slice A n c) ∧ Ow f s e w' B (.slice A n c) l ∧ w.grownBy w' row ∧ ((Value.slice A n c).ownBlock = row ∨ (Value.slice A n c).ownBlock = some w.heap.size)

theorem Ow.is_slice {α : Type} {f : α → List Value} {s : Nat} {e : TypeId} {w : World} {B : Nat} {v : Value} {l : List α} {m : Nat} (h : Ow f s e w B v l) (hm : l.length = m) : ∃ A c, v = .slice A m c := by
  obtain ⟨A, c, h, _⟩ := h.form
  exact ⟨A, c, by rw [h, hm]⟩
theorem Sl.blk {α : Type} {f : α → List Value} {s : Nat} {w : World} {g : Nat} {x : α} {e : TypeId} (hs : (f x).length = s) (h : Bk w g (f x) e) : Sl f s w (.slice (some ⟨g, 0, none⟩) 1 1) [x] := by
  refine ⟨some ⟨g, 0, none⟩, 1, rfl, Nat.le_refl _, by simp [maxLen], by simpa using hs, fun _ => ⟨_, _, rfl, h.lt, fun i y hy j u hu => ?_⟩⟩
  cases i with
  | zero =>
    simp at hy
    subst hy
    rw [show 0 + 0 * s + j = j from by omega, h.cell]
    exact hu
  | succ i => simp at hy
theorem flatMap_split {α : Type} {f : α → List Value} {s : Nat} {l : List α} (hf : ∀ x ∈ l, (f x).length = s) (k : Nat) : (l.take k).flatMap f = (l.flatMap f).take (k * s) ∧ (l.drop k).flatMap f = (l.flatMap f).drop (k * s) := by
  induction l generalizing k with
  | nil => simp
  | cons y l ih =>
    have hy : (f y).length = s := hf y (by simp)
    cases k with
    | zero => simp
    | succ k =>
      have h := ih (fun z hz => hf z (by simp [hz])) k
      have e1 : (k + 1) * s = (f y).length + k * s := by rw [hy, Nat.succ_mul, Nat.add_comm]
      constructor
      · rw [List.take_succ_cons, List.flatMap_cons, h.1, List.flatMap_cons, e1, List.take_length_add_append]
      · rw [List.drop_succ_cons, h.2, List.flatMap_cons, e1, List.drop_length_add_append]
theorem Ow.blk {α : Type} {f : α → List Value} {s : Nat} {e : TypeId} {w : World} {B n c : Nat} {A : Option Addr} {l : List α} (h : Ow f s e w B (.slice A n c) l) (h0 : 0 < n) :
    ∃ g J, A = some ⟨g, 0, none⟩ ∧ B ≤ g ∧ Bk w g (l.flatMap f ++ J) e ∧ (l.flatMap f ++ J).length = c * s ∧ n ≤ c ∧ c ≤ maxLen ∧ n = l.length := by
  obtain ⟨_, _, hf1, _⟩ := h.form
  injection hf1 with _ e2 _
  rcases h.1.2 with ⟨hn, _⟩ | ⟨g, cap, cur, hv, hB, hg, h1, h2, h3, h4⟩
  · injection hn with _ e3 _; omega
  · injection hv with v1 v2 v3
    subst v3
    refine ⟨g, cur.toList.drop (l.length * s), v1, hB, ?_, ?_, by omega, h2, e2⟩
    · rw [← h4, List.take_append_drop]
      unfold Bk
      simpa using hg
    · rw [← h4, List.take_append_drop]
      simpa using h3
theorem Ow.of_blk {α : Type} {f : α → List Value} {s : Nat} {e : TypeId} {w : World} {B g c : Nat} {l : List α} {cur J : List Value} (hf : ∀ x ∈ l, (f x).length = s) (hB : B ≤ g) (hb : Bk w g cur e) (hcur : cur = l.flatMap f ++ J) (hl : cur.length = c * s) (hn : l.length ≤ c) (hc : c ≤ maxLen) :
    Ow f s e w B (.slice (some ⟨g, 0, none⟩) l.length c) l := by
  refine ⟨⟨flatMap_length hf, .inr ⟨g, c, cur.toArray, rfl, hB, hb, hn, hc, by simpa using hl, ?_⟩⟩, hf⟩
  rw [← flatMap_length hf]
  simp only [hcur]
  rw [List.take_left]

end Go.Proofs.YtchgpijfebilbaaGreatDoor

namespace Go.Proofs.YtchgpijfebilbaaGreatDoor
open Go.RowKit
end Go.Proofs.YtchgpijfebilbaaGreatDoor

/- writing one element of a row of one's own; a row in a grown world. -/
namespace Go.Proofs.YtchgpijfebilbaaGreatDoor
open Go.RowKit
theorem Bk.put {w : World} {g : Nat} {cs : List Value} {t : TypeId} (h : Bk w g cs t) (j : Nat) (v : Value) : Bk (w.setCell ⟨g, j, none⟩ v) g (cs.set j v) t := by
  have hlt := h.lt
  unfold Bk at h ⊢
  unfold World.setCell
  simp only [Array.getElem?_modify, h]
  simp
theorem grownBy_setCell (w : World) (g j : Nat) (v : Value) : w.grownBy (w.setCell ⟨g, j, none⟩ v) (some g) := by
  refine ⟨rfl, rfl, rfl, by simp [World.setCell], fun k hk hne => ?_⟩
  unfold World.setCell
  simp only [Array.getElem?_modify]
  split
  · rename_i e; subst e; exact absurd rfl hne
  · rfl
theorem Bk.puts {g : Nat} {t : TypeId} : ∀ (vs : List Value) (o : Nat) {w : World} {cs : List Value}, Bk w g cs t → o + vs.length ≤ cs.length → Bk (w.setCells g o vs) g (splice cs o vs) t
  | [], o, w, cs, h, _ => by simpa [World.setCells, splice] using h
  | v :: r, o, w, cs, h, hl => by
    have := Bk.puts (t := t) r (o + 1) (h.put o v) (by simp at hl ⊢; omega)
    rw [World.setCells]
    have e : splice (cs.set o v) (o + 1) r = splice cs o (v :: r) := by
      simp only [List.length_cons] at hl
      unfold splice
      have h1 : (cs.set o v).take (o + 1) = cs.take o ++ [v] := by
        rw [List.take_add_one, List.getElem?_set_self (by omega), List.take_set_of_le (by omega)]
        rfl
      rw [h1, List.drop_set_of_lt (by omega), List.length_cons, show o + (r.length + 1) = o + 1 + r.length from by omega]
      simp
    rw [← e]
    exact this
theorem grownBy_setCells (g : Nat) : ∀ (vs : List Value) (o : Nat) (w : World), w.grownBy (w.setCells g o vs) (some g)
  | [], _, _ => World.grownBy.refl _ _
  | v :: r, o, w => (grownBy_setCell w g o v).trans (grownBy_setCells g r (o + 1) _)
theorem flatMap_set {α : Type} {f : α → List Value} {s : Nat} {l : List α} (hf : ∀ x ∈ l, (f x).length = s) {k : Nat} (hk : k < l.length) (x : α) (hx : (f x).length = s) (J : List Value) : splice (l.flatMap f ++ J) (k * s) (f x) = (l.set k x).flatMap f ++ J := by
  have e : l = l.take k ++ l[k] :: l.drop (k + 1) := by rw [List.getElem_cons_drop, List.take_append_drop]
  have hA : ((l.take k).flatMap f).length = k * s := by rw [flatMap_length (fun y hy => hf y (List.mem_of_mem_take hy)), List.length_take, Nat.min_eq_left (by omega)]
  have hm : (f l[k]).length = s := hf _ (List.getElem_mem _)
  have e2 : l.set k x = l.take k ++ x :: l.drop (k + 1) := by rw [List.set_eq_take_append_cons_drop, if_pos hk]
  rw [e2]
  have e3 : l.flatMap f = (l.take k).flatMap f ++ (f l[k] ++ (l.drop (k + 1)).flatMap f) := by
    conv => lhs; rw [e]
    rw [List.flatMap_append, List.flatMap_cons]
  rw [e3]
  unfold splice
  rw [List.append_assoc, ← hA, List.take_left, List.flatMap_append, List.flatMap_cons]
  have e4 : ((l.take k).flatMap f ++ (f l[k] ++ (l.drop (k + 1)).flatMap f ++ J)).drop (((l.take k).flatMap f).length + (f x).length) = (l.drop (k + 1)).flatMap f ++ J := by
    rw [List.append_assoc, ← List.drop_drop, List.drop_left, hx, ← hm, List.drop_left]
  rw [e4]
  simp
theorem Ow.put {α : Type} {f : α → List Value} {s : Nat} {e : TypeId} {w : World} {B n c g : Nat} {l : List α} {cur J : List Value} (hf : ∀ x ∈ l, (f x).length = s) (hb : Bk w g cur e) (hcur : cur = l.flatMap f ++ J) (hl : cur.length = c * s) (hB : B ≤ g) (hn : n = l.length) (hc : n ≤ c) (hcm : c ≤ maxLen)
    {k : Nat} (hk : k < l.length) (x : α) (hx : (f x).length = s) : Ow f s e (w.setCells g (k * s) (f x)) B (.slice (some ⟨g, 0, none⟩) n c) (l.set k x) := by
  have hks : k * s + (f x).length ≤ cur.length := by
    rw [hl, hx]
    calc k * s + s = (k + 1) * s := (Nat.succ_mul k s).symm
      _ ≤ c * s := Nat.mul_le_mul_right s (by omega)
  have h1 := hb.puts (f x) (k * s) hks
  rw [hcur, flatMap_set hf hk x hx J] at h1
  have hlen : (l.set k x).length = n := by rw [List.length_set, hn]
  rw [← hlen]
  refine ⟨⟨flatMap_length (fun y hy => ?_), .inr ⟨g, c, ((l.set k x).flatMap f ++ J).toArray, rfl, hB, h1, by omega, hcm, ?_, ?_⟩⟩, fun y hy => ?_⟩
  · rcases List.mem_or_eq_of_mem_set hy with h | rfl
    · exact hf y h
    · exact hx
  · have h2 := splice_length (l.flatMap f ++ J) (k * s) (f x) (by rw [← hcur]; exact hks)
    rw [flatMap_set hf hk x hx J, ← hcur] at h2
    simp only [List.size_toArray]
    rw [h2, hl]
  · rw [← flatMap_length (f := f) (s := s) (fun y hy => by rcases List.mem_or_eq_of_mem_set hy with h | rfl; exact hf y h; exact hx)]
    simp
  · rcases List.mem_or_eq_of_mem_set hy with h | rfl
    · exact hf y h
    · exact hx
theorem grown_after {W w w' : World} {row : Option Nat} (hb : Below W.heap.size W w) (hg : w.grownBy w' row) (hrow : ∀ k, row = some k → W.heap.size ≤ k) : ∃ ext d, w' = grow W ext d :=
  Below.grown_eq _ (hb.grown hg hb.size hrow)
theorem Ow.own_in {α : Type} {f : α → List Value} {s : Nat} {e : TypeId} {w : World} {B : Nat} {v : Value} {l : List α} (h : Ow f s e w B v l) {k : Nat} (hk : v.ownBlock = some k) : B ≤ k ∧ k < w.heap.size := by
  rcases h.1.2 with ⟨rfl, _⟩ | ⟨g, cap, cur, rfl, hB, hg, _⟩
  · simp [Value.ownBlock] at hk
  · obtain rfl : g = k := by simpa [Value.ownBlock] using hk
    exact ⟨hB, (Array.getElem?_eq_some_iff.1 hg).1⟩
theorem Bk.regrow {W W' : World} {ext : Array Obj} {d d' g : Nat} {cs : List Value} {t : TypeId} (h : Bk (grow W ext d) g cs t) (hg : W.heap.size ≤ g) (hs : W'.heap.size = W.heap.size) : Bk (grow W' ext d') g cs t := by
  unfold Bk grow at h ⊢
  simp only [Array.getElem?_append] at h ⊢
  rw [if_neg (by omega)] at h
  rw [if_neg (by omega), hs]
  exact h
theorem Below.put {w w1 : World} {g j : Nat} {v : Value} (h : Below w.heap.size w w1) (hg : w.heap.size ≤ g) : Below w.heap.size w (w1.setCell ⟨g, j, none⟩ v) :=
  h.grown (grownBy_setCell w1 g j v) h.size (by rintro k ⟨⟩; exact hg)
theorem Ow.far {α : Type} {f : α → List Value} {s : Nat} {e : TypeId} {w : World} {B n c g g2 j : Nat} {l : List α} {v : Value} (h : Ow f s e w B (.slice (some ⟨g, 0, none⟩) n c) l) (hg : g ≠ g2) : Ow f s e (w.setCell ⟨g2, j, none⟩ v) B (.slice (some ⟨g, 0, none⟩) n c) l :=
  h.kept (grownBy_setCell w g2 j v) (.inr (by simpa [Value.ownBlock] using hg))
end Go.Proofs.YtchgpijfebilbaaGreatDoor

/- slices.Clone at the program's element types: a new slice of the call's own, with the same elements. -/
namespace Go.Proofs.YtchgpijfebilbaaGreatDoor
open Go.RowKit
set_option maxHeartbeats 400000 in
theorem cloneWatch (v : Value) (l : List Watch) (w : World) (h : Sl cWatch 3 w v l) (hn : l.length * 32 ≤ 140737488355328) (hm : l.length ≤ maxLen) :
    Calls Tryz.prog 37 #[v] w (Owned cWatch 3 70 l w) := by
  have qT : ∀ (w : World) (a : Option Addr) (n c n' c' : Nat), (binOp .eql 23 (.slice a n c) (.slice none n' c')).run Tryz.prog w = .ok (.bool a.isNone) w := fun w a n c n' c' => Lib.run_eql_slice_nil w _ _ a n c n' c' Tryz.underlying23
  obtain ⟨A, c, rfl, h1, h2⟩ := h.form
  cases A with
  | none =>
    obtain rfl := h.none_nil
    clear h
    go_enter Tryz.func37, Tryz.ntmps37
    go_wp2
    go_ret
    exact Owned.mk (Ow.nil _ _ _ _ _) (Below.refl _ _)
  | some a =>
    have H := Lib.hid h
    clear h
    go_enter Tryz.func37, Tryz.ntmps37
    go_wp2_with (at_builtin; refine wpList_app _ rfl (.tmp 5) (.tmp 6) _ rfl elWatch rfl rfl (ow_lit0 _ _ _ _) (H.out.alloc _) cWatch_one (by simpa using hm) (by simpa using hn) (by simp) ?_; intro v' w1 hown hg hat)
    go_ret
    exact Owned.mk hown (((Below.refl _ _).alloc (Nat.le_refl _) _).grown hg (by simp) (by intro k hk; simp [Value.ownBlock, Act.eval] at hk; omega))
set_option maxHeartbeats 400000 in
theorem cloneFile (v : Value) (l : List File) (w : World) (h : Sl cFile 3 w v l) (hn : l.length * 48 ≤ 140737488355328) (hm : l.length ≤ maxLen) :
    Calls Tryz.prog 103 #[v] w (Owned cFile 3 151 l w) := by
  have qT : ∀ (w : World) (a : Option Addr) (n c n' c' : Nat), (binOp .eql 26 (.slice a n c) (.slice none n' c')).run Tryz.prog w = .ok (.bool a.isNone) w := fun w a n c n' c' => Lib.run_eql_slice_nil w _ _ a n c n' c' Tryz.underlying26
  obtain ⟨A, c, rfl, h1, h2⟩ := h.form
  cases A with
  | none =>
    obtain rfl := h.none_nil
    clear h
    go_enter Tryz.func103, Tryz.ntmps103
    go_wp2
    go_ret
    exact Owned.mk (Ow.nil _ _ _ _ _) (Below.refl _ _)
  | some a =>
    have H := Lib.hid h
    clear h
    go_enter Tryz.func103, Tryz.ntmps103
    go_wp2_with (at_builtin; refine wpList_app _ rfl (.tmp 5) (.tmp 6) _ rfl elFile rfl rfl (ow_lit0 _ _ _ _) (H.out.alloc _) cFile_one (by simpa using hm) (by simpa using hn) (by simp) ?_; intro v' w1 hown hg hat)
    go_ret
    exact Owned.mk hown (((Below.refl _ _).alloc (Nat.le_refl _) _).grown hg (by simp) (by intro k hk; simp [Value.ownBlock, Act.eval] at hk; omega))
set_option maxHeartbeats 400000 in
theorem cloneNode (v : Value) (l : List Node) (w : World) (h : Sl cNode 9 w v l) (hn : l.length * 88 ≤ 140737488355328) (hm : l.length ≤ maxLen) :
    Calls Tryz.prog 46 #[v] w (Owned cNode 9 68 l w) := by
  have qT : ∀ (w : World) (a : Option Addr) (n c n' c' : Nat), (binOp .eql 31 (.slice a n c) (.slice none n' c')).run Tryz.prog w = .ok (.bool a.isNone) w := fun w a n c n' c' => Lib.run_eql_slice_nil w _ _ a n c n' c' Tryz.underlying31
  obtain ⟨A, c, rfl, h1, h2⟩ := h.form
  cases A with
  | none =>
    obtain rfl := h.none_nil
    clear h
    go_enter Tryz.func46, Tryz.ntmps46
    go_wp2
    go_ret
    exact Owned.mk (Ow.nil _ _ _ _ _) (Below.refl _ _)
  | some a =>
    have H := Lib.hid h
    clear h
    go_enter Tryz.func46, Tryz.ntmps46
    go_wp2_with (at_builtin; refine wpList_app _ rfl (.tmp 5) (.tmp 6) _ rfl elNode rfl rfl (ow_lit0 _ _ _ _) (H.out.alloc _) cNode_one (by simpa using hm) (by simpa using hn) (by simp) ?_; intro v' w1 hown hg hat)
    go_ret
    exact Owned.mk hown (((Below.refl _ _).alloc (Nat.le_refl _) _).grown hg (by simp) (by intro k hk; simp [Value.ownBlock, Act.eval] at hk; omega))
set_option maxHeartbeats 400000 in
theorem cloneInts (v : Value) (l : List Int) (w : World) (h : Sl cInt 1 w v l) (hn : l.length * 8 ≤ 140737488355328) (hm : l.length ≤ maxLen) :
    Calls Tryz.prog 47 #[v] w (Owned cInt 1 3 l w) := by
  have qT : ∀ (w : World) (a : Option Addr) (n c n' c' : Nat), (binOp .eql 32 (.slice a n c) (.slice none n' c')).run Tryz.prog w = .ok (.bool a.isNone) w := fun w a n c n' c' => Lib.run_eql_slice_nil w _ _ a n c n' c' Tryz.underlying32
  obtain ⟨A, c, rfl, h1, h2⟩ := h.form
  cases A with
  | none =>
    obtain rfl := h.none_nil
    clear h
    go_enter Tryz.func47, Tryz.ntmps47
    go_wp2
    go_ret
    exact Owned.mk (Ow.nil _ _ _ _ _) (Below.refl _ _)
  | some a =>
    have H := Lib.hid h
    clear h
    go_enter Tryz.func47, Tryz.ntmps47
    go_wp2_with (at_builtin; refine wpList_app _ rfl (.tmp 5) (.tmp 6) _ rfl elInt rfl rfl (ow_lit0 _ _ _ _) (H.out.alloc _) cInt_one (by simpa using hm) (by simpa using hn) (by simp) ?_; intro v' w1 hown hg hat)
    go_ret
    exact Owned.mk hown (((Below.refl _ _).alloc (Nat.le_refl _) _).grown hg (by simp) (by intro k hk; simp [Value.ownBlock, Act.eval] at hk; omega))
end Go.Proofs.YtchgpijfebilbaaGreatDoor

/- Contracts of package client: New, copied, See, and the laws' 'starts'. -/
namespace Go.Proofs.YtchgpijfebilbaaGreatDoor
open Go.RowKit
/- See: an end behind an answer that is not older -/
end Go.Proofs.YtchgpijfebilbaaGreatDoor

/- Contracts of package client: find, Look, Keep. -/
namespace Go.Proofs.YtchgpijfebilbaaGreatDoor
open Go.RowKit
theorem isK_lt {l : List Entry} {p : ByteArray} (h : isK (l.map Entry.path) p = true) : posK (l.map Entry.path) p < l.length := by
  unfold isK at h
  simp at h
  exact h.1
end Go.Proofs.YtchgpijfebilbaaGreatDoor

/- client.Keep at an entry whose path is in the cache. -/
namespace Go.Proofs.YtchgpijfebilbaaGreatDoor
open Go.RowKit
end Go.Proofs.YtchgpijfebilbaaGreatDoor

/- The laws' 'caching': an end with entries. -/
namespace Go.Proofs.YtchgpijfebilbaaGreatDoor
open Go.RowKit
end Go.Proofs.YtchgpijfebilbaaGreatDoor

/- The order of texts; a sorted list of entries, searched and kept: plain laws. -/
namespace Go.Proofs.YtchgpijfebilbaaGreatDoor
open Go.RowKit Go.Lib
theorem cb_zero : ∀ (a b : List UInt8), compareBytes a b = 0 → a = b
  | [], [], _ => rfl
  | [], _ :: _, h => by simp [compareBytes] at h
  | _ :: _, [], h => by simp [compareBytes] at h
  | a :: r, b :: q, h => by
    unfold compareBytes at h
    split at h
    · simp at h
    · split at h
      · simp at h
      · have : a = b := by
          rename_i h1 h2
          exact UInt8.toNat_inj.1 (by have := UInt8.not_lt.1 h1; have := UInt8.not_lt.1 h2; simp only [UInt8.le_iff_toNat_le] at *; omega)
        rw [this, cb_zero r q h]
theorem cb_self : ∀ (a : List UInt8), compareBytes a a = 0
  | [] => rfl
  | a :: r => by unfold compareBytes; rw [if_neg (by simp), if_neg (by simp)]; exact cb_self r
theorem cb_swap' : ∀ (a b : List UInt8), 0 < compareBytes a b → compareBytes b a < 0
  | [], [], h => by simp [compareBytes] at h
  | _ :: _, [], _ => by simp [compareBytes]
  | [], _ :: _, h => by simp [compareBytes] at h
  | a :: r, b :: q, h => by
    unfold compareBytes at h ⊢
    by_cases h2 : b < a
    · rw [if_pos h2]; decide
    · by_cases h1 : a < b
      · rw [if_pos h1] at h; simp at h
      · rw [if_neg h1, if_neg h2] at h
        rw [if_neg h2, if_neg h1]
        exact cb_swap' r q h
theorem cb_trans : ∀ (a b c : List UInt8), compareBytes a b < 0 → compareBytes b c < 0 → compareBytes a c < 0
  | [], [], _, h, _ => by simp [compareBytes] at h
  | [], _ :: _, [], _, h => by simp [compareBytes] at h
  | [], _ :: _, _ :: _, _, _ => by simp [compareBytes]
  | _ :: _, [], _, h, _ => by simp [compareBytes] at h
  | _ :: _, _ :: _, [], _, h => by simp [compareBytes] at h
  | a :: r, b :: q, c :: t, h, k => by
    unfold compareBytes at h k ⊢
    by_cases h1 : a < b
    · by_cases k1 : b < c
      · rw [if_pos (by simp only [UInt8.lt_iff_toNat_lt] at *; omega)]; decide
      · by_cases k2 : c < b
        · rw [if_neg k1, if_pos k2] at k; simp at k
        · rw [if_pos (by simp only [UInt8.lt_iff_toNat_lt] at *; omega)]; decide
    · by_cases h2 : b < a
      · rw [if_neg h1, if_pos h2] at h; simp at h
      · rw [if_neg h1, if_neg h2] at h
        by_cases k1 : b < c
        · rw [if_pos (by simp only [UInt8.lt_iff_toNat_lt] at *; omega)]; decide
        · by_cases k2 : c < b
          · rw [if_neg k1, if_pos k2] at k; simp at k
          · rw [if_neg k1, if_neg k2] at k
            rw [if_neg (by simp only [UInt8.lt_iff_toNat_lt] at *; omega), if_neg (by simp only [UInt8.lt_iff_toNat_lt] at *; omega)]
            exact cb_trans r q t h k
theorem cmpB_self (a : ByteArray) : cmpB a a = 0 := cb_self _
theorem cmpB_zero {a b : ByteArray} (h : cmpB a b = 0) : a = b := by
  have := cb_zero _ _ h
  exact ByteArray.ext (Array.ext' this)
def SortedE (l : List Entry) : Prop := ∀ (i j : Nat) (x y : Entry), i < j → l[i]? = some x → l[j]? = some y → cmpB x.path y.path < 0
theorem border (f : Nat → Bool) : ∀ n, (∀ i j, i < j → j < n → f j = true → f i = true) → ∃ m, m ≤ n ∧ (∀ k, k < m → f k = true) ∧ (∀ k, m ≤ k → k < n → f k = false)
  | 0, _ => ⟨0, Nat.le_refl _, fun k hk => by omega, fun k _ hk => by omega⟩
  | n + 1, h => by
    obtain ⟨m, hm, h1, h2⟩ := border f n (fun i j hij hj => h i j hij (by omega))
    have split : ∀ k, k < n + 1 → k < n ∨ k = n := fun k hk => by omega
    cases hf : f n with
    | true =>
      refine ⟨n + 1, Nat.le_refl _, fun k hk => ?_, fun k hk hk2 => by omega⟩
      rcases split k hk with hlt | rfl
      · exact h k n hlt (by omega) hf
      · exact hf
    | false =>
      refine ⟨m, by omega, h1, fun k hk hk2 => ?_⟩
      rcases split k hk2 with hlt | rfl
      · exact h2 k hk hlt
      · exact hf
theorem pos_of {l : List Entry} (hs : SortedE l) (p : ByteArray) (k : Nat) (x : Entry) (hx : l[k]? = some x) : k < posK (l.map Entry.path) p ↔ cmpB x.path p < 0 := by
  have hk : k < l.length := (List.getElem?_eq_some_iff.1 hx).1
  have hlt : ∀ (k : Nat) (x : Entry), l[k]? = some x → ltK (l.map Entry.path) p k = decide (cmpB x.path p < 0) := fun k x h => ltK_of (g := Entry.path) h p
  obtain ⟨m, hm, h1, h2⟩ := border (ltK (l.map Entry.path) p) l.length (by
    intro i j hij hj h
    have hi := List.getElem?_eq_getElem (l := l) (i := i) (by omega)
    have hj2 := List.getElem?_eq_getElem (l := l) (i := j) hj
    rw [hlt j _ hj2] at h
    rw [hlt i _ hi]
    simp at h ⊢
    exact cb_trans _ _ _ (hs i j _ _ hij hi hj2) h)
  have hp : posK (l.map Entry.path) p = m := by
    unfold posK
    rw [List.length_map]
    exact bsr_sorted _ m l.length 0 l.length (by omega) (Nat.zero_le _) hm h1 h2
  rw [hp]
  constructor
  · intro h
    have := h1 k h
    rw [hlt k x hx] at this
    simpa using this
  · intro h
    rcases Nat.lt_or_ge k m with hlt2 | hge
    · exact hlt2
    · have := h2 k hge hk
      rw [hlt k x hx] at this
      simp at this
      omega
theorem at_of {l : List Entry} (hs : SortedE l) {k : Nat} {x : Entry} (hx : l[k]? = some x) : posK (l.map Entry.path) x.path = k ∧ isK (l.map Entry.path) x.path = true := by
  have h1 : ¬ k < posK (l.map Entry.path) x.path := by rw [pos_of hs x.path k x hx, cmpB_self]; omega
  have hk : k < l.length := (List.getElem?_eq_some_iff.1 hx).1
  have h2 : posK (l.map Entry.path) x.path = k := by
    rcases Nat.lt_or_ge (posK (l.map Entry.path) x.path) k with h | h
    · have hy := List.getElem?_eq_getElem (l := l) (i := posK (l.map Entry.path) x.path) (by omega)
      have h3 := hs _ _ _ _ h hy hx
      rw [← pos_of hs x.path _ _ hy] at h3
      omega
    · omega
  exact ⟨h2, by rw [isK_in h2 hx, cmpB_self]; rfl⟩
theorem none_of {l : List Entry} (p : ByteArray) (h : ∀ (k : Nat) (x : Entry), l[k]? = some x → x.path ≠ p) : isK (l.map Entry.path) p = false := by
  rcases Nat.lt_or_ge (posK (l.map Entry.path) p) l.length with hlt | hge
  · have hy := List.getElem?_eq_getElem (l := l) (i := posK (l.map Entry.path) p) hlt
    rw [isK_in rfl hy]
    have := h _ _ hy
    simp
    intro h0
    exact this (cmpB_zero h0)
  · exact isK_out rfl (by omega)
def ltE (x y : Entry) : Prop := cmpB x.path y.path < 0
theorem sorted_pw {l : List Entry} : SortedE l ↔ l.Pairwise ltE := by
  rw [List.pairwise_iff_getElem]
  constructor
  · intro h i j hi hj hij
    exact h i j _ _ hij (List.getElem?_eq_getElem hi) (List.getElem?_eq_getElem hj)
  · intro h i j x y hij hx hy
    obtain ⟨hi, rfl⟩ := List.getElem?_eq_some_iff.1 hx
    obtain ⟨hj, rfl⟩ := List.getElem?_eq_some_iff.1 hy
    exact h i j hi hj hij
theorem before_of {l : List Entry} (hs : SortedE l) (p : ByteArray) : ∀ y ∈ l.take (posK (l.map Entry.path) p), cmpB y.path p < 0 := by
  intro y hy
  obtain ⟨k, hk⟩ := List.mem_iff_getElem?.1 hy
  rw [List.getElem?_take] at hk
  split at hk
  · exact (pos_of hs p k y hk).1 (by assumption)
  · cases hk
theorem behind_of {l : List Entry} (hs : SortedE l) (p : ByteArray) (h : isK (l.map Entry.path) p = false) : ∀ y ∈ l.drop (posK (l.map Entry.path) p), cmpB p y.path < 0 := by
  intro y hy
  obtain ⟨k, hk⟩ := List.mem_iff_getElem?.1 hy
  rw [List.getElem?_drop] at hk
  have h1 := mt (pos_of hs p _ y hk).2 (by omega)
  have h2 : cmpB y.path p ≠ 0 := by
    intro h0
    obtain rfl := cmpB_zero h0
    rw [(at_of hs hk).2] at h
    cases h
  exact cb_swap' _ _ (by unfold cmpB at h1 h2; omega)
theorem is_at {l : List Entry} {p : ByteArray} (h : isK (l.map Entry.path) p = true) : ∃ hq : posK (l.map Entry.path) p < l.length, (l[posK (l.map Entry.path) p]'hq).path = p := by
  have hq := isK_lt h
  refine ⟨hq, ?_⟩
  rw [isK_in rfl (List.getElem?_eq_getElem hq)] at h
  exact cmpB_zero (by simpa using h)
theorem less_of_cb : ∀ (a b : List UInt8), Op.bytesLess a b = decide (compareBytes a b < 0)
  | [], [] => rfl
  | _ :: _, [] => by simp [Op.bytesLess, compareBytes]
  | [], _ :: _ => by simp [Op.bytesLess, compareBytes]
  | a :: r, b :: q => by
    unfold Op.bytesLess compareBytes
    by_cases h1 : a < b
    · simp [h1]
    · by_cases h2 : b < a
      · have h3 : a ≠ b := by intro e; subst e; simp at h2
        simp [h1, h2, h3]
      · have h3 : a = b := UInt8.toNat_inj.1 (by simp only [UInt8.lt_iff_toNat_lt] at *; omega)
        subst h3
        simp [less_of_cb r q]
theorem less_of_cmp {a b : ByteArray} (h : cmpB a b < 0) : Op.bytesLess a.toList b.toList = true := by
  rw [ByteArray.toList_eq, ByteArray.toList_eq, less_of_cb]
  simpa [cmpB] using h
end Go.Proofs.YtchgpijfebilbaaGreatDoor

/- Contracts of package zxid (numbers alone), and of the laws' 'numbers'. -/
namespace Go.Proofs.YtchgpijfebilbaaGreatDoor
open Go.RowKit

theorem ret_bool {a b : Bool} (h : a = b) : Ending.returned (.bool a) = Ending.returned (.bool b) := by rw [h]
theorem ret_ii {k k' : IntKind} {a b c d : Int} (h : a = b) (h' : c = d) : Ending.returned (.tuple #[.int k a, .int k' c]) = Ending.returned (.tuple #[.int k b, .int k' d]) := by rw [h, h']

theorem bv_nat (a : Nat) (ha : a < 9223372036854775808) : (BitVec.ofInt 64 (a : Int)).toNat = a := by
  rw [BitVec.ofInt_natCast, BitVec.toNat_ofNat]
  exact Nat.mod_eq_of_lt (by omega)
theorem bits_join (a b : Int) (h0 : 0 ≤ a) (h1 : a ≤ 2147483647) (h2 : 0 ≤ b) (h3 : b ≤ 2147483647) : bits .or .i64 (a * 2147483648) b = a * 2147483648 + b := by
  obtain ⟨n, rfl⟩ := Int.eq_ofNat_of_zero_le h0
  obtain ⟨m, rfl⟩ := Int.eq_ofNat_of_zero_le h2
  have hx : n * 2147483648 ||| m = n * 2147483648 + m := by
    have := Nat.shiftLeft_add_eq_or_of_lt (b := m) (i := 31) (by omega) n
    rw [Nat.shiftLeft_eq] at this
    exact this.symm
  show IntKind.i64.wrap ((BitVec.ofInt 64 (((n * 2147483648 : Nat) : Int)) ||| BitVec.ofInt 64 (m : Int)).toNat : Int) = _
  rw [BitVec.toNat_or, bv_nat _ (by omega), bv_nat m (by omega), hx, IntKind.wrap_i64]
  omega

def Zx (a : Int) : Prop := 0 ≤ a ∧ a < 4611686018427387904
def Half (a : Int) : Prop := 0 ≤ a ∧ a ≤ 2147483647

theorem zmake_ok (a b : Int) (w : World) (ha : Half a) (hb : Half b) :
    Calls Tryz.prog 85 #[.int .i64 a, .int .i64 b] w fun e w' => e = .returned (.tuple #[.int .i64 (a * 2147483648 + b), .int .i64 0]) ∧ w = w' := by
  obtain ⟨h0, h1⟩ := ha
  obtain ⟨h2, h3⟩ := hb
  go_enter Tryz.func85, Tryz.ntmps85
  go_wp2
  go_ret2
  exact ⟨ret_ii (bits_join a b h0 h1 h2 h3) rfl, rfl⟩
theorem zmake_no (a b : Int) (w : World) (h : ¬ (Half a ∧ Half b)) :
    Calls Tryz.prog 85 #[.int .i64 a, .int .i64 b] w fun e w' => e = .returned (.tuple #[.int .i64 0, .int .i64 3]) ∧ w = w' := by
  have h' : a < 0 ∨ 2147483647 < a ∨ b < 0 ∨ 2147483647 < b := by unfold Half at h; omega
  clear h
  go_enter Tryz.func85, Tryz.ntmps85
  go_wp2
  all_goals
    go_ret2
    exact ⟨rfl, rfl⟩
theorem zgood_yes (a : Int) (w : World) (h : Zx a) :
    Calls Tryz.prog 30 #[.int .i64 a] w fun e w' => e = .returned (.bool true) ∧ w = w' := by
  obtain ⟨ha, ha'⟩ := h
  go_enter Tryz.func30, Tryz.ntmps30
  go_wp2
  go_ret
  exact ⟨rfl, rfl⟩
theorem zgood_no (a : Int) (w : World) (h : ¬ Zx a) :
    Calls Tryz.prog 30 #[.int .i64 a] w fun e w' => e = .returned (.bool false) ∧ w = w' := by
  have ha : a < 0 ∨ (0 ≤ a ∧ ¬ a < 4611686018427387904) := by unfold Zx at h; omega
  clear h
  rcases ha with ha | ⟨h0, ha⟩
  · go_enter Tryz.func30, Tryz.ntmps30
    go_wp2
    go_ret
    exact ⟨rfl, rfl⟩
  · go_enter Tryz.func30, Tryz.ntmps30
    go_wp2
    go_ret
    exact ⟨ret_bool (by simp), rfl⟩
theorem zepoch_ok (a : Int) (w : World) (h : Zx a) :
    Calls Tryz.prog 65 #[.int .i64 a] w fun e w' => e = .returned (.int .i64 (a / 2147483648)) ∧ w = w' := by
  have ha := h.1
  have ha' := h.2
  go_enter Tryz.func65, Tryz.ntmps65
  go_wp2_with (go_at_call 30; refine (zgood_yes _ _ h).mono ?_; rintro e w' ⟨rfl, rfl⟩)
  go_ret
  exact ⟨rfl, rfl⟩
theorem zepoch_no (a : Int) (w : World) (h : ¬ Zx a) :
    Calls Tryz.prog 65 #[.int .i64 a] w fun e w' => e = .returned (.int .i64 0) ∧ w = w' := by
  have H := Lib.hid h
  clear h
  go_enter Tryz.func65, Tryz.ntmps65
  go_wp2_with (go_at_call 30; refine (zgood_no _ _ H.out).mono ?_; rintro e w' ⟨rfl, rfl⟩)
  go_ret
  exact ⟨rfl, rfl⟩
end Go.Proofs.YtchgpijfebilbaaGreatDoor

/- wire.Good: what is wrong with a transaction. -/
namespace Go.Proofs.YtchgpijfebilbaaGreatDoor
open Go.RowKit Go.ChangeShapes Go.WideShapes Go.ChangeAt
def goodT (t : Txn) : Int :=
  if t.op < 1 ∨ 5 < t.op then 4
  else if ¬ (0 ≤ t.zxid ∧ t.zxid < 4611686018427387904) ∨ t.session < 1 ∨ 2147483647 < t.session ∨ t.version < 0 ∨ 2147483647 < t.version ∨ t.owner < 0 ∨ 2147483647 < t.owner then 3
  else if 256 < (t.data.size : Int) then 1
  else if t.op ≤ 2 ∧ (t.path.toList ≠ [] ∨ t.data.toList ≠ [] ∨ t.version ≠ 0 ∨ t.owner ≠ 0) then 2
  else if 3 ≤ t.op ∧ (goodP t.path = false ∨ (t.path.toList = [47] ∧ t.op ≠ 5)) then 2
  else if (t.op = 4 ∧ (t.data.toList ≠ [] ∨ t.version ≠ 0 ∨ t.owner ≠ 0)) ∨ (t.op = 3 ∧ t.version ≠ 0) ∨ (t.op = 5 ∧ t.owner ≠ 0) then 2
  else 0
set_option maxHeartbeats 1000000 in
theorem tgood_1 (z o s v ow : Int) (p d : ByteArray) (w : World) (h : o < 1 ∨ 5 < o) :
    Calls Tryz.prog 42 #[.agg #[.int .i64 z, .int .i64 o, .int .i64 s, .string p, .string d, .int .i64 v, .int .i64 ow]] w fun e w' => e = .returned (.int .i64 4) ∧ Below w.heap.size w w' := by
  rcases h with h | h
  · have h1 : decide (o < 1) = true := decide_eq_true h
    clear h
    go_enter Tryz.func42, Tryz.ntmps42
    go_wp2_with fail
    go_ret
    exact ⟨rfl, (by repeat (first | exact bA .. | assumption | refine bB ?_ | refine bC ?_ _ | refine bD _ _ ?_ | refine bE _ ?_ | refine bG ?_ (by first | omega | (simp; done) | (simp; omega)) _ | refine Below.setCell ?_ (by first | omega | (simp; done) | (simp; omega)) _ | refine Below.grow _ _ _ ?_ (by first | omega | (simp; done) | (simp; omega))))⟩
  · have h1 : decide (o < 1) = false := decide_eq_false (by omega)
    have h2 : decide (5 < o) = true := decide_eq_true h
    clear h
    go_enter Tryz.func42, Tryz.ntmps42
    go_wp2_with fail
    go_ret
    exact ⟨rfl, (by repeat (first | exact bA .. | assumption | refine bB ?_ | refine bC ?_ _ | refine bD _ _ ?_ | refine bE _ ?_ | refine bG ?_ (by first | omega | (simp; done) | (simp; omega)) _ | refine Below.setCell ?_ (by first | omega | (simp; done) | (simp; omega)) _ | refine Below.grow _ _ _ ?_ (by first | omega | (simp; done) | (simp; omega))))⟩
set_option maxHeartbeats 2000000 in
theorem tgood_2 (z o s v ow : Int) (p d : ByteArray) (w : World) (h1 : decide (o < 1) = false) (h2 : decide (5 < o) = false) (h : ¬ Zx z ∨ s < 1 ∨ 2147483647 < s ∨ v < 0 ∨ 2147483647 < v ∨ ow < 0 ∨ 2147483647 < ow) :
    Calls Tryz.prog 42 #[.agg #[.int .i64 z, .int .i64 o, .int .i64 s, .string p, .string d, .int .i64 v, .int .i64 ow]] w fun e w' => e = .returned (.int .i64 3) ∧ Below w.heap.size w w' := by
  by_cases hz : Zx z
  · have h' : s < 1 ∨ 2147483647 < s ∨ v < 0 ∨ 2147483647 < v ∨ ow < 0 ∨ 2147483647 < ow := by
      rcases h with h | h
      · exact absurd hz h
      · exact h
    have hd : (decide (s < 1) || (decide (2147483647 < s) || (decide (v < 0) || (decide (2147483647 < v) || (decide (ow < 0) || decide (2147483647 < ow)))))) = true := by simpa using h'
    clear h h'
    cases e1 : decide (s < 1) <;> cases e2 : decide (2147483647 < s) <;> cases e3 : decide (v < 0) <;> cases e4 : decide (2147483647 < v) <;> cases e5 : decide (ow < 0) <;> cases e6 : decide (2147483647 < ow)
    all_goals first | (rw [e1, e2, e3, e4, e5, e6] at hd; exact absurd hd (by decide)) | (exfalso; simp at e1 e2 e3 e4 e5 e6; omega) | skip
    all_goals clear hd
    all_goals go_enter Tryz.func42, Tryz.ntmps42
    all_goals go_wp2_with (go_at_call 30; refine (zgood_yes z _ hz).mono ?_; rintro e w1 ⟨rfl, rfl⟩; skip)
    all_goals go_ret
    all_goals exact ⟨rfl, (by repeat (first | exact bA .. | assumption | refine bB ?_ | refine bC ?_ _ | refine bD _ _ ?_ | refine bE _ ?_ | refine bG ?_ (by first | omega | (simp; done) | (simp; omega)) _ | refine Below.setCell ?_ (by first | omega | (simp; done) | (simp; omega)) _ | refine Below.grow _ _ _ ?_ (by first | omega | (simp; done) | (simp; omega))))⟩
  · clear h
    go_enter Tryz.func42, Tryz.ntmps42
    go_wp2_with (go_at_call 30; refine (zgood_no z _ hz).mono ?_; rintro e w1 ⟨rfl, rfl⟩; skip)
    go_ret
    exact ⟨rfl, (by repeat (first | exact bA .. | assumption | refine bB ?_ | refine bC ?_ _ | refine bD _ _ ?_ | refine bE _ ?_ | refine bG ?_ (by first | omega | (simp; done) | (simp; omega)) _ | refine Below.setCell ?_ (by first | omega | (simp; done) | (simp; omega)) _ | refine Below.grow _ _ _ ?_ (by first | omega | (simp; done) | (simp; omega))))⟩
set_option maxHeartbeats 1000000 in
theorem tgood_3 (z o s v ow : Int) (p d : ByteArray) (w : World) (h1 : decide (o < 1) = false) (h2 : decide (5 < o) = false) (hz : Zx z) (h3 : decide (s < 1) = false) (h4 : decide (2147483647 < s) = false) (h5 : decide (v < 0) = false) (h6 : decide (2147483647 < v) = false) (h7 : decide (ow < 0) = false) (h8 : decide (2147483647 < ow) = false) (h9 : decide (256 < (d.size : Int)) = true) :
    Calls Tryz.prog 42 #[.agg #[.int .i64 z, .int .i64 o, .int .i64 s, .string p, .string d, .int .i64 v, .int .i64 ow]] w fun e w' => e = .returned (.int .i64 1) ∧ Below w.heap.size w w' := by
  go_enter Tryz.func42, Tryz.ntmps42
  go_wp2_with (go_at_call 30; refine (zgood_yes z _ hz).mono ?_; rintro e w1 ⟨rfl, rfl⟩; skip)
  go_ret
  exact ⟨rfl, (by repeat (first | exact bA .. | assumption | refine bB ?_ | refine bC ?_ _ | refine bD _ _ ?_ | refine bE _ ?_ | refine bG ?_ (by first | omega | (simp; done) | (simp; omega)) _ | refine Below.setCell ?_ (by first | omega | (simp; done) | (simp; omega)) _ | refine Below.grow _ _ _ ?_ (by first | omega | (simp; done) | (simp; omega))))⟩
theorem goodT_low (z o s v ow : Int) (p d : ByteArray) (h1 : decide (o < 1) = false) (_h2 : decide (5 < o) = false) (hz : Zx z) (h3 : decide (s < 1) = false) (h4 : decide (2147483647 < s) = false) (h5 : decide (v < 0) = false) (h6 : decide (2147483647 < v) = false) (h7 : decide (ow < 0) = false) (h8 : decide (2147483647 < ow) = false) (h9 : decide (256 < (d.size : Int)) = false)
    (h10 : o ≤ 2) : goodT ⟨z, o, s, p, d, v, ow⟩ = if p.toList = [] ∧ d.toList = [] ∧ v = 0 ∧ ow = 0 then 0 else 2 := by
  simp at h1 h3 h4 h5 h6 h7 h8 h9
  unfold Zx at hz
  unfold goodT
  dsimp only
  rw [if_neg (by omega), if_neg (by omega), if_neg (by omega)]
  by_cases hh : p.toList = [] ∧ d.toList = [] ∧ v = 0 ∧ ow = 0
  · rw [if_pos hh, if_neg (by simp [hh.1, hh.2.1, hh.2.2.1, hh.2.2.2]), if_neg (by omega), if_neg (by omega)]
  · have hx : p.toList ≠ [] ∨ d.toList ≠ [] ∨ v ≠ 0 ∨ ow ≠ 0 := by
      by_cases a : p.toList = []
      · by_cases b : d.toList = []
        · have : ¬ (v = 0 ∧ ow = 0) := fun e => hh ⟨a, b, e⟩
          exact .inr (.inr (by omega))
        · exact .inr (.inl b)
      · exact .inl a
    rw [if_neg hh, if_pos ⟨h10, hx⟩]
theorem goodT_high (z o s v ow : Int) (p d : ByteArray) (h2 : decide (5 < o) = false) (hz : Zx z) (h3 : decide (s < 1) = false) (h4 : decide (2147483647 < s) = false) (h5 : decide (v < 0) = false) (h6 : decide (2147483647 < v) = false) (h7 : decide (ow < 0) = false) (h8 : decide (2147483647 < ow) = false) (h9 : decide (256 < (d.size : Int)) = false)
    (h10 : 3 ≤ o) : goodT ⟨z, o, s, p, d, v, ow⟩ = if goodP p = false ∨ (p.toList = [47] ∧ o ≠ 5) then 2
      else if (o = 4 ∧ (d.toList ≠ [] ∨ v ≠ 0 ∨ ow ≠ 0)) ∨ (o = 3 ∧ v ≠ 0) ∨ (o = 5 ∧ ow ≠ 0) then 2 else 0 := by
  simp at h2 h3 h4 h5 h6 h7 h8 h9
  unfold Zx at hz
  unfold goodT
  dsimp only
  rw [if_neg (by omega), if_neg (by omega), if_neg (by omega), if_neg (by omega)]
  by_cases hh : goodP p = false ∨ (p.toList = [47] ∧ o ≠ 5)
  · rw [if_pos ⟨h10, hh⟩, if_pos hh]
  · rw [if_neg (fun e => hh e.2), if_neg hh]
set_option maxHeartbeats 4000000 in
theorem tgood_4 (z o s v ow : Int) (p d : ByteArray) (w : World) (h1 : decide (o < 1) = false) (h2 : decide (5 < o) = false) (hz : Zx z) (h3 : decide (s < 1) = false) (h4 : decide (2147483647 < s) = false) (h5 : decide (v < 0) = false) (h6 : decide (2147483647 < v) = false) (h7 : decide (ow < 0) = false) (h8 : decide (2147483647 < ow) = false) (h9 : decide (256 < (d.size : Int)) = false)
    (h10 : decide (o ≤ 2) = true) (h11 : decide (3 ≤ o) = false) (h12 : (o == 4) = false) (h13 : (o == 3) = false) (h14 : (o == 5) = false) :
    Calls Tryz.prog 42 #[.agg #[.int .i64 z, .int .i64 o, .int .i64 s, .string p, .string d, .int .i64 v, .int .i64 ow]] w fun e w' => e = .returned (.int .i64 (if p.toList = [] ∧ d.toList = [] ∧ v = 0 ∧ ow = 0 then 0 else 2)) ∧ Below w.heap.size w w' := by
  go_enter Tryz.func42, Tryz.ntmps42
  go_wp2_with (go_at_call 30; refine (zgood_yes z _ hz).mono ?_; rintro e w1 ⟨rfl, rfl⟩; skip)
  all_goals go_ret
  all_goals refine ⟨?_, (by repeat (first | exact bA .. | assumption | refine bB ?_ | refine bC ?_ _ | refine bD _ _ ?_ | refine bE _ ?_ | refine bG ?_ (by first | omega | (simp; done) | (simp; omega)) _ | refine Below.setCell ?_ (by first | omega | (simp; done) | (simp; omega)) _ | refine Below.grow _ _ _ ?_ (by first | omega | (simp; done) | (simp; omega))))⟩
  all_goals (refine congrArg (fun x => Ending.returned (Value.int IntKind.i64 x)) ?_)
  all_goals simp_all
set_option maxHeartbeats 4000000 in
theorem tgood_5 (z o s v ow : Int) (p d : ByteArray) (w : World) (h1 : decide (o < 1) = false) (h2 : decide (5 < o) = false) (hz : Zx z) (h3 : decide (s < 1) = false) (h4 : decide (2147483647 < s) = false) (h5 : decide (v < 0) = false) (h6 : decide (2147483647 < v) = false) (h7 : decide (ow < 0) = false) (h8 : decide (2147483647 < ow) = false) (h9 : decide (256 < (d.size : Int)) = false)
    (h10 : decide (o ≤ 2) = false) (h11 : decide (3 ≤ o) = true) (hp : p.size ≤ 9223372036854775807) (hg : goodP p = false) :
    Calls Tryz.prog 42 #[.agg #[.int .i64 z, .int .i64 o, .int .i64 s, .string p, .string d, .int .i64 v, .int .i64 ow]] w fun e w' => e = .returned (.int .i64 2) ∧ Below w.heap.size w w' := by
  have HG := fun w => good_any p w hp
  rw [hg] at HG
  clear hg
  go_enter Tryz.func42, Tryz.ntmps42
  go_wp2_with first | (go_at_call 30; refine (zgood_yes z _ hz).mono ?_; rintro e w1 ⟨rfl, rfl⟩; skip) | (go_at_call 59; refine (HG _).mono ?_; rintro e w1 ⟨rfl, hb1⟩; obtain ⟨ext1, d1, rfl⟩ := Below.grown_eq _ hb1)
  go_ret
  exact ⟨rfl, (by repeat (first | exact bA .. | assumption | refine bB ?_ | refine bC ?_ _ | refine bD _ _ ?_ | refine bE _ ?_ | refine bG ?_ (by first | omega | (simp; done) | (simp; omega)) _ | refine Below.setCell ?_ (by first | omega | (simp; done) | (simp; omega)) _ | refine Below.grow _ _ _ ?_ (by first | omega | (simp; done) | (simp; omega))))⟩
set_option maxHeartbeats 4000000 in
theorem tgood_6 (z o s v ow : Int) (p d : ByteArray) (w : World) (hz : Zx z) (h3 : decide (s < 1) = false) (h4 : decide (2147483647 < s) = false) (h5 : decide (v < 0) = false) (h6 : decide (2147483647 < v) = false) (h7 : decide (ow < 0) = false) (h8 : decide (2147483647 < ow) = false) (h9 : decide (256 < (d.size : Int)) = false)
    (hp : p.size ≤ 9223372036854775807) (hg : goodP p = true) (ho : o = 3 ∨ o = 4 ∨ o = 5) :
    Calls Tryz.prog 42 #[.agg #[.int .i64 z, .int .i64 o, .int .i64 s, .string p, .string d, .int .i64 v, .int .i64 ow]] w fun e w' => e = .returned (.int .i64 (if (p.toList = [47] ∧ o ≠ 5) then 2
      else if (o = 4 ∧ (d.toList ≠ [] ∨ v ≠ 0 ∨ ow ≠ 0)) ∨ (o = 3 ∧ v ≠ 0) ∨ (o = 5 ∧ ow ≠ 0) then 2 else 0)) ∧ Below w.heap.size w w' := by
  have HG := fun w => good_any p w hp
  rw [hg] at HG
  clear hg
  rcases ho with rfl | rfl | rfl
  all_goals go_enter Tryz.func42, Tryz.ntmps42
  all_goals go_wp2_with first | (go_at_call 30; refine (zgood_yes z _ hz).mono ?_; rintro e w1 ⟨rfl, rfl⟩; skip) | (go_at_call 59; refine (HG _).mono ?_; rintro e w1 ⟨rfl, hb1⟩; obtain ⟨ext1, d1, rfl⟩ := Below.grown_eq _ hb1)
  all_goals go_ret
  all_goals refine ⟨?_, (by repeat (first | exact bA .. | assumption | refine bB ?_ | refine bC ?_ _ | refine bD _ _ ?_ | refine bE _ ?_ | refine bG ?_ (by first | omega | (simp; done) | (simp; omega)) _ | refine Below.setCell ?_ (by first | omega | (simp; done) | (simp; omega)) _ | refine Below.grow _ _ _ ?_ (by first | omega | (simp; done) | (simp; omega))))⟩
  all_goals (refine congrArg (fun x => Ending.returned (Value.int IntKind.i64 x)) ?_)
  all_goals simp_all
theorem tgood_any (t : Txn) (w : World) (hp : t.path.size ≤ 9223372036854775807) :
    Calls Tryz.prog 42 #[.agg #[.int .i64 t.zxid, .int .i64 t.op, .int .i64 t.session, .string t.path, .string t.data, .int .i64 t.version, .int .i64 t.owner]] w fun e w' => e = .returned (.int .i64 (goodT t)) ∧ Below w.heap.size w w' := by
  obtain ⟨z, o, s, p, d, v, ow⟩ := t
  dsimp only at *
  by_cases a1 : o < 1 ∨ 5 < o
  · rw [show goodT ⟨z, o, s, p, d, v, ow⟩ = 4 from if_pos a1]
    exact tgood_1 z o s v ow p d w a1
  have h1 : decide (o < 1) = false := decide_eq_false (fun e => a1 (.inl e))
  have h2 : decide (5 < o) = false := decide_eq_false (fun e => a1 (.inr e))
  by_cases a2 : ¬ (0 ≤ z ∧ z < 4611686018427387904) ∨ s < 1 ∨ 2147483647 < s ∨ v < 0 ∨ 2147483647 < v ∨ ow < 0 ∨ 2147483647 < ow
  · rw [show goodT ⟨z, o, s, p, d, v, ow⟩ = 3 from (if_neg a1).trans (if_pos a2)]
    exact tgood_2 z o s v ow p d w h1 h2 a2
  have hz : Zx z := by unfold Zx; omega
  have h3 : decide (s < 1) = false := decide_eq_false (by omega)
  have h4 : decide (2147483647 < s) = false := decide_eq_false (by omega)
  have h5 : decide (v < 0) = false := decide_eq_false (by omega)
  have h6 : decide (2147483647 < v) = false := decide_eq_false (by omega)
  have h7 : decide (ow < 0) = false := decide_eq_false (by omega)
  have h8 : decide (2147483647 < ow) = false := decide_eq_false (by omega)
  by_cases a3 : 256 < (d.size : Int)
  · rw [show goodT ⟨z, o, s, p, d, v, ow⟩ = 1 from (if_neg a1).trans ((if_neg a2).trans (if_pos a3))]
    exact tgood_3 z o s v ow p d w h1 h2 hz h3 h4 h5 h6 h7 h8 (decide_eq_true a3)
  have h9 : decide (256 < (d.size : Int)) = false := decide_eq_false a3
  by_cases a4 : o ≤ 2
  · rw [goodT_low z o s v ow p d h1 h2 hz h3 h4 h5 h6 h7 h8 h9 a4]
    exact tgood_4 z o s v ow p d w h1 h2 hz h3 h4 h5 h6 h7 h8 h9 (decide_eq_true a4) (decide_eq_false (by omega)) (beq_eq_false_iff_ne.2 (by omega)) (beq_eq_false_iff_ne.2 (by omega)) (beq_eq_false_iff_ne.2 (by omega))
  · rw [goodT_high z o s v ow p d h2 hz h3 h4 h5 h6 h7 h8 h9 (by omega)]
    cases hg : goodP p with
    | false =>
      rw [if_pos (.inl rfl)]
      exact tgood_5 z o s v ow p d w h1 h2 hz h3 h4 h5 h6 h7 h8 h9 (decide_eq_false a4) (decide_eq_true (by omega)) hp hg
    | true =>
      have := tgood_6 z o s v ow p d w hz h3 h4 h5 h6 h7 h8 h9 hp hg (by omega)
      simpa using this
end Go.Proofs.YtchgpijfebilbaaGreatDoor

/- The tree: what its functions compute, in plain words. -/
namespace Go.Proofs.YtchgpijfebilbaaGreatDoor
open Go.RowKit
/-! numbers in order, searched by halves -/
def ltI (l : List Int) (s : Int) (k : Nat) : Bool := match l[k]? with | some x => decide (x < s) | none => false
def posI (l : List Int) (s : Int) : Nat := bsr (ltI l s) 0 l.length
def isI (l : List Int) (s : Int) : Bool := decide (l[posI l s]? = some s)
theorem ltI_of {l : List Int} {k : Nat} {x : Int} (h : l[k]? = some x) (s : Int) : ltI l s k = decide (x < s) := by unfold ltI; rw [h]
theorem isI_in {l : List Int} {s : Int} {k : Nat} {x : Int} (hp : posI l s = k) (h : l[k]? = some x) : isI l s = decide (x = s) := by
  unfold isI
  rw [hp, h]
  simp
theorem isI_out {l : List Int} {s : Int} {k : Nat} (hp : posI l s = k) (h : ¬ k < l.length) : isI l s = false := by
  unfold isI
  rw [hp, List.getElem?_eq_none (by omega)]
  simp
theorem posI_le (l : List Int) (s : Int) : posI l s ≤ l.length := bsr_le _ _
theorem posK_le' (l : List ByteArray) (s : ByteArray) : posK l s ≤ l.length := bsr_le _ _
/-! the tree -/
structure Tr where
  zxid : Int
  nodes : List Node
  sess : List Int
abbrev noNode : Node := ⟨⟨#[]⟩, ⟨#[]⟩, 0, 0, 0, 0, 0, 0, 0⟩
abbrev rootN : Node := ⟨⟨#[47]⟩, ⟨#[]⟩, 0, 0, 0, 0, 0, 0, 0⟩
def posN (l : List Node) (p : ByteArray) : Nat := posK (l.map Node.path) p
def hasN (l : List Node) (p : ByteArray) : Bool := isK (l.map Node.path) p
def getN (l : List Node) (p : ByteArray) : Node := if hasN l p then l.getD (posN l p) noNode else noNode
def getE (l : List Node) (p : ByteArray) : Int := if hasN l p then 0 else 7
def kidB (p : ByteArray) (n : Node) : Bool := decide ((splitR n.path).2.2 = 0) && decide ((splitR n.path).1 = p)
def bump (n : Node) (more z : Int) : Node := { n with kids := n.kids + more, cversion := n.cversion + 1, pzxid := z }
def kidN (l : List Node) (d : ByteArray) (more z : Int) : List Node := if hasN l d then l.set (posN l d) (bump (l.getD (posN l d) noNode) more z) else l
abbrev parent (p : ByteArray) : ByteArray := (splitR p).1
def insN (l : List Node) (x : Node) : List Node := l.take (posN l x.path) ++ x :: l.drop (posN l x.path)
def delN (l : List Node) (p : ByteArray) : List Node := l.take (posN l p) ++ l.drop (posN l p + 1)
def nodeOf (x : Txn) : Node := ⟨x.path, x.data, x.zxid, x.zxid, x.zxid, 0, 0, x.owner, 0⟩
def makeN (l : List Node) (x : Txn) : List Node := kidN (insN l (nodeOf x)) (parent x.path) 1 x.zxid
def goneN (l : List Node) (p : ByteArray) (z : Int) : List Node := kidN (delN l p) (parent p) (-1) z
def setN (l : List Node) (x : Txn) : List Node := l.set (posN l x.path) { l.getD (posN l x.path) noNode with data := x.data, version := x.version, mzxid := x.zxid }
def makeV (p : ByteArray) : List Event := [⟨1, p⟩, ⟨4, parent p⟩]
def goneV (p : ByteArray) : List Event := [⟨2, p⟩, ⟨4, parent p⟩]
def ownedL (l : List Node) (s : Int) : List ByteArray := (l.filter (fun n => decide (n.owner = s))).map Node.path
def closeN (l : List Node) (s z : Int) : List Node := (ownedL l s).foldl (fun l p => goneN l p z) l
def closeV (l : List Node) (s : Int) : List Event := (ownedL l s).flatMap goneV
/-! is it good -/
def okS (l : List Int) (i : Nat) : Bool := match l[i]? with
  | none => true
  | some s => decide (1 ≤ s) && (decide (s ≤ 2147483647) && (match i with | 0 => true | j + 1 => match l[j]? with | some y => decide (y < s) | none => true))
def statB (z : Int) (n : Node) : Bool := decide (0 ≤ n.version ∧ n.version ≤ 2147483647 ∧ 0 ≤ n.cversion ∧ n.cversion ≤ 2147483647 ∧ 0 ≤ n.czxid ∧ n.czxid ≤ n.mzxid ∧ n.czxid ≤ n.pzxid ∧ n.mzxid ≤ z ∧ n.pzxid ≤ z)
def ownB (ss : List Int) (n : Node) : Bool := decide (n.owner = 0) || (isI ss n.owner && decide (n.kids = 0))
def upB (l : List Node) (n : Node) : Bool := decide ((splitR n.path).2.2 ≠ 0) || hasN l (parent n.path)
def lessB (l : List Node) (i : Nat) (n : Node) : Bool := match i with | 0 => true | j + 1 => match l[j]? with | some y => decide (cmpB y.path n.path < 0) | none => true
def okN (t : Tr) (i : Nat) : Bool := match t.nodes[i]? with
  | none => true
  | some n => goodP n.path && (decide (n.data.size ≤ 256) && (lessB t.nodes i n && (statB t.zxid n && (ownB t.sess n && upB t.nodes n))))
def headB (t : Tr) : Bool := decide (t.nodes.length ≤ 400) && (decide (0 ≤ t.zxid ∧ t.zxid < 4611686018427387904) && (match t.nodes with | [] => false | n :: _ => decide (n.path = slash) && decide (n.owner = 0)))
def goodTree (t : Tr) : Bool := headB t && ((List.range t.sess.length).all (okS t.sess) && ((List.range t.nodes.length).all (okN t) && t.nodes.all (fun n => decide (n.kids = ((t.nodes.countP (kidB n.path) : Nat) : Int)))))
/-! a transaction -/
def lacksE (t : Tr) (x : Txn) : Int := if hasN t.nodes x.path then 8 else if hasN t.nodes (parent x.path) then (if (getN t.nodes (parent x.path)).owner ≠ 0 then 11 else if x.owner ≠ 0 ∧ x.owner ≠ x.session then 12 else if 400 ≤ t.nodes.length then 6 else 0) else 7
def wrongE (t : Tr) (x : Txn) : Int :=
  if goodTree t = false then 3
  else if goodT x ≠ 0 then goodT x
  else if x.zxid ≤ t.zxid then 13
  else if x.op = 1 then (if isI t.sess x.session then 8 else 0)
  else if isI t.sess x.session = false then 12
  else if x.op = 3 then lacksE t x
  else if x.op = 4 then (if hasN t.nodes x.path then (if 0 < (getN t.nodes x.path).kids then 10 else 0) else 7)
  else if x.op = 5 then (if hasN t.nodes x.path then (if x.version ≠ (getN t.nodes x.path).version + 1 then 9 else 0) else 7)
  else 0
def insS (l : List Int) (s : Int) : List Int := l.take (posI l s) ++ s :: l.drop (posI l s)
def delS (l : List Int) (s : Int) : List Int := l.take (posI l s) ++ l.drop (posI l s + 1)
def doN (t : Tr) (x : Txn) : List Node := if x.op = 2 then closeN t.nodes x.session x.zxid else if x.op = 3 then makeN t.nodes x else if x.op = 4 then goneN t.nodes x.path x.zxid else if x.op = 5 then setN t.nodes x else t.nodes
def doS (t : Tr) (x : Txn) : List Int := if x.op = 1 then insS t.sess x.session else if x.op = 2 then delS t.sess x.session else t.sess
def doV (t : Tr) (x : Txn) : List Event := if x.op = 2 then closeV t.nodes x.session else if x.op = 3 then makeV x.path else if x.op = 4 then goneV x.path else if x.op = 5 then [⟨3, x.path⟩] else []
def fullB (l : List Node) : Bool := l.any (fun n => decide (2147483647 < n.cversion))
def applyE (t : Tr) (x : Txn) : Int := if wrongE t x = 0 then (if fullB (doN t x) then 6 else 0) else wrongE t x
def noTr : Tr := ⟨0, [], []⟩
def applyT (t : Tr) (x : Txn) : Tr := if applyE t x = 0 then ⟨x.zxid, doN t x, doS t x⟩ else noTr
def applyV (t : Tr) (x : Txn) : List Event := if applyE t x = 0 then doV t x else []
abbrev newTr : Tr := ⟨0, [rootN], []⟩
end Go.Proofs.YtchgpijfebilbaaGreatDoor

/- What Join gives: plain laws. -/
namespace Go.Proofs.YtchgpijfebilbaaGreatDoor
open Go.RowKit
theorem join_parts {d n : ByteArray} (h : (joinR d n).2 = 0) : goodP d = true ∧ named (bs n) = true ∧ (joinT d n).size ≤ 200 ∧ joinR d n = (joinT d n, 0) := by
  unfold joinR at h ⊢
  cases h1 : goodP d with
  | false => rw [h1] at h; simp at h
  | true =>
    cases h2 : named (bs n) with
    | false => rw [h1, h2] at h; simp at h
    | true =>
      rw [h1, h2] at h
      by_cases h3 : 200 < (joinT d n).size
      · simp [h3] at h
      · exact ⟨rfl, rfl, by omega, by simp [h3]⟩
theorem joinR_not {d n : ByteArray} (h : (joinR d n).2 ≠ 0) : (joinR d n).1 = ⟨#[]⟩ := by
  unfold joinR at h ⊢
  split
  · split
    · rfl
    · rename_i h1 h2; rw [if_pos h1, if_neg h2] at h; simp at h
  · rfl
end Go.Proofs.YtchgpijfebilbaaGreatDoor

/- Trees: plain laws of nodes that stand in order. -/
namespace Go.Proofs.YtchgpijfebilbaaGreatDoor
open Go.RowKit
def toE (n : Node) : Entry := ⟨n.path, n.data, true⟩
theorem map_toE (l : List Node) : (l.map toE).map Entry.path = l.map Node.path := by rw [List.map_map]; rfl
def ltN (x y : Node) : Prop := cmpB x.path y.path < 0
def SortedN (l : List Node) : Prop := l.Pairwise ltN
theorem ltN_trans {a b c : Node} (h : ltN a b) (k : ltN b c) : ltN a c := cb_trans _ _ _ h k
theorem ltN_ne {a b : Node} (h : ltN a b) : a.path ≠ b.path := by
  intro e
  unfold ltN at h
  rw [e, cmpB_self] at h
  omega
theorem sortedE_of {l : List Node} (h : SortedN l) : SortedE (l.map toE) := by
  rw [sorted_pw, List.pairwise_map]
  exact h
theorem posN_E (l : List Node) (p : ByteArray) : posN l p = posK ((l.map toE).map Entry.path) p := by unfold posN; rw [map_toE]
theorem hasN_E (l : List Node) (p : ByteArray) : hasN l p = isK ((l.map toE).map Entry.path) p := by unfold hasN; rw [map_toE]
theorem at_ofN {l : List Node} (hs : SortedN l) {k : Nat} {x : Node} (hx : l[k]? = some x) : posN l x.path = k ∧ hasN l x.path = true := by
  rw [posN_E, hasN_E]
  exact at_of (sortedE_of hs) (x := toE x) (by rw [List.getElem?_map, hx]; rfl)
theorem none_ofN {l : List Node} {p : ByteArray} (h : ∀ x ∈ l, x.path ≠ p) : hasN l p = false := by
  rw [hasN_E]
  refine none_of p (fun k x hx => ?_)
  rw [List.getElem?_map, Option.map_eq_some_iff] at hx
  obtain ⟨y, hy, rfl⟩ := hx
  exact h y (List.mem_of_getElem? hy)
theorem has_at {l : List Node} {p : ByteArray} (h : hasN l p = true) : ∃ x, l[posN l p]? = some x ∧ x.path = p := by
  rw [hasN_E] at h
  obtain ⟨hq, he⟩ := is_at h
  have h1 := List.getElem?_eq_getElem hq
  generalize (l.map toE)[posK ((l.map toE).map Entry.path) p]'hq = e at h1 he
  rw [← posN_E, List.getElem?_map, Option.map_eq_some_iff] at h1
  obtain ⟨y, hy, rfl⟩ := h1
  exact ⟨y, hy, he⟩
theorem has_iff {l : List Node} (hs : SortedN l) {p : ByteArray} : hasN l p = true ↔ ∃ x ∈ l, x.path = p := by
  constructor
  · intro h
    obtain ⟨x, hx, he⟩ := has_at h
    exact ⟨x, List.mem_of_getElem? hx, he⟩
  · rintro ⟨x, hx, rfl⟩
    obtain ⟨k, hk⟩ := List.mem_iff_getElem?.1 hx
    exact (at_ofN hs hk).2
theorem has_no {l : List Node} (hs : SortedN l) {p : ByteArray} : hasN l p = false ↔ ∀ x ∈ l, x.path ≠ p := by
  constructor
  · intro h x hx he
    rw [(has_iff hs).2 ⟨x, hx, he⟩] at h
    cases h
  · exact none_ofN
theorem get_ofN {l : List Node} (hs : SortedN l) {x : Node} (hx : x ∈ l) : hasN l x.path = true ∧ getN l x.path = x := by
  obtain ⟨k, hk⟩ := List.mem_iff_getElem?.1 hx
  obtain ⟨h1, h2⟩ := at_ofN hs hk
  refine ⟨h2, ?_⟩
  unfold getN
  rw [h2, if_pos rfl, h1, List.getD_eq_getElem?_getD, hk]
  rfl
theorem get_noN {l : List Node} {p : ByteArray} (h : hasN l p = false) : getN l p = noNode := by unfold getN; rw [h]; rfl
theorem get_mem {l : List Node} {p : ByteArray} (h : hasN l p = true) : getN l p ∈ l ∧ (getN l p).path = p := by
  obtain ⟨x, hx, he⟩ := has_at h
  have hg : getN l p = x := by
    unfold getN
    rw [if_pos h, List.getD_eq_getElem?_getD, hx]
    rfl
  rw [hg]
  exact ⟨List.mem_of_getElem? hx, he⟩
theorem uniqN {l : List Node} (hs : SortedN l) {x y : Node} (hx : x ∈ l) (hy : y ∈ l) (h : x.path = y.path) : x = y := by rw [← (get_ofN hs hx).2, ← (get_ofN hs hy).2, h]
theorem map_same {l : List Node} {f : Node → Node} (h : ∀ x ∈ l, f x = x) : l.map f = l := by
  induction l with
  | nil => rfl
  | cons a r ih => rw [List.map_cons, h a (by simp), ih (fun x hx => h x (by simp [hx]))]
theorem set_map {l : List Node} (hs : SortedN l) {k : Nat} {x u : Node} (hx : l[k]? = some x) (g : Node → Node) (hgx : g x = u) (hg : ∀ y ∈ l, y.path ≠ x.path → g y = y) : l.set k u = l.map g := by
  apply List.ext_getElem?
  intro i
  rw [List.getElem?_set, List.getElem?_map]
  have hk := (List.getElem?_eq_some_iff.1 hx).1
  by_cases hki : k = i
  · subst hki
    rw [if_pos rfl, if_pos hk, hx, ← hgx]
    rfl
  · rw [if_neg hki]
    cases hy : l[i]? with
    | none => rfl
    | some y =>
      have hne : y.path ≠ x.path := by
        intro e
        have h1 := (at_ofN hs hy).1
        have h2 := (at_ofN hs hx).1
        rw [e] at h1
        omega
      rw [Option.map_some, hg y (List.mem_of_getElem? hy) hne]
def bumpAt (d : ByteArray) (more z : Int) (n : Node) : Node := if n.path = d then bump n more z else n
theorem kidN_map {l : List Node} (hs : SortedN l) (d : ByteArray) (more z : Int) : kidN l d more z = l.map (bumpAt d more z) := by
  unfold kidN
  cases h : hasN l d with
  | false =>
    rw [if_neg (by simp), map_same]
    intro x hx
    unfold bumpAt
    rw [if_neg ((has_no hs).1 h x hx)]
  | true =>
    obtain ⟨x, hx, he⟩ := has_at h
    rw [if_pos rfl, List.getD_eq_getElem?_getD, hx]
    refine set_map hs hx _ ?_ ?_
    · unfold bumpAt
      rw [if_pos he]
      rfl
    · intro y hy hne
      unfold bumpAt
      rw [if_neg (by rw [← he]; exact hne)]
def putAt (x : Txn) (n : Node) : Node := if n.path = x.path then { n with data := x.data, version := x.version, mzxid := x.zxid } else n
theorem setN_map {l : List Node} (hs : SortedN l) {x : Txn} (h : hasN l x.path = true) : setN l x = l.map (putAt x) := by
  obtain ⟨n, hn, he⟩ := has_at h
  unfold setN
  rw [List.getD_eq_getElem?_getD, hn]
  refine set_map hs hn _ ?_ ?_
  · unfold putAt
    rw [if_pos he]
    rfl
  · intro y hy hne
    unfold putAt
    rw [if_neg (by rw [← he]; exact hne)]
theorem cut_get {α : Type} {l : List α} {k : Nat} {x : α} (h : l[k]? = some x) : l = l.take k ++ x :: l.drop (k + 1) := by
  obtain ⟨h1, h2⟩ := List.getElem?_eq_some_iff.1 h
  rw [← h2, List.getElem_cons_drop, List.take_append_drop]
theorem filter_same {α : Type} {l : List α} {f : α → Bool} (h : ∀ x ∈ l, f x = true) : l.filter f = l := List.filter_eq_self.2 h
theorem delN_filter {l : List Node} (hs : SortedN l) {p : ByteArray} (h : hasN l p = true) : delN l p = l.filter (fun n => decide (n.path ≠ p)) := by
  obtain ⟨x, hx, he⟩ := has_at h
  unfold delN
  have hc := cut_get hx
  generalize posN l p = k at hc
  generalize l.take k = a at hc ⊢
  generalize l.drop (k + 1) = b at hc ⊢
  subst hc
  unfold SortedN at hs
  rw [List.pairwise_append, List.pairwise_cons] at hs
  rw [List.filter_append, List.filter_cons_of_neg (by simp [he]), filter_same, filter_same]
  · intro y hy
    have := hs.2.1.1 y hy
    have := ltN_ne this
    simp
    rw [← he]
    exact fun e => this e.symm
  · intro y hy
    have := ltN_ne (hs.2.2 y hy x (by simp))
    simp
    rw [← he]
    exact this
theorem insN_parts {l : List Node} (hs : SortedN l) {x : Node} (h : hasN l x.path = false) : ∃ a b, l = a ++ b ∧ insN l x = a ++ x :: b ∧ SortedN (a ++ x :: b) := by
  refine ⟨l.take (posN l x.path), l.drop (posN l x.path), (List.take_append_drop _ _).symm, rfl, ?_⟩
  have hE := sortedE_of hs
  have hb := before_of hE x.path
  have ha := behind_of hE x.path (by rw [← hasN_E]; exact h)
  rw [← posN_E] at hb ha
  have e := List.take_append_drop (posN l x.path) l
  generalize posN l x.path = q at *
  rw [← List.map_take] at hb
  rw [← List.map_drop] at ha
  generalize l.take q = a at *
  generalize l.drop q = b at *
  unfold SortedN at *
  rw [← e] at hs
  rw [List.pairwise_append] at hs ⊢
  rw [List.pairwise_cons]
  refine ⟨hs.1, ⟨fun y hy => ha (toE y) (List.mem_map_of_mem hy), hs.2.1⟩, fun y hy u hu => ?_⟩
  have hyx : ltN y x := hb (toE y) (List.mem_map_of_mem hy)
  rcases List.mem_cons.1 hu with rfl | hu
  · exact hyx
  · exact hs.2.2 y hy u hu
theorem sorted_map {l : List Node} (hs : SortedN l) {f : Node → Node} (hf : ∀ x, (f x).path = x.path) : SortedN (l.map f) := by
  unfold SortedN at *
  rw [List.pairwise_map]
  refine hs.imp (fun h => ?_)
  unfold ltN at *
  rw [hf, hf]
  exact h
theorem sorted_filter {l : List Node} (hs : SortedN l) (f : Node → Bool) : SortedN (l.filter f) := List.Pairwise.filter f hs
theorem countP_map' {l : List Node} {f : Node → Node} (hf : ∀ x, (f x).path = x.path) (q : ByteArray) : (l.map f).countP (kidB q) = l.countP (kidB q) := by
  rw [List.countP_map]
  congr 1
  funext x
  simp only [Function.comp, kidB, hf]
theorem bumpAt_path (d : ByteArray) (more z : Int) (x : Node) : (bumpAt d more z x).path = x.path := by unfold bumpAt; split <;> rfl
theorem putAt_path (x : Txn) (n : Node) : (putAt x n).path = n.path := by unfold putAt; split <;> rfl
theorem pw_of_adj {α : Type} {R : α → α → Prop} (tr : ∀ a b c, R a b → R b c → R a c) : ∀ l : List α, (∀ i x y, l[i]? = some x → l[i + 1]? = some y → R x y) → l.Pairwise R
  | [], _ => .nil
  | [a], _ => List.pairwise_singleton R a
  | a :: b :: r, h => by
    have ih := pw_of_adj tr (b :: r) (fun i x y hx hy => h (i + 1) x y hx hy)
    have h0 := h 0 a b rfl rfl
    rw [List.pairwise_cons]
    refine ⟨fun y hy => ?_, ih⟩
    rcases List.mem_cons.1 hy with rfl | hy
    · exact h0
    · exact tr a b y h0 ((List.pairwise_cons.1 ih).1 y hy)
theorem adj_of_pw {α : Type} {R : α → α → Prop} {l : List α} (h : l.Pairwise R) {i j : Nat} {x y : α} (hij : i < j) (hx : l[i]? = some x) (hy : l[j]? = some y) : R x y := by
  obtain ⟨hi, rfl⟩ := List.getElem?_eq_some_iff.1 hx
  obtain ⟨hj, rfl⟩ := List.getElem?_eq_some_iff.1 hy
  exact List.pairwise_iff_getElem.1 h i j hi hj hij
/-! numbers in order -/
theorem posI_lt {l : List Int} (hs : l.Pairwise (· < ·)) (s : Int) {k : Nat} {x : Int} (hx : l[k]? = some x) : k < posI l s ↔ x < s := by
  have hk : k < l.length := (List.getElem?_eq_some_iff.1 hx).1
  obtain ⟨m, hm, h1, h2⟩ := border (ltI l s) l.length (by
    intro i j hij hj h
    have hi := List.getElem?_eq_getElem (l := l) (i := i) (by omega)
    have hj2 := List.getElem?_eq_getElem (l := l) (i := j) hj
    rw [ltI_of hj2] at h
    rw [ltI_of hi]
    have := adj_of_pw hs hij hi hj2
    simp at h ⊢
    omega)
  have hp : posI l s = m := by
    unfold posI
    exact bsr_sorted _ m l.length 0 l.length (by omega) (Nat.zero_le _) hm h1 h2
  rw [hp]
  constructor
  · intro h
    have := h1 k h
    rw [ltI_of hx] at this
    simpa using this
  · intro h
    rcases Nat.lt_or_ge k m with hlt2 | hge
    · exact hlt2
    · have := h2 k hge hk
      rw [ltI_of hx] at this
      simp at this
      omega
theorem isI_iff {l : List Int} (hs : l.Pairwise (· < ·)) {s : Int} : isI l s = true ↔ s ∈ l := by
  unfold isI
  rw [decide_eq_true_iff]
  constructor
  · exact List.mem_of_getElem?
  · intro h
    obtain ⟨k, hk⟩ := List.mem_iff_getElem?.1 h
    have h1 : ¬ k < posI l s := by rw [posI_lt hs s hk]; omega
    have h2 : posI l s = k := by
      rcases Nat.lt_or_ge (posI l s) k with h | h
      · have hkl := (List.getElem?_eq_some_iff.1 hk).1
        have hy := List.getElem?_eq_getElem (l := l) (i := posI l s) (by omega)
        have h3 := adj_of_pw hs h hy hk
        rw [← posI_lt hs s hy] at h3
        omega
      · omega
    rw [h2]
    exact hk
theorem isI_no {l : List Int} (hs : l.Pairwise (· < ·)) {s : Int} : isI l s = false ↔ s ∉ l := by
  rw [← isI_iff hs]
  cases isI l s <;> simp
theorem insS_spec {l : List Int} (hs : l.Pairwise (· < ·)) {s : Int} (h : s ∉ l) : (insS l s).Pairwise (· < ·) ∧ (∀ x, x ∈ insS l s ↔ x = s ∨ x ∈ l) ∧ (insS l s).length = l.length + 1 := by
  have hb : ∀ y ∈ l.take (posI l s), y < s := by
    intro y hy
    obtain ⟨k, hk⟩ := List.mem_iff_getElem?.1 hy
    rw [List.getElem?_take] at hk
    split at hk
    · exact (posI_lt hs s hk).1 (by assumption)
    · cases hk
  have ha : ∀ y ∈ l.drop (posI l s), s < y := by
    intro y hy
    have hne : y ≠ s := fun e => h (e ▸ List.mem_of_mem_drop hy)
    obtain ⟨k, hk⟩ := List.mem_iff_getElem?.1 hy
    rw [List.getElem?_drop] at hk
    have h1 := mt (posI_lt hs s hk).2 (by omega)
    omega
  have e := List.take_append_drop (posI l s) l
  have hle := posI_le l s
  unfold insS
  generalize posI l s = q at *
  have hlen : (l.take q).length = q := by rw [List.length_take]; omega
  have hlen2 : (l.drop q).length = l.length - q := by rw [List.length_drop]
  generalize l.take q = a at *
  generalize l.drop q = b at *
  rw [← e] at hs
  rw [List.pairwise_append] at hs
  refine ⟨?_, ?_, ?_⟩
  · rw [List.pairwise_append, List.pairwise_cons]
    refine ⟨hs.1, ⟨ha, hs.2.1⟩, fun y hy u hu => ?_⟩
    rcases List.mem_cons.1 hu with rfl | hu
    · exact hb y hy
    · exact hs.2.2 y hy u hu
  · intro x
    rw [← e]
    simp only [List.mem_append, List.mem_cons]
    constructor
    · rintro (h | h | h)
      · exact .inr (.inl h)
      · exact .inl h
      · exact .inr (.inr h)
    · rintro (h | h | h)
      · exact .inr (.inl h)
      · exact .inl h
      · exact .inr (.inr h)
  · rw [List.length_append, List.length_cons]
    omega
theorem delS_spec {l : List Int} (hs : l.Pairwise (· < ·)) {s : Int} (h : s ∈ l) : (delS l s).Pairwise (· < ·) ∧ (∀ x, x ∈ delS l s ↔ x ∈ l ∧ x ≠ s) ∧ (delS l s).length + 1 = l.length := by
  have hx : l[posI l s]? = some s := by
    have := (isI_iff hs).2 h
    unfold isI at this
    simpa using this
  have hc := cut_get hx
  have hq := (List.getElem?_eq_some_iff.1 hx).1
  unfold delS
  generalize posI l s = q at *
  have hlen : (l.take q).length = q := by rw [List.length_take]; omega
  have hlen2 : (l.drop (q + 1)).length = l.length - (q + 1) := by rw [List.length_drop]
  generalize l.take q = a at *
  generalize l.drop (q + 1) = b at *
  have hs2 := hs
  rw [hc, List.pairwise_append, List.pairwise_cons] at hs
  refine ⟨?_, ?_, ?_⟩
  · rw [List.pairwise_append]
    exact ⟨hs.1, hs.2.1.2, fun y hy u hu => hs.2.2 y hy u (by simp [hu])⟩
  · intro x
    rw [hc]
    simp only [List.mem_append, List.mem_cons]
    constructor
    · rintro (h | h)
      · exact ⟨.inl h, by have := hs.2.2 x h s (by simp); omega⟩
      · exact ⟨.inr (.inr h), by have := hs.2.1.1 x h; omega⟩
    · rintro ⟨h | h | h, hn⟩
      · exact .inl h
      · exact absurd h hn
      · exact .inr h
  · rw [List.length_append]
    omega
end Go.Proofs.YtchgpijfebilbaaGreatDoor
