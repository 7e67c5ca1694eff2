/- path.Under, Split, Join, Depth. -/
import Derived.Test.YtkogdnkifnhljaaDoorGood
namespace Go.Proofs.YtkogdnkifnhljaaDoor
open Go.RowKit Go.Shelf
def slash : ByteArray := ⟨#[47]⟩
def underB (s t : ByteArray) : Bool := goodP s && goodP t && decide (s ≠ t) && (decide (t = slash) || Lib.hasPrefix s.data.toList (t ++ slash).data.toList)
theorem goodP_size {s : ByteArray} (h : goodP s = true) : 1 ≤ s.size ∧ s.size ≤ 200 := by
  unfold goodP at h
  by_cases hs : s = ⟨#[47]⟩
  · subst hs; decide
  · rw [decide_eq_false hs, Bool.false_or] at h
    simp only [Bool.and_eq_true, decide_eq_true_iff] at h
    obtain ⟨⟨h1, hp⟩, _⟩ := h
    refine ⟨?_, h1⟩
    cases hd : s.data.toList with
    | nil => rw [hd] at hp; cases hp
    | cons x r =>
      have : s.data.toList.length = s.size := by simp
      rw [hd] at this
      simp at this
      omega
theorem ne_bytes {a b : ByteArray} (h : a ≠ b) : (a.toList == b.toList) = false := beq_eq_false_iff_ne.2 (fun e => h (bytes_eqB e))
theorem ne_slash {a : ByteArray} (h : a ≠ slash) : (a.toList == [47]) = false := beq_eq_false_iff_ne.2 (fun e => h (bytes_eqB (by rw [e]; unfold slash; rw [ByteArray.toList_eq])))
set_option maxHeartbeats 1000000 in
theorem under_any (s t : ByteArray) (w : World) (hs : s.size ≤ 9223372036854775807) (ht : t.size ≤ 9223372036854775807) :
    Calls Tryd.prog 14 #[.string s, .string t] w fun e w' => e = .returned (.bool (underB s t)) ∧ Below w.heap.size w w' := by
  have HS := Lib.hid (fun (W : World) => good_any s W hs)
  have HT := Lib.hid (fun (W : World) => good_any t W ht)
  unfold underB
  cases hgs : goodP s with
  | false =>
    rw [hgs] at HS
    simp only [Bool.false_and]
    clear hgs
    go_enter Tryd.func14, Tryd.ntmps14
    go_wp2_with (go_at_call 16; refine (HS.out _).mono ?_; rintro e w1 ⟨rfl, hb⟩; obtain ⟨ext1, d1, rfl⟩ := Below.grown_eq _ hb; clear hb HS)
    go_ret
    exact ⟨rfl, (by repeat (first | exact Below.refl _ _ | assumption | refine Below.drew ?_ | refine Below.drewN' ?_ _ | refine below_grow0 _ _ ?_ | refine below_alloc0 _ ?_ | refine Below.alloc ?_ (by first | omega | (simp; done) | (simp; omega)) _ | refine Below.setCell ?_ (by first | omega | (simp; done) | (simp; omega)) _ | refine Below.grow _ _ _ ?_ (by first | omega | (simp; done) | (simp; omega))))⟩
  | true =>
    rw [hgs] at HS
    have zs := goodP_size hgs
    cases hgt : goodP t with
    | false =>
      rw [hgt] at HT
      simp only [Bool.false_and, Bool.and_false]
      clear hgs hgt
      by_cases hst : s = t
      · subst hst
        go_enter Tryd.func14, Tryd.ntmps14
        go_wp2_with (first | (go_at_call 16; refine (HS.out _).mono ?_; rintro e w1 ⟨rfl, hb⟩; obtain ⟨ext1, d1, rfl⟩ := Below.grown_eq _ hb; clear hb HS) | (go_at_call 16; refine (HT.out _).mono ?_; rintro e w1 ⟨rfl, hb⟩; obtain ⟨ext2, d2, rfl⟩ := Below.grown_eq _ hb; clear hb HT))
        go_ret
        exact ⟨rfl, (by repeat (first | exact Below.refl _ _ | assumption | refine Below.drew ?_ | refine Below.drewN' ?_ _ | refine below_grow0 _ _ ?_ | refine below_alloc0 _ ?_ | refine Below.alloc ?_ (by first | omega | (simp; done) | (simp; omega)) _ | refine Below.setCell ?_ (by first | omega | (simp; done) | (simp; omega)) _ | refine Below.grow _ _ _ ?_ (by first | omega | (simp; done) | (simp; omega))))⟩
      · go_enter Tryd.func14, Tryd.ntmps14
        go_wp2_with (first | (go_at_call 16; refine (HS.out _).mono ?_; rintro e w1 ⟨rfl, hb⟩; obtain ⟨ext1, d1, rfl⟩ := Below.grown_eq _ hb; clear hb HS) | (go_at_call 16; refine (HT.out _).mono ?_; rintro e w1 ⟨rfl, hb⟩; obtain ⟨ext2, d2, rfl⟩ := Below.grown_eq _ hb; clear hb HT))
        go_ret
        exact ⟨rfl, (by repeat (first | exact Below.refl _ _ | assumption | refine Below.drew ?_ | refine Below.drewN' ?_ _ | refine below_grow0 _ _ ?_ | refine below_alloc0 _ ?_ | refine Below.alloc ?_ (by first | omega | (simp; done) | (simp; omega)) _ | refine Below.setCell ?_ (by first | omega | (simp; done) | (simp; omega)) _ | refine Below.grow _ _ _ ?_ (by first | omega | (simp; done) | (simp; omega))))⟩
    | true =>
      rw [hgt] at HT
      have zt := goodP_size hgt
      clear hgs hgt
      by_cases hst : s = t
      · subst hst
        simp only [ne_eq, not_true_eq_false, decide_false, Bool.and_false, Bool.false_and]
        go_enter Tryd.func14, Tryd.ntmps14
        go_wp2_with (first | (go_at_call 16; refine (HS.out _).mono ?_; rintro e w1 ⟨rfl, hb⟩; obtain ⟨ext1, d1, rfl⟩ := Below.grown_eq _ hb; clear hb HS) | (go_at_call 16; refine (HT.out _).mono ?_; rintro e w1 ⟨rfl, hb⟩; obtain ⟨ext2, d2, rfl⟩ := Below.grown_eq _ hb; clear hb HT))
        go_ret
        exact ⟨rfl, (by repeat (first | exact Below.refl _ _ | assumption | refine Below.drew ?_ | refine Below.drewN' ?_ _ | refine below_grow0 _ _ ?_ | refine below_alloc0 _ ?_ | refine Below.alloc ?_ (by first | omega | (simp; done) | (simp; omega)) _ | refine Below.setCell ?_ (by first | omega | (simp; done) | (simp; omega)) _ | refine Below.grow _ _ _ ?_ (by first | omega | (simp; done) | (simp; omega))))⟩
      · have hne := ne_bytes hst
        rw [decide_eq_true hst]
        simp only [Bool.true_and]
        by_cases htr : t = slash
        · subst htr
          have hne := ne_slash hst
          rw [decide_eq_true rfl, Bool.true_or]
          unfold slash at *
          go_enter Tryd.func14, Tryd.ntmps14
          go_wp2_with (first | (go_at_call 16; refine (HS.out _).mono ?_; rintro e w1 ⟨rfl, hb⟩; obtain ⟨ext1, d1, rfl⟩ := Below.grown_eq _ hb; clear hb HS) | (go_at_call 16; refine (HT.out _).mono ?_; rintro e w1 ⟨rfl, hb⟩; obtain ⟨ext2, d2, rfl⟩ := Below.grown_eq _ hb; clear hb HT))
          go_ret
          exact ⟨rfl, (by repeat (first | exact Below.refl _ _ | assumption | refine Below.drew ?_ | refine Below.drewN' ?_ _ | refine below_grow0 _ _ ?_ | refine below_alloc0 _ ?_ | refine Below.alloc ?_ (by first | omega | (simp; done) | (simp; omega)) _ | refine Below.setCell ?_ (by first | omega | (simp; done) | (simp; omega)) _ | refine Below.grow _ _ _ ?_ (by first | omega | (simp; done) | (simp; omega))))⟩
        · have hnt := ne_slash htr
          rw [decide_eq_false htr, Bool.false_or]
          clear htr hst
          have HP := Lib.hid (fun (W : World) => Tryd.strings_HasPrefix s (t ++ slash) W)
          generalize hpp : Lib.hasPrefix s.data.toList (t ++ slash).data.toList = pp at *
          clear hpp
          go_enter Tryd.func14, Tryd.ntmps14
          go_wp2_with (first | (go_at_call 16; refine (HS.out _).mono ?_; rintro e w1 ⟨rfl, hb⟩; obtain ⟨ext1, d1, rfl⟩ := Below.grown_eq _ hb; clear hb HS) | (go_at_call 16; refine (HT.out _).mono ?_; rintro e w1 ⟨rfl, hb⟩; obtain ⟨ext2, d2, rfl⟩ := Below.grown_eq _ hb; clear hb HT) | (go_at_call 37; refine (HP.out _).mono ?_; rintro e w1 ⟨rfl, rfl⟩; skip))
          go_ret
          exact ⟨rfl, (by repeat (first | exact Below.refl _ _ | assumption | refine Below.drew ?_ | refine Below.drewN' ?_ _ | refine below_grow0 _ _ ?_ | refine below_alloc0 _ ?_ | refine Below.alloc ?_ (by first | omega | (simp; done) | (simp; omega)) _ | refine Below.setCell ?_ (by first | omega | (simp; done) | (simp; omega)) _ | refine Below.grow _ _ _ ?_ (by first | omega | (simp; done) | (simp; omega))))⟩
/-- where the last slash stands -/
def lastP (s : ByteArray) : Nat := (Lib.lastIndexByte s 47).toNat
theorem lastP_is {s : ByteArray} (hp : Lib.hasPrefix s.data.toList [47] = true) : Lib.lastIndexByte s 47 = (lastP s : Int) ∧ lastP s < s.size := by
  rcases Lib.lastIndexByte_spec s 47 with ⟨e, hn⟩ | ⟨i, hi, e, _⟩
  · exfalso
    cases hd : s.data.toList with
    | nil => rw [hd] at hp; cases hp
    | cons x r =>
      rw [hd] at hp
      have hx : (47 : UInt8) = x := by simpa [Lib.hasPrefix, List.isPrefixOf] using hp
      have hl : s.data.toList.length = s.size := by simp
      have h0 : 0 < s.size := by rw [hd] at hl; simp at hl; omega
      refine hn 0 h0 ?_
      have : s.data[0]! = x := by
        rw [← Array.getElem!_toList, hd]; rfl
      rw [this, ← hx]
      rfl
  · unfold lastP
    rw [e]
    exact ⟨by simp, by simpa using hi⟩
theorem goodP_pre {s : ByteArray} (h : goodP s = true) (hs : s ≠ slash) : Lib.hasPrefix s.data.toList [47] = true ∧ ((stepsB (s.extract 1 s.size)).all fun x => named (bs x)) = true := by
  unfold goodP at h
  rw [decide_eq_false (show ¬ s = ⟨#[47]⟩ from hs), Bool.false_or] at h
  simp only [Bool.and_eq_true] at h
  exact ⟨h.1.2, h.2⟩
def splitR (s : ByteArray) : ByteArray × ByteArray × Int := if goodP s then (if s = slash then (⟨#[]⟩, ⟨#[]⟩, 7) else if lastP s = 0 then (slash, s.extract 1 s.size, 0) else (s.extract 0 (lastP s), s.extract (lastP s + 1) s.size, 0)) else (⟨#[]⟩, ⟨#[]⟩, 2)
set_option maxHeartbeats 1000000 in
theorem split_any (s : ByteArray) (w : World) (hs : s.size ≤ 9223372036854775807) :
    Calls Tryd.prog 15 #[.string s] w fun e w' => e = .returned (.tuple #[.string (splitR s).1, .string (splitR s).2.1, .int .i64 (splitR s).2.2]) ∧ Below w.heap.size w w' := by
  have HS := Lib.hid (fun (W : World) => good_any s W hs)
  unfold splitR
  cases hgs : goodP s with
  | false =>
    rw [hgs] at HS
    simp only [Bool.false_eq_true, if_false]
    clear hgs
    go_enter Tryd.func15, Tryd.ntmps15
    go_wp2_with (go_at_call 16; refine (HS.out _).mono ?_; rintro e w1 ⟨rfl, hb⟩; obtain ⟨ext1, d1, rfl⟩ := Below.grown_eq _ hb; clear hb HS)
    refine bodyPost_ret (v := .tuple #[.string ⟨#[]⟩, .string ⟨#[]⟩, .int .i64 2]) (by simp [results, Tryd.results15, go_sem]) rfl ⟨rfl, (by repeat (first | exact Below.refl _ _ | assumption | refine Below.drew ?_ | refine Below.drewN' ?_ _ | refine below_grow0 _ _ ?_ | refine below_alloc0 _ ?_ | refine Below.alloc ?_ (by first | omega | (simp; done) | (simp; omega)) _ | refine Below.setCell ?_ (by first | omega | (simp; done) | (simp; omega)) _ | refine Below.grow _ _ _ ?_ (by first | omega | (simp; done) | (simp; omega))))⟩
  | true =>
    rw [hgs] at HS
    have zs := goodP_size hgs
    simp only [if_true]
    by_cases hsl : s = slash
    · subst hsl
      simp only [if_true]
      unfold slash at *
      clear hgs
      go_enter Tryd.func15, Tryd.ntmps15
      go_wp2_with (go_at_call 16; refine (HS.out _).mono ?_; rintro e w1 ⟨rfl, hb⟩; obtain ⟨ext1, d1, rfl⟩ := Below.grown_eq _ hb; clear hb HS)
      refine bodyPost_ret (v := .tuple #[.string ⟨#[]⟩, .string ⟨#[]⟩, .int .i64 7]) (by simp [results, Tryd.results15, go_sem]) rfl ⟨rfl, (by repeat (first | exact Below.refl _ _ | assumption | refine Below.drew ?_ | refine Below.drewN' ?_ _ | refine below_grow0 _ _ ?_ | refine below_alloc0 _ ?_ | refine Below.alloc ?_ (by first | omega | (simp; done) | (simp; omega)) _ | refine Below.setCell ?_ (by first | omega | (simp; done) | (simp; omega)) _ | refine Below.grow _ _ _ ?_ (by first | omega | (simp; done) | (simp; omega))))⟩
    · simp only [if_neg hsl]
      have hne := ne_slash hsl
      obtain ⟨hL, hlt⟩ := lastP_is (goodP_pre hgs hsl).1
      have HL := Lib.hid (fun (W : World) => by
        have h := Tryd.strings_LastIndexByte s 47 (by omega) W
        rw [hL] at h
        exact h)
      clear hL hgs hsl
      generalize lastP s = k at *
      by_cases hk : k = 0
      · subst hk
        simp only [if_true]
        go_enter Tryd.func15, Tryd.ntmps15
        go_wp2_with (first | (go_at_call 16; refine (HS.out _).mono ?_; rintro e w1 ⟨rfl, hb⟩; obtain ⟨ext1, d1, rfl⟩ := Below.grown_eq _ hb; clear hb HS) | (go_at_call 38; refine (HL.out _).mono ?_; rintro e w1 ⟨rfl, rfl⟩; skip))
        go_region
        go_wp2_with fail
        refine bodyPost_ret (v := .tuple #[.string slash, .string (s.extract 1 s.size), .int .i64 0]) (by simp [results, Tryd.results15, go_sem, slash]) rfl ⟨rfl, (by repeat (first | exact Below.refl _ _ | assumption | refine Below.drew ?_ | refine Below.drewN' ?_ _ | refine below_grow0 _ _ ?_ | refine below_alloc0 _ ?_ | refine Below.alloc ?_ (by first | omega | (simp; done) | (simp; omega)) _ | refine Below.setCell ?_ (by first | omega | (simp; done) | (simp; omega)) _ | refine Below.grow _ _ _ ?_ (by first | omega | (simp; done) | (simp; omega))))⟩
      · simp only [if_neg hk]
        have hki : (((k : Nat) : Int) == 0) = false := beq_eq_false_iff_ne.2 (by omega)
        go_enter Tryd.func15, Tryd.ntmps15
        go_wp2_with (first | (go_at_call 16; refine (HS.out _).mono ?_; rintro e w1 ⟨rfl, hb⟩; obtain ⟨ext1, d1, rfl⟩ := Below.grown_eq _ hb; clear hb HS) | (go_at_call 38; refine (HL.out _).mono ?_; rintro e w1 ⟨rfl, rfl⟩; skip))
        go_region
        go_wp2_with fail
        refine bodyPost_ret (v := .tuple #[.string (s.extract 0 k), .string (s.extract (k + 1) s.size), .int .i64 0]) (by simp [results, Tryd.results15, go_sem]) rfl ⟨rfl, (by repeat (first | exact Below.refl _ _ | assumption | refine Below.drew ?_ | refine Below.drewN' ?_ _ | refine below_grow0 _ _ ?_ | refine below_alloc0 _ ?_ | refine Below.alloc ?_ (by first | omega | (simp; done) | (simp; omega)) _ | refine Below.setCell ?_ (by first | omega | (simp; done) | (simp; omega)) _ | refine Below.grow _ _ _ ?_ (by first | omega | (simp; done) | (simp; omega))))⟩
def joinT (d n : ByteArray) : ByteArray := if d = slash then slash ++ n else d ++ slash ++ n
def joinR (d n : ByteArray) : ByteArray × Int := if goodP d && named (bs n) then (if 200 < (joinT d n).size then (⟨#[]⟩, 1) else (joinT d n, 0)) else (⟨#[]⟩, 2)
set_option maxHeartbeats 1000000 in
theorem join_any (d n : ByteArray) (w : World) (hd : d.size ≤ 9223372036854775807) (hn : n.size ≤ 9223372036854775807) :
    Calls Tryd.prog 17 #[.string d, .string n] w fun e w' => e = .returned (.tuple #[.string (joinR d n).1, .int .i64 (joinR d n).2]) ∧ Below w.heap.size w w' := by
  have HS := Lib.hid (fun (W : World) => good_any d W hd)
  have HN := Lib.hid (fun (W : World) => named_any n W hn)
  unfold joinR
  cases hgs : goodP d with
  | false =>
    rw [hgs] at HS
    simp only [Bool.false_and, Bool.false_eq_true, if_false]
    clear hgs
    go_enter Tryd.func17, Tryd.ntmps17
    go_wp2_with (go_at_call 16; refine (HS.out _).mono ?_; rintro e w1 ⟨rfl, hb⟩; obtain ⟨ext1, d1, rfl⟩ := Below.grown_eq _ hb; clear hb HS)
    go_ret2
    exact ⟨rfl, (by repeat (first | exact Below.refl _ _ | assumption | refine Below.drew ?_ | refine Below.drewN' ?_ _ | refine below_grow0 _ _ ?_ | refine below_alloc0 _ ?_ | refine Below.alloc ?_ (by first | omega | (simp; done) | (simp; omega)) _ | refine Below.setCell ?_ (by first | omega | (simp; done) | (simp; omega)) _ | refine Below.grow _ _ _ ?_ (by first | omega | (simp; done) | (simp; omega))))⟩
  | true =>
    rw [hgs] at HS
    have zs := goodP_size hgs
    clear hgs
    cases hnm : named (bs n) with
    | false =>
      rw [hnm] at HN
      simp only [Bool.and_false, Bool.false_eq_true, if_false]
      clear hnm
      go_enter Tryd.func17, Tryd.ntmps17
      go_wp2_with (first | (go_at_call 16; refine (HS.out _).mono ?_; rintro e w1 ⟨rfl, hb⟩; obtain ⟨ext1, d1, rfl⟩ := Below.grown_eq _ hb; clear hb HS) | (go_at_call 18; refine (HN.out _).mono ?_; rintro e w1 ⟨rfl, rfl⟩; skip))
      go_ret2
      exact ⟨rfl, (by repeat (first | exact Below.refl _ _ | assumption | refine Below.drew ?_ | refine Below.drewN' ?_ _ | refine below_grow0 _ _ ?_ | refine below_alloc0 _ ?_ | refine Below.alloc ?_ (by first | omega | (simp; done) | (simp; omega)) _ | refine Below.setCell ?_ (by first | omega | (simp; done) | (simp; omega)) _ | refine Below.grow _ _ _ ?_ (by first | omega | (simp; done) | (simp; omega))))⟩
    | true =>
      rw [hnm] at HN
      have zn : n.size ≤ 40 := by
        unfold named at hnm
        simp only [Bool.and_eq_true, decide_eq_true_iff, length_bs] at hnm
        exact hnm.2
      clear hnm
      simp only [Bool.and_self, if_true]
      unfold joinT
      by_cases hsl : d = slash
      · subst hsl
        simp only [if_true]
        have hsz : (slash ++ n).size = 1 + n.size := by rw [ByteArray.size_append]; rfl
        have hgt : ¬ 200 < (slash ++ n).size := by omega
        simp only [if_neg hgt]
        have hgi : (decide ((200 : Int) < 1 + (n.size : Int))) = false := decide_eq_false (by omega)
        clear hgt hsz
        unfold slash at *
        go_enter Tryd.func17, Tryd.ntmps17
        go_wp2_with (first | (go_at_call 16; refine (HS.out _).mono ?_; rintro e w1 ⟨rfl, hb⟩; obtain ⟨ext1, d1, rfl⟩ := Below.grown_eq _ hb; clear hb HS) | (go_at_call 18; refine (HN.out _).mono ?_; rintro e w1 ⟨rfl, rfl⟩; skip))
        go_ret2
        exact ⟨rfl, (by repeat (first | exact Below.refl _ _ | assumption | refine Below.drew ?_ | refine Below.drewN' ?_ _ | refine below_grow0 _ _ ?_ | refine below_alloc0 _ ?_ | refine Below.alloc ?_ (by first | omega | (simp; done) | (simp; omega)) _ | refine Below.setCell ?_ (by first | omega | (simp; done) | (simp; omega)) _ | refine Below.grow _ _ _ ?_ (by first | omega | (simp; done) | (simp; omega))))⟩
      · have hne := ne_slash hsl
        simp only [if_neg hsl]
        have hsz : (d ++ slash ++ n).size = d.size + 1 + n.size := by rw [ByteArray.size_append, ByteArray.size_append]; rfl
        by_cases hgt : 200 < (d ++ slash ++ n).size
        · simp only [if_pos hgt]
          have hgi : (decide ((200 : Int) < (d.size : Int) + 1 + (n.size : Int))) = true := decide_eq_true (by omega)
          clear hgt hsz
          unfold slash at *
          go_enter Tryd.func17, Tryd.ntmps17
          go_wp2_with (first | (go_at_call 16; refine (HS.out _).mono ?_; rintro e w1 ⟨rfl, hb⟩; obtain ⟨ext1, d1, rfl⟩ := Below.grown_eq _ hb; clear hb HS) | (go_at_call 18; refine (HN.out _).mono ?_; rintro e w1 ⟨rfl, rfl⟩; skip))
          go_ret2
          exact ⟨rfl, (by repeat (first | exact Below.refl _ _ | assumption | refine Below.drew ?_ | refine Below.drewN' ?_ _ | refine below_grow0 _ _ ?_ | refine below_alloc0 _ ?_ | refine Below.alloc ?_ (by first | omega | (simp; done) | (simp; omega)) _ | refine Below.setCell ?_ (by first | omega | (simp; done) | (simp; omega)) _ | refine Below.grow _ _ _ ?_ (by first | omega | (simp; done) | (simp; omega))))⟩
        · simp only [if_neg hgt]
          have hgi : (decide ((200 : Int) < (d.size : Int) + 1 + (n.size : Int))) = false := decide_eq_false (by omega)
          clear hgt hsz
          unfold slash at *
          go_enter Tryd.func17, Tryd.ntmps17
          go_wp2_with (first | (go_at_call 16; refine (HS.out _).mono ?_; rintro e w1 ⟨rfl, hb⟩; obtain ⟨ext1, d1, rfl⟩ := Below.grown_eq _ hb; clear hb HS) | (go_at_call 18; refine (HN.out _).mono ?_; rintro e w1 ⟨rfl, rfl⟩; skip))
          go_ret2
          exact ⟨rfl, (by repeat (first | exact Below.refl _ _ | assumption | refine Below.drew ?_ | refine Below.drewN' ?_ _ | refine below_grow0 _ _ ?_ | refine below_alloc0 _ ?_ | refine Below.alloc ?_ (by first | omega | (simp; done) | (simp; omega)) _ | refine Below.setCell ?_ (by first | omega | (simp; done) | (simp; omega)) _ | refine Below.grow _ _ _ ?_ (by first | omega | (simp; done) | (simp; omega))))⟩
def depthR (s : ByteArray) : Int × Int := if goodP s then (if s = slash then (0, 0) else ((Lib.countByte s.data.toList 47 : Nat), 0)) else (0, 2)
set_option maxHeartbeats 1000000 in
theorem depth_any (s : ByteArray) (w : World) (hs : s.size ≤ 9223372036854775807) :
    Calls Tryd.prog 19 #[.string s] w fun e w' => e = .returned (.tuple #[.int .i64 (depthR s).1, .int .i64 (depthR s).2]) ∧ Below w.heap.size w w' := by
  have HS := Lib.hid (fun (W : World) => good_any s W hs)
  have HC := Lib.hid (fun (W : World) => Tryd.strings_Count_one s 47 W)
  unfold depthR
  generalize ((Lib.countByte s.data.toList 47 : Nat) : Int) = cnt at *
  cases hgs : goodP s with
  | false =>
    rw [hgs] at HS
    simp only [Bool.false_eq_true, if_false]
    clear hgs
    go_enter Tryd.func19, Tryd.ntmps19
    go_wp2_with (go_at_call 16; refine (HS.out _).mono ?_; rintro e w1 ⟨rfl, hb⟩; obtain ⟨ext1, d1, rfl⟩ := Below.grown_eq _ hb; clear hb HS)
    go_ret2
    exact ⟨rfl, (by repeat (first | exact Below.refl _ _ | assumption | refine Below.drew ?_ | refine Below.drewN' ?_ _ | refine below_grow0 _ _ ?_ | refine below_alloc0 _ ?_ | refine Below.alloc ?_ (by first | omega | (simp; done) | (simp; omega)) _ | refine Below.setCell ?_ (by first | omega | (simp; done) | (simp; omega)) _ | refine Below.grow _ _ _ ?_ (by first | omega | (simp; done) | (simp; omega))))⟩
  | true =>
    rw [hgs] at HS
    clear hgs
    simp only [if_true]
    by_cases hsl : s = slash
    · subst hsl
      simp only [if_true]
      unfold slash at *
      go_enter Tryd.func19, Tryd.ntmps19
      go_wp2_with (go_at_call 16; refine (HS.out _).mono ?_; rintro e w1 ⟨rfl, hb⟩; obtain ⟨ext1, d1, rfl⟩ := Below.grown_eq _ hb; clear hb HS)
      go_ret2
      exact ⟨rfl, (by repeat (first | exact Below.refl _ _ | assumption | refine Below.drew ?_ | refine Below.drewN' ?_ _ | refine below_grow0 _ _ ?_ | refine below_alloc0 _ ?_ | refine Below.alloc ?_ (by first | omega | (simp; done) | (simp; omega)) _ | refine Below.setCell ?_ (by first | omega | (simp; done) | (simp; omega)) _ | refine Below.grow _ _ _ ?_ (by first | omega | (simp; done) | (simp; omega))))⟩
    · have hne := ne_slash hsl
      simp only [if_neg hsl]
      go_enter Tryd.func19, Tryd.ntmps19
      go_wp2_with (first | (go_at_call 16; refine (HS.out _).mono ?_; rintro e w1 ⟨rfl, hb⟩; obtain ⟨ext1, d1, rfl⟩ := Below.grown_eq _ hb; clear hb HS) | (go_at_call 40; refine (HC.out _).mono ?_; rintro e w1 ⟨rfl, rfl⟩; skip))
      go_ret2
      exact ⟨rfl, (by repeat (first | exact Below.refl _ _ | assumption | refine Below.drew ?_ | refine Below.drewN' ?_ _ | refine below_grow0 _ _ ?_ | refine below_alloc0 _ ?_ | refine Below.alloc ?_ (by first | omega | (simp; done) | (simp; omega)) _ | refine Below.setCell ?_ (by first | omega | (simp; done) | (simp; omega)) _ | refine Below.grow _ _ _ ?_ (by first | omega | (simp; done) | (simp; omega))))⟩
end Go.Proofs.YtkogdnkifnhljaaDoor
