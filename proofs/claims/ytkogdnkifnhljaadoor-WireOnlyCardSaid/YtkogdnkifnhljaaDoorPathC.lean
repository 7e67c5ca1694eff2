/- Paths as lists of bytes: plain laws of steps, joined and taken apart. -/
import Derived.Test.YtkogdnkifnhljaaDoorPathB
namespace Go.Proofs.YtkogdnkifnhljaaDoor
open Go.RowKit
def stepsL : List UInt8 → List (List UInt8)
  | [] => [[]]
  | c :: r => if c = 47 then [] :: stepsL r else (c :: (stepsL r).headD []) :: (stepsL r).tail
theorem stepsL_cons (c : UInt8) (r : List UInt8) : stepsL (c :: r) = if c = 47 then [] :: stepsL r else (c :: (stepsL r).headD []) :: (stepsL r).tail := rfl
theorem stepsL_ne : ∀ l, ∃ h t, stepsL l = h :: t
  | [] => ⟨[], [], rfl⟩
  | c :: r => by
    unfold stepsL
    split
    · exact ⟨_, _, rfl⟩
    · exact ⟨_, _, rfl⟩
theorem stepsL_app : ∀ (x y : List UInt8), stepsL (x ++ 47 :: y) = stepsL x ++ stepsL y
  | [], y => by simp [stepsL]
  | c :: r, y => by
    have ih := stepsL_app r y
    obtain ⟨h, t, e⟩ := stepsL_ne r
    rw [List.cons_append, stepsL_cons, stepsL_cons, ih, e]
    split <;> simp
theorem stepsL_none : ∀ (l : List UInt8), (47 : UInt8) ∉ l → stepsL l = [l]
  | [], _ => rfl
  | c :: r, h => by
    have ih := stepsL_none r (fun k => h (List.mem_cons_of_mem _ k))
    have hc : c ≠ 47 := fun e => h (by rw [e]; exact List.mem_cons_self)
    unfold stepsL
    rw [if_neg hc, ih]
    rfl
theorem bs_extract (s : ByteArray) (a b : Nat) : bs (s.extract a b) = ((bs s).take b).drop a := by
  unfold bs
  rw [ByteArray.data_extract, Array.toList_extract, List.extract_eq_take_drop, List.drop_take]
theorem bs_append (a b : ByteArray) : bs (a ++ b) = bs a ++ bs b := by unfold bs; rw [ByteArray.data_append]; simp
theorem bs_inj {a b : ByteArray} (h : bs a = bs b) : a = b := ByteArray.ext (Array.toList_inj.mp h)
theorem cut_at {l : List UInt8} {o : Nat} (h : l[o]? = some 47) : l = l.take o ++ 47 :: l.drop (o + 1) := by
  obtain ⟨h1, h2⟩ := List.getElem?_eq_some_iff.1 h
  rw [← h2, List.getElem_cons_drop, List.take_append_drop]
theorem stepsB_L (s : ByteArray) : (stepsB s).map bs = stepsL (bs s) := by
  generalize hn : s.size = n
  induction n using Nat.strongRecOn generalizing s with
  | ind n ih =>
    rcases Int.lt_or_le (Lib.indexByte s.data.toList 47) 0 with hi | hi
    · have hge := Lib.indexByte_ge s.data.toList 47
      have hno := Lib.indexByte_none (show Lib.indexByte s.data.toList 47 = -1 by omega)
      rw [stepsB_no hi, stepsL_none]
      · rfl
      · intro hm
        obtain ⟨k, hk⟩ := List.mem_iff_getElem?.1 hm
        exact hno k hk
    · obtain ⟨o, ho⟩ := Int.eq_ofNat_of_zero_le hi
      have hlt := index_lt ho
      have hso := Lib.indexByte_some ho
      have hsz : (s.extract (o + 1) s.size).size = s.size - (o + 1) := by rw [ByteArray.size_extract]; omega
      have h2 := ih (s.size - (o + 1)) (by omega) _ hsz
      have hl : (bs s).length = s.size := length_bs s
      have hno : (47 : UInt8) ∉ (bs s).take o := by
        intro hm
        obtain ⟨k, hk⟩ := List.mem_iff_getElem?.1 hm
        rw [List.getElem?_take] at hk
        split at hk
        · rename_i hko; exact hso.2 k hko hk
        · cases hk
      have hR : stepsL (bs s) = (bs s).take o :: stepsL ((bs s).drop (o + 1)) := by
        conv => lhs; rw [cut_at (show (bs s)[o]? = some 47 from hso.1)]
        rw [stepsL_app, stepsL_none _ hno]
        rfl
      rw [stepsB_yes ho, List.map_cons, h2, bs_extract, bs_extract, List.take_of_length_le (show (bs s).length ≤ s.size by omega), hR]
      rfl
def goodL (l : List UInt8) : Bool := decide (l = [47]) || (decide (l.length ≤ 200) && match l with
  | c :: r => c == 47 && (stepsL r).all named
  | [] => false)
theorem goodP_L (s : ByteArray) : goodP s = goodL (bs s) := by
  unfold goodP goodL
  have h1 : decide (s = ⟨#[47]⟩) = decide (bs s = [47]) := by
    by_cases h : s = ⟨#[47]⟩
    · subst h; rfl
    · rw [decide_eq_false h, decide_eq_false (fun k => h (bs_inj (by rw [k]; rfl)))]
  have h2 : decide (s.size ≤ 200) = decide ((bs s).length ≤ 200) := by rw [length_bs]
  rw [h1, h2, Bool.and_assoc]
  congr 2
  have h3 : ((stepsB (s.extract 1 s.size)).all fun x => named (bs x)) = (stepsL ((bs s).drop 1)).all named := by
    have := stepsB_L (s.extract 1 s.size)
    rw [bs_extract, List.take_of_length_le (by rw [length_bs]; exact Nat.le_refl _)] at this
    rw [← this, List.all_map]
    rfl
  rw [h3]
  show (Lib.hasPrefix (bs s) [47] && _) = _
  cases bs s with
  | nil => rfl
  | cons c r =>
    have hc : ((47 : UInt8) == c) = (c == 47) := by
      by_cases h : c = 47
      · subst h; rfl
      · rw [beq_eq_false_iff_ne.2 h, beq_eq_false_iff_ne.2 (Ne.symm h)]
    simp [Lib.hasPrefix, List.isPrefixOf, hc]
theorem named_no {l : List UInt8} (h : named l = true) : (47 : UInt8) ∉ l ∧ 1 ≤ l.length ∧ l.length ≤ 40 := by
  unfold named at h
  simp only [Bool.and_eq_true, decide_eq_true_iff] at h
  refine ⟨fun hm => ?_, h.1.2, h.2⟩
  have := List.all_eq_true.1 h.1.1 _ hm
  revert this
  decide
theorem goodL_root (n : List UInt8) (hn : (47 : UInt8) ∉ n) (hl : (47 :: n).length ≤ 200) : goodL (47 :: n) = (decide (n = []) || named n) := by
  show (decide (47 :: n = [47]) || (decide ((47 :: n).length ≤ 200) && ((47 : UInt8) == 47 && (stepsL n).all named))) = (decide (n = []) || named n)
  rw [stepsL_none n hn, decide_eq_true hl]
  simp
theorem goodL_deep (c : UInt8) (r n : List UInt8) (hd : c :: r ≠ [47]) (hn : (47 : UInt8) ∉ n) (hl : (c :: r ++ 47 :: n).length ≤ 200) : goodL (c :: r ++ 47 :: n) = (goodL (c :: r) && named n) := by
  show (decide (c :: (r ++ 47 :: n) = [47]) || (decide ((c :: (r ++ 47 :: n)).length ≤ 200) && (c == 47 && (stepsL (r ++ 47 :: n)).all named))) = ((decide (c :: r = [47]) || (decide ((c :: r).length ≤ 200) && (c == 47 && (stepsL r).all named))) && named n)
  have h1 : decide (c :: (r ++ 47 :: n) = [47]) = false := decide_eq_false (by simp)
  have h2 : decide (c :: r = [47]) = false := decide_eq_false hd
  have h3 : (c :: r).length ≤ 200 := by simp at hl ⊢; omega
  rw [h1, h2, stepsL_app, stepsL_none n hn, List.all_append, decide_eq_true (show (c :: (r ++ 47 :: n)).length ≤ 200 from hl), decide_eq_true h3]
  simp [Bool.and_assoc]
theorem lastP_spec {s : ByteArray} (hp : Lib.hasPrefix s.data.toList [47] = true) : (bs s)[lastP s]? = some 47 ∧ (47 : UInt8) ∉ (bs s).drop (lastP s + 1) := by
  obtain ⟨hL, hlt⟩ := lastP_is hp
  have get : ∀ j, j < s.size → (((s.data[j]!).toNat : Int) = 47 ↔ (bs s)[j]? = some 47) := by
    intro j hj
    have hj2 : j < (bs s).length := by rw [length_bs]; exact hj
    have h1 : s.data[j]! = (bs s)[j] := by
      rw [← Array.getElem!_toList]
      exact getElem!_pos s.data.toList j hj2
    rw [h1, List.getElem?_eq_getElem hj2]
    constructor
    · intro h
      have h2 : (bs s)[j].toNat = (47 : UInt8).toNat := by
        have : (47 : UInt8).toNat = 47 := rfl
        omega
      rw [UInt8.toNat_inj.1 h2]
    · intro h
      injection h with h
      rw [h]; rfl
  rcases Lib.lastIndexByte_spec s 47 with ⟨e, _⟩ | ⟨i, hi, e, hc, hn⟩
  · omega
  · have hik : lastP s = i := by omega
    rw [hik]
    refine ⟨(get i hi).1 hc, fun hm => ?_⟩
    obtain ⟨k, hk⟩ := List.mem_iff_getElem?.1 hm
    rw [List.getElem?_drop] at hk
    have hk2 : i + 1 + k < s.size := by
      have := (List.getElem?_eq_some_iff.1 hk).1
      rw [length_bs] at this
      exact this
    exact hn (i + 1 + k) (by omega) hk2 ((get _ hk2).2 hk)
/-- a text whose last slash stands behind d -/
theorem lastP_of {s : ByteArray} {d n : List UInt8} (h : bs s = d ++ 47 :: n) (hn : (47 : UInt8) ∉ n) (hp : Lib.hasPrefix s.data.toList [47] = true) : lastP s = d.length := by
  obtain ⟨h1, h2⟩ := lastP_spec hp
  rw [h] at h1 h2
  rcases Nat.lt_trichotomy (lastP s) d.length with hlt | heq | hgt
  · exfalso
    apply h2
    rw [List.drop_append]
    have : d.length - (lastP s + 1) + (lastP s + 1) = d.length := by omega
    rw [show lastP s + 1 - d.length = 0 from by omega]
    simp
  · exact heq
  · exfalso
    rw [List.getElem?_append_right (by omega)] at h1
    obtain ⟨m, hm⟩ : ∃ m, lastP s - d.length = m + 1 := ⟨lastP s - d.length - 1, by omega⟩
    rw [hm, List.getElem?_cons_succ] at h1
    exact hn (List.mem_iff_getElem?.2 ⟨m, h1⟩)
theorem slash_bs : bs slash = [47] := rfl
theorem good_slash : goodP slash = true := by unfold goodP slash; rw [decide_eq_true rfl]; rfl
theorem pre_of_bs {s : ByteArray} {r : List UInt8} (h : bs s = 47 :: r) : Lib.hasPrefix s.data.toList [47] = true := by
  show Lib.hasPrefix (bs s) [47] = true
  rw [h]
  simp [Lib.hasPrefix, List.isPrefixOf]
theorem bs_pre {s : ByteArray} (h : Lib.hasPrefix s.data.toList [47] = true) : ∃ r, bs s = 47 :: r := by
  have h2 : Lib.hasPrefix (bs s) [47] = true := h
  cases hb : bs s with
  | nil => rw [hb] at h2; cases h2
  | cons c r =>
    rw [hb] at h2
    have : (47 : UInt8) = c := by simpa [Lib.hasPrefix, List.isPrefixOf] using h2
    exact ⟨r, by rw [← this]⟩
theorem size_bs (s : ByteArray) : s.size = (bs s).length := (length_bs s).symm
/-- what Split gives can be joined again -/
theorem split_join {s : ByteArray} (h : goodP s = true) (hs : s ≠ slash) : joinR (splitR s).1 (splitR s).2.1 = (s, 0) ∧ goodP (splitR s).1 = true ∧ named (bs (splitR s).2.1) = true ∧ (splitR s).2.2 = 0 := by
  obtain ⟨hp, _⟩ := goodP_pre h hs
  obtain ⟨h1, h2⟩ := lastP_spec hp
  have hcut := cut_at h1
  have hsz := goodP_size h
  have hlen : (bs s).length ≤ 200 := by rw [length_bs]; exact hsz.2
  have hbs : bs (s.extract (lastP s + 1) s.size) = (bs s).drop (lastP s + 1) := by
    rw [bs_extract, List.take_of_length_le (by rw [length_bs]; exact Nat.le_refl _)]
  have hg : goodL (bs s) = true := by rw [← goodP_L]; exact h
  unfold splitR
  rw [if_pos h, if_neg hs]
  by_cases hk : lastP s = 0
  · rw [if_pos hk]
    have hbs1 : bs (s.extract 1 s.size) = (bs s).drop 1 := by rw [hk] at hbs; exact hbs
    have hcut0 : bs s = [] ++ 47 :: bs (s.extract 1 s.size) := by
      rw [hbs1]
      rw [hk] at hcut
      simpa using hcut
    have hn : (47 : UInt8) ∉ bs (s.extract 1 s.size) := by rw [hbs1]; rw [hk] at h2; exact h2
    have hcut1 : bs s = 47 :: bs (s.extract 1 s.size) := hcut0
    have hj := goodL_root (bs (s.extract 1 s.size)) hn (by rw [← hcut1]; exact hlen)
    rw [← hcut1, hg] at hj
    have hne : bs (s.extract 1 s.size) ≠ [] := by
      intro h0
      rw [h0] at hcut0
      exact hs (bs_inj (by rw [hcut0]; rfl))
    have hnm : named (bs (s.extract 1 s.size)) = true := by
      simp only [decide_eq_false hne, Bool.false_or] at hj
      exact hj.symm
    refine ⟨?_, good_slash, hnm, rfl⟩
    have hjt : joinT slash (s.extract 1 s.size) = s := by
      unfold joinT
      rw [if_pos rfl]
      apply bs_inj
      rw [bs_append, slash_bs, hcut0]
      rfl
    unfold joinR
    rw [good_slash, hnm, hjt, Bool.and_self, if_pos rfl, if_neg (by omega)]
  · rw [if_neg hk]
    have hbd : bs (s.extract 0 (lastP s)) = (bs s).take (lastP s) := by rw [bs_extract]; rfl
    have hcut0 : bs s = bs (s.extract 0 (lastP s)) ++ 47 :: bs (s.extract (lastP s + 1) s.size) := by rw [hbd, hbs]; exact hcut
    have hn : (47 : UInt8) ∉ bs (s.extract (lastP s + 1) s.size) := by rw [hbs]; exact h2
    have hlt := (lastP_is hp).2
    have hdl : (bs (s.extract 0 (lastP s))).length = lastP s := by rw [hbd, List.length_take, length_bs]; omega
    generalize s.extract 0 (lastP s) = d at *
    generalize s.extract (lastP s + 1) s.size = n at *
    have hds : bs d ≠ [47] := by
      intro h0
      rw [h0] at hcut0
      have : goodL (47 :: 47 :: bs n) = true := by rw [hcut0] at hg; exact hg
      have h3 : (47 :: 47 :: bs n).length ≤ 200 := by rw [hcut0] at hlen; exact hlen
      have h4 := stepsL_cons 47 (bs n)
      unfold goodL at this
      simp only [h4, if_true, List.all_cons, decide_eq_false (show ¬ (47 :: 47 :: bs n = [47]) by simp)] at this
      have h5 : named [] = false := by decide
      rw [h5] at this
      simp at this
    cases hbd2 : bs d with
    | nil => rw [hbd2] at hdl; simp at hdl; omega
    | cons c r =>
      rw [hbd2] at hds
      have hcut1 : bs s = c :: r ++ 47 :: bs n := by rw [hcut0, hbd2]
      have hj := goodL_deep c r (bs n) hds hn (by rw [← hcut1]; exact hlen)
      rw [← hcut1, hg] at hj
      have hj2 : goodL (c :: r) = true ∧ named (bs n) = true := by
        have := hj.symm
        simpa [Bool.and_eq_true] using this
      have hgd : goodP d = true := by rw [goodP_L, hbd2]; exact hj2.1
      have hdne : d ≠ slash := fun e => hds (by rw [← hbd2, e]; rfl)
      refine ⟨?_, hgd, hj2.2, rfl⟩
      have hjt : joinT d n = s := by
        unfold joinT
        rw [if_neg hdne]
        apply bs_inj
        rw [bs_append, bs_append, slash_bs, hcut0]
        simp
      unfold joinR
      rw [hgd, hj2.2, hjt, Bool.and_self, if_pos rfl, if_neg (by omega)]
end Go.Proofs.YtkogdnkifnhljaaDoor
