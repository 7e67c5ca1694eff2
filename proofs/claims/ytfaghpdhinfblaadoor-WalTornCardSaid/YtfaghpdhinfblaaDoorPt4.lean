/- Lemmas for the statement: Path, PathB, PathC, PutB, Apps, Zxid, WGood, Sum, Encode, Enc2, Small, Cursor, Number, DecP, WLaw, WLaw2. -/
import Derived.Lib.LastIndexByte
import Derived.Lib.AppendStr
import Derived.Laws.BitsAllLaws
import Derived.Laws.BitsLemmas
import Derived.Deep.RegionHeld3
import Derived.Deep.Cut
import Derived.Lib.ConvBytes
import Derived.Test.YtfaghpdhinfblaaDoorPt1
import Derived.Test.YtfaghpdhinfblaaDoorPt2
import Derived.Test.YtfaghpdhinfblaaDoorPt3
/- path.Under, Split, Join, Depth. -/
namespace Go.Proofs.YtfaghpdhinfblaaDoor
open Go.RowKit Go.Shelf
def slash : ByteArray := ⟨#[47]⟩
def underB (s t : ByteArray) : Bool := goodP s && goodP t && decide (s ≠ t) && (decide (t = slash) || Lib.hasPrefix s.data.toList (t ++ slash).data.toList)
theorem goodP_size {s : ByteArray} (h : goodP s = true) : 1 ≤ s.size ∧ s.size ≤ 200 := by
  unfold goodP at h
  by_cases hs : s = ⟨#[47]⟩
  · subst hs; decide
  · rw [decide_eq_false hs, Bool.false_or] at h
    simp only [Bool.and_eq_true, decide_eq_true_iff] at h
    obtain ⟨⟨h1, hp⟩, _⟩ := h
    refine ⟨?_, h1⟩
    cases hd : s.data.toList with
    | nil => rw [hd] at hp; cases hp
    | cons x r =>
      have : s.data.toList.length = s.size := by simp
      rw [hd] at this
      simp at this
      omega
theorem ne_bytes {a b : ByteArray} (h : a ≠ b) : (a.toList == b.toList) = false := beq_eq_false_iff_ne.2 (fun e => h (bytes_eqB e))
theorem ne_slash {a : ByteArray} (h : a ≠ slash) : (a.toList == [47]) = false := beq_eq_false_iff_ne.2 (fun e => h (bytes_eqB (by rw [e]; unfold slash; rw [ByteArray.toList_eq])))
/-- where the last slash stands -/
def lastP (s : ByteArray) : Nat := (Lib.lastIndexByte s 47).toNat
theorem lastP_is {s : ByteArray} (hp : Lib.hasPrefix s.data.toList [47] = true) : Lib.lastIndexByte s 47 = (lastP s : Int) ∧ lastP s < s.size := by
  rcases Lib.lastIndexByte_spec s 47 with ⟨e, hn⟩ | ⟨i, hi, e, _⟩
  · exfalso
    cases hd : s.data.toList with
    | nil => rw [hd] at hp; cases hp
    | cons x r =>
      rw [hd] at hp
      have hx : (47 : UInt8) = x := by simpa [Lib.hasPrefix, List.isPrefixOf] using hp
      have hl : s.data.toList.length = s.size := by simp
      have h0 : 0 < s.size := by rw [hd] at hl; simp at hl; omega
      refine hn 0 h0 ?_
      have : s.data[0]! = x := by
        rw [← Array.getElem!_toList, hd]; rfl
      rw [this, ← hx]
      rfl
  · unfold lastP
    rw [e]
    exact ⟨by simp, by simpa using hi⟩
theorem goodP_pre {s : ByteArray} (h : goodP s = true) (hs : s ≠ slash) : Lib.hasPrefix s.data.toList [47] = true ∧ ((stepsB (s.extract 1 s.size)).all fun x => named (bs x)) = true := by
  unfold goodP at h
  rw [decide_eq_false (show ¬ s = ⟨#[47]⟩ from hs), Bool.false_or] at h
  simp only [Bool.and_eq_true] at h
  exact ⟨h.1.2, h.2⟩
def splitR (s : ByteArray) : ByteArray × ByteArray × Int := if goodP s then (if s = slash then (⟨#[]⟩, ⟨#[]⟩, 7) else if lastP s = 0 then (slash, s.extract 1 s.size, 0) else (s.extract 0 (lastP s), s.extract (lastP s + 1) s.size, 0)) else (⟨#[]⟩, ⟨#[]⟩, 2)
def joinT (d n : ByteArray) : ByteArray := if d = slash then slash ++ n else d ++ slash ++ n
def joinR (d n : ByteArray) : ByteArray × Int := if goodP d && named (bs n) then (if 200 < (joinT d n).size then (⟨#[]⟩, 1) else (joinT d n, 0)) else (⟨#[]⟩, 2)
def depthR (s : ByteArray) : Int × Int := if goodP s then (if s = slash then (0, 0) else ((Lib.countByte s.data.toList 47 : Nat), 0)) else (0, 2)
end Go.Proofs.YtfaghpdhinfblaaDoor

/- joins; plain laws of Under. -/
namespace Go.Proofs.YtfaghpdhinfblaaDoor
open Go.RowKit
theorem under_self (a : ByteArray) : underB a a = false := by unfold underB; simp
theorem good_nil : goodP ⟨#[]⟩ = false := by
  cases h : goodP ⟨#[]⟩ with
  | false => rfl
  | true => have := (goodP_size h).1; cases this
theorem under_parts {s t : ByteArray} (h : underB s t = true) : goodP s = true ∧ goodP t = true ∧ s ≠ t ∧ (t = slash ∨ ∃ r, s.data.toList = t.data.toList ++ 47 :: r) := by
  unfold underB at h
  simp only [Bool.and_eq_true, Bool.or_eq_true, decide_eq_true_iff] at h
  obtain ⟨⟨⟨h1, h2⟩, h3⟩, h4⟩ := h
  refine ⟨h1, h2, h3, h4.imp id fun h => ?_⟩
  have := List.isPrefixOf_iff_prefix.1 h
  obtain ⟨r, hr⟩ := this
  exact ⟨r, by rw [← hr, ByteArray.data_append]; simp [slash]⟩
theorem good_len {s : ByteArray} (h : goodP s = true) : 1 ≤ s.data.toList.length := by
  have := (goodP_size h).1
  have h2 : s.data.toList.length = s.size := by simp
  omega
theorem slash_under {t : ByteArray} (h : underB slash t = true) : False := by
  obtain ⟨h1, h2, h3, h4⟩ := under_parts h
  rcases h4 with h | ⟨r, h⟩
  · exact h3 h.symm
  · have := congrArg List.length h
    have h5 := good_len h2
    simp [slash] at this
    simp at h5
    omega
theorem under_both {a b : ByteArray} (h : underB a b = true) (k : underB b a = true) : False := by
  obtain ⟨_, _, _, h4⟩ := under_parts h
  obtain ⟨_, _, _, k4⟩ := under_parts k
  rcases h4 with rfl | ⟨r, h5⟩
  · exact slash_under k
  · rcases k4 with rfl | ⟨q, k5⟩
    · exact slash_under h
    · have := congrArg List.length h5
      have := congrArg List.length k5
      simp at *
      omega
theorem under_trans {a b c : ByteArray} (h : underB a b = true) (k : underB b c = true) : underB a c = true := by
  obtain ⟨h1, h2, h3, h4⟩ := under_parts h
  obtain ⟨k1, k2, k3, k4⟩ := under_parts k
  have hac : a ≠ c := by
    rintro rfl
    exact under_both h k
  have hor : (decide (c = slash) || Lib.hasPrefix a.data.toList (c ++ slash).data.toList) = true := by
    rcases k4 with rfl | ⟨q, k4⟩
    · simp
    · rcases h4 with rfl | ⟨r, h4⟩
      · exact absurd k (fun k => slash_under k)
      · rw [Bool.or_eq_true]
        refine .inr (List.isPrefixOf_iff_prefix.2 ⟨q ++ 47 :: r, ?_⟩)
        rw [h4, k4, ByteArray.data_append]
        simp [slash]
  unfold underB
  rw [h1, k2, decide_eq_true hac, hor]
  rfl
end Go.Proofs.YtfaghpdhinfblaaDoor

/- Paths as lists of bytes: plain laws of steps, joined and taken apart. -/
namespace Go.Proofs.YtfaghpdhinfblaaDoor
open Go.RowKit
def stepsL : List UInt8 → List (List UInt8)
  | [] => [[]]
  | c :: r => if c = 47 then [] :: stepsL r else (c :: (stepsL r).headD []) :: (stepsL r).tail
theorem stepsL_cons (c : UInt8) (r : List UInt8) : stepsL (c :: r) = if c = 47 then [] :: stepsL r else (c :: (stepsL r).headD []) :: (stepsL r).tail := rfl
theorem stepsL_ne : ∀ l, ∃ h t, stepsL l = h :: t
  | [] => ⟨[], [], rfl⟩
  | c :: r => by
    unfold stepsL
    split
    · exact ⟨_, _, rfl⟩
    · exact ⟨_, _, rfl⟩
theorem stepsL_app : ∀ (x y : List UInt8), stepsL (x ++ 47 :: y) = stepsL x ++ stepsL y
  | [], y => by simp [stepsL]
  | c :: r, y => by
    have ih := stepsL_app r y
    obtain ⟨h, t, e⟩ := stepsL_ne r
    rw [List.cons_append, stepsL_cons, stepsL_cons, ih, e]
    split <;> simp
theorem stepsL_none : ∀ (l : List UInt8), (47 : UInt8) ∉ l → stepsL l = [l]
  | [], _ => rfl
  | c :: r, h => by
    have ih := stepsL_none r (fun k => h (List.mem_cons_of_mem _ k))
    have hc : c ≠ 47 := fun e => h (by rw [e]; exact List.mem_cons_self)
    unfold stepsL
    rw [if_neg hc, ih]
    rfl
theorem bs_extract (s : ByteArray) (a b : Nat) : bs (s.extract a b) = ((bs s).take b).drop a := by
  unfold bs
  rw [ByteArray.data_extract, Array.toList_extract, List.extract_eq_take_drop, List.drop_take]
theorem bs_append (a b : ByteArray) : bs (a ++ b) = bs a ++ bs b := by unfold bs; rw [ByteArray.data_append]; simp
theorem bs_inj {a b : ByteArray} (h : bs a = bs b) : a = b := ByteArray.ext (Array.toList_inj.mp h)
theorem cut_at {l : List UInt8} {o : Nat} (h : l[o]? = some 47) : l = l.take o ++ 47 :: l.drop (o + 1) := by
  obtain ⟨h1, h2⟩ := List.getElem?_eq_some_iff.1 h
  rw [← h2, List.getElem_cons_drop, List.take_append_drop]
theorem stepsB_L (s : ByteArray) : (stepsB s).map bs = stepsL (bs s) := by
  generalize hn : s.size = n
  induction n using Nat.strongRecOn generalizing s with
  | ind n ih =>
    rcases Int.lt_or_le (Lib.indexByte s.data.toList 47) 0 with hi | hi
    · have hge := Lib.indexByte_ge s.data.toList 47
      have hno := Lib.indexByte_none (show Lib.indexByte s.data.toList 47 = -1 by omega)
      rw [stepsB_no hi, stepsL_none]
      · rfl
      · intro hm
        obtain ⟨k, hk⟩ := List.mem_iff_getElem?.1 hm
        exact hno k hk
    · obtain ⟨o, ho⟩ := Int.eq_ofNat_of_zero_le hi
      have hlt := index_lt ho
      have hso := Lib.indexByte_some ho
      have hsz : (s.extract (o + 1) s.size).size = s.size - (o + 1) := by rw [ByteArray.size_extract]; omega
      have h2 := ih (s.size - (o + 1)) (by omega) _ hsz
      have hl : (bs s).length = s.size := length_bs s
      have hno : (47 : UInt8) ∉ (bs s).take o := by
        intro hm
        obtain ⟨k, hk⟩ := List.mem_iff_getElem?.1 hm
        rw [List.getElem?_take] at hk
        split at hk
        · rename_i hko; exact hso.2 k hko hk
        · cases hk
      have hR : stepsL (bs s) = (bs s).take o :: stepsL ((bs s).drop (o + 1)) := by
        conv => lhs; rw [cut_at (show (bs s)[o]? = some 47 from hso.1)]
        rw [stepsL_app, stepsL_none _ hno]
        rfl
      rw [stepsB_yes ho, List.map_cons, h2, bs_extract, bs_extract, List.take_of_length_le (show (bs s).length ≤ s.size by omega), hR]
      rfl
def goodL (l : List UInt8) : Bool := decide (l = [47]) || (decide (l.length ≤ 200) && match l with
  | c :: r => c == 47 && (stepsL r).all named
  | [] => false)
theorem goodP_L (s : ByteArray) : goodP s = goodL (bs s) := by
  unfold goodP goodL
  have h1 : decide (s = ⟨#[47]⟩) = decide (bs s = [47]) := by
    by_cases h : s = ⟨#[47]⟩
    · subst h; rfl
    · rw [decide_eq_false h, decide_eq_false (fun k => h (bs_inj (by rw [k]; rfl)))]
  have h2 : decide (s.size ≤ 200) = decide ((bs s).length ≤ 200) := by rw [length_bs]
  rw [h1, h2, Bool.and_assoc]
  congr 2
  have h3 : ((stepsB (s.extract 1 s.size)).all fun x => named (bs x)) = (stepsL ((bs s).drop 1)).all named := by
    have := stepsB_L (s.extract 1 s.size)
    rw [bs_extract, List.take_of_length_le (by rw [length_bs]; exact Nat.le_refl _)] at this
    rw [← this, List.all_map]
    rfl
  rw [h3]
  show (Lib.hasPrefix (bs s) [47] && _) = _
  cases bs s with
  | nil => rfl
  | cons c r =>
    have hc : ((47 : UInt8) == c) = (c == 47) := by
      by_cases h : c = 47
      · subst h; rfl
      · rw [beq_eq_false_iff_ne.2 h, beq_eq_false_iff_ne.2 (Ne.symm h)]
    simp [Lib.hasPrefix, List.isPrefixOf, hc]
theorem named_no {l : List UInt8} (h : named l = true) : (47 : UInt8) ∉ l ∧ 1 ≤ l.length ∧ l.length ≤ 40 := by
  unfold named at h
  simp only [Bool.and_eq_true, decide_eq_true_iff] at h
  refine ⟨fun hm => ?_, h.1.2, h.2⟩
  have := List.all_eq_true.1 h.1.1 _ hm
  revert this
  decide
theorem goodL_root (n : List UInt8) (hn : (47 : UInt8) ∉ n) (hl : (47 :: n).length ≤ 200) : goodL (47 :: n) = (decide (n = []) || named n) := by
  show (decide (47 :: n = [47]) || (decide ((47 :: n).length ≤ 200) && ((47 : UInt8) == 47 && (stepsL n).all named))) = (decide (n = []) || named n)
  rw [stepsL_none n hn, decide_eq_true hl]
  simp
theorem goodL_deep (c : UInt8) (r n : List UInt8) (hd : c :: r ≠ [47]) (hn : (47 : UInt8) ∉ n) (hl : (c :: r ++ 47 :: n).length ≤ 200) : goodL (c :: r ++ 47 :: n) = (goodL (c :: r) && named n) := by
  show (decide (c :: (r ++ 47 :: n) = [47]) || (decide ((c :: (r ++ 47 :: n)).length ≤ 200) && (c == 47 && (stepsL (r ++ 47 :: n)).all named))) = ((decide (c :: r = [47]) || (decide ((c :: r).length ≤ 200) && (c == 47 && (stepsL r).all named))) && named n)
  have h1 : decide (c :: (r ++ 47 :: n) = [47]) = false := decide_eq_false (by simp)
  have h2 : decide (c :: r = [47]) = false := decide_eq_false hd
  have h3 : (c :: r).length ≤ 200 := by simp at hl ⊢; omega
  rw [h1, h2, stepsL_app, stepsL_none n hn, List.all_append, decide_eq_true (show (c :: (r ++ 47 :: n)).length ≤ 200 from hl), decide_eq_true h3]
  simp [Bool.and_assoc]
theorem lastP_spec {s : ByteArray} (hp : Lib.hasPrefix s.data.toList [47] = true) : (bs s)[lastP s]? = some 47 ∧ (47 : UInt8) ∉ (bs s).drop (lastP s + 1) := by
  obtain ⟨hL, hlt⟩ := lastP_is hp
  have get : ∀ j, j < s.size → (((s.data[j]!).toNat : Int) = 47 ↔ (bs s)[j]? = some 47) := by
    intro j hj
    have hj2 : j < (bs s).length := by rw [length_bs]; exact hj
    have h1 : s.data[j]! = (bs s)[j] := by
      rw [← Array.getElem!_toList]
      exact getElem!_pos s.data.toList j hj2
    rw [h1, List.getElem?_eq_getElem hj2]
    constructor
    · intro h
      have h2 : (bs s)[j].toNat = (47 : UInt8).toNat := by
        have : (47 : UInt8).toNat = 47 := rfl
        omega
      rw [UInt8.toNat_inj.1 h2]
    · intro h
      injection h with h
      rw [h]; rfl
  rcases Lib.lastIndexByte_spec s 47 with ⟨e, _⟩ | ⟨i, hi, e, hc, hn⟩
  · omega
  · have hik : lastP s = i := by omega
    rw [hik]
    refine ⟨(get i hi).1 hc, fun hm => ?_⟩
    obtain ⟨k, hk⟩ := List.mem_iff_getElem?.1 hm
    rw [List.getElem?_drop] at hk
    have hk2 : i + 1 + k < s.size := by
      have := (List.getElem?_eq_some_iff.1 hk).1
      rw [length_bs] at this
      exact this
    exact hn (i + 1 + k) (by omega) hk2 ((get _ hk2).2 hk)
/-- a text whose last slash stands behind d -/
theorem lastP_of {s : ByteArray} {d n : List UInt8} (h : bs s = d ++ 47 :: n) (hn : (47 : UInt8) ∉ n) (hp : Lib.hasPrefix s.data.toList [47] = true) : lastP s = d.length := by
  obtain ⟨h1, h2⟩ := lastP_spec hp
  rw [h] at h1 h2
  rcases Nat.lt_trichotomy (lastP s) d.length with hlt | heq | hgt
  · exfalso
    apply h2
    rw [List.drop_append]
    have : d.length - (lastP s + 1) + (lastP s + 1) = d.length := by omega
    rw [show lastP s + 1 - d.length = 0 from by omega]
    simp
  · exact heq
  · exfalso
    rw [List.getElem?_append_right (by omega)] at h1
    obtain ⟨m, hm⟩ : ∃ m, lastP s - d.length = m + 1 := ⟨lastP s - d.length - 1, by omega⟩
    rw [hm, List.getElem?_cons_succ] at h1
    exact hn (List.mem_iff_getElem?.2 ⟨m, h1⟩)
theorem slash_bs : bs slash = [47] := rfl
theorem good_slash : goodP slash = true := by unfold goodP slash; rw [decide_eq_true rfl]; rfl
theorem pre_of_bs {s : ByteArray} {r : List UInt8} (h : bs s = 47 :: r) : Lib.hasPrefix s.data.toList [47] = true := by
  show Lib.hasPrefix (bs s) [47] = true
  rw [h]
  simp [Lib.hasPrefix, List.isPrefixOf]
theorem bs_pre {s : ByteArray} (h : Lib.hasPrefix s.data.toList [47] = true) : ∃ r, bs s = 47 :: r := by
  have h2 : Lib.hasPrefix (bs s) [47] = true := h
  cases hb : bs s with
  | nil => rw [hb] at h2; cases h2
  | cons c r =>
    rw [hb] at h2
    have : (47 : UInt8) = c := by simpa [Lib.hasPrefix, List.isPrefixOf] using h2
    exact ⟨r, by rw [← this]⟩
theorem size_bs (s : ByteArray) : s.size = (bs s).length := (length_bs s).symm
/-- what Split gives can be joined again -/
theorem split_join {s : ByteArray} (h : goodP s = true) (hs : s ≠ slash) : joinR (splitR s).1 (splitR s).2.1 = (s, 0) ∧ goodP (splitR s).1 = true ∧ named (bs (splitR s).2.1) = true ∧ (splitR s).2.2 = 0 := by
  obtain ⟨hp, _⟩ := goodP_pre h hs
  obtain ⟨h1, h2⟩ := lastP_spec hp
  have hcut := cut_at h1
  have hsz := goodP_size h
  have hlen : (bs s).length ≤ 200 := by rw [length_bs]; exact hsz.2
  have hbs : bs (s.extract (lastP s + 1) s.size) = (bs s).drop (lastP s + 1) := by
    rw [bs_extract, List.take_of_length_le (by rw [length_bs]; exact Nat.le_refl _)]
  have hg : goodL (bs s) = true := by rw [← goodP_L]; exact h
  unfold splitR
  rw [if_pos h, if_neg hs]
  by_cases hk : lastP s = 0
  · rw [if_pos hk]
    have hbs1 : bs (s.extract 1 s.size) = (bs s).drop 1 := by rw [hk] at hbs; exact hbs
    have hcut0 : bs s = [] ++ 47 :: bs (s.extract 1 s.size) := by
      rw [hbs1]
      rw [hk] at hcut
      simpa using hcut
    have hn : (47 : UInt8) ∉ bs (s.extract 1 s.size) := by rw [hbs1]; rw [hk] at h2; exact h2
    have hcut1 : bs s = 47 :: bs (s.extract 1 s.size) := hcut0
    have hj := goodL_root (bs (s.extract 1 s.size)) hn (by rw [← hcut1]; exact hlen)
    rw [← hcut1, hg] at hj
    have hne : bs (s.extract 1 s.size) ≠ [] := by
      intro h0
      rw [h0] at hcut0
      exact hs (bs_inj (by rw [hcut0]; rfl))
    have hnm : named (bs (s.extract 1 s.size)) = true := by
      simp only [decide_eq_false hne, Bool.false_or] at hj
      exact hj.symm
    refine ⟨?_, good_slash, hnm, rfl⟩
    have hjt : joinT slash (s.extract 1 s.size) = s := by
      unfold joinT
      rw [if_pos rfl]
      apply bs_inj
      rw [bs_append, slash_bs, hcut0]
      rfl
    unfold joinR
    rw [good_slash, hnm, hjt, Bool.and_self, if_pos rfl, if_neg (by omega)]
  · rw [if_neg hk]
    have hbd : bs (s.extract 0 (lastP s)) = (bs s).take (lastP s) := by rw [bs_extract]; rfl
    have hcut0 : bs s = bs (s.extract 0 (lastP s)) ++ 47 :: bs (s.extract (lastP s + 1) s.size) := by rw [hbd, hbs]; exact hcut
    have hn : (47 : UInt8) ∉ bs (s.extract (lastP s + 1) s.size) := by rw [hbs]; exact h2
    have hlt := (lastP_is hp).2
    have hdl : (bs (s.extract 0 (lastP s))).length = lastP s := by rw [hbd, List.length_take, length_bs]; omega
    generalize s.extract 0 (lastP s) = d at *
    generalize s.extract (lastP s + 1) s.size = n at *
    have hds : bs d ≠ [47] := by
      intro h0
      rw [h0] at hcut0
      have : goodL (47 :: 47 :: bs n) = true := by rw [hcut0] at hg; exact hg
      have h3 : (47 :: 47 :: bs n).length ≤ 200 := by rw [hcut0] at hlen; exact hlen
      have h4 := stepsL_cons 47 (bs n)
      unfold goodL at this
      simp only [h4, if_true, List.all_cons, decide_eq_false (show ¬ (47 :: 47 :: bs n = [47]) by simp)] at this
      have h5 : named [] = false := by decide
      rw [h5] at this
      simp at this
    cases hbd2 : bs d with
    | nil => rw [hbd2] at hdl; simp at hdl; omega
    | cons c r =>
      rw [hbd2] at hds
      have hcut1 : bs s = c :: r ++ 47 :: bs n := by rw [hcut0, hbd2]
      have hj := goodL_deep c r (bs n) hds hn (by rw [← hcut1]; exact hlen)
      rw [← hcut1, hg] at hj
      have hj2 : goodL (c :: r) = true ∧ named (bs n) = true := by
        have := hj.symm
        simpa [Bool.and_eq_true] using this
      have hgd : goodP d = true := by rw [goodP_L, hbd2]; exact hj2.1
      have hdne : d ≠ slash := fun e => hds (by rw [← hbd2, e]; rfl)
      refine ⟨?_, hgd, hj2.2, rfl⟩
      have hjt : joinT d n = s := by
        unfold joinT
        rw [if_neg hdne]
        apply bs_inj
        rw [bs_append, bs_append, slash_bs, hcut0]
        simp
      unfold joinR
      rw [hgd, hj2.2, hjt, Bool.and_self, if_pos rfl, if_neg (by omega)]
end Go.Proofs.YtfaghpdhinfblaaDoor

/- wire.put: bytes of a number, the highest first, behind a row of one's own. -/
namespace Go.Proofs.YtfaghpdhinfblaaDoor
open Go.RowKit Go.ChangeShapes Go.WideShapes Go.ChangeAt
theorem cByte_ones : ∀ x : UInt8, ∀ u ∈ cByte x, u.oneCell' = true := by
  intro x u hu
  simp [cByte] at hu
  subst hu
  rfl
def be : Nat → Nat → List UInt8
  | 0, _ => []
  | n + 1, x => UInt8.ofNat (x / 256 ^ n) :: be n x
theorem be_length : ∀ n x, (be n x).length = n
  | 0, _ => rfl
  | n + 1, x => by simp [be, be_length n x]
set_option maxHeartbeats 1000000 in
theorem put_any (W : World) (v : Value) (l : List UInt8) (x n : Nat) (w : World) (hb : Below W.heap.size W w) (h : Ow cByte 1 5 w W.heap.size v l) (_hx : x < 9223372036854775808) (hn : n ≤ 8) (hl : l.length ≤ 100000) :
    Calls Tryd.prog 28 #[v, .int .i64 x, .int .i64 n] w fun e w' => ∃ A c, e = .returned (.slice A (l ++ be n x).length c) ∧ Ow cByte 1 5 w' W.heap.size (.slice A (l ++ be n x).length c) (l ++ be n x) ∧ Below W.heap.size W w' := by
  obtain ⟨A, c, rfl, _⟩ := h.form
  obtain ⟨ext0, d0, rfl⟩ := Below.grown_eq _ hb
  have HO := Lib.hid h
  have HL := Lib.hid (be_length n x)
  clear h hb
  go_enter Tryd.func28, Tryd.ntmps28
  go_wp2_with fail
  go_loopw [0, 7] (fun bv k wr => ∃ (m : Nat) (pre : List UInt8) (A : Option Addr) (c : Nat) (ext : Array Obj) (d : Nat), m ≤ n ∧ k = .int .i64 ((m : Int) - 1) ∧ bv = .slice A pre.length c ∧ wr = grow W ext d ∧ Hid (pre ++ be m x = l ++ be n x) ∧ Hid (Ow cByte 1 5 wr W.heap.size (.slice A pre.length c) pre)) (fun _ k _ => (intOf k + 1).toNat)
  case atStart => exact ⟨n, l, A, c, _, _, Nat.le_refl _, rfl, rfl, rfl, Lib.hid rfl, HO⟩
  case round =>
    obtain ⟨m, pre, A, c, ext, d, hm, rfl, rfl, rfl, hpre, ho⟩ := hrel
    have hpl : pre.length + m = l.length + n := by
      have := congrArg List.length hpre.out
      simpa [be_length] using this
    cases m with
    | zero =>
      have hpre2 := hpre.out
      simp only [be, List.append_nil] at hpre2
      subst hpre2
      go_wp2_with fail
      refine bodyPost_ret (v := .slice A (l ++ be n x).length c) (by simp [results, Tryd.results28, go_sem]) rfl ⟨A, c, rfl, ho.out, (by repeat (first | exact Below.refl _ _ | assumption | refine Below.drew ?_ | refine Below.drewN' ?_ _ | refine below_grow0 _ _ ?_ | refine below_alloc0 _ ?_ | refine Below.alloc ?_ (by first | omega | (simp; done) | (simp; omega)) _ | refine Below.setCell ?_ (by first | omega | (simp; done) | (simp; omega)) _ | refine Below.grow _ _ _ ?_ (by first | omega | (simp; done) | (simp; omega))))⟩
    | succ m =>
      have hbe : pre ++ be (m + 1) x = (pre ++ [UInt8.ofNat (x / 256 ^ m)]) ++ be m x := by simp [be]
      have hpre2 := Lib.hid (hbe.symm.trans hpre.out)
      have hbv : (x : Int) / 2 ^ (8 * m) % 256 = ((UInt8.ofNat (x / 256 ^ m)).toNat : Int) := by
        have h1 : (2 : Int) ^ (8 * m) = ((256 ^ m : Nat) : Int) := by rw [Int.pow_mul]; simp
        rw [h1, UInt8.toNat_ofNat']
        simp
      generalize UInt8.ofNat (x / 256 ^ m) = cc at *
      clear hbe hpre
      go_wp2_with (at_builtin; refine wpList_app _ rfl (.tmp 14) (.tmp 21) _ rfl elByte (m := [cc]) (v := .slice A pre.length c) rfl rfl (by exact ho.out.alloc _) (by exact Sl.one_at cByte 1 _ _ _ rfl _ rfl (by omega) (by simp)) cByte_ones (by simp [maxLen] <;> omega) (by simp <;> omega) (by simp <;> omega) ?_; intro v5 w5 hown5 hg5 _)
      obtain ⟨A5, k5, rfl, _⟩ := hown5.form
      obtain ⟨ext5, d5, rfl⟩ := grown_after (W := W) (by repeat (first | exact Below.refl _ _ | assumption | refine Below.drew ?_ | refine Below.drewN' ?_ _ | refine below_grow0 _ _ ?_ | refine below_alloc0 _ ?_ | refine Below.alloc ?_ (by first | omega | (simp; done) | (simp; omega)) _ | refine Below.setCell ?_ (by first | omega | (simp; done) | (simp; omega)) _ | refine Below.grow _ _ _ ?_ (by first | omega | (simp; done) | (simp; omega)))) hg5 (fun k hk => (ho.out.own_in hk).1)
      have HO5 := Lib.hid hown5
      clear ho hown5 hg5
      go_wp2_with fail
      go_roundw
      case rel => exact ⟨m, pre ++ [cc], A5, k5, _, _, by omega, by go_num, rfl, rfl, hpre2, HO5⟩
      case measure => simp [intOf] <;> omega
end Go.Proofs.YtfaghpdhinfblaaDoor

/- append of a string's bytes onto a row of one's own. -/
namespace Go.Proofs.YtfaghpdhinfblaaDoor
open Go.RowKit Go.ChangeShapes Go.WideShapes Go.ChangeAt
theorem below_regrow (W : World) (ext : Array Obj) (d d' : Nat) : Below (grow W ext d).heap.size (grow W ext d) (grow W ext d') := ⟨rfl, rfl, rfl, Nat.le_refl _, fun _ _ => rfl⟩
theorem ow_lit1 (W : World) (B : Nat) (e : TypeId) {n : Nat} (hn : n = W.heap.size) (hB : B ≤ W.heap.size) : Ow cByte 1 e (W.alloc (.cells #[.int .u8 84] e)) B (.slice (some ⟨n, 0, none⟩) 1 1) [84] := by
  subst hn
  exact ⟨World.ownsRow_lit W #[.int .u8 84] 1 hB (by simp [maxLen]) (by simp), fun x _ => rfl⟩
theorem flat_bytes (l : List UInt8) : l.flatMap cByte = l.map fun b => Value.int .u8 b.toNat := by
  induction l with
  | nil => rfl
  | cons a r ih => rw [List.flatMap_cons, ih]; rfl
section
variable {P : Program} (w : World)
theorem run_apps {t e ts : TypeId} {z : Value} (ty : TypeId) (E : El P t e z 1 1) (hz0 : z = .int .u8 0) (hu : P.underlying ts = some .string) {B : Nat} {v : Value} {l : List UInt8} (s : ByteArray)
    (hown : Ow cByte 1 e w B v l) (h63 : l.length + s.size ≤ maxLen) (hbytes : l.length + s.size ≤ 140737488355328) (hbase : B ≤ w.heap.size) :
    ∃ v' w', (Builtin.append_ #[t, ts] ty #[v, .string s]).run P w = .ok v' w' ∧ Ow cByte 1 e w' B v' (l ++ bs s) ∧ w.grownBy w' v.ownBlock := by
  obtain ⟨i, hi, hz, hs, hb⟩ := info_of E.info
  subst hz0
  obtain ⟨v', w', hr, h2, h3, _⟩ := Go.Lib.run_append_own_string (P := P) w B t ts ty e i E.slice hu hi hz hs hb v l.length (l.flatMap cByte) hown.1 s h63 hbytes hbase
  refine ⟨v', w', hr, ⟨?_, fun x _ => rfl⟩, h3⟩
  have e1 : (l ++ bs s).flatMap cByte = l.flatMap cByte ++ Go.Lib.strCells s := by rw [List.flatMap_append, flat_bytes (bs s)]; rfl
  have e2 : (l ++ bs s).length = l.length + s.size := by rw [List.length_append, length_bs]
  rw [e1, e2]
  exact h2
theorem wp_apps {o : Oper} {a : Act} {K : Act → World → Prop} {Q : Exit → Act → World → Prop} (sv x : Operand) (t ts : TypeId)
    (ho : o.op = .call { callee := .builtin .append, args := #[sv, x], argTypes := #[t, ts] })
    {e : TypeId} {z : Value} (E : El P t e z 1 1) (hz0 : z = .int .u8 0) (hu : P.underlying ts = some .string) {B : Nat} {v : Value} {l : List UInt8} (s : ByteArray)
    (hs : a.eval sv = v) (hx : a.eval x = .string s) (hown : Ow cByte 1 e w B v l)
    (h63 : l.length + s.size ≤ maxLen) (hbytes : l.length + s.size ≤ 140737488355328) (hbase : B ≤ w.heap.size)
    (h : ∀ v' w', Ow cByte 1 e w' B v' (l ++ bs s) → w.grownBy w' v.ownBlock → K (a.put o.dst v') w') : o.wp P a w K Q := by
  obtain ⟨v', w', hr, h2, h3⟩ := run_apps (P := P) w o.type E hz0 hu s hown h63 hbytes hbase
  unfold Oper.wp execOp
  simp only [ho, resolve, invoke, builtin, Sem.run_bind, Sem.run_pure, Result.andThen_ok, List.map_toArray, List.map_cons, List.map_nil, hs, hx, hr]
  exact h v' w' h2 h3
theorem step_apps {ops : Array Oper} {o : Oper} {a : Act} {K : Act → World → Prop} {Q : Exit → Act → World → Prop} {EE : Prop} (hgd : o.guard = none) (sv x : Operand) (t ts : TypeId)
    (ho : o.op = .call { callee := .builtin .append, args := #[sv, x], argTypes := #[t, ts] })
    {e : TypeId} {z : Value} (E : El P t e z 1 1) (hz0 : z = .int .u8 0) (hu : P.underlying ts = some .string) {B : Nat} {v : Value} {l : List UInt8} (s : ByteArray)
    (hs : a.eval sv = v) (hx : a.eval x = .string s) (hown : Ow cByte 1 e w B v l)
    (h63 : l.length + s.size ≤ maxLen) (hbytes : l.length + s.size ≤ 140737488355328) (hbase : B ≤ w.heap.size)
    (h : ∀ v' w', Ow cByte 1 e w' B v' (l ++ bs s) → w.grownBy w' v.ownBlock → K (a.put o.dst v') w') : if Region.wanted o (yielded ops a.tmps) = true then Oper.wp P o a w K Q else EE := by
  have hw : Region.wanted o (yielded ops a.tmps) = true := by simp [Region.wanted, hgd]
  rw [if_pos hw]
  exact wp_apps w sv x t ts ho E hz0 hu s hs hx hown h63 hbytes hbase h
theorem step_app {ops : Array Oper} {o : Oper} {a : Act} {K : Act → World → Prop} {Q : Exit → Act → World → Prop} {EE : Prop} (hgd : o.guard = none) (sv x : Operand) (t : TypeId)
    (ho : o.op = .call { callee := .builtin .append, args := #[sv, x], argTypes := #[t, t] })
    {α : Type} {f : α → List Value} {s : Nat} {e : TypeId} {z : Value} {bytes : Nat} (E : El P t e z s bytes) {B : Nat} {v xv : Value} {l m : List α}
    (hs : a.eval sv = v) (hx : a.eval x = xv) (hown : Ow f s e w B v l) (hsrc : Sl f s w xv m) (h1 : ∀ x, ∀ u ∈ f x, u.oneCell' = true)
    (h63 : l.length + m.length ≤ maxLen) (hbytes : (l.length + m.length) * bytes ≤ 140737488355328) (hbase : B ≤ w.heap.size)
    (h : ∀ v' w', Ow f s e w' B v' (l ++ m) → w.grownBy w' v.ownBlock → (v'.ownBlock = v.ownBlock ∨ v'.ownBlock = some w.heap.size) → K (a.put o.dst v') w') : if Region.wanted o (yielded ops a.tmps) = true then Oper.wp P o a w K Q else EE := by
  have hw : Region.wanted o (yielded ops a.tmps) = true := by simp [Region.wanted, hgd]
  rw [if_pos hw]
  exact wp_app w sv x t ho E hs hx hown hsrc h1 h63 hbytes hbase h
end
/-- the bytes of a row, as a text -/
theorem run_row_text {P : Program} {w : World} {src e dst B : Nat} {v : Value} {l : List UInt8} (h : Ow cByte 1 e w B v l) (hs : P.underlying src = some (.slice e)) (he : P.underlying e = some (.int .u8)) (hd : P.underlying dst = some .string) :
    (convert src dst v).run P w = .ok (.string ⟨l.toArray⟩) w := by
  obtain ⟨A, c, rfl, h1, h2⟩ := h.sl.form
  cases A with
  | none =>
    have hl : l = [] := by
      cases l with
      | nil => rfl
      | cons x l => obtain ⟨a, o, ha, _⟩ := h.sl.at_ (i := 0) rfl; cases ha
    subst hl
    rw [run_convert_bytes_string w src dst e none [].length c hs he hd]
    rfl
  | some a =>
    refine run_convert_bytes_back w src dst e a c l hs he hd (fun j hj => ?_)
    obtain ⟨b, off, ha, _, hc⟩ := h.sl.at_ (i := j) (x := l[j]) (List.getElem?_eq_getElem hj)
    injection ha with ha
    subst ha
    have hadd : (⟨b, off, none⟩ : Addr).add j = ⟨b, off + j * 1, none⟩ := by
      unfold Addr.add
      split
      · rename_i h0'; rw [Nat.mul_one, h0']; rfl
      · rw [Nat.mul_one]
    rw [hadd]
    exact hc 0 _ rfl
end Go.Proofs.YtfaghpdhinfblaaDoor

/- Contracts of package zxid (numbers alone), and of the laws' 'numbers'. -/
namespace Go.Proofs.YtfaghpdhinfblaaDoor
open Go.RowKit

theorem ret_int {k : IntKind} {a b : Int} (h : a = b) : Ending.returned (.int k a) = Ending.returned (.int k b) := by rw [h]
theorem ret_bool {a b : Bool} (h : a = b) : Ending.returned (.bool a) = Ending.returned (.bool b) := by rw [h]
theorem ret_ii {k k' : IntKind} {a b c d : Int} (h : a = b) (h' : c = d) : Ending.returned (.tuple #[.int k a, .int k' c]) = Ending.returned (.tuple #[.int k b, .int k' d]) := by rw [h, h']

theorem bv_nat (a : Nat) (ha : a < 9223372036854775808) : (BitVec.ofInt 64 (a : Int)).toNat = a := by
  rw [BitVec.ofInt_natCast, BitVec.toNat_ofNat]
  exact Nat.mod_eq_of_lt (by omega)
theorem bits_mask (a : Int) (h0 : 0 ≤ a) (h1 : a < 4611686018427387904) : bits .and .i64 a 2147483647 = a % 2147483648 := by
  obtain ⟨n, rfl⟩ := Int.eq_ofNat_of_zero_le h0
  have hx : n &&& 2147483647 = n % 2147483648 := Nat.and_two_pow_sub_one_eq_mod n 31
  show IntKind.i64.wrap ((BitVec.ofInt 64 (n : Int) &&& BitVec.ofInt 64 ((2147483647 : Nat) : Int)).toNat : Int) = _
  rw [BitVec.toNat_and, bv_nat n (by omega), bv_nat 2147483647 (by omega), hx, IntKind.wrap_i64]
  omega
theorem bits_join (a b : Int) (h0 : 0 ≤ a) (h1 : a ≤ 2147483647) (h2 : 0 ≤ b) (h3 : b ≤ 2147483647) : bits .or .i64 (a * 2147483648) b = a * 2147483648 + b := by
  obtain ⟨n, rfl⟩ := Int.eq_ofNat_of_zero_le h0
  obtain ⟨m, rfl⟩ := Int.eq_ofNat_of_zero_le h2
  have hx : n * 2147483648 ||| m = n * 2147483648 + m := by
    have := Nat.shiftLeft_add_eq_or_of_lt (b := m) (i := 31) (by omega) n
    rw [Nat.shiftLeft_eq] at this
    exact this.symm
  show IntKind.i64.wrap ((BitVec.ofInt 64 (((n * 2147483648 : Nat) : Int)) ||| BitVec.ofInt 64 (m : Int)).toNat : Int) = _
  rw [BitVec.toNat_or, bv_nat _ (by omega), bv_nat m (by omega), hx, IntKind.wrap_i64]
  omega

/-- a zxid -/
def Zx (a : Int) : Prop := 0 ≤ a ∧ a < 4611686018427387904
/-- an epoch, a count -/
def Half (a : Int) : Prop := 0 ≤ a ∧ a ≤ 2147483647

theorem zgood_yes (a : Int) (w : World) (h : Zx a) :
    Calls Tryd.prog 32 #[.int .i64 a] w fun e w' => e = .returned (.bool true) ∧ w = w' := by
  obtain ⟨ha, ha'⟩ := h
  go_enter Tryd.func32, Tryd.ntmps32
  go_wp2
  go_ret
  exact ⟨rfl, rfl⟩
theorem zgood_no (a : Int) (w : World) (h : ¬ Zx a) :
    Calls Tryd.prog 32 #[.int .i64 a] w fun e w' => e = .returned (.bool false) ∧ w = w' := by
  have ha : a < 0 ∨ (0 ≤ a ∧ ¬ a < 4611686018427387904) := by unfold Zx at h; omega
  clear h
  rcases ha with ha | ⟨h0, ha⟩
  · go_enter Tryd.func32, Tryd.ntmps32
    go_wp2
    go_ret
    exact ⟨rfl, rfl⟩
  · go_enter Tryd.func32, Tryd.ntmps32
    go_wp2
    go_ret
    exact ⟨ret_bool (by simp), rfl⟩
end Go.Proofs.YtfaghpdhinfblaaDoor

/- wire.Good: what is wrong with a transaction. -/
namespace Go.Proofs.YtfaghpdhinfblaaDoor
open Go.RowKit Go.ChangeShapes Go.WideShapes Go.ChangeAt
def goodT (t : Txn) : Int :=
  if t.op < 1 ∨ 5 < t.op then 4
  else if ¬ (0 ≤ t.zxid ∧ t.zxid < 4611686018427387904) ∨ t.session < 1 ∨ 2147483647 < t.session ∨ t.version < 0 ∨ 2147483647 < t.version ∨ t.owner < 0 ∨ 2147483647 < t.owner then 3
  else if 256 < (t.data.size : Int) then 1
  else if t.op ≤ 2 ∧ (t.path.toList ≠ [] ∨ t.data.toList ≠ [] ∨ t.version ≠ 0 ∨ t.owner ≠ 0) then 2
  else if 3 ≤ t.op ∧ (goodP t.path = false ∨ (t.path.toList = [47] ∧ t.op ≠ 5)) then 2
  else if (t.op = 4 ∧ (t.data.toList ≠ [] ∨ t.version ≠ 0 ∨ t.owner ≠ 0)) ∨ (t.op = 3 ∧ t.version ≠ 0) ∨ (t.op = 5 ∧ t.owner ≠ 0) then 2
  else 0
set_option maxHeartbeats 1000000 in
theorem tgood_1 (z o s v ow : Int) (p d : ByteArray) (w : World) (h : o < 1 ∨ 5 < o) :
    Calls Tryd.prog 20 #[.agg #[.int .i64 z, .int .i64 o, .int .i64 s, .string p, .string d, .int .i64 v, .int .i64 ow]] w fun e w' => e = .returned (.int .i64 4) ∧ Below w.heap.size w w' := by
  rcases h with h | h
  · have h1 : decide (o < 1) = true := decide_eq_true h
    clear h
    go_enter Tryd.func20, Tryd.ntmps20
    go_wp2_with fail
    go_ret
    exact ⟨rfl, (by repeat (first | exact Below.refl _ _ | assumption | refine Below.drew ?_ | refine Below.drewN' ?_ _ | refine below_grow0 _ _ ?_ | refine below_alloc0 _ ?_ | refine Below.alloc ?_ (by first | omega | (simp; done) | (simp; omega)) _ | refine Below.setCell ?_ (by first | omega | (simp; done) | (simp; omega)) _ | refine Below.grow _ _ _ ?_ (by first | omega | (simp; done) | (simp; omega))))⟩
  · have h1 : decide (o < 1) = false := decide_eq_false (by omega)
    have h2 : decide (5 < o) = true := decide_eq_true h
    clear h
    go_enter Tryd.func20, Tryd.ntmps20
    go_wp2_with fail
    go_ret
    exact ⟨rfl, (by repeat (first | exact Below.refl _ _ | assumption | refine Below.drew ?_ | refine Below.drewN' ?_ _ | refine below_grow0 _ _ ?_ | refine below_alloc0 _ ?_ | refine Below.alloc ?_ (by first | omega | (simp; done) | (simp; omega)) _ | refine Below.setCell ?_ (by first | omega | (simp; done) | (simp; omega)) _ | refine Below.grow _ _ _ ?_ (by first | omega | (simp; done) | (simp; omega))))⟩
set_option maxHeartbeats 2000000 in
theorem tgood_2 (z o s v ow : Int) (p d : ByteArray) (w : World) (h1 : decide (o < 1) = false) (h2 : decide (5 < o) = false) (h : ¬ Zx z ∨ s < 1 ∨ 2147483647 < s ∨ v < 0 ∨ 2147483647 < v ∨ ow < 0 ∨ 2147483647 < ow) :
    Calls Tryd.prog 20 #[.agg #[.int .i64 z, .int .i64 o, .int .i64 s, .string p, .string d, .int .i64 v, .int .i64 ow]] w fun e w' => e = .returned (.int .i64 3) ∧ Below w.heap.size w w' := by
  by_cases hz : Zx z
  · have h' : s < 1 ∨ 2147483647 < s ∨ v < 0 ∨ 2147483647 < v ∨ ow < 0 ∨ 2147483647 < ow := by
      rcases h with h | h
      · exact absurd hz h
      · exact h
    have hd : (decide (s < 1) || (decide (2147483647 < s) || (decide (v < 0) || (decide (2147483647 < v) || (decide (ow < 0) || decide (2147483647 < ow)))))) = true := by simpa using h'
    clear h h'
    cases e1 : decide (s < 1) <;> cases e2 : decide (2147483647 < s) <;> cases e3 : decide (v < 0) <;> cases e4 : decide (2147483647 < v) <;> cases e5 : decide (ow < 0) <;> cases e6 : decide (2147483647 < ow)
    all_goals first | (rw [e1, e2, e3, e4, e5, e6] at hd; exact absurd hd (by decide)) | (exfalso; simp at e1 e2 e3 e4 e5 e6; omega) | skip
    all_goals clear hd
    all_goals go_enter Tryd.func20, Tryd.ntmps20
    all_goals go_wp2_with (go_at_call 32; refine (zgood_yes z _ hz).mono ?_; rintro e w1 ⟨rfl, rfl⟩; skip)
    all_goals go_ret
    all_goals exact ⟨rfl, (by repeat (first | exact Below.refl _ _ | assumption | refine Below.drew ?_ | refine Below.drewN' ?_ _ | refine below_grow0 _ _ ?_ | refine below_alloc0 _ ?_ | refine Below.alloc ?_ (by first | omega | (simp; done) | (simp; omega)) _ | refine Below.setCell ?_ (by first | omega | (simp; done) | (simp; omega)) _ | refine Below.grow _ _ _ ?_ (by first | omega | (simp; done) | (simp; omega))))⟩
  · clear h
    go_enter Tryd.func20, Tryd.ntmps20
    go_wp2_with (go_at_call 32; refine (zgood_no z _ hz).mono ?_; rintro e w1 ⟨rfl, rfl⟩; skip)
    go_ret
    exact ⟨rfl, (by repeat (first | exact Below.refl _ _ | assumption | refine Below.drew ?_ | refine Below.drewN' ?_ _ | refine below_grow0 _ _ ?_ | refine below_alloc0 _ ?_ | refine Below.alloc ?_ (by first | omega | (simp; done) | (simp; omega)) _ | refine Below.setCell ?_ (by first | omega | (simp; done) | (simp; omega)) _ | refine Below.grow _ _ _ ?_ (by first | omega | (simp; done) | (simp; omega))))⟩
set_option maxHeartbeats 1000000 in
theorem tgood_3 (z o s v ow : Int) (p d : ByteArray) (w : World) (h1 : decide (o < 1) = false) (h2 : decide (5 < o) = false) (hz : Zx z) (h3 : decide (s < 1) = false) (h4 : decide (2147483647 < s) = false) (h5 : decide (v < 0) = false) (h6 : decide (2147483647 < v) = false) (h7 : decide (ow < 0) = false) (h8 : decide (2147483647 < ow) = false) (h9 : decide (256 < (d.size : Int)) = true) :
    Calls Tryd.prog 20 #[.agg #[.int .i64 z, .int .i64 o, .int .i64 s, .string p, .string d, .int .i64 v, .int .i64 ow]] w fun e w' => e = .returned (.int .i64 1) ∧ Below w.heap.size w w' := by
  go_enter Tryd.func20, Tryd.ntmps20
  go_wp2_with (go_at_call 32; refine (zgood_yes z _ hz).mono ?_; rintro e w1 ⟨rfl, rfl⟩; skip)
  go_ret
  exact ⟨rfl, (by repeat (first | exact Below.refl _ _ | assumption | refine Below.drew ?_ | refine Below.drewN' ?_ _ | refine below_grow0 _ _ ?_ | refine below_alloc0 _ ?_ | refine Below.alloc ?_ (by first | omega | (simp; done) | (simp; omega)) _ | refine Below.setCell ?_ (by first | omega | (simp; done) | (simp; omega)) _ | refine Below.grow _ _ _ ?_ (by first | omega | (simp; done) | (simp; omega))))⟩
theorem goodT_low (z o s v ow : Int) (p d : ByteArray) (h1 : decide (o < 1) = false) (_h2 : decide (5 < o) = false) (hz : Zx z) (h3 : decide (s < 1) = false) (h4 : decide (2147483647 < s) = false) (h5 : decide (v < 0) = false) (h6 : decide (2147483647 < v) = false) (h7 : decide (ow < 0) = false) (h8 : decide (2147483647 < ow) = false) (h9 : decide (256 < (d.size : Int)) = false)
    (h10 : o ≤ 2) : goodT ⟨z, o, s, p, d, v, ow⟩ = if p.toList = [] ∧ d.toList = [] ∧ v = 0 ∧ ow = 0 then 0 else 2 := by
  simp at h1 h3 h4 h5 h6 h7 h8 h9
  unfold Zx at hz
  unfold goodT
  dsimp only
  rw [if_neg (by omega), if_neg (by omega), if_neg (by omega)]
  by_cases hh : p.toList = [] ∧ d.toList = [] ∧ v = 0 ∧ ow = 0
  · rw [if_pos hh, if_neg (by simp [hh.1, hh.2.1, hh.2.2.1, hh.2.2.2]), if_neg (by omega), if_neg (by omega)]
  · have hx : p.toList ≠ [] ∨ d.toList ≠ [] ∨ v ≠ 0 ∨ ow ≠ 0 := by
      by_cases a : p.toList = []
      · by_cases b : d.toList = []
        · have : ¬ (v = 0 ∧ ow = 0) := fun e => hh ⟨a, b, e⟩
          exact .inr (.inr (by omega))
        · exact .inr (.inl b)
      · exact .inl a
    rw [if_neg hh, if_pos ⟨h10, hx⟩]
theorem goodT_high (z o s v ow : Int) (p d : ByteArray) (h2 : decide (5 < o) = false) (hz : Zx z) (h3 : decide (s < 1) = false) (h4 : decide (2147483647 < s) = false) (h5 : decide (v < 0) = false) (h6 : decide (2147483647 < v) = false) (h7 : decide (ow < 0) = false) (h8 : decide (2147483647 < ow) = false) (h9 : decide (256 < (d.size : Int)) = false)
    (h10 : 3 ≤ o) : goodT ⟨z, o, s, p, d, v, ow⟩ = if goodP p = false ∨ (p.toList = [47] ∧ o ≠ 5) then 2
      else if (o = 4 ∧ (d.toList ≠ [] ∨ v ≠ 0 ∨ ow ≠ 0)) ∨ (o = 3 ∧ v ≠ 0) ∨ (o = 5 ∧ ow ≠ 0) then 2 else 0 := by
  simp at h2 h3 h4 h5 h6 h7 h8 h9
  unfold Zx at hz
  unfold goodT
  dsimp only
  rw [if_neg (by omega), if_neg (by omega), if_neg (by omega), if_neg (by omega)]
  by_cases hh : goodP p = false ∨ (p.toList = [47] ∧ o ≠ 5)
  · rw [if_pos ⟨h10, hh⟩, if_pos hh]
  · rw [if_neg (fun e => hh e.2), if_neg hh]
set_option maxHeartbeats 4000000 in
theorem tgood_4 (z o s v ow : Int) (p d : ByteArray) (w : World) (h1 : decide (o < 1) = false) (h2 : decide (5 < o) = false) (hz : Zx z) (h3 : decide (s < 1) = false) (h4 : decide (2147483647 < s) = false) (h5 : decide (v < 0) = false) (h6 : decide (2147483647 < v) = false) (h7 : decide (ow < 0) = false) (h8 : decide (2147483647 < ow) = false) (h9 : decide (256 < (d.size : Int)) = false)
    (h10 : decide (o ≤ 2) = true) (h11 : decide (3 ≤ o) = false) (h12 : (o == 4) = false) (h13 : (o == 3) = false) (h14 : (o == 5) = false) :
    Calls Tryd.prog 20 #[.agg #[.int .i64 z, .int .i64 o, .int .i64 s, .string p, .string d, .int .i64 v, .int .i64 ow]] w fun e w' => e = .returned (.int .i64 (if p.toList = [] ∧ d.toList = [] ∧ v = 0 ∧ ow = 0 then 0 else 2)) ∧ Below w.heap.size w w' := by
  go_enter Tryd.func20, Tryd.ntmps20
  go_wp2_with (go_at_call 32; refine (zgood_yes z _ hz).mono ?_; rintro e w1 ⟨rfl, rfl⟩; skip)
  all_goals go_ret
  all_goals refine ⟨?_, (by repeat (first | exact Below.refl _ _ | assumption | refine Below.drew ?_ | refine Below.drewN' ?_ _ | refine below_grow0 _ _ ?_ | refine below_alloc0 _ ?_ | refine Below.alloc ?_ (by first | omega | (simp; done) | (simp; omega)) _ | refine Below.setCell ?_ (by first | omega | (simp; done) | (simp; omega)) _ | refine Below.grow _ _ _ ?_ (by first | omega | (simp; done) | (simp; omega))))⟩
  all_goals (refine congrArg (fun x => Ending.returned (Value.int IntKind.i64 x)) ?_)
  all_goals simp_all
set_option maxHeartbeats 4000000 in
theorem tgood_5 (z o s v ow : Int) (p d : ByteArray) (w : World) (h1 : decide (o < 1) = false) (h2 : decide (5 < o) = false) (hz : Zx z) (h3 : decide (s < 1) = false) (h4 : decide (2147483647 < s) = false) (h5 : decide (v < 0) = false) (h6 : decide (2147483647 < v) = false) (h7 : decide (ow < 0) = false) (h8 : decide (2147483647 < ow) = false) (h9 : decide (256 < (d.size : Int)) = false)
    (h10 : decide (o ≤ 2) = false) (h11 : decide (3 ≤ o) = true) (hp : p.size ≤ 9223372036854775807) (hg : goodP p = false) :
    Calls Tryd.prog 20 #[.agg #[.int .i64 z, .int .i64 o, .int .i64 s, .string p, .string d, .int .i64 v, .int .i64 ow]] w fun e w' => e = .returned (.int .i64 2) ∧ Below w.heap.size w w' := by
  have HG := fun w => good_any p w hp
  rw [hg] at HG
  clear hg
  go_enter Tryd.func20, Tryd.ntmps20
  go_wp2_with first | (go_at_call 32; refine (zgood_yes z _ hz).mono ?_; rintro e w1 ⟨rfl, rfl⟩; skip) | (go_at_call 33; refine (HG _).mono ?_; rintro e w1 ⟨rfl, hb1⟩; obtain ⟨ext1, d1, rfl⟩ := Below.grown_eq _ hb1)
  go_ret
  exact ⟨rfl, (by repeat (first | exact Below.refl _ _ | assumption | refine Below.drew ?_ | refine Below.drewN' ?_ _ | refine below_grow0 _ _ ?_ | refine below_alloc0 _ ?_ | refine Below.alloc ?_ (by first | omega | (simp; done) | (simp; omega)) _ | refine Below.setCell ?_ (by first | omega | (simp; done) | (simp; omega)) _ | refine Below.grow _ _ _ ?_ (by first | omega | (simp; done) | (simp; omega))))⟩
set_option maxHeartbeats 4000000 in
theorem tgood_6 (z o s v ow : Int) (p d : ByteArray) (w : World) (hz : Zx z) (h3 : decide (s < 1) = false) (h4 : decide (2147483647 < s) = false) (h5 : decide (v < 0) = false) (h6 : decide (2147483647 < v) = false) (h7 : decide (ow < 0) = false) (h8 : decide (2147483647 < ow) = false) (h9 : decide (256 < (d.size : Int)) = false)
    (hp : p.size ≤ 9223372036854775807) (hg : goodP p = true) (ho : o = 3 ∨ o = 4 ∨ o = 5) :
    Calls Tryd.prog 20 #[.agg #[.int .i64 z, .int .i64 o, .int .i64 s, .string p, .string d, .int .i64 v, .int .i64 ow]] w fun e w' => e = .returned (.int .i64 (if (p.toList = [47] ∧ o ≠ 5) then 2
      else if (o = 4 ∧ (d.toList ≠ [] ∨ v ≠ 0 ∨ ow ≠ 0)) ∨ (o = 3 ∧ v ≠ 0) ∨ (o = 5 ∧ ow ≠ 0) then 2 else 0)) ∧ Below w.heap.size w w' := by
  have HG := fun w => good_any p w hp
  rw [hg] at HG
  clear hg
  rcases ho with rfl | rfl | rfl
  all_goals go_enter Tryd.func20, Tryd.ntmps20
  all_goals go_wp2_with first | (go_at_call 32; refine (zgood_yes z _ hz).mono ?_; rintro e w1 ⟨rfl, rfl⟩; skip) | (go_at_call 33; refine (HG _).mono ?_; rintro e w1 ⟨rfl, hb1⟩; obtain ⟨ext1, d1, rfl⟩ := Below.grown_eq _ hb1)
  all_goals go_ret
  all_goals refine ⟨?_, (by repeat (first | exact Below.refl _ _ | assumption | refine Below.drew ?_ | refine Below.drewN' ?_ _ | refine below_grow0 _ _ ?_ | refine below_alloc0 _ ?_ | refine Below.alloc ?_ (by first | omega | (simp; done) | (simp; omega)) _ | refine Below.setCell ?_ (by first | omega | (simp; done) | (simp; omega)) _ | refine Below.grow _ _ _ ?_ (by first | omega | (simp; done) | (simp; omega))))⟩
  all_goals (refine congrArg (fun x => Ending.returned (Value.int IntKind.i64 x)) ?_)
  all_goals simp_all
/-- wire.Good, at every transaction -/
theorem tgood_any (t : Txn) (w : World) (hp : t.path.size ≤ 9223372036854775807) :
    Calls Tryd.prog 20 #[.agg #[.int .i64 t.zxid, .int .i64 t.op, .int .i64 t.session, .string t.path, .string t.data, .int .i64 t.version, .int .i64 t.owner]] w fun e w' => e = .returned (.int .i64 (goodT t)) ∧ Below w.heap.size w w' := by
  obtain ⟨z, o, s, p, d, v, ow⟩ := t
  dsimp only at *
  by_cases a1 : o < 1 ∨ 5 < o
  · rw [show goodT ⟨z, o, s, p, d, v, ow⟩ = 4 from if_pos a1]
    exact tgood_1 z o s v ow p d w a1
  have h1 : decide (o < 1) = false := decide_eq_false (fun e => a1 (.inl e))
  have h2 : decide (5 < o) = false := decide_eq_false (fun e => a1 (.inr e))
  by_cases a2 : ¬ (0 ≤ z ∧ z < 4611686018427387904) ∨ s < 1 ∨ 2147483647 < s ∨ v < 0 ∨ 2147483647 < v ∨ ow < 0 ∨ 2147483647 < ow
  · rw [show goodT ⟨z, o, s, p, d, v, ow⟩ = 3 from (if_neg a1).trans (if_pos a2)]
    exact tgood_2 z o s v ow p d w h1 h2 a2
  have hz : Zx z := by unfold Zx; omega
  have h3 : decide (s < 1) = false := decide_eq_false (by omega)
  have h4 : decide (2147483647 < s) = false := decide_eq_false (by omega)
  have h5 : decide (v < 0) = false := decide_eq_false (by omega)
  have h6 : decide (2147483647 < v) = false := decide_eq_false (by omega)
  have h7 : decide (ow < 0) = false := decide_eq_false (by omega)
  have h8 : decide (2147483647 < ow) = false := decide_eq_false (by omega)
  by_cases a3 : 256 < (d.size : Int)
  · rw [show goodT ⟨z, o, s, p, d, v, ow⟩ = 1 from (if_neg a1).trans ((if_neg a2).trans (if_pos a3))]
    exact tgood_3 z o s v ow p d w h1 h2 hz h3 h4 h5 h6 h7 h8 (decide_eq_true a3)
  have h9 : decide (256 < (d.size : Int)) = false := decide_eq_false a3
  by_cases a4 : o ≤ 2
  · rw [goodT_low z o s v ow p d h1 h2 hz h3 h4 h5 h6 h7 h8 h9 a4]
    exact tgood_4 z o s v ow p d w h1 h2 hz h3 h4 h5 h6 h7 h8 h9 (decide_eq_true a4) (decide_eq_false (by omega)) (beq_eq_false_iff_ne.2 (by omega)) (beq_eq_false_iff_ne.2 (by omega)) (beq_eq_false_iff_ne.2 (by omega))
  · rw [goodT_high z o s v ow p d h2 hz h3 h4 h5 h6 h7 h8 h9 (by omega)]
    cases hg : goodP p with
    | false =>
      rw [if_pos (.inl rfl)]
      exact tgood_5 z o s v ow p d w h1 h2 hz h3 h4 h5 h6 h7 h8 h9 (decide_eq_false a4) (decide_eq_true (by omega)) hp hg
    | true =>
      have := tgood_6 z o s v ow p d w hz h3 h4 h5 h6 h7 h8 h9 hp hg (by omega)
      simpa using this
end Go.Proofs.YtfaghpdhinfblaaDoor

/- wire.Sum: the cyclic sum of 32 bits. -/
namespace Go.Proofs.YtfaghpdhinfblaaDoor
open Go.RowKit
def rnd (c : Nat) : Nat := if c % 2 = 1 then (c / 2) ^^^ 3988292384 else c / 2
def rndN : Nat → Nat → Nat
  | 0, c => c
  | n + 1, c => rnd (rndN n c)
def sumK (l : List UInt8) (c : Nat) : Nat := l.foldl (fun c b => rndN 8 (c ^^^ b.toNat)) c
def sumN (l : List UInt8) : Nat := 4294967295 - sumK l 4294967295
theorem xor_lt {a b : Nat} (ha : a < 4294967296) (hb : b < 4294967296) : a ^^^ b < 4294967296 := Nat.xor_lt_two_pow (n := 32) ha hb
theorem rnd_lt {c : Nat} (h : c < 4294967296) : rnd c < 4294967296 := by
  unfold rnd
  split
  · exact xor_lt (by omega) (by omega)
  · omega
theorem rndN_lt {c : Nat} (h : c < 4294967296) : ∀ n, rndN n c < 4294967296
  | 0 => h
  | n + 1 => rnd_lt (rndN_lt h n)
theorem sumK_lt : ∀ (l : List UInt8) {c : Nat}, c < 4294967296 → sumK l c < 4294967296
  | [], _, h => h
  | b :: r, c, h => by
    have hb : b.toNat < 256 := b.toNat_lt
    exact sumK_lt r (rndN_lt (xor_lt h (by omega)) 8)
theorem sumK_snoc (l : List UInt8) (b : UInt8) (c : Nat) : sumK (l ++ [b]) c = rndN 8 (sumK l c ^^^ b.toNat) := by unfold sumK; rw [List.foldl_append]; rfl
theorem bv32 (a : Nat) (ha : a < 4294967296) : (BitVec.ofInt 32 (a : Int)).toNat = a := by
  rw [BitVec.ofInt_natCast, BitVec.toNat_ofNat]
  exact Nat.mod_eq_of_lt (by omega)
theorem wrap32n (a : Nat) (h : a < 4294967296) : IntKind.u32.wrap (a : Int) = a := by
  unfold IntKind.wrap
  simp [IntKind.signed, IntKind.bits]
  omega
theorem bits_xor32 (a b : Nat) (ha : a < 4294967296) (hb : b < 4294967296) : bits .xor .u32 (a : Int) (b : Int) = ((a ^^^ b : Nat) : Int) := by
  show IntKind.u32.wrap ((BitVec.ofInt 32 (a : Int) ^^^ BitVec.ofInt 32 (b : Int)).toNat : Int) = _
  rw [BitVec.toNat_xor, bv32 a ha, bv32 b hb, wrap32n _ (xor_lt ha hb)]
theorem bits_and1 (a : Nat) (ha : a < 4294967296) : bits .and .u32 (a : Int) 1 = ((a % 2 : Nat) : Int) := by
  show IntKind.u32.wrap ((BitVec.ofInt 32 (a : Int) &&& BitVec.ofInt 32 ((1 : Nat) : Int)).toNat : Int) = _
  rw [BitVec.toNat_and, bv32 a ha, bv32 1 (by omega), Nat.and_one_is_mod, wrap32n _ (by omega)]
theorem bits_not32 (a : Nat) (ha : a < 4294967296) : bits .xor .u32 IntKind.u32.max (a : Int) = ((4294967295 - a : Nat) : Int) := by
  show IntKind.u32.wrap ((BitVec.ofInt 32 ((4294967295 : Nat) : Int) ^^^ BitVec.ofInt 32 (a : Int)).toNat : Int) = _
  have h1 : BitVec.ofInt 32 ((4294967295 : Nat) : Int) = BitVec.allOnes 32 := by decide
  rw [h1, BitVec.xor_comm, BitVec.xor_allOnes, BitVec.toNat_not, bv32 a ha, wrap32n _ (by omega)]
set_option maxHeartbeats 1000000 in
theorem sum_any (s : ByteArray) (w : World) (hs : s.size ≤ 9223372036854775807) :
    Calls Tryd.prog 29 #[.string s] w fun e w' => e = .returned (.int .i64 (sumN (bs s))) ∧ w = w' := by
  go_enter Tryd.func29, Tryd.ntmps29
  go_wp2
  go_loop [3, 4] (fun c i => ∃ k : Nat, k ≤ s.size ∧ c = .int .u32 (sumK ((bs s).take k) 4294967295 : Nat) ∧ i = .int .i64 k) (fun _ i => s.size - (intOf i).toNat)
  case atStart => exact ⟨0, Nat.zero_le _, rfl, rfl⟩
  case round =>
    obtain ⟨k, hk, rfl, rfl⟩ := hrel
    have hlt0 := sumK_lt ((bs s).take k) (c := 4294967295) (by omega)
    by_cases hlt : k < s.size
    · have hx : (bs s)[k]? = some (s[k]) := List.getElem?_eq_getElem (by rw [length_bs]; exact hlt)
      have htk : (bs s).take (k + 1) = (bs s).take k ++ [s[k]] := by rw [List.take_add_one, hx]; rfl
      have hsn := sumK_snoc ((bs s).take k) s[k] 4294967295
      rw [← htk] at hsn
      have hc : s[k].toNat < 256 := s[k].toNat_lt
      have hxb := bits_xor32 (sumK ((bs s).take k) 4294967295) s[k].toNat hlt0 (by omega)
      have hx2 : sumK ((bs s).take k) 4294967295 ^^^ s[k].toNat < 4294967296 := xor_lt hlt0 (by omega)
      have HSN := Lib.hid hsn
      generalize sumK ((bs s).take k) 4294967295 = c0 at *
      clear htk hsn hx
      go_wp2
      generalize c0 ^^^ s[k].toNat = y at *
      go_loop [3, 18] (fun c j => ∃ n : Nat, n ≤ 8 ∧ c = .int .u32 (rndN n y : Nat) ∧ j = .int .i64 n) (fun _ j => 8 - (intOf j).toNat)
      case atStart => exact ⟨0, by omega, rfl, rfl⟩
      case round =>
        obtain ⟨n, hn, rfl, rfl⟩ := hrel
        have hr := rndN_lt hx2 n
        by_cases h8 : n < 8
        · have hand := bits_and1 (rndN n y) hr
          have hrd : rndN (n + 1) y = rnd (rndN n y) := rfl
          have hh : rndN n y / 2 < 4294967296 := by omega
          have hxr : bits .xor .u32 ((rndN n y : Int) / 2) 3988292384 = ((rndN n y / 2 ^^^ 3988292384 : Nat) : Int) := bits_xor32 (rndN n y / 2) 3988292384 hh (by omega)
          have HRD := Lib.hid hrd
          generalize rndN n y = z at *
          clear hrd
          rcases Nat.mod_two_eq_zero_or_one z with h2 | h2
          · have hz : rnd z = z / 2 := by unfold rnd; rw [if_neg (by omega)]
            have HZ := Lib.hid hz
            clear hz
            rw [h2] at hand
            go_wp2
            exact ⟨⟨n + 1, by omega, by rw [HRD.out, HZ.out] <;> rfl, by go_num⟩, by simp [intOf]; omega⟩
          · have hz : rnd z = (z / 2) ^^^ 3988292384 := by unfold rnd; rw [if_pos h2]
            have HZ := Lib.hid hz
            clear hz
            rw [h2] at hand
            go_wp2
            exact ⟨⟨n + 1, by omega, by rw [HRD.out, HZ.out], by go_num⟩, by simp [intOf]; omega⟩
        · have hn8 : n = 8 := by omega
          subst hn8
          go_wp2
          go_round
          case rel => exact ⟨k + 1, by omega, by rw [HSN.out], by go_num⟩
          case measure => simp [intOf]; omega
    · have hk' : k = s.size := by omega
      subst hk'
      have hfull : (bs s).take s.size = bs s := List.take_of_length_le (by rw [length_bs]; exact Nat.le_refl _)
      rw [hfull] at hlt0 ⊢
      have HSU := Lib.hid (show sumN (bs s) = 4294967295 - sumK (bs s) 4294967295 from rfl)
      generalize sumK (bs s) 4294967295 = c0 at *
      have hnot := bits_not32 c0 hlt0
      have hw : wrap64 (((4294967295 - c0 : Nat) : Int)) = ((4294967295 - c0 : Nat) : Int) := by unfold wrap64; omega
      generalize hd : 4294967295 - c0 = d at *
      clear hfull hd
      go_wp2
      go_ret
      exact ⟨by rw [HSU.out]; rfl, rfl⟩
end Go.Proofs.YtfaghpdhinfblaaDoor

/- wire.Encode: a transaction's bytes. -/
namespace Go.Proofs.YtfaghpdhinfblaaDoor
open Go.RowKit Go.ChangeShapes Go.WideShapes Go.ChangeAt
def headL (B : List UInt8) : List UInt8 := [84] ++ be 2 B.length ++ B
def recL (B : List UInt8) : List UInt8 := headL B ++ be 4 (sumN (headL B))
def bodyL (z o s v ow : Nat) (p d : List UInt8) : List UInt8 := be 8 z ++ [UInt8.ofNat o] ++ be 4 s ++ be 4 v ++ be 4 ow ++ [UInt8.ofNat p.length] ++ p ++ be 2 d.length ++ d
theorem bodyL_length (z o s v ow : Nat) (p d : List UInt8) : (bodyL z o s v ow p d).length = 24 + p.length + d.length := by
  simp [bodyL, be_length]
  omega
theorem sumN_lt (l : List UInt8) : sumN l < 4294967296 := by unfold sumN; omega
theorem str_snoc (S : ByteArray) (l : List UInt8) : S ++ (⟨l.toArray⟩ : ByteArray) = ⟨(bs S ++ l).toArray⟩ := by
  apply ByteArray.ext
  simp [bs]
set_option maxRecDepth 100000 in
set_option maxHeartbeats 600000 in
theorem encode_walk (z o s v ow : Nat) (p d : ByteArray) (w : World) (hg : goodT ⟨z, o, s, p, d, v, ow⟩ = 0) (hz : z < 4611686018427387904) (ho : o < 6) (hs : s < 2147483648) (hv : v < 2147483648) (how : ow < 2147483648) (hp : p.size ≤ 200) (hd : d.size ≤ 256) :
    Calls Tryd.prog 11 #[.agg #[.int .i64 z, .int .i64 o, .int .i64 s, .string p, .string d, .int .i64 v, .int .i64 ow]] w fun e w' => e = .returned (.tuple #[.string ⟨(recL (bodyL z o s v ow (bs p) (bs d))).toArray⟩, .int .i64 0]) ∧ Below w.heap.size w w' := by
  have HG := Lib.hid (fun w => tgood_any ⟨z, o, s, p, d, v, ow⟩ w (by show p.size ≤ _; omega))
  rw [hg] at HG
  clear hg
  go_enter Tryd.func11, Tryd.ntmps11
  go_wp2_with (first | (go_at_call 20; refine (HG.out _).mono ?_; rintro e w1 ⟨rfl, hb1⟩; obtain ⟨ext1, d1, rfl⟩ := Below.grown_eq _ hb1; clear hb1 HG) | (go_at_call 28; refine (put_any (World.alloc w _) _ [] z 8 _ (by exact (by repeat (first | exact Below.refl _ _ | assumption | refine Below.drew ?_ | refine Below.drewN' ?_ _ | refine below_grow0 _ _ ?_ | refine below_alloc0 _ ?_ | refine Below.alloc ?_ (by first | omega | (simp; done) | (simp; omega)) _ | refine Below.setCell ?_ (by first | omega | (simp; done) | (simp; omega)) _ | refine Below.grow _ _ _ ?_ (by first | omega | (simp; done) | (simp; omega))))) (by exact Ow.nil _ _ _ _ _) (by omega) (by omega) (by simp)).mono ?_; rintro e w1 ⟨A2, c2, rfl, ho2, hb2⟩; obtain ⟨ext2, d2, rfl⟩ := Below.grown_eq _ hb2; have HO2 := Lib.hid ho2; clear ho2 hb2))
  have e1 : (World.alloc w (.cells #[.int .i64 z, .int .i64 o, .int .i64 s, .string p, .string d, .int .i64 v, .int .i64 ow] 35)).cell? ⟨w.heap.size, 1, none⟩ = some (.int .i64 o) := by go_simp
  have e2 : (World.alloc w (.cells #[.int .i64 z, .int .i64 o, .int .i64 s, .string p, .string d, .int .i64 v, .int .i64 ow] 35)).cell? ⟨w.heap.size, 2, none⟩ = some (.int .i64 s) := by go_simp
  have e3 : (World.alloc w (.cells #[.int .i64 z, .int .i64 o, .int .i64 s, .string p, .string d, .int .i64 v, .int .i64 ow] 35)).cell? ⟨w.heap.size, 3, none⟩ = some (.string p) := by go_simp
  have e4 : (World.alloc w (.cells #[.int .i64 z, .int .i64 o, .int .i64 s, .string p, .string d, .int .i64 v, .int .i64 ow] 35)).cell? ⟨w.heap.size, 4, none⟩ = some (.string d) := by go_simp
  have e5 : (World.alloc w (.cells #[.int .i64 z, .int .i64 o, .int .i64 s, .string p, .string d, .int .i64 v, .int .i64 ow] 35)).cell? ⟨w.heap.size, 5, none⟩ = some (.int .i64 v) := by go_simp
  have e6 : (World.alloc w (.cells #[.int .i64 z, .int .i64 o, .int .i64 s, .string p, .string d, .int .i64 v, .int .i64 ow] 35)).cell? ⟨w.heap.size, 6, none⟩ = some (.int .i64 ow) := by go_simp
  have hB1 : Below w.heap.size w (World.alloc w (.cells #[.int .i64 z, .int .i64 o, .int .i64 s, .string p, .string d, .int .i64 v, .int .i64 ow] 35)) := (by repeat (first | exact Below.refl _ _ | assumption | refine Below.drew ?_ | refine Below.drewN' ?_ _ | refine below_grow0 _ _ ?_ | refine below_alloc0 _ ?_ | refine Below.alloc ?_ (by first | omega | (simp; done) | (simp; omega)) _ | refine Below.setCell ?_ (by first | omega | (simp; done) | (simp; omega)) _ | refine Below.grow _ _ _ ?_ (by first | omega | (simp; done) | (simp; omega))))
  have HB1 := Lib.hid hB1
  have HBW := Lib.hid hB1.size
  clear hB1
  generalize World.alloc w (.cells #[.int .i64 z, .int .i64 o, .int .i64 s, .string p, .string d, .int .i64 v, .int .i64 ow] 35) = W1 at *
  generalize hbw : w.heap.size = b at *
  have HBE := Lib.hid hbw
  clear hbw
  rw [List.nil_append] at *
  have HLZ := Lib.hid (be_length 8 z)
  have HL2 := Lib.hid (show (be 8 z).length = 8 from be_length 8 z)
  generalize hL2 : be 8 z = L2 at *
  have HE2 := Lib.hid hL2
  clear hL2
  have HB0 := Lib.hid (show [Value.int .u8 ((o : Int) % 256)] = cByte (UInt8.ofNat o) from by simp [cByte])
  have HB1' := Lib.hid (show [Value.int .u8 ((p.size : Int) % 256)] = cByte (UInt8.ofNat p.size) from by simp [cByte])
  have P4 := Lib.hid (put_any W1)
  have P5 := Lib.hid (put_any W1)
  have P6 := Lib.hid (put_any W1)
  have P9 := Lib.hid (put_any W1)
  have P11 := Lib.hid (put_any W1)
  have P13 := Lib.hid (put_any W1)
  go_region_held3 (fun w' => w'.cell? ⟨b, 1, none⟩ = some (.int .i64 o) ∧ w'.cell? ⟨b, 2, none⟩ = some (.int .i64 s)) ((refine ⟨?_, ?_⟩ <;> go_simp)) (first | (refine step_app _ rfl (.tmp 16) (.tmp 20) _ rfl elByte (B := W1.heap.size) (v := .slice A2 L2.length c2) (l := L2) (m := [UInt8.ofNat o]) rfl rfl (by exact (HO2.out.below (by repeat (first | exact Below.refl _ _ | exact below_regrow _ _ _ _ | assumption | refine Below.drew ?_ | refine Below.drewN' ?_ _ | refine below_grow0 _ _ ?_ | refine below_alloc0 _ ?_ | refine Below.alloc ?_ (by first | omega | (simp; done) | (simp; omega)) _ | refine Below.setCell ?_ (by first | omega | (simp; done) | (simp; omega)) _ | refine Below.grow _ _ _ ?_ (by first | omega | (simp; done) | (simp; omega)))))) (by exact Sl.one_at cByte 1 _ _ _ rfl _ (by exact HB0.out) (by omega) (by simp)) cByte_ones (by simp [HL2.out, maxLen] <;> omega) (by simp [HL2.out] <;> omega) (by simp <;> omega) ?_; intro v3 w3 hown3 hg3 _; obtain ⟨A3, c3, rfl, _⟩ := hown3.form; obtain ⟨ext3, d3, rfl⟩ := grown_after (W := W1) (by repeat (first | exact Below.refl _ _ | exact below_regrow _ _ _ _ | assumption | refine Below.drew ?_ | refine Below.drewN' ?_ _ | refine below_grow0 _ _ ?_ | refine below_alloc0 _ ?_ | refine Below.alloc ?_ (by first | omega | (simp; done) | (simp; omega)) _ | refine Below.setCell ?_ (by first | omega | (simp; done) | (simp; omega)) _ | refine Below.grow _ _ _ ?_ (by first | omega | (simp; done) | (simp; omega)))) hg3 (fun k hk => (HO2.out.own_in hk).1); have HO3 := Lib.hid hown3; clear hown3 hg3; have HL3 := Lib.hid (show (L2 ++ [UInt8.ofNat o]).length = 9 by simp [HL2.out]); generalize hE3 : L2 ++ [UInt8.ofNat o] = L3 at *; have HE3 := Lib.hid hE3; clear hE3) | (go_at_call 28; (refine (P4.out _ L3 s 4 _ (by exact (by repeat (first | exact Below.refl _ _ | exact below_regrow _ _ _ _ | assumption | refine Below.drew ?_ | refine Below.drewN' ?_ _ | refine below_grow0 _ _ ?_ | refine below_alloc0 _ ?_ | refine Below.alloc ?_ (by first | omega | (simp; done) | (simp; omega)) _ | refine Below.setCell ?_ (by first | omega | (simp; done) | (simp; omega)) _ | refine Below.grow _ _ _ ?_ (by first | omega | (simp; done) | (simp; omega))))) (by exact HO3.out.below (by repeat (first | exact Below.refl _ _ | exact below_regrow _ _ _ _ | assumption | refine Below.drew ?_ | refine Below.drewN' ?_ _ | refine below_grow0 _ _ ?_ | refine below_alloc0 _ ?_ | refine Below.alloc ?_ (by first | omega | (simp; done) | (simp; omega)) _ | refine Below.setCell ?_ (by first | omega | (simp; done) | (simp; omega)) _ | refine Below.grow _ _ _ ?_ (by first | omega | (simp; done) | (simp; omega))))) (by omega) (by omega) (by rw [HL3.out]; omega)).mono ?_); rintro e w4 ⟨A4, c4, rfl, ho4, hb4⟩; obtain ⟨ext4, d4, rfl⟩ := Below.grown_eq _ hb4; have HO4 := Lib.hid ho4; clear ho4 hb4 P4; have HL4 := Lib.hid (show (L3 ++ be 4 s).length = 13 by rw [List.length_append, HL3.out, be_length] <;> omega); generalize hE4 : L3 ++ be 4 s = L4 at *; have HE4 := Lib.hid hE4; clear hE4))
  go_wp2_with fail
  go_region_held3 (fun w' => w'.cell? ⟨b, 5, none⟩ = some (.int .i64 v) ∧ w'.cell? ⟨b, 6, none⟩ = some (.int .i64 ow)) ((refine ⟨?_, ?_⟩ <;> go_simp)) (first | (go_at_call 28; (refine (P5.out _ L4 v 4 _ (by exact (by repeat (first | exact Below.refl _ _ | exact below_regrow _ _ _ _ | assumption | refine Below.drew ?_ | refine Below.drewN' ?_ _ | refine below_grow0 _ _ ?_ | refine below_alloc0 _ ?_ | refine Below.alloc ?_ (by first | omega | (simp; done) | (simp; omega)) _ | refine Below.setCell ?_ (by first | omega | (simp; done) | (simp; omega)) _ | refine Below.grow _ _ _ ?_ (by first | omega | (simp; done) | (simp; omega))))) (by exact HO4.out.below (by repeat (first | exact Below.refl _ _ | exact below_regrow _ _ _ _ | assumption | refine Below.drew ?_ | refine Below.drewN' ?_ _ | refine below_grow0 _ _ ?_ | refine below_alloc0 _ ?_ | refine Below.alloc ?_ (by first | omega | (simp; done) | (simp; omega)) _ | refine Below.setCell ?_ (by first | omega | (simp; done) | (simp; omega)) _ | refine Below.grow _ _ _ ?_ (by first | omega | (simp; done) | (simp; omega))))) (by omega) (by omega) (by rw [HL4.out]; omega)).mono ?_); rintro e w5 ⟨A5, c5, rfl, ho5, hb5⟩; obtain ⟨ext5, d5, rfl⟩ := Below.grown_eq _ hb5; have HO5 := Lib.hid ho5; clear ho5 hb5 P5; have HL5 := Lib.hid (show (L4 ++ be 4 v).length = 17 by rw [List.length_append, HL4.out, be_length] <;> omega); generalize hE5 : L4 ++ be 4 v = L5 at *; have HE5 := Lib.hid hE5; clear hE5) | (go_at_call 28; (refine (P6.out _ L5 ow 4 _ (by exact (by repeat (first | exact Below.refl _ _ | exact below_regrow _ _ _ _ | assumption | refine Below.drew ?_ | refine Below.drewN' ?_ _ | refine below_grow0 _ _ ?_ | refine below_alloc0 _ ?_ | refine Below.alloc ?_ (by first | omega | (simp; done) | (simp; omega)) _ | refine Below.setCell ?_ (by first | omega | (simp; done) | (simp; omega)) _ | refine Below.grow _ _ _ ?_ (by first | omega | (simp; done) | (simp; omega))))) (by exact HO5.out.below (by repeat (first | exact Below.refl _ _ | exact below_regrow _ _ _ _ | assumption | refine Below.drew ?_ | refine Below.drewN' ?_ _ | refine below_grow0 _ _ ?_ | refine below_alloc0 _ ?_ | refine Below.alloc ?_ (by first | omega | (simp; done) | (simp; omega)) _ | refine Below.setCell ?_ (by first | omega | (simp; done) | (simp; omega)) _ | refine Below.grow _ _ _ ?_ (by first | omega | (simp; done) | (simp; omega))))) (by omega) (by omega) (by rw [HL5.out]; omega)).mono ?_); rintro e w6 ⟨A6, c6, rfl, ho6, hb6⟩; obtain ⟨ext6, d6, rfl⟩ := Below.grown_eq _ hb6; have HO6 := Lib.hid ho6; clear ho6 hb6 P6; have HL6 := Lib.hid (show (L5 ++ be 4 ow).length = 21 by rw [List.length_append, HL5.out, be_length] <;> omega); generalize hE6 : L5 ++ be 4 ow = L6 at *; have HE6 := Lib.hid hE6; clear hE6))
  go_upto_region 7 with (fail)
  go_region_held3 (fun w' => w'.cell? ⟨b, 3, none⟩ = some (.string p)) (go_simp) (first | (refine step_app _ rfl (.tmp 32) (.tmp 37) _ rfl elByte (B := W1.heap.size) (v := .slice A6 L6.length c6) (l := L6) (m := [UInt8.ofNat p.size]) rfl rfl (by exact (HO6.out.below (by repeat (first | exact Below.refl _ _ | exact below_regrow _ _ _ _ | assumption | refine Below.drew ?_ | refine Below.drewN' ?_ _ | refine below_grow0 _ _ ?_ | refine below_alloc0 _ ?_ | refine Below.alloc ?_ (by first | omega | (simp; done) | (simp; omega)) _ | refine Below.setCell ?_ (by first | omega | (simp; done) | (simp; omega)) _ | refine Below.grow _ _ _ ?_ (by first | omega | (simp; done) | (simp; omega)))))) (by exact Sl.one_at cByte 1 _ _ _ rfl _ (by exact HB1'.out) (by omega) (by simp)) cByte_ones (by simp [HL6.out, maxLen] <;> omega) (by simp [HL6.out] <;> omega) (by simp <;> omega) ?_; intro v7 w7 hown7 hg7 _; obtain ⟨A7, c7, rfl, _⟩ := hown7.form; obtain ⟨ext7, d7, rfl⟩ := grown_after (W := W1) (by repeat (first | exact Below.refl _ _ | exact below_regrow _ _ _ _ | assumption | refine Below.drew ?_ | refine Below.drewN' ?_ _ | refine below_grow0 _ _ ?_ | refine below_alloc0 _ ?_ | refine Below.alloc ?_ (by first | omega | (simp; done) | (simp; omega)) _ | refine Below.setCell ?_ (by first | omega | (simp; done) | (simp; omega)) _ | refine Below.grow _ _ _ ?_ (by first | omega | (simp; done) | (simp; omega)))) hg7 (fun k hk => (HO6.out.own_in hk).1); have HO7 := Lib.hid hown7; clear hown7 hg7; have HL7 := Lib.hid (show (L6 ++ [UInt8.ofNat p.size]).length = 22 by simp [HL6.out]); generalize hE7 : L6 ++ [UInt8.ofNat p.size] = L7 at *; have HE7 := Lib.hid hE7; clear hE7) | (refine step_apps _ rfl (.tmp 38) (.tmp 40) _ _ rfl elByte rfl Tryd.underlying9 (B := W1.heap.size) (v := .slice A7 L7.length c7) (l := L7) p rfl rfl (by exact (HO7.out.below (by repeat (first | exact Below.refl _ _ | exact below_regrow _ _ _ _ | assumption | refine Below.drew ?_ | refine Below.drewN' ?_ _ | refine below_grow0 _ _ ?_ | refine below_alloc0 _ ?_ | refine Below.alloc ?_ (by first | omega | (simp; done) | (simp; omega)) _ | refine Below.setCell ?_ (by first | omega | (simp; done) | (simp; omega)) _ | refine Below.grow _ _ _ ?_ (by first | omega | (simp; done) | (simp; omega)))))) (by simp [HL7.out, maxLen] <;> omega) (by simp [HL7.out] <;> omega) (by simp <;> omega) ?_; intro v8 w8 hown8 hg8; obtain ⟨A8, c8, rfl, _⟩ := hown8.form; obtain ⟨ext8, d8, rfl⟩ := grown_after (W := W1) (by repeat (first | exact Below.refl _ _ | exact below_regrow _ _ _ _ | assumption | refine Below.drew ?_ | refine Below.drewN' ?_ _ | refine below_grow0 _ _ ?_ | refine below_alloc0 _ ?_ | refine Below.alloc ?_ (by first | omega | (simp; done) | (simp; omega)) _ | refine Below.setCell ?_ (by first | omega | (simp; done) | (simp; omega)) _ | refine Below.grow _ _ _ ?_ (by first | omega | (simp; done) | (simp; omega)))) hg8 (fun k hk => (HO7.out.own_in hk).1); have HO8 := Lib.hid hown8; clear hown8 hg8; have HL8 := Lib.hid (show (L7 ++ bs p).length = 22 + p.size by rw [List.length_append, HL7.out, length_bs] <;> omega); generalize hE8 : L7 ++ bs p = L8 at *; have HE8 := Lib.hid hE8; clear hE8))
  go_upto_region 8 with (fail)
  go_region_held3 (fun w' => w'.cell? ⟨b, 4, none⟩ = some (.string d)) (go_simp) (first | (go_at_call 28; (refine (P9.out _ L8 d.size 2 _ (by exact (by repeat (first | exact Below.refl _ _ | exact below_regrow _ _ _ _ | assumption | refine Below.drew ?_ | refine Below.drewN' ?_ _ | refine below_grow0 _ _ ?_ | refine below_alloc0 _ ?_ | refine Below.alloc ?_ (by first | omega | (simp; done) | (simp; omega)) _ | refine Below.setCell ?_ (by first | omega | (simp; done) | (simp; omega)) _ | refine Below.grow _ _ _ ?_ (by first | omega | (simp; done) | (simp; omega))))) (by exact HO8.out.below (by repeat (first | exact Below.refl _ _ | exact below_regrow _ _ _ _ | assumption | refine Below.drew ?_ | refine Below.drewN' ?_ _ | refine below_grow0 _ _ ?_ | refine below_alloc0 _ ?_ | refine Below.alloc ?_ (by first | omega | (simp; done) | (simp; omega)) _ | refine Below.setCell ?_ (by first | omega | (simp; done) | (simp; omega)) _ | refine Below.grow _ _ _ ?_ (by first | omega | (simp; done) | (simp; omega))))) (by omega) (by omega) (by rw [HL8.out]; omega)).mono ?_); rintro e w9 ⟨A9, c9, rfl, ho9, hb9⟩; obtain ⟨ext9, d9, rfl⟩ := Below.grown_eq _ hb9; have HO9 := Lib.hid ho9; clear ho9 hb9 P9; have HL9 := Lib.hid (show (L8 ++ be 2 d.size).length = 24 + p.size by rw [List.length_append, HL8.out, be_length] <;> omega); generalize hE9 : L8 ++ be 2 d.size = L9 at *; have HE9 := Lib.hid hE9; clear hE9) | (refine step_apps _ rfl (.tmp 46) (.tmp 48) _ _ rfl elByte rfl Tryd.underlying9 (B := W1.heap.size) (v := .slice A9 L9.length c9) (l := L9) d rfl rfl (by exact (HO9.out.below (by repeat (first | exact Below.refl _ _ | exact below_regrow _ _ _ _ | assumption | refine Below.drew ?_ | refine Below.drewN' ?_ _ | refine below_grow0 _ _ ?_ | refine below_alloc0 _ ?_ | refine Below.alloc ?_ (by first | omega | (simp; done) | (simp; omega)) _ | refine Below.setCell ?_ (by first | omega | (simp; done) | (simp; omega)) _ | refine Below.grow _ _ _ ?_ (by first | omega | (simp; done) | (simp; omega)))))) (by simp [HL9.out, maxLen] <;> omega) (by simp [HL9.out] <;> omega) (by simp <;> omega) ?_; intro v10 w10 hown10 hg10; obtain ⟨A10, c10, rfl, _⟩ := hown10.form; obtain ⟨ext10, d10, rfl⟩ := grown_after (W := W1) (by repeat (first | exact Below.refl _ _ | exact below_regrow _ _ _ _ | assumption | refine Below.drew ?_ | refine Below.drewN' ?_ _ | refine below_grow0 _ _ ?_ | refine below_alloc0 _ ?_ | refine Below.alloc ?_ (by first | omega | (simp; done) | (simp; omega)) _ | refine Below.setCell ?_ (by first | omega | (simp; done) | (simp; omega)) _ | refine Below.grow _ _ _ ?_ (by first | omega | (simp; done) | (simp; omega)))) hg10 (fun k hk => (HO9.out.own_in hk).1); have HO10 := Lib.hid hown10; clear hown10 hg10; have HL10 := Lib.hid (show (L9 ++ bs d).length = 24 + p.size + d.size by rw [List.length_append, HL9.out, length_bs] <;> omega); generalize hE10 : L9 ++ bs d = L10 at *; have HE10 := Lib.hid hE10; clear hE10))
  have P11 := Lib.hid (put_any (grow W1 ext10 d10))
  have HSUM := Lib.hid (fun (s : ByteArray) (w : World) (h : s.size ≤ 9223372036854775807) => show Calls Tryd.prog 29 #[.string s] w fun e w' => ∃ n : Nat, e = .returned (.int .i64 n) ∧ n < 4294967296 ∧ Hid (sumN (bs s) = n) ∧ w = w' from (sum_any s w h).mono fun e w' h => ⟨_, h.1, sumN_lt _, Lib.hid rfl, h.2⟩)
  go_upto_region 11 with (first | (go_at_call 28; (refine (P11.out _ [84] L10.length 2 _ (by exact (by repeat (first | exact Below.refl _ _ | exact below_regrow _ _ _ _ | assumption | refine Below.drew ?_ | refine Below.drewN' ?_ _ | refine below_grow0 _ _ ?_ | refine below_alloc0 _ ?_ | refine Below.alloc ?_ (by first | omega | (simp; done) | (simp; omega)) _ | refine Below.setCell ?_ (by first | omega | (simp; done) | (simp; omega)) _ | refine Below.grow _ _ _ ?_ (by first | omega | (simp; done) | (simp; omega))))) (by exact ow_lit1 _ _ _ (by simp) (by simp)) (by rw [HL10.out]; omega) (by omega) (by simp)).mono ?_); rintro e w11 ⟨A11, c11, rfl, ho11, hb11⟩; have HO10b := Lib.hid (HO10.out.below (Below.own (by repeat (first | exact Below.refl _ _ | exact below_regrow _ _ _ _ | assumption | refine Below.drew ?_ | refine Below.drewN' ?_ _ | refine below_grow0 _ _ ?_ | refine below_alloc0 _ ?_ | refine Below.alloc ?_ (by first | omega | (simp; done) | (simp; omega)) _ | refine Below.setCell ?_ (by first | omega | (simp; done) | (simp; omega)) _ | refine Below.grow _ _ _ ?_ (by first | omega | (simp; done) | (simp; omega)))) hb11)); obtain ⟨ext11, d11, rfl⟩ := Below.grown_eq (grow W1 ext10 d10) hb11; have HO11 := Lib.hid ho11; clear ho11 hb11 P11; have HL11 := Lib.hid (show ([84] ++ be 2 L10.length).length = 3 by simp [be_length]); generalize hE11 : [84] ++ be 2 L10.length = L11 at *; have HE11 := Lib.hid hE11; clear hE11) | (at_builtin; go_must (refine wpList_app _ rfl (.tmp 54) (.tmp 55) _ rfl elByte (B := (grow W1 ext10 d10).heap.size) (v := .slice A11 L11.length c11) (l := L11) (m := L10) rfl rfl (by exact (HO11.out.below (by repeat (first | exact Below.refl _ _ | exact below_regrow _ _ _ _ | assumption | refine Below.drew ?_ | refine Below.drewN' ?_ _ | refine below_grow0 _ _ ?_ | refine below_alloc0 _ ?_ | refine Below.alloc ?_ (by first | omega | (simp; done) | (simp; omega)) _ | refine Below.setCell ?_ (by first | omega | (simp; done) | (simp; omega)) _ | refine Below.grow _ _ _ ?_ (by first | omega | (simp; done) | (simp; omega)))))) (by exact (HO10b.out.below (by repeat (first | exact Below.refl _ _ | exact below_regrow _ _ _ _ | assumption | refine Below.drew ?_ | refine Below.drewN' ?_ _ | refine below_grow0 _ _ ?_ | refine below_alloc0 _ ?_ | refine Below.alloc ?_ (by first | omega | (simp; done) | (simp; omega)) _ | refine Below.setCell ?_ (by first | omega | (simp; done) | (simp; omega)) _ | refine Below.grow _ _ _ ?_ (by first | omega | (simp; done) | (simp; omega))))).sl) cByte_ones (by simp [HL11.out, HL10.out, maxLen] <;> omega) (by simp [HL11.out, HL10.out] <;> omega) (by simp <;> omega) ?_); intro v12 w12 hown12 hg12 _; obtain ⟨A12, c12, rfl, _⟩ := hown12.form; obtain ⟨ext12, d12, rfl⟩ := grown_after (W := W1) (by repeat (first | exact Below.refl _ _ | exact below_regrow _ _ _ _ | assumption | refine Below.drew ?_ | refine Below.drewN' ?_ _ | refine below_grow0 _ _ ?_ | refine below_alloc0 _ ?_ | refine Below.alloc ?_ (by first | omega | (simp; done) | (simp; omega)) _ | refine Below.setCell ?_ (by first | omega | (simp; done) | (simp; omega)) _ | refine Below.grow _ _ _ ?_ (by first | omega | (simp; done) | (simp; omega)))) hg12 (fun k hk => Nat.le_trans (by simp) (HO11.out.own_in hk).1); have HO12 := Lib.hid hown12; clear hown12 hg12; have HL12 := Lib.hid (show (L11 ++ L10).length = 27 + p.size + d.size by rw [List.length_append, HL11.out, HL10.out]; omega); generalize hE12 : L11 ++ L10 = L12 at *; have HE12 := Lib.hid hE12; clear hE12; have hrow12 := run_row_text (P := Tryd.prog) (src := 59) (dst := 9) (HO12.out) Tryd.underlying59 Tryd.underlying5 Tryd.underlying9))
  have HB2 := Lib.hid (show Below b w (grow W1 ext12 d12) from HB1.out.trans (Below.mono (show Below W1.heap.size W1 (grow W1 ext12 d12) from (by repeat (first | exact Below.refl _ _ | assumption | refine Below.drew ?_ | refine Below.drewN' ?_ _ | refine below_grow0 _ _ ?_ | refine below_alloc0 _ ?_ | refine Below.alloc ?_ (by first | omega | (simp; done) | (simp; omega)) _ | refine Below.setCell ?_ (by first | omega | (simp; done) | (simp; omega)) _ | refine Below.grow _ _ _ ?_ (by first | omega | (simp; done) | (simp; omega))))) HBW.out))
  have HS12 := Lib.hid (show (⟨L12.toArray⟩ : ByteArray).size = 27 + p.size + d.size by show L12.toArray.size = _; rw [List.size_toArray, HL12.out])
  have HT12 := Lib.hid (show bs (⟨L12.toArray⟩ : ByteArray) = L12 from rfl)
  have HW2 := Lib.hid (show W1.heap.size ≤ (grow W1 ext12 d12).heap.size by simp)
  clear HO2 HO3 HO4 HO5 HO6 HO7 HO8 HO9 HO10 HO10b HO11 HO12 hrow12 HB0 HB1' P13 HB1 e1 e2 e3 e4 e5 e6
  generalize grow W1 ext12 d12 = W2 at *
  generalize (⟨L12.toArray⟩ : ByteArray) = S12 at *
  have P13 := Lib.hid (put_any W2)
  go_wp2_with (first | (go_at_call 29; go_must (refine (HSUM.out S12 _ (by rw [HS12.out]; omega)).mono ?_); rintro e w13 ⟨sm, rfl, hsm, HSM, rfl⟩) | (go_at_call 28; (refine (P13.out _ [] (sm) 4 _ (by exact (by repeat (first | exact Below.refl _ _ | exact below_regrow _ _ _ _ | assumption | refine Below.drew ?_ | refine Below.drewN' ?_ _ | refine below_grow0 _ _ ?_ | refine below_alloc0 _ ?_ | refine Below.alloc ?_ (by first | omega | (simp; done) | (simp; omega)) _ | refine Below.setCell ?_ (by first | omega | (simp; done) | (simp; omega)) _ | refine Below.grow _ _ _ ?_ (by first | omega | (simp; done) | (simp; omega))))) (by exact Ow.nil _ _ _ _ _) (by omega) (by omega) (by simp)).mono ?_); rintro e w14 ⟨A13, c13, rfl, ho13, hb13⟩; obtain ⟨ext13, d13, rfl⟩ := Below.grown_eq _ hb13; rw [List.nil_append] at ho13; have HO13 := Lib.hid ho13; clear ho13 hb13 P13; have HL13 := Lib.hid (show (be 4 (sm)).length = 4 by exact be_length _ _); generalize hE13 : be 4 (sm) = L13 at *; have HE13 := Lib.hid hE13; clear hE13; have hrow13 := run_row_text (P := Tryd.prog) (src := 59) (dst := 9) (HO13.out) Tryd.underlying59 Tryd.underlying5 Tryd.underlying9; have hS13 : (⟨L13.toArray⟩ : ByteArray).size = 4 := (show L13.toArray.size = 4 by rw [List.size_toArray, HL13.out]); have hS12 : S12.size = 27 + p.size + d.size := HS12.out))
  go_ret2
  refine ⟨?_, ?_⟩
  · have h10 : L10 = bodyL z o s v ow (bs p) (bs d) := by
      rw [← HE10.out, ← HE9.out, ← HE8.out, ← HE7.out, ← HE6.out, ← HE5.out, ← HE4.out, ← HE3.out, ← HE2.out]
      unfold bodyL
      rw [length_bs, length_bs]
    have h12 : L12 = headL (bodyL z o s v ow (bs p) (bs d)) := by
      rw [← HE12.out, ← HE11.out, h10]; rfl
    have e : S12 ++ (⟨L13.toArray⟩ : ByteArray) = ⟨(recL (bodyL z o s v ow (bs p) (bs d))).toArray⟩ := by
      rw [str_snoc, HT12.out, ← HE13.out, ← HSM.out, HT12.out, h12]; rfl
    rw [← e]
    rfl
  · rw [HBE.out]
    exact HB2.out.trans (Below.mono (show Below W2.heap.size W2 _ from (by repeat (first | exact Below.refl _ _ | assumption | refine Below.drew ?_ | refine Below.drewN' ?_ _ | refine below_grow0 _ _ ?_ | refine below_alloc0 _ ?_ | refine Below.alloc ?_ (by first | omega | (simp; done) | (simp; omega)) _ | refine Below.setCell ?_ (by first | omega | (simp; done) | (simp; omega)) _ | refine Below.grow _ _ _ ?_ (by first | omega | (simp; done) | (simp; omega))))) (Nat.le_trans HBW.out HW2.out))
end Go.Proofs.YtfaghpdhinfblaaDoor

/- wire.Encode: the contract for every transaction. -/
namespace Go.Proofs.YtfaghpdhinfblaaDoor
open Go.RowKit Go.ChangeShapes Go.WideShapes Go.ChangeAt
abbrev vTxn (t : Txn) : Value := .agg #[.int .i64 t.zxid, .int .i64 t.op, .int .i64 t.session, .string t.path, .string t.data, .int .i64 t.version, .int .i64 t.owner]
/-- a good transaction's record -/
def recT (t : Txn) : List UInt8 := recL (bodyL t.zxid.toNat t.op.toNat t.session.toNat t.version.toNat t.owner.toNat (bs t.path) (bs t.data))
def encR (t : Txn) : ByteArray := if goodT t = 0 then ⟨(recT t).toArray⟩ else ⟨#[]⟩
structure GoodF (t : Txn) : Prop where
  z0 : 0 ≤ t.zxid
  z1 : t.zxid < 4611686018427387904
  o0 : 1 ≤ t.op
  o1 : t.op ≤ 5
  s0 : 1 ≤ t.session
  s1 : t.session ≤ 2147483647
  v0 : 0 ≤ t.version
  v1 : t.version ≤ 2147483647
  w0 : 0 ≤ t.owner
  w1 : t.owner ≤ 2147483647
  d1 : t.data.size ≤ 256
  p1 : t.path.size ≤ 200
theorem goodT_facts (t : Txn) (h : goodT t = 0) : GoodF t := by
  unfold goodT at h
  split at h
  · exact absurd h (by decide)
  rename_i a1
  split at h
  · exact absurd h (by decide)
  rename_i a2
  split at h
  · exact absurd h (by decide)
  rename_i a3
  split at h
  · exact absurd h (by decide)
  rename_i a4
  split at h
  · exact absurd h (by decide)
  rename_i a5
  clear h
  refine ⟨by omega, by omega, by omega, by omega, by omega, by omega, by omega, by omega, by omega, by omega, by omega, ?_⟩
  by_cases h2 : t.op ≤ 2
  · have h3 : t.path.toList = [] := by
      rcases Classical.em (t.path.toList = []) with e | e
      · exact e
      · exact absurd ⟨h2, .inl e⟩ a4
    rw [ByteArray.toList_eq] at h3
    have h4 := length_bs t.path
    unfold bs at h4
    rw [h3] at h4
    simp at h4
    omega
  · have h3 : goodP t.path = true := by
      cases e : goodP t.path with
      | true => rfl
      | false => exact absurd ⟨by omega, .inl e⟩ a5
    exact (goodP_size h3).2
set_option maxHeartbeats 600000 in
theorem encode_no (t : Txn) (w : World) (hp : t.path.size ≤ 9223372036854775807) (hg : goodT t ≠ 0) :
    Calls Tryd.prog 11 #[vTxn t] w fun e w' => e = .returned (.tuple #[.string ⟨#[]⟩, .int .i64 (goodT t)]) ∧ Below w.heap.size w w' := by
  have HG := Lib.hid (fun w => tgood_any t w hp)
  have hne : (goodT t != 0) = true := bne_iff_ne.2 hg
  generalize goodT t = g at *
  clear hg
  obtain ⟨z, o, s, p, d, v, ow⟩ := t
  dsimp only at *
  go_enter Tryd.func11, Tryd.ntmps11
  go_wp2_with (go_at_call 20; refine (HG.out _).mono ?_; rintro e w1 ⟨rfl, hb1⟩; obtain ⟨ext1, d1, rfl⟩ := Below.grown_eq _ hb1; clear hb1 HG)
  go_ret2
  exact ⟨rfl, (by repeat (first | exact Below.refl _ _ | assumption | refine Below.drew ?_ | refine Below.drewN' ?_ _ | refine below_grow0 _ _ ?_ | refine below_alloc0 _ ?_ | refine Below.alloc ?_ (by first | omega | (simp; done) | (simp; omega)) _ | refine Below.setCell ?_ (by first | omega | (simp; done) | (simp; omega)) _ | refine Below.grow _ _ _ ?_ (by first | omega | (simp; done) | (simp; omega))))⟩
theorem encode_any (t : Txn) (w : World) (hp : t.path.size ≤ 9223372036854775807) :
    Calls Tryd.prog 11 #[vTxn t] w fun e w' => e = .returned (.tuple #[.string (encR t), .int .i64 (goodT t)]) ∧ Below w.heap.size w w' := by
  by_cases hg : goodT t = 0
  · obtain ⟨z0, z1, o0, o1, s0, s1, v0, v1, w0, w1, d1, p1⟩ := goodT_facts t hg
    have e : encR t = ⟨(recT t).toArray⟩ := if_pos hg
    rw [e, hg]
    unfold recT vTxn
    obtain ⟨z, o, s, p, d, v, ow⟩ := t
    dsimp only at *
    obtain ⟨z, rfl⟩ := Int.eq_ofNat_of_zero_le z0
    obtain ⟨o, rfl⟩ := Int.eq_ofNat_of_zero_le (show 0 ≤ o by omega)
    obtain ⟨s, rfl⟩ := Int.eq_ofNat_of_zero_le (show 0 ≤ s by omega)
    obtain ⟨v, rfl⟩ := Int.eq_ofNat_of_zero_le v0
    obtain ⟨ow, rfl⟩ := Int.eq_ofNat_of_zero_le w0
    exact encode_walk z o s v ow p d w hg (by omega) (by omega) (by omega) (by omega) (by omega) p1 d1
  · have e : encR t = ⟨#[]⟩ := if_neg hg
    rw [e]
    exact encode_no t w hp hg
end Go.Proofs.YtfaghpdhinfblaaDoor

/- zxid.small: a number of at most ten digits, without noughts ahead. -/
namespace Go.Proofs.YtfaghpdhinfblaaDoor
open Go.RowKit
def digit (c : UInt8) : Bool := decide (48 ≤ c.toNat ∧ c.toNat ≤ 57)
def valD (l : List UInt8) : Nat := l.foldl (fun n c => n * 10 + (c.toNat - 48)) 0
def smallOk (l : List UInt8) : Bool := decide (l ≠ []) && (decide (l.length ≤ 10) && (!(decide (1 < l.length) && decide (l[0]? = some 48)) && l.all digit))
def smallV (l : List UInt8) : Int := if smallOk l then (valD l : Nat) else 0
theorem valD_snoc (l : List UInt8) (c : UInt8) : valD (l ++ [c]) = valD l * 10 + (c.toNat - 48) := by unfold valD; rw [List.foldl_append]; rfl
theorem valD_lt (l : List UInt8) (h : l.all digit = true) : ∀ k, k ≤ l.length → valD (l.take k) < 10 ^ k
  | 0, _ => by simp [valD]
  | k + 1, hk => by
    have ih := valD_lt l h k (by omega)
    have hx := List.getElem?_eq_getElem (l := l) (i := k) (by omega)
    have h2 : digit l[k] = true := List.all_eq_true.1 h _ (List.getElem_mem (by omega))
    unfold digit at h2
    rw [decide_eq_true_iff] at h2
    rw [List.take_add_one, hx, Option.toList_some, valD_snoc, Nat.pow_succ]
    omega
theorem valD_lt' (l : List UInt8) : ∀ k, (l.take k).all digit = true → k ≤ l.length → valD (l.take k) < 10 ^ k := by
  intro k h hk
  have := valD_lt (l.take k) h k (by rw [List.length_take]; omega)
  rwa [List.take_take, Nat.min_self] at this
theorem bs_inj0 {s : ByteArray} (h : bs s = []) : s = ⟨#[]⟩ := ByteArray.ext (Array.toList_inj.mp h)
theorem bytes_row (s : ByteArray) (cap : Nat) : bytesRow s cap = ((bs s).map (fun c : UInt8 => Value.int .u8 (c.toNat : Int)) ++ List.replicate (cap - s.size) (Value.int .u8 0)).toArray := by
  apply Array.ext'
  simp only [bytesRow, Array.toList_append, Array.toList_map, Array.toList_replicate]
  rfl
theorem row_cell (w : World) (s : ByteArray) (cap e : Nat) (f : Nat × Nat) (j : Nat) (c : UInt8) (h : (bs s)[j]? = some c) : ((w.drew).alloc (.cells (bytesRow s cap) e f)).cell? ⟨w.heap.size, j, none⟩ = some (.int .u8 (c.toNat : Int)) := by
  have h1 : ((w.drew).alloc (.cells (bytesRow s cap) e f)).heap[w.heap.size]? = some (.cells (bytesRow s cap) e f) := heap_alloc_new w.drew _
  unfold World.cell?
  simp only [h1]
  rw [bytes_row]
  have hj : j < (bs s).length := (List.getElem?_eq_some_iff.1 h).1
  simp only [List.getElem?_toArray]
  rw [List.getElem?_append_left (by simpa using hj), List.getElem?_map, h]
  rfl
end Go.Proofs.YtfaghpdhinfblaaDoor

/- wire's cursor: text, number. -/
namespace Go.Proofs.YtfaghpdhinfblaaDoor
open Go.RowKit Go.ChangeShapes Go.WideShapes Go.ChangeAt
/-- a cursor in the block g -/
def Cur (w : World) (g : Nat) (s : ByteArray) (bad : Bool) : Prop := w.cell? ⟨g, 0, none⟩ = some (.string s) ∧ w.cell? ⟨g, 1, none⟩ = some (.bool bad) ∧ w.frozen? ⟨g, 0, none⟩ = false ∧ w.frozen? ⟨g, 1, none⟩ = false
def badT (s : ByteArray) (bad : Bool) (n : Nat) : Bool := bad || decide (s.size < n)
def takeT (s : ByteArray) (bad : Bool) (n : Nat) : ByteArray := if badT s bad n then ⟨#[]⟩ else s.extract 0 n
def restT (s : ByteArray) (bad : Bool) (n : Nat) : ByteArray := if badT s bad n then s else s.extract n s.size
theorem cur_set0 {w : World} {g : Nat} {s : ByteArray} {bad : Bool} (h : Cur w g s bad) (t : ByteArray) : Cur (w.setCell ⟨g, 0, none⟩ (.string t)) g t bad := by
  obtain ⟨h1, h2, h3, h4⟩ := h
  exact ⟨World.cell?_setCell_same' _ _ _ (by rw [h1]; rfl), (World.cell?_setCell_other _ _ _ _ (fun e => by injection e with _ e; exact absurd e (by decide))).trans h2, (World.frozen?_setCell ..).trans h3, (World.frozen?_setCell ..).trans h4⟩
theorem cur_set1 {w : World} {g : Nat} {s : ByteArray} {bad : Bool} (h : Cur w g s bad) (b : Bool) : Cur (w.setCell ⟨g, 1, none⟩ (.bool b)) g s b := by
  obtain ⟨h1, h2, h3, h4⟩ := h
  exact ⟨(World.cell?_setCell_other _ _ _ _ (fun e => by injection e with _ e; exact absurd e (by decide))).trans h1, World.cell?_setCell_same' _ _ _ (by rw [h2]; rfl), (World.frozen?_setCell ..).trans h3, (World.frozen?_setCell ..).trans h4⟩
set_option maxHeartbeats 1000000 in
theorem text_any (g : Nat) (s : ByteArray) (bad : Bool) (n : Nat) (w : World) (h : Cur w g s bad) (hn : n < 4611686018427387904) (_hs : s.size ≤ 4611686018427387904) :
    Calls Tryd.prog 48 #[.pointer (some ⟨g, 0, none⟩), .int .i64 n] w fun e w' => e = .returned (.string (takeT s bad n)) ∧ Cur w' g (restT s bad n) (badT s bad n) ∧ w.grownBy w' (some g) := by
  have HC := Lib.hid h
  obtain ⟨h1, h2, h3, h4⟩ := h
  unfold takeT restT
  cases bad with
  | true =>
    have hb : badT s true n = true := rfl
    rw [hb]
    simp only [if_true]
    go_enter Tryd.func48, Tryd.ntmps48
    go_wp2_with fail
    go_ret
    exact ⟨rfl, cur_set1 HC.out true, grownBy_setCell _ _ _ _⟩
  | false =>
    by_cases hlt : s.size < n
    · have hb : badT s false n = true := by unfold badT; rw [decide_eq_true hlt]; rfl
      rw [hb]
      simp only [if_true]
      have hi : (decide ((s.size : Int) < (n : Int))) = true := decide_eq_true (by omega)
      clear hb
      go_enter Tryd.func48, Tryd.ntmps48
      go_wp2_with fail
      go_ret
      exact ⟨rfl, cur_set1 HC.out true, grownBy_setCell _ _ _ _⟩
    · have hb : badT s false n = false := by unfold badT; rw [decide_eq_false hlt]; rfl
      rw [hb]
      simp only [Bool.false_eq_true, if_false]
      have hi : (decide ((s.size : Int) < (n : Int))) = false := decide_eq_false (by omega)
      clear hb
      go_enter Tryd.func48, Tryd.ntmps48
      go_wp2_with fail
      go_ret
      exact ⟨rfl, cur_set0 HC.out _, grownBy_setCell _ _ _ _⟩
end Go.Proofs.YtfaghpdhinfblaaDoor

/- wire's cursor: number. -/
namespace Go.Proofs.YtfaghpdhinfblaaDoor
open Go.RowKit Go.ChangeShapes Go.WideShapes Go.ChangeAt
def valI (l : List UInt8) : Int := l.foldl (fun v c => wrap64 (v * 256 + (c.toNat : Int))) 0
theorem valI_snoc (l : List UInt8) (c : UInt8) : valI (l ++ [c]) = wrap64 (valI l * 256 + (c.toNat : Int)) := by unfold valI; rw [List.foldl_append]; rfl
theorem ofInt64_toNat (a : Int) : (BitVec.ofInt 64 a).toNat = (a % 18446744073709551616).toNat := by
  simp [BitVec.ofInt, Int.emod_def]
theorem bits_or8 (n : Int) (c : Nat) (hc : c < 256) : bits .or .i64 (wrap64 (n * 256)) (c : Int) = wrap64 (n * 256 + (c : Int)) := by
  have h1 : (BitVec.ofInt 64 (wrap64 (n * 256))).toNat = ((n % 72057594037927936).toNat) * 256 := by
    rw [ofInt64_toNat]; unfold wrap64; omega
  have h2 : (BitVec.ofInt 64 (c : Int)).toNat = c := by rw [ofInt64_toNat]; omega
  show IntKind.i64.wrap ((BitVec.ofInt 64 (wrap64 (n * 256)) ||| BitVec.ofInt 64 (c : Int)).toNat : Int) = _
  rw [BitVec.toNat_or, h1, h2]
  have h3 : (n % 72057594037927936).toNat * 256 ||| c = (n % 72057594037927936).toNat * 256 + c := by
    have := Nat.two_pow_add_eq_or_of_lt (i := 8) (b := c) (by omega) ((n % 72057594037927936).toNat)
    rw [Nat.mul_comm] at this
    exact this.symm
  rw [h3]
  unfold IntKind.wrap wrap64
  simp [IntKind.signed, IntKind.bits]
  omega
theorem takeT_size (s : ByteArray) (bad : Bool) (n : Nat) : (takeT s bad n).size ≤ s.size := by
  unfold takeT
  split
  · exact Nat.zero_le _
  · rw [ByteArray.size_extract]; omega
theorem cur_below {w w' : World} {g : Nat} {s : ByteArray} {bad : Bool} (h : Cur w g s bad) (hb : Below w.heap.size w w') : Cur w' g s bad := by
  obtain ⟨h1, h2, h3, h4⟩ := h
  have hg : g < w.heap.size := World.block_lt_of_cell? w _ h1
  exact ⟨(hb.cell (p := ⟨g, 0, none⟩) hg).trans h1, (hb.cell (p := ⟨g, 1, none⟩) hg).trans h2, (World.frozen?_of_block (a := ⟨g, 0, none⟩) (hb.block g hg)).trans h3, (World.frozen?_of_block (a := ⟨g, 1, none⟩) (hb.block g hg)).trans h4⟩
theorem below_grownBy {w w' : World} (hb : Below w.heap.size w w') (g : Nat) : w.grownBy w' (some g) := ⟨hb.os, hb.tape, hb.output, hb.size, fun k hk _ => hb.block k hk⟩
set_option maxHeartbeats 1000000 in
theorem number_any (g : Nat) (s : ByteArray) (bad : Bool) (n : Nat) (w : World) (h : Cur w g s bad) (hn : n < 4611686018427387904) (hs : s.size ≤ 4611686018427387904) :
    Calls Tryd.prog 49 #[.pointer (some ⟨g, 0, none⟩), .int .i64 n] w fun e w' => e = .returned (.int .i64 (valI (bs (takeT s bad n)))) ∧ Cur w' g (restT s bad n) (badT s bad n) ∧ w.grownBy w' (some g) := by
  have hconv := fun (w : World) (s : ByteArray) => run_bytes_of_string (P := Tryd.prog) w 9 59 5 s Tryd.underlying9 Tryd.underlying59 Tryd.underlying5
  have HT := Lib.hid (text_any g s bad n w h hn hs)
  have hz := takeT_size s bad n
  generalize takeT s bad n = t at *
  generalize restT s bad n = r at *
  generalize badT s bad n = b' at *
  clear h
  go_enter Tryd.func49, Tryd.ntmps49
  go_wp2_with (go_at_call 48; refine (HT.out).mono ?_; rintro e w1 ⟨rfl, hc1, hg1⟩; have HC1 := Lib.hid hc1; have HG1 := Lib.hid hg1; clear hc1 hg1 HT)
  have HC2 := Lib.hid (fun (j : Nat) (c : UInt8) (h : (bs t)[j]? = some c) => show ((w1.alloc (.cells (bytesRow t (grownCap w1 t.size 0 5)) 5 ((bytesRow t (grownCap w1 t.size 0 5)).size, (bytesRow t (grownCap w1 t.size 0 5)).size + 1))).drew).cell? ⟨w1.heap.size, j, none⟩ = some (.int .u8 (c.toNat : Int)) from row_cell w1 t _ _ _ j c h)
  have hB1 : Below w1.heap.size w1 ((w1.alloc (.cells (bytesRow t (grownCap w1 t.size 0 5)) 5 ((bytesRow t (grownCap w1 t.size 0 5)).size, (bytesRow t (grownCap w1 t.size 0 5)).size + 1))).drew) := (by repeat (first | exact Below.refl _ _ | assumption | refine Below.drew ?_ | refine Below.drewN' ?_ _ | refine below_grow0 _ _ ?_ | refine below_alloc0 _ ?_ | refine Below.alloc ?_ (by first | omega | (simp; done) | (simp; omega)) _ | refine Below.setCell ?_ (by first | omega | (simp; done) | (simp; omega)) _ | refine Below.grow _ _ _ ?_ (by first | omega | (simp; done) | (simp; omega))))
  have HCU := Lib.hid (cur_below HC1.out hB1)
  have HGR := Lib.hid (HG1.out.trans (below_grownBy hB1 g))
  clear HC1 HG1 hB1
  generalize ((w1.alloc (.cells (bytesRow t (grownCap w1 t.size 0 5)) 5 ((bytesRow t (grownCap w1 t.size 0 5)).size, (bytesRow t (grownCap w1 t.size 0 5)).size + 1))).drew) = W1 at *
  generalize grownCap w1 t.size 0 5 = cap at *
  go_loopw [5, 13] (fun v i wr => ∃ k : Nat, k ≤ t.size ∧ v = .int .i64 (valI ((bs t).take k)) ∧ i = .int .i64 k ∧ wr = W1) (fun _ i _ => t.size - (intOf i).toNat)
  case atStart => exact ⟨0, Nat.zero_le _, rfl, rfl, rfl⟩
  case round =>
    obtain ⟨k, hk, rfl, rfl, rfl⟩ := hrel
    have hlen := length_bs t
    by_cases hlt : k < t.size
    · have hx : (bs t)[k]? = some ((bs t)[k]'(by omega)) := List.getElem?_eq_getElem _
      have hc := HC2.out k _ hx
      have htk : (bs t).take (k + 1) = (bs t).take k ++ [(bs t)[k]'(by omega)] := by rw [List.take_add_one, hx]; rfl
      generalize (bs t)[k]'(by omega) = c at *
      have hc255 : c.toNat < 256 := c.toNat_lt
      have HV := Lib.hid (show valI ((bs t).take (k + 1)) = wrap64 (valI ((bs t).take k) * 256 + (c.toNat : Int)) by rw [htk, valI_snoc])
      generalize valI ((bs t).take k) = n0 at *
      clear htk hx
      go_wp2_with fail
      exact ⟨⟨k + 1, by omega, by rw [HV.out, bits_or8 n0 c.toNat hc255], by go_num, trivial⟩, by simp [intOf]; omega⟩
    · have hk' : k = t.size := by omega
      subst hk'
      rw [List.take_of_length_le (by omega)]
      go_wp2_with fail
      go_ret
      exact ⟨rfl, HCU.out, HGR.out⟩
end Go.Proofs.YtfaghpdhinfblaaDoor

/- wire.Decode as a function of bytes. -/
namespace Go.Proofs.YtfaghpdhinfblaaDoor
open Go.RowKit
abbrev txn0 : Txn := ⟨0, 0, 0, ⟨#[]⟩, ⟨#[]⟩, 0, 0⟩
def dB10 (n z o ss v ow : Int) (p d s : ByteArray) (b : Bool) : Txn × Int × Int :=
  bif b || !s.toList.isEmpty then (txn0, 0, 2) else bif goodT ⟨z, o, ss, p, d, v, ow⟩ != 0 then (txn0, 0, goodT ⟨z, o, ss, p, d, v, ow⟩) else (⟨z, o, ss, p, d, v, ow⟩, n + 7, 0)
def dB9 (n z o ss v ow : Int) (p : ByteArray) (dl : Nat) (s : ByteArray) (b : Bool) : Txn × Int × Int := dB10 n z o ss v ow p (takeT s b dl) (restT s b dl) (badT s b dl)
def dB8 (n z o ss v ow : Int) (p s : ByteArray) (b : Bool) : Txn × Int × Int := dB9 n z o ss v ow p (valI (bs (takeT s b 2))).toNat (restT s b 2) (badT s b 2)
def dB7 (n z o ss v ow : Int) (pl : Nat) (s : ByteArray) (b : Bool) : Txn × Int × Int := dB8 n z o ss v ow (takeT s b pl) (restT s b pl) (badT s b pl)
def dB6 (n z o ss v ow : Int) (s : ByteArray) (b : Bool) : Txn × Int × Int := dB7 n z o ss v ow (valI (bs (takeT s b 1))).toNat (restT s b 1) (badT s b 1)
def dB5 (n z o ss v : Int) (s : ByteArray) (b : Bool) : Txn × Int × Int := dB6 n z o ss v (valI (bs (takeT s b 4))) (restT s b 4) (badT s b 4)
def dB4 (n z o ss : Int) (s : ByteArray) (b : Bool) : Txn × Int × Int := dB5 n z o ss (valI (bs (takeT s b 4))) (restT s b 4) (badT s b 4)
def dB3 (n z o : Int) (s : ByteArray) (b : Bool) : Txn × Int × Int := dB4 n z o (valI (bs (takeT s b 4))) (restT s b 4) (badT s b 4)
def dB2 (n z : Int) (s : ByteArray) (b : Bool) : Txn × Int × Int := dB3 n z (valI (bs (takeT s b 1))) (restT s b 1) (badT s b 1)
def dB1 (n : Int) (s : ByteArray) (b : Bool) : Txn × Int × Int := dB2 n (valI (bs (takeT s b 8))) (restT s b 8) (badT s b 8)
def dec4 (s : ByteArray) (n : Nat) (B : ByteArray) (sum : Int) (b4 : Bool) : Txn × Int × Int :=
  bif b4 then (txn0, 0, 2) else bif ((sumN (bs (s.extract 0 (3 + n))) : Nat) : Int) != sum then (txn0, 0, 5) else dB1 n B false
def dec3 (s : ByteArray) (n : Nat) (B s3 : ByteArray) (b3 : Bool) : Txn × Int × Int := dec4 s n B (valI (bs (takeT s3 b3 4))) (badT s3 b3 4)
def dec2 (s : ByteArray) (n : Nat) (s2 : ByteArray) (b2 : Bool) : Txn × Int × Int :=
  bif b2 || decide (1024 < (n : Int)) then (txn0, 0, 2) else dec3 s n (takeT s2 b2 n) (restT s2 b2 n) (badT s2 b2 n)
def dec1 (s t1 s1 : ByteArray) (b1 : Bool) : Txn × Int × Int :=
  bif !(t1.toList == [84]) then (txn0, 0, 2) else dec2 s (valI (bs (takeT s1 b1 2))).toNat (restT s1 b1 2) (badT s1 b1 2)
/-- what Decode answers -/
def decR (s : ByteArray) : Txn × Int × Int := dec1 s (takeT s false 1) (restT s false 1) (badT s false 1)
theorem dec1_bad {s t1 s1 : ByteArray} {b1 : Bool} (h : (!(t1.toList == [84])) = true) : dec1 s t1 s1 b1 = (txn0, 0, 2) := by unfold dec1; rw [h]; rfl
theorem dec1_ok {s t1 s1 : ByteArray} {b1 : Bool} (h : (!(t1.toList == [84])) = false) {n : Nat} (hn : valI (bs (takeT s1 b1 2)) = (n : Int)) : dec1 s t1 s1 b1 = dec2 s n (restT s1 b1 2) (badT s1 b1 2) := by unfold dec1; rw [h, hn]; rfl
theorem dec2_bad {s s2 : ByteArray} {n : Nat} {b2 : Bool} (h : b2 = true) : dec2 s n s2 b2 = (txn0, 0, 2) := by unfold dec2; rw [h]; rfl
theorem dec2_big {s s2 : ByteArray} {n : Nat} {b2 : Bool} (h : 1024 < (n : Int)) : dec2 s n s2 b2 = (txn0, 0, 2) := by unfold dec2; rw [decide_eq_true h, Bool.or_true]; rfl
theorem dec2_ok {s s2 : ByteArray} {n : Nat} {b2 : Bool} (h : ¬ b2 = true) (h' : (n : Int) ≤ 1024) : dec2 s n s2 b2 = dec3 s n (takeT s2 b2 n) (restT s2 b2 n) (badT s2 b2 n) := by
  unfold dec2; rw [Bool.eq_false_iff.2 h, decide_eq_false (by omega)]; rfl
theorem dec4_bad {s B : ByteArray} {n : Nat} {sum : Int} {b4 : Bool} (h : b4 = true) : dec4 s n B sum b4 = (txn0, 0, 2) := by unfold dec4; rw [h]; rfl
theorem dec4_sum {s B : ByteArray} {n : Nat} {sum : Int} {b4 : Bool} (h : b4 = false) (h' : (((sumN (bs (s.extract 0 (3 + n))) : Nat) : Int) != sum) = true) : dec4 s n B sum b4 = (txn0, 0, 5) := by unfold dec4; rw [h, h']; rfl
theorem dec4_ok {s B : ByteArray} {n : Nat} {sum : Int} {b4 : Bool} (h : b4 = false) (h' : (((sumN (bs (s.extract 0 (3 + n))) : Nat) : Int) != sum) = false) : dec4 s n B sum b4 = dB1 n B false := by unfold dec4; rw [h, h']; rfl
theorem dB10_bad {n z o ss v ow : Int} {p d s : ByteArray} {b : Bool} (h : b = true) : dB10 n z o ss v ow p d s b = (txn0, 0, 2) := by unfold dB10; rw [h]; rfl
theorem dB10_more {n z o ss v ow : Int} {p d s : ByteArray} {b : Bool} (h : (!s.toList.isEmpty) = true) : dB10 n z o ss v ow p d s b = (txn0, 0, 2) := by unfold dB10; rw [h, Bool.or_true]; rfl
theorem dB10_not {n z o ss v ow : Int} {p d s : ByteArray} {b : Bool} (h : ¬ b = true) (h' : (!s.toList.isEmpty) = false) (hg : (goodT ⟨z, o, ss, p, d, v, ow⟩ != 0) = true) : dB10 n z o ss v ow p d s b = (txn0, 0, goodT ⟨z, o, ss, p, d, v, ow⟩) := by unfold dB10; rw [Bool.eq_false_iff.2 h, h', hg]; rfl
theorem dB10_ok {n z o ss v ow : Int} {p d s : ByteArray} {b : Bool} (h : ¬ b = true) (h' : (!s.toList.isEmpty) = false) (hg : (goodT ⟨z, o, ss, p, d, v, ow⟩ != 0) = false) : dB10 n z o ss v ow p d s b = (⟨z, o, ss, p, d, v, ow⟩, n + 7, 0) := by unfold dB10; rw [Bool.eq_false_iff.2 h, h', hg]; rfl
def valN (l : List UInt8) : Nat := l.foldl (fun v c => v * 256 + c.toNat) 0
theorem valN_snoc (l : List UInt8) (c : UInt8) : valN (l ++ [c]) = valN l * 256 + c.toNat := by unfold valN; rw [List.foldl_append]; rfl
theorem list_snoc_rec {P : List UInt8 → Prop} (h0 : P []) (h1 : ∀ l c, P l → P (l ++ [c])) (l : List UInt8) : P l := by
  rw [← List.reverse_reverse l]
  induction l.reverse with
  | nil => exact h0
  | cons c r ih => rw [List.reverse_cons]; exact h1 _ _ ih
theorem valN_lt (l : List UInt8) : valN l < 256 ^ l.length := by
  refine list_snoc_rec (P := fun l => valN l < 256 ^ l.length) ?_ ?_ l
  · exact Nat.one_pos
  · intro l c h
    have := c.toNat_lt
    rw [valN_snoc, List.length_append, List.length_singleton, Nat.pow_succ]
    omega
theorem valI_nat (l : List UInt8) (h : l.length ≤ 7) : valI l = (valN l : Int) := by
  revert h
  refine list_snoc_rec (P := fun l => l.length ≤ 7 → valI l = (valN l : Int)) ?_ ?_ l
  · intro _; rfl
  · intro l c ih h
    rw [List.length_append, List.length_singleton] at h
    have hl : valN (l ++ [c]) < 256 ^ 7 := Nat.lt_of_lt_of_le (valN_lt _) (Nat.pow_le_pow_right (by decide) (by rw [List.length_append, List.length_singleton]; exact h))
    rw [valI_snoc, ih (by omega), valN_snoc]
    rw [valN_snoc] at hl
    unfold wrap64
    omega
theorem takeT_len (s : ByteArray) (b : Bool) (n : Nat) : (bs (takeT s b n)).length ≤ n := by
  unfold takeT
  split
  · exact Nat.zero_le _
  · rw [length_bs, ByteArray.size_extract]; omega
theorem valT (s : ByteArray) (b : Bool) (n : Nat) (hn : n ≤ 7) : ∃ k : Nat, valI (bs (takeT s b n)) = (k : Int) ∧ k < 256 ^ n :=
  ⟨valN _, valI_nat _ (Nat.le_trans (takeT_len s b n) hn), Nat.lt_of_lt_of_le (valN_lt _) (Nat.pow_le_pow_right (by decide) (takeT_len s b n))⟩
theorem restT_size (s : ByteArray) (b : Bool) (n : Nat) : (restT s b n).size ≤ s.size := by
  unfold restT
  split
  · exact Nat.le_refl _
  · rw [ByteArray.size_extract]; omega
theorem bs_extractTD (s : ByteArray) (i j : Nat) : bs (s.extract i j) = ((bs s).take j).drop i := by
  unfold bs
  simp [ByteArray.data_extract, List.drop_take]
theorem tk_ok {s : ByteArray} {b : Bool} {n : Nat} (h : badT s b n = false) : b = false ∧ bs (takeT s b n) = (bs s).take n ∧ bs (restT s b n) = (bs s).drop n ∧ n ≤ s.size := by
  have hb := h
  unfold badT at h
  rw [Bool.or_eq_false_iff] at h
  obtain ⟨h1, h2⟩ := h
  have h3 : n ≤ s.size := by have := of_decide_eq_false h2; omega
  refine ⟨h1, ?_, ?_, h3⟩
  · unfold takeT
    rw [hb]
    simp only [Bool.false_eq_true, if_false]
    rw [bs_extractTD, List.drop_zero]
  · unfold restT
    rw [hb]
    simp only [Bool.false_eq_true, if_false]
    rw [bs_extractTD, List.take_of_length_le (by rw [length_bs]; exact Nat.le_refl _)]
end Go.Proofs.YtfaghpdhinfblaaDoor

/- The plain law of wire's records: what is written is read, and what is read was written so. -/
namespace Go.Proofs.YtfaghpdhinfblaaDoor
open Go.RowKit
abbrev bS (l : List UInt8) : ByteArray := ⟨l.toArray⟩
theorem bs_bS (l : List UInt8) : bs (bS l) = l := rfl
theorem bS_bs (s : ByteArray) : bS (bs s) = s := by
  apply ByteArray.ext
  simp [bs]
theorem bS_add (l : List UInt8) (m : ByteArray) : bS l ++ m = bS (l ++ bs m) := by
  apply ByteArray.ext
  simp [bs]
theorem bS_size (l : List UInt8) : (bS l).size = l.length := by show l.toArray.size = _; simp
theorem valN_cons (c : UInt8) (l : List UInt8) : valN (c :: l) = c.toNat * 256 ^ l.length + valN l := by
  refine list_snoc_rec (P := fun l => valN (c :: l) = c.toNat * 256 ^ l.length + valN l) ?_ ?_ l
  · show 0 * 256 + c.toNat = c.toNat * 1 + 0
    omega
  · intro l d ih
    rw [← List.cons_append, valN_snoc, ih, valN_snoc, List.length_append, List.length_singleton, Nat.pow_succ, Nat.add_mul, ← Nat.mul_assoc]
    omega
theorem valN_be : ∀ (n x : Nat), valN (be n x) = x % 256 ^ n
  | 0, x => by rw [Nat.pow_zero, Nat.mod_one]; rfl
  | n + 1, x => by
    have h : be (n + 1) x = UInt8.ofNat (x / 256 ^ n) :: be n x := rfl
    rw [h, valN_cons, valN_be n x, be_length, Nat.mod_pow_succ, Nat.mul_comm, Nat.add_comm]
    congr 2
theorem be_add : ∀ (n a v : Nat), be n (a * 256 ^ n + v) = be n v
  | 0, _, _ => rfl
  | n + 1, a, v => by
    have e : a * 256 ^ (n + 1) + v = (a * 256) * 256 ^ n + v := by rw [Nat.pow_succ, Nat.mul_comm (256 ^ n), Nat.mul_assoc]
    rw [e]
    show UInt8.ofNat (((a * 256) * 256 ^ n + v) / 256 ^ n) :: be n ((a * 256) * 256 ^ n + v) = UInt8.ofNat (v / 256 ^ n) :: be n v
    rw [be_add n (a * 256) v, Nat.add_comm, Nat.add_mul_div_right _ _ (Nat.pow_pos (by decide))]
    congr 1
    apply UInt8.toNat_inj.1
    simp
theorem be_valN : ∀ (l : List UInt8), be l.length (valN l) = l
  | [] => rfl
  | c :: l => by
    have h : valN (c :: l) = c.toNat * 256 ^ l.length + valN l := valN_cons c l
    have hl := valN_lt l
    rw [h]
    show UInt8.ofNat ((c.toNat * 256 ^ l.length + valN l) / 256 ^ l.length) :: be l.length (c.toNat * 256 ^ l.length + valN l) = _
    rw [be_add, be_valN l, Nat.add_comm, Nat.add_mul_div_right _ _ (Nat.pow_pos (by decide)), Nat.div_eq_of_lt hl]
    congr 1
    apply UInt8.toNat_inj.1
    simp
theorem valI_wrap (l : List UInt8) : valI l = wrap64 (valN l : Int) := by
  refine list_snoc_rec (P := fun l => valI l = wrap64 (valN l : Int)) ?_ ?_ l
  · show (0 : Int) = wrap64 0
    unfold wrap64
    omega
  · intro l c ih
    rw [valI_snoc, ih, valN_snoc]
    unfold wrap64
    omega
theorem be_one (x : Nat) : be 1 x = [UInt8.ofNat x] := by
  show [UInt8.ofNat (x / 256 ^ 0)] = _
  rw [Nat.pow_zero, Nat.div_one]
theorem eat {x y : List UInt8} {n : Nat} (h : x.length = n) : badT (bS (x ++ y)) false n = false ∧ takeT (bS (x ++ y)) false n = bS x ∧ restT (bS (x ++ y)) false n = bS y := by
  have hb : badT (bS (x ++ y)) false n = false := by
    unfold badT
    rw [Bool.false_or, bS_size, List.length_append]
    exact decide_eq_false (by omega)
  obtain ⟨_, h2, h3, _⟩ := tk_ok hb
  refine ⟨hb, bs_inj ?_, bs_inj ?_⟩
  · rw [h2, bs_bS, bs_bS, ← h, List.take_left]
  · rw [h3, bs_bS, bs_bS, ← h, List.drop_left]
theorem dec_shape (B C more : List UInt8) (n : Nat) (hn : n ≤ 1024) (hB : B.length = n) (hC : C.length = 4) :
    decR (bS ([84] ++ (be 2 n ++ (B ++ (C ++ more))))) = bif ((sumN ([84] ++ be 2 n ++ B) : Nat) : Int) != (valN C : Int) then (txn0, 0, 5) else dB1 n (bS B) false := by
  have e1 := eat (x := [84]) (y := be 2 n ++ (B ++ (C ++ more))) (n := 1) rfl
  have e2 := eat (x := be 2 n) (y := B ++ (C ++ more)) (n := 2) (be_length _ _)
  have e3 := eat (x := B) (y := C ++ more) (n := n) hB
  have e4 := eat (x := C) (y := more) (n := 4) hC
  have hv : valI (bs (bS (be 2 n))) = (n : Int) := by
    rw [bs_bS, valI_nat _ (by rw [be_length]; decide), valN_be, Nat.mod_eq_of_lt (by omega)]
  have hx : bs ((bS ([84] ++ (be 2 n ++ (B ++ (C ++ more))))).extract 0 (3 + n)) = [84] ++ be 2 n ++ B := by
    rw [bs_extractTD, List.drop_zero, bs_bS]
    have : [84] ++ (be 2 n ++ (B ++ (C ++ more))) = ([84] ++ be 2 n ++ B) ++ (C ++ more) := by simp only [List.append_assoc]
    rw [this, List.take_left' (by simp [be_length]; omega)]
  unfold decR
  rw [e1.1, e1.2.1, e1.2.2]
  have h0 : (!((bS [84]).toList == [84])) = false := by rw [ByteArray.toList_eq]; rfl
  rw [dec1_ok h0 (n := n) (by rw [e2.2.1]; exact hv), e2.1, e2.2.2, dec2_ok (by decide) (by omega), e3.1, e3.2.1, e3.2.2]
  unfold dec3
  rw [e4.1, e4.2.1, bs_bS, valI_nat _ (by omega)]
  unfold dec4
  rw [hx]
  rfl
theorem dB1_eval (n : Int) (z o s v ow : Nat) (p d : List UInt8) (hz : z < 4611686018427387904) (ho : o < 256) (hs : s < 4294967296) (hv : v < 4294967296) (how : ow < 4294967296) (hp : p.length < 256) (hd : d.length < 65536) :
    dB1 n (bS (bodyL z o s v ow p d)) false = dB10 n z o s v ow (bS p) (bS d) (bS []) false := by
  have hb : bodyL z o s v ow p d = be 8 z ++ (be 1 o ++ (be 4 s ++ (be 4 v ++ (be 4 ow ++ (be 1 p.length ++ (p ++ (be 2 d.length ++ (d ++ [])))))))) := by
    unfold bodyL
    simp only [List.append_assoc, be_one, List.append_nil]
  have f8 : valI (bs (bS (be 8 z))) = (z : Int) := by
    rw [bs_bS, valI_wrap, valN_be, Nat.mod_eq_of_lt (by omega)]
    unfold wrap64
    omega
  have fk : ∀ (k x : Nat), k ≤ 7 → x < 256 ^ k → valI (bs (bS (be k x))) = (x : Int) := by
    intro k x hk hx
    rw [bs_bS, valI_nat _ (by rw [be_length]; exact hk), valN_be, Nat.mod_eq_of_lt hx]
  rw [hb]
  unfold dB1
  have e := eat (x := be 8 z) (y := be 1 o ++ (be 4 s ++ (be 4 v ++ (be 4 ow ++ (be 1 p.length ++ (p ++ (be 2 d.length ++ (d ++ [])))))))) (n := 8) (be_length _ _)
  rw [e.1, e.2.1, e.2.2, f8]
  unfold dB2
  have e := eat (x := be 1 o) (y := be 4 s ++ (be 4 v ++ (be 4 ow ++ (be 1 p.length ++ (p ++ (be 2 d.length ++ (d ++ []))))))) (n := 1) (be_length _ _)
  rw [e.1, e.2.1, e.2.2, fk 1 o (by decide) (by omega)]
  unfold dB3
  have e := eat (x := be 4 s) (y := be 4 v ++ (be 4 ow ++ (be 1 p.length ++ (p ++ (be 2 d.length ++ (d ++ [])))))) (n := 4) (be_length _ _)
  rw [e.1, e.2.1, e.2.2, fk 4 s (by decide) (by omega)]
  unfold dB4
  have e := eat (x := be 4 v) (y := be 4 ow ++ (be 1 p.length ++ (p ++ (be 2 d.length ++ (d ++ []))))) (n := 4) (be_length _ _)
  rw [e.1, e.2.1, e.2.2, fk 4 v (by decide) (by omega)]
  unfold dB5
  have e := eat (x := be 4 ow) (y := be 1 p.length ++ (p ++ (be 2 d.length ++ (d ++ [])))) (n := 4) (be_length _ _)
  rw [e.1, e.2.1, e.2.2, fk 4 ow (by decide) (by omega)]
  unfold dB6
  have e := eat (x := be 1 p.length) (y := p ++ (be 2 d.length ++ (d ++ []))) (n := 1) (be_length _ _)
  rw [e.1, e.2.1, e.2.2, fk 1 p.length (by decide) (by omega), Int.toNat_natCast]
  unfold dB7
  have e := eat (x := p) (y := be 2 d.length ++ (d ++ [])) (n := p.length) rfl
  rw [e.1, e.2.1, e.2.2]
  unfold dB8
  have e := eat (x := be 2 d.length) (y := d ++ []) (n := 2) (be_length _ _)
  rw [e.1, e.2.1, e.2.2, fk 2 d.length (by decide) (by omega), Int.toNat_natCast]
  unfold dB9
  have e := eat (x := d) (y := []) (n := d.length) rfl
  rw [e.1, e.2.1, e.2.2]
end Go.Proofs.YtfaghpdhinfblaaDoor

/- The plain laws of wire's records, together. -/
namespace Go.Proofs.YtfaghpdhinfblaaDoor
open Go.RowKit
theorem goodT_mk {z o s v ow : Int} {p d : ByteArray} (h : goodT ⟨z, o, s, p, d, v, ow⟩ = 0) : GoodF ⟨z, o, s, p, d, v, ow⟩ := goodT_facts _ h
theorem recT_length (t : Txn) : (recT t).length = (bodyL t.zxid.toNat t.op.toNat t.session.toNat t.version.toNat t.owner.toNat (bs t.path) (bs t.data)).length + 7 := by
  unfold recT recL headL
  simp [be_length]
  omega
theorem body_small (t : Txn) (h : goodT t = 0) : (bodyL t.zxid.toNat t.op.toNat t.session.toNat t.version.toNat t.owner.toNat (bs t.path) (bs t.data)).length ≤ 1024 := by
  have f := goodT_facts t h
  have := f.d1
  have := f.p1
  rw [bodyL_length, length_bs, length_bs]
  omega
theorem body_eval (t : Txn) (h : goodT t = 0) (n : Int) : dB1 n (bS (bodyL t.zxid.toNat t.op.toNat t.session.toNat t.version.toNat t.owner.toNat (bs t.path) (bs t.data))) false = (t, n + 7, 0) := by
  have f := goodT_facts t h
  have f1 := f.d1
  have f2 := f.p1
  have f3 := f.z0
  have f4 := f.z1
  have f5 := f.o0
  have f6 := f.o1
  have f7 := f.s0
  have f8 := f.s1
  have f9 := f.v0
  have f10 := f.v1
  have f11 := f.w0
  have f12 := f.w1
  rw [dB1_eval n _ _ _ _ _ _ _ (by omega) (by omega) (by omega) (by omega) (by omega) (by rw [length_bs]; omega) (by rw [length_bs]; omega)]
  rw [Int.toNat_of_nonneg f3, Int.toNat_of_nonneg (show 0 ≤ t.op by omega), Int.toNat_of_nonneg (show 0 ≤ t.session by omega), Int.toNat_of_nonneg f9, Int.toNat_of_nonneg f11, bS_bs, bS_bs]
  exact dB10_ok (by decide) (by rw [ByteArray.toList_eq]; rfl) (by show (goodT t != 0) = false; rw [h]; rfl)
theorem dec_back (t : Txn) (h : goodT t = 0) (more : List UInt8) : decR (bS (recT t ++ more)) = (t, ((recT t).length : Int), 0) := by
  have hB := body_small t h
  have hl := recT_length t
  have he := fun n => body_eval t h n
  rw [hl]
  unfold recT
  generalize bodyL t.zxid.toNat t.op.toNat t.session.toNat t.version.toNat t.owner.toNat (bs t.path) (bs t.data) = B at *
  have e : recL B ++ more = [84] ++ (be 2 B.length ++ (B ++ (be 4 (sumN (headL B)) ++ more))) := by
    unfold recL headL
    simp only [List.append_assoc]
  rw [e, dec_shape B _ more B.length hB rfl (be_length _ _), valN_be, Nat.mod_eq_of_lt (show sumN (headL B) < 256 ^ 4 from sumN_lt _)]
  have e2 : (((sumN ([84] ++ be 2 B.length ++ B) : Nat) : Int) != ((sumN (headL B) : Nat) : Int)) = false := by unfold headL; simp
  rw [e2, he]
  simp
theorem badT_true (s : ByteArray) (n : Nat) : badT s true n = true := rfl
theorem badT_short {l : List UInt8} {n : Nat} (h : l.length < n) : badT (bS l) false n = true := by
  unfold badT
  rw [bS_size, decide_eq_true h]
  rfl
theorem takeT_bad {s : ByteArray} {b : Bool} {n : Nat} (h : badT s b n = true) : takeT s b n = ⟨#[]⟩ := by unfold takeT; rw [h]; rfl
theorem dec_none : decR (bS []) = (txn0, 0, 2) := by
  unfold decR
  have h := badT_short (l := []) (n := 1) (by decide)
  rw [h, takeT_bad h]
  exact dec1_bad (by rw [ByteArray.toList_eq]; rfl)
theorem dec_len {y : List UInt8} (h : y.length < 2) : decR (bS ([84] ++ y)) = (txn0, 0, 2) := by
  have e1 := eat (x := [84]) (y := y) (n := 1) rfl
  have hb := badT_short (l := y) (n := 2) h
  unfold decR
  rw [e1.1, e1.2.1, e1.2.2]
  have h0 : (!((bS [84]).toList == [84])) = false := by rw [ByteArray.toList_eq]; rfl
  rw [dec1_ok h0 (n := 0) (by rw [takeT_bad hb]; rfl), hb]
  exact dec2_bad rfl
theorem dec_short {y : List UInt8} {n : Nat} (hn : n ≤ 1024) (h : y.length < n + 4) : decR (bS ([84] ++ (be 2 n ++ y))) = (txn0, 0, 2) := by
  have e1 := eat (x := [84]) (y := be 2 n ++ y) (n := 1) rfl
  have e2 := eat (x := be 2 n) (y := y) (n := 2) (be_length _ _)
  have hv : valI (bs (bS (be 2 n))) = (n : Int) := by
    rw [bs_bS, valI_nat _ (by rw [be_length]; decide), valN_be, Nat.mod_eq_of_lt (by omega)]
  unfold decR
  rw [e1.1, e1.2.1, e1.2.2]
  have h0 : (!((bS [84]).toList == [84])) = false := by rw [ByteArray.toList_eq]; rfl
  rw [dec1_ok h0 (n := n) (by rw [e2.2.1]; exact hv), e2.1, e2.2.2, dec2_ok (by decide) (by omega)]
  unfold dec3
  refine dec4_bad ?_
  by_cases hy : y.length < n
  · rw [badT_short hy, badT_true]
  · have e3 := eat (x := y.take n) (y := y.drop n) (n := n) (by rw [List.length_take]; omega)
    rw [List.take_append_drop] at e3
    rw [e3.1, e3.2.2]
    exact badT_short (by rw [List.length_drop]; omega)
theorem dec_cut (t : Txn) (h : goodT t = 0) (k : Nat) (hk : k < (recT t).length) : decR (bS ((recT t).take k)) = (txn0, 0, 2) := by
  have hB := body_small t h
  rw [recT_length t] at hk
  unfold recT
  generalize bodyL t.zxid.toNat t.op.toNat t.session.toNat t.version.toNat t.owner.toNat (bs t.path) (bs t.data) = B at *
  have e : recL B = [84] ++ (be 2 B.length ++ (B ++ be 4 (sumN (headL B)))) := by
    unfold recL headL
    simp only [List.append_assoc]
  rw [e]
  match k, hk with
  | 0, _ => exact dec_none
  | 1, _ => exact dec_len (y := []) (by decide)
  | 2, _ =>
    rw [List.take_append, List.take_of_length_le (show ([84] : List UInt8).length ≤ 2 by decide)]
    exact dec_len (by rw [List.length_take]; show min 1 _ < 2; omega)
  | k + 3, hk =>
    rw [List.take_append, List.take_of_length_le (show ([84] : List UInt8).length ≤ k + 3 by simp), List.take_append, List.take_of_length_le (show (be 2 B.length).length ≤ _ by rw [be_length]; simp)]
    refine dec_short hB ?_
    rw [List.length_take, be_length]
    simp
    omega
theorem xor_can {a b p : Nat} (h : a ^^^ p = b ^^^ p) : a = b := by
  have h2 := congrArg (· ^^^ p) h
  simpa [Nat.xor_assoc] using h2
theorem xor_top {a : Nat} (h : a < 2147483648) : 2147483648 ≤ a ^^^ 3988292384 := by
  refine Nat.ge_two_pow_of_testBit (i := 31) ?_
  rw [Nat.testBit_xor, Nat.testBit_lt_two_pow (show a < 2 ^ 31 from h)]
  decide
theorem rnd_inj {a b : Nat} (ha : a < 4294967296) (hb : b < 4294967296) (h : rnd a = rnd b) : a = b := by
  unfold rnd at h
  have t1 := xor_top (a := a / 2) (by omega)
  have t2 := xor_top (a := b / 2) (by omega)
  split at h
  · split at h
    · have := xor_can h
      omega
    · omega
  · split at h
    · omega
    · omega
theorem rndN_inj {a b : Nat} (ha : a < 4294967296) (hb : b < 4294967296) : ∀ n, rndN n a = rndN n b → a = b
  | 0, h => h
  | n + 1, h => rndN_inj ha hb n (rnd_inj (rndN_lt ha n) (rndN_lt hb n) h)
theorem sumK_inj : ∀ (l : List UInt8) {a b : Nat}, a < 4294967296 → b < 4294967296 → sumK l a = sumK l b → a = b
  | [], _, _, _, _, h => h
  | x :: r, a, b, ha, hb, h => by
    have hx : x.toNat < 256 := x.toNat_lt
    have h1 := sumK_inj r (rndN_lt (xor_lt ha (by omega)) 8) (rndN_lt (xor_lt hb (by omega)) 8) h
    exact xor_can (rndN_inj (xor_lt ha (by omega)) (xor_lt hb (by omega)) 8 h1)
theorem sumK_app (l m : List UInt8) (c : Nat) : sumK (l ++ m) c = sumK m (sumK l c) := by unfold sumK; rw [List.foldl_append]
theorem sumN_diff (l m : List UInt8) (x y : UInt8) (h : x ≠ y) : sumN (l ++ x :: m) ≠ sumN (l ++ y :: m) := by
  intro e
  have h1 := sumK_lt (l ++ x :: m) (c := 4294967295) (by decide)
  have h2 := sumK_lt (l ++ y :: m) (c := 4294967295) (by decide)
  have h3 : sumK (l ++ x :: m) 4294967295 = sumK (l ++ y :: m) 4294967295 := by unfold sumN at e; omega
  rw [sumK_app, sumK_app] at h3
  have hl := sumK_lt l (c := 4294967295) (by decide)
  have hx : x.toNat < 256 := x.toNat_lt
  have hy : y.toNat < 256 := y.toNat_lt
  have h4 := sumK_inj m (rndN_lt (xor_lt hl (show x.toNat < 4294967296 by omega)) 8) (rndN_lt (xor_lt hl (show y.toNat < 4294967296 by omega)) 8) h3
  have h5 := rndN_inj (xor_lt hl (by omega)) (xor_lt hl (by omega)) 8 h4
  rw [Nat.xor_comm, Nat.xor_comm _ y.toNat] at h5
  exact h (UInt8.toNat_inj.1 (xor_can h5))
end Go.Proofs.YtfaghpdhinfblaaDoor
