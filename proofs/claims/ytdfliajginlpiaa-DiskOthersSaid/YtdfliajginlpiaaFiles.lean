/- Files in order: plain laws of what is written, cut, removed and read. -/
import Derived.Test.YtdfliajginlpiaaDiskLaw
namespace Go.Proofs.Ytdfliajginlpiaa
open Go.RowKit Go.Lib
def ltF (x y : File) : Prop := cmpB x.name y.name < 0
theorem posF_of {l : List File} (hs : l.Pairwise ltF) (p : ByteArray) (k : Nat) (x : File) (hx : l[k]? = some x) : k < posK (l.map File.name) p ↔ cmpB x.name p < 0 := by
  have hk : k < l.length := (List.getElem?_eq_some_iff.1 hx).1
  have hlt : ∀ (k : Nat) (x : File), l[k]? = some x → ltK (l.map File.name) p k = decide (cmpB x.name p < 0) := fun k x h => ltK_of (g := File.name) h p
  obtain ⟨m, hm, h1, h2⟩ := border (ltK (l.map File.name) p) l.length (by
    intro i j hij hj h
    have hi := List.getElem?_eq_getElem (l := l) (i := i) (by omega)
    have hj2 := List.getElem?_eq_getElem (l := l) (i := j) hj
    rw [hlt j _ hj2] at h
    rw [hlt i _ hi]
    simp at h ⊢
    exact cb_trans _ _ _ (List.pairwise_iff_getElem.1 hs i j (by omega) hj hij) h)
  have hp : posK (l.map File.name) p = m := by
    unfold posK
    rw [List.length_map]
    exact bsr_sorted _ m l.length 0 l.length (by omega) (Nat.zero_le _) hm h1 h2
  rw [hp]
  constructor
  · intro h
    have := h1 k h
    rw [hlt k x hx] at this
    simpa using this
  · intro h
    rcases Nat.lt_or_ge k m with hlt2 | hge
    · exact hlt2
    · have := h2 k hge hk
      rw [hlt k x hx] at this
      simp at this
      omega
theorem atF_of {l : List File} (hs : l.Pairwise ltF) {k : Nat} {x : File} (hx : l[k]? = some x) : posK (l.map File.name) x.name = k ∧ isK (l.map File.name) x.name = true := by
  have h1 : ¬ k < posK (l.map File.name) x.name := by rw [posF_of hs x.name k x hx, cmpB_self]; omega
  have hk : k < l.length := (List.getElem?_eq_some_iff.1 hx).1
  have h2 : posK (l.map File.name) x.name = k := by
    rcases Nat.lt_or_ge (posK (l.map File.name) x.name) k with h | h
    · have hy := List.getElem?_eq_getElem (l := l) (i := posK (l.map File.name) x.name) (by omega)
      have h3 : cmpB l[posK (l.map File.name) x.name].name x.name < 0 := by
        have := List.pairwise_iff_getElem.1 hs _ k (by omega) hk h
        rw [(List.getElem?_eq_some_iff.1 hx).2] at this
        exact this
      rw [← posF_of hs x.name _ _ hy] at h3
      omega
    · omega
  exact ⟨h2, by rw [isK_in h2 hx, cmpB_self]; rfl⟩
theorem noneF_of {l : List File} (p : ByteArray) (h : ∀ x ∈ l, x.name ≠ p) : isK (l.map File.name) p = false := by
  rcases Nat.lt_or_ge (posK (l.map File.name) p) l.length with hlt | hge
  · have hy := List.getElem?_eq_getElem (l := l) (i := posK (l.map File.name) p) hlt
    rw [isK_in rfl hy]
    have := h _ (List.getElem_mem hlt)
    simp
    intro h0
    exact this (cmpB_zero h0)
  · exact isK_out rfl (by omega)
theorem beforeF_of {l : List File} (hs : l.Pairwise ltF) (p : ByteArray) : ∀ y ∈ l.take (posK (l.map File.name) p), cmpB y.name p < 0 := by
  intro y hy
  obtain ⟨k, hk⟩ := List.mem_iff_getElem?.1 hy
  rw [List.getElem?_take] at hk
  split at hk
  · exact (posF_of hs p k y hk).1 (by assumption)
  · cases hk
theorem behindF_of {l : List File} (hs : l.Pairwise ltF) (p : ByteArray) (h : isK (l.map File.name) p = false) : ∀ y ∈ l.drop (posK (l.map File.name) p), cmpB p y.name < 0 := by
  intro y hy
  obtain ⟨k, hk⟩ := List.mem_iff_getElem?.1 hy
  rw [List.getElem?_drop] at hk
  have h1 := mt (posF_of hs p _ y hk).2 (by omega)
  have h2 : cmpB y.name p ≠ 0 := by
    intro h0
    obtain rfl := cmpB_zero h0
    rw [(atF_of hs hk).2] at h
    cases h
  exact cb_swap' _ _ (by unfold cmpB at h1 h2; omega)
theorem isF_at {l : List File} {p : ByteArray} (h : isK (l.map File.name) p = true) : ∃ hq : posK (l.map File.name) p < l.length, (l[posK (l.map File.name) p]'hq).name = p := by
  have hq := isK_in_file h
  refine ⟨hq, ?_⟩
  rw [isK_in rfl (List.getElem?_eq_getElem hq)] at h
  exact cmpB_zero (by simpa using h)
theorem fileAt_is {l : List File} {p : ByteArray} (h : isK (l.map File.name) p = true) : (fileAt l p).name = p ∧ fileAt l p ∈ l := by
  obtain ⟨hq, hn⟩ := isF_at h
  have : fileAt l p = l[posK (l.map File.name) p] := by
    unfold fileAt
    rw [List.getD_eq_getElem?_getD, List.getElem?_eq_getElem hq]
    rfl
  rw [this]
  exact ⟨hn, List.getElem_mem hq⟩
theorem lookF_of {l : List File} (hs : l.Pairwise ltF) {y : File} (hy : y ∈ l) : isK (l.map File.name) y.name = true ∧ fileAt l y.name = y := by
  obtain ⟨k, hk⟩ := List.mem_iff_getElem?.1 hy
  obtain ⟨h1, h2⟩ := atF_of hs hk
  refine ⟨h2, ?_⟩
  unfold fileAt
  rw [h1, List.getD_eq_getElem?_getD, hk]
  rfl
/-- a file put where it stands, or would -/
def putL (l : List File) (x : File) : List File := if isK (l.map File.name) x.name then l.set (posK (l.map File.name) x.name) x else l.take (posK (l.map File.name) x.name) ++ x :: l.drop (posK (l.map File.name) x.name)
theorem setF_split {l : List File} {q : Nat} (hq : q < l.length) (x : File) : l.set q x = l.take q ++ x :: l.drop (q + 1) := by rw [List.set_eq_take_append_cons_drop, if_pos hq]
theorem putL_sorted {l : List File} (hpw : l.Pairwise ltF) (x : File) : (putL l x).Pairwise ltF := by
  unfold putL
  cases hk : isK (l.map File.name) x.name with
  | true =>
    obtain ⟨hq, he⟩ := isF_at hk
    rw [if_pos rfl, setF_split hq]
    have e : l = l.take (posK (l.map File.name) x.name) ++ l[posK (l.map File.name) x.name] :: l.drop (posK (l.map File.name) x.name + 1) := by rw [List.getElem_cons_drop, List.take_append_drop]
    generalize l[posK (l.map File.name) x.name] = y at e he
    generalize posK (l.map File.name) x.name = q at e
    generalize l.take q = a at e ⊢
    generalize l.drop (q + 1) = b at e ⊢
    rw [e] at hpw
    simp only [List.pairwise_append, List.pairwise_cons, List.mem_cons, forall_eq_or_imp] at hpw ⊢
    unfold ltF at hpw ⊢
    rw [← he]
    exact hpw
  | false =>
    rw [if_neg (by simp)]
    have e := List.take_append_drop (posK (l.map File.name) x.name) l
    have hb := beforeF_of hpw x.name
    have ha := behindF_of hpw x.name hk
    generalize posK (l.map File.name) x.name = q at e hb ha
    generalize l.take q = a at e hb ⊢
    generalize l.drop q = b at e ha ⊢
    rw [← e] at hpw
    simp only [List.pairwise_append, List.pairwise_cons, List.mem_cons, forall_eq_or_imp] at hpw ⊢
    unfold ltF at hpw ⊢
    exact ⟨hpw.1, ⟨ha, hpw.2.1⟩, fun y hy => ⟨hb y hy, hpw.2.2 y hy⟩⟩
theorem mem_putL {l : List File} (hpw : l.Pairwise ltF) (x y : File) : y ∈ putL l x ↔ y = x ∨ (y ∈ l ∧ y.name ≠ x.name) := by
  unfold putL
  cases hk : isK (l.map File.name) x.name with
  | true =>
    obtain ⟨hq, he⟩ := isF_at hk
    rw [if_pos rfl, setF_split hq]
    have e : l = l.take (posK (l.map File.name) x.name) ++ l[posK (l.map File.name) x.name] :: l.drop (posK (l.map File.name) x.name + 1) := by rw [List.getElem_cons_drop, List.take_append_drop]
    generalize l[posK (l.map File.name) x.name] = z at e he
    generalize posK (l.map File.name) x.name = q at e
    generalize l.take q = a at e ⊢
    generalize l.drop (q + 1) = b at e ⊢
    rw [e] at hpw
    simp only [List.pairwise_append, List.pairwise_cons, List.mem_cons, forall_eq_or_imp] at hpw
    unfold ltF at hpw
    rw [e]
    simp only [List.mem_append, List.mem_cons]
    constructor
    · rintro (h | h | h)
      · exact .inr ⟨.inl h, fun hp => by have := (hpw.2.2 y h).1; rw [hp, he, cmpB_self] at this; omega⟩
      · exact .inl h
      · exact .inr ⟨.inr (.inr h), fun hp => by have := hpw.2.1.1 y h; rw [hp, he, cmpB_self] at this; omega⟩
    · rintro (h | ⟨h | h | h, hp⟩)
      · exact .inr (.inl h)
      · exact .inl h
      · exact absurd (h ▸ he) hp
      · exact .inr (.inr h)
  | false =>
    rw [if_neg (by simp)]
    have hm : ∀ z, z ∈ l ↔ z ∈ l.take (posK (l.map File.name) x.name) ∨ z ∈ l.drop (posK (l.map File.name) x.name) := fun z => by rw [← List.mem_append, List.take_append_drop]
    have hn : y ∈ l → y.name ≠ x.name := by
      intro h hp
      obtain ⟨k, hk2⟩ := List.mem_iff_getElem?.1 h
      have := (atF_of hpw hk2).2
      rw [hp, hk] at this
      cases this
    simp only [List.mem_append, List.mem_cons]
    rw [hm]
    rw [hm] at hn
    constructor
    · rintro (h | h | h)
      · exact .inr ⟨.inl h, hn (.inl h)⟩
      · exact .inl h
      · exact .inr ⟨.inr h, hn (.inr h)⟩
    · rintro (h | ⟨h | h, _⟩)
      · exact .inr (.inl h)
      · exact .inl h
      · exact .inr (.inr h)
/-- the list without what stands at p -/
def offL (l : List File) (p : ByteArray) : List File := l.take (posK (l.map File.name) p) ++ l.drop (posK (l.map File.name) p + 1)
theorem offL_sorted {l : List File} (hpw : l.Pairwise ltF) (p : ByteArray) : (offL l p).Pairwise ltF := by
  refine List.Pairwise.sublist ?_ hpw
  unfold offL
  have h1 : (l.take (posK (l.map File.name) p) ++ l.drop (posK (l.map File.name) p)).Sublist l := by rw [List.take_append_drop]; exact List.Sublist.refl _
  refine List.Sublist.trans (List.Sublist.append (List.Sublist.refl _) ?_) h1
  rw [← List.drop_drop]
  exact List.drop_sublist _ _
theorem mem_offL {l : List File} (hpw : l.Pairwise ltF) {p : ByteArray} (hk : isK (l.map File.name) p = true) (y : File) : y ∈ offL l p ↔ (y ∈ l ∧ y.name ≠ p) := by
  obtain ⟨hq, he⟩ := isF_at hk
  unfold offL
  have e : l = l.take (posK (l.map File.name) p) ++ l[posK (l.map File.name) p] :: l.drop (posK (l.map File.name) p + 1) := by rw [List.getElem_cons_drop, List.take_append_drop]
  generalize l[posK (l.map File.name) p] = z at e he
  generalize posK (l.map File.name) p = q at e
  generalize l.take q = a at e ⊢
  generalize l.drop (q + 1) = b at e ⊢
  rw [e] at hpw
  simp only [List.pairwise_append, List.pairwise_cons, List.mem_cons, forall_eq_or_imp] at hpw
  unfold ltF at hpw
  rw [e]
  simp only [List.mem_append, List.mem_cons]
  constructor
  · rintro (h | h)
    · exact ⟨.inl h, fun hp => by have := (hpw.2.2 y h).1; rw [hp, he, cmpB_self] at this; omega⟩
    · exact ⟨.inr (.inr h), fun hp => by have := hpw.2.1.1 y h; rw [hp, he, cmpB_self] at this; omega⟩
  · rintro ⟨h | h | h, hp⟩
    · exact .inl h
    · exact absurd (h ▸ he) hp
    · exact .inr h
theorem goodD_iff (l : List File) : goodD l = true ↔ l.length ≤ 16 ∧ (∀ x ∈ l, okF x = true) ∧ l.Pairwise ltF := by
  unfold goodD
  rw [Bool.and_eq_true, List.all_eq_true, decide_eq_true_iff]
  refine and_congr Iff.rfl ?_
  constructor
  · intro h
    have hstep : ∀ k x, l[k]? = some x → okF x = true ∧ ∀ j y, k = j + 1 → l[j]? = some y → cmpB y.name x.name < 0 := by
      intro k x hx
      have h1 := h k (List.mem_range.2 (List.getElem?_eq_some_iff.1 hx).1)
      unfold stepF at h1
      rw [hx] at h1
      simp only [Bool.and_eq_true] at h1
      refine ⟨h1.1, fun j y hj hy => ?_⟩
      subst hj
      have h2 := h1.2
      simp only [hy] at h2
      simpa using h2
    refine ⟨fun x hx => ?_, ?_⟩
    · obtain ⟨k, hk⟩ := List.mem_iff_getElem?.1 hx
      exact (hstep k x hk).1
    · have hadj : ∀ d i x y, l[i]? = some x → l[i + d + 1]? = some y → cmpB x.name y.name < 0 := by
        intro d
        induction d with
        | zero => intro i x y hx hy; exact (hstep (i + 1) y hy).2 i x rfl hx
        | succ d ih =>
          intro i x y hx hy
          have hlt := (List.getElem?_eq_some_iff.1 hy).1
          have hz := List.getElem?_eq_getElem (l := l) (i := i + d + 1) (by omega)
          exact cb_trans _ _ _ (ih i x _ hx hz) ((hstep (i + d + 1 + 1) y hy).2 (i + d + 1) _ rfl hz)
      rw [List.pairwise_iff_getElem]
      intro i j hi hj hij
      exact hadj (j - i - 1) i _ _ (List.getElem?_eq_getElem hi) (by rw [show i + (j - i - 1) + 1 = j from by omega]; exact List.getElem?_eq_getElem hj)
  · rintro ⟨hok, hs⟩ i hi
    have hi2 := List.mem_range.1 hi
    have hx := List.getElem?_eq_getElem hi2
    unfold stepF
    simp only [hx, Bool.and_eq_true]
    refine ⟨hok _ (List.getElem_mem hi2), ?_⟩
    cases i with
    | zero => rfl
    | succ j =>
      have hy := List.getElem?_eq_getElem (l := l) (i := j) (by omega)
      simp only [hy]
      exact decide_eq_true (List.pairwise_iff_getElem.1 hs j (j + 1) (by omega) hi2 (by omega))
/-- what a read gives, by the files -/
theorem read_mem {l : List File} (hg : goodD l = true) {x : File} (hx : x ∈ l) : readE l x.name = 0 ∧ readS l x.name = x.safe ++ x.tail := by
  have := lookF_of ((goodD_iff l).1 hg).2.2 hx
  unfold readE readS
  rw [hg, this.1, this.2]
  exact ⟨rfl, rfl⟩
theorem read_none {l : List File} (hg : goodD l = true) {p : ByteArray} (h : ∀ x ∈ l, x.name ≠ p) : readE l p = 7 ∧ readS l p = ⟨#[]⟩ := by
  have := noneF_of p h
  unfold readE readS
  rw [hg, this]
  exact ⟨rfl, rfl⟩
/-- two good disks with the same files under p read alike at p -/
theorem read_alike {l m : List File} (hl : goodD l = true) (hm : goodD m = true) (p : ByteArray) (h : ∀ x : File, x.name = p → (x ∈ m ↔ x ∈ l)) : readE m p = readE l p ∧ readS m p = readS l p := by
  by_cases hx : ∃ x, x ∈ l ∧ x.name = p
  · obtain ⟨x, h1, rfl⟩ := hx
    have a := read_mem hl h1
    have b := read_mem hm ((h x rfl).2 h1)
    exact ⟨b.1.trans a.1.symm, b.2.trans a.2.symm⟩
  · have a := read_none hl (p := p) (fun x h1 h2 => hx ⟨x, h1, h2⟩)
    have b := read_none hm (p := p) (fun x h1 h2 => hx ⟨x, (h x h2).1 h1, h2⟩)
    exact ⟨b.1.trans a.1.symm, b.2.trans a.2.symm⟩
theorem putL_good {l : List File} (hl : goodD l = true) {x : File} (hx : okF x = true) (hn : isK (l.map File.name) x.name = true ∨ l.length < 16) : goodD (putL l x) = true := by
  obtain ⟨h1, h2, h3⟩ := (goodD_iff l).1 hl
  refine (goodD_iff _).2 ⟨?_, ?_, putL_sorted h3 x⟩
  · unfold putL
    split
    · rw [List.length_set]; exact h1
    · rename_i hk
      rcases hn with h | h
      · exact absurd h hk
      · simp
        omega
  · intro y hy
    rcases (mem_putL h3 x y).1 hy with rfl | ⟨h, _⟩
    · exact hx
    · exact h2 y h
theorem putL_reads {l : List File} (hl : goodD l = true) {x : File} (hx : goodD (putL l x) = true) : readE (putL l x) x.name = 0 ∧ readS (putL l x) x.name = x.safe ++ x.tail :=
  read_mem hx ((mem_putL ((goodD_iff l).1 hl).2.2 x x).2 (.inl rfl))
theorem putL_others {l : List File} (hl : goodD l = true) {x : File} (hx : goodD (putL l x) = true) {p : ByteArray} (hp : p ≠ x.name) : readE (putL l x) p = readE l p ∧ readS (putL l x) p = readS l p := by
  refine read_alike hl hx p fun y hy => ?_
  rw [mem_putL ((goodD_iff l).1 hl).2.2]
  constructor
  · rintro (rfl | h)
    · exact absurd hy.symm hp
    · exact h.1
  · intro h
    exact .inr ⟨h, by rw [hy]; exact hp⟩
theorem offL_good {l : List File} (hl : goodD l = true) {p : ByteArray} (hk : isK (l.map File.name) p = true) : goodD (offL l p) = true := by
  obtain ⟨h1, h2, h3⟩ := (goodD_iff l).1 hl
  refine (goodD_iff _).2 ⟨?_, ?_, offL_sorted h3 p⟩
  · unfold offL
    simp
    omega
  · intro y hy
    exact h2 y ((mem_offL h3 hk y).1 hy).1
theorem crash_good {l : List File} (hl : goodD l = true) (n : Nat) : goodD (l.map (crashF n)) = true := by
  obtain ⟨h1, h2, h3⟩ := (goodD_iff l).1 hl
  refine (goodD_iff _).2 ⟨by simpa using h1, ?_, ?_⟩
  · intro y hy
    obtain ⟨x, hx, rfl⟩ := List.mem_map.1 hy
    have := h2 x hx
    unfold okF at this ⊢
    rw [Bool.and_eq_true, decide_eq_true_iff] at this ⊢
    refine ⟨this.1, ?_⟩
    have := this.2
    show (x.safe ++ x.tail.extract 0 (min n x.tail.size)).size + 0 ≤ 1048576
    rw [ByteArray.size_append, ByteArray.size_extract]
    omega
  · rw [List.pairwise_map]
    exact h3
theorem crash_reads {l : List File} (hl : goodD l = true) (n : Nat) {x : File} (hx : x ∈ l) : readE (l.map (crashF n)) x.name = 0 ∧ readS (l.map (crashF n)) x.name = x.safe ++ x.tail.extract 0 (min n x.tail.size) := by
  have := read_mem (crash_good hl n) (List.mem_map.2 ⟨x, hx, rfl⟩)
  exact ⟨this.1, this.2.trans ByteArray.append_empty⟩
end Go.Proofs.Ytdfliajginlpiaa
