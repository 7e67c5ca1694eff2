/- Lemmas for the statement: TreeL, TreeW, TreeG, TreeH, TreeGo, TreeX. -/
import Derived.Deep.CutRange
import Derived.Test.YteolglmifimnaaaDoorPt1
import Derived.Test.YteolglmifimnaaaDoorPt2
import Derived.Test.YteolglmifimnaaaDoorPt3
import Derived.Test.YteolglmifimnaaaDoorPt4
/- Trees: plain laws of nodes that stand in order. -/
namespace Go.Proofs.YteolglmifimnaaaDoor
open Go.RowKit
def toE (n : Node) : Entry := ⟨n.path, n.data, true⟩
theorem map_toE (l : List Node) : (l.map toE).map Entry.path = l.map Node.path := by rw [List.map_map]; rfl
def ltN (x y : Node) : Prop := cmpB x.path y.path < 0
def SortedN (l : List Node) : Prop := l.Pairwise ltN
theorem ltN_trans {a b c : Node} (h : ltN a b) (k : ltN b c) : ltN a c := cb_trans _ _ _ h k
theorem ltN_ne {a b : Node} (h : ltN a b) : a.path ≠ b.path := by
  intro e
  unfold ltN at h
  rw [e, cmpB_self] at h
  omega
theorem sortedE_of {l : List Node} (h : SortedN l) : SortedE (l.map toE) := by
  rw [sorted_pw, List.pairwise_map]
  exact h
theorem posN_E (l : List Node) (p : ByteArray) : posN l p = posK ((l.map toE).map Entry.path) p := by unfold posN; rw [map_toE]
theorem hasN_E (l : List Node) (p : ByteArray) : hasN l p = isK ((l.map toE).map Entry.path) p := by unfold hasN; rw [map_toE]
theorem posN_lt {l : List Node} (hs : SortedN l) (p : ByteArray) {k : Nat} {x : Node} (hx : l[k]? = some x) : k < posN l p ↔ cmpB x.path p < 0 := by
  rw [posN_E]
  exact pos_of (sortedE_of hs) p k (toE x) (by rw [List.getElem?_map, hx]; rfl)
theorem at_ofN {l : List Node} (hs : SortedN l) {k : Nat} {x : Node} (hx : l[k]? = some x) : posN l x.path = k ∧ hasN l x.path = true := by
  rw [posN_E, hasN_E]
  exact at_of (sortedE_of hs) (x := toE x) (by rw [List.getElem?_map, hx]; rfl)
theorem none_ofN {l : List Node} {p : ByteArray} (h : ∀ x ∈ l, x.path ≠ p) : hasN l p = false := by
  rw [hasN_E]
  refine none_of p (fun k x hx => ?_)
  rw [List.getElem?_map, Option.map_eq_some_iff] at hx
  obtain ⟨y, hy, rfl⟩ := hx
  exact h y (List.mem_of_getElem? hy)
theorem has_at {l : List Node} {p : ByteArray} (h : hasN l p = true) : ∃ x, l[posN l p]? = some x ∧ x.path = p := by
  rw [hasN_E] at h
  obtain ⟨hq, he⟩ := is_at h
  have h1 := List.getElem?_eq_getElem hq
  generalize (l.map toE)[posK ((l.map toE).map Entry.path) p]'hq = e at h1 he
  rw [← posN_E, List.getElem?_map, Option.map_eq_some_iff] at h1
  obtain ⟨y, hy, rfl⟩ := h1
  exact ⟨y, hy, he⟩
theorem has_iff {l : List Node} (hs : SortedN l) {p : ByteArray} : hasN l p = true ↔ ∃ x ∈ l, x.path = p := by
  constructor
  · intro h
    obtain ⟨x, hx, he⟩ := has_at h
    exact ⟨x, List.mem_of_getElem? hx, he⟩
  · rintro ⟨x, hx, rfl⟩
    obtain ⟨k, hk⟩ := List.mem_iff_getElem?.1 hx
    exact (at_ofN hs hk).2
theorem has_no {l : List Node} (hs : SortedN l) {p : ByteArray} : hasN l p = false ↔ ∀ x ∈ l, x.path ≠ p := by
  constructor
  · intro h x hx he
    rw [(has_iff hs).2 ⟨x, hx, he⟩] at h
    cases h
  · exact none_ofN
theorem get_ofN {l : List Node} (hs : SortedN l) {x : Node} (hx : x ∈ l) : hasN l x.path = true ∧ getN l x.path = x := by
  obtain ⟨k, hk⟩ := List.mem_iff_getElem?.1 hx
  obtain ⟨h1, h2⟩ := at_ofN hs hk
  refine ⟨h2, ?_⟩
  unfold getN
  rw [h2, if_pos rfl, h1, List.getD_eq_getElem?_getD, hk]
  rfl
theorem get_noN {l : List Node} {p : ByteArray} (h : hasN l p = false) : getN l p = noNode := by unfold getN; rw [h]; rfl
theorem get_mem {l : List Node} {p : ByteArray} (h : hasN l p = true) : getN l p ∈ l ∧ (getN l p).path = p := by
  obtain ⟨x, hx, he⟩ := has_at h
  have hg : getN l p = x := by
    unfold getN
    rw [if_pos h, List.getD_eq_getElem?_getD, hx]
    rfl
  rw [hg]
  exact ⟨List.mem_of_getElem? hx, he⟩
theorem uniqN {l : List Node} (hs : SortedN l) {x y : Node} (hx : x ∈ l) (hy : y ∈ l) (h : x.path = y.path) : x = y := by rw [← (get_ofN hs hx).2, ← (get_ofN hs hy).2, h]
theorem map_same {l : List Node} {f : Node → Node} (h : ∀ x ∈ l, f x = x) : l.map f = l := by
  induction l with
  | nil => rfl
  | cons a r ih => rw [List.map_cons, h a (by simp), ih (fun x hx => h x (by simp [hx]))]
theorem set_map {l : List Node} (hs : SortedN l) {k : Nat} {x u : Node} (hx : l[k]? = some x) (g : Node → Node) (hgx : g x = u) (hg : ∀ y ∈ l, y.path ≠ x.path → g y = y) : l.set k u = l.map g := by
  apply List.ext_getElem?
  intro i
  rw [List.getElem?_set, List.getElem?_map]
  have hk := (List.getElem?_eq_some_iff.1 hx).1
  by_cases hki : k = i
  · subst hki
    rw [if_pos rfl, if_pos hk, hx, ← hgx]
    rfl
  · rw [if_neg hki]
    cases hy : l[i]? with
    | none => rfl
    | some y =>
      have hne : y.path ≠ x.path := by
        intro e
        have h1 := (at_ofN hs hy).1
        have h2 := (at_ofN hs hx).1
        rw [e] at h1
        omega
      rw [Option.map_some, hg y (List.mem_of_getElem? hy) hne]
def bumpAt (d : ByteArray) (more z : Int) (n : Node) : Node := if n.path = d then bump n more z else n
theorem kidN_map {l : List Node} (hs : SortedN l) (d : ByteArray) (more z : Int) : kidN l d more z = l.map (bumpAt d more z) := by
  unfold kidN
  cases h : hasN l d with
  | false =>
    rw [if_neg (by simp), map_same]
    intro x hx
    unfold bumpAt
    rw [if_neg ((has_no hs).1 h x hx)]
  | true =>
    obtain ⟨x, hx, he⟩ := has_at h
    rw [if_pos rfl, List.getD_eq_getElem?_getD, hx]
    refine set_map hs hx _ ?_ ?_
    · unfold bumpAt
      rw [if_pos he]
      rfl
    · intro y hy hne
      unfold bumpAt
      rw [if_neg (by rw [← he]; exact hne)]
def putAt (x : Txn) (n : Node) : Node := if n.path = x.path then { n with data := x.data, version := x.version, mzxid := x.zxid } else n
theorem setN_map {l : List Node} (hs : SortedN l) {x : Txn} (h : hasN l x.path = true) : setN l x = l.map (putAt x) := by
  obtain ⟨n, hn, he⟩ := has_at h
  unfold setN
  rw [List.getD_eq_getElem?_getD, hn]
  refine set_map hs hn _ ?_ ?_
  · unfold putAt
    rw [if_pos he]
    rfl
  · intro y hy hne
    unfold putAt
    rw [if_neg (by rw [← he]; exact hne)]
theorem cut_get {α : Type} {l : List α} {k : Nat} {x : α} (h : l[k]? = some x) : l = l.take k ++ x :: l.drop (k + 1) := by
  obtain ⟨h1, h2⟩ := List.getElem?_eq_some_iff.1 h
  rw [← h2, List.getElem_cons_drop, List.take_append_drop]
theorem filter_same {α : Type} {l : List α} {f : α → Bool} (h : ∀ x ∈ l, f x = true) : l.filter f = l := List.filter_eq_self.2 h
theorem delN_filter {l : List Node} (hs : SortedN l) {p : ByteArray} (h : hasN l p = true) : delN l p = l.filter (fun n => decide (n.path ≠ p)) := by
  obtain ⟨x, hx, he⟩ := has_at h
  unfold delN
  have hc := cut_get hx
  generalize posN l p = k at hc
  generalize l.take k = a at hc ⊢
  generalize l.drop (k + 1) = b at hc ⊢
  subst hc
  unfold SortedN at hs
  rw [List.pairwise_append, List.pairwise_cons] at hs
  rw [List.filter_append, List.filter_cons_of_neg (by simp [he]), filter_same, filter_same]
  · intro y hy
    have := hs.2.1.1 y hy
    have := ltN_ne this
    simp
    rw [← he]
    exact fun e => this e.symm
  · intro y hy
    have := ltN_ne (hs.2.2 y hy x (by simp))
    simp
    rw [← he]
    exact this
theorem insN_parts {l : List Node} (hs : SortedN l) {x : Node} (h : hasN l x.path = false) : ∃ a b, l = a ++ b ∧ insN l x = a ++ x :: b ∧ SortedN (a ++ x :: b) := by
  refine ⟨l.take (posN l x.path), l.drop (posN l x.path), (List.take_append_drop _ _).symm, rfl, ?_⟩
  have hE := sortedE_of hs
  have hb := before_of hE x.path
  have ha := behind_of hE x.path (by rw [← hasN_E]; exact h)
  rw [← posN_E] at hb ha
  have e := List.take_append_drop (posN l x.path) l
  generalize posN l x.path = q at *
  rw [← List.map_take] at hb
  rw [← List.map_drop] at ha
  generalize l.take q = a at *
  generalize l.drop q = b at *
  unfold SortedN at *
  rw [← e] at hs
  rw [List.pairwise_append] at hs ⊢
  rw [List.pairwise_cons]
  refine ⟨hs.1, ⟨fun y hy => ha (toE y) (List.mem_map_of_mem hy), hs.2.1⟩, fun y hy u hu => ?_⟩
  have hyx : ltN y x := hb (toE y) (List.mem_map_of_mem hy)
  rcases List.mem_cons.1 hu with rfl | hu
  · exact hyx
  · exact hs.2.2 y hy u hu
theorem sorted_map {l : List Node} (hs : SortedN l) {f : Node → Node} (hf : ∀ x, (f x).path = x.path) : SortedN (l.map f) := by
  unfold SortedN at *
  rw [List.pairwise_map]
  refine hs.imp (fun h => ?_)
  unfold ltN at *
  rw [hf, hf]
  exact h
theorem sorted_filter {l : List Node} (hs : SortedN l) (f : Node → Bool) : SortedN (l.filter f) := List.Pairwise.filter f hs
theorem countP_map' {l : List Node} {f : Node → Node} (hf : ∀ x, (f x).path = x.path) (q : ByteArray) : (l.map f).countP (kidB q) = l.countP (kidB q) := by
  rw [List.countP_map]
  congr 1
  funext x
  simp only [Function.comp, kidB, hf]
theorem bumpAt_path (d : ByteArray) (more z : Int) (x : Node) : (bumpAt d more z x).path = x.path := by unfold bumpAt; split <;> rfl
theorem putAt_path (x : Txn) (n : Node) : (putAt x n).path = n.path := by unfold putAt; split <;> rfl
theorem pw_of_adj {α : Type} {R : α → α → Prop} (tr : ∀ a b c, R a b → R b c → R a c) : ∀ l : List α, (∀ i x y, l[i]? = some x → l[i + 1]? = some y → R x y) → l.Pairwise R
  | [], _ => .nil
  | [a], _ => List.pairwise_singleton R a
  | a :: b :: r, h => by
    have ih := pw_of_adj tr (b :: r) (fun i x y hx hy => h (i + 1) x y hx hy)
    have h0 := h 0 a b rfl rfl
    rw [List.pairwise_cons]
    refine ⟨fun y hy => ?_, ih⟩
    rcases List.mem_cons.1 hy with rfl | hy
    · exact h0
    · exact tr a b y h0 ((List.pairwise_cons.1 ih).1 y hy)
theorem adj_of_pw {α : Type} {R : α → α → Prop} {l : List α} (h : l.Pairwise R) {i j : Nat} {x y : α} (hij : i < j) (hx : l[i]? = some x) (hy : l[j]? = some y) : R x y := by
  obtain ⟨hi, rfl⟩ := List.getElem?_eq_some_iff.1 hx
  obtain ⟨hj, rfl⟩ := List.getElem?_eq_some_iff.1 hy
  exact List.pairwise_iff_getElem.1 h i j hi hj hij
/-! numbers in order -/
theorem posI_lt {l : List Int} (hs : l.Pairwise (· < ·)) (s : Int) {k : Nat} {x : Int} (hx : l[k]? = some x) : k < posI l s ↔ x < s := by
  have hk : k < l.length := (List.getElem?_eq_some_iff.1 hx).1
  obtain ⟨m, hm, h1, h2⟩ := border (ltI l s) l.length (by
    intro i j hij hj h
    have hi := List.getElem?_eq_getElem (l := l) (i := i) (by omega)
    have hj2 := List.getElem?_eq_getElem (l := l) (i := j) hj
    rw [ltI_of hj2] at h
    rw [ltI_of hi]
    have := adj_of_pw hs hij hi hj2
    simp at h ⊢
    omega)
  have hp : posI l s = m := by
    unfold posI
    exact bsr_sorted _ m l.length 0 l.length (by omega) (Nat.zero_le _) hm h1 h2
  rw [hp]
  constructor
  · intro h
    have := h1 k h
    rw [ltI_of hx] at this
    simpa using this
  · intro h
    rcases Nat.lt_or_ge k m with hlt2 | hge
    · exact hlt2
    · have := h2 k hge hk
      rw [ltI_of hx] at this
      simp at this
      omega
theorem isI_iff {l : List Int} (hs : l.Pairwise (· < ·)) {s : Int} : isI l s = true ↔ s ∈ l := by
  unfold isI
  rw [decide_eq_true_iff]
  constructor
  · exact List.mem_of_getElem?
  · intro h
    obtain ⟨k, hk⟩ := List.mem_iff_getElem?.1 h
    have h1 : ¬ k < posI l s := by rw [posI_lt hs s hk]; omega
    have h2 : posI l s = k := by
      rcases Nat.lt_or_ge (posI l s) k with h | h
      · have hkl := (List.getElem?_eq_some_iff.1 hk).1
        have hy := List.getElem?_eq_getElem (l := l) (i := posI l s) (by omega)
        have h3 := adj_of_pw hs h hy hk
        rw [← posI_lt hs s hy] at h3
        omega
      · omega
    rw [h2]
    exact hk
theorem isI_no {l : List Int} (hs : l.Pairwise (· < ·)) {s : Int} : isI l s = false ↔ s ∉ l := by
  rw [← isI_iff hs]
  cases isI l s <;> simp
theorem insS_spec {l : List Int} (hs : l.Pairwise (· < ·)) {s : Int} (h : s ∉ l) : (insS l s).Pairwise (· < ·) ∧ (∀ x, x ∈ insS l s ↔ x = s ∨ x ∈ l) ∧ (insS l s).length = l.length + 1 := by
  have hb : ∀ y ∈ l.take (posI l s), y < s := by
    intro y hy
    obtain ⟨k, hk⟩ := List.mem_iff_getElem?.1 hy
    rw [List.getElem?_take] at hk
    split at hk
    · exact (posI_lt hs s hk).1 (by assumption)
    · cases hk
  have ha : ∀ y ∈ l.drop (posI l s), s < y := by
    intro y hy
    have hne : y ≠ s := fun e => h (e ▸ List.mem_of_mem_drop hy)
    obtain ⟨k, hk⟩ := List.mem_iff_getElem?.1 hy
    rw [List.getElem?_drop] at hk
    have h1 := mt (posI_lt hs s hk).2 (by omega)
    omega
  have e := List.take_append_drop (posI l s) l
  have hle := posI_le l s
  unfold insS
  generalize posI l s = q at *
  have hlen : (l.take q).length = q := by rw [List.length_take]; omega
  have hlen2 : (l.drop q).length = l.length - q := by rw [List.length_drop]
  generalize l.take q = a at *
  generalize l.drop q = b at *
  rw [← e] at hs
  rw [List.pairwise_append] at hs
  refine ⟨?_, ?_, ?_⟩
  · rw [List.pairwise_append, List.pairwise_cons]
    refine ⟨hs.1, ⟨ha, hs.2.1⟩, fun y hy u hu => ?_⟩
    rcases List.mem_cons.1 hu with rfl | hu
    · exact hb y hy
    · exact hs.2.2 y hy u hu
  · intro x
    rw [← e]
    simp only [List.mem_append, List.mem_cons]
    constructor
    · rintro (h | h | h)
      · exact .inr (.inl h)
      · exact .inl h
      · exact .inr (.inr h)
    · rintro (h | h | h)
      · exact .inr (.inl h)
      · exact .inl h
      · exact .inr (.inr h)
  · rw [List.length_append, List.length_cons]
    omega
theorem delS_spec {l : List Int} (hs : l.Pairwise (· < ·)) {s : Int} (h : s ∈ l) : (delS l s).Pairwise (· < ·) ∧ (∀ x, x ∈ delS l s ↔ x ∈ l ∧ x ≠ s) ∧ (delS l s).length + 1 = l.length := by
  have hx : l[posI l s]? = some s := by
    have := (isI_iff hs).2 h
    unfold isI at this
    simpa using this
  have hc := cut_get hx
  have hq := (List.getElem?_eq_some_iff.1 hx).1
  unfold delS
  generalize posI l s = q at *
  have hlen : (l.take q).length = q := by rw [List.length_take]; omega
  have hlen2 : (l.drop (q + 1)).length = l.length - (q + 1) := by rw [List.length_drop]
  generalize l.take q = a at *
  generalize l.drop (q + 1) = b at *
  have hs2 := hs
  rw [hc, List.pairwise_append, List.pairwise_cons] at hs
  refine ⟨?_, ?_, ?_⟩
  · rw [List.pairwise_append]
    exact ⟨hs.1, hs.2.1.2, fun y hy u hu => hs.2.2 y hy u (by simp [hu])⟩
  · intro x
    rw [hc]
    simp only [List.mem_append, List.mem_cons]
    constructor
    · rintro (h | h)
      · exact ⟨.inl h, by have := hs.2.2 x h s (by simp); omega⟩
      · exact ⟨.inr (.inr h), by have := hs.2.1.1 x h; omega⟩
    · rintro ⟨h | h | h, hn⟩
      · exact .inl h
      · exact absurd h hn
      · exact .inr h
  · rw [List.length_append]
    omega
end Go.Proofs.YteolglmifimnaaaDoor

/- Trees: plain laws of a good tree, and of what is done to one. -/
namespace Go.Proofs.YteolglmifimnaaaDoor
open Go.RowKit
theorem split_slash : splitR slash = (⟨#[]⟩, ⟨#[]⟩, 7) := by unfold splitR; rw [if_pos good_slash, if_pos rfl]
theorem split_not {p : ByteArray} (h : goodP p = true) : (splitR p).2.2 = 0 ↔ p ≠ slash := by
  constructor
  · intro h0 e
    rw [e, split_slash] at h0
    cases h0
  · intro hs
    exact (split_join h hs).2.2.2
theorem kidB_iff {n : Node} (hg : goodP n.path = true) (q : ByteArray) : kidB q n = true ↔ n.path ≠ slash ∧ parent n.path = q := by
  unfold kidB
  rw [Bool.and_eq_true, decide_eq_true_iff, decide_eq_true_iff, split_not hg]
theorem parent_lt {p : ByteArray} (hg : goodP p = true) (hs : p ≠ slash) : (bs (parent p)).length < (bs p).length := by
  obtain ⟨h1, h2, h3, _⟩ := split_join hg hs
  obtain ⟨_, hn1, _⟩ := named_no h3
  unfold joinR at h1
  rw [h2, h3, Bool.and_self, if_pos rfl] at h1
  by_cases h4 : 200 < (joinT (splitR p).1 (splitR p).2.1).size
  · rw [if_pos h4] at h1
    injection h1 with _ h1
    cases h1
  · rw [if_neg h4] at h1
    injection h1 with h1 _
    have h5 : (bs (joinT (splitR p).1 (splitR p).2.1)).length = (bs p).length := congrArg (fun x => (bs x).length) h1
    unfold joinT at h5
    show (bs (splitR p).1).length < _
    split at h5
    · rename_i e
      rw [bs_append, List.length_append] at h5
      rw [e]
      omega
    · rw [bs_append, bs_append, List.length_append, List.length_append] at h5
      omega
theorem parent_ne {p : ByteArray} (hg : goodP p = true) (hs : p ≠ slash) : parent p ≠ p := by
  intro e
  have := parent_lt hg hs
  rw [e] at this
  omega
structure GoodW (z : Int) (l : List Node) (ss : List Int) : Prop where
  len : l.length ≤ 400
  zx : 0 ≤ z ∧ z < 4611686018427387904
  root : ∃ n r, l = n :: r ∧ n.path = slash ∧ n.owner = 0
  sorted : SortedN l
  sess : ss.Pairwise (· < ·)
  sessB : ∀ s ∈ ss, 1 ≤ s ∧ s ≤ 2147483647
  path : ∀ n ∈ l, goodP n.path = true ∧ n.data.size ≤ 256
  stat : ∀ n ∈ l, 0 ≤ n.version ∧ n.version ≤ 2147483647 ∧ 0 ≤ n.cversion ∧ 0 ≤ n.czxid ∧ n.czxid ≤ n.mzxid ∧ n.czxid ≤ n.pzxid ∧ n.mzxid ≤ z ∧ n.pzxid ≤ z
  own : ∀ n ∈ l, n.owner = 0 ∨ (n.owner ∈ ss ∧ n.kids = 0)
  up : ∀ n ∈ l, n.path = slash ∨ ∃ m ∈ l, m.path = parent n.path
  kids : ∀ n ∈ l, n.kids = ((l.countP (kidB n.path) : Nat) : Int)
theorem okN_at {z : Int} {l : List Node} {ss : List Int} {k : Nat} {x : Node} (h : l[k]? = some x) : okN ⟨z, l, ss⟩ k = (goodP x.path && (decide (x.data.size ≤ 256) && (lessB l k x && (statB z x && (ownB ss x && upB l x))))) := by
  unfold okN
  simp only [h]
theorem lessB_s {l : List Node} {j : Nat} {y : Node} (h : l[j]? = some y) (x : Node) : lessB l (j + 1) x = decide (cmpB y.path x.path < 0) := by
  unfold lessB
  simp only [h]
theorem okS_0 {l : List Int} {s : Int} (h : l[0]? = some s) : okS l 0 = (decide (1 ≤ s) && (decide (s ≤ 2147483647) && true)) := by unfold okS; rw [h]
theorem okS_s {l : List Int} {j : Nat} {s y : Int} (h : l[j + 1]? = some s) (hy : l[j]? = some y) : okS l (j + 1) = (decide (1 ≤ s) && (decide (s ≤ 2147483647) && decide (y < s))) := by
  unfold okS
  rw [h]
  simp only [hy]
theorem okS_b {l : List Int} {i : Nat} {s : Int} (h : l[i]? = some s) (hk : okS l i = true) : 1 ≤ s ∧ s ≤ 2147483647 := by
  unfold okS at hk
  rw [h] at hk
  simp only [Bool.and_eq_true, decide_eq_true_eq] at hk
  exact ⟨hk.1, hk.2.1⟩
theorem head_inv {z : Int} {l : List Node} {ss : List Int} (h : headB ⟨z, l, ss⟩ = true) : l.length ≤ 400 ∧ Zx z ∧ ∃ n, l[0]? = some n ∧ n.path = slash ∧ n.owner = 0 := by
  cases l with
  | nil => simp [headB] at h
  | cons n r =>
    unfold headB at h
    simp only [Bool.and_eq_true, decide_eq_true_eq] at h
    exact ⟨h.1, h.2.1, n, rfl, h.2.2⟩
theorem upB_iff {l : List Node} (hs : SortedN l) {n : Node} (hg : goodP n.path = true) : upB l n = true ↔ (n.path = slash ∨ ∃ m ∈ l, m.path = parent n.path) := by
  unfold upB
  rw [Bool.or_eq_true, decide_eq_true_iff, has_iff hs, Ne, split_not hg, Classical.not_not]
theorem ownB_iff {ss : List Int} (hs : ss.Pairwise (· < ·)) (n : Node) : ownB ss n = true ↔ (n.owner = 0 ∨ (n.owner ∈ ss ∧ n.kids = 0)) := by
  unfold ownB
  rw [Bool.or_eq_true, Bool.and_eq_true, decide_eq_true_iff, decide_eq_true_iff, isI_iff hs]
theorem full_no {l : List Node} : fullB l = false ↔ ∀ n ∈ l, n.cversion ≤ 2147483647 := by
  unfold fullB
  rw [List.any_eq_false]
  constructor
  · intro h n hn
    have := h n hn
    rw [decide_eq_true_iff] at this
    omega
  · intro h n hn
    rw [decide_eq_true_iff]
    have := h n hn
    omega
theorem good_iff (z : Int) (l : List Node) (ss : List Int) : goodTree ⟨z, l, ss⟩ = true ↔ GoodW z l ss ∧ fullB l = false := by
  unfold goodTree
  simp only [Bool.and_eq_true, List.all_eq_true, List.mem_range, decide_eq_true_eq]
  constructor
  · rintro ⟨hh, hS, hN, hK⟩
    obtain ⟨hl, hz, n0, hn0, hp0, ho0⟩ := head_inv hh
    have hN' : ∀ i n, l[i]? = some n → goodP n.path = true ∧ n.data.size ≤ 256 ∧ lessB l i n = true ∧ statB z n = true ∧ ownB ss n = true ∧ upB l n = true := by
      intro i n hi
      have := hN i (List.getElem?_eq_some_iff.1 hi).1
      rw [okN_at hi] at this
      simp only [Bool.and_eq_true, decide_eq_true_eq] at this
      exact this
    have hsess : ss.Pairwise (· < ·) := pw_of_adj (R := fun (a b : Int) => a < b) (fun _ _ _ => Int.lt_trans) ss (fun i x y hx hy => by
      have := hS (i + 1) (List.getElem?_eq_some_iff.1 hy).1
      rw [okS_s hy hx] at this
      simp only [Bool.and_eq_true, decide_eq_true_eq] at this
      exact this.2.2)
    have hsort : SortedN l := pw_of_adj (R := ltN) (fun _ _ _ => ltN_trans) l (fun i x y hx hy => by
      have := (hN' (i + 1) y hy).2.2.1
      rw [lessB_s hx] at this
      exact (of_decide_eq_true this : cmpB x.path y.path < 0))
    have hst : ∀ n ∈ l, 0 ≤ n.version ∧ n.version ≤ 2147483647 ∧ 0 ≤ n.cversion ∧ n.cversion ≤ 2147483647 ∧ 0 ≤ n.czxid ∧ n.czxid ≤ n.mzxid ∧ n.czxid ≤ n.pzxid ∧ n.mzxid ≤ z ∧ n.pzxid ≤ z := by
      intro n hn
      obtain ⟨i, hi⟩ := List.mem_iff_getElem?.1 hn
      exact of_decide_eq_true (hN' i n hi).2.2.2.1
    refine ⟨⟨hl, hz, ?_, hsort, hsess, ?_, ?_, ?_, ?_, ?_, ?_⟩, full_no.2 (fun n hn => (hst n hn).2.2.2.1)⟩
    · cases l with
      | nil => cases hn0
      | cons n r =>
        injection hn0 with hn0
        subst hn0
        exact ⟨n, r, rfl, hp0, ho0⟩
    · intro s hs
      obtain ⟨i, hi⟩ := List.mem_iff_getElem?.1 hs
      exact okS_b hi (hS i (List.getElem?_eq_some_iff.1 hi).1)
    · intro n hn
      obtain ⟨i, hi⟩ := List.mem_iff_getElem?.1 hn
      exact ⟨(hN' i n hi).1, (hN' i n hi).2.1⟩
    · intro n hn
      obtain ⟨a, b, c, d, e⟩ := hst n hn
      exact ⟨a, b, c, e⟩
    · intro n hn
      obtain ⟨i, hi⟩ := List.mem_iff_getElem?.1 hn
      exact (ownB_iff hsess n).1 (hN' i n hi).2.2.2.2.1
    · intro n hn
      obtain ⟨i, hi⟩ := List.mem_iff_getElem?.1 hn
      exact (upB_iff hsort (hN' i n hi).1).1 (hN' i n hi).2.2.2.2.2
    · exact hK
  · rintro ⟨h, hf⟩
    refine ⟨?_, ?_, ?_, h.kids⟩
    · obtain ⟨n, r, rfl, hp, ho⟩ := h.root
      unfold headB
      simp only [Bool.and_eq_true, decide_eq_true_eq]
      exact ⟨h.len, h.zx, hp, ho⟩
    · intro i hi
      have hx := List.getElem?_eq_getElem hi
      have hb := h.sessB _ (List.mem_of_getElem? hx)
      cases i with
      | zero =>
        rw [okS_0 hx, decide_eq_true hb.1, decide_eq_true hb.2]
        rfl
      | succ j =>
        have hy := List.getElem?_eq_getElem (l := ss) (i := j) (by omega)
        rw [okS_s hx hy, decide_eq_true hb.1, decide_eq_true hb.2, decide_eq_true (adj_of_pw h.sess (Nat.lt_succ_self j) hy hx)]
        rfl
    · intro i hi
      have hx := List.getElem?_eq_getElem hi
      generalize l[i] = n at hx
      have hm := List.mem_of_getElem? hx
      rw [okN_at hx]
      simp only [Bool.and_eq_true, decide_eq_true_eq]
      refine ⟨(h.path n hm).1, (h.path n hm).2, ?_, ?_, (ownB_iff h.sess n).2 (h.own n hm), (upB_iff h.sorted (h.path n hm).1).2 (h.up n hm)⟩
      · cases i with
        | zero => rfl
        | succ j =>
          have hy := List.getElem?_eq_getElem (l := l) (i := j) (by omega)
          rw [lessB_s hy]
          exact decide_eq_true (adj_of_pw h.sorted (Nat.lt_succ_self j) hy hx)
      · obtain ⟨a, b, c, e⟩ := h.stat n hm
        exact decide_eq_true ⟨a, b, c, full_no.1 hf n hm, e⟩
theorem good_parts {t : Tr} (h : goodTree t = true) : GoodW t.zxid t.nodes t.sess ∧ fullB t.nodes = false := (good_iff t.zxid t.nodes t.sess).1 h
section
variable {z z' : Int} {l : List Node} {ss : List Int}
theorem GoodW.rootOf (h : GoodW z l ss) {n : Node} (hn : n ∈ l) (hp : n.path = slash) : n.owner = 0 := by
  obtain ⟨m, r, e, hmp, hmo⟩ := h.root
  have hm : m ∈ l := by rw [e]; simp
  rw [uniqN h.sorted hn hm (hp.trans hmp.symm)]
  exact hmo
theorem GoodW.has_root (h : GoodW z l ss) : ∃ m ∈ l, m.path = slash := by
  obtain ⟨m, r, e, hmp, _⟩ := h.root
  exact ⟨m, by rw [e]; simp, hmp⟩
/-- a node that has no children is nobody's parent -/
theorem GoodW.no_kid (h : GoodW z l ss) {x m : Node} (hx : x ∈ l) (hk : x.kids = 0) (hm : m ∈ l) (hms : m.path ≠ slash) : parent m.path ≠ x.path := by
  intro e
  have h1 := h.kids x hx
  rw [hk] at h1
  have h2 : 0 < l.countP (kidB x.path) := List.countP_pos_iff.2 ⟨m, hm, (kidB_iff (h.path m hm).1 _).2 ⟨hms, e⟩⟩
  omega
/-- a parent is nobody's own -/
theorem GoodW.parent_free (h : GoodW z l ss) {x m : Node} (hm : m ∈ l) (hms : m.path ≠ slash) (hx : x ∈ l) (e : x.path = parent m.path) : x.owner = 0 := by
  rcases h.own x hx with h0 | ⟨_, hk⟩
  · exact h0
  · exact absurd e.symm (h.no_kid hx hk hm hms)
theorem GoodW.later (h : GoodW z l ss) (hz : z ≤ z') (hz2 : z' < 4611686018427387904) : GoodW z' l ss :=
  ⟨h.len, ⟨by have := h.zx; omega, hz2⟩, h.root, h.sorted, h.sess, h.sessB, h.path, fun n hn => by have := h.stat n hn; omega, h.own, h.up, h.kids⟩
theorem GoodW.with_sess (h : GoodW z l ss) {ts : List Int} (h1 : ts.Pairwise (· < ·)) (h2 : ∀ s ∈ ts, 1 ≤ s ∧ s ≤ 2147483647) (h3 : ∀ n ∈ l, n.owner = 0 ∨ n.owner ∈ ts) : GoodW z l ts :=
  ⟨h.len, h.zx, h.root, h.sorted, h1, h2, h.path, h.stat, fun n hn => by
    rcases h3 n hn with h0 | h0
    · exact .inl h0
    · rcases h.own n hn with h4 | ⟨_, h4⟩
      · exact .inl h4
      · exact .inr ⟨h0, h4⟩, h.up, h.kids⟩
theorem filter_cut (hs : SortedN l) {x : Node} (hx : x ∈ l) : ∃ a b, l = a ++ x :: b ∧ l.filter (fun n => decide (n.path ≠ x.path)) = a ++ b := by
  obtain ⟨k, hk⟩ := List.mem_iff_getElem?.1 hx
  refine ⟨l.take k, l.drop (k + 1), cut_get hk, ?_⟩
  have h1 := delN_filter hs (at_ofN hs hk).2
  rw [← h1]
  unfold delN
  rw [(at_ofN hs hk).1]
theorem goneN_is (hs : SortedN l) {x : Node} (hx : x ∈ l) (zz : Int) : goneN l x.path zz = (l.filter (fun n => decide (n.path ≠ x.path))).map (bumpAt (parent x.path) (-1) zz) := by
  have hd := delN_filter hs (get_ofN hs hx).1
  unfold goneN
  rw [kidN_map (by rw [hd]; exact sorted_filter hs _), hd]
theorem mem_gone (hs : SortedN l) {x : Node} (hx : x ∈ l) (zz : Int) (n : Node) : n ∈ goneN l x.path zz ↔ ∃ m ∈ l, m.path ≠ x.path ∧ n = bumpAt (parent x.path) (-1) zz m := by
  rw [goneN_is hs hx, List.mem_map]
  constructor
  · rintro ⟨m, hm, rfl⟩
    rw [List.mem_filter] at hm
    exact ⟨m, hm.1, by simpa using hm.2, rfl⟩
  · rintro ⟨m, hm, hne, rfl⟩
    exact ⟨m, List.mem_filter.2 ⟨hm, by simpa using hne⟩, rfl⟩
theorem gone_length (hs : SortedN l) {x : Node} (hx : x ∈ l) (zz : Int) : (goneN l x.path zz).length + 1 = l.length := by
  obtain ⟨a, b, e, hf⟩ := filter_cut hs hx
  rw [goneN_is hs hx, List.length_map, hf]
  rw [e]
  simp
  omega
theorem bumpAt_own (d : ByteArray) (more zz : Int) (n : Node) : (bumpAt d more zz n).owner = n.owner := by unfold bumpAt; split <;> rfl
theorem bumpAt_data (d : ByteArray) (more zz : Int) (n : Node) : (bumpAt d more zz n).data = n.data := by unfold bumpAt; split <;> rfl
theorem bumpAt_version (d : ByteArray) (more zz : Int) (n : Node) : (bumpAt d more zz n).version = n.version := by unfold bumpAt; split <;> rfl
theorem good_gone (h : GoodW z l ss) {x : Node} (hx : x ∈ l) (hne : x.path ≠ slash) (hk : x.kids = 0) : GoodW z (goneN l x.path z) ss := by
  obtain ⟨a, b, e, hf⟩ := filter_cut h.sorted hx
  have hmem := mem_gone h.sorted hx z
  have hxk := fun q => kidB_iff (h.path x hx).1 q
  refine ⟨?_, h.zx, ?_, ?_, h.sess, h.sessB, ?_, ?_, ?_, ?_, ?_⟩
  · have := gone_length h.sorted hx z
    have := h.len
    omega
  · obtain ⟨n, r, e2, hp, ho⟩ := h.root
    rw [goneN_is h.sorted hx, e2, List.filter_cons_of_pos (by rw [hp]; simpa using fun e => hne e.symm), List.map_cons]
    exact ⟨_, _, rfl, by rw [bumpAt_path]; exact hp, by rw [bumpAt_own]; exact ho⟩
  · rw [goneN_is h.sorted hx]
    exact sorted_map (sorted_filter h.sorted _) (bumpAt_path _ _ _)
  · intro n hn
    obtain ⟨m, hm, _, rfl⟩ := (hmem n).1 hn
    rw [bumpAt_path, bumpAt_data]
    exact h.path m hm
  · intro n hn
    obtain ⟨m, hm, _, rfl⟩ := (hmem n).1 hn
    have := h.stat m hm
    unfold bumpAt
    split
    · simp only [bump]
      omega
    · exact this
  · intro n hn
    obtain ⟨m, hm, _, rfl⟩ := (hmem n).1 hn
    unfold bumpAt
    split
    · rename_i hd
      exact .inl (show m.owner = 0 from h.parent_free hx hne hm hd)
    · exact h.own m hm
  · intro n hn
    obtain ⟨m, hm, hmx, rfl⟩ := (hmem n).1 hn
    rw [bumpAt_path]
    rcases h.up m hm with h0 | ⟨q, hq, hqp⟩
    · exact .inl h0
    · by_cases hms : m.path = slash
      · exact .inl hms
      refine .inr ⟨bumpAt (parent x.path) (-1) z q, (hmem _).2 ⟨q, hq, ?_, rfl⟩, by rw [bumpAt_path]; exact hqp⟩
      rw [hqp]
      exact h.no_kid hx hk hm hms
  · intro n hn
    obtain ⟨m, hm, hmx, rfl⟩ := (hmem n).1 hn
    rw [goneN_is h.sorted hx, countP_map' (bumpAt_path _ _ _), bumpAt_path, hf]
    have h1 := h.kids m hm
    rw [e, List.countP_append, List.countP_cons] at h1
    rw [List.countP_append]
    unfold bumpAt
    by_cases hd : m.path = parent x.path
    · rw [if_pos hd]
      rw [if_pos ((hxk _).2 ⟨hne, hd.symm⟩)] at h1
      simp only [bump]
      omega
    · rw [if_neg hd]
      rw [if_neg (by rw [hxk]; exact fun e => hd e.2.symm)] at h1
      omega
theorem makeN_is (hs : SortedN l) (x : Txn) (hno : hasN l x.path = false) : ∃ a b, l = a ++ b ∧ makeN l x = (a ++ nodeOf x :: b).map (bumpAt (parent x.path) 1 x.zxid) ∧ SortedN (a ++ nodeOf x :: b) := by
  obtain ⟨a, b, e, h1, h2⟩ := insN_parts hs (x := nodeOf x) hno
  refine ⟨a, b, e, ?_, h2⟩
  unfold makeN
  rw [h1, kidN_map h2]
theorem bump_new (x : Txn) (hg : goodP x.path = true) (hne : x.path ≠ slash) (more zz : Int) : bumpAt (parent x.path) more zz (nodeOf x) = nodeOf x := by
  unfold bumpAt
  rw [if_neg]
  exact fun e => parent_ne hg hne e.symm
theorem mem_make (hs : SortedN l) (x : Txn) (hno : hasN l x.path = false) (hg : goodP x.path = true) (hne : x.path ≠ slash) (n : Node) : n ∈ makeN l x ↔ n = nodeOf x ∨ ∃ m ∈ l, n = bumpAt (parent x.path) 1 x.zxid m := by
  obtain ⟨a, b, e, h1, _⟩ := makeN_is hs x hno
  rw [h1, e]
  simp only [List.map_append, List.map_cons, bump_new x hg hne, List.mem_append, List.mem_cons, List.mem_map]
  constructor
  · rintro (⟨m, hm, rfl⟩ | rfl | ⟨m, hm, rfl⟩)
    · exact .inr ⟨m, .inl hm, rfl⟩
    · exact .inl rfl
    · exact .inr ⟨m, .inr hm, rfl⟩
  · rintro (rfl | ⟨m, hm | hm, rfl⟩)
    · exact .inr (.inl rfl)
    · exact .inl ⟨m, hm, rfl⟩
    · exact .inr (.inr ⟨m, hm, rfl⟩)
theorem good_make (h : GoodW z l ss) (x : Txn) (hxz : x.zxid = z) (hno : hasN l x.path = false) (hg : goodP x.path = true) (hne : x.path ≠ slash) (hd : x.data.size ≤ 256) (hlen : l.length < 400)
    (hown : x.owner = 0 ∨ x.owner ∈ ss) {u : Node} (hu : u ∈ l) (hup : u.path = parent x.path) (huo : u.owner = 0) : GoodW z (makeN l x) ss := by
  obtain ⟨a, b, e, hm1, hsort⟩ := makeN_is h.sorted x hno
  have hmem := mem_make h.sorted x hno hg hne
  have hnop := (has_no h.sorted).1 hno
  have hz := h.zx
  subst hxz
  refine ⟨?_, h.zx, ?_, ?_, h.sess, h.sessB, ?_, ?_, ?_, ?_, ?_⟩
  · rw [hm1, List.length_map, List.length_append, List.length_cons]
    rw [e, List.length_append] at hlen
    omega
  · obtain ⟨n, r, e2, hp, ho⟩ := h.root
    have hsl : ∀ m : Node, ltN m (nodeOf x) ∨ ltN (nodeOf x) m → True := fun _ _ => trivial
    cases a with
    | nil =>
      exfalso
      rw [List.nil_append] at e
      rw [e2] at e
      subst e
      rw [List.nil_append] at hsort
      unfold SortedN at hsort
      rw [List.pairwise_cons] at hsort
      have h1 : ltN (nodeOf x) n := hsort.1 n (by simp)
      unfold ltN at h1
      rw [hp] at h1
      have h2 := (goodP_pre hg hne).1
      obtain ⟨q, hq⟩ := bs_pre h2
      have h3 : cmpB (nodeOf x).path slash = Lib.compareBytes (47 :: q) [47] := by
        show Lib.compareBytes (bs x.path) (bs slash) = _
        rw [hq, slash_bs]
      rw [h3] at h1
      have h4 : q ≠ [] := fun e => hne (bs_inj (by rw [hq, e, slash_bs]))
      cases q with
      | nil => exact h4 rfl
      | cons c q => simp [Lib.compareBytes] at h1
    | cons a0 a =>
      rw [e2, List.cons_append] at e
      injection e with e3 e4
      subst e3
      rw [hm1, List.cons_append, List.map_cons]
      exact ⟨_, _, rfl, by rw [bumpAt_path]; exact hp, by rw [bumpAt_own]; exact ho⟩
  · rw [hm1]
    exact sorted_map hsort (bumpAt_path _ _ _)
  · intro n hn
    rcases (hmem n).1 hn with rfl | ⟨m, hm, rfl⟩
    · exact ⟨hg, hd⟩
    · rw [bumpAt_path, bumpAt_data]
      exact h.path m hm
  · intro n hn
    rcases (hmem n).1 hn with rfl | ⟨m, hm, rfl⟩
    · simp only [nodeOf]
      omega
    · have := h.stat m hm
      unfold bumpAt
      split
      · simp only [bump]
        omega
      · exact this
  · intro n hn
    rcases (hmem n).1 hn with rfl | ⟨m, hm, rfl⟩
    · rcases hown with h0 | h0
      · exact .inl h0
      · exact .inr ⟨h0, rfl⟩
    · unfold bumpAt
      split
      · rename_i hd2
        left
        rw [uniqN h.sorted hm hu (hd2.trans hup.symm)]
        exact huo
      · exact h.own m hm
  · intro n hn
    rcases (hmem n).1 hn with rfl | ⟨m, hm, rfl⟩
    · exact .inr ⟨_, (hmem _).2 (.inr ⟨u, hu, rfl⟩), by rw [bumpAt_path]; exact hup⟩
    · rw [bumpAt_path]
      rcases h.up m hm with h0 | ⟨q, hq, hqp⟩
      · exact .inl h0
      · exact .inr ⟨_, (hmem _).2 (.inr ⟨q, hq, rfl⟩), by rw [bumpAt_path]; exact hqp⟩
  · have hk := fun q => kidB_iff (n := nodeOf x) hg q
    have hc : ∀ q, ((makeN l x).countP (kidB q) : Nat) = l.countP (kidB q) + (if kidB q (nodeOf x) = true then 1 else 0) := by
      intro q
      rw [hm1, countP_map' (bumpAt_path _ _ _), e, List.countP_append, List.countP_append, List.countP_cons]
      omega
    intro n hn
    rw [hc]
    rcases (hmem n).1 hn with rfl | ⟨m, hm, rfl⟩
    · rw [if_neg (by rw [hk]; exact fun e => parent_ne hg hne e.2)]
      have h0 : l.countP (kidB (nodeOf x).path) = 0 := by
        rw [List.countP_eq_zero]
        intro m hm hkm
        obtain ⟨hms, hmp⟩ := (kidB_iff (h.path m hm).1 _).1 hkm
        rcases h.up m hm with h0 | ⟨q, hq, hqp⟩
        · exact hms h0
        · exact hnop q hq (hqp.trans hmp)
      rw [h0]
      rfl
    · rw [bumpAt_path]
      have h1 := h.kids m hm
      unfold bumpAt
      by_cases hd2 : m.path = parent x.path
      · rw [if_pos hd2, if_pos ((hk _).2 ⟨hne, hd2.symm⟩)]
        simp only [bump]
        omega
      · rw [if_neg hd2, if_neg (by rw [hk]; exact fun e => hd2 e.2.symm)]
        omega
theorem mem_set (hs : SortedN l) {x : Txn} (h : hasN l x.path = true) (n : Node) : n ∈ setN l x ↔ ∃ m ∈ l, n = putAt x m := by
  rw [setN_map hs h, List.mem_map]
  constructor
  · rintro ⟨m, hm, rfl⟩; exact ⟨m, hm, rfl⟩
  · rintro ⟨m, hm, rfl⟩; exact ⟨m, hm, rfl⟩
theorem good_set (h : GoodW z l ss) (x : Txn) (hxz : x.zxid = z) (hyes : hasN l x.path = true) (hd : x.data.size ≤ 256) (hv : 0 ≤ x.version ∧ x.version ≤ 2147483647) : GoodW z (setN l x) ss := by
  have hmem := mem_set h.sorted hyes
  subst hxz
  refine ⟨?_, h.zx, ?_, ?_, h.sess, h.sessB, ?_, ?_, ?_, ?_, ?_⟩
  · rw [setN_map h.sorted hyes, List.length_map]
    exact h.len
  · obtain ⟨n, r, e2, hp, ho⟩ := h.root
    rw [setN_map h.sorted hyes, e2, List.map_cons]
    exact ⟨_, _, rfl, by rw [putAt_path]; exact hp, by unfold putAt; split <;> exact ho⟩
  · rw [setN_map h.sorted hyes]
    exact sorted_map h.sorted (putAt_path x)
  · intro n hn
    obtain ⟨m, hm, rfl⟩ := (hmem n).1 hn
    have := h.path m hm
    unfold putAt
    split
    · exact ⟨this.1, hd⟩
    · exact this
  · intro n hn
    obtain ⟨m, hm, rfl⟩ := (hmem n).1 hn
    have := h.stat m hm
    unfold putAt
    split
    · simp only
      omega
    · exact this
  · intro n hn
    obtain ⟨m, hm, rfl⟩ := (hmem n).1 hn
    have := h.own m hm
    unfold putAt
    split <;> exact this
  · intro n hn
    obtain ⟨m, hm, rfl⟩ := (hmem n).1 hn
    rw [putAt_path]
    rcases h.up m hm with h0 | ⟨q, hq, hqp⟩
    · exact .inl h0
    · exact .inr ⟨_, (hmem _).2 ⟨q, hq, rfl⟩, by rw [putAt_path]; exact hqp⟩
  · intro n hn
    obtain ⟨m, hm, rfl⟩ := (hmem n).1 hn
    rw [putAt_path, setN_map h.sorted hyes, countP_map' (putAt_path x)]
    have := h.kids m hm
    unfold putAt
    split <;> exact this
/-- a session is closed: node by node -/
theorem good_fold {s : Int} (hs0 : s ≠ 0) : ∀ (ps : List ByteArray) (l : List Node), GoodW z l ss → ps.Nodup → (∀ p ∈ ps, ∃ n ∈ l, n.path = p) → (∀ n ∈ l, n.owner = s ↔ n.path ∈ ps) →
    GoodW z (ps.foldl (fun l p => goneN l p z) l) ss ∧ (∀ n ∈ ps.foldl (fun l p => goneN l p z) l, n.owner ≠ s ∧ ∃ m ∈ l, m.path = n.path ∧ m.owner = n.owner) ∧
      (∀ m ∈ l, m.owner ≠ s → ∃ n ∈ ps.foldl (fun l p => goneN l p z) l, n.path = m.path ∧ n.data = m.data ∧ n.version = m.version ∧ n.owner = m.owner) ∧ (ps.foldl (fun l p => goneN l p z) l).length + ps.length = l.length
  | [], l, h, _, _, ho => ⟨h, fun n hn => ⟨fun e => by simpa using (ho n hn).1 e, n, hn, rfl, rfl⟩, fun m hm _ => ⟨m, hm, rfl, rfl, rfl, rfl⟩, rfl⟩
  | p :: ps, l, h, hnd, hp, ho => by
    obtain ⟨x, hx, hxp⟩ := hp p (by simp)
    have hxo := (ho x hx).2 (by rw [hxp]; simp)
    have hxk : x.kids = 0 := by
      rcases h.own x hx with h0 | h0
      · exact absurd (hxo.symm.trans h0) hs0
      · exact h0.2
    have hxs : x.path ≠ slash := fun e => hs0 (hxo.symm.trans (h.rootOf hx e))
    have hmem := mem_gone h.sorted hx z
    have hg := good_gone h hx hxs hxk
    rw [List.nodup_cons] at hnd
    have ih := good_fold hs0 ps (goneN l x.path z) hg hnd.2 (by
      intro q hq
      obtain ⟨n, hn, hnq⟩ := hp q (by simp [hq])
      refine ⟨_, (hmem _).2 ⟨n, hn, ?_, rfl⟩, by rw [bumpAt_path]; exact hnq⟩
      rw [hxp, hnq]
      exact fun e => hnd.1 (e ▸ hq)) (by
      intro n hn
      obtain ⟨m, hm, hmx, rfl⟩ := (hmem n).1 hn
      rw [bumpAt_own, bumpAt_path, ho m hm, List.mem_cons]
      constructor
      · rintro (e | e)
        · exact absurd (e.trans hxp.symm) hmx
        · exact e
      · exact .inr)
    obtain ⟨i1, i2, i3, i4⟩ := ih
    have hlen := gone_length h.sorted hx z
    rw [hxp] at i1 i2 i3 i4 hlen
    rw [List.foldl_cons]
    refine ⟨i1, ?_, ?_, ?_⟩
    · intro n hn
      obtain ⟨a, m, hm, b, c⟩ := i2 n hn
      rw [← hxp] at hm
      obtain ⟨m', hm', _, rfl⟩ := (hmem m).1 hm
      rw [bumpAt_path] at b
      rw [bumpAt_own] at c
      exact ⟨a, m', hm', b, c⟩
    · intro m hm hmo
      have hmx : m.path ≠ x.path := by
        intro e
        rw [uniqN h.sorted hm hx e] at hmo
        exact hmo hxo
      obtain ⟨n, hn, a, b, c, d⟩ := i3 (bumpAt (parent x.path) (-1) z m) (by rw [← hxp]; exact (hmem _).2 ⟨m, hm, hmx, rfl⟩) (by rw [bumpAt_own]; exact hmo)
      rw [bumpAt_path] at a
      rw [bumpAt_data] at b
      rw [bumpAt_version] at c
      rw [bumpAt_own] at d
      exact ⟨n, hn, a, b, c, d⟩
    · rw [List.length_cons]
      omega
theorem owned_nodup (hs : SortedN l) (s : Int) : (ownedL l s).Nodup := by
  unfold ownedL
  unfold List.Nodup
  rw [List.pairwise_map]
  exact (List.Pairwise.filter _ hs).imp (fun h => ltN_ne h)
theorem mem_owned {s : Int} {p : ByteArray} : p ∈ ownedL l s ↔ ∃ n ∈ l, n.owner = s ∧ n.path = p := by
  unfold ownedL
  simp only [List.mem_map, List.mem_filter, decide_eq_true_eq]
  constructor
  · rintro ⟨n, ⟨h1, h2⟩, h3⟩; exact ⟨n, h1, h2, h3⟩
  · rintro ⟨n, h1, h2, h3⟩; exact ⟨n, ⟨h1, h2⟩, h3⟩
theorem good_close (h : GoodW z l ss) {s : Int} (hs0 : s ≠ 0) :
    GoodW z (closeN l s z) ss ∧ (∀ n ∈ closeN l s z, n.owner ≠ s ∧ ∃ m ∈ l, m.path = n.path ∧ m.owner = n.owner) ∧
      (∀ m ∈ l, m.owner ≠ s → ∃ n ∈ closeN l s z, n.path = m.path ∧ n.data = m.data ∧ n.version = m.version ∧ n.owner = m.owner) ∧ (closeN l s z).length + (ownedL l s).length = l.length := by
  refine good_fold hs0 (ownedL l s) l h (owned_nodup h.sorted s) (fun p hp => ?_) (fun n hn => ?_)
  · obtain ⟨n, hn, _, e⟩ := mem_owned.1 hp
    exact ⟨n, hn, e⟩
  · rw [mem_owned]
    constructor
    · intro e; exact ⟨n, hn, e, rfl⟩
    · rintro ⟨m, hm, e, hp⟩
      rw [← uniqN h.sorted hm hn hp]
      exact e
end
end Go.Proofs.YteolglmifimnaaaDoor

/- package tree: Good. -/
namespace Go.Proofs.YteolglmifimnaaaDoor
open Go.RowKit Go.ChangeShapes Go.WideShapes Go.ChangeAt
abbrev sessB (t : Tr) : Bool := (List.range t.sess.length).all (okS t.sess)
abbrev nodesB (t : Tr) : Bool := (List.range t.nodes.length).all (okN t)
abbrev kidsB (t : Tr) : Bool := t.nodes.all (fun n => decide (n.kids = ((t.nodes.countP (kidB n.path) : Nat) : Int)))
theorem good_head {t : Tr} (h : headB t = false) : goodTree t = false := by unfold goodTree; rw [h]; rfl
theorem good_sess {t : Tr} (h : sessB t = false) : goodTree t = false := by unfold goodTree; rw [show (List.range t.sess.length).all (okS t.sess) = false from h, Bool.false_and, Bool.and_false]
theorem good_nodes {t : Tr} (h : nodesB t = false) : goodTree t = false := by unfold goodTree; rw [show (List.range t.nodes.length).all (okN t) = false from h, Bool.false_and, Bool.and_false, Bool.and_false]
theorem good_kids {t : Tr} (h : kidsB t = false) : goodTree t = false := by unfold goodTree; rw [show t.nodes.all (fun n => decide (n.kids = ((t.nodes.countP (kidB n.path) : Nat) : Int))) = false from h, Bool.and_false, Bool.and_false, Bool.and_false]
theorem good_all {t : Tr} (h1 : headB t = true) (h2 : sessB t = true) (h3 : nodesB t = true) (h4 : kidsB t = true) : goodTree t = true := by
  unfold goodTree
  rw [h1, show (List.range t.sess.length).all (okS t.sess) = true from h2, show (List.range t.nodes.length).all (okN t) = true from h3, show t.nodes.all (fun n => decide (n.kids = ((t.nodes.countP (kidB n.path) : Nat) : Int))) = true from h4]
  rfl
theorem all_no {n : Nat} {f : Nat → Bool} {k : Nat} (hk : k < n) (h : f k = false) : (List.range n).all f = false := by
  rw [Bool.eq_false_iff]
  intro ha
  rw [List.all_eq_true] at ha
  rw [ha k (List.mem_range.2 hk)] at h
  cases h
theorem all_yes {n : Nat} {f : Nat → Bool} (h : ∀ k, k < n → f k = true) : (List.range n).all f = true := List.all_eq_true.2 fun k hk => h k (List.mem_range.1 hk)
theorem all_yes_at {n : Nat} {f : Nat → Bool} (h : (List.range n).all f = true) {k : Nat} (hk : k < n) : f k = true := List.all_eq_true.1 h k (List.mem_range.2 hk)
theorem countP_step {l : List Node} {k : Nat} {x : Node} (h : l[k]? = some x) (q : ByteArray) : (l.take (k + 1)).countP (kidB q) = (l.take k).countP (kidB q) + (if kidB q x then 1 else 0) := by
  rw [List.take_add_one, h]
  simp [List.countP_append, List.countP_cons]
theorem not_less_of_cmp2 {a b : ByteArray} (h : ¬ cmpB a b < 0) : Op.bytesLess a.toList b.toList = false := by
  rw [ByteArray.toList_eq, ByteArray.toList_eq, less_of_cb]
  exact decide_eq_false h
theorem Cnt.mono {w : World} {b n m : Nat} {c : ByteArray → Int} (h : Cnt w b n c) (hn : n ≤ m) : Cnt w b m c := by
  obtain ⟨D, h, hc⟩ := h
  exact ⟨D, h.mono hn, hc⟩
theorem Cnt.lt {w : World} {b n : Nat} {c : ByteArray → Int} (h : Cnt w b n c) : b < w.heap.size := by
  obtain ⟨D, h, _⟩ := h
  exact h.lt
theorem Cnt.same {w : World} {b n : Nat} {c c' : ByteArray → Int} (h : Cnt w b n c) (hc : ∀ q, c' q = c q) : Cnt w b n c' := by
  rw [funext hc]
  exact h
theorem less_is (y : Node) (p : ByteArray) : Op.bytesLess y.path.toList p.toList = decide (cmpB y.path p < 0) := by
  rw [ByteArray.toList_eq, ByteArray.toList_eq, less_of_cb]
  rfl
theorem statB_q (z : Int) (xp xd : ByteArray) (xz xm xq xv xc xo xk : Int) : statB z ⟨xp, xd, xz, xm, xq, xv, xc, xo, xk⟩ =
    !(decide (xv < 0) || (decide (2147483647 < xv) || (decide (xc < 0) || (decide (2147483647 < xc) || (decide (xz < 0) || (decide (xm < xz) || (decide (xq < xz) || (decide (z < xm) || decide (z < xq))))))))) := by
  rw [Bool.eq_iff_iff]
  unfold statB
  simp only [decide_eq_true_eq, Bool.not_eq_true', Bool.or_eq_false_iff, decide_eq_false_iff_not]
  omega
theorem size_q (d : ByteArray) : decide (d.size ≤ 256) = !decide ((256 : Int) < (d.size : Int)) := by
  rw [Bool.eq_iff_iff]
  simp only [decide_eq_true_eq, Bool.not_eq_true', decide_eq_false_iff_not]
  omega
theorem ownB_q (ss : List Int) (xp xd : ByteArray) (xz xm xq xv xc xo xk : Int) : ownB ss ⟨xp, xd, xz, xm, xq, xv, xc, xo, xk⟩ = ((xo == 0) || (isI ss xo && (xk == 0))) := by
  unfold ownB
  rw [Bool.eq_iff_iff]
  simp
theorem gen_k {K : Act → World → Prop} {a : Act} {w : World} (h : ∀ W, Hid (W = w) → K a W) : K a w := h w (Lib.hid rfl)
theorem below_put {B b : Nat} {a X w2 : World} (h : Below B a X) (hB : B ≤ X.heap.size) (hb : B ≤ b) (hg : X.grownBy w2 (some b)) : Below B a w2 := by
  obtain ⟨g1, g2, g3, g4, g5⟩ := hg
  exact h.trans ⟨g1, g2, g3, g4, fun k hk => g5 k (by omega) (by simp; omega)⟩
theorem split_size (s : ByteArray) : (splitR s).1.size ≤ 200 := by
  unfold splitR
  by_cases h : goodP s = true
  · rw [if_pos h]
    have := (goodP_size h).2
    by_cases h2 : s = slash
    · rw [if_pos h2]
      show (0 : Nat) ≤ 200
      omega
    · rw [if_neg h2]
      by_cases h3 : lastP s = 0
      · rw [if_pos h3]
        show (1 : Nat) ≤ 200
        omega
      · rw [if_neg h3]
        show (s.extract 0 (lastP s)).size ≤ 200
        rw [ByteArray.size_extract]
        omega
  · rw [if_neg h]
    show (0 : Nat) ≤ 200
    omega
set_option maxRecDepth 100000 in
set_option maxHeartbeats 10000000 in
theorem trGood_head (z : Int) (v v2 : Value) (l : List Node) (ss : List Int) (w : World) (h : Sl cNode 9 w v l) (h2 : Sl cInt 1 w v2 ss) (hn : ss.length ≤ 140737488355328) (hh : headB ⟨z, l, ss⟩ = true) (hz : ∀ n ∈ l, n.path.size ≤ 9223372036854775807) :
    Calls Tryd.prog 13 #[.agg #[.int .i64 z, v, v2]] w fun e w' => e = .returned (.bool (goodTree ⟨z, l, ss⟩)) ∧ Below w.heap.size w w' := by
  obtain ⟨A, c, rfl, h1, h1b⟩ := h.form
  obtain ⟨A2, c2, rfl, h3, h3b⟩ := h2.form
  have H := Lib.hid h
  have H2 := Lib.hid h2
  have HG := Lib.hid (fun (W : World) (hz : Zx z) => zgood_yes z W hz)
  obtain ⟨hl4, hzx, n, hn0, hp, ho⟩ := head_inv hh
  have HF1 := Lib.hid (fun k (hk : k < ss.length) (h : okS ss k = false) => good_sess (t := ⟨z, l, ss⟩) (all_no hk h))
  have HF2 := Lib.hid (fun k (hk : k < l.length) (h : okN ⟨z, l, ss⟩ k = false) => good_nodes (t := ⟨z, l, ss⟩) (all_no hk h))
  have HF3 := Lib.hid (fun (h : kidsB ⟨z, l, ss⟩ = false) => good_kids (t := ⟨z, l, ss⟩) h)
  have HF4 := Lib.hid (fun (hs : ∀ k, k < ss.length → okS ss k = true) (hn : ∀ k, k < l.length → okN ⟨z, l, ss⟩ k = true) (hk : kidsB ⟨z, l, ss⟩ = true) => good_all hh (all_yes hs) (all_yes hn) hk)
  obtain ⟨bk, off, rfl, hbw, n0, n1, n2, n3, n4, n5, n6, n7, n8⟩ := h.Node_at hn0
  simp only [Nat.zero_mul, Nat.add_zero] at n0 n1 n2 n3 n4 n5 n6 n7 n8
  rw [hp] at n0
  rw [ho] at n7
  have hpp : (slash.toList == [47]) = true := by unfold slash; rw [ByteArray.toList_eq]; rfl
  have hm1 : 0 < l.length := (List.getElem?_eq_some_iff.1 hn0).1
  have hm0 : ((l.length : Int) == 0) = false := beq_eq_false_iff_ne.2 (by omega)
  have hm4 : decide ((400 : Int) < (l.length : Int)) = false := decide_eq_false (by omega)
  generalize goodTree ⟨z, l, ss⟩ = gt at *
  clear h h2 hh hn0 hp ho
  go_enter Tryd.func13, Tryd.ntmps13
  go_upto_region 3 with ((go_at_call 27; refine (HG.out _ hzx).mono ?_; rintro e w1 ⟨rfl, rfl⟩; skip))
  clear n0 n1 n2 n3 n4 n5 n6 n7 n8 HG
  go_wp2_with fail
  go_loopw [52] (fun i wr => ∃ k : Nat, k ≤ ss.length ∧ i = .int .i64 k ∧ Hid (∀ i, i < k → okS ss i = true) ∧ wr = w.alloc (.cells #[.int .i64 z, .slice (some ⟨bk, off, none⟩) l.length c, .slice A2 ss.length c2] 25)) (fun i _ => ss.length - (intOf i).toNat)
  case atStart => exact ⟨0, Nat.zero_le _, rfl, Lib.hid (fun i hi => absurd hi (Nat.not_lt_zero _)), rfl⟩
  case round =>
    obtain ⟨k, hk, rfl, hall, rfl⟩ := hrel
    by_cases hlt : k < ss.length
    · as_aux_lemma =>
      have hx : ss[k]? = some (ss[k]'hlt) := List.getElem?_eq_getElem _
      obtain ⟨b, o, rfl, hb, s0⟩ := (H2.out.below (w' := w.alloc (.cells #[.int .i64 z, .slice (some ⟨bk, off, none⟩) l.length c, .slice A2 ss.length c2] 25)) (by repeat (first | with_reducible exact Below.refl _ _ | with_reducible assumption | with_reducible exact below_d1 _ _ _ _ _ | with_reducible exact below_d2 _ _ _ _ _ _ _ _ | with_reducible exact below_d3 _ _ _ _ _ | with_reducible exact below_d4 _ _ _ _ _ _ _ _ | with_reducible exact below_d5 _ _ | with_reducible refine Below.drew ?_ | with_reducible refine Below.drewN' ?_ _ | with_reducible refine below_grow0 _ _ ?_ | with_reducible refine below_alloc0 _ ?_ | with_reducible refine Below.setCell ?_ ?_ _ | with_reducible refine Below.alloc ?_ ?_ _ | with_reducible refine Below.grow _ _ _ ?_ ?_ | omega | (simp; done) | (simp; omega)))).Int_at hx
      generalize ss[k]'hlt = s at *
      by_cases g1 : s < 1
      · have hbad : gt = false := HF1.out k hlt (by
          cases k with
          | zero => rw [okS_0 hx, decide_eq_false (by omega)]; rfl
          | succ j => rw [okS_s hx (List.getElem?_eq_getElem (by omega)), decide_eq_false (by omega)]; rfl)
        have hd : decide (s < 1) = true := decide_eq_true g1
        subst hbad
        clear hx g1
        go_wp2_with fail
        go_ret
        exact ⟨rfl, (by repeat (first | with_reducible exact Below.refl _ _ | with_reducible assumption | with_reducible exact below_d1 _ _ _ _ _ | with_reducible exact below_d2 _ _ _ _ _ _ _ _ | with_reducible exact below_d3 _ _ _ _ _ | with_reducible exact below_d4 _ _ _ _ _ _ _ _ | with_reducible exact below_d5 _ _ | with_reducible refine Below.drew ?_ | with_reducible refine Below.drewN' ?_ _ | with_reducible refine below_grow0 _ _ ?_ | with_reducible refine below_alloc0 _ ?_ | with_reducible refine Below.setCell ?_ ?_ _ | with_reducible refine Below.alloc ?_ ?_ _ | with_reducible refine Below.grow _ _ _ ?_ ?_ | omega | (simp; done) | (simp; omega)))⟩
      · have hd1 : decide (s < 1) = false := decide_eq_false g1
        by_cases g2 : 2147483647 < s
        · have hbad : gt = false := HF1.out k hlt (by
            cases k with
            | zero => rw [okS_0 hx, decide_eq_true (by omega), decide_eq_false (by omega)]; rfl
            | succ j => rw [okS_s hx (List.getElem?_eq_getElem (by omega)), decide_eq_true (by omega), decide_eq_false (by omega)]; rfl)
          have hd : decide (2147483647 < s) = true := decide_eq_true g2
          subst hbad
          clear hx g1 g2
          go_wp2_with fail
          go_ret
          exact ⟨rfl, (by repeat (first | with_reducible exact Below.refl _ _ | with_reducible assumption | with_reducible exact below_d1 _ _ _ _ _ | with_reducible exact below_d2 _ _ _ _ _ _ _ _ | with_reducible exact below_d3 _ _ _ _ _ | with_reducible exact below_d4 _ _ _ _ _ _ _ _ | with_reducible exact below_d5 _ _ | with_reducible refine Below.drew ?_ | with_reducible refine Below.drewN' ?_ _ | with_reducible refine below_grow0 _ _ ?_ | with_reducible refine below_alloc0 _ ?_ | with_reducible refine Below.setCell ?_ ?_ _ | with_reducible refine Below.alloc ?_ ?_ _ | with_reducible refine Below.grow _ _ _ ?_ ?_ | omega | (simp; done) | (simp; omega)))⟩
        · have hd2 : decide (2147483647 < s) = false := decide_eq_false g2
          cases k with
          | zero =>
            have hok := okS_0 hx
            rw [decide_eq_true (by omega), decide_eq_true (by omega)] at hok
            have HOK := Lib.hid hok
            simp only [Nat.add_zero] at s0
            clear hx g1 g2 hok
            go_wp2_with fail
            go_roundw
            case rel => exact ⟨1, by omega, by go_num, Lib.hid (fun i hi => (by omega : i = 0) ▸ HOK.out), by first | rfl | trivial⟩
            case measure => simp [intOf]; omega
          | succ j =>
            have hy : ss[j]? = some (ss[j]'(by omega)) := List.getElem?_eq_getElem _
            obtain ⟨b', o', hA', _, s1⟩ := (H2.out.below (w' := w.alloc (.cells #[.int .i64 z, .slice (some ⟨bk, off, none⟩) l.length c, .slice (some ⟨b, o, none⟩) ss.length c2] 25)) (by repeat (first | with_reducible exact Below.refl _ _ | with_reducible assumption | with_reducible exact below_d1 _ _ _ _ _ | with_reducible exact below_d2 _ _ _ _ _ _ _ _ | with_reducible exact below_d3 _ _ _ _ _ | with_reducible exact below_d4 _ _ _ _ _ _ _ _ | with_reducible exact below_d5 _ _ | with_reducible refine Below.drew ?_ | with_reducible refine Below.drewN' ?_ _ | with_reducible refine below_grow0 _ _ ?_ | with_reducible refine below_alloc0 _ ?_ | with_reducible refine Below.setCell ?_ ?_ _ | with_reducible refine Below.alloc ?_ ?_ _ | with_reducible refine Below.grow _ _ _ ?_ ?_ | omega | (simp; done) | (simp; omega)))).Int_at hy
            cases hA'
            generalize ss[j]'(by omega) = y at *
            have hok := okS_s hx hy
            rw [decide_eq_true (show 1 ≤ s by omega), decide_eq_true (show s ≤ 2147483647 by omega)] at hok
            have hwj : IntKind.i64.wrap ((j : Int) + 1 - 1) = (j : Int) := by unfold IntKind.wrap; simp [IntKind.signed, IntKind.bits]; omega
            have hjc : j < c2 := by omega
            have hj0 : decide (0 < (j : Int) + 1) = true := decide_eq_true (by omega)
            by_cases g3 : s ≤ y
            · have hbad : gt = false := HF1.out (j + 1) hlt (by rw [hok, decide_eq_false (by omega)]; rfl)
              have hd : decide (s ≤ y) = true := decide_eq_true g3
              subst hbad
              clear hx hy hok g1 g2 g3
              go_wp2_with fail
              go_ret
              exact ⟨rfl, (by repeat (first | with_reducible exact Below.refl _ _ | with_reducible assumption | with_reducible exact below_d1 _ _ _ _ _ | with_reducible exact below_d2 _ _ _ _ _ _ _ _ | with_reducible exact below_d3 _ _ _ _ _ | with_reducible exact below_d4 _ _ _ _ _ _ _ _ | with_reducible exact below_d5 _ _ | with_reducible refine Below.drew ?_ | with_reducible refine Below.drewN' ?_ _ | with_reducible refine below_grow0 _ _ ?_ | with_reducible refine below_alloc0 _ ?_ | with_reducible refine Below.setCell ?_ ?_ _ | with_reducible refine Below.alloc ?_ ?_ _ | with_reducible refine Below.grow _ _ _ ?_ ?_ | omega | (simp; done) | (simp; omega)))⟩
            · have hd : decide (s ≤ y) = false := decide_eq_false g3
              rw [decide_eq_true (show y < s by omega)] at hok
              have HOK := Lib.hid hok
              clear hx hy hok g1 g2 g3
              go_wp2_with fail
              go_roundw
              case rel => exact ⟨j + 1 + 1, by omega, by go_num, Lib.hid (fun i hi => by
                rcases Nat.lt_or_ge i (j + 1) with h | h
                · exact hall.out i h
                · obtain rfl : i = j + 1 := by omega
                  rw [HOK.out]; rfl), by first | rfl | trivial⟩
              case measure => simp [intOf]; omega
    · have hkl : k = ss.length := by omega
      subst hkl
      clear hk hlt
      have hmm := @run_makeMap Tryd.prog
      go_upto_region 10 with fail
      refine gen_w (fun W1 hW1 => ?_)
      have hb1 : Below w.heap.size w W1 := by rw [hW1.out]; exact (by repeat (first | with_reducible exact Below.refl _ _ | with_reducible assumption | with_reducible exact below_d1 _ _ _ _ _ | with_reducible exact below_d2 _ _ _ _ _ _ _ _ | with_reducible exact below_d3 _ _ _ _ _ | with_reducible exact below_d4 _ _ _ _ _ _ _ _ | with_reducible exact below_d5 _ _ | with_reducible refine Below.drew ?_ | with_reducible refine Below.drewN' ?_ _ | with_reducible refine below_grow0 _ _ ?_ | with_reducible refine below_alloc0 _ ?_ | with_reducible refine Below.setCell ?_ ?_ _ | with_reducible refine Below.alloc ?_ ?_ _ | with_reducible refine Below.grow _ _ _ ?_ ?_ | omega | (simp; done) | (simp; omega)))
      have kb0 : W1.cell? ⟨w.heap.size, 0, none⟩ = some (.int .i64 z) := by rw [hW1.out]; go_simp
      have kb1 : W1.cell? ⟨w.heap.size, 1, none⟩ = some (.slice (some ⟨bk, off, none⟩) l.length c) := by rw [hW1.out]; go_simp
      have kb2 : W1.cell? ⟨w.heap.size, 2, none⟩ = some (.slice A2 ss.length c2) := by rw [hW1.out]; go_simp
      have hsz1 : W1.heap.size = w.heap.size + 1 + 1 := by rw [hW1.out]; simp
      have HC1 : Hid (Cnt W1 (w.heap.size + 1) 0 (fun q => (((l.take 0).countP (kidB q) : Nat) : Int))) := Lib.hid (by rw [hW1.out]; have hq := Cnt.made (w.alloc (.cells #[.int .i64 z, .slice (some ⟨bk, off, none⟩) l.length c, .slice A2 ss.length c2] 25)); simpa using hq)
      clear hW1 hmm HF1
      go_wp2_with fail
      go_loopw [82] (fun i wr => ∃ k : Nat, k ≤ l.length ∧ i = .int .i64 k ∧ Hid (∀ i, i < k → okN ⟨z, l, ss⟩ i = true) ∧ Hid (Cnt wr (w.heap.size + 1) k (fun q => (((l.take k).countP (kidB q) : Nat) : Int))) ∧ Below (w.heap.size + 1) W1 wr) (fun i _ => l.length - (intOf i).toNat)
      case atStart => exact ⟨0, Nat.zero_le _, rfl, Lib.hid (fun i hi => absurd hi (Nat.not_lt_zero _)), HC1, Below.refl _ _⟩
      case round =>
        obtain ⟨k, hk, rfl, halln, hcn, hbx⟩ := hrel
        have hbwr : Below w.heap.size w wr := hb1.trans (hbx.mono (by omega))
        have kk0 := (hbx.cell (p := ⟨w.heap.size, 0, none⟩) (Nat.lt_succ_self _)).trans kb0
        have kk1 := (hbx.cell (p := ⟨w.heap.size, 1, none⟩) (Nat.lt_succ_self _)).trans kb1
        have kk2 := (hbx.cell (p := ⟨w.heap.size, 2, none⟩) (Nat.lt_succ_self _)).trans kb2
        have hmb := Cnt.lt hcn.out
        by_cases hlt : k < l.length
        · have hx : l[k]? = some (l[k]'hlt) := List.getElem?_eq_getElem _
          obtain ⟨bk', off', hA, _, c0, c1, c2', c3, c4, c5, c6, c7, c8⟩ := (H.out.below hbwr).Node_at hx
          cases hA
          have hmem := List.mem_of_getElem? hx
          have HPG := Lib.hid (fun (W : World) => good_any (l[k]'hlt).path W (hz _ hmem))
          have HSP := Lib.hid (fun (W : World) => split_any (l[k]'hlt).path W (hz _ hmem))
          have HOP := Lib.hid (fun (W : World) (h : Sl cInt 1 W (.slice A2 ss.length c2) ss) => trOpen z (.slice A2 ss.length c2) (some ⟨bk, off, none⟩) l.length c ss (l[k]'hlt).owner W h hn)
          have HFD := Lib.hid (fun (W : World) (h : Sl cNode 9 W (.slice (some ⟨bk, off, none⟩) l.length c) l) => trFind z (.slice (some ⟨bk, off, none⟩) l.length c) A2 ss.length c2 l (splitR (l[k]'hlt).path).1 W h (by omega))
          have hokk := okN_at (z := z) (ss := ss) hx
          have hcs := countP_step hx
          have hpsz := hz _ hmem
          generalize l[k]'hlt = x at *
          obtain ⟨xp, xd, xz, xm, xq, xv, xc, xo, xk⟩ := x
          simp only at *
          rw [size_q, statB_q, ownB_q] at hokk
          have HCS := Lib.hid hcs
          have HX := Lib.hid hx
          clear hx hmem hcs
          go_upto_region 14 with fail
          obtain ⟨okb, hokb⟩ : ∃ b, b = (goodP xp && (!decide ((256 : Int) < (xd.size : Int)) && (lessB l k ⟨xp, xd, xz, xm, xq, xv, xc, xo, xk⟩ && !(decide (xv < 0) || (decide (2147483647 < xv) || (decide (xc < 0) || (decide (2147483647 < xc) || (decide (xz < 0) || (decide (xm < xz) || (decide (xq < xz) || (decide (z < xm) || decide (z < xq)))))))))))) := ⟨_, rfl⟩
          have HOKK := Lib.hid (show okN ⟨z, l, ss⟩ k = (okb && (((xo == 0) || (isI ss xo && (xk == 0))) && (decide ((splitR xp).2.2 ≠ 0) || hasN l (splitR xp).1))) by rw [hokk, hokb]; simp only [Bool.and_assoc]; rfl)
          have HCQ := Lib.hid (fun q => show (l.take (k + 1)).countP (kidB q) = (l.take k).countP (kidB q) + (if (decide ((splitR xp).2.2 = 0) && decide ((splitR xp).1 = q)) = true then 1 else 0) from HCS.out q)
          have hsd := split_size xp
          obtain ⟨nb, hnb⟩ : ∃ b, b = !okb := ⟨_, rfl⟩
          clear hokk HCS
          go_cut [167] from 83 to 204 (fun s167 wx => s167 = .bool nb ∧ ∃ ext d, wx = grow ((wr.alloc (.cells #[.string xp, .string xd, .int .i64 xz, .int .i64 xm, .int .i64 xq, .int .i64 xv, .int .i64 xc, .int .i64 xo, .int .i64 xk] 40)).alloc (.cells #[.int .i64 xz, .int .i64 xm, .int .i64 xq, .int .i64 xv, .int .i64 xc, .int .i64 xo, .int .i64 xk] 38)) ext d)
          case first =>
            clear HOKK HCQ hsd HSP HOP HFD HF2 HF3 HF4 halln hcn HC1
            obtain ⟨gd, hgd⟩ : ∃ b, decide ((256 : Int) < (xd.size : Int)) = b := ⟨_, rfl⟩
            obtain ⟨q0, hq0⟩ : ∃ b, decide (xv < 0) = b := ⟨_, rfl⟩
            obtain ⟨q1, hq1⟩ : ∃ b, decide (2147483647 < xv) = b := ⟨_, rfl⟩
            obtain ⟨q2, hq2⟩ : ∃ b, decide (xc < 0) = b := ⟨_, rfl⟩
            obtain ⟨q3, hq3⟩ : ∃ b, decide (2147483647 < xc) = b := ⟨_, rfl⟩
            obtain ⟨q4, hq4⟩ : ∃ b, decide (xz < 0) = b := ⟨_, rfl⟩
            obtain ⟨q5, hq5⟩ : ∃ b, decide (xm < xz) = b := ⟨_, rfl⟩
            obtain ⟨q6, hq6⟩ : ∃ b, decide (xq < xz) = b := ⟨_, rfl⟩
            obtain ⟨q7, hq7⟩ : ∃ b, decide (z < xm) = b := ⟨_, rfl⟩
            obtain ⟨q8, hq8⟩ : ∃ b, decide (z < xq) = b := ⟨_, rfl⟩
            rw [hgd, hq0, hq1, hq2, hq3, hq4, hq5, hq6, hq7, hq8] at hokb
            obtain ⟨ng, hng⟩ : ∃ b, (!goodP xp) = b := ⟨_, rfl⟩
            rw [show goodP xp = !ng by rw [← hng, Bool.not_not]] at hokb
            have HOB := Lib.hid hokb
            have HNB := Lib.hid hnb
            clear hokb hnb
            -- REGION 14
            refine wp_region_grow (by as_aux_lemma => kernel_rfl) (by as_aux_lemma => kernel_rfl) ?_
            simp only [List.append]
            refine wpQuiet_cut 10 89 9 (ng || gd) ?hs0 ?hr0
            case hs0 =>
              as_aux_lemma =>
              simp only [List.take]
              repeat' (first | go_big_quiet_skip | (go_big_quiet_want; go_big_quiet_op; first | go_big_quiet_on | (apply Exists.intro; refine ⟨fun _ => ?hqg1, ?hqg2⟩; (case hqg1 => (go_at_call 37; refine Calls.grow_of (HPG.out _))); go_big_quiet_on)) | cases ng)
              all_goals exact wpQuiet_nil ⟨rfl, by kernel_rfl, by kernel_rfl, by kernel_rfl⟩
            intro m1 b1 hb1
            simp only [List.take, List.drop, junk, List.cons_append, List.nil_append, Nat.reduceAdd]
            refine wpQuiet_cut 16 89 25 (b1 || !lessB l k ⟨xp, xd, xz, xm, xq, xv, xc, xo, xk⟩) ?hs1 ?hr1
            case hs1 =>
              as_aux_lemma =>
              simp only [List.take]
              cases k with
              | zero =>
                simp only [Nat.zero_mul, Nat.add_zero] at c0 c1 c2' c3 c4 c5 c6 c7 c8
                repeat' (first | go_big_quiet_skip | (go_big_quiet_want; go_big_quiet_op; first | go_big_quiet_on | (apply Exists.intro; refine ⟨fun _ => ?hqg1, ?hqg2⟩; (case hqg1 => (go_at_call 37; refine Calls.grow_of (HPG.out _))); go_big_quiet_on)) | cases b1)
                all_goals exact wpQuiet_nil ⟨rfl, by kernel_rfl, by kernel_rfl, by kernel_rfl⟩
              | succ j =>
                have hy : l[j]? = some (l[j]'(by omega)) := List.getElem?_eq_getElem _
                obtain ⟨bk2, off2, hA2, _, y0, _⟩ := (H.out.below hbwr).Node_at hy
                cases hA2
                have hlb0 := lessB_s hy ⟨xp, xd, xz, xm, xq, xv, xc, xo, xk⟩
                generalize l[j]'(by omega) = y at *
                simp only at hlb0
                rw [← less_is] at hlb0
                rw [hlb0]
                have hwj : IntKind.i64.wrap ((j : Int) + 1 - 1) = (j : Int) := by unfold IntKind.wrap; simp [IntKind.signed, IntKind.bits]; omega
                have hj0 : decide (0 < (j : Int) + 1) = true := decide_eq_true (by omega)
                have hjc : j < l.length := by omega
                obtain ⟨ls, hls⟩ : ∃ b, (!Op.bytesLess y.path.toList xp.toList) = b := ⟨_, rfl⟩
                rw [hls]
                clear hlb0 hy HX
                repeat' (first | go_big_quiet_skip | (go_big_quiet_want; go_big_quiet_op; first | go_big_quiet_on | (apply Exists.intro; refine ⟨fun _ => ?hqg1, ?hqg2⟩; (case hqg1 => (go_at_call 37; refine Calls.grow_of (HPG.out _))); go_big_quiet_on)) | cases b1)
                all_goals exact wpQuiet_nil ⟨rfl, by kernel_rfl, by kernel_rfl, by kernel_rfl⟩
            intro m2 b2 hb2
            simp only [List.take, List.drop, junk, List.cons_append, List.nil_append, Nat.reduceAdd]
            refine wpQuiet_cut 5 89 30 (b2 || q0) ?hs2 ?hr2
            case hs2 =>
              as_aux_lemma =>
              simp only [List.take]
              repeat' (first | go_big_quiet_skip | (go_big_quiet_want; go_big_quiet_op; first | go_big_quiet_on | (apply Exists.intro; refine ⟨fun _ => ?hqg1, ?hqg2⟩; (case hqg1 => (go_at_call 37; refine Calls.grow_of (HPG.out _))); go_big_quiet_on)) | cases b2)
              all_goals exact wpQuiet_nil ⟨rfl, by kernel_rfl, by kernel_rfl, by kernel_rfl⟩
            intro m3 b3 hb3
            simp only [List.take, List.drop, junk, List.cons_append, List.nil_append, Nat.reduceAdd]
            refine wpQuiet_cut 5 89 35 (b3 || q1) ?hs3 ?hr3
            case hs3 =>
              as_aux_lemma =>
              simp only [List.take]
              repeat' (first | go_big_quiet_skip | (go_big_quiet_want; go_big_quiet_op; first | go_big_quiet_on | (apply Exists.intro; refine ⟨fun _ => ?hqg1, ?hqg2⟩; (case hqg1 => (go_at_call 37; refine Calls.grow_of (HPG.out _))); go_big_quiet_on)) | cases b3)
              all_goals exact wpQuiet_nil ⟨rfl, by kernel_rfl, by kernel_rfl, by kernel_rfl⟩
            intro m4 b4 hb4
            simp only [List.take, List.drop, junk, List.cons_append, List.nil_append, Nat.reduceAdd]
            refine wpQuiet_cut 5 89 40 (b4 || q2) ?hs4 ?hr4
            case hs4 =>
              as_aux_lemma =>
              simp only [List.take]
              repeat' (first | go_big_quiet_skip | (go_big_quiet_want; go_big_quiet_op; first | go_big_quiet_on | (apply Exists.intro; refine ⟨fun _ => ?hqg1, ?hqg2⟩; (case hqg1 => (go_at_call 37; refine Calls.grow_of (HPG.out _))); go_big_quiet_on)) | cases b4)
              all_goals exact wpQuiet_nil ⟨rfl, by kernel_rfl, by kernel_rfl, by kernel_rfl⟩
            intro m5 b5 hb5
            simp only [List.take, List.drop, junk, List.cons_append, List.nil_append, Nat.reduceAdd]
            refine wpQuiet_cut 5 89 45 (b5 || q3) ?hs5 ?hr5
            case hs5 =>
              as_aux_lemma =>
              simp only [List.take]
              repeat' (first | go_big_quiet_skip | (go_big_quiet_want; go_big_quiet_op; first | go_big_quiet_on | (apply Exists.intro; refine ⟨fun _ => ?hqg1, ?hqg2⟩; (case hqg1 => (go_at_call 37; refine Calls.grow_of (HPG.out _))); go_big_quiet_on)) | cases b5)
              all_goals exact wpQuiet_nil ⟨rfl, by kernel_rfl, by kernel_rfl, by kernel_rfl⟩
            intro m6 b6 hb6
            simp only [List.take, List.drop, junk, List.cons_append, List.nil_append, Nat.reduceAdd]
            refine wpQuiet_cut 5 89 50 (b6 || q4) ?hs6 ?hr6
            case hs6 =>
              as_aux_lemma =>
              simp only [List.take]
              repeat' (first | go_big_quiet_skip | (go_big_quiet_want; go_big_quiet_op; first | go_big_quiet_on | (apply Exists.intro; refine ⟨fun _ => ?hqg1, ?hqg2⟩; (case hqg1 => (go_at_call 37; refine Calls.grow_of (HPG.out _))); go_big_quiet_on)) | cases b6)
              all_goals exact wpQuiet_nil ⟨rfl, by kernel_rfl, by kernel_rfl, by kernel_rfl⟩
            intro m7 b7 hb7
            simp only [List.take, List.drop, junk, List.cons_append, List.nil_append, Nat.reduceAdd]
            refine wpQuiet_cut 7 89 57 (b7 || q5) ?hs7 ?hr7
            case hs7 =>
              as_aux_lemma =>
              simp only [List.take]
              repeat' (first | go_big_quiet_skip | (go_big_quiet_want; go_big_quiet_op; first | go_big_quiet_on | (apply Exists.intro; refine ⟨fun _ => ?hqg1, ?hqg2⟩; (case hqg1 => (go_at_call 37; refine Calls.grow_of (HPG.out _))); go_big_quiet_on)) | cases b7)
              all_goals exact wpQuiet_nil ⟨rfl, by kernel_rfl, by kernel_rfl, by kernel_rfl⟩
            intro m8 b8 hb8
            simp only [List.take, List.drop, junk, List.cons_append, List.nil_append, Nat.reduceAdd]
            refine wpQuiet_cut 7 89 64 (b8 || q6) ?hs8 ?hr8
            case hs8 =>
              as_aux_lemma =>
              simp only [List.take]
              repeat' (first | go_big_quiet_skip | (go_big_quiet_want; go_big_quiet_op; first | go_big_quiet_on | (apply Exists.intro; refine ⟨fun _ => ?hqg1, ?hqg2⟩; (case hqg1 => (go_at_call 37; refine Calls.grow_of (HPG.out _))); go_big_quiet_on)) | cases b8)
              all_goals exact wpQuiet_nil ⟨rfl, by kernel_rfl, by kernel_rfl, by kernel_rfl⟩
            intro m9 b9 hb9
            simp only [List.take, List.drop, junk, List.cons_append, List.nil_append, Nat.reduceAdd]
            refine wpQuiet_cut 7 89 71 (b9 || q7) ?hs9 ?hr9
            case hs9 =>
              as_aux_lemma =>
              simp only [List.take]
              repeat' (first | go_big_quiet_skip | (go_big_quiet_want; go_big_quiet_op; first | go_big_quiet_on | (apply Exists.intro; refine ⟨fun _ => ?hqg1, ?hqg2⟩; (case hqg1 => (go_at_call 37; refine Calls.grow_of (HPG.out _))); go_big_quiet_on)) | cases b9)
              all_goals exact wpQuiet_nil ⟨rfl, by kernel_rfl, by kernel_rfl, by kernel_rfl⟩
            intro m10 b10 hb10
            simp only [List.take, List.drop, junk, List.cons_append, List.nil_append, Nat.reduceAdd]
            refine wpQuiet_cut 7 89 78 (b10 || q8) ?hs10 ?hr10
            case hs10 =>
              as_aux_lemma =>
              simp only [List.take]
              repeat' (first | go_big_quiet_skip | (go_big_quiet_want; go_big_quiet_op; first | go_big_quiet_on | (apply Exists.intro; refine ⟨fun _ => ?hqg1, ?hqg2⟩; (case hqg1 => (go_at_call 37; refine Calls.grow_of (HPG.out _))); go_big_quiet_on)) | cases b10)
              all_goals exact wpQuiet_nil ⟨rfl, by kernel_rfl, by kernel_rfl, by kernel_rfl⟩
            intro m11 b11 hb11
            simp only [List.take, List.drop, junk, List.cons_append, List.nil_append, Nat.reduceAdd]
            refine wpQuiet_nil ?_
            rintro _ ⟨⟨extq, dq⟩, rfl⟩
            dsimp only
            go_wp2_with fail
            go_meet
            refine ⟨congrArg Value.bool ?_, _, _, rfl⟩
            rw [HNB.out, HOB.out, ← hb11.out, ← hb10.out, ← hb9.out, ← hb8.out, ← hb7.out, ← hb6.out, ← hb5.out, ← hb4.out, ← hb3.out, ← hb2.out, ← hb1.out]
            simp only [Bool.not_and, Bool.not_not, Bool.or_assoc]
            -- END 14
          case rest =>
            obtain ⟨rfl, ext0, d0, rfl⟩ := hcut
            refine gen_k (fun W2 hW2 => ?_)
            have hb2 : Below wr.heap.size wr W2 := by rw [hW2.out]; exact (by repeat (first | with_reducible exact Below.refl _ _ | with_reducible assumption | with_reducible exact below_d1 _ _ _ _ _ | with_reducible exact below_d2 _ _ _ _ _ _ _ _ | with_reducible exact below_d3 _ _ _ _ _ | with_reducible exact below_d4 _ _ _ _ _ _ _ _ | with_reducible exact below_d5 _ _ | with_reducible refine Below.drew ?_ | with_reducible refine Below.drewN' ?_ _ | with_reducible refine below_grow0 _ _ ?_ | with_reducible refine below_alloc0 _ ?_ | with_reducible refine Below.setCell ?_ ?_ _ | with_reducible refine Below.alloc ?_ ?_ _ | with_reducible refine Below.grow _ _ _ ?_ ?_ | omega | (simp; done) | (simp; omega)))
            have hs2 : wr.heap.size + 1 + 1 ≤ W2.heap.size := by rw [hW2.out]; simp
            have e0 : W2.cell? ⟨wr.heap.size, 0, none⟩ = some (.string xp) := by rw [hW2.out]; go_simp
            have e5 : W2.cell? ⟨wr.heap.size + 1, 5, none⟩ = some (.int .i64 xo) := by rw [hW2.out]; go_simp
            have e6 : W2.cell? ⟨wr.heap.size + 1, 6, none⟩ = some (.int .i64 xk) := by rw [hW2.out]; go_simp
            have t0 := (hb2.cell (p := ⟨w.heap.size, 0, none⟩) (Nat.lt_of_succ_lt hmb)).trans kk0
            have t1 := (hb2.cell (p := ⟨w.heap.size, 1, none⟩) (Nat.lt_of_succ_lt hmb)).trans kk1
            have t2 := (hb2.cell (p := ⟨w.heap.size, 2, none⟩) (Nat.lt_of_succ_lt hmb)).trans kk2
            have HC2 := Lib.hid (hcn.out.below hb2)
            have hbw2 : Below w.heap.size w W2 := Below.tr hbwr (by omega) hb2
            have hbx2 : Below (w.heap.size + 1) W1 W2 := hbx.trans (hb2.mono (by omega))
            have hs3 : w.heap.size + 1 < W2.heap.size := by omega
            clear hW2 c0 c1 c2' c3 c4 c5 c6 c7 c8 HPG kk0 kk1 kk2 hcn hokb hbwr hbx HC1
            cases nb with
            | true =>
              as_aux_lemma =>
              have hbad : gt = false := HF2.out k hlt (by rw [HOKK.out, show okb = false by simpa using hnb.symm]; rfl)
              subst hbad
              clear hnb
              go_wp2_with fail
              go_ret
              exact ⟨rfl, (by repeat (first | with_reducible exact Below.refl _ _ | with_reducible assumption | with_reducible exact below_d1 _ _ _ _ _ | with_reducible exact below_d2 _ _ _ _ _ _ _ _ | with_reducible exact below_d3 _ _ _ _ _ | with_reducible exact below_d4 _ _ _ _ _ _ _ _ | with_reducible exact below_d5 _ _ | with_reducible refine Below.drew ?_ | with_reducible refine Below.drewN' ?_ _ | with_reducible refine below_grow0 _ _ ?_ | with_reducible refine below_alloc0 _ ?_ | with_reducible refine Below.setCell ?_ ?_ _ | with_reducible refine Below.alloc ?_ ?_ _ | with_reducible refine Below.grow _ _ _ ?_ ?_ | omega | (simp; done) | (simp; omega)))⟩
            | false =>
              obtain rfl : okb = true := by simpa using hnb.symm
              clear hnb
              obtain ⟨p0, hp0⟩ : ∃ b, (xo == 0) = b := ⟨_, rfl⟩
              obtain ⟨p1, hp1⟩ : ∃ b, isI ss xo = b := ⟨_, rfl⟩
              obtain ⟨p2, hp2⟩ : ∃ b, (xk == 0) = b := ⟨_, rfl⟩
              obtain ⟨nw, hnw⟩ : ∃ b, b = (!p0 && (!p1 || !p2)) := ⟨_, rfl⟩
              rw [hp1] at HOP
              have HOK3 := Lib.hid (show okN ⟨z, l, ss⟩ k = (!nw && (decide ((splitR xp).2.2 ≠ 0) || hasN l (splitR xp).1)) by
                rw [HOKK.out, hnw, hp0, hp1, hp2]
                cases p0 <;> cases p1 <;> cases p2 <;> rfl)
              have HNW := Lib.hid hnw
              clear hnw HOKK
              go_upto_region 16 with fail
              go_cut [182] from 83 to 204 (fun s182 wx => s182 = .bool nw ∧ ∃ ext d, wx = grow W2 ext d)
              case first =>
                as_aux_lemma =>
                clear HOK3 HCQ hsd HSP HFD HF2 HF3 HF4 halln HC2
                by_cases hx0 : xo = 0
                · subst hx0
                  obtain rfl : p0 = true := by rw [← hp0]; rfl
                  go_wp2_with ((go_at_call 24; refine (HOP.out _ (H2.out.below (by repeat (first | with_reducible exact Below.refl _ _ | with_reducible assumption | with_reducible exact below_d1 _ _ _ _ _ | with_reducible exact below_d2 _ _ _ _ _ _ _ _ | with_reducible exact below_d3 _ _ _ _ _ | with_reducible exact below_d4 _ _ _ _ _ _ _ _ | with_reducible exact below_d5 _ _ | with_reducible refine Below.drew ?_ | with_reducible refine Below.drewN' ?_ _ | with_reducible refine below_grow0 _ _ ?_ | with_reducible refine below_alloc0 _ ?_ | with_reducible refine Below.setCell ?_ ?_ _ | with_reducible refine Below.alloc ?_ ?_ _ | with_reducible refine Below.grow _ _ _ ?_ ?_ | omega | (simp; done) | (simp; omega))))).mono ?_; rintro e w1 ⟨rfl, hb⟩; obtain ⟨ext1, d1, rfl⟩ := Below.grown_eq _ hb; clear hb))
                  go_meet
                  exact ⟨congrArg Value.bool (by rw [HNW.out]; rfl), _, _, grown_of (by repeat (first | with_reducible exact Below.refl _ _ | with_reducible assumption | with_reducible exact below_d1 _ _ _ _ _ | with_reducible exact below_d2 _ _ _ _ _ _ _ _ | with_reducible exact below_d3 _ _ _ _ _ | with_reducible exact below_d4 _ _ _ _ _ _ _ _ | with_reducible exact below_d5 _ _ | with_reducible refine Below.drew ?_ | with_reducible refine Below.drewN' ?_ _ | with_reducible refine below_grow0 _ _ ?_ | with_reducible refine below_alloc0 _ ?_ | with_reducible refine Below.setCell ?_ ?_ _ | with_reducible refine Below.alloc ?_ ?_ _ | with_reducible refine Below.grow _ _ _ ?_ ?_ | omega | (simp; done) | (simp; omega)))⟩
                · obtain rfl : p0 = false := by rw [← hp0]; exact beq_eq_false_iff_ne.2 hx0
                  cases p1 with
                  | false =>
                    go_wp2_with ((go_at_call 24; refine (HOP.out _ (H2.out.below (by repeat (first | with_reducible exact Below.refl _ _ | with_reducible assumption | with_reducible exact below_d1 _ _ _ _ _ | with_reducible exact below_d2 _ _ _ _ _ _ _ _ | with_reducible exact below_d3 _ _ _ _ _ | with_reducible exact below_d4 _ _ _ _ _ _ _ _ | with_reducible exact below_d5 _ _ | with_reducible refine Below.drew ?_ | with_reducible refine Below.drewN' ?_ _ | with_reducible refine below_grow0 _ _ ?_ | with_reducible refine below_alloc0 _ ?_ | with_reducible refine Below.setCell ?_ ?_ _ | with_reducible refine Below.alloc ?_ ?_ _ | with_reducible refine Below.grow _ _ _ ?_ ?_ | omega | (simp; done) | (simp; omega))))).mono ?_; rintro e w1 ⟨rfl, hb⟩; obtain ⟨ext1, d1, rfl⟩ := Below.grown_eq _ hb; clear hb))
                    go_meet
                    exact ⟨congrArg Value.bool (by rw [HNW.out]; simp [hx0]), _, _, grown_of (by repeat (first | with_reducible exact Below.refl _ _ | with_reducible assumption | with_reducible exact below_d1 _ _ _ _ _ | with_reducible exact below_d2 _ _ _ _ _ _ _ _ | with_reducible exact below_d3 _ _ _ _ _ | with_reducible exact below_d4 _ _ _ _ _ _ _ _ | with_reducible exact below_d5 _ _ | with_reducible refine Below.drew ?_ | with_reducible refine Below.drewN' ?_ _ | with_reducible refine below_grow0 _ _ ?_ | with_reducible refine below_alloc0 _ ?_ | with_reducible refine Below.setCell ?_ ?_ _ | with_reducible refine Below.alloc ?_ ?_ _ | with_reducible refine Below.grow _ _ _ ?_ ?_ | omega | (simp; done) | (simp; omega)))⟩
                  | true =>
                    by_cases hx1 : xk = 0
                    · subst hx1
                      obtain rfl : p2 = true := by rw [← hp2]; rfl
                      go_wp2_with ((go_at_call 24; refine (HOP.out _ (H2.out.below (by repeat (first | with_reducible exact Below.refl _ _ | with_reducible assumption | with_reducible exact below_d1 _ _ _ _ _ | with_reducible exact below_d2 _ _ _ _ _ _ _ _ | with_reducible exact below_d3 _ _ _ _ _ | with_reducible exact below_d4 _ _ _ _ _ _ _ _ | with_reducible exact below_d5 _ _ | with_reducible refine Below.drew ?_ | with_reducible refine Below.drewN' ?_ _ | with_reducible refine below_grow0 _ _ ?_ | with_reducible refine below_alloc0 _ ?_ | with_reducible refine Below.setCell ?_ ?_ _ | with_reducible refine Below.alloc ?_ ?_ _ | with_reducible refine Below.grow _ _ _ ?_ ?_ | omega | (simp; done) | (simp; omega))))).mono ?_; rintro e w1 ⟨rfl, hb⟩; obtain ⟨ext1, d1, rfl⟩ := Below.grown_eq _ hb; clear hb))
                      go_meet
                      exact ⟨congrArg Value.bool (by rw [HNW.out]; simp), _, _, grown_of (by repeat (first | with_reducible exact Below.refl _ _ | with_reducible assumption | with_reducible exact below_d1 _ _ _ _ _ | with_reducible exact below_d2 _ _ _ _ _ _ _ _ | with_reducible exact below_d3 _ _ _ _ _ | with_reducible exact below_d4 _ _ _ _ _ _ _ _ | with_reducible exact below_d5 _ _ | with_reducible refine Below.drew ?_ | with_reducible refine Below.drewN' ?_ _ | with_reducible refine below_grow0 _ _ ?_ | with_reducible refine below_alloc0 _ ?_ | with_reducible refine Below.setCell ?_ ?_ _ | with_reducible refine Below.alloc ?_ ?_ _ | with_reducible refine Below.grow _ _ _ ?_ ?_ | omega | (simp; done) | (simp; omega)))⟩
                    · obtain rfl : p2 = false := by rw [← hp2]; exact beq_eq_false_iff_ne.2 hx1
                      go_wp2_with ((go_at_call 24; refine (HOP.out _ (H2.out.below (by repeat (first | with_reducible exact Below.refl _ _ | with_reducible assumption | with_reducible exact below_d1 _ _ _ _ _ | with_reducible exact below_d2 _ _ _ _ _ _ _ _ | with_reducible exact below_d3 _ _ _ _ _ | with_reducible exact below_d4 _ _ _ _ _ _ _ _ | with_reducible exact below_d5 _ _ | with_reducible refine Below.drew ?_ | with_reducible refine Below.drewN' ?_ _ | with_reducible refine below_grow0 _ _ ?_ | with_reducible refine below_alloc0 _ ?_ | with_reducible refine Below.setCell ?_ ?_ _ | with_reducible refine Below.alloc ?_ ?_ _ | with_reducible refine Below.grow _ _ _ ?_ ?_ | omega | (simp; done) | (simp; omega))))).mono ?_; rintro e w1 ⟨rfl, hb⟩; obtain ⟨ext1, d1, rfl⟩ := Below.grown_eq _ hb; clear hb))
                      go_meet
                      exact ⟨congrArg Value.bool (by rw [HNW.out]; simp [hx0, hx1]), _, _, grown_of (by repeat (first | with_reducible exact Below.refl _ _ | with_reducible assumption | with_reducible exact below_d1 _ _ _ _ _ | with_reducible exact below_d2 _ _ _ _ _ _ _ _ | with_reducible exact below_d3 _ _ _ _ _ | with_reducible exact below_d4 _ _ _ _ _ _ _ _ | with_reducible exact below_d5 _ _ | with_reducible refine Below.drew ?_ | with_reducible refine Below.drewN' ?_ _ | with_reducible refine below_grow0 _ _ ?_ | with_reducible refine below_alloc0 _ ?_ | with_reducible refine Below.setCell ?_ ?_ _ | with_reducible refine Below.alloc ?_ ?_ _ | with_reducible refine Below.grow _ _ _ ?_ ?_ | omega | (simp; done) | (simp; omega)))⟩
              case rest =>
                obtain ⟨rfl, ext3, d3, rfl⟩ := hcut
                clear e5 e6 hp0 hp1 hp2 HOP HNW
                cases nw with
                | true =>
                  as_aux_lemma =>
                  have hbad : gt = false := HF2.out k hlt (by rw [HOK3.out]; rfl)
                  subst hbad
                  go_wp2_with fail
                  go_ret
                  exact ⟨rfl, (by repeat (first | with_reducible exact Below.refl _ _ | with_reducible assumption | with_reducible exact below_d1 _ _ _ _ _ | with_reducible exact below_d2 _ _ _ _ _ _ _ _ | with_reducible exact below_d3 _ _ _ _ _ | with_reducible exact below_d4 _ _ _ _ _ _ _ _ | with_reducible exact below_d5 _ _ | with_reducible refine Below.drew ?_ | with_reducible refine Below.drewN' ?_ _ | with_reducible refine below_grow0 _ _ ?_ | with_reducible refine below_alloc0 _ ?_ | with_reducible refine Below.setCell ?_ ?_ _ | with_reducible refine Below.alloc ?_ ?_ _ | with_reducible refine Below.grow _ _ _ ?_ ?_ | omega | (simp; done) | (simp; omega)))⟩
                | false =>
                  generalize splitR xp = sp at *
                  obtain ⟨sd, st, se⟩ := sp
                  simp only at *
                  by_cases hse : se = 0
                  · as_aux_lemma =>
                    subst hse
                    have HCQ2 := Lib.hid (fun q => show (l.take (k + 1)).countP (kidB q) = (l.take k).countP (kidB q) + (if sd = q then 1 else 0) by rw [HCQ.out q]; simp)
                    have HOK4 := Lib.hid (show okN ⟨z, l, ss⟩ k = hasN l sd by rw [HOK3.out]; rfl)
                    have hcl : (l.take k).countP (kidB sd) ≤ k := Nat.le_trans List.countP_le_length (by rw [List.length_take]; omega)
                    clear HOK3 HCQ
                    cases hhn : hasN l sd with
                    | false =>
                      rw [hhn] at HFD HOK4
                      have hbad : gt = false := HF2.out k hlt HOK4.out
                      subst hbad
                      clear hhn
                      go_wp2_with (first | (go_at_call 25; refine (HSP.out _).mono ?_; rintro e w1 ⟨rfl, hb⟩; obtain ⟨ext4, d4, rfl⟩ := Below.grown_eq _ hb; clear hb) | (go_at_call 38; refine (HFD.out _ (H.out.below (by repeat (first | with_reducible exact Below.refl _ _ | with_reducible assumption | with_reducible exact below_d1 _ _ _ _ _ | with_reducible exact below_d2 _ _ _ _ _ _ _ _ | with_reducible exact below_d3 _ _ _ _ _ | with_reducible exact below_d4 _ _ _ _ _ _ _ _ | with_reducible exact below_d5 _ _ | with_reducible refine Below.drew ?_ | with_reducible refine Below.drewN' ?_ _ | with_reducible refine below_grow0 _ _ ?_ | with_reducible refine below_alloc0 _ ?_ | with_reducible refine Below.setCell ?_ ?_ _ | with_reducible refine Below.alloc ?_ ?_ _ | with_reducible refine Below.grow _ _ _ ?_ ?_ | omega | (simp; done) | (simp; omega))))).mono ?_; rintro e w1 ⟨rfl, hb⟩; obtain ⟨ext5, d5, rfl⟩ := Below.grown_eq _ hb; clear hb))
                      go_ret
                      exact ⟨rfl, (by repeat (first | with_reducible exact Below.refl _ _ | with_reducible assumption | with_reducible exact below_d1 _ _ _ _ _ | with_reducible exact below_d2 _ _ _ _ _ _ _ _ | with_reducible exact below_d3 _ _ _ _ _ | with_reducible exact below_d4 _ _ _ _ _ _ _ _ | with_reducible exact below_d5 _ _ | with_reducible refine Below.drew ?_ | with_reducible refine Below.drewN' ?_ _ | with_reducible refine below_grow0 _ _ ?_ | with_reducible refine below_alloc0 _ ?_ | with_reducible refine Below.setCell ?_ ?_ _ | with_reducible refine Below.alloc ?_ ?_ _ | with_reducible refine Below.grow _ _ _ ?_ ?_ | omega | (simp; done) | (simp; omega)))⟩
                    | true =>
                      rw [hhn] at HFD HOK4
                      clear hhn
                      have HFN : Hid (∀ i, i < k + 1 → okN ⟨z, l, ss⟩ i = true) := Lib.hid (fun i hi => by
                        rcases Nat.lt_or_ge i k with h | h
                        · exact halln.out i h
                        · obtain rfl : i = k := by omega
                          exact HOK4.out)
                      have HGC : ∀ W, Below W2.heap.size W2 W → Hid (Cnt W (w.heap.size + 1) k (fun q => (((l.take k).countP (kidB q) : Nat) : Int))) := fun W hW => Lib.hid (HC2.out.below hW)
                      have HPC : Hid (∀ q, (((l.take (k + 1)).countP (kidB q) : Nat) : Int) = (if q = sd then (((l.take k).countP (kidB sd) : Nat) : Int) + 1 else (((l.take k).countP (kidB q) : Nat) : Int))) := Lib.hid (fun q => by
                        rw [HCQ2.out q]
                        by_cases hq : q = sd
                        · subst hq; simp
                        · rw [if_neg hq, if_neg (fun e => hq e.symm)]; rfl)
                      clear HOK4 halln HC2 HCQ2
                      go_wp2_with (first | (go_at_call 25; refine (HSP.out _).mono ?_; rintro e w1 ⟨rfl, hb⟩; obtain ⟨ext4, d4, rfl⟩ := Below.grown_eq _ hb; clear hb) | (go_at_call 38; refine (HFD.out _ (H.out.below (by repeat (first | with_reducible exact Below.refl _ _ | with_reducible assumption | with_reducible exact below_d1 _ _ _ _ _ | with_reducible exact below_d2 _ _ _ _ _ _ _ _ | with_reducible exact below_d3 _ _ _ _ _ | with_reducible exact below_d4 _ _ _ _ _ _ _ _ | with_reducible exact below_d5 _ _ | with_reducible refine Below.drew ?_ | with_reducible refine Below.drewN' ?_ _ | with_reducible refine below_grow0 _ _ ?_ | with_reducible refine below_alloc0 _ ?_ | with_reducible refine Below.setCell ?_ ?_ _ | with_reducible refine Below.alloc ?_ ?_ _ | with_reducible refine Below.grow _ _ _ ?_ ?_ | omega | (simp; done) | (simp; omega))))).mono ?_; rintro e w1 ⟨rfl, hb⟩; obtain ⟨ext5, d5, rfl⟩ := Below.grown_eq _ hb; clear hb) | (at_lookup; refine wpList_cntget rfl (.tmp 200) (.tmp 201) rfl rfl (HGC _ (by repeat (first | with_reducible exact Below.refl _ _ | with_reducible assumption | with_reducible exact below_d1 _ _ _ _ _ | with_reducible exact below_d2 _ _ _ _ _ _ _ _ | with_reducible exact below_d3 _ _ _ _ _ | with_reducible exact below_d4 _ _ _ _ _ _ _ _ | with_reducible exact below_d5 _ _ | with_reducible refine Below.drew ?_ | with_reducible refine Below.drewN' ?_ _ | with_reducible refine below_grow0 _ _ ?_ | with_reducible refine below_alloc0 _ ?_ | with_reducible refine Below.setCell ?_ ?_ _ | with_reducible refine Below.alloc ?_ ?_ _ | with_reducible refine Below.grow _ _ _ ?_ ?_ | omega | (simp; done) | (simp; omega)))).out sd rfl (by simp [maxLen]; omega) ?_; (try dsimp only)) | (at_mapUpdate; refine wpList_cntput rfl (.tmp 200) (.tmp 201) (.tmp 203) rfl rfl (HGC _ (by repeat (first | with_reducible exact Below.refl _ _ | with_reducible assumption | with_reducible exact below_d1 _ _ _ _ _ | with_reducible exact below_d2 _ _ _ _ _ _ _ _ | with_reducible exact below_d3 _ _ _ _ _ | with_reducible exact below_d4 _ _ _ _ _ _ _ _ | with_reducible exact below_d5 _ _ | with_reducible refine Below.drew ?_ | with_reducible refine Below.drewN' ?_ _ | with_reducible refine below_grow0 _ _ ?_ | with_reducible refine below_alloc0 _ ?_ | with_reducible refine Below.setCell ?_ ?_ _ | with_reducible refine Below.alloc ?_ ?_ _ | with_reducible refine Below.grow _ _ _ ?_ ?_ | omega | (simp; done) | (simp; omega)))).out (by simp [maxLen]; omega) sd rfl (by simp [maxLen]; omega) _ rfl (by simp [Lit.wf, IntKind.min, IntKind.max, IntKind.signed, IntKind.bits]; omega) ?_; intro w2 hC hg; have HCC := Lib.hid hC; have HGG := Lib.hid hg; clear hC hg))
                      have hbw' := below_put (B := w.heap.size + 1) (show Below (w.heap.size + 1) W1 _ from hbx2.trans (Below.mono (show Below W2.heap.size W2 _ from (by repeat (first | with_reducible exact Below.refl _ _ | with_reducible assumption | with_reducible exact below_d1 _ _ _ _ _ | with_reducible exact below_d2 _ _ _ _ _ _ _ _ | with_reducible exact below_d3 _ _ _ _ _ | with_reducible exact below_d4 _ _ _ _ _ _ _ _ | with_reducible exact below_d5 _ _ | with_reducible refine Below.drew ?_ | with_reducible refine Below.drewN' ?_ _ | with_reducible refine below_grow0 _ _ ?_ | with_reducible refine below_alloc0 _ ?_ | with_reducible refine Below.setCell ?_ ?_ _ | with_reducible refine Below.alloc ?_ ?_ _ | with_reducible refine Below.grow _ _ _ ?_ ?_ | omega | (simp; done) | (simp; omega)))) (by omega))) (by simp; omega) (Nat.le_refl _) HGG.out
                      go_roundw
                      case rel => exact ⟨k + 1, by omega, by go_num, HFN, Lib.hid (HCC.out.same (fun q => HPC.out q)), hbw'⟩
                      case measure => simp [intOf]; omega
                  · as_aux_lemma =>
                    have hne : (se == 0) = false := beq_eq_false_iff_ne.2 hse
                    have HFN : Hid (∀ i, i < k + 1 → okN ⟨z, l, ss⟩ i = true) := Lib.hid (fun i hi => by
                      rcases Nat.lt_or_ge i k with h | h
                      · exact halln.out i h
                      · obtain rfl : i = k := by omega
                        rw [HOK3.out, decide_eq_true hse]; rfl)
                    have HC3 : ∀ W, Below W2.heap.size W2 W → Hid (Cnt W (w.heap.size + 1) (k + 1) (fun q => (((l.take (k + 1)).countP (kidB q) : Nat) : Int))) := fun W hW => Lib.hid ((((HC2.out.below hW).mono (Nat.le_succ k))).same (fun q => by rw [HCQ.out q, decide_eq_false hse]; simp))
                    clear HOK3 halln HCQ HC2 hse
                    go_wp2_with ((go_at_call 25; refine (HSP.out _).mono ?_; rintro e w1 ⟨rfl, hb⟩; obtain ⟨ext4, d4, rfl⟩ := Below.grown_eq _ hb; clear hb))
                    go_roundw
                    case rel => exact ⟨k + 1, by omega, by go_num, HFN, HC3 _ (by repeat (first | with_reducible exact Below.refl _ _ | with_reducible assumption | with_reducible exact below_d1 _ _ _ _ _ | with_reducible exact below_d2 _ _ _ _ _ _ _ _ | with_reducible exact below_d3 _ _ _ _ _ | with_reducible exact below_d4 _ _ _ _ _ _ _ _ | with_reducible exact below_d5 _ _ | with_reducible refine Below.drew ?_ | with_reducible refine Below.drewN' ?_ _ | with_reducible refine below_grow0 _ _ ?_ | with_reducible refine below_alloc0 _ ?_ | with_reducible refine Below.setCell ?_ ?_ _ | with_reducible refine Below.alloc ?_ ?_ _ | with_reducible refine Below.grow _ _ _ ?_ ?_ | omega | (simp; done) | (simp; omega))), hbx2.trans (Below.mono (show Below W2.heap.size W2 _ from (by repeat (first | with_reducible exact Below.refl _ _ | with_reducible assumption | with_reducible exact below_d1 _ _ _ _ _ | with_reducible exact below_d2 _ _ _ _ _ _ _ _ | with_reducible exact below_d3 _ _ _ _ _ | with_reducible exact below_d4 _ _ _ _ _ _ _ _ | with_reducible exact below_d5 _ _ | with_reducible refine Below.drew ?_ | with_reducible refine Below.drewN' ?_ _ | with_reducible refine below_grow0 _ _ ?_ | with_reducible refine below_alloc0 _ ?_ | with_reducible refine Below.setCell ?_ ?_ _ | with_reducible refine Below.alloc ?_ ?_ _ | with_reducible refine Below.grow _ _ _ ?_ ?_ | omega | (simp; done) | (simp; omega)))) (by omega))⟩
                    case measure => simp [intOf]; omega
        · as_aux_lemma =>
          have hkl : k = l.length := by omega
          subst hkl
          rw [List.take_length] at hcn
          clear hk hlt HC1
          obtain ⟨wk, hwk⟩ : ∃ x : World, x = wr := ⟨wr, rfl⟩
          subst hwk
          go_wp2_with fail
          go_loopw [208] (fun i wr => ∃ j : Nat, j ≤ l.length ∧ i = .int .i64 j ∧ Hid (∀ i x, i < j → l[i]? = some x → x.kids = ((l.countP (kidB x.path) : Nat) : Int)) ∧ Below wk.heap.size wk wr) (fun i _ => l.length - (intOf i).toNat)
          case atStart => exact ⟨0, Nat.zero_le _, rfl, Lib.hid (fun i x hi => absurd hi (Nat.not_lt_zero _)), Below.refl _ _⟩
          case round =>
            obtain ⟨j, hj, rfl, hall3, hbs⟩ := hrel
            have hbws : Below w.heap.size w wr := Below.tr hbwr (by omega) hbs
            have s0 := (hbs.cell (p := ⟨w.heap.size, 0, none⟩) (Nat.lt_of_succ_lt hmb)).trans kk0
            have s1 := (hbs.cell (p := ⟨w.heap.size, 1, none⟩) (Nat.lt_of_succ_lt hmb)).trans kk1
            have s2 := (hbs.cell (p := ⟨w.heap.size, 2, none⟩) (Nat.lt_of_succ_lt hmb)).trans kk2
            have HCW := Lib.hid (hcn.out.below hbs)
            clear kk0 kk1 kk2
            by_cases hlt3 : j < l.length
            · have hx : l[j]? = some (l[j]'hlt3) := List.getElem?_eq_getElem _
              obtain ⟨bk', off', hA, _, c0, c1, c2', c3, c4, c5, c6, c7, c8⟩ := (H.out.below hbws).Node_at hx
              cases hA
              have hpsz := hz _ (List.mem_of_getElem? hx)
              have hcl : l.countP (kidB (l[j]'hlt3).path) ≤ l.length := List.countP_le_length
              have HGC : ∀ W, Below wr.heap.size wr W → Hid (Cnt W (w.heap.size + 1) l.length (fun q => ((l.countP (kidB q) : Nat) : Int))) := fun W hW => Lib.hid (HCW.out.below hW)
              have HX := Lib.hid hx
              generalize l[j]'hlt3 = x at *
              obtain ⟨xp, xd, xz, xm, xq, xv, xc, xo, xk⟩ := x
              simp only at *
              by_cases hkk : xk = ((l.countP (kidB xp) : Nat) : Int)
              · have hke : (xk == ((l.countP (kidB xp) : Nat) : Int)) = true := by rw [hkk]; simp
                have HA3 : Hid (∀ i x, i < j + 1 → l[i]? = some x → x.kids = ((l.countP (kidB x.path) : Nat) : Int)) := Lib.hid (fun i u hi hu => by
                  rcases Nat.lt_or_ge i j with h | h
                  · exact hall3.out i u h hu
                  · obtain rfl : i = j := by omega
                    rw [Option.some.inj (hu.symm.trans HX.out)]
                    exact hkk)
                clear hx hall3
                go_wp2_with (at_lookup; refine wpList_cntget rfl (.tmp 215) (.tmp 217) rfl rfl (HGC _ (by repeat (first | with_reducible exact Below.refl _ _ | with_reducible assumption | with_reducible exact below_d1 _ _ _ _ _ | with_reducible exact below_d2 _ _ _ _ _ _ _ _ | with_reducible exact below_d3 _ _ _ _ _ | with_reducible exact below_d4 _ _ _ _ _ _ _ _ | with_reducible exact below_d5 _ _ | with_reducible refine Below.drew ?_ | with_reducible refine Below.drewN' ?_ _ | with_reducible refine below_grow0 _ _ ?_ | with_reducible refine below_alloc0 _ ?_ | with_reducible refine Below.setCell ?_ ?_ _ | with_reducible refine Below.alloc ?_ ?_ _ | with_reducible refine Below.grow _ _ _ ?_ ?_ | omega | (simp; done) | (simp; omega)))).out xp rfl (by simp [maxLen]; omega) ?_; (try dsimp only))
                go_roundw
                case rel => exact ⟨j + 1, by omega, by go_num, HA3, (by repeat (first | with_reducible exact Below.refl _ _ | with_reducible assumption | with_reducible exact below_d1 _ _ _ _ _ | with_reducible exact below_d2 _ _ _ _ _ _ _ _ | with_reducible exact below_d3 _ _ _ _ _ | with_reducible exact below_d4 _ _ _ _ _ _ _ _ | with_reducible exact below_d5 _ _ | with_reducible refine Below.drew ?_ | with_reducible refine Below.drewN' ?_ _ | with_reducible refine below_grow0 _ _ ?_ | with_reducible refine below_alloc0 _ ?_ | with_reducible refine Below.setCell ?_ ?_ _ | with_reducible refine Below.alloc ?_ ?_ _ | with_reducible refine Below.grow _ _ _ ?_ ?_ | omega | (simp; done) | (simp; omega)))⟩
                case measure => simp [intOf]; omega
              · have hke : (xk == ((l.countP (kidB xp) : Nat) : Int)) = false := beq_eq_false_iff_ne.2 hkk
                have hbad : gt = false := HF3.out (by
                  unfold kidsB
                  rw [List.all_eq_false]
                  exact ⟨_, List.mem_of_getElem? HX.out, by simpa using hkk⟩)
                subst hbad
                clear hx hall3
                go_wp2_with (at_lookup; refine wpList_cntget rfl (.tmp 215) (.tmp 217) rfl rfl (HGC _ (by repeat (first | with_reducible exact Below.refl _ _ | with_reducible assumption | with_reducible exact below_d1 _ _ _ _ _ | with_reducible exact below_d2 _ _ _ _ _ _ _ _ | with_reducible exact below_d3 _ _ _ _ _ | with_reducible exact below_d4 _ _ _ _ _ _ _ _ | with_reducible exact below_d5 _ _ | with_reducible refine Below.drew ?_ | with_reducible refine Below.drewN' ?_ _ | with_reducible refine below_grow0 _ _ ?_ | with_reducible refine below_alloc0 _ ?_ | with_reducible refine Below.setCell ?_ ?_ _ | with_reducible refine Below.alloc ?_ ?_ _ | with_reducible refine Below.grow _ _ _ ?_ ?_ | omega | (simp; done) | (simp; omega)))).out xp rfl (by simp [maxLen]; omega) ?_; (try dsimp only))
                go_ret
                exact ⟨rfl, (by repeat (first | with_reducible exact Below.refl _ _ | with_reducible assumption | with_reducible exact below_d1 _ _ _ _ _ | with_reducible exact below_d2 _ _ _ _ _ _ _ _ | with_reducible exact below_d3 _ _ _ _ _ | with_reducible exact below_d4 _ _ _ _ _ _ _ _ | with_reducible exact below_d5 _ _ | with_reducible refine Below.drew ?_ | with_reducible refine Below.drewN' ?_ _ | with_reducible refine below_grow0 _ _ ?_ | with_reducible refine below_alloc0 _ ?_ | with_reducible refine Below.setCell ?_ ?_ _ | with_reducible refine Below.alloc ?_ ?_ _ | with_reducible refine Below.grow _ _ _ ?_ ?_ | omega | (simp; done) | (simp; omega)))⟩
            · have hjl : j = l.length := by omega
              subst hjl
              obtain rfl : gt = true := HF4.out hall.out halln.out (by
                unfold kidsB
                rw [List.all_eq_true]
                intro x hx
                obtain ⟨i, hi⟩ := List.mem_iff_getElem?.1 hx
                exact decide_eq_true (hall3.out i x (List.getElem?_eq_some_iff.1 hi).1 hi))
              go_wp2_with fail
              go_ret
              exact ⟨rfl, (by repeat (first | with_reducible exact Below.refl _ _ | with_reducible assumption | with_reducible exact below_d1 _ _ _ _ _ | with_reducible exact below_d2 _ _ _ _ _ _ _ _ | with_reducible exact below_d3 _ _ _ _ _ | with_reducible exact below_d4 _ _ _ _ _ _ _ _ | with_reducible exact below_d5 _ _ | with_reducible refine Below.drew ?_ | with_reducible refine Below.drewN' ?_ _ | with_reducible refine below_grow0 _ _ ?_ | with_reducible refine below_alloc0 _ ?_ | with_reducible refine Below.setCell ?_ ?_ _ | with_reducible refine Below.alloc ?_ ?_ _ | with_reducible refine Below.grow _ _ _ ?_ ?_ | omega | (simp; done) | (simp; omega)))⟩
end Go.Proofs.YteolglmifimnaaaDoor

/- package tree: Good, of a tree with a bad head. -/
namespace Go.Proofs.YteolglmifimnaaaDoor
open Go.RowKit Go.ChangeShapes Go.WideShapes Go.ChangeAt
theorem good_nohead {t : Tr} (h : headB t = false) : goodTree t = false := by unfold goodTree; rw [h]; rfl
theorem head_no {z : Int} {n : Node} {r : List Node} {ss : List Int} (h : headB ⟨z, n :: r, ss⟩ = false) (h4 : (n :: r).length ≤ 400) (hp : n.path = slash) (ho : n.owner = 0) : ¬ Zx z := by
  intro hz
  unfold headB at h
  simp only at h
  rw [decide_eq_true h4, decide_eq_true (show 0 ≤ z ∧ z < 4611686018427387904 from hz), decide_eq_true hp, decide_eq_true ho] at h
  cases h
set_option maxRecDepth 100000 in
set_option maxHeartbeats 1000000 in
theorem trGood_nohead (z : Int) (v v2 : Value) (l : List Node) (ss : List Int) (w : World) (h : Sl cNode 9 w v l) (h2 : Sl cInt 1 w v2 ss) (hh : headB ⟨z, l, ss⟩ = false) :
    Calls Tryd.prog 13 #[.agg #[.int .i64 z, v, v2]] w fun e w' => e = .returned (.bool (goodTree ⟨z, l, ss⟩)) ∧ Below w.heap.size w w' := by
  rw [good_nohead hh]
  obtain ⟨A, c, rfl, h1, h1b⟩ := h.form
  obtain ⟨A2, c2, rfl, h3, h3b⟩ := h2.form
  cases l with
  | nil =>
    simp only [List.length_nil]
    clear h h2 hh
    go_enter Tryd.func13, Tryd.ntmps13
    go_wp2_with fail
    go_ret
    exact ⟨rfl, (by repeat (first | with_reducible exact Below.refl _ _ | with_reducible assumption | with_reducible exact below_d1 _ _ _ _ _ | with_reducible exact below_d2 _ _ _ _ _ _ _ _ | with_reducible exact below_d3 _ _ _ _ _ | with_reducible exact below_d4 _ _ _ _ _ _ _ _ | with_reducible exact below_d5 _ _ | with_reducible refine Below.drew ?_ | with_reducible refine Below.drewN' ?_ _ | with_reducible refine below_grow0 _ _ ?_ | with_reducible refine below_alloc0 _ ?_ | with_reducible refine Below.setCell ?_ ?_ _ | with_reducible refine Below.alloc ?_ ?_ _ | with_reducible refine Below.grow _ _ _ ?_ ?_ | omega | (simp; done) | (simp; omega)))⟩
  | cons n r =>
    obtain ⟨bk, off, rfl, hbw, n0, n1, n2, n3, n4, n5, n6, n7, n8⟩ := h.Node_at (i := 0) (x := n) rfl
    simp only [Nat.zero_mul, Nat.add_zero] at n0 n1 n2 n3 n4 n5 n6 n7 n8
    have HNO := Lib.hid (fun h4 hp ho => head_no hh h4 hp ho)
    have HG := Lib.hid (fun (W : World) (hz : ¬ Zx z) => zgood_no z W hz)
    have hm1 : 0 < (n :: r).length := Nat.succ_pos _
    generalize (n :: r).length = m at *
    have hm0 : ((m : Int) == 0) = false := beq_eq_false_iff_ne.2 (by omega)
    clear h h2 hh
    by_cases g1 : 400 < m
    · have hm4 : decide ((400 : Int) < (m : Int)) = true := decide_eq_true (by omega)
      clear HNO HG
      go_enter Tryd.func13, Tryd.ntmps13
      go_wp2_with fail
      go_ret
      exact ⟨rfl, (by repeat (first | with_reducible exact Below.refl _ _ | with_reducible assumption | with_reducible exact below_d1 _ _ _ _ _ | with_reducible exact below_d2 _ _ _ _ _ _ _ _ | with_reducible exact below_d3 _ _ _ _ _ | with_reducible exact below_d4 _ _ _ _ _ _ _ _ | with_reducible exact below_d5 _ _ | with_reducible refine Below.drew ?_ | with_reducible refine Below.drewN' ?_ _ | with_reducible refine below_grow0 _ _ ?_ | with_reducible refine below_alloc0 _ ?_ | with_reducible refine Below.setCell ?_ ?_ _ | with_reducible refine Below.alloc ?_ ?_ _ | with_reducible refine Below.grow _ _ _ ?_ ?_ | omega | (simp; done) | (simp; omega)))⟩
    · have hm4 : decide ((400 : Int) < (m : Int)) = false := decide_eq_false (by omega)
      by_cases g2 : n.path = slash
      · have hpp : (slash.toList == [47]) = true := by unfold slash; rw [ByteArray.toList_eq]; rfl
        rw [g2] at n0
        by_cases g3 : n.owner = 0
        · have hz := HNO.out (by omega) g2 g3
          rw [g3] at n7
          clear HNO g2 g3
          go_enter Tryd.func13, Tryd.ntmps13
          go_wp2_with ((go_at_call 27; refine (HG.out _ hz).mono ?_; rintro e w1 ⟨rfl, rfl⟩; skip))
          go_ret
          exact ⟨rfl, (by repeat (first | with_reducible exact Below.refl _ _ | with_reducible assumption | with_reducible exact below_d1 _ _ _ _ _ | with_reducible exact below_d2 _ _ _ _ _ _ _ _ | with_reducible exact below_d3 _ _ _ _ _ | with_reducible exact below_d4 _ _ _ _ _ _ _ _ | with_reducible exact below_d5 _ _ | with_reducible refine Below.drew ?_ | with_reducible refine Below.drewN' ?_ _ | with_reducible refine below_grow0 _ _ ?_ | with_reducible refine below_alloc0 _ ?_ | with_reducible refine Below.setCell ?_ ?_ _ | with_reducible refine Below.alloc ?_ ?_ _ | with_reducible refine Below.grow _ _ _ ?_ ?_ | omega | (simp; done) | (simp; omega)))⟩
        · have hno : (n.owner == 0) = false := beq_eq_false_iff_ne.2 g3
          generalize n.owner = no at *
          clear HNO HG g2
          go_enter Tryd.func13, Tryd.ntmps13
          go_wp2_with fail
          go_ret
          exact ⟨rfl, (by repeat (first | with_reducible exact Below.refl _ _ | with_reducible assumption | with_reducible exact below_d1 _ _ _ _ _ | with_reducible exact below_d2 _ _ _ _ _ _ _ _ | with_reducible exact below_d3 _ _ _ _ _ | with_reducible exact below_d4 _ _ _ _ _ _ _ _ | with_reducible exact below_d5 _ _ | with_reducible refine Below.drew ?_ | with_reducible refine Below.drewN' ?_ _ | with_reducible refine below_grow0 _ _ ?_ | with_reducible refine below_alloc0 _ ?_ | with_reducible refine Below.setCell ?_ ?_ _ | with_reducible refine Below.alloc ?_ ?_ _ | with_reducible refine Below.grow _ _ _ ?_ ?_ | omega | (simp; done) | (simp; omega)))⟩
      · have hpp := ne_slash g2
        clear HNO HG g2
        go_enter Tryd.func13, Tryd.ntmps13
        go_wp2_with fail
        go_ret
        exact ⟨rfl, (by repeat (first | with_reducible exact Below.refl _ _ | with_reducible assumption | with_reducible exact below_d1 _ _ _ _ _ | with_reducible exact below_d2 _ _ _ _ _ _ _ _ | with_reducible exact below_d3 _ _ _ _ _ | with_reducible exact below_d4 _ _ _ _ _ _ _ _ | with_reducible exact below_d5 _ _ | with_reducible refine Below.drew ?_ | with_reducible refine Below.drewN' ?_ _ | with_reducible refine below_grow0 _ _ ?_ | with_reducible refine below_alloc0 _ ?_ | with_reducible refine Below.setCell ?_ ?_ _ | with_reducible refine Below.alloc ?_ ?_ _ | with_reducible refine Below.grow _ _ _ ?_ ?_ | omega | (simp; done) | (simp; omega)))⟩
end Go.Proofs.YteolglmifimnaaaDoor

/- package tree: Good, at every tree. -/
namespace Go.Proofs.YteolglmifimnaaaDoor
open Go.RowKit Go.ChangeShapes Go.WideShapes Go.ChangeAt
theorem trGood (z : Int) (v v2 : Value) (l : List Node) (ss : List Int) (w : World) (h : Sl cNode 9 w v l) (h2 : Sl cInt 1 w v2 ss) (hn : ss.length ≤ 140737488355328) (hz : ∀ n ∈ l, n.path.size ≤ 9223372036854775807) :
    Calls Tryd.prog 13 #[.agg #[.int .i64 z, v, v2]] w fun e w' => e = .returned (.bool (goodTree ⟨z, l, ss⟩)) ∧ Below w.heap.size w w' := by
  cases hh : headB ⟨z, l, ss⟩ with
  | true => exact trGood_head z v v2 l ss w h h2 hn hh hz
  | false => exact trGood_nohead z v v2 l ss w h h2 hh
end Go.Proofs.YteolglmifimnaaaDoor

/- Trees: what a transaction leaves is a good tree. -/
namespace Go.Proofs.YteolglmifimnaaaDoor
open Go.RowKit
theorem eq_slash {p : ByteArray} : p.toList = [47] ↔ p = slash := by
  constructor
  · intro h
    exact bytes_eqB (by rw [h]; unfold slash; rw [ByteArray.toList_eq])
  · intro h
    rw [h]
    unfold slash
    rw [ByteArray.toList_eq]
theorem eq_nil {p : ByteArray} : p.toList = [] ↔ p = ⟨#[]⟩ := by
  constructor
  · intro h
    exact bytes_eqB (by rw [h, ByteArray.toList_eq])
  · intro h
    rw [h, ByteArray.toList_eq]
theorem goodT_inv {x : Txn} (h : goodT x = 0) : (1 ≤ x.op ∧ x.op ≤ 5) ∧ Zx x.zxid ∧ (1 ≤ x.session ∧ x.session ≤ 2147483647) ∧ (0 ≤ x.version ∧ x.version ≤ 2147483647) ∧ (0 ≤ x.owner ∧ x.owner ≤ 2147483647) ∧ x.data.size ≤ 256 ∧
    (x.op ≤ 2 → x.path = ⟨#[]⟩ ∧ x.data = ⟨#[]⟩ ∧ x.version = 0 ∧ x.owner = 0) ∧ (3 ≤ x.op → goodP x.path = true) ∧ (3 ≤ x.op → x.op ≠ 5 → x.path ≠ slash) ∧ (x.op = 4 → x.data = ⟨#[]⟩ ∧ x.version = 0 ∧ x.owner = 0) ∧ (x.op = 3 → x.version = 0) ∧ (x.op = 5 → x.owner = 0) := by
  unfold goodT at h
  by_cases h1 : x.op < 1 ∨ 5 < x.op
  · rw [if_pos h1] at h; exact absurd h (by decide)
  rw [if_neg h1] at h
  by_cases h2 : ¬ (0 ≤ x.zxid ∧ x.zxid < 4611686018427387904) ∨ x.session < 1 ∨ 2147483647 < x.session ∨ x.version < 0 ∨ 2147483647 < x.version ∨ x.owner < 0 ∨ 2147483647 < x.owner
  · rw [if_pos h2] at h; exact absurd h (by decide)
  rw [if_neg h2] at h
  by_cases h3 : 256 < (x.data.size : Int)
  · rw [if_pos h3] at h; exact absurd h (by decide)
  rw [if_neg h3] at h
  by_cases h4 : x.op ≤ 2 ∧ (x.path.toList ≠ [] ∨ x.data.toList ≠ [] ∨ x.version ≠ 0 ∨ x.owner ≠ 0)
  · rw [if_pos h4] at h; exact absurd h (by decide)
  rw [if_neg h4] at h
  by_cases h5 : 3 ≤ x.op ∧ (goodP x.path = false ∨ (x.path.toList = [47] ∧ x.op ≠ 5))
  · rw [if_pos h5] at h; exact absurd h (by decide)
  rw [if_neg h5] at h
  by_cases h6 : (x.op = 4 ∧ (x.data.toList ≠ [] ∨ x.version ≠ 0 ∨ x.owner ≠ 0)) ∨ (x.op = 3 ∧ x.version ≠ 0) ∨ (x.op = 5 ∧ x.owner ≠ 0)
  · rw [if_pos h6] at h; exact absurd h (by decide)
  clear h
  refine ⟨by omega, by unfold Zx; omega, by omega, by omega, by omega, by omega, ?_, ?_, ?_, ?_, ?_, ?_⟩
  · intro ho
    have h7 : ¬ (x.path.toList ≠ [] ∨ x.data.toList ≠ [] ∨ x.version ≠ 0 ∨ x.owner ≠ 0) := fun e => h4 ⟨ho, e⟩
    refine ⟨eq_nil.1 (Classical.byContradiction fun e => h7 (.inl e)), eq_nil.1 (Classical.byContradiction fun e => h7 (.inr (.inl e))), ?_, ?_⟩
    · exact Classical.byContradiction fun e => h7 (.inr (.inr (.inl e)))
    · exact Classical.byContradiction fun e => h7 (.inr (.inr (.inr e)))
  · intro ho
    cases hg : goodP x.path with
    | true => rfl
    | false => exact absurd ⟨ho, .inl hg⟩ h5
  · intro ho h8 e
    exact h5 ⟨ho, .inr ⟨eq_slash.2 e, h8⟩⟩
  · intro ho
    refine ⟨eq_nil.1 (Classical.byContradiction fun e => h6 (.inl ⟨ho, .inl e⟩)), ?_, ?_⟩
    · exact Classical.byContradiction fun e => h6 (.inl ⟨ho, .inr (.inl e)⟩)
    · exact Classical.byContradiction fun e => h6 (.inl ⟨ho, .inr (.inr e)⟩)
  · intro ho
    exact Classical.byContradiction fun e => h6 (.inr (.inl ⟨ho, e⟩))
  · intro ho
    exact Classical.byContradiction fun e => h6 (.inr (.inr ⟨ho, e⟩))
theorem lacks_inv {t : Tr} {x : Txn} (h : lacksE t x = 0) : hasN t.nodes x.path = false ∧ hasN t.nodes (parent x.path) = true ∧ (getN t.nodes (parent x.path)).owner = 0 ∧ (x.owner = 0 ∨ x.owner = x.session) ∧ t.nodes.length < 400 := by
  unfold lacksE at h
  by_cases h1 : hasN t.nodes x.path = true
  · rw [if_pos h1] at h; exact absurd h (by decide)
  rw [if_neg h1] at h
  by_cases h2 : hasN t.nodes (parent x.path) = true
  case neg => rw [if_neg h2] at h; exact absurd h (by decide)
  rw [if_pos h2] at h
  by_cases h3 : (getN t.nodes (parent x.path)).owner ≠ 0
  · rw [if_pos h3] at h; exact absurd h (by decide)
  rw [if_neg h3] at h
  by_cases h4 : x.owner ≠ 0 ∧ x.owner ≠ x.session
  · rw [if_pos h4] at h; exact absurd h (by decide)
  rw [if_neg h4] at h
  by_cases h5 : 400 ≤ t.nodes.length
  · rw [if_pos h5] at h; exact absurd h (by decide)
  refine ⟨by simpa using h1, h2, by omega, by omega, by omega⟩
theorem wrong_inv {t : Tr} {x : Txn} (h : wrongE t x = 0) : goodTree t = true ∧ goodT x = 0 ∧ t.zxid < x.zxid ∧ (x.op = 1 → isI t.sess x.session = false) ∧ (x.op ≠ 1 → isI t.sess x.session = true) ∧ (x.op = 3 → lacksE t x = 0) ∧
    (x.op = 4 → hasN t.nodes x.path = true ∧ (getN t.nodes x.path).kids ≤ 0) ∧ (x.op = 5 → hasN t.nodes x.path = true ∧ x.version = (getN t.nodes x.path).version + 1) := by
  unfold wrongE at h
  by_cases h1 : goodTree t = false
  · rw [if_pos h1] at h; exact absurd h (by decide)
  rw [if_neg h1] at h
  by_cases h2 : goodT x ≠ 0
  · rw [if_pos h2] at h; exact absurd h h2
  rw [if_neg h2] at h
  by_cases h3 : x.zxid ≤ t.zxid
  · rw [if_pos h3] at h; exact absurd h (by decide)
  rw [if_neg h3] at h
  refine ⟨by simpa using h1, Classical.not_not.1 h2, by omega, ?_⟩
  by_cases h4 : x.op = 1
  · rw [if_pos h4] at h
    by_cases h5 : isI t.sess x.session = true
    · rw [if_pos h5] at h; exact absurd h (by decide)
    · exact ⟨fun _ => by simpa using h5, fun e => absurd h4 e, fun e => by omega, fun e => by omega, fun e => by omega⟩
  rw [if_neg h4] at h
  by_cases h5 : isI t.sess x.session = false
  · rw [if_pos h5] at h; exact absurd h (by decide)
  rw [if_neg h5] at h
  refine ⟨fun e => absurd e h4, fun _ => by simpa using h5, ?_⟩
  by_cases h6 : x.op = 3
  · rw [if_pos h6] at h
    exact ⟨fun _ => h, fun e => by omega, fun e => by omega⟩
  rw [if_neg h6] at h
  refine ⟨fun e => absurd e h6, ?_⟩
  by_cases h7 : x.op = 4
  · rw [if_pos h7] at h
    refine ⟨fun _ => ?_, fun e => by omega⟩
    by_cases h8 : hasN t.nodes x.path = true
    · rw [if_pos h8] at h
      by_cases h9 : 0 < (getN t.nodes x.path).kids
      · rw [if_pos h9] at h; exact absurd h (by decide)
      · exact ⟨h8, by omega⟩
    · rw [if_neg h8] at h; exact absurd h (by decide)
  rw [if_neg h7] at h
  refine ⟨fun e => absurd e h7, fun h7 => ?_⟩
  rw [if_pos h7] at h
  by_cases h8 : hasN t.nodes x.path = true
  · rw [if_pos h8] at h
    by_cases h9 : x.version ≠ (getN t.nodes x.path).version + 1
    · rw [if_pos h9] at h; exact absurd h (by decide)
    · exact ⟨h8, Classical.not_not.1 h9⟩
  · rw [if_neg h8] at h; exact absurd h (by decide)
theorem doN_1 {t : Tr} {x : Txn} (h : x.op = 1) : doN t x = t.nodes ∧ doS t x = insS t.sess x.session ∧ doV t x = [] := by
  refine ⟨?_, ?_, ?_⟩
  · unfold doN; rw [if_neg (by omega), if_neg (by omega), if_neg (by omega), if_neg (by omega)]
  · unfold doS; rw [if_pos h]
  · unfold doV; rw [if_neg (by omega), if_neg (by omega), if_neg (by omega), if_neg (by omega)]
theorem doN_2 {t : Tr} {x : Txn} (h : x.op = 2) : doN t x = closeN t.nodes x.session x.zxid ∧ doS t x = delS t.sess x.session ∧ doV t x = closeV t.nodes x.session := by
  refine ⟨?_, ?_, ?_⟩
  · unfold doN; rw [if_pos h]
  · unfold doS; rw [if_neg (by omega), if_pos h]
  · unfold doV; rw [if_pos h]
theorem doN_3 {t : Tr} {x : Txn} (h : x.op = 3) : doN t x = makeN t.nodes x ∧ doS t x = t.sess ∧ doV t x = makeV x.path := by
  refine ⟨?_, ?_, ?_⟩
  · unfold doN; rw [if_neg (by omega), if_pos h]
  · unfold doS; rw [if_neg (by omega), if_neg (by omega)]
  · unfold doV; rw [if_neg (by omega), if_pos h]
theorem doN_4 {t : Tr} {x : Txn} (h : x.op = 4) : doN t x = goneN t.nodes x.path x.zxid ∧ doS t x = t.sess ∧ doV t x = goneV x.path := by
  refine ⟨?_, ?_, ?_⟩
  · unfold doN; rw [if_neg (by omega), if_neg (by omega), if_pos h]
  · unfold doS; rw [if_neg (by omega), if_neg (by omega)]
  · unfold doV; rw [if_neg (by omega), if_neg (by omega), if_pos h]
theorem doN_5 {t : Tr} {x : Txn} (h : x.op = 5) : doN t x = setN t.nodes x ∧ doS t x = t.sess ∧ doV t x = [⟨3, x.path⟩] := by
  refine ⟨?_, ?_, ?_⟩
  · unfold doN; rw [if_neg (by omega), if_neg (by omega), if_neg (by omega), if_pos h]
  · unfold doS; rw [if_neg (by omega), if_neg (by omega)]
  · unfold doV; rw [if_neg (by omega), if_neg (by omega), if_neg (by omega), if_pos h]
theorem apply_goodW {t : Tr} {x : Txn} (h : wrongE t x = 0) : GoodW x.zxid (doN t x) (doS t x) := by
  obtain ⟨hg, hx, hz, w1, w2, w3, w4, w5⟩ := wrong_inv h
  obtain ⟨x1, x2, x3, x4, x5, x6, x7, x8, x9, x10, x11, x12⟩ := goodT_inv hx
  obtain ⟨g, _⟩ := good_parts hg
  have g' : GoodW x.zxid t.nodes t.sess := g.later (by omega) x2.2
  rcases (by omega : x.op = 1 ∨ x.op = 2 ∨ x.op = 3 ∨ x.op = 4 ∨ x.op = 5) with ho | ho | ho | ho | ho
  · obtain ⟨e1, e2, _⟩ := doN_1 (t := t) ho
    rw [e1, e2]
    have hs := (isI_no g.sess).1 (w1 ho)
    obtain ⟨i1, i2, _⟩ := insS_spec g.sess hs
    refine g'.with_sess i1 (fun s hs => ?_) (fun n hn => ?_)
    · rcases (i2 s).1 hs with rfl | hs
      · exact x3
      · exact g.sessB s hs
    · rcases g.own n hn with h0 | ⟨h0, _⟩
      · exact .inl h0
      · exact .inr ((i2 _).2 (.inr h0))
  · obtain ⟨e1, e2, _⟩ := doN_2 (t := t) ho
    rw [e1, e2]
    have hs := (isI_iff g.sess).1 (w2 (by omega))
    obtain ⟨i1, i2, _⟩ := delS_spec g.sess hs
    obtain ⟨c1, c2, _, _⟩ := good_close g' (s := x.session) (by omega)
    refine c1.with_sess i1 (fun s hs => g.sessB s ((i2 s).1 hs).1) (fun n hn => ?_)
    rcases c1.own n hn with h0 | ⟨h0, _⟩
    · exact .inl h0
    · exact .inr ((i2 _).2 ⟨h0, (c2 n hn).1⟩)
  · obtain ⟨e1, e2, _⟩ := doN_3 (t := t) ho
    rw [e1, e2]
    obtain ⟨l1, l2, l3, l4, l5⟩ := lacks_inv (w3 ho)
    obtain ⟨hm, hp⟩ := get_mem l2
    refine good_make g' x rfl l1 (x8 (by omega)) (x9 (by omega) (by omega)) x6 l5 ?_ hm hp l3
    rcases l4 with h0 | h0
    · exact .inl h0
    · rw [h0]
      exact .inr ((isI_iff g.sess).1 (w2 (by omega)))
  · obtain ⟨e1, e2, _⟩ := doN_4 (t := t) ho
    rw [e1, e2]
    obtain ⟨l1, l2⟩ := w4 ho
    obtain ⟨hm, hp⟩ := get_mem l1
    have hk : (getN t.nodes x.path).kids = 0 := by
      have := g.kids _ hm
      omega
    have := good_gone g' hm (by rw [hp]; exact x9 (by omega) (by omega)) hk
    rw [hp] at this
    exact this
  · obtain ⟨e1, e2, _⟩ := doN_5 (t := t) ho
    rw [e1, e2]
    exact good_set g' x rfl (w5 ho).1 x6 x4
theorem applyE_0 {t : Tr} {x : Txn} (h : applyE t x = 0) : wrongE t x = 0 ∧ fullB (doN t x) = false := by
  unfold applyE at h
  by_cases h1 : wrongE t x = 0
  · rw [if_pos h1] at h
    cases hf : fullB (doN t x) with
    | false => exact ⟨h1, rfl⟩
    | true => rw [hf, if_pos rfl] at h; exact absurd h (by decide)
  · rw [if_neg h1] at h
    exact absurd h h1
theorem applyT_0 {t : Tr} {x : Txn} (h : applyE t x = 0) : applyT t x = ⟨x.zxid, doN t x, doS t x⟩ ∧ applyV t x = doV t x := by
  unfold applyT applyV
  rw [if_pos h, if_pos h]
  exact ⟨rfl, rfl⟩
theorem apply_good {t : Tr} {x : Txn} (h : applyE t x = 0) : goodTree (applyT t x) = true ∧ goodTree t = true ∧ t.zxid < x.zxid := by
  obtain ⟨h1, h2⟩ := applyE_0 h
  obtain ⟨h3, _, h4, _⟩ := wrong_inv h1
  rw [(applyT_0 h).1]
  exact ⟨(good_iff _ _ _).2 ⟨apply_goodW h1, h2⟩, h3, h4⟩
theorem new_good : goodTree newTr = true := by
  refine (good_iff _ _ _).2 ⟨⟨by decide, by decide, ⟨rootN, [], rfl, rfl, rfl⟩, List.pairwise_singleton _ _, .nil, by simp, ?_, ?_, ?_, ?_, ?_⟩, ?_⟩
  · intro n hn
    rw [List.mem_singleton.1 hn]
    exact ⟨good_slash, by decide⟩
  · intro n hn
    rw [List.mem_singleton.1 hn]
    decide
  · intro n hn
    rw [List.mem_singleton.1 hn]
    exact .inl rfl
  · intro n hn
    rw [List.mem_singleton.1 hn]
    exact .inl rfl
  · intro n hn
    rw [List.mem_singleton.1 hn]
    rw [List.countP_cons, if_neg]
    · rfl
    · rw [kidB_iff (show goodP rootN.path = true from good_slash)]
      exact fun e => e.1 rfl
  · exact full_no.2 (fun n hn => by rw [List.mem_singleton.1 hn]; decide)
end Go.Proofs.YteolglmifimnaaaDoor
