/- Lemmas for the statement: TreeW, TreeX, MakeP, Small, RecP, PrepM, Serial, SerL, PrepL, TreeC, QueP, QueI, QueC. -/
import Derived.Lib.ConvBytes
import Derived.Test.YteolglmifimnaaaDoorPt1
import Derived.Test.YteolglmifimnaaaDoorPt2
import Derived.Test.YteolglmifimnaaaDoorPt3
/- Trees: plain laws of a good tree, and of what is done to one. -/
namespace Go.Proofs.YteolglmifimnaaaDoor
open Go.RowKit
theorem split_slash : splitR slash = (⟨#[]⟩, ⟨#[]⟩, 7) := by unfold splitR; rw [if_pos good_slash, if_pos rfl]
theorem split_not {p : ByteArray} (h : goodP p = true) : (splitR p).2.2 = 0 ↔ p ≠ slash := by
  constructor
  · intro h0 e
    rw [e, split_slash] at h0
    cases h0
  · intro hs
    exact (split_join h hs).2.2.2
theorem kidB_iff {n : Node} (hg : goodP n.path = true) (q : ByteArray) : kidB q n = true ↔ n.path ≠ slash ∧ parent n.path = q := by
  unfold kidB
  rw [Bool.and_eq_true, decide_eq_true_iff, decide_eq_true_iff, split_not hg]
theorem parent_lt {p : ByteArray} (hg : goodP p = true) (hs : p ≠ slash) : (bs (parent p)).length < (bs p).length := by
  obtain ⟨h1, h2, h3, _⟩ := split_join hg hs
  obtain ⟨_, hn1, _⟩ := named_no h3
  unfold joinR at h1
  rw [h2, h3, Bool.and_self, if_pos rfl] at h1
  by_cases h4 : 200 < (joinT (splitR p).1 (splitR p).2.1).size
  · rw [if_pos h4] at h1
    injection h1 with _ h1
    cases h1
  · rw [if_neg h4] at h1
    injection h1 with h1 _
    have h5 : (bs (joinT (splitR p).1 (splitR p).2.1)).length = (bs p).length := congrArg (fun x => (bs x).length) h1
    unfold joinT at h5
    show (bs (splitR p).1).length < _
    split at h5
    · rename_i e
      rw [bs_append, List.length_append] at h5
      rw [e]
      omega
    · rw [bs_append, bs_append, List.length_append, List.length_append] at h5
      omega
theorem parent_ne {p : ByteArray} (hg : goodP p = true) (hs : p ≠ slash) : parent p ≠ p := by
  intro e
  have := parent_lt hg hs
  rw [e] at this
  omega
structure GoodW (z : Int) (l : List Node) (ss : List Int) : Prop where
  len : l.length ≤ 400
  zx : 0 ≤ z ∧ z < 4611686018427387904
  root : ∃ n r, l = n :: r ∧ n.path = slash ∧ n.owner = 0
  sorted : SortedN l
  sess : ss.Pairwise (· < ·)
  sessB : ∀ s ∈ ss, 1 ≤ s ∧ s ≤ 2147483647
  path : ∀ n ∈ l, goodP n.path = true ∧ n.data.size ≤ 256
  stat : ∀ n ∈ l, 0 ≤ n.version ∧ n.version ≤ 2147483647 ∧ 0 ≤ n.cversion ∧ 0 ≤ n.czxid ∧ n.czxid ≤ n.mzxid ∧ n.czxid ≤ n.pzxid ∧ n.mzxid ≤ z ∧ n.pzxid ≤ z
  own : ∀ n ∈ l, n.owner = 0 ∨ (n.owner ∈ ss ∧ n.kids = 0)
  up : ∀ n ∈ l, n.path = slash ∨ ∃ m ∈ l, m.path = parent n.path
  kids : ∀ n ∈ l, n.kids = ((l.countP (kidB n.path) : Nat) : Int)
theorem okN_at {z : Int} {l : List Node} {ss : List Int} {k : Nat} {x : Node} (h : l[k]? = some x) : okN ⟨z, l, ss⟩ k = (goodP x.path && (decide (x.data.size ≤ 256) && (lessB l k x && (statB z x && (ownB ss x && upB l x))))) := by
  unfold okN
  simp only [h]
theorem lessB_s {l : List Node} {j : Nat} {y : Node} (h : l[j]? = some y) (x : Node) : lessB l (j + 1) x = decide (cmpB y.path x.path < 0) := by
  unfold lessB
  simp only [h]
theorem okS_0 {l : List Int} {s : Int} (h : l[0]? = some s) : okS l 0 = (decide (1 ≤ s) && (decide (s ≤ 2147483647) && true)) := by unfold okS; rw [h]
theorem okS_s {l : List Int} {j : Nat} {s y : Int} (h : l[j + 1]? = some s) (hy : l[j]? = some y) : okS l (j + 1) = (decide (1 ≤ s) && (decide (s ≤ 2147483647) && decide (y < s))) := by
  unfold okS
  rw [h]
  simp only [hy]
theorem okS_b {l : List Int} {i : Nat} {s : Int} (h : l[i]? = some s) (hk : okS l i = true) : 1 ≤ s ∧ s ≤ 2147483647 := by
  unfold okS at hk
  rw [h] at hk
  simp only [Bool.and_eq_true, decide_eq_true_eq] at hk
  exact ⟨hk.1, hk.2.1⟩
theorem head_inv {z : Int} {l : List Node} {ss : List Int} (h : headB ⟨z, l, ss⟩ = true) : l.length ≤ 400 ∧ Zx z ∧ ∃ n, l[0]? = some n ∧ n.path = slash ∧ n.owner = 0 := by
  cases l with
  | nil => simp [headB] at h
  | cons n r =>
    unfold headB at h
    simp only [Bool.and_eq_true, decide_eq_true_eq] at h
    exact ⟨h.1, h.2.1, n, rfl, h.2.2⟩
theorem upB_iff {l : List Node} (hs : SortedN l) {n : Node} (hg : goodP n.path = true) : upB l n = true ↔ (n.path = slash ∨ ∃ m ∈ l, m.path = parent n.path) := by
  unfold upB
  rw [Bool.or_eq_true, decide_eq_true_iff, has_iff hs, Ne, split_not hg, Classical.not_not]
theorem ownB_iff {ss : List Int} (hs : ss.Pairwise (· < ·)) (n : Node) : ownB ss n = true ↔ (n.owner = 0 ∨ (n.owner ∈ ss ∧ n.kids = 0)) := by
  unfold ownB
  rw [Bool.or_eq_true, Bool.and_eq_true, decide_eq_true_iff, decide_eq_true_iff, isI_iff hs]
theorem full_no {l : List Node} : fullB l = false ↔ ∀ n ∈ l, n.cversion ≤ 2147483647 := by
  unfold fullB
  rw [List.any_eq_false]
  constructor
  · intro h n hn
    have := h n hn
    rw [decide_eq_true_iff] at this
    omega
  · intro h n hn
    rw [decide_eq_true_iff]
    have := h n hn
    omega
theorem good_iff (z : Int) (l : List Node) (ss : List Int) : goodTree ⟨z, l, ss⟩ = true ↔ GoodW z l ss ∧ fullB l = false := by
  unfold goodTree
  simp only [Bool.and_eq_true, List.all_eq_true, List.mem_range, decide_eq_true_eq]
  constructor
  · rintro ⟨hh, hS, hN, hK⟩
    obtain ⟨hl, hz, n0, hn0, hp0, ho0⟩ := head_inv hh
    have hN' : ∀ i n, l[i]? = some n → goodP n.path = true ∧ n.data.size ≤ 256 ∧ lessB l i n = true ∧ statB z n = true ∧ ownB ss n = true ∧ upB l n = true := by
      intro i n hi
      have := hN i (List.getElem?_eq_some_iff.1 hi).1
      rw [okN_at hi] at this
      simp only [Bool.and_eq_true, decide_eq_true_eq] at this
      exact this
    have hsess : ss.Pairwise (· < ·) := pw_of_adj (R := fun (a b : Int) => a < b) (fun _ _ _ => Int.lt_trans) ss (fun i x y hx hy => by
      have := hS (i + 1) (List.getElem?_eq_some_iff.1 hy).1
      rw [okS_s hy hx] at this
      simp only [Bool.and_eq_true, decide_eq_true_eq] at this
      exact this.2.2)
    have hsort : SortedN l := pw_of_adj (R := ltN) (fun _ _ _ => ltN_trans) l (fun i x y hx hy => by
      have := (hN' (i + 1) y hy).2.2.1
      rw [lessB_s hx] at this
      exact (of_decide_eq_true this : cmpB x.path y.path < 0))
    have hst : ∀ n ∈ l, 0 ≤ n.version ∧ n.version ≤ 2147483647 ∧ 0 ≤ n.cversion ∧ n.cversion ≤ 2147483647 ∧ 0 ≤ n.czxid ∧ n.czxid ≤ n.mzxid ∧ n.czxid ≤ n.pzxid ∧ n.mzxid ≤ z ∧ n.pzxid ≤ z := by
      intro n hn
      obtain ⟨i, hi⟩ := List.mem_iff_getElem?.1 hn
      exact of_decide_eq_true (hN' i n hi).2.2.2.1
    refine ⟨⟨hl, hz, ?_, hsort, hsess, ?_, ?_, ?_, ?_, ?_, ?_⟩, full_no.2 (fun n hn => (hst n hn).2.2.2.1)⟩
    · cases l with
      | nil => cases hn0
      | cons n r =>
        injection hn0 with hn0
        subst hn0
        exact ⟨n, r, rfl, hp0, ho0⟩
    · intro s hs
      obtain ⟨i, hi⟩ := List.mem_iff_getElem?.1 hs
      exact okS_b hi (hS i (List.getElem?_eq_some_iff.1 hi).1)
    · intro n hn
      obtain ⟨i, hi⟩ := List.mem_iff_getElem?.1 hn
      exact ⟨(hN' i n hi).1, (hN' i n hi).2.1⟩
    · intro n hn
      obtain ⟨a, b, c, d, e⟩ := hst n hn
      exact ⟨a, b, c, e⟩
    · intro n hn
      obtain ⟨i, hi⟩ := List.mem_iff_getElem?.1 hn
      exact (ownB_iff hsess n).1 (hN' i n hi).2.2.2.2.1
    · intro n hn
      obtain ⟨i, hi⟩ := List.mem_iff_getElem?.1 hn
      exact (upB_iff hsort (hN' i n hi).1).1 (hN' i n hi).2.2.2.2.2
    · exact hK
  · rintro ⟨h, hf⟩
    refine ⟨?_, ?_, ?_, h.kids⟩
    · obtain ⟨n, r, rfl, hp, ho⟩ := h.root
      unfold headB
      simp only [Bool.and_eq_true, decide_eq_true_eq]
      exact ⟨h.len, h.zx, hp, ho⟩
    · intro i hi
      have hx := List.getElem?_eq_getElem hi
      have hb := h.sessB _ (List.mem_of_getElem? hx)
      cases i with
      | zero =>
        rw [okS_0 hx, decide_eq_true hb.1, decide_eq_true hb.2]
        rfl
      | succ j =>
        have hy := List.getElem?_eq_getElem (l := ss) (i := j) (by omega)
        rw [okS_s hx hy, decide_eq_true hb.1, decide_eq_true hb.2, decide_eq_true (adj_of_pw h.sess (Nat.lt_succ_self j) hy hx)]
        rfl
    · intro i hi
      have hx := List.getElem?_eq_getElem hi
      generalize l[i] = n at hx
      have hm := List.mem_of_getElem? hx
      rw [okN_at hx]
      simp only [Bool.and_eq_true, decide_eq_true_eq]
      refine ⟨(h.path n hm).1, (h.path n hm).2, ?_, ?_, (ownB_iff h.sess n).2 (h.own n hm), (upB_iff h.sorted (h.path n hm).1).2 (h.up n hm)⟩
      · cases i with
        | zero => rfl
        | succ j =>
          have hy := List.getElem?_eq_getElem (l := l) (i := j) (by omega)
          rw [lessB_s hy]
          exact decide_eq_true (adj_of_pw h.sorted (Nat.lt_succ_self j) hy hx)
      · obtain ⟨a, b, c, e⟩ := h.stat n hm
        exact decide_eq_true ⟨a, b, c, full_no.1 hf n hm, e⟩
theorem good_parts {t : Tr} (h : goodTree t = true) : GoodW t.zxid t.nodes t.sess ∧ fullB t.nodes = false := (good_iff t.zxid t.nodes t.sess).1 h
section
variable {z z' : Int} {l : List Node} {ss : List Int}
theorem GoodW.rootOf (h : GoodW z l ss) {n : Node} (hn : n ∈ l) (hp : n.path = slash) : n.owner = 0 := by
  obtain ⟨m, r, e, hmp, hmo⟩ := h.root
  have hm : m ∈ l := by rw [e]; simp
  rw [uniqN h.sorted hn hm (hp.trans hmp.symm)]
  exact hmo
theorem GoodW.has_root (h : GoodW z l ss) : ∃ m ∈ l, m.path = slash := by
  obtain ⟨m, r, e, hmp, _⟩ := h.root
  exact ⟨m, by rw [e]; simp, hmp⟩
/-- a node that has no children is nobody's parent -/
theorem GoodW.no_kid (h : GoodW z l ss) {x m : Node} (hx : x ∈ l) (hk : x.kids = 0) (hm : m ∈ l) (hms : m.path ≠ slash) : parent m.path ≠ x.path := by
  intro e
  have h1 := h.kids x hx
  rw [hk] at h1
  have h2 : 0 < l.countP (kidB x.path) := List.countP_pos_iff.2 ⟨m, hm, (kidB_iff (h.path m hm).1 _).2 ⟨hms, e⟩⟩
  omega
/-- a parent is nobody's own -/
theorem GoodW.parent_free (h : GoodW z l ss) {x m : Node} (hm : m ∈ l) (hms : m.path ≠ slash) (hx : x ∈ l) (e : x.path = parent m.path) : x.owner = 0 := by
  rcases h.own x hx with h0 | ⟨_, hk⟩
  · exact h0
  · exact absurd e.symm (h.no_kid hx hk hm hms)
theorem GoodW.later (h : GoodW z l ss) (hz : z ≤ z') (hz2 : z' < 4611686018427387904) : GoodW z' l ss :=
  ⟨h.len, ⟨by have := h.zx; omega, hz2⟩, h.root, h.sorted, h.sess, h.sessB, h.path, fun n hn => by have := h.stat n hn; omega, h.own, h.up, h.kids⟩
theorem GoodW.with_sess (h : GoodW z l ss) {ts : List Int} (h1 : ts.Pairwise (· < ·)) (h2 : ∀ s ∈ ts, 1 ≤ s ∧ s ≤ 2147483647) (h3 : ∀ n ∈ l, n.owner = 0 ∨ n.owner ∈ ts) : GoodW z l ts :=
  ⟨h.len, h.zx, h.root, h.sorted, h1, h2, h.path, h.stat, fun n hn => by
    rcases h3 n hn with h0 | h0
    · exact .inl h0
    · rcases h.own n hn with h4 | ⟨_, h4⟩
      · exact .inl h4
      · exact .inr ⟨h0, h4⟩, h.up, h.kids⟩
theorem filter_cut (hs : SortedN l) {x : Node} (hx : x ∈ l) : ∃ a b, l = a ++ x :: b ∧ l.filter (fun n => decide (n.path ≠ x.path)) = a ++ b := by
  obtain ⟨k, hk⟩ := List.mem_iff_getElem?.1 hx
  refine ⟨l.take k, l.drop (k + 1), cut_get hk, ?_⟩
  have h1 := delN_filter hs (at_ofN hs hk).2
  rw [← h1]
  unfold delN
  rw [(at_ofN hs hk).1]
theorem goneN_is (hs : SortedN l) {x : Node} (hx : x ∈ l) (zz : Int) : goneN l x.path zz = (l.filter (fun n => decide (n.path ≠ x.path))).map (bumpAt (parent x.path) (-1) zz) := by
  have hd := delN_filter hs (get_ofN hs hx).1
  unfold goneN
  rw [kidN_map (by rw [hd]; exact sorted_filter hs _), hd]
theorem mem_gone (hs : SortedN l) {x : Node} (hx : x ∈ l) (zz : Int) (n : Node) : n ∈ goneN l x.path zz ↔ ∃ m ∈ l, m.path ≠ x.path ∧ n = bumpAt (parent x.path) (-1) zz m := by
  rw [goneN_is hs hx, List.mem_map]
  constructor
  · rintro ⟨m, hm, rfl⟩
    rw [List.mem_filter] at hm
    exact ⟨m, hm.1, by simpa using hm.2, rfl⟩
  · rintro ⟨m, hm, hne, rfl⟩
    exact ⟨m, List.mem_filter.2 ⟨hm, by simpa using hne⟩, rfl⟩
theorem gone_length (hs : SortedN l) {x : Node} (hx : x ∈ l) (zz : Int) : (goneN l x.path zz).length + 1 = l.length := by
  obtain ⟨a, b, e, hf⟩ := filter_cut hs hx
  rw [goneN_is hs hx, List.length_map, hf]
  rw [e]
  simp
  omega
theorem bumpAt_own (d : ByteArray) (more zz : Int) (n : Node) : (bumpAt d more zz n).owner = n.owner := by unfold bumpAt; split <;> rfl
theorem bumpAt_data (d : ByteArray) (more zz : Int) (n : Node) : (bumpAt d more zz n).data = n.data := by unfold bumpAt; split <;> rfl
theorem bumpAt_version (d : ByteArray) (more zz : Int) (n : Node) : (bumpAt d more zz n).version = n.version := by unfold bumpAt; split <;> rfl
theorem good_gone (h : GoodW z l ss) {x : Node} (hx : x ∈ l) (hne : x.path ≠ slash) (hk : x.kids = 0) : GoodW z (goneN l x.path z) ss := by
  obtain ⟨a, b, e, hf⟩ := filter_cut h.sorted hx
  have hmem := mem_gone h.sorted hx z
  have hxk := fun q => kidB_iff (h.path x hx).1 q
  refine ⟨?_, h.zx, ?_, ?_, h.sess, h.sessB, ?_, ?_, ?_, ?_, ?_⟩
  · have := gone_length h.sorted hx z
    have := h.len
    omega
  · obtain ⟨n, r, e2, hp, ho⟩ := h.root
    rw [goneN_is h.sorted hx, e2, List.filter_cons_of_pos (by rw [hp]; simpa using fun e => hne e.symm), List.map_cons]
    exact ⟨_, _, rfl, by rw [bumpAt_path]; exact hp, by rw [bumpAt_own]; exact ho⟩
  · rw [goneN_is h.sorted hx]
    exact sorted_map (sorted_filter h.sorted _) (bumpAt_path _ _ _)
  · intro n hn
    obtain ⟨m, hm, _, rfl⟩ := (hmem n).1 hn
    rw [bumpAt_path, bumpAt_data]
    exact h.path m hm
  · intro n hn
    obtain ⟨m, hm, _, rfl⟩ := (hmem n).1 hn
    have := h.stat m hm
    unfold bumpAt
    split
    · simp only [bump]
      omega
    · exact this
  · intro n hn
    obtain ⟨m, hm, _, rfl⟩ := (hmem n).1 hn
    unfold bumpAt
    split
    · rename_i hd
      exact .inl (show m.owner = 0 from h.parent_free hx hne hm hd)
    · exact h.own m hm
  · intro n hn
    obtain ⟨m, hm, hmx, rfl⟩ := (hmem n).1 hn
    rw [bumpAt_path]
    rcases h.up m hm with h0 | ⟨q, hq, hqp⟩
    · exact .inl h0
    · by_cases hms : m.path = slash
      · exact .inl hms
      refine .inr ⟨bumpAt (parent x.path) (-1) z q, (hmem _).2 ⟨q, hq, ?_, rfl⟩, by rw [bumpAt_path]; exact hqp⟩
      rw [hqp]
      exact h.no_kid hx hk hm hms
  · intro n hn
    obtain ⟨m, hm, hmx, rfl⟩ := (hmem n).1 hn
    rw [goneN_is h.sorted hx, countP_map' (bumpAt_path _ _ _), bumpAt_path, hf]
    have h1 := h.kids m hm
    rw [e, List.countP_append, List.countP_cons] at h1
    rw [List.countP_append]
    unfold bumpAt
    by_cases hd : m.path = parent x.path
    · rw [if_pos hd]
      rw [if_pos ((hxk _).2 ⟨hne, hd.symm⟩)] at h1
      simp only [bump]
      omega
    · rw [if_neg hd]
      rw [if_neg (by rw [hxk]; exact fun e => hd e.2.symm)] at h1
      omega
theorem makeN_is (hs : SortedN l) (x : Txn) (hno : hasN l x.path = false) : ∃ a b, l = a ++ b ∧ makeN l x = (a ++ nodeOf x :: b).map (bumpAt (parent x.path) 1 x.zxid) ∧ SortedN (a ++ nodeOf x :: b) := by
  obtain ⟨a, b, e, h1, h2⟩ := insN_parts hs (x := nodeOf x) hno
  refine ⟨a, b, e, ?_, h2⟩
  unfold makeN
  rw [h1, kidN_map h2]
theorem bump_new (x : Txn) (hg : goodP x.path = true) (hne : x.path ≠ slash) (more zz : Int) : bumpAt (parent x.path) more zz (nodeOf x) = nodeOf x := by
  unfold bumpAt
  rw [if_neg]
  exact fun e => parent_ne hg hne e.symm
theorem mem_make (hs : SortedN l) (x : Txn) (hno : hasN l x.path = false) (hg : goodP x.path = true) (hne : x.path ≠ slash) (n : Node) : n ∈ makeN l x ↔ n = nodeOf x ∨ ∃ m ∈ l, n = bumpAt (parent x.path) 1 x.zxid m := by
  obtain ⟨a, b, e, h1, _⟩ := makeN_is hs x hno
  rw [h1, e]
  simp only [List.map_append, List.map_cons, bump_new x hg hne, List.mem_append, List.mem_cons, List.mem_map]
  constructor
  · rintro (⟨m, hm, rfl⟩ | rfl | ⟨m, hm, rfl⟩)
    · exact .inr ⟨m, .inl hm, rfl⟩
    · exact .inl rfl
    · exact .inr ⟨m, .inr hm, rfl⟩
  · rintro (rfl | ⟨m, hm | hm, rfl⟩)
    · exact .inr (.inl rfl)
    · exact .inl ⟨m, hm, rfl⟩
    · exact .inr (.inr ⟨m, hm, rfl⟩)
theorem good_make (h : GoodW z l ss) (x : Txn) (hxz : x.zxid = z) (hno : hasN l x.path = false) (hg : goodP x.path = true) (hne : x.path ≠ slash) (hd : x.data.size ≤ 256) (hlen : l.length < 400)
    (hown : x.owner = 0 ∨ x.owner ∈ ss) {u : Node} (hu : u ∈ l) (hup : u.path = parent x.path) (huo : u.owner = 0) : GoodW z (makeN l x) ss := by
  obtain ⟨a, b, e, hm1, hsort⟩ := makeN_is h.sorted x hno
  have hmem := mem_make h.sorted x hno hg hne
  have hnop := (has_no h.sorted).1 hno
  have hz := h.zx
  subst hxz
  refine ⟨?_, h.zx, ?_, ?_, h.sess, h.sessB, ?_, ?_, ?_, ?_, ?_⟩
  · rw [hm1, List.length_map, List.length_append, List.length_cons]
    rw [e, List.length_append] at hlen
    omega
  · obtain ⟨n, r, e2, hp, ho⟩ := h.root
    have hsl : ∀ m : Node, ltN m (nodeOf x) ∨ ltN (nodeOf x) m → True := fun _ _ => trivial
    cases a with
    | nil =>
      exfalso
      rw [List.nil_append] at e
      rw [e2] at e
      subst e
      rw [List.nil_append] at hsort
      unfold SortedN at hsort
      rw [List.pairwise_cons] at hsort
      have h1 : ltN (nodeOf x) n := hsort.1 n (by simp)
      unfold ltN at h1
      rw [hp] at h1
      have h2 := (goodP_pre hg hne).1
      obtain ⟨q, hq⟩ := bs_pre h2
      have h3 : cmpB (nodeOf x).path slash = Lib.compareBytes (47 :: q) [47] := by
        show Lib.compareBytes (bs x.path) (bs slash) = _
        rw [hq, slash_bs]
      rw [h3] at h1
      have h4 : q ≠ [] := fun e => hne (bs_inj (by rw [hq, e, slash_bs]))
      cases q with
      | nil => exact h4 rfl
      | cons c q => simp [Lib.compareBytes] at h1
    | cons a0 a =>
      rw [e2, List.cons_append] at e
      injection e with e3 e4
      subst e3
      rw [hm1, List.cons_append, List.map_cons]
      exact ⟨_, _, rfl, by rw [bumpAt_path]; exact hp, by rw [bumpAt_own]; exact ho⟩
  · rw [hm1]
    exact sorted_map hsort (bumpAt_path _ _ _)
  · intro n hn
    rcases (hmem n).1 hn with rfl | ⟨m, hm, rfl⟩
    · exact ⟨hg, hd⟩
    · rw [bumpAt_path, bumpAt_data]
      exact h.path m hm
  · intro n hn
    rcases (hmem n).1 hn with rfl | ⟨m, hm, rfl⟩
    · simp only [nodeOf]
      omega
    · have := h.stat m hm
      unfold bumpAt
      split
      · simp only [bump]
        omega
      · exact this
  · intro n hn
    rcases (hmem n).1 hn with rfl | ⟨m, hm, rfl⟩
    · rcases hown with h0 | h0
      · exact .inl h0
      · exact .inr ⟨h0, rfl⟩
    · unfold bumpAt
      split
      · rename_i hd2
        left
        rw [uniqN h.sorted hm hu (hd2.trans hup.symm)]
        exact huo
      · exact h.own m hm
  · intro n hn
    rcases (hmem n).1 hn with rfl | ⟨m, hm, rfl⟩
    · exact .inr ⟨_, (hmem _).2 (.inr ⟨u, hu, rfl⟩), by rw [bumpAt_path]; exact hup⟩
    · rw [bumpAt_path]
      rcases h.up m hm with h0 | ⟨q, hq, hqp⟩
      · exact .inl h0
      · exact .inr ⟨_, (hmem _).2 (.inr ⟨q, hq, rfl⟩), by rw [bumpAt_path]; exact hqp⟩
  · have hk := fun q => kidB_iff (n := nodeOf x) hg q
    have hc : ∀ q, ((makeN l x).countP (kidB q) : Nat) = l.countP (kidB q) + (if kidB q (nodeOf x) = true then 1 else 0) := by
      intro q
      rw [hm1, countP_map' (bumpAt_path _ _ _), e, List.countP_append, List.countP_append, List.countP_cons]
      omega
    intro n hn
    rw [hc]
    rcases (hmem n).1 hn with rfl | ⟨m, hm, rfl⟩
    · rw [if_neg (by rw [hk]; exact fun e => parent_ne hg hne e.2)]
      have h0 : l.countP (kidB (nodeOf x).path) = 0 := by
        rw [List.countP_eq_zero]
        intro m hm hkm
        obtain ⟨hms, hmp⟩ := (kidB_iff (h.path m hm).1 _).1 hkm
        rcases h.up m hm with h0 | ⟨q, hq, hqp⟩
        · exact hms h0
        · exact hnop q hq (hqp.trans hmp)
      rw [h0]
      rfl
    · rw [bumpAt_path]
      have h1 := h.kids m hm
      unfold bumpAt
      by_cases hd2 : m.path = parent x.path
      · rw [if_pos hd2, if_pos ((hk _).2 ⟨hne, hd2.symm⟩)]
        simp only [bump]
        omega
      · rw [if_neg hd2, if_neg (by rw [hk]; exact fun e => hd2 e.2.symm)]
        omega
theorem mem_set (hs : SortedN l) {x : Txn} (h : hasN l x.path = true) (n : Node) : n ∈ setN l x ↔ ∃ m ∈ l, n = putAt x m := by
  rw [setN_map hs h, List.mem_map]
  constructor
  · rintro ⟨m, hm, rfl⟩; exact ⟨m, hm, rfl⟩
  · rintro ⟨m, hm, rfl⟩; exact ⟨m, hm, rfl⟩
theorem good_set (h : GoodW z l ss) (x : Txn) (hxz : x.zxid = z) (hyes : hasN l x.path = true) (hd : x.data.size ≤ 256) (hv : 0 ≤ x.version ∧ x.version ≤ 2147483647) : GoodW z (setN l x) ss := by
  have hmem := mem_set h.sorted hyes
  subst hxz
  refine ⟨?_, h.zx, ?_, ?_, h.sess, h.sessB, ?_, ?_, ?_, ?_, ?_⟩
  · rw [setN_map h.sorted hyes, List.length_map]
    exact h.len
  · obtain ⟨n, r, e2, hp, ho⟩ := h.root
    rw [setN_map h.sorted hyes, e2, List.map_cons]
    exact ⟨_, _, rfl, by rw [putAt_path]; exact hp, by unfold putAt; split <;> exact ho⟩
  · rw [setN_map h.sorted hyes]
    exact sorted_map h.sorted (putAt_path x)
  · intro n hn
    obtain ⟨m, hm, rfl⟩ := (hmem n).1 hn
    have := h.path m hm
    unfold putAt
    split
    · exact ⟨this.1, hd⟩
    · exact this
  · intro n hn
    obtain ⟨m, hm, rfl⟩ := (hmem n).1 hn
    have := h.stat m hm
    unfold putAt
    split
    · simp only
      omega
    · exact this
  · intro n hn
    obtain ⟨m, hm, rfl⟩ := (hmem n).1 hn
    have := h.own m hm
    unfold putAt
    split <;> exact this
  · intro n hn
    obtain ⟨m, hm, rfl⟩ := (hmem n).1 hn
    rw [putAt_path]
    rcases h.up m hm with h0 | ⟨q, hq, hqp⟩
    · exact .inl h0
    · exact .inr ⟨_, (hmem _).2 ⟨q, hq, rfl⟩, by rw [putAt_path]; exact hqp⟩
  · intro n hn
    obtain ⟨m, hm, rfl⟩ := (hmem n).1 hn
    rw [putAt_path, setN_map h.sorted hyes, countP_map' (putAt_path x)]
    have := h.kids m hm
    unfold putAt
    split <;> exact this
/-- a session is closed: node by node -/
theorem good_fold {s : Int} (hs0 : s ≠ 0) : ∀ (ps : List ByteArray) (l : List Node), GoodW z l ss → ps.Nodup → (∀ p ∈ ps, ∃ n ∈ l, n.path = p) → (∀ n ∈ l, n.owner = s ↔ n.path ∈ ps) →
    GoodW z (ps.foldl (fun l p => goneN l p z) l) ss ∧ (∀ n ∈ ps.foldl (fun l p => goneN l p z) l, n.owner ≠ s ∧ ∃ m ∈ l, m.path = n.path ∧ m.owner = n.owner) ∧
      (∀ m ∈ l, m.owner ≠ s → ∃ n ∈ ps.foldl (fun l p => goneN l p z) l, n.path = m.path ∧ n.data = m.data ∧ n.version = m.version ∧ n.owner = m.owner) ∧ (ps.foldl (fun l p => goneN l p z) l).length + ps.length = l.length
  | [], l, h, _, _, ho => ⟨h, fun n hn => ⟨fun e => by simpa using (ho n hn).1 e, n, hn, rfl, rfl⟩, fun m hm _ => ⟨m, hm, rfl, rfl, rfl, rfl⟩, rfl⟩
  | p :: ps, l, h, hnd, hp, ho => by
    obtain ⟨x, hx, hxp⟩ := hp p (by simp)
    have hxo := (ho x hx).2 (by rw [hxp]; simp)
    have hxk : x.kids = 0 := by
      rcases h.own x hx with h0 | h0
      · exact absurd (hxo.symm.trans h0) hs0
      · exact h0.2
    have hxs : x.path ≠ slash := fun e => hs0 (hxo.symm.trans (h.rootOf hx e))
    have hmem := mem_gone h.sorted hx z
    have hg := good_gone h hx hxs hxk
    rw [List.nodup_cons] at hnd
    have ih := good_fold hs0 ps (goneN l x.path z) hg hnd.2 (by
      intro q hq
      obtain ⟨n, hn, hnq⟩ := hp q (by simp [hq])
      refine ⟨_, (hmem _).2 ⟨n, hn, ?_, rfl⟩, by rw [bumpAt_path]; exact hnq⟩
      rw [hxp, hnq]
      exact fun e => hnd.1 (e ▸ hq)) (by
      intro n hn
      obtain ⟨m, hm, hmx, rfl⟩ := (hmem n).1 hn
      rw [bumpAt_own, bumpAt_path, ho m hm, List.mem_cons]
      constructor
      · rintro (e | e)
        · exact absurd (e.trans hxp.symm) hmx
        · exact e
      · exact .inr)
    obtain ⟨i1, i2, i3, i4⟩ := ih
    have hlen := gone_length h.sorted hx z
    rw [hxp] at i1 i2 i3 i4 hlen
    rw [List.foldl_cons]
    refine ⟨i1, ?_, ?_, ?_⟩
    · intro n hn
      obtain ⟨a, m, hm, b, c⟩ := i2 n hn
      rw [← hxp] at hm
      obtain ⟨m', hm', _, rfl⟩ := (hmem m).1 hm
      rw [bumpAt_path] at b
      rw [bumpAt_own] at c
      exact ⟨a, m', hm', b, c⟩
    · intro m hm hmo
      have hmx : m.path ≠ x.path := by
        intro e
        rw [uniqN h.sorted hm hx e] at hmo
        exact hmo hxo
      obtain ⟨n, hn, a, b, c, d⟩ := i3 (bumpAt (parent x.path) (-1) z m) (by rw [← hxp]; exact (hmem _).2 ⟨m, hm, hmx, rfl⟩) (by rw [bumpAt_own]; exact hmo)
      rw [bumpAt_path] at a
      rw [bumpAt_data] at b
      rw [bumpAt_version] at c
      rw [bumpAt_own] at d
      exact ⟨n, hn, a, b, c, d⟩
    · rw [List.length_cons]
      omega
theorem owned_nodup (hs : SortedN l) (s : Int) : (ownedL l s).Nodup := by
  unfold ownedL
  unfold List.Nodup
  rw [List.pairwise_map]
  exact (List.Pairwise.filter _ hs).imp (fun h => ltN_ne h)
theorem mem_owned {s : Int} {p : ByteArray} : p ∈ ownedL l s ↔ ∃ n ∈ l, n.owner = s ∧ n.path = p := by
  unfold ownedL
  simp only [List.mem_map, List.mem_filter, decide_eq_true_eq]
  constructor
  · rintro ⟨n, ⟨h1, h2⟩, h3⟩; exact ⟨n, h1, h2, h3⟩
  · rintro ⟨n, h1, h2, h3⟩; exact ⟨n, ⟨h1, h2⟩, h3⟩
theorem good_close (h : GoodW z l ss) {s : Int} (hs0 : s ≠ 0) :
    GoodW z (closeN l s z) ss ∧ (∀ n ∈ closeN l s z, n.owner ≠ s ∧ ∃ m ∈ l, m.path = n.path ∧ m.owner = n.owner) ∧
      (∀ m ∈ l, m.owner ≠ s → ∃ n ∈ closeN l s z, n.path = m.path ∧ n.data = m.data ∧ n.version = m.version ∧ n.owner = m.owner) ∧ (closeN l s z).length + (ownedL l s).length = l.length := by
  refine good_fold hs0 (ownedL l s) l h (owned_nodup h.sorted s) (fun p hp => ?_) (fun n hn => ?_)
  · obtain ⟨n, hn, _, e⟩ := mem_owned.1 hp
    exact ⟨n, hn, e⟩
  · rw [mem_owned]
    constructor
    · intro e; exact ⟨n, hn, e, rfl⟩
    · rintro ⟨m, hm, e, hp⟩
      rw [← uniqN h.sorted hm hn hp]
      exact e
end
end Go.Proofs.YteolglmifimnaaaDoor

/- Trees: what a transaction leaves is a good tree. -/
namespace Go.Proofs.YteolglmifimnaaaDoor
open Go.RowKit
theorem eq_slash {p : ByteArray} : p.toList = [47] ↔ p = slash := by
  constructor
  · intro h
    exact bytes_eqB (by rw [h]; unfold slash; rw [ByteArray.toList_eq])
  · intro h
    rw [h]
    unfold slash
    rw [ByteArray.toList_eq]
theorem eq_nil {p : ByteArray} : p.toList = [] ↔ p = ⟨#[]⟩ := by
  constructor
  · intro h
    exact bytes_eqB (by rw [h, ByteArray.toList_eq])
  · intro h
    rw [h, ByteArray.toList_eq]
theorem goodT_inv {x : Txn} (h : goodT x = 0) : (1 ≤ x.op ∧ x.op ≤ 5) ∧ Zx x.zxid ∧ (1 ≤ x.session ∧ x.session ≤ 2147483647) ∧ (0 ≤ x.version ∧ x.version ≤ 2147483647) ∧ (0 ≤ x.owner ∧ x.owner ≤ 2147483647) ∧ x.data.size ≤ 256 ∧
    (x.op ≤ 2 → x.path = ⟨#[]⟩ ∧ x.data = ⟨#[]⟩ ∧ x.version = 0 ∧ x.owner = 0) ∧ (3 ≤ x.op → goodP x.path = true) ∧ (3 ≤ x.op → x.op ≠ 5 → x.path ≠ slash) ∧ (x.op = 4 → x.data = ⟨#[]⟩ ∧ x.version = 0 ∧ x.owner = 0) ∧ (x.op = 3 → x.version = 0) ∧ (x.op = 5 → x.owner = 0) := by
  unfold goodT at h
  by_cases h1 : x.op < 1 ∨ 5 < x.op
  · rw [if_pos h1] at h; exact absurd h (by decide)
  rw [if_neg h1] at h
  by_cases h2 : ¬ (0 ≤ x.zxid ∧ x.zxid < 4611686018427387904) ∨ x.session < 1 ∨ 2147483647 < x.session ∨ x.version < 0 ∨ 2147483647 < x.version ∨ x.owner < 0 ∨ 2147483647 < x.owner
  · rw [if_pos h2] at h; exact absurd h (by decide)
  rw [if_neg h2] at h
  by_cases h3 : 256 < (x.data.size : Int)
  · rw [if_pos h3] at h; exact absurd h (by decide)
  rw [if_neg h3] at h
  by_cases h4 : x.op ≤ 2 ∧ (x.path.toList ≠ [] ∨ x.data.toList ≠ [] ∨ x.version ≠ 0 ∨ x.owner ≠ 0)
  · rw [if_pos h4] at h; exact absurd h (by decide)
  rw [if_neg h4] at h
  by_cases h5 : 3 ≤ x.op ∧ (goodP x.path = false ∨ (x.path.toList = [47] ∧ x.op ≠ 5))
  · rw [if_pos h5] at h; exact absurd h (by decide)
  rw [if_neg h5] at h
  by_cases h6 : (x.op = 4 ∧ (x.data.toList ≠ [] ∨ x.version ≠ 0 ∨ x.owner ≠ 0)) ∨ (x.op = 3 ∧ x.version ≠ 0) ∨ (x.op = 5 ∧ x.owner ≠ 0)
  · rw [if_pos h6] at h; exact absurd h (by decide)
  clear h
  refine ⟨by omega, by unfold Zx; omega, by omega, by omega, by omega, by omega, ?_, ?_, ?_, ?_, ?_, ?_⟩
  · intro ho
    have h7 : ¬ (x.path.toList ≠ [] ∨ x.data.toList ≠ [] ∨ x.version ≠ 0 ∨ x.owner ≠ 0) := fun e => h4 ⟨ho, e⟩
    refine ⟨eq_nil.1 (Classical.byContradiction fun e => h7 (.inl e)), eq_nil.1 (Classical.byContradiction fun e => h7 (.inr (.inl e))), ?_, ?_⟩
    · exact Classical.byContradiction fun e => h7 (.inr (.inr (.inl e)))
    · exact Classical.byContradiction fun e => h7 (.inr (.inr (.inr e)))
  · intro ho
    cases hg : goodP x.path with
    | true => rfl
    | false => exact absurd ⟨ho, .inl hg⟩ h5
  · intro ho h8 e
    exact h5 ⟨ho, .inr ⟨eq_slash.2 e, h8⟩⟩
  · intro ho
    refine ⟨eq_nil.1 (Classical.byContradiction fun e => h6 (.inl ⟨ho, .inl e⟩)), ?_, ?_⟩
    · exact Classical.byContradiction fun e => h6 (.inl ⟨ho, .inr (.inl e)⟩)
    · exact Classical.byContradiction fun e => h6 (.inl ⟨ho, .inr (.inr e)⟩)
  · intro ho
    exact Classical.byContradiction fun e => h6 (.inr (.inl ⟨ho, e⟩))
  · intro ho
    exact Classical.byContradiction fun e => h6 (.inr (.inr ⟨ho, e⟩))
theorem lacks_inv {t : Tr} {x : Txn} (h : lacksE t x = 0) : hasN t.nodes x.path = false ∧ hasN t.nodes (parent x.path) = true ∧ (getN t.nodes (parent x.path)).owner = 0 ∧ (x.owner = 0 ∨ x.owner = x.session) ∧ t.nodes.length < 400 := by
  unfold lacksE at h
  by_cases h1 : hasN t.nodes x.path = true
  · rw [if_pos h1] at h; exact absurd h (by decide)
  rw [if_neg h1] at h
  by_cases h2 : hasN t.nodes (parent x.path) = true
  case neg => rw [if_neg h2] at h; exact absurd h (by decide)
  rw [if_pos h2] at h
  by_cases h3 : (getN t.nodes (parent x.path)).owner ≠ 0
  · rw [if_pos h3] at h; exact absurd h (by decide)
  rw [if_neg h3] at h
  by_cases h4 : x.owner ≠ 0 ∧ x.owner ≠ x.session
  · rw [if_pos h4] at h; exact absurd h (by decide)
  rw [if_neg h4] at h
  by_cases h5 : 400 ≤ t.nodes.length
  · rw [if_pos h5] at h; exact absurd h (by decide)
  refine ⟨by simpa using h1, h2, by omega, by omega, by omega⟩
theorem wrong_inv {t : Tr} {x : Txn} (h : wrongE t x = 0) : goodTree t = true ∧ goodT x = 0 ∧ t.zxid < x.zxid ∧ (x.op = 1 → isI t.sess x.session = false) ∧ (x.op ≠ 1 → isI t.sess x.session = true) ∧ (x.op = 3 → lacksE t x = 0) ∧
    (x.op = 4 → hasN t.nodes x.path = true ∧ (getN t.nodes x.path).kids ≤ 0) ∧ (x.op = 5 → hasN t.nodes x.path = true ∧ x.version = (getN t.nodes x.path).version + 1) := by
  unfold wrongE at h
  by_cases h1 : goodTree t = false
  · rw [if_pos h1] at h; exact absurd h (by decide)
  rw [if_neg h1] at h
  by_cases h2 : goodT x ≠ 0
  · rw [if_pos h2] at h; exact absurd h h2
  rw [if_neg h2] at h
  by_cases h3 : x.zxid ≤ t.zxid
  · rw [if_pos h3] at h; exact absurd h (by decide)
  rw [if_neg h3] at h
  refine ⟨by simpa using h1, Classical.not_not.1 h2, by omega, ?_⟩
  by_cases h4 : x.op = 1
  · rw [if_pos h4] at h
    by_cases h5 : isI t.sess x.session = true
    · rw [if_pos h5] at h; exact absurd h (by decide)
    · exact ⟨fun _ => by simpa using h5, fun e => absurd h4 e, fun e => by omega, fun e => by omega, fun e => by omega⟩
  rw [if_neg h4] at h
  by_cases h5 : isI t.sess x.session = false
  · rw [if_pos h5] at h; exact absurd h (by decide)
  rw [if_neg h5] at h
  refine ⟨fun e => absurd e h4, fun _ => by simpa using h5, ?_⟩
  by_cases h6 : x.op = 3
  · rw [if_pos h6] at h
    exact ⟨fun _ => h, fun e => by omega, fun e => by omega⟩
  rw [if_neg h6] at h
  refine ⟨fun e => absurd e h6, ?_⟩
  by_cases h7 : x.op = 4
  · rw [if_pos h7] at h
    refine ⟨fun _ => ?_, fun e => by omega⟩
    by_cases h8 : hasN t.nodes x.path = true
    · rw [if_pos h8] at h
      by_cases h9 : 0 < (getN t.nodes x.path).kids
      · rw [if_pos h9] at h; exact absurd h (by decide)
      · exact ⟨h8, by omega⟩
    · rw [if_neg h8] at h; exact absurd h (by decide)
  rw [if_neg h7] at h
  refine ⟨fun e => absurd e h7, fun h7 => ?_⟩
  rw [if_pos h7] at h
  by_cases h8 : hasN t.nodes x.path = true
  · rw [if_pos h8] at h
    by_cases h9 : x.version ≠ (getN t.nodes x.path).version + 1
    · rw [if_pos h9] at h; exact absurd h (by decide)
    · exact ⟨h8, Classical.not_not.1 h9⟩
  · rw [if_neg h8] at h; exact absurd h (by decide)
theorem doN_1 {t : Tr} {x : Txn} (h : x.op = 1) : doN t x = t.nodes ∧ doS t x = insS t.sess x.session ∧ doV t x = [] := by
  refine ⟨?_, ?_, ?_⟩
  · unfold doN; rw [if_neg (by omega), if_neg (by omega), if_neg (by omega), if_neg (by omega)]
  · unfold doS; rw [if_pos h]
  · unfold doV; rw [if_neg (by omega), if_neg (by omega), if_neg (by omega), if_neg (by omega)]
theorem doN_2 {t : Tr} {x : Txn} (h : x.op = 2) : doN t x = closeN t.nodes x.session x.zxid ∧ doS t x = delS t.sess x.session ∧ doV t x = closeV t.nodes x.session := by
  refine ⟨?_, ?_, ?_⟩
  · unfold doN; rw [if_pos h]
  · unfold doS; rw [if_neg (by omega), if_pos h]
  · unfold doV; rw [if_pos h]
theorem doN_3 {t : Tr} {x : Txn} (h : x.op = 3) : doN t x = makeN t.nodes x ∧ doS t x = t.sess ∧ doV t x = makeV x.path := by
  refine ⟨?_, ?_, ?_⟩
  · unfold doN; rw [if_neg (by omega), if_pos h]
  · unfold doS; rw [if_neg (by omega), if_neg (by omega)]
  · unfold doV; rw [if_neg (by omega), if_pos h]
theorem doN_4 {t : Tr} {x : Txn} (h : x.op = 4) : doN t x = goneN t.nodes x.path x.zxid ∧ doS t x = t.sess ∧ doV t x = goneV x.path := by
  refine ⟨?_, ?_, ?_⟩
  · unfold doN; rw [if_neg (by omega), if_neg (by omega), if_pos h]
  · unfold doS; rw [if_neg (by omega), if_neg (by omega)]
  · unfold doV; rw [if_neg (by omega), if_neg (by omega), if_pos h]
theorem doN_5 {t : Tr} {x : Txn} (h : x.op = 5) : doN t x = setN t.nodes x ∧ doS t x = t.sess ∧ doV t x = [⟨3, x.path⟩] := by
  refine ⟨?_, ?_, ?_⟩
  · unfold doN; rw [if_neg (by omega), if_neg (by omega), if_neg (by omega), if_pos h]
  · unfold doS; rw [if_neg (by omega), if_neg (by omega)]
  · unfold doV; rw [if_neg (by omega), if_neg (by omega), if_neg (by omega), if_pos h]
theorem apply_goodW {t : Tr} {x : Txn} (h : wrongE t x = 0) : GoodW x.zxid (doN t x) (doS t x) := by
  obtain ⟨hg, hx, hz, w1, w2, w3, w4, w5⟩ := wrong_inv h
  obtain ⟨x1, x2, x3, x4, x5, x6, x7, x8, x9, x10, x11, x12⟩ := goodT_inv hx
  obtain ⟨g, _⟩ := good_parts hg
  have g' : GoodW x.zxid t.nodes t.sess := g.later (by omega) x2.2
  rcases (by omega : x.op = 1 ∨ x.op = 2 ∨ x.op = 3 ∨ x.op = 4 ∨ x.op = 5) with ho | ho | ho | ho | ho
  · obtain ⟨e1, e2, _⟩ := doN_1 (t := t) ho
    rw [e1, e2]
    have hs := (isI_no g.sess).1 (w1 ho)
    obtain ⟨i1, i2, _⟩ := insS_spec g.sess hs
    refine g'.with_sess i1 (fun s hs => ?_) (fun n hn => ?_)
    · rcases (i2 s).1 hs with rfl | hs
      · exact x3
      · exact g.sessB s hs
    · rcases g.own n hn with h0 | ⟨h0, _⟩
      · exact .inl h0
      · exact .inr ((i2 _).2 (.inr h0))
  · obtain ⟨e1, e2, _⟩ := doN_2 (t := t) ho
    rw [e1, e2]
    have hs := (isI_iff g.sess).1 (w2 (by omega))
    obtain ⟨i1, i2, _⟩ := delS_spec g.sess hs
    obtain ⟨c1, c2, _, _⟩ := good_close g' (s := x.session) (by omega)
    refine c1.with_sess i1 (fun s hs => g.sessB s ((i2 s).1 hs).1) (fun n hn => ?_)
    rcases c1.own n hn with h0 | ⟨h0, _⟩
    · exact .inl h0
    · exact .inr ((i2 _).2 ⟨h0, (c2 n hn).1⟩)
  · obtain ⟨e1, e2, _⟩ := doN_3 (t := t) ho
    rw [e1, e2]
    obtain ⟨l1, l2, l3, l4, l5⟩ := lacks_inv (w3 ho)
    obtain ⟨hm, hp⟩ := get_mem l2
    refine good_make g' x rfl l1 (x8 (by omega)) (x9 (by omega) (by omega)) x6 l5 ?_ hm hp l3
    rcases l4 with h0 | h0
    · exact .inl h0
    · rw [h0]
      exact .inr ((isI_iff g.sess).1 (w2 (by omega)))
  · obtain ⟨e1, e2, _⟩ := doN_4 (t := t) ho
    rw [e1, e2]
    obtain ⟨l1, l2⟩ := w4 ho
    obtain ⟨hm, hp⟩ := get_mem l1
    have hk : (getN t.nodes x.path).kids = 0 := by
      have := g.kids _ hm
      omega
    have := good_gone g' hm (by rw [hp]; exact x9 (by omega) (by omega)) hk
    rw [hp] at this
    exact this
  · obtain ⟨e1, e2, _⟩ := doN_5 (t := t) ho
    rw [e1, e2]
    exact good_set g' x rfl (w5 ho).1 x6 x4
theorem applyE_0 {t : Tr} {x : Txn} (h : applyE t x = 0) : wrongE t x = 0 ∧ fullB (doN t x) = false := by
  unfold applyE at h
  by_cases h1 : wrongE t x = 0
  · rw [if_pos h1] at h
    cases hf : fullB (doN t x) with
    | false => exact ⟨h1, rfl⟩
    | true => rw [hf, if_pos rfl] at h; exact absurd h (by decide)
  · rw [if_neg h1] at h
    exact absurd h h1
theorem applyT_0 {t : Tr} {x : Txn} (h : applyE t x = 0) : applyT t x = ⟨x.zxid, doN t x, doS t x⟩ ∧ applyV t x = doV t x := by
  unfold applyT applyV
  rw [if_pos h, if_pos h]
  exact ⟨rfl, rfl⟩
theorem apply_good {t : Tr} {x : Txn} (h : applyE t x = 0) : goodTree (applyT t x) = true ∧ goodTree t = true ∧ t.zxid < x.zxid := by
  obtain ⟨h1, h2⟩ := applyE_0 h
  obtain ⟨h3, _, h4, _⟩ := wrong_inv h1
  rw [(applyT_0 h).1]
  exact ⟨(good_iff _ _ _).2 ⟨apply_goodW h1, h2⟩, h3, h4⟩
theorem new_good : goodTree newTr = true := by
  refine (good_iff _ _ _).2 ⟨⟨by decide, by decide, ⟨rootN, [], rfl, rfl, rfl⟩, List.pairwise_singleton _ _, .nil, by simp, ?_, ?_, ?_, ?_, ?_⟩, ?_⟩
  · intro n hn
    rw [List.mem_singleton.1 hn]
    exact ⟨good_slash, by decide⟩
  · intro n hn
    rw [List.mem_singleton.1 hn]
    decide
  · intro n hn
    rw [List.mem_singleton.1 hn]
    exact .inl rfl
  · intro n hn
    rw [List.mem_singleton.1 hn]
    exact .inl rfl
  · intro n hn
    rw [List.mem_singleton.1 hn]
    rw [List.countP_cons, if_neg]
    · rfl
    · rw [kidB_iff (show goodP rootN.path = true from good_slash)]
      exact fun e => e.1 rfl
  · exact full_no.2 (fun n hn => by rw [List.mem_singleton.1 hn]; decide)
end Go.Proofs.YteolglmifimnaaaDoor

/- Trees: plain laws of a node that is made, and taken away again. -/
namespace Go.Proofs.YteolglmifimnaaaDoor
open Go.RowKit
theorem path_of {p q : ByteArray} (hp : goodP p = true) (hps : p ≠ slash) (hq : goodP q = true) (hqs : q ≠ slash) (h1 : (splitR p).1 = (splitR q).1) (h2 : (splitR p).2.1 = (splitR q).2.1) : p = q := by
  have a := (split_join hp hps).1
  have b := (split_join hq hqs).1
  rw [h1, h2, b] at a
  exact (Prod.mk.inj a).1.symm
theorem count_path {l : List Node} (hs : SortedN l) {x : Node} (hx : x ∈ l) : l.countP (fun n => decide (n.path = x.path)) = 1 := by
  obtain ⟨a, b, e, hf⟩ := filter_cut hs hx
  have h1 := List.length_eq_countP_add_countP (fun n : Node => decide (n.path = x.path)) (l := l)
  have h2 : l.countP (fun n => decide (n.path ≠ x.path)) = a.length + b.length := by rw [List.countP_eq_length_filter, hf, List.length_append]
  have h3 : l.length = a.length + b.length + 1 := by rw [e, List.length_append, List.length_cons]; omega
  have h4 : l.countP (fun n => decide ¬ (decide (n.path = x.path)) = true) = l.countP (fun n => decide (n.path ≠ x.path)) := by
    congr 1
    funext n
    simp
  omega
/-- the step of a node stands once among its parent's children -/
theorem kid_once {z : Int} {l : List Node} {ss : List Int} (g : GoodW z l ss) {x : Node} (hx : x ∈ l) (hs : x.path ≠ slash) : (kidsL l (parent x.path)).countP (fun s => decide (s = (splitR x.path).2.1)) = 1 := by
  unfold kidsL
  rw [List.countP_map, List.countP_filter, ← count_path g.sorted hx]
  apply List.countP_congr
  intro n hn
  have hg := (g.path n hn).1
  have hgx := (g.path x hx).1
  simp only [Function.comp, Bool.and_eq_true, decide_eq_true_eq]
  rw [kidB_iff hg]
  constructor
  · rintro ⟨h1, h2, h3⟩
    exact path_of hg h2 hgx hs h3 h1
  · intro h
    rw [h]
    exact ⟨rfl, hs, rfl⟩
theorem goodT_del {z s : Int} {p : ByteArray} (hz : Zx z) (hs : 1 ≤ s ∧ s ≤ 2147483647) (hp : goodP p = true) (hps : p ≠ slash) : goodT ⟨z, 4, s, p, ⟨#[]⟩, 0, 0⟩ = 0 := by
  have hp2 : p.toList ≠ [47] := fun e => hps (eq_slash.1 e)
  unfold goodT
  simp only
  unfold Zx at hz
  rw [if_neg (by omega), if_neg (by omega), if_neg (by decide), if_neg (by omega), if_neg (by rw [hp]; exact fun e => e.2.elim (fun h => Bool.noConfusion h) (fun h => hp2 h.1)), if_neg]
  rw [ByteArray.toList_eq]
  rintro (⟨_, h | h | h⟩ | ⟨h, _⟩ | ⟨h, _⟩)
  · exact h rfl
  · exact h rfl
  · exact h rfl
  · omega
  · omega
theorem make_spec {z : Int} {l : List Node} {ss : List Int} {x : Txn} (ho : x.op = 3) (h : applyE ⟨z, l, ss⟩ x = 0) :
    hasN (applyT ⟨z, l, ss⟩ x).nodes x.path = true ∧ getN (applyT ⟨z, l, ss⟩ x).nodes x.path = nodeOf x ∧ hasN (applyT ⟨z, l, ss⟩ x).nodes (parent x.path) = true ∧
    (kidsL (applyT ⟨z, l, ss⟩ x).nodes (parent x.path)).countP (fun s => decide (s = (splitR x.path).2.1)) = 1 ∧ (applyT ⟨z, l, ss⟩ x).nodes.length = l.length + 1 ∧ (applyV ⟨z, l, ss⟩ x).length = 2 ∧
    goodP x.path = true ∧ x.path ≠ slash ∧ (applyT ⟨z, l, ss⟩ x).zxid = x.zxid ∧ (applyT ⟨z, l, ss⟩ x).sess = ss ∧ isI ss x.session = true ∧ (1 ≤ x.session ∧ x.session ≤ 2147483647) := by
  have hw := (applyE_0 h).1
  obtain ⟨hg, hx, hz, w1, w2, w3, w4, w5⟩ := wrong_inv hw
  obtain ⟨x1, x2, x3, x4, x5, x6, x7, x8, x9, x10, x11, x12⟩ := goodT_inv hx
  obtain ⟨d1, d2, d3⟩ := doN_3 (t := ⟨z, l, ss⟩) ho
  obtain ⟨e1, e2⟩ := applyT_0 h
  have G := apply_goodW hw
  obtain ⟨g, _⟩ := good_parts hg
  rw [d1, d2] at G
  rw [e1, e2, d3]
  simp only at g hz w2 ⊢
  rw [d1, d2]
  simp only at G ⊢
  obtain ⟨l1, l2, l3, l4, l5⟩ := lacks_inv (w3 ho)
  simp only at l1 l2
  have hgp := x8 (by omega)
  have hps := x9 (by omega) (by omega)
  have hmem := mem_make g.sorted x l1 hgp hps
  have hn : nodeOf x ∈ makeN l x := (hmem _).2 (.inl rfl)
  obtain ⟨u, hu, hup⟩ := (has_iff g.sorted).1 l2
  obtain ⟨a, b, e, hm1, _⟩ := makeN_is g.sorted x l1
  have h1 := get_ofN G.sorted hn
  refine ⟨h1.1, h1.2, (has_iff G.sorted).2 ⟨_, (hmem _).2 (.inr ⟨u, hu, rfl⟩), by rw [bumpAt_path]; exact hup⟩, kid_once G hn hps, ?_, rfl, hgp, hps, trivial, trivial, w2 (by omega), x3⟩
  rw [hm1, List.length_map, List.length_append, List.length_cons, e, List.length_append]
  omega
/-- made and taken away again -/
def twiceAt (d : ByteArray) (z : Int) (n : Node) : Node := if n.path = d then { n with cversion := n.cversion + 1 + 1, pzxid := z } else n
theorem undo_nodes {l : List Node} (hs : SortedN l) (x : Txn) (hno : hasN l x.path = false) (hg : goodP x.path = true) (hne : x.path ≠ slash) (z : Int) : goneN (makeN l x) x.path z = l.map (twiceAt (parent x.path) z) := by
  obtain ⟨a, b, e, h1, h2⟩ := makeN_is hs x hno
  have hsort : SortedN (makeN l x) := by rw [h1]; exact sorted_map h2 (bumpAt_path _ _ _)
  have hn : nodeOf x ∈ makeN l x := (mem_make hs x hno hg hne _).2 (.inl rfl)
  have hno2 := (has_no hs).1 hno
  have hgo : goneN (makeN l x) x.path z = ((makeN l x).filter (fun n => decide (n.path ≠ x.path))).map (bumpAt (parent x.path) (-1) z) := goneN_is hsort hn z
  rw [hgo, h1, List.filter_map, show ((fun n : Node => decide (n.path ≠ x.path)) ∘ bumpAt (parent x.path) 1 x.zxid) = (fun n : Node => decide (n.path ≠ x.path)) from by funext n; simp [Function.comp, bumpAt_path]]
  rw [List.filter_append, List.filter_cons_of_neg (by simp [nodeOf]), filter_same (fun y hy => by have := hno2 y (by rw [e]; simp [hy]); simpa using this), filter_same (fun y hy => by have := hno2 y (by rw [e]; simp [hy]); simpa using this), ← e, List.map_map]
  apply List.map_congr_left
  intro n _
  show bumpAt (parent x.path) (-1) z (bumpAt (parent x.path) 1 x.zxid n) = _
  by_cases hd : n.path = parent x.path
  · have h3 : bumpAt (parent x.path) 1 x.zxid n = bump n 1 x.zxid := if_pos hd
    have h4 : bumpAt (parent x.path) (-1) z (bump n 1 x.zxid) = bump (bump n 1 x.zxid) (-1) z := if_pos hd
    rw [h3, h4]
    unfold twiceAt
    rw [if_pos hd]
    simp only [bump]
    rw [show n.kids + 1 + -1 = n.kids from by omega]
  · have h3 : bumpAt (parent x.path) 1 x.zxid n = n := if_neg hd
    have h4 : bumpAt (parent x.path) (-1) z n = n := if_neg hd
    rw [h3, h4]
    unfold twiceAt
    rw [if_neg hd]
theorem undo_spec {z zz : Int} {l : List Node} {ss : List Int} {x : Txn} (ho : x.op = 3) (h : applyE ⟨z, l, ss⟩ x = 0) :
    (applyE (applyT ⟨z, l, ss⟩ x) ⟨zz, 4, x.session, x.path, ⟨#[]⟩, 0, 0⟩ = 0 → (applyT (applyT ⟨z, l, ss⟩ x) ⟨zz, 4, x.session, x.path, ⟨#[]⟩, 0, 0⟩).zxid = zz ∧ (applyT (applyT ⟨z, l, ss⟩ x) ⟨zz, 4, x.session, x.path, ⟨#[]⟩, 0, 0⟩).nodes = l.map (twiceAt (parent x.path) zz)) ∧
    (applyE (applyT ⟨z, l, ss⟩ x) ⟨zz, 4, x.session, x.path, ⟨#[]⟩, 0, 0⟩ ≠ 0 → zz ≤ x.zxid ∨ ¬ Zx zz ∨ applyE (applyT ⟨z, l, ss⟩ x) ⟨zz, 4, x.session, x.path, ⟨#[]⟩, 0, 0⟩ = 6) := by
  obtain ⟨s1, s2, s3, s4, s5, s6, s7, s8, s9, s10, s11, s12⟩ := make_spec ho h
  have hG := (apply_good h).1
  have hw := (applyE_0 h).1
  obtain ⟨hg, hx, hz, w1, w2, w3, w4, w5⟩ := wrong_inv hw
  obtain ⟨g, _⟩ := good_parts hg
  obtain ⟨l1, _⟩ := lacks_inv (w3 ho)
  obtain ⟨d1, d2, d3⟩ := doN_3 (t := ⟨z, l, ss⟩) ho
  obtain ⟨e1, e2⟩ := applyT_0 h
  simp only at g l1
  generalize hT : applyT ⟨z, l, ss⟩ x = T at *
  constructor
  · intro h2
    obtain ⟨e3, e4⟩ := applyT_0 h2
    obtain ⟨d4, d5, d6⟩ := doN_4 (t := T) (x := ⟨zz, 4, x.session, x.path, ⟨#[]⟩, 0, 0⟩) rfl
    rw [e3]
    simp only
    refine ⟨trivial, ?_⟩
    rw [d4, e1]
    simp only
    rw [d1]
    exact undo_nodes g.sorted x l1 s7 s8 zz
  · intro h2
    by_cases c1 : zz ≤ x.zxid
    · exact .inl c1
    by_cases c2 : Zx zz
    · right; right
      have hwr : wrongE T ⟨zz, 4, x.session, x.path, ⟨#[]⟩, 0, 0⟩ = 0 := by
        unfold wrongE
        rw [if_neg (by rw [hG]; decide), goodT_del c2 s12 s7 s8, if_neg (by decide), s9, if_neg c1, s10, s11, s1, s2]
        rfl
      unfold applyE at h2 ⊢
      rw [if_pos hwr] at h2 ⊢
      by_cases hf : fullB (doN T ⟨zz, 4, x.session, x.path, ⟨#[]⟩, 0, 0⟩) = true
      · rw [if_pos hf]
      · rw [if_neg hf] at h2
        exact absurd rfl h2
    · exact .inr (.inl c2)
end Go.Proofs.YteolglmifimnaaaDoor

/- zxid.small: a number of at most ten digits, without noughts ahead. -/
namespace Go.Proofs.YteolglmifimnaaaDoor
open Go.RowKit
def digit (c : UInt8) : Bool := decide (48 ≤ c.toNat ∧ c.toNat ≤ 57)
def valD (l : List UInt8) : Nat := l.foldl (fun n c => n * 10 + (c.toNat - 48)) 0
def smallOk (l : List UInt8) : Bool := decide (l ≠ []) && (decide (l.length ≤ 10) && (!(decide (1 < l.length) && decide (l[0]? = some 48)) && l.all digit))
def smallV (l : List UInt8) : Int := if smallOk l then (valD l : Nat) else 0
theorem valD_snoc (l : List UInt8) (c : UInt8) : valD (l ++ [c]) = valD l * 10 + (c.toNat - 48) := by unfold valD; rw [List.foldl_append]; rfl
theorem valD_lt (l : List UInt8) (h : l.all digit = true) : ∀ k, k ≤ l.length → valD (l.take k) < 10 ^ k
  | 0, _ => by simp [valD]
  | k + 1, hk => by
    have ih := valD_lt l h k (by omega)
    have hx := List.getElem?_eq_getElem (l := l) (i := k) (by omega)
    have h2 : digit l[k] = true := List.all_eq_true.1 h _ (List.getElem_mem (by omega))
    unfold digit at h2
    rw [decide_eq_true_iff] at h2
    rw [List.take_add_one, hx, Option.toList_some, valD_snoc, Nat.pow_succ]
    omega
theorem valD_lt' (l : List UInt8) : ∀ k, (l.take k).all digit = true → k ≤ l.length → valD (l.take k) < 10 ^ k := by
  intro k h hk
  have := valD_lt (l.take k) h k (by rw [List.length_take]; omega)
  rwa [List.take_take, Nat.min_self] at this
theorem bs_inj0 {s : ByteArray} (h : bs s = []) : s = ⟨#[]⟩ := ByteArray.ext (Array.toList_inj.mp h)
theorem bytes_row (s : ByteArray) (cap : Nat) : bytesRow s cap = ((bs s).map (fun c : UInt8 => Value.int .u8 (c.toNat : Int)) ++ List.replicate (cap - s.size) (Value.int .u8 0)).toArray := by
  apply Array.ext'
  simp only [bytesRow, Array.toList_append, Array.toList_map, Array.toList_replicate]
  rfl
theorem row_cell (w : World) (s : ByteArray) (cap e : Nat) (f : Nat × Nat) (j : Nat) (c : UInt8) (h : (bs s)[j]? = some c) : ((w.drew).alloc (.cells (bytesRow s cap) e f)).cell? ⟨w.heap.size, j, none⟩ = some (.int .u8 (c.toNat : Int)) := by
  have h1 : ((w.drew).alloc (.cells (bytesRow s cap) e f)).heap[w.heap.size]? = some (.cells (bytesRow s cap) e f) := heap_alloc_new w.drew _
  unfold World.cell?
  simp only [h1]
  rw [bytes_row]
  have hj : j < (bs s).length := (List.getElem?_eq_some_iff.1 h).1
  simp only [List.getElem?_toArray]
  rw [List.getElem?_append_left (by simpa using hj), List.getElem?_map, h]
  rfl
end Go.Proofs.YteolglmifimnaaaDoor

/- package recipe: what its functions compute, in plain words, and plain laws. -/
namespace Go.Proofs.YteolglmifimnaaaDoor
open Go.RowKit
/-- a step of the sequence of a name -/
def serB (name s : ByteArray) : Bool := Lib.hasPrefix s.data.toList name.data.toList && (decide (s.size = name.size + 10) && ((bs s).drop name.size).all digit)
def lineE (t : Tr) (dir name : ByteArray) : Int := if hasN t.nodes dir then (if name ≠ ⟨#[]⟩ ∧ named (bs name) = false then 2 else 0) else 7
def lineL (t : Tr) (dir name : ByteArray) : List ByteArray := if lineE t dir name = 0 then (kidsL t.nodes dir).filter (serB name) else []
theorem compare_append (p x y : List UInt8) : Lib.compareBytes (p ++ x) (p ++ y) = Lib.compareBytes x y := by
  induction p with
  | nil => rfl
  | cons c p ih =>
    rw [List.cons_append, List.cons_append, Lib.compareBytes, if_neg (UInt8.lt_irrefl c), if_neg (UInt8.lt_irrefl c), ih]
theorem join_cmp (d a b : ByteArray) : cmpB (joinT d a) (joinT d b) = cmpB a b := by
  show Lib.compareBytes (bs (joinT d a)) (bs (joinT d b)) = Lib.compareBytes (bs a) (bs b)
  unfold joinT
  split
  · rw [bs_append, bs_append, compare_append]
  · rw [bs_append, bs_append, bs_append, bs_append, compare_append]
theorem kid_join {n : Node} (hg : goodP n.path = true) {d : ByteArray} (h : kidB d n = true) : joinR d (splitR n.path).2.1 = (n.path, 0) ∧ joinT d (splitR n.path).2.1 = n.path := by
  obtain ⟨h1, h2⟩ := (kidB_iff hg d).1 h
  have hj := (split_join hg h1).1
  unfold parent at h2
  rw [h2] at hj
  refine ⟨hj, ?_⟩
  obtain ⟨_, _, _, k⟩ := join_parts (d := d) (n := (splitR n.path).2.1) (by rw [hj])
  rw [hj] at k
  exact (Prod.mk.inj k).1.symm
theorem kids_sorted {z : Int} {l : List Node} {ss : List Int} (g : GoodW z l ss) (d : ByteArray) : (kidsL l d).Pairwise (fun a b => cmpB a b < 0) := by
  unfold kidsL
  rw [List.pairwise_map]
  refine List.Pairwise.imp_of_mem (fun {a b} ha hb h => ?_) (List.Pairwise.filter (kidB d) g.sorted)
  rw [List.mem_filter] at ha hb
  have h1 := (kid_join (g.path a ha.1).1 ha.2).2
  have h2 := (kid_join (g.path b hb.1).1 hb.2).2
  rw [← join_cmp d, h1, h2]
  exact h
theorem kid_node {z : Int} {l : List Node} {ss : List Int} (g : GoodW z l ss) {d s : ByteArray} (h : s ∈ kidsL l d) : ∃ n ∈ l, joinR d s = (n.path, 0) ∧ hasN l n.path = true ∧ getN l n.path = n := by
  unfold kidsL at h
  rw [List.mem_map] at h
  obtain ⟨n, hn, rfl⟩ := h
  rw [List.mem_filter] at hn
  exact ⟨n, hn.1, (kid_join (g.path n hn.1).1 hn.2).1, get_ofN g.sorted hn.1⟩
theorem line_sorted {z : Int} {l : List Node} {ss : List Int} (g : GoodW z l ss) (d name : ByteArray) : (lineL ⟨z, l, ss⟩ d name).Pairwise (fun a b => cmpB a b < 0) := by
  unfold lineL
  split
  · exact List.Pairwise.filter _ (kids_sorted g d)
  · exact .nil
theorem line_kids {t : Tr} {d name s : ByteArray} (h : s ∈ lineL t d name) : s ∈ kidsL t.nodes d ∧ lineE t d name = 0 := by
  unfold lineL at h
  split at h
  · exact ⟨(List.mem_filter.1 h).1, by assumption⟩
  · cases h
theorem line_le (t : Tr) (d name : ByteArray) : (lineL t d name).length ≤ (kidsL t.nodes d).length := by
  unfold lineL
  split
  · exact List.length_filter_le _ _
  · exact Nat.zero_le _
/-- the first place of a text in a line -/
def firstAt (l : List ByteArray) (s : ByteArray) : Nat := l.findIdx (fun x => decide (x = s))
theorem first_sorted {l : List ByteArray} (h : l.Pairwise (fun a b => cmpB a b < 0)) {i : Nat} {s : ByteArray} (hs : l[i]? = some s) : firstAt l s = i := by
  obtain ⟨hi, rfl⟩ := List.getElem?_eq_some_iff.1 hs
  unfold firstAt
  rw [List.findIdx_eq hi]
  refine ⟨decide_eq_true rfl, fun j hj => ?_⟩
  have := List.pairwise_iff_getElem.1 h j i (by omega) hi hj
  refine decide_eq_false (fun e => ?_)
  rw [e, cmpB_self] at this
  omega
end Go.Proofs.YteolglmifimnaaaDoor

/- package prep: what its functions compute, in plain words. -/
namespace Go.Proofs.YteolglmifimnaaaDoor
open Go.RowKit
abbrev noTxn : Txn := ⟨0, 0, 0, ⟨#[]⟩, ⟨#[]⟩, 0, 0⟩
/-- a step of a sequence -/
def serR (s : ByteArray) (n : Int) : ByteArray × Int := if n < 0 ∨ 2147483647 < n then (⟨#[]⟩, 3) else if named (bs s ++ digs 10 n.toNat) then (⟨(bs s ++ digs 10 n.toNat).toArray⟩, 0) else (⟨#[]⟩, 2)
def seqF (n : Int) : Bool := decide (n = 2 ∨ n = 3)
def ephF (n : Int) : Bool := decide (n = 1 ∨ n = 3)
def versR (t : Tr) (r : Request) : Int × Int :=
  if goodP r.path then (if isI t.sess r.session then (if hasN t.nodes r.path then (if r.version ≠ -1 ∧ r.version ≠ (getN t.nodes r.path).version then (0, 9) else ((getN t.nodes r.path).version, 0)) else (0, 7)) else (0, 12)) else (0, 2)
def seqR (t : Tr) (p : ByteArray) : ByteArray × Int :=
  if hasN t.nodes (splitR p).1 then (if (serR (splitR p).2.1 (getN t.nodes (splitR p).1).cversion).2 ≠ 0 then (⟨#[]⟩, (serR (splitR p).2.1 (getN t.nodes (splitR p).1).cversion).2) else joinR (splitR p).1 (serR (splitR p).2.1 (getN t.nodes (splitR p).1).cversion).1) else (⟨#[]⟩, 7)
def creR (t : Tr) (r : Request) : ByteArray × Int :=
  if r.flags < 0 ∨ 3 < r.flags then (⟨#[]⟩, 3)
  else if (splitR r.path).2.2 ≠ 0 then (⟨#[]⟩, 2)
  else if isI t.sess r.session = false then (⟨#[]⟩, 12)
  else if seqF r.flags then seqR t r.path else (r.path, 0)
def madeR (t : Tr) (z : Int) (r : Request) : Txn × Int :=
  if r.op = 1 ∨ r.op = 2 then (⟨z, r.op, r.session, ⟨#[]⟩, ⟨#[]⟩, 0, 0⟩, 0)
  else if r.op = 3 then (⟨z, r.op, r.session, (creR t r).1, r.data, 0, if ephF r.flags then r.session else 0⟩, (creR t r).2)
  else if r.op = 4 then (⟨z, r.op, r.session, r.path, ⟨#[]⟩, 0, 0⟩, (versR t r).2)
  else if r.op = 5 then (⟨z, r.op, r.session, r.path, r.data, (versR t r).1 + 1, 0⟩, (versR t r).2)
  else (noTxn, 4)
theorem made_12 (t : Tr) (z : Int) {r : Request} (h : r.op = 1 ∨ r.op = 2) : madeR t z r = (⟨z, r.op, r.session, ⟨#[]⟩, ⟨#[]⟩, 0, 0⟩, 0) := by unfold madeR; rw [if_pos h]
theorem made_3 (t : Tr) (z : Int) {r : Request} (h : r.op = 3) : madeR t z r = (⟨z, r.op, r.session, (creR t r).1, r.data, 0, if ephF r.flags then r.session else 0⟩, (creR t r).2) := by unfold madeR; rw [if_neg (by omega), if_pos h]
theorem made_4 (t : Tr) (z : Int) {r : Request} (h : r.op = 4) : madeR t z r = (⟨z, r.op, r.session, r.path, ⟨#[]⟩, 0, 0⟩, (versR t r).2) := by unfold madeR; rw [if_neg (by omega), if_neg (by omega), if_pos h]
theorem made_5 (t : Tr) (z : Int) {r : Request} (h : r.op = 5) : madeR t z r = (⟨z, r.op, r.session, r.path, r.data, (versR t r).1 + 1, 0⟩, (versR t r).2) := by unfold madeR; rw [if_neg (by omega), if_neg (by omega), if_neg (by omega), if_pos h]
theorem made_no (t : Tr) (z : Int) {r : Request} (h : r.op < 1 ∨ 5 < r.op) : madeR t z r = (noTxn, 4) := by unfold madeR; rw [if_neg (by omega), if_neg (by omega), if_neg (by omega), if_neg (by omega)]
def asked (t : Tr) (z : Int) (r : Request) : Bool := goodTree t && decide (0 ≤ z ∧ z < 4611686018427387904 ∧ 1 ≤ r.session ∧ r.session ≤ 2147483647)
def prepE (t : Tr) (z : Int) (r : Request) : Int := if asked t z r then (if (madeR t z r).2 ≠ 0 then (madeR t z r).2 else applyE t (madeR t z r).1) else 3
def prepX (t : Tr) (z : Int) (r : Request) : Txn := if prepE t z r = 0 then (madeR t z r).1 else noTxn
theorem prepE_0 {t : Tr} {z : Int} {r : Request} (h : prepE t z r = 0) : asked t z r = true ∧ (madeR t z r).2 = 0 ∧ applyE t (madeR t z r).1 = 0 ∧ prepX t z r = (madeR t z r).1 := by
  have h0 := h
  unfold prepE at h
  cases ha : asked t z r with
  | false => rw [ha, if_neg (by decide)] at h; exact absurd h (by decide)
  | true =>
    rw [ha, if_pos rfl] at h
    by_cases hm : (madeR t z r).2 = 0
    · rw [if_neg (by omega)] at h
      exact ⟨rfl, hm, h, by unfold prepX; rw [if_pos h0]⟩
    · rw [if_pos hm] at h
      exact absurd h hm
theorem prepX_no {t : Tr} {z : Int} {r : Request} (h : prepE t z r ≠ 0) : prepX t z r = noTxn := by unfold prepX; rw [if_neg h]
theorem made_zos {t : Tr} {z : Int} {r : Request} (h : (madeR t z r).2 = 0) : (madeR t z r).1.zxid = z ∧ (madeR t z r).1.op = r.op ∧ (madeR t z r).1.session = r.session ∧ ((madeR t z r).1.owner = 0 ∨ (madeR t z r).1.owner = r.session) := by
  unfold madeR at h ⊢
  by_cases h1 : r.op = 1 ∨ r.op = 2
  · rw [if_pos h1]
    exact ⟨rfl, rfl, rfl, .inl rfl⟩
  rw [if_neg h1] at h ⊢
  by_cases h2 : r.op = 3
  · rw [if_pos h2]
    refine ⟨rfl, rfl, rfl, ?_⟩
    simp only
    split
    · exact .inr rfl
    · exact .inl rfl
  rw [if_neg h2] at h ⊢
  by_cases h3 : r.op = 4
  · rw [if_pos h3]
    exact ⟨rfl, rfl, rfl, .inl rfl⟩
  rw [if_neg h3] at h ⊢
  by_cases h4 : r.op = 5
  · rw [if_pos h4]
    exact ⟨rfl, rfl, rfl, .inl rfl⟩
  rw [if_neg h4] at h
  exact absurd h (by decide)
theorem versR_range {t : Tr} (hg : goodTree t = true) (r : Request) : 0 ≤ (versR t r).1 ∧ (versR t r).1 ≤ 2147483647 := by
  unfold versR
  cases goodP r.path with
  | false => simp
  | true =>
    cases isI t.sess r.session with
    | false => simp
    | true =>
      cases h : hasN t.nodes r.path with
      | false => simp
      | true =>
        have := (good_parts hg).1.stat _ (get_mem h).1
        rw [if_pos rfl, if_pos rfl, if_pos rfl]
        split
        · exact ⟨Int.le_refl _, by decide⟩
        · exact ⟨this.1, this.2.1⟩
/-- what was made ready fits -/
theorem prep_fits {t : Tr} {z : Int} {r : Request} (h : prepE t z r = 0) : applyE t (prepX t z r) = 0 ∧ (applyT t (prepX t z r)).zxid = z ∧ (prepX t z r).zxid = z ∧ (prepX t z r).op = r.op ∧ (prepX t z r).session = r.session ∧ goodT (prepX t z r) = 0 ∧ ((prepX t z r).owner = 0 ∨ (prepX t z r).owner = r.session) := by
  obtain ⟨h1, h2, h3, h4⟩ := prepE_0 h
  obtain ⟨m1, m2, m3, m4⟩ := made_zos h2
  rw [h4]
  refine ⟨h3, ?_, m1, m2, m3, (wrong_inv (applyE_0 h3).1).2.1, m4⟩
  rw [(applyT_0 h3).1]
  exact m1
end Go.Proofs.YteolglmifimnaaaDoor

/- Contract of path.Serial: a step with a number of ten digits behind it. -/
namespace Go.Proofs.YteolglmifimnaaaDoor
open Go.RowKit
/-- a block known whole, a mark behind its cells -/
def Bm (w : World) (g : Nat) (cs : Array Value) (t : TypeId) : Prop := w.heap[g]? = some (.cells cs t (cs.size, cs.size + 1))
theorem Bm.cell {w : World} {g : Nat} {cs : Array Value} {t : TypeId} (h : Bm w g cs t) (i : Nat) : w.cell? ⟨g, i, none⟩ = cs[i]? := by unfold Bm at h; simp [World.cell?, h]
theorem Bm.frozen {w : World} {g : Nat} {cs : Array Value} {t : TypeId} (h : Bm w g cs t) {i : Nat} (hi : i < cs.size) : w.frozen? ⟨g, i, none⟩ = false := by
  unfold Bm at h
  simp [World.frozen?, h]
  omega
theorem Bm.set {w : World} {g : Nat} {cs : Array Value} {t : TypeId} (h : Bm w g cs t) (i : Nat) (v : Value) : Bm (w.setCell ⟨g, i, none⟩ v) g (cs.setIfInBounds i v) t := by
  unfold Bm at h ⊢
  simp [World.setCell, Array.getElem?_modify, h]
def bv (c : UInt8) : Value := .int .u8 (c.toNat : Int)
/-- bytes, and what lies behind them -/
def rowOf (l : List UInt8) (z : List Value) : Array Value := (l.map bv ++ z).toArray
theorem rowOf_get (l : List UInt8) (z : List Value) (i : Nat) (h : i < l.length) : (rowOf l z)[i]? = some (bv l[i]) := by
  unfold rowOf
  simp [List.getElem?_append_left, h]
theorem rowOf_set (l : List UInt8) (z : List Value) (i : Nat) (h : i < l.length) (c : UInt8) : (rowOf l z).setIfInBounds i (bv c) = rowOf (l.set i c) z := by
  unfold rowOf
  apply Array.ext'
  simp [List.set_append_left, h, List.map_set]
theorem rowOf_size (l : List UInt8) (z : List Value) : (rowOf l z).size = l.length + z.length := by simp [rowOf]

theorem serial_start (w : World) (s : ByteArray) (n : Nat) (e : TypeId) (cap : Nat) :
    Bm ((w.alloc (.cells (bytesRow (s ++ ⟨#[48, 48, 48, 48, 48, 48, 48, 48, 48, 48]⟩) cap) e ((bytesRow (s ++ ⟨#[48, 48, 48, 48, 48, 48, 48, 48, 48, 48]⟩) cap).size, (bytesRow (s ++ ⟨#[48, 48, 48, 48, 48, 48, 48, 48, 48, 48]⟩) cap).size + 1))).drew)
      w.heap.size (rowOf (bs s ++ part 0 n) (List.replicate (cap - (s.size + 10)) (.int .u8 0))) e ∧
    Below w.heap.size w ((w.alloc (.cells (bytesRow (s ++ ⟨#[48, 48, 48, 48, 48, 48, 48, 48, 48, 48]⟩) cap) e ((bytesRow (s ++ ⟨#[48, 48, 48, 48, 48, 48, 48, 48, 48, 48]⟩) cap).size, (bytesRow (s ++ ⟨#[48, 48, 48, 48, 48, 48, 48, 48, 48, 48]⟩) cap).size + 1))).drew) := by
  have hC : bytesRow (s ++ ⟨#[48, 48, 48, 48, 48, 48, 48, 48, 48, 48]⟩) cap = rowOf (bs s ++ part 0 n) (List.replicate (cap - (s.size + 10)) (.int .u8 0)) := by
    apply Array.ext'
    have h1 : (s ++ (⟨#[48, 48, 48, 48, 48, 48, 48, 48, 48, 48]⟩ : ByteArray)).data.toList = bs s ++ List.replicate 10 48 := by
      simp [bs]
    have h2 : (s ++ (⟨#[48, 48, 48, 48, 48, 48, 48, 48, 48, 48]⟩ : ByteArray)).size = s.size + 10 := by simp; rfl
    simp only [bytesRow, rowOf, Array.toList_append, Array.toList_map, h1, h2, Array.toList_replicate]
    simp [part, digs]
    rfl
  rw [hC]
  refine ⟨?_, ((Below.refl _ _).alloc (Nat.le_refl _) _).drew⟩
  exact heap_alloc_new w _
theorem byte_of (m : Nat) : (48 : Int) + (m : Int) % 10 = ((UInt8.ofNat (48 + m % 10)).toNat : Int) := by
  simp
  omega
theorem serial_rel {w : World} {g e n j q : Nat} {s : ByteArray} {z : List Value} (h : Bm w g (rowOf (bs s ++ part j n) z) e) (hj : j < 10) (hq : (q : Int) = s.size + 9 - j) :
    Bm (w.setCell ⟨g, q, none⟩ (.int .u8 (48 + ((n / 10 ^ j : Nat) : Int) % 10))) g (rowOf (bs s ++ part (j + 1) n) z) e := by
  have h1 := h.set q (.int .u8 (48 + ((n / 10 ^ j : Nat) : Int) % 10))
  have hv : (Value.int .u8 (48 + ((n / 10 ^ j : Nat) : Int) % 10)) = bv (UInt8.ofNat (48 + n / 10 ^ j % 10)) := by rw [bv, ← byte_of]
  have hl : (bs s ++ part j n).length = s.size + 10 := by rw [List.length_append, length_bs, length_part j n (by omega)]
  rw [hv] at h1 ⊢
  rw [rowOf_set _ _ _ (by omega), List.set_append_right _ _ (by rw [length_bs]; omega), length_bs, show q - s.size = 9 - j from by omega, part_set j n hj] at h1
  exact h1
theorem serial_at {w : World} {g e n j q : Nat} {s : ByteArray} {z : List Value} (h : Bm w g (rowOf (bs s ++ part j n) z) e) (hj : j < 10) (hq : (q : Int) = s.size + 9 - j) :
    (∃ c, w.cell? ⟨g, q, none⟩ = some (bv c)) ∧ w.frozen? ⟨g, q, none⟩ = false := by
  have hl : (bs s ++ part j n).length = s.size + 10 := by rw [List.length_append, length_bs, length_part j n (by omega)]
  exact ⟨⟨_, by rw [h.cell, rowOf_get _ _ _ (by omega)]⟩, h.frozen (by rw [rowOf_size]; omega)⟩

theorem bs_mk (L : List UInt8) : bs ⟨L.toArray⟩ = L := rfl
theorem serial_back {P : Program} {w : World} {g e src dst N cap : Nat} {L : List UInt8} {z : List Value} (h : Bm w g (rowOf L z) e) (hN : L.length = N) (hs : P.underlying src = some (.slice e)) (he : P.underlying e = some (.int .u8)) (hd : P.underlying dst = some .string) :
    (convert src dst (.slice (some ⟨g, 0, none⟩) N cap)).run P w = .ok (.string ⟨L.toArray⟩) w := by
  subst hN
  refine run_convert_bytes_back w src dst e ⟨g, 0, none⟩ cap L hs he hd (fun j hj => ?_)
  have hadd : (⟨g, 0, none⟩ : Addr).add j = ⟨g, j, none⟩ := by unfold Addr.add; split <;> simp_all
  rw [hadd, h.cell, rowOf_get _ _ _ hj]
  rfl
/-- what Serial answers when the step with its digits is L -/
def serialR (L : List UInt8) : Ending := if named L then .returned (.tuple #[.string ⟨L.toArray⟩, .int .i64 0]) else .returned (.tuple #[.string ⟨#[]⟩, .int .i64 2])
set_option maxRecDepth 100000 in
set_option maxHeartbeats 400000 in
theorem serial_walk (s : ByteArray) (n : Nat) (L : List UInt8) (hL : Hid (bs s ++ digs 10 n = L)) (w : World) (hn : n ≤ 2147483647) (hs : s.size ≤ 140737488351232) :
    Calls Tryd.prog 74 #[.string s, .int .i64 n] w fun e w' => e = serialR L ∧ Below w.heap.size w w' := by
  have hconv := fun (w : World) (s : ByteArray) => run_bytes_of_string (P := Tryd.prog) w 9 111 5 s Tryd.underlying9 Tryd.underlying111 Tryd.underlying5
  go_enter Tryd.func74, Tryd.ntmps74
  go_wp2
  obtain ⟨f1, f2⟩ := serial_start w s n 5 (grownCap w (s.size + 10) 0 5)
  generalize World.drew (World.alloc w _) = W1 at f1 f2 ⊢
  generalize grownCap w (s.size + 10) 0 5 = cap at f1 ⊢
  generalize List.replicate (cap - (s.size + 10)) (Value.int .u8 0) = z at f1
  generalize hg : w.heap.size = g at f1 f2 ⊢
  have Hg := Lib.hid hg
  clear hg
  have F1 := Lib.hid f1
  clear f1 hconv
  go_loopw [1, 7] (fun n' i wr => ∃ (j m : Nat) (q : Int), j ≤ 10 ∧ m ≤ 2147483647 ∧ n' = .int .i64 m ∧ i = .int .i64 q ∧ q ≤ s.size + 9 ∧ Hid (m = n / 10 ^ j) ∧ Hid (q = s.size + 9 - j) ∧ Hid (Bm wr g (rowOf (bs s ++ part j n) z) 5) ∧ Below g w wr) (fun n' _ _ => (intOf n').toNat)
  case atStart => exact ⟨0, n, _, by omega, hn, rfl, rfl, by omega, (by simp : n = n / 10 ^ 0), (by simp; omega : ((s.size : Int) + 10 - 1 = s.size + 9 - (0 : Nat))), F1, f2⟩
  case round =>
    obtain ⟨j, m, q, hj, hm, rfl, rfl, hq9, Hm, Hq, HB, hb⟩ := hrel
    clear F1
    by_cases hpos : 0 < m
    · have hj10 : j < 10 := lt_ten hn (by rw [← Hm.out]; exact hpos)
      obtain ⟨q', rfl⟩ : ∃ q' : Nat, q = q' := ⟨q.toNat, by have := Hq.out; omega⟩
      obtain ⟨⟨c, hc⟩, hf⟩ := serial_at HB.out hj10 Hq.out
      have HR := Lib.hid (serial_rel HB.out hj10 Hq.out)
      have hqs : (q' : Int) < s.size + 10 := by omega
      go_wp2
      go_roundw
      case rel =>
        refine ⟨j + 1, m / 10, (q' : Int) - 1, by omega, by omega, by go_num, rfl, by omega, ?_, ?_, ?_, hb.setCell (Nat.le_refl _) _⟩
        · show m / 10 = n / 10 ^ (j + 1)
          rw [Hm.out, Nat.div_div_eq_div_mul, Nat.pow_succ]
        · show (q' : Int) - 1 = s.size + 9 - ((j + 1 : Nat) : Int)
          have := Hq.out
          omega
        · have := HR.out
          rw [← Hm.out] at this
          exact this
      case measure => simp [intOf]; omega
    · have hm0 : m ≤ 0 := by omega
      have HB2 : Bm wr g (rowOf L z) 5 := by rw [← hL.out, ← part_end j n hj (by have := Hm.out; omega)]; exact HB.out
      have hback := serial_back HB2 (cap := cap) (by rw [← hL.out, List.length_append, length_bs, length_digs]) Tryd.underlying111 Tryd.underlying5 Tryd.underlying9
      have hLs : (⟨L.toArray⟩ : ByteArray).size ≤ 9223372036854775807 := by
        show L.toArray.size ≤ _
        rw [← hL.out]
        simp [length_digs]
        omega
      have HLs := Lib.hid hLs
      clear HB Hm Hq HB2 hLs
      cases hnm : named L
      all_goals
        go_wp2_with (go_at_call 39; refine (named_any _ _ HLs.out).mono ?_; rw [bs_mk, hnm]; rintro e w1 ⟨rfl, rfl⟩)
        go_ret2
        exact ⟨by unfold serialR; rw [hnm]; rfl, by rw [Hg.out]; exact hb⟩
theorem serial_range (s : ByteArray) (n : Int) (w : World) (hn : n < 0 ∨ 2147483647 < n) :
    Calls Tryd.prog 74 #[.string s, .int .i64 n] w fun e w' => e = .returned (.tuple #[.string ⟨#[]⟩, .int .i64 3]) ∧ w = w' := by
  go_enter Tryd.func74, Tryd.ntmps74
  go_wp2
  all_goals
    go_ret2
    exact ⟨rfl, rfl⟩
end Go.Proofs.YteolglmifimnaaaDoor

/- Steps of a sequence: plain laws, and path.Serial. -/
namespace Go.Proofs.YteolglmifimnaaaDoor
open Go.ChangeShapes Go.WideShapes Go.ChangeAt Go.RowKit
theorem bytesLess_append (p x y : List UInt8) : Op.bytesLess (p ++ x) (p ++ y) = Op.bytesLess x y := by
  induction p with
  | nil => rfl
  | cons c p ih =>
    simp only [List.cons_append, Op.bytesLess, ih]
    have : ¬ c < c := UInt8.lt_irrefl c
    simp [this]
theorem bytesLess_snoc : ∀ (x y : List UInt8) (c d : UInt8), x.length = y.length → Op.bytesLess (x ++ [c]) (y ++ [d]) = (Op.bytesLess x y || (x == y && decide (c < d)))
  | [], [], c, d, _ => by simp [Op.bytesLess]
  | a :: x, b :: y, c, d, h => by
    have ih := bytesLess_snoc x y c d (by simpa using h)
    simp only [List.cons_append, Op.bytesLess, ih]
    by_cases hab : a = b
    · subst hab
      have : ¬ a < a := UInt8.lt_irrefl a
      simp [this]
    · have hab' : (a == b) = false := by simpa using hab
      simp [hab']
  | [], _ :: _, _, _, h => by simp at h
  | _ :: _, [], _, _, h => by simp at h
theorem digit_inj {a b : Nat} (ha : a < 10) (hb : b < 10) : (UInt8.ofNat (48 + a) = UInt8.ofNat (48 + b)) ↔ a = b := by
  rw [← UInt8.toNat_inj]
  simp
  omega
theorem digit_lt {a b : Nat} (ha : a < 10) (hb : b < 10) : (UInt8.ofNat (48 + a) < UInt8.ofNat (48 + b)) ↔ a < b := by
  rw [UInt8.lt_iff_toNat_lt]
  simp
  omega
theorem digs_inj : ∀ (k n m : Nat), n < 10 ^ k → m < 10 ^ k → (digs k n = digs k m ↔ n = m)
  | 0, n, m, hn, hm => by simp [digs]; simp at hn hm; omega
  | k + 1, n, m, hn, hm => by
    have ih := digs_inj k (n / 10) (m / 10) (by rw [Nat.pow_succ] at hn; omega) (by rw [Nat.pow_succ] at hm; omega)
    rw [digs, digs]
    constructor
    · intro h
      have h1 := List.append_inj h (by simp [length_digs])
      have h2 := ih.1 h1.1
      have h3 := (digit_inj (Nat.mod_lt _ (by omega)) (Nat.mod_lt _ (by omega))).1 (by simpa using h1.2)
      omega
    · rintro rfl; rfl
theorem digs_less : ∀ (k n m : Nat), n < 10 ^ k → m < 10 ^ k → Op.bytesLess (digs k n) (digs k m) = decide (n < m)
  | 0, n, m, hn, hm => by simp at hn hm; subst hn; subst hm; rfl
  | k + 1, n, m, hn, hm => by
    have h1 : n / 10 < 10 ^ k := by rw [Nat.pow_succ] at hn; omega
    have h2 : m / 10 < 10 ^ k := by rw [Nat.pow_succ] at hm; omega
    rw [digs, digs, bytesLess_snoc _ _ _ _ (by simp [length_digs]), digs_less k _ _ h1 h2]
    have h3 : (digs k (n / 10) == digs k (m / 10)) = decide (n / 10 = m / 10) := by
      rw [Bool.eq_iff_iff]; simp [digs_inj k _ _ h1 h2]
    rw [h3, Bool.eq_iff_iff]
    simp only [Bool.or_eq_true, Bool.and_eq_true, decide_eq_true_eq, digit_lt (Nat.mod_lt n (by omega : 0 < 10)) (Nat.mod_lt m (by omega : 0 < 10))]
    omega
theorem trSerial (s : ByteArray) (n : Int) (w : World) (hs : s.size ≤ 140737488351232) :
    Calls Tryd.prog 74 #[.string s, .int .i64 n] w fun e w' => e = .returned (.tuple #[.string (serR s n).1, .int .i64 (serR s n).2]) ∧ Below w.heap.size w w' := by
  unfold serR
  by_cases hr : n < 0 ∨ 2147483647 < n
  · rw [if_pos hr]
    exact (serial_range s n w hr).mono fun e w' ⟨he, hw⟩ => ⟨he, by rw [← hw]; exact Below.refl _ _⟩
  · rw [if_neg hr]
    obtain ⟨k, rfl⟩ : ∃ k : Nat, n = k := ⟨n.toNat, by omega⟩
    refine (serial_walk s k _ rfl w (by omega) hs).mono fun e w' ⟨he, hb⟩ => ⟨?_, hb⟩
    rw [he]
    unfold serialR
    rw [Int.toNat_natCast]
    cases named (bs s ++ digs 10 k) <;> rfl
end Go.Proofs.YteolglmifimnaaaDoor

/- package prep: plain laws of what is made ready. -/
namespace Go.Proofs.YteolglmifimnaaaDoor
open Go.RowKit
/-- the right version, or any: alike; another one: refused -/
theorem vers_law {t : Tr} {z : Int} {r : Request} (ho : r.op = 4 ∨ r.op = 5) (h : prepE t z { r with version := -1 } = 0) :
    hasN t.nodes r.path = true ∧ prepE t z { r with version := (getN t.nodes r.path).version } = 0 ∧ prepX t z { r with version := (getN t.nodes r.path).version } = prepX t z { r with version := -1 } ∧
    ∀ u : Int, u ≠ -1 → u ≠ (getN t.nodes r.path).version → prepE t z { r with version := u } = 9 := by
  obtain ⟨h1, h2, h3, h4⟩ := prepE_0 h
  have hv : ∀ u, (versR t { r with version := u }).2 = (madeR t z { r with version := u }).2 := by
    intro u
    unfold madeR
    rcases ho with ho | ho
    · simp only [ho]; rfl
    · simp only [ho]; rfl
  have h5 := (hv (-1)).trans h2
  have hg : goodP r.path = true ∧ isI t.sess r.session = true ∧ hasN t.nodes r.path = true := by
    unfold versR at h5
    simp only at h5
    cases g1 : goodP r.path with
    | false => rw [g1] at h5; simp at h5
    | true =>
      cases g2 : isI t.sess r.session with
      | false => rw [g1, g2] at h5; simp at h5
      | true =>
        cases g3 : hasN t.nodes r.path with
        | false => rw [g1, g2, g3] at h5; simp at h5
        | true => exact ⟨rfl, rfl, rfl⟩
  obtain ⟨g1, g2, g3⟩ := hg
  have hvu : ∀ u, versR t { r with version := u } = if u ≠ -1 ∧ u ≠ (getN t.nodes r.path).version then (0, 9) else ((getN t.nodes r.path).version, 0) := by
    intro u
    unfold versR
    simp only [g1, g2, g3, if_true]
  have he : versR t { r with version := (getN t.nodes r.path).version } = versR t { r with version := -1 } := by
    rw [hvu, hvu, if_neg (fun e => e.2 rfl), if_neg (fun e => e.1 rfl)]
  have hm : madeR t z { r with version := (getN t.nodes r.path).version } = madeR t z { r with version := -1 } := by
    unfold madeR
    simp only [he]
    rfl
  have hE : prepE t z { r with version := (getN t.nodes r.path).version } = prepE t z { r with version := -1 } := by
    unfold prepE
    rw [hm]
    rfl
  refine ⟨g3, hE.trans h, ?_, ?_⟩
  · unfold prepX
    rw [hE, hm]
  · intro u hu1 hu2
    have h6 : (madeR t z { r with version := u }).2 = 9 := by rw [← hv u, hvu, if_pos ⟨hu1, hu2⟩]
    unfold prepE
    rw [show asked t z { r with version := u } = true from h1, if_pos rfl, h6, if_pos (by decide)]
theorem joinT_bs {x : List UInt8} (d a b : ByteArray) (h : bs b = bs a ++ x) : bs (joinT d b) = bs (joinT d a) ++ x := by
  unfold joinT
  split
  · rw [bs_append, bs_append, h, List.append_assoc]
  · rw [bs_append, bs_append, bs_append, bs_append, h]
    simp only [List.append_assoc]
theorem split_ok {p : ByteArray} (h : (splitR p).2.2 = 0) : goodP p = true ∧ p ≠ slash := by
  have hg : goodP p = true := by
    cases hg : goodP p with
    | true => rfl
    | false =>
      unfold splitR at h
      rw [hg] at h
      simp at h
  exact ⟨hg, (split_not hg).1 h⟩
/-- the path of a node of a sequence -/
theorem seq_path {t : Tr} {p : ByteArray} (hp : (splitR p).2.2 = 0) (h : (seqR t p).2 = 0) :
    hasN t.nodes (splitR p).1 = true ∧ (0 ≤ (getN t.nodes (splitR p).1).cversion ∧ (getN t.nodes (splitR p).1).cversion ≤ 2147483647) ∧
    bs (seqR t p).1 = bs p ++ digs 10 (getN t.nodes (splitR p).1).cversion.toNat ∧ parent (seqR t p).1 = (splitR p).1 := by
  obtain ⟨hg, hs⟩ := split_ok hp
  have hj := (split_join hg hs).1
  unfold seqR at h ⊢
  cases h1 : hasN t.nodes (splitR p).1 with
  | false => rw [h1] at h; simp at h
  | true =>
    rw [h1, if_pos rfl] at h
    rw [if_pos rfl]
    generalize (getN t.nodes (splitR p).1).cversion = cv at *
    by_cases h2 : (serR (splitR p).2.1 cv).2 = 0
    · rw [if_neg (by omega)] at h ⊢
      obtain ⟨j1, j2, j3, j4⟩ := join_parts h
      obtain ⟨_, s1, _⟩ := join_all h
      rw [j4]
      simp only
      have h3 : ¬ (cv < 0 ∨ 2147483647 < cv) := by
        intro e
        unfold serR at h2
        rw [if_pos e] at h2
        simp at h2
      have h4 : (serR (splitR p).2.1 cv).1 = ⟨(bs (splitR p).2.1 ++ digs 10 cv.toNat).toArray⟩ := by
        unfold serR at h2 ⊢
        rw [if_neg h3] at h2 ⊢
        cases h5 : named (bs (splitR p).2.1 ++ digs 10 cv.toNat) with
        | false => rw [h5] at h2; simp at h2
        | true => rfl
      refine ⟨trivial, by omega, ?_, ?_⟩
      · rw [joinT_bs (splitR p).1 (splitR p).2.1 (serR (splitR p).2.1 cv).1 (x := digs 10 cv.toNat) (by rw [h4]; rfl)]
        have : joinT (splitR p).1 (splitR p).2.1 = p := by
          obtain ⟨_, _, _, k4⟩ := join_parts (d := (splitR p).1) (n := (splitR p).2.1) (by rw [hj])
          rw [hj] at k4
          exact (Prod.mk.inj k4).1.symm
        rw [this]
      · unfold parent
        rw [s1]
    · rw [if_pos h2] at h
      exact absurd h h2
theorem made_seq {t : Tr} {z : Int} {r : Request} (ho : r.op = 3) (hf : r.flags = 2 ∨ r.flags = 3) (h : prepE t z r = 0) : (splitR r.path).2.2 = 0 ∧ (seqR t r.path).2 = 0 ∧ (prepX t z r).path = (seqR t r.path).1 ∧ (prepX t z r).op = 3 ∧ (prepX t z r).zxid = z ∧ applyE t (prepX t z r) = 0 := by
  obtain ⟨h1, h2, h3, h4⟩ := prepE_0 h
  obtain ⟨m1, m2, m3, m4⟩ := made_zos h2
  have h5 : (creR t r).2 = 0 ∧ (madeR t z r).1.path = (creR t r).1 := by
    unfold madeR at h2 ⊢
    rw [if_neg (by omega), if_pos ho] at h2 ⊢
    exact ⟨h2, rfl⟩
  have h6 : (splitR r.path).2.2 = 0 ∧ creR t r = seqR t r.path := by
    have h7 := h5.1
    unfold creR at h7 ⊢
    rw [if_neg (by omega)] at h7 ⊢
    by_cases h8 : (splitR r.path).2.2 = 0
    · rw [if_neg (by omega)] at h7 ⊢
      cases h9 : isI t.sess r.session with
      | false => rw [h9] at h7; simp at h7
      | true =>
        rw [if_neg (by decide), show seqF r.flags = true from decide_eq_true hf, if_pos rfl]
        exact ⟨h8, rfl⟩
    · rw [if_pos h8] at h7
      simp at h7
  rw [h4]
  rw [h6.2] at h5
  exact ⟨h6.1, h5.1, h5.2, m2.trans ho, m1, h3⟩
theorem serial_law {t : Tr} {z : Int} {r : Request} (ho : r.op = 3) (hf : r.flags = 2 ∨ r.flags = 3) (h : prepE t z r = 0) :
    hasN t.nodes (prepX t z r).path = false ∧ (prepX t z r).path.size = r.path.size + 10 ∧ (prepX t z r).path.extract 0 r.path.size = r.path ∧ applyE t (prepX t z r) = 0 ∧
    ∀ z', prepE (applyT t (prepX t z r)) z' r = 0 → Op.bytesLess (bs (prepX t z r).path) (bs (prepX (applyT t (prepX t z r)) z' r).path) = true ∧ (prepX (applyT t (prepX t z r)) z' r).path.size = (prepX t z r).path.size := by
  obtain ⟨a1, a2, a3, a4, a5, a6⟩ := made_seq ho hf h
  obtain ⟨b1, b2, b3, b4⟩ := seq_path a1 a2
  generalize hX : prepX t z r = X at *
  rw [← a3] at b3 b4
  have hw := (applyE_0 a6).1
  obtain ⟨hg, hx, hz, w1, w2, w3, w4, w5⟩ := wrong_inv hw
  obtain ⟨x1, x2, x3, x4, x5, x6, x7, x8, x9, x10, x11, x12⟩ := goodT_inv hx
  obtain ⟨l1, l2, l3, l4, l5⟩ := lacks_inv (w3 a4)
  have hsz : X.path.size = r.path.size + 10 := by rw [size_bs, b3, List.length_append, length_digs, ← size_bs]
  refine ⟨l1, hsz, ?_, a6, fun z' h' => ?_⟩
  · apply bs_inj
    rw [bs_extract, b3, List.drop_zero, size_bs, List.take_left]
  · obtain ⟨_, c2, c3, _, _, _⟩ := made_seq ho hf h'
    obtain ⟨d1, d2, d3, _⟩ := seq_path a1 c2
    generalize prepX (applyT t X) z' r = Y at *
    rw [← c3] at d3
    obtain ⟨e1, e2⟩ := applyT_0 a6
    obtain ⟨k1, k2, k3⟩ := doN_3 (t := t) a4
    have hN : (applyT t X).nodes = makeN t.nodes X := by rw [e1]; exact k1
    obtain ⟨g, _⟩ := good_parts hg
    have G := (good_parts (apply_good a6).1).1
    obtain ⟨u, hu, hup⟩ := (has_iff g.sorted).1 b1
    have hm : bumpAt (parent X.path) 1 X.zxid u ∈ (applyT t X).nodes := by
      rw [hN]
      exact (mem_make g.sorted X l1 (x8 (by omega)) (x9 (by omega) (by omega)) _).2 (.inr ⟨u, hu, rfl⟩)
    have hget := (get_ofN G.sorted hm).2
    rw [bumpAt_path, hup] at hget
    have hget0 := (get_ofN g.sorted hu).2
    rw [hup] at hget0
    rw [hget0] at b2 b3
    rw [hget] at d2 d3
    have hcv : (bumpAt (parent X.path) 1 X.zxid u).cversion = u.cversion + 1 := by
      unfold bumpAt
      rw [if_pos (by rw [hup, b4])]
      rfl
    rw [hcv] at d2 d3
    refine ⟨?_, by rw [size_bs, size_bs X.path, d3, b3, List.length_append, List.length_append, length_digs, length_digs]⟩
    rw [b3, d3, bytesLess_append, digs_less 10 _ _ (by omega) (by omega)]
    exact decide_eq_true (by omega)
end Go.Proofs.YteolglmifimnaaaDoor

/- Trees: plain laws of the closing of a session, node by node. -/
namespace Go.Proofs.YteolglmifimnaaaDoor
open Go.RowKit
def closeP (l : List Node) (z : Int) (ps : List ByteArray) : List Node := ps.foldl (fun l p => goneN l p z) l
structure Cl (z : Int) (ss : List Int) (s : Int) (l : List Node) (ps : List ByteArray) : Prop where
  good : GoodW z l ss
  nd : ps.Nodup
  there : ∀ p ∈ ps, ∃ n ∈ l, n.path = p
  own : ∀ n ∈ l, n.owner = s ↔ n.path ∈ ps
theorem Cl.step {z : Int} {ss : List Int} {s : Int} (hs0 : s ≠ 0) {l : List Node} {p : ByteArray} {ps : List ByteArray} (h : Cl z ss s l (p :: ps)) : Cl z ss s (goneN l p z) ps ∧ ∀ C : Int, (∀ n ∈ l, n.cversion ≤ C) → ∀ n ∈ goneN l p z, n.cversion ≤ C + 1 := by
  obtain ⟨h, hnd, hp, ho⟩ := h
  obtain ⟨x, hx, hxp⟩ := hp p (by simp)
  have hxo := (ho x hx).2 (by rw [hxp]; simp)
  have hxk : x.kids = 0 := by
    rcases h.own x hx with h0 | h0
    · exact absurd (hxo.symm.trans h0) hs0
    · exact h0.2
  have hxs : x.path ≠ slash := fun e => hs0 (hxo.symm.trans (h.rootOf hx e))
  have hmem := mem_gone h.sorted hx z
  have hg := good_gone h hx hxs hxk
  rw [List.nodup_cons] at hnd
  rw [← hxp]
  refine ⟨⟨hg, hnd.2, ?_, ?_⟩, ?_⟩
  · intro q hq
    obtain ⟨n, hn, hnq⟩ := hp q (by simp [hq])
    refine ⟨_, (hmem _).2 ⟨n, hn, ?_, rfl⟩, by rw [bumpAt_path]; exact hnq⟩
    rw [hxp, hnq]
    exact fun e => hnd.1 (e ▸ hq)
  · intro n hn
    obtain ⟨m, hm, hmx, rfl⟩ := (hmem n).1 hn
    rw [bumpAt_own, bumpAt_path, ho m hm, List.mem_cons]
    constructor
    · rintro (e | e)
      · exact absurd (e.trans hxp.symm) hmx
      · exact e
    · exact .inr
  · intro C hC n hn
    obtain ⟨m, hm, hmx, rfl⟩ := (hmem n).1 hn
    have := hC m hm
    unfold bumpAt
    split
    · simp only [bump]
      omega
    · omega
theorem Cl.fold {z : Int} {ss : List Int} {s : Int} (hs0 : s ≠ 0) : ∀ (ps qs : List ByteArray) (l : List Node), Cl z ss s l (ps ++ qs) → Cl z ss s (closeP l z ps) qs ∧ ∀ C : Int, (∀ n ∈ l, n.cversion ≤ C) → ∀ n ∈ closeP l z ps, n.cversion ≤ C + ps.length
  | [], qs, l, h => ⟨h, fun C hC n hn => by have := hC n hn; simpa using this⟩
  | p :: ps, qs, l, h => by
    obtain ⟨h1, h2⟩ := h.step hs0
    obtain ⟨h3, h4⟩ := Cl.fold hs0 ps qs (goneN l p z) h1
    refine ⟨h3, fun C hC n hn => ?_⟩
    have := h4 (C + 1) (h2 C hC) n hn
    rw [List.length_cons]
    omega
theorem Cl.start {z : Int} {ss : List Int} {l : List Node} (h : GoodW z l ss) (s : Int) : Cl z ss s l (ownedL l s) :=
  ⟨h, owned_nodup h.sorted s, fun p hp => by
    obtain ⟨n, hn, _, e⟩ := mem_owned.1 hp
    exact ⟨n, hn, e⟩, fun n hn => by
    rw [mem_owned]
    constructor
    · intro e; exact ⟨n, hn, e, rfl⟩
    · rintro ⟨m, hm, e, hp⟩
      rw [← uniqN h.sorted hm hn hp]
      exact e⟩
theorem owned_take {l : List Node} {k : Nat} {x : Node} (hx : l[k]? = some x) (s : Int) : ownedL (l.take (k + 1)) s = ownedL (l.take k) s ++ (if x.owner = s then [x.path] else []) := by
  unfold ownedL
  rw [List.take_add_one, hx]
  simp only [Option.toList_some, List.filter_append, List.map_append]
  by_cases h : x.owner = s
  · rw [if_pos h, List.filter_cons_of_pos (by simpa using h)]; rfl
  · rw [if_neg h, List.filter_cons_of_neg (by simpa using h)]; rfl
theorem owned_split (l : List Node) (k : Nat) (s : Int) : ownedL l s = ownedL (l.take k) s ++ ownedL (l.drop k) s := by
  unfold ownedL
  rw [← List.map_append, ← List.filter_append, List.take_append_drop]
theorem owned_drop {l : List Node} {k : Nat} {x : Node} (hx : l[k]? = some x) {s : Int} (ho : x.owner = s) : ownedL (l.drop k) s = x.path :: ownedL (l.drop (k + 1)) s := by
  have h1 : l.drop k = x :: l.drop (k + 1) := by
    obtain ⟨hk, rfl⟩ := List.getElem?_eq_some_iff.1 hx
    exact (List.getElem_cons_drop hk).symm
  unfold ownedL
  rw [h1, List.filter_cons_of_pos (by simpa using ho), List.map_cons]
theorem owned_le (l : List Node) (s : Int) : (ownedL l s).length ≤ l.length := by
  unfold ownedL
  rw [List.length_map]
  exact List.length_filter_le _ _
/-- where the closing stands at the k-th node of the tree as it was -/
theorem close_at {z : Int} {ss : List Int} {l : List Node} (h : GoodW z l ss) {s : Int} (hs0 : s ≠ 0) (hc : ∀ n ∈ l, n.cversion ≤ 2147483647) {k : Nat} {x : Node} (hx : l[k]? = some x) (ho : x.owner = s) :
    GoodW z (closeP l z (ownedL (l.take k) s)) ss ∧ hasN (closeP l z (ownedL (l.take k) s)) x.path = true ∧ (∀ n ∈ closeP l z (ownedL (l.take k) s), -4000000000 ≤ n.kids ∧ n.kids ≤ 4000000000 ∧ -4000000000 ≤ n.cversion ∧ n.cversion ≤ 4000000000) := by
  have h0 := Cl.start h s
  rw [owned_split l k s, owned_drop hx ho] at h0
  obtain ⟨h1, h2⟩ := h0.fold hs0
  have h3 := h2 2147483647 hc
  have hlen : (ownedL (l.take k) s).length ≤ 400 := Nat.le_trans (owned_le _ _) (by have := h.len; rw [List.length_take]; omega)
  refine ⟨h1.good, (has_iff h1.good.sorted).2 (h1.there x.path (by simp)), fun n hn => ?_⟩
  have a := h1.good.kids n hn
  have b := h1.good.stat n hn
  have c := h3 n hn
  have d : (closeP l z (ownedL (l.take k) s)).countP (kidB n.path) ≤ 400 := Nat.le_trans List.countP_le_length h1.good.len
  omega
theorem closeP_all (l : List Node) (z s : Int) : closeP l z (ownedL l s) = closeN l s z := rfl
theorem closeP_snoc (l : List Node) (z : Int) (ps : List ByteArray) (p : ByteArray) : closeP l z (ps ++ [p]) = goneN (closeP l z ps) p z := by
  unfold closeP
  rw [List.foldl_append]
  rfl
end Go.Proofs.YteolglmifimnaaaDoor

/- The line of five sessions: plain laws of the trees that come of it. -/
namespace Go.Proofs.YteolglmifimnaaaDoor
open Go.RowKit
def lP : ByteArray := ⟨#[47, 108]⟩
def lN : ByteArray := ⟨#[108]⟩
def qN : ByteArray := ⟨#[113]⟩
def qB : ByteArray := ⟨#[47, 108, 47, 113]⟩
def qS (j : Nat) : ByteArray := ⟨(bs qN ++ digs 10 j).toArray⟩
def qP (j : Nat) : ByteArray := joinT lP (qS j)
theorem digs_digit : ∀ (k n : Nat), (digs k n).all digit = true
  | 0, _ => rfl
  | k + 1, n => by
    rw [digs, List.all_append, digs_digit k (n / 10), Bool.true_and]
    have h : n % 10 < 10 := Nat.mod_lt _ (by omega)
    simp only [List.all_cons, List.all_nil, Bool.and_true]
    unfold digit
    rw [decide_eq_true_iff]
    have : (UInt8.ofNat (48 + n % 10)).toNat = 48 + n % 10 := by simp; omega
    omega
theorem digit_okc {c : UInt8} (h : digit c = true) : okc c = true := by
  unfold digit at h
  unfold okc
  rw [decide_eq_true_iff] at h ⊢
  omega
theorem bs_qS (j : Nat) : bs (qS j) = bs qN ++ digs 10 j := rfl
theorem named_qS (j : Nat) : named (bs (qS j)) = true := by
  unfold named
  rw [bs_qS, Bool.and_eq_true, Bool.and_eq_true, List.all_append, Bool.and_eq_true, decide_eq_true_iff, decide_eq_true_iff, List.length_append, length_digs]
  refine ⟨⟨⟨by decide, List.all_eq_true.2 fun c hc => digit_okc (List.all_eq_true.1 (digs_digit 10 j) c hc)⟩, by simp⟩, by show 1 + 10 ≤ 40; omega⟩
theorem join_sl : joinR slash lN = (lP, 0) := by
  unfold joinR
  rw [good_slash]
  decide
theorem good_lP : goodP lP = true := by
  have h : (joinR slash lN).2 = 0 := by rw [join_sl]
  have h2 := (join_all h).1
  obtain ⟨_, _, _, h3⟩ := join_parts h
  rw [join_sl] at h3
  rw [← (Prod.mk.inj h3).1] at h2
  exact h2
theorem lP_ne : lP ≠ slash := by decide
theorem split_lP : splitR lP = (slash, lN, 0) := by
  have h : (joinR slash lN).2 = 0 := by rw [join_sl]
  have h2 := (join_all h).2.1
  obtain ⟨_, _, _, h3⟩ := join_parts h
  rw [join_sl] at h3
  rw [← (Prod.mk.inj h3).1] at h2
  exact h2
theorem size_lP (n : ByteArray) : (joinT lP n).size = n.size + 3 := by
  rw [size_bs, size_bs n]
  unfold joinT
  rw [if_neg lP_ne, bs_append, bs_append, List.length_append, List.length_append]
  show 2 + 1 + _ = _
  omega
theorem size_qS (j : Nat) : (qS j).size = 11 := by rw [size_bs, bs_qS, List.length_append, length_digs]; rfl
theorem join_q (j : Nat) : joinR lP (qS j) = (qP j, 0) := by
  unfold joinR qP
  rw [good_lP, named_qS, Bool.and_self, if_pos rfl, if_neg (by rw [size_lP, size_qS]; omega)]
theorem join_q2 : joinR lP qN = (qB, 0) := by
  unfold joinR
  rw [good_lP, Bool.true_and, show named (bs qN) = true from by decide, if_pos rfl, if_neg (by rw [size_lP]; decide)]
  rfl
theorem split_q (j : Nat) : goodP (qP j) = true ∧ splitR (qP j) = (lP, qS j, 0) := by
  have h : (joinR lP (qS j)).2 = 0 := by rw [join_q]
  have h2 := join_all h
  exact ⟨h2.1, h2.2.1⟩
theorem split_qB : goodP qB = true ∧ splitR qB = (lP, qN, 0) := by
  have h : (joinR lP qN).2 = 0 := by rw [join_q2]
  have h2 := join_all h
  obtain ⟨_, _, _, h3⟩ := join_parts h
  rw [join_q2] at h3
  rw [← (Prod.mk.inj h3).1] at h2
  exact ⟨h2.1, h2.2.1⟩
theorem qP_ne (j : Nat) : qP j ≠ slash := (split_not (split_q j).1).1 (by rw [(split_q j).2])
theorem qP_cmp {i j : Nat} (hi : i ≤ 2147483647) (hj : j ≤ 2147483647) (h : i < j) : cmpB (qP i) (qP j) < 0 := by
  unfold qP
  rw [join_cmp]
  show Lib.compareBytes (bs (qS i)) (bs (qS j)) < 0
  rw [bs_qS, bs_qS, compare_append]
  have := digs_less 10 i j (by omega) (by omega)
  rw [decide_eq_true h] at this
  rw [less_of_cb] at this
  exact of_decide_eq_true this
theorem qP_inj {i j : Nat} (hi : i ≤ 2147483647) (hj : j ≤ 2147483647) (h : qP i = qP j) : i = j := by
  rcases Nat.lt_trichotomy i j with h1 | h1 | h1
  · have := qP_cmp hi hj h1
    rw [h, cmpB_self] at this
    omega
  · exact h1
  · have := qP_cmp hj hi h1
    rw [h, cmpB_self] at this
    omega
theorem ser_q (j : Nat) : serB qN (qS j) = true := by
  unfold serB
  rw [Bool.and_eq_true, Bool.and_eq_true, decide_eq_true_iff]
  refine ⟨?_, by rw [size_qS]; rfl, ?_⟩
  · show Lib.hasPrefix (bs qN ++ digs 10 j) (bs qN) = true
    rfl
  · rw [bs_qS, show qN.size = (bs qN).length from rfl, List.drop_left]
    exact digs_digit 10 j
theorem qP_lP (j : Nat) : qP j ≠ lP := by
  intro e
  have h := (split_q j).2
  rw [e, split_lP] at h
  have := (Prod.mk.inj h).1
  exact lP_ne this.symm
end Go.Proofs.YteolglmifimnaaaDoor

/- The line of five sessions: what holds of its tree, and what a step does to it. -/
namespace Go.Proofs.YteolglmifimnaaaDoor
open Go.RowKit
def ownL (l : List Node) : List Node := l.filter (fun n => decide (n.owner ≠ 0))
def five : List Int := [1, 2, 3, 4, 5]
structure Qu (T : Tr) (z : Int) (k : Nat) : Prop where
  good : goodTree T = true
  zx : T.zxid = z
  zr : 0 ≤ z ∧ z ≤ 6 + 2 * k
  sess : T.sess = five
  root : ∀ n ∈ T.nodes, n.owner = 0 → n.path = slash ∨ n.path = lP
  up : ∃ u ∈ T.nodes, u.path = lP ∧ u.owner = 0
  q : ∀ n ∈ T.nodes, n.owner ≠ 0 → ∃ j : Nat, (j : Int) < (getN T.nodes lP).cversion ∧ n.path = qP j
  cap : ∀ n ∈ T.nodes, n.cversion + (ownL T.nodes).length ≤ 2 * k + 1
  len : T.nodes.length ≤ 2 + k
  cz : (ownL T.nodes).Pairwise (fun a b => a.czxid ≤ b.czxid)
  le : ∀ n ∈ ownL T.nodes, n.czxid ≤ z
theorem mem_ownL {l : List Node} {n : Node} : n ∈ ownL l ↔ n ∈ l ∧ n.owner ≠ 0 := by
  unfold ownL
  rw [List.mem_filter, decide_eq_true_iff]
section
variable {T : Tr} {z : Int} {k : Nat}
theorem Qu.gw (h : Qu T z k) : GoodW T.zxid T.nodes T.sess := (good_parts h.good).1
theorem Qu.has (h : Qu T z k) : hasN T.nodes lP = true := by
  obtain ⟨u, hu, hp, _⟩ := h.up
  exact (has_iff h.gw.sorted).2 ⟨u, hu, hp⟩
theorem Qu.cv (h : Qu T z k) : 0 ≤ (getN T.nodes lP).cversion ∧ (getN T.nodes lP).cversion + (ownL T.nodes).length ≤ 2 * k + 1 := by
  have hm := get_mem h.has
  exact ⟨(h.gw.stat _ hm.1).2.2.1, h.cap _ hm.1⟩
theorem isI_five {s : Int} (hs : 1 ≤ s ∧ s ≤ 5) : isI five s = true := by
  rcases (by omega : s = 1 ∨ s = 2 ∨ s = 3 ∨ s = 4 ∨ s = 5) with rfl | rfl | rfl | rfl | rfl <;> decide
theorem own_kid (h : Qu T z k) {n : Node} (hn : n ∈ T.nodes) : kidB lP n = decide (n.owner ≠ 0) := by
  have hg := (h.gw.path n hn).1
  by_cases ho : n.owner = 0
  · rw [decide_eq_false (fun e => e ho)]
    rcases h.root n hn ho with hp | hp
    · cases hk : kidB lP n with
      | false => rfl
      | true => exact absurd hp ((kidB_iff hg lP).1 hk).1
    · cases hk : kidB lP n with
      | false => rfl
      | true =>
        have := ((kidB_iff hg lP).1 hk).2
        unfold parent at this
        rw [hp, split_lP] at this
        exact absurd this.symm lP_ne
  · rw [decide_eq_true ho]
    obtain ⟨j, _, hp⟩ := h.q n hn ho
    rw [kidB_iff hg]
    unfold parent
    rw [hp, (split_q j).2]
    exact ⟨qP_ne j, rfl⟩
theorem Qu.line (h : Qu T z k) : lineE T lP qN = 0 ∧ lineL T lP qN = (ownL T.nodes).map (fun n => (splitR n.path).2.1) := by
  have h1 : lineE T lP qN = 0 := by
    unfold lineE
    rw [if_pos h.has, if_neg]
    rintro ⟨_, e⟩
    exact absurd e (by decide)
  refine ⟨h1, ?_⟩
  unfold lineL kidsL
  rw [if_pos h1, List.filter_congr (fun n hn => own_kid h hn)]
  refine List.filter_eq_self.2 (fun s hs => ?_)
  rw [List.mem_map] at hs
  obtain ⟨n, hn, rfl⟩ := hs
  rw [List.mem_filter, decide_eq_true_iff] at hn
  obtain ⟨j, _, hp⟩ := h.q n hn.1 hn.2
  rw [hp, (split_q j).2]
  exact ser_q j
theorem Qu.first (h : Qu T z k) {n : Node} (hn : n ∈ ownL T.nodes) : joinR lP (splitR n.path).2.1 = (n.path, 0) ∧ hasN T.nodes n.path = true ∧ getN T.nodes n.path = n := by
  rw [mem_ownL] at hn
  obtain ⟨j, _, hp⟩ := h.q n hn.1 hn.2
  refine ⟨?_, get_ofN h.gw.sorted hn.1⟩
  rw [hp, (split_q j).2]
  exact join_q j
end
def askQ (s : Int) : Request := ⟨3, s, qB, ⟨#[]⟩, -1, 3⟩
def closeQ (s : Int) : Request := ⟨2, s, ⟨#[]⟩, ⟨#[]⟩, 0, 0⟩
def opQ (s : Int) : Request := ⟨1, s, ⟨#[]⟩, ⟨#[]⟩, 0, 0⟩
theorem goodT_make {z s o : Int} {p : ByteArray} (hz : Zx z) (hs : 1 ≤ s ∧ s ≤ 2147483647) (ho : 0 ≤ o ∧ o ≤ 2147483647) (hp : goodP p = true) (hps : p ≠ slash) : goodT ⟨z, 3, s, p, ⟨#[]⟩, 0, o⟩ = 0 := by
  have hp2 : p.toList ≠ [47] := fun e => hps (eq_slash.1 e)
  unfold goodT
  simp only
  unfold Zx at hz
  rw [if_neg (by omega), if_neg (by omega), if_neg (by decide), if_neg (by omega), if_neg (by rw [hp]; exact fun e => e.2.elim (fun h => Bool.noConfusion h) (fun h => hp2 h.1)), if_neg]
  omega
theorem goodT_low2 {z s o : Int} (hz : Zx z) (hs : 1 ≤ s ∧ s ≤ 2147483647) (ho : o = 1 ∨ o = 2) : goodT ⟨z, o, s, ⟨#[]⟩, ⟨#[]⟩, 0, 0⟩ = 0 := by
  unfold goodT
  simp only
  unfold Zx at hz
  rw [if_neg (by omega), if_neg (by omega), if_neg (by decide), if_neg, if_neg (by omega), if_neg (by omega)]
  rw [ByteArray.toList_eq]
  rintro ⟨_, h | h | h | h⟩ <;> exact h rfl
theorem asked_of {T : Tr} {z : Int} {r : Request} (hg : goodTree T = true) (hz : Zx z) (hs : 1 ≤ r.session ∧ r.session ≤ 5) : asked T z r = true := by
  unfold asked
  unfold Zx at hz
  rw [hg, decide_eq_true (by omega)]
  rfl
theorem prep_of {T : Tr} {z : Int} {r : Request} {x : Txn} (ha : asked T z r = true) (hm : madeR T z r = (x, 0)) (hx : applyE T x = 0) : prepE T z r = 0 ∧ prepX T z r = x := by
  have h : prepE T z r = 0 := by unfold prepE; rw [ha, if_pos rfl, hm, if_neg (fun e => e rfl)]; exact hx
  exact ⟨h, by unfold prepX; rw [if_pos h, hm]⟩
theorem cmp_asym {a b : ByteArray} (h1 : cmpB a b < 0) (h2 : cmpB b a < 0) : False := by
  have h3 : cmpB a a < 0 := cb_trans _ _ _ h1 h2
  rw [cmpB_self] at h3
  omega
/-- a session stands in line -/
theorem Qu.ask {T : Tr} {z : Int} {k : Nat} (h : Qu T z k) (hk : k < 60) {s : Int} (hs : 1 ≤ s ∧ s ≤ 5) :
    prepE T (z + 1) (askQ s) = 0 ∧ Qu (applyT T (prepX T (z + 1) (askQ s))) (z + 1) (k + 1) ∧ ∃ x : Node, x.owner = s ∧ x.czxid = z + 1 ∧ ownL (applyT T (prepX T (z + 1) (askQ s))).nodes = ownL T.nodes ++ [x] := by
  have g := h.gw
  obtain ⟨hc0, hc1⟩ := h.cv
  obtain ⟨u, hu, hup, huo⟩ := h.up
  have hgu : getN T.nodes lP = u := by rw [← hup]; exact (get_ofN g.sorted hu).2
  have hz : Zx (z + 1) := by have := h.zr; unfold Zx; omega
  obtain ⟨j, hj⟩ : ∃ j : Nat, (getN T.nodes lP).cversion = j := ⟨(getN T.nodes lP).cversion.toNat, by omega⟩
  have hser : serR qN (j : Int) = (qS j, 0) := by
    unfold serR
    rw [if_neg (by omega), Int.toNat_natCast, show named (bs qN ++ digs 10 j) = true from named_qS j, if_pos rfl]
    rfl
  have hcre : creR T (askQ s) = (qP j, 0) := by
    unfold creR askQ
    simp only
    rw [split_qB.2, if_neg (by decide), if_neg (by decide), h.sess, isI_five hs, if_neg (by decide), show seqF 3 = true from by decide, if_pos rfl]
    unfold seqR
    rw [split_qB.2]
    simp only
    rw [h.has, if_pos rfl, hj, hser]
    simp only
    rw [if_neg (fun e => e rfl), join_q]
  obtain ⟨x, hx⟩ : ∃ x : Txn, x = ⟨z + 1, 3, s, qP j, ⟨#[]⟩, 0, s⟩ := ⟨_, rfl⟩
  have hm : madeR T (z + 1) (askQ s) = (x, 0) := by
    rw [made_3 T (z + 1) (r := askQ s) rfl, hcre, hx]
    simp only [askQ, show ephF 3 = true from by decide, if_true]
  obtain ⟨hgp, hsp⟩ := split_q j
  have hpar : parent x.path = lP := by rw [hx]; unfold parent; rw [hsp]
  have hgt : goodT x = 0 := by rw [hx]; exact goodT_make hz (by omega) (by omega) hgp (qP_ne j)
  have hno : hasN T.nodes x.path = false := by
    rw [has_no g.sorted]
    intro n hn e
    rw [hx] at e
    by_cases ho : n.owner = 0
    · rcases h.root n hn ho with hp | hp
      · exact qP_ne j (e.symm.trans hp)
      · exact qP_lP j (e.symm.trans hp)
    · obtain ⟨i, hi, hp⟩ := h.q n hn ho
      rw [hj] at hi
      have := qP_inj (by omega) (by omega) (hp.symm.trans e)
      omega
  have hxo : x.owner = s := by rw [hx]
  have hxs : x.session = s := by rw [hx]
  have hxz : x.zxid = z + 1 := by rw [hx]
  have hop : x.op = 3 := by rw [hx]
  have hxp : x.path = qP j := by rw [hx]
  have hw : wrongE T x = 0 := by
    unfold wrongE lacksE
    rw [if_neg (by rw [h.good]; decide), hgt, if_neg (by decide), if_neg (by rw [hxz, h.zx]; omega), if_neg (by omega), hxs, h.sess, isI_five hs, if_neg (by decide), if_pos hop, hno, hpar, h.has, hgu, huo, hxo]
    have := h.len
    simp
    omega
  have hmem := mem_make g.sorted x hno (by rw [hxp]; exact hgp) (by rw [hxp]; exact qP_ne j)
  have hfull : fullB (doN T x) = false := by
    rw [(doN_3 (t := T) hop).1, full_no]
    intro n hn
    rcases (hmem n).1 hn with rfl | ⟨m, hm2, rfl⟩
    · exact (by decide : (0 : Int) ≤ 2147483647)
    · have := h.cap m hm2
      unfold bumpAt
      split
      · simp only [bump]
        omega
      · omega
  have ha : applyE T x = 0 := by unfold applyE; rw [if_pos hw, hfull]; rfl
  obtain ⟨e1, e2⟩ := prep_of (asked_of h.good hz (r := askQ s) hs) hm ha
  refine ⟨e1, ?_⟩
  rw [e2]
  obtain ⟨a1, _⟩ := applyT_0 ha
  have hgood := (apply_good ha).1
  have hN : (applyT T x).nodes = makeN T.nodes x := by rw [a1]; exact (doN_3 (t := T) hop).1
  have hSS : (applyT T x).sess = T.sess := by rw [a1]; exact (doN_3 (t := T) hop).2.1
  have hZ : (applyT T x).zxid = z + 1 := by rw [a1]; exact hxz
  obtain ⟨a, b, hab, hmk, hsort⟩ := makeN_is g.sorted x hno
  -- what is owned
  have hown : ownL (makeN T.nodes x) = ownL T.nodes ++ [nodeOf x] := by
    have hb : ownL b = [] := by
      unfold ownL
      rw [List.filter_eq_nil_iff]
      intro n hn e
      rw [decide_eq_true_iff] at e
      obtain ⟨i, hi, hp⟩ := h.q n (by rw [hab]; simp [hn]) e
      rw [hj] at hi
      unfold SortedN at hsort
      rw [List.pairwise_append, List.pairwise_cons] at hsort
      have h1 : cmpB (nodeOf x).path n.path < 0 := hsort.2.1.1 n hn
      rw [hp] at h1
      have h2 : (nodeOf x).path = qP j := hxp
      rw [h2] at h1
      exact cmp_asym h1 (qP_cmp (by omega) (by omega) (by omega))
    have hmap : ∀ L : List Node, (∀ n ∈ L, n.owner ≠ 0 → n.path ≠ lP) → ownL (L.map (bumpAt lP 1 x.zxid)) = ownL L := by
      intro L hL
      unfold ownL
      rw [List.filter_map, show ((fun n : Node => decide (n.owner ≠ 0)) ∘ bumpAt lP 1 x.zxid) = (fun n : Node => decide (n.owner ≠ 0)) from by funext n; simp [Function.comp, bumpAt_own]]
      refine map_same (fun n hn => ?_)
      rw [List.mem_filter, decide_eq_true_iff] at hn
      unfold bumpAt
      rw [if_neg (hL n hn.1 hn.2)]
    rw [hmk, hpar, hmap]
    · have h1 : ownL (a ++ nodeOf x :: b) = ownL a ++ nodeOf x :: ownL b := by
        unfold ownL
        rw [List.filter_append, List.filter_cons_of_pos]
        rw [decide_eq_true_iff]
        show x.owner ≠ 0
        omega
      have h2 : ownL T.nodes = ownL a ++ ownL b := by rw [hab]; unfold ownL; rw [List.filter_append]
      rw [h1, h2, hb, List.append_nil]
    · intro n hn ho e
      rw [List.mem_append, List.mem_cons] at hn
      have hn2 : n = nodeOf x ∨ n ∈ T.nodes := by
        rw [hab, List.mem_append]
        rcases hn with h | h | h
        · exact .inr (.inl h)
        · exact .inl h
        · exact .inr (.inr h)
      rcases hn2 with rfl | hn2
      · exact qP_lP j (hxp.symm.trans e)
      · obtain ⟨i, _, hp⟩ := h.q n hn2 ho
        exact qP_lP i (hp.symm.trans e)
  have hgl : getN (applyT T x).nodes lP = bumpAt lP 1 x.zxid u := by
    have hub : bumpAt lP 1 x.zxid u ∈ (applyT T x).nodes := by rw [hN, hmem, hpar]; exact .inr ⟨u, hu, rfl⟩
    have := (get_ofN (good_parts hgood).1.sorted hub).2
    rw [bumpAt_path, hup] at this
    exact this
  have hcvn : (getN (applyT T x).nodes lP).cversion = (j : Int) + 1 := by
    rw [hgl]
    unfold bumpAt
    rw [if_pos hup]
    show u.cversion + 1 = _
    rw [← hj, hgu]
  rw [hgu] at hj
  refine ⟨⟨hgood, hZ, by have := h.zr; omega, hSS.trans h.sess, ?_, ?_, ?_, ?_, ?_, ?_, ?_⟩, nodeOf x, hxo, hxz, by rw [hN]; exact hown⟩
  · intro n hn ho
    rw [hN, hmem] at hn
    rcases hn with rfl | ⟨m, hm2, rfl⟩
    · exact absurd (hxo.symm.trans ho) (by omega)
    · rw [bumpAt_own] at ho
      rw [bumpAt_path]
      exact h.root m hm2 ho
  · exact ⟨_, by rw [hN, hmem]; exact .inr ⟨u, hu, rfl⟩, by rw [bumpAt_path]; exact hup, by rw [bumpAt_own]; exact huo⟩
  · intro n hn ho
    rw [hcvn]
    rw [hN, hmem] at hn
    rcases hn with rfl | ⟨m, hm2, rfl⟩
    · exact ⟨j, by omega, hxp⟩
    · rw [bumpAt_own] at ho
      rw [bumpAt_path]
      obtain ⟨i, hi, hp⟩ := h.q m hm2 ho
      rw [hgu] at hi
      exact ⟨i, by omega, hp⟩
  · intro n hn
    rw [hN, hown, List.length_append]
    rw [hN, hmem] at hn
    have hl1 : ((ownL T.nodes).length : Int) ≤ 2 * k + 1 := by omega
    rcases hn with rfl | ⟨m, hm2, rfl⟩
    · show (0 : Int) + _ ≤ _
      simp
      omega
    · have := h.cap m hm2
      unfold bumpAt
      split
      · simp [bump]
        omega
      · simp
        omega
  · rw [hN, hmk, List.length_map, List.length_append, List.length_cons]
    have := h.len
    rw [hab, List.length_append] at this
    omega
  · rw [hN, hown, List.pairwise_append]
    refine ⟨h.cz, List.pairwise_singleton _ _, fun n hn m hm2 => ?_⟩
    rw [List.mem_singleton.1 hm2]
    have := h.le n hn
    show n.czxid ≤ x.zxid
    omega
  · intro n hn
    rw [hN, hown, List.mem_append, List.mem_singleton] at hn
    rcases hn with hn | rfl
    · have := h.le n hn
      omega
    · show x.zxid ≤ _
      omega
end Go.Proofs.YteolglmifimnaaaDoor

/- The line of five sessions: a session is closed and opened again; the beginning. -/
namespace Go.Proofs.YteolglmifimnaaaDoor
open Go.RowKit
def outB (ps : List ByteArray) (n : Node) : Bool := ps.all (fun p => decide (n.path ≠ p))
theorem outB_iff {ps : List ByteArray} {n : Node} : outB ps n = true ↔ n.path ∉ ps := by
  unfold outB
  rw [List.all_eq_true]
  constructor
  · intro h hm
    exact (of_decide_eq_true (h _ hm)) rfl
  · intro h p hp
    exact decide_eq_true (fun e => h (e ▸ hp))
/-- what is owned behind a closing; what is not closed stays, and no node's count falls -/
theorem close_own {z : Int} {ss : List Int} {s : Int} (hs0 : s ≠ 0) : ∀ (ps : List ByteArray) (l : List Node), Cl z ss s l ps →
    ownL (closeP l z ps) = (ownL l).filter (outB ps) ∧ ∀ m ∈ l, m.path ∉ ps → ∃ n ∈ closeP l z ps, n.path = m.path ∧ n.owner = m.owner ∧ m.cversion ≤ n.cversion
  | [], l, _ => ⟨(filter_same (fun _ _ => rfl)).symm, fun m hm _ => ⟨m, hm, rfl, rfl, Int.le_refl _⟩⟩
  | p :: ps, l, h => by
    obtain ⟨h1, _⟩ := h.step hs0
    obtain ⟨i1, i2⟩ := close_own hs0 ps (goneN l p z) h1
    obtain ⟨x, hx, hxp⟩ := h.there p (by simp)
    have g := h.good
    have hxo := (h.own x hx).2 (by rw [hxp]; simp)
    have hxs : x.path ≠ slash := fun e => hs0 (hxo.symm.trans (g.rootOf hx e))
    have hgo : ownL (goneN l p z) = (ownL l).filter (fun n => decide (n.path ≠ p)) := by
      rw [← hxp, goneN_is g.sorted hx]
      unfold ownL
      rw [List.filter_map, show ((fun n : Node => decide (n.owner ≠ 0)) ∘ bumpAt (parent x.path) (-1) z) = (fun n : Node => decide (n.owner ≠ 0)) from by funext n; simp [Function.comp, bumpAt_own], List.filter_filter, List.filter_filter]
      rw [map_same]
      · congr 1
        funext n
        rw [Bool.and_comm]
      · intro n hn
        rw [List.mem_filter, Bool.and_eq_true, decide_eq_true_iff, decide_eq_true_iff] at hn
        unfold bumpAt
        rw [if_neg]
        exact fun e => hn.2.1 (g.parent_free hx hxs hn.1 e)
    refine ⟨?_, fun m hm hmp => ?_⟩
    · show ownL (closeP (goneN l p z) z ps) = _
      rw [i1, hgo, List.filter_filter]
      congr 1
      funext n
      rw [Bool.eq_iff_iff]
      rw [Bool.and_eq_true, decide_eq_true_iff, outB_iff, outB_iff, List.mem_cons, not_or]
      exact ⟨fun e => ⟨e.2, e.1⟩, fun e => ⟨e.2, e.1⟩⟩
    · rw [List.mem_cons, not_or] at hmp
      have hmem := mem_gone g.sorted hx z
      rw [hxp] at hmem
      obtain ⟨n, hn, a, b, c⟩ := i2 (bumpAt (parent x.path) (-1) z m) (by rw [hmem, ← hxp]; exact ⟨m, hm, by rw [hxp]; exact hmp.1, rfl⟩) (by rw [bumpAt_path]; exact hmp.2)
      rw [bumpAt_path] at a
      rw [bumpAt_own] at b
      refine ⟨n, hn, a, b, ?_⟩
      refine Int.le_trans ?_ c
      unfold bumpAt
      split
      · simp only [bump]
        omega
      · exact Int.le_refl _
theorem five_out {s : Int} (hs : 1 ≤ s ∧ s ≤ 5) : isI (delS five s) s = false ∧ insS (delS five s) s = five := by
  rcases (by omega : s = 1 ∨ s = 2 ∨ s = 3 ∨ s = 4 ∨ s = 5) with rfl | rfl | rfl | rfl | rfl <;> decide
/-- a session is closed, and opened again -/
theorem Qu.again {T : Tr} {z : Int} {k : Nat} (h : Qu T z k) (hk : k < 60) {s : Int} (hs : 1 ≤ s ∧ s ≤ 5) :
    prepE T (z + 1) (closeQ s) = 0 ∧ goodTree (applyT T (prepX T (z + 1) (closeQ s))) = true ∧ (applyT T (prepX T (z + 1) (closeQ s))).sess.length ≤ 5 ∧
    prepE (applyT T (prepX T (z + 1) (closeQ s))) (z + 2) (opQ s) = 0 ∧
    Qu (applyT (applyT T (prepX T (z + 1) (closeQ s))) (prepX (applyT T (prepX T (z + 1) (closeQ s))) (z + 2) (opQ s))) (z + 2) (k + 1) ∧
    ownL (applyT (applyT T (prepX T (z + 1) (closeQ s))) (prepX (applyT T (prepX T (z + 1) (closeQ s))) (z + 2) (opQ s))).nodes = (ownL T.nodes).filter (fun n => decide (n.owner ≠ s)) := by
  have g := h.gw
  have hzr := h.zr
  have hz1 : Zx (z + 1) := by unfold Zx; omega
  have hz2 : Zx (z + 2) := by unfold Zx; omega
  have hs0 : s ≠ 0 := by omega
  have g' : GoodW (z + 1) T.nodes T.sess := g.later (by rw [h.zx]; omega) hz1.2
  have hcl := Cl.start g' s
  obtain ⟨hco, hck⟩ := close_own hs0 (ownedL T.nodes s) T.nodes hcl
  rw [closeP_all] at hco hck
  have hcap0 : ∀ n ∈ T.nodes, n.cversion ≤ 2 * k + 1 - (ownL T.nodes).length := fun n hn => by have := h.cap n hn; omega
  have hfold := Cl.fold hs0 (ownedL T.nodes s) [] T.nodes (by rw [List.append_nil]; exact hcl)
  have hcv := hfold.2 _ hcap0
  rw [closeP_all] at hcv
  obtain ⟨c1, c2, c3, c4⟩ := good_close g' (s := s) hs0
  -- the owned ones of others
  have hfil : (ownL T.nodes).filter (outB (ownedL T.nodes s)) = (ownL T.nodes).filter (fun n => decide (n.owner ≠ s)) := by
    apply List.filter_congr
    intro n hn
    have hn2 := (mem_ownL.1 hn).1
    have := hcl.own n hn2
    rw [Bool.eq_iff_iff, outB_iff, decide_eq_true_iff, ← this]
  rw [hfil] at hco
  have hcount : ((ownL T.nodes).filter (fun n => decide (n.owner ≠ s))).length + (ownedL T.nodes s).length = (ownL T.nodes).length := by
    have h1 := List.length_eq_countP_add_countP (fun n : Node => decide (n.owner ≠ s)) (l := ownL T.nodes)
    have h2 : (ownedL T.nodes s).length = (ownL T.nodes).countP (fun a => decide ¬ (decide (a.owner ≠ s)) = true) := by
      unfold ownedL ownL
      rw [List.length_map, ← List.countP_eq_length_filter, List.countP_filter]
      apply List.countP_congr
      intro n _
      simp only [decide_eq_true_eq, Bool.and_eq_true, Classical.not_not]
      constructor
      · intro e; exact ⟨e, by rw [e]; exact hs0⟩
      · intro e; exact e.1
    rw [List.countP_eq_length_filter] at h1
    omega
  -- the closing
  obtain ⟨x, hx⟩ : ∃ x : Txn, x = ⟨z + 1, 2, s, ⟨#[]⟩, ⟨#[]⟩, 0, 0⟩ := ⟨_, rfl⟩
  have hm : madeR T (z + 1) (closeQ s) = (x, 0) := by rw [made_12 T (z + 1) (r := closeQ s) (.inr rfl), hx]; rfl
  have hgt : goodT x = 0 := by rw [hx]; exact goodT_low2 hz1 (by omega) (.inr rfl)
  have hop : x.op = 2 := by rw [hx]
  have hxs : x.session = s := by rw [hx]
  have hxz : x.zxid = z + 1 := by rw [hx]
  have hw : wrongE T x = 0 := by
    unfold wrongE
    rw [if_neg (by rw [h.good]; decide), hgt, if_neg (by decide), if_neg (by rw [hxz, h.zx]; omega), if_neg (by omega), hxs, h.sess, isI_five hs, if_neg (by decide), if_neg (by omega), if_neg (by omega), if_neg (by omega)]
  have hdN : doN T x = closeN T.nodes s (z + 1) := by rw [(doN_2 (t := T) hop).1, hxs, hxz]
  have hfull : fullB (doN T x) = false := by
    rw [hdN, full_no]
    intro n hn
    have := hcv n hn
    omega
  have ha : applyE T x = 0 := by unfold applyE; rw [if_pos hw, hfull]; rfl
  obtain ⟨e1, e2⟩ := prep_of (asked_of h.good hz1 (r := closeQ s) hs) hm ha
  rw [e2]
  obtain ⟨a1, _⟩ := applyT_0 ha
  have hgood := (apply_good ha).1
  have hN : (applyT T x).nodes = closeN T.nodes s (z + 1) := by rw [a1]; exact hdN
  have hSS : (applyT T x).sess = delS five s := by rw [a1]; show doS T x = _; rw [(doN_2 (t := T) hop).2.1, hxs, h.sess]
  have hZ : (applyT T x).zxid = z + 1 := by rw [a1]; exact hxz
  generalize applyT T x = U at *
  obtain ⟨f1, f2⟩ := five_out hs
  -- the opening
  obtain ⟨y, hy⟩ : ∃ y : Txn, y = ⟨z + 2, 1, s, ⟨#[]⟩, ⟨#[]⟩, 0, 0⟩ := ⟨_, rfl⟩
  have hm2 : madeR U (z + 2) (opQ s) = (y, 0) := by rw [made_12 U (z + 2) (r := opQ s) (.inl rfl), hy]; rfl
  have hgt2 : goodT y = 0 := by rw [hy]; exact goodT_low2 hz2 (by omega) (.inl rfl)
  have hop2 : y.op = 1 := by rw [hy]
  have hys : y.session = s := by rw [hy]
  have hyz : y.zxid = z + 2 := by rw [hy]
  have hw2 : wrongE U y = 0 := by
    unfold wrongE
    rw [if_neg (by rw [hgood]; decide), hgt2, if_neg (by decide), if_neg (by rw [hyz, hZ]; omega), if_pos hop2, hys, hSS, f1]
    rfl
  have hdN2 : doN U y = U.nodes := (doN_1 (t := U) hop2).1
  have ha2 : applyE U y = 0 := by unfold applyE; rw [if_pos hw2, hdN2, (good_parts hgood).2]; rfl
  obtain ⟨e3, e4⟩ := prep_of (asked_of hgood hz2 (r := opQ s) hs) hm2 ha2
  rw [e4]
  obtain ⟨b1, _⟩ := applyT_0 ha2
  have hgood2 := (apply_good ha2).1
  have hN2 : (applyT U y).nodes = closeN T.nodes s (z + 1) := by rw [b1]; show doN U y = _; rw [hdN2, hN]
  have hSS2 : (applyT U y).sess = five := by rw [b1]; show doS U y = _; rw [(doN_1 (t := U) hop2).2.1, hys, hSS, f2]
  have hZ2 : (applyT U y).zxid = z + 2 := by rw [b1]; exact hyz
  generalize applyT U y = V at *
  have hown : ownL V.nodes = (ownL T.nodes).filter (fun n => decide (n.owner ≠ s)) := by rw [hN2]; exact hco
  obtain ⟨u, hu, hup, huo⟩ := h.up
  have hgu : getN T.nodes lP = u := by rw [← hup]; exact (get_ofN g.sorted hu).2
  have huno : u.path ∉ ownedL T.nodes s := by rw [← hcl.own u hu, huo]; omega
  obtain ⟨u2, hu2, hup2, huo2, huc2⟩ := hck u hu huno
  have hgu2 : getN V.nodes lP = u2 := by
    rw [← hup, ← hup2]
    exact (get_ofN (good_parts hgood2).1.sorted (by rw [hN2]; exact hu2)).2
  refine ⟨e1, hgood, ?_, e3, ⟨hgood2, hZ2, by omega, hSS2, ?_, ?_, ?_, ?_, ?_, ?_, ?_⟩, hown⟩
  · rw [hSS]
    have := (delS_spec (l := five) (by decide) ((isI_iff (by decide)).1 (isI_five hs))).2.2
    have : five.length = 5 := rfl
    omega
  · intro n hn ho
    rw [hN2] at hn
    obtain ⟨_, m, hm3, hp, ho2⟩ := c2 n hn
    rw [← hp]
    exact h.root m hm3 (ho2.trans ho)
  · exact ⟨u2, by rw [hN2]; exact hu2, hup2.trans hup, huo2.trans huo⟩
  · intro n hn ho
    rw [hN2] at hn
    obtain ⟨_, m, hm3, hp, ho2⟩ := c2 n hn
    obtain ⟨i, hi, hpi⟩ := h.q m hm3 (by rw [ho2]; exact ho)
    rw [hgu] at hi
    rw [hgu2]
    exact ⟨i, by omega, by rw [← hp]; exact hpi⟩
  · intro n hn
    rw [hown]
    rw [hN2] at hn
    have := hcv n hn
    omega
  · rw [hN2]
    have := h.len
    omega
  · rw [hown]
    exact h.cz.filter _
  · intro n hn
    rw [hown, List.mem_filter] at hn
    have := h.le n hn.1
    omega
/-! the beginning -/
def opT (n : Nat) : Tr := ⟨n, [rootN], five.take n⟩
theorem root_good {z : Int} {ss : List Int} (hz : Zx z) (h1 : ss.Pairwise (· < ·)) (h2 : ∀ s ∈ ss, 1 ≤ s ∧ s ≤ 2147483647) : goodTree ⟨z, [rootN], ss⟩ = true := by
  obtain ⟨g, f⟩ := good_parts new_good
  have g2 : GoodW z [rootN] [] := g.later hz.1 hz.2
  refine (good_iff _ _ _).2 ⟨g2.with_sess h1 h2 (fun n hn => .inl ?_), f⟩
  rw [List.mem_singleton.1 hn]
theorem opT_step {n : Nat} (hn : n < 5) : prepE (opT n) (n + 1) (opQ (n + 1)) = 0 ∧ applyT (opT n) (prepX (opT n) (n + 1) (opQ (n + 1))) = opT (n + 1) := by
  have hgd : goodTree (opT n) = true := by
    refine root_good (by unfold Zx; omega) ?_ ?_
    · exact List.Pairwise.sublist (List.take_sublist _ _) (by decide)
    · intro s hs
      have := List.mem_of_mem_take hs
      unfold five at this
      simp at this
      omega
  obtain ⟨x, hx⟩ : ∃ x : Txn, x = ⟨n + 1, 1, n + 1, ⟨#[]⟩, ⟨#[]⟩, 0, 0⟩ := ⟨_, rfl⟩
  have hm : madeR (opT n) (n + 1) (opQ (n + 1)) = (x, 0) := by rw [made_12 _ _ (r := opQ (n + 1)) (.inl rfl), hx]; rfl
  have hz : Zx ((n : Int) + 1) := by unfold Zx; omega
  have hgt : goodT x = 0 := by rw [hx]; exact goodT_low2 hz (by omega) (.inl rfl)
  have hop : x.op = 1 := by rw [hx]
  have hd : isI (five.take n) (n + 1) = false ∧ insS (five.take n) (n + 1) = five.take (n + 1) := by
    rcases (by omega : n = 0 ∨ n = 1 ∨ n = 2 ∨ n = 3 ∨ n = 4) with rfl | rfl | rfl | rfl | rfl <;> decide
  have hw : wrongE (opT n) x = 0 := by
    unfold wrongE
    rw [if_neg (by rw [hgd]; decide), hgt, if_neg (by decide), if_neg (by rw [hx]; show ¬ ((n : Int) + 1 ≤ n); omega), if_pos hop]
    rw [show isI (opT n).sess x.session = false from by rw [hx]; exact hd.1]
    rfl
  have ha : applyE (opT n) x = 0 := by unfold applyE; rw [if_pos hw, (doN_1 (t := opT n) hop).1, (good_parts hgd).2]; rfl
  obtain ⟨e1, e2⟩ := prep_of (asked_of hgd hz (r := opQ (n + 1)) (show 1 ≤ ((n : Int) + 1) ∧ ((n : Int) + 1) ≤ 5 by omega)) hm ha
  refine ⟨e1, ?_⟩
  rw [e2, (applyT_0 ha).1, (doN_1 (t := opT n) hop).1, (doN_1 (t := opT n) hop).2.1]
  show (⟨x.zxid, [rootN], insS (five.take n) x.session⟩ : Tr) = ⟨((n + 1 : Nat) : Int), [rootN], five.take (n + 1)⟩
  rw [hx]
  simp only
  rw [hd.2]
  rfl
def makeL : Request := ⟨3, 1, lP, ⟨#[]⟩, 0, 0⟩
theorem start_q : prepE (opT 5) 6 makeL = 0 ∧ Qu (applyT (opT 5) (prepX (opT 5) 6 makeL)) 6 0 ∧ ownL (applyT (opT 5) (prepX (opT 5) 6 makeL)).nodes = [] := by
  have hgd : goodTree (opT 5) = true := root_good (by unfold Zx; decide) (by decide) (by intro s hs; simp [five] at hs; omega)
  have hso : SortedN [rootN] := (good_parts hgd).1.sorted
  have hcre : creR (opT 5) makeL = (lP, 0) := by
    unfold creR makeL
    simp only
    rw [split_lP, if_neg (by decide), if_neg (by decide), show isI (opT 5).sess 1 = true from by decide, if_neg (by decide), show seqF 0 = false from by decide]
    rfl
  obtain ⟨x, hx⟩ : ∃ x : Txn, x = ⟨6, 3, 1, lP, ⟨#[]⟩, 0, 0⟩ := ⟨_, rfl⟩
  have hm : madeR (opT 5) 6 makeL = (x, 0) := by rw [made_3 _ _ (r := makeL) rfl, hcre, hx]; rfl
  have hz : Zx 6 := by unfold Zx; decide
  have hgt : goodT x = 0 := by rw [hx]; exact goodT_make hz (by decide) (by decide) good_lP lP_ne
  have hop : x.op = 3 := by rw [hx]
  have hxp : x.path = lP := by rw [hx]
  have hpar : parent x.path = slash := by rw [hxp]; unfold parent; rw [split_lP]
  have hrt : hasN [rootN] slash = true := (has_iff hso).2 ⟨rootN, by simp, rfl⟩
  have hgr : getN [rootN] slash = rootN := (get_ofN hso (x := rootN) (by simp)).2
  have hno : hasN [rootN] x.path = false := by
    rw [has_no hso]
    intro n hn e
    rw [List.mem_singleton.1 hn, hxp] at e
    exact lP_ne e.symm
  have hw : wrongE (opT 5) x = 0 := by
    unfold wrongE lacksE
    rw [if_neg (by rw [hgd]; decide), hgt, if_neg (by decide), if_neg (by rw [hx]; decide), if_neg (by omega), show isI (opT 5).sess x.session = true from by rw [hx]; decide, if_neg (by decide), if_pos hop]
    show (if hasN [rootN] x.path = true then 8 else if hasN [rootN] (parent x.path) = true then _ else 7) = (0 : Int)
    rw [hno, hpar, hrt, if_neg (by decide), if_pos rfl]
    show (if (getN [rootN] slash).owner ≠ 0 then 11 else _) = (0 : Int)
    rw [hgr, if_neg (by decide), hx]
    rfl
  have hmem := mem_make hso x hno (by rw [hxp]; exact good_lP) (by rw [hxp]; exact lP_ne)
  have hmem2 : ∀ n ∈ makeN [rootN] x, n = nodeOf x ∨ n = bumpAt (parent x.path) 1 x.zxid rootN := by
    intro n hn
    rcases (hmem n).1 hn with h | ⟨m, hm2, h⟩
    · exact .inl h
    · rw [List.mem_singleton.1 hm2] at h
      exact .inr h
  have hro : ∀ n ∈ makeN [rootN] x, n.owner = 0 ∧ n.cversion ≤ 1 ∧ (n.path = slash ∨ n.path = lP) := by
    intro n hn
    rcases hmem2 n hn with rfl | rfl
    · exact ⟨by rw [hx]; rfl, by show (0 : Int) ≤ 1; decide, .inr hxp⟩
    · rw [bumpAt_own, bumpAt_path]
      refine ⟨rfl, ?_, .inl rfl⟩
      unfold bumpAt
      split
      · exact (by decide : (0 : Int) + 1 ≤ 1)
      · exact (by decide : (0 : Int) ≤ 1)
  have hdN : doN (opT 5) x = makeN [rootN] x := (doN_3 (t := opT 5) hop).1
  have hfull : fullB (doN (opT 5) x) = false := by
    rw [hdN, full_no]
    intro n hn
    have := (hro n hn).2.1
    omega
  have ha : applyE (opT 5) x = 0 := by unfold applyE; rw [if_pos hw, hfull]; rfl
  obtain ⟨e1, e2⟩ := prep_of (asked_of hgd hz (r := makeL) (by decide)) hm ha
  rw [e2]
  obtain ⟨a1, _⟩ := applyT_0 ha
  have hgood := (apply_good ha).1
  have hN : (applyT (opT 5) x).nodes = makeN [rootN] x := by rw [a1]; exact hdN
  have hSS : (applyT (opT 5) x).sess = five := by rw [a1]; show doS (opT 5) x = _; rw [(doN_3 (t := opT 5) hop).2.1]; rfl
  have hZ : (applyT (opT 5) x).zxid = 6 := by rw [a1, hx]
  have hown : ownL (makeN [rootN] x) = [] := by
    unfold ownL
    rw [List.filter_eq_nil_iff]
    intro n hn e
    rw [decide_eq_true_iff] at e
    exact e (hro n hn).1
  refine ⟨e1, ⟨hgood, hZ, by decide, hSS, ?_, ?_, ?_, ?_, ?_, ?_, ?_⟩, by rw [hN]; exact hown⟩
  · intro n hn _
    rw [hN] at hn
    exact (hro n hn).2.2
  · exact ⟨nodeOf x, by rw [hN, hmem]; exact .inl rfl, hxp, by rw [hx]; rfl⟩
  · intro n hn ho
    rw [hN] at hn
    exact absurd (hro n hn).1 ho
  · intro n hn
    rw [hN, hown]
    rw [hN] at hn
    have := (hro n hn).2.1
    simp
    omega
  · rw [hN]
    obtain ⟨a, b, hab, hmk, _⟩ := makeN_is hso x hno
    have hl : ([rootN] : List Node).length = a.length + b.length := by
      have := congrArg List.length hab
      rw [List.length_append] at this
      exact this
    rw [hmk, List.length_map, List.length_append, List.length_cons]
    simp at hl
    omega
  · rw [hN, hown]
    exact .nil
  · intro n hn
    rw [hN, hown] at hn
    cases hn
end Go.Proofs.YteolglmifimnaaaDoor
