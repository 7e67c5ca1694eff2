/- Lemmas for the statement: TreeW, TreeX, MakeP, Small, RecP, StrAt, RecS, OrdE, TreeNew, T3N, TreeA. -/
import Derived.Lib.ConvBytes
import Derived.OrdersHeld
import Derived.Deep.RegionHeld
import Derived.Deep.RegionHeld3
import Derived.Deep.CutBlock
import Derived.Test.YteolglmifimnaaaDoorPt1
import Derived.Test.YteolglmifimnaaaDoorPt2
import Derived.Test.YteolglmifimnaaaDoorPt3
/- Trees: plain laws of a good tree, and of what is done to one. -/
namespace Go.Proofs.YteolglmifimnaaaDoor
open Go.RowKit
theorem split_slash : splitR slash = (⟨#[]⟩, ⟨#[]⟩, 7) := by unfold splitR; rw [if_pos good_slash, if_pos rfl]
theorem split_not {p : ByteArray} (h : goodP p = true) : (splitR p).2.2 = 0 ↔ p ≠ slash := by
  constructor
  · intro h0 e
    rw [e, split_slash] at h0
    cases h0
  · intro hs
    exact (split_join h hs).2.2.2
theorem kidB_iff {n : Node} (hg : goodP n.path = true) (q : ByteArray) : kidB q n = true ↔ n.path ≠ slash ∧ parent n.path = q := by
  unfold kidB
  rw [Bool.and_eq_true, decide_eq_true_iff, decide_eq_true_iff, split_not hg]
theorem parent_lt {p : ByteArray} (hg : goodP p = true) (hs : p ≠ slash) : (bs (parent p)).length < (bs p).length := by
  obtain ⟨h1, h2, h3, _⟩ := split_join hg hs
  obtain ⟨_, hn1, _⟩ := named_no h3
  unfold joinR at h1
  rw [h2, h3, Bool.and_self, if_pos rfl] at h1
  by_cases h4 : 200 < (joinT (splitR p).1 (splitR p).2.1).size
  · rw [if_pos h4] at h1
    injection h1 with _ h1
    cases h1
  · rw [if_neg h4] at h1
    injection h1 with h1 _
    have h5 : (bs (joinT (splitR p).1 (splitR p).2.1)).length = (bs p).length := congrArg (fun x => (bs x).length) h1
    unfold joinT at h5
    show (bs (splitR p).1).length < _
    split at h5
    · rename_i e
      rw [bs_append, List.length_append] at h5
      rw [e]
      omega
    · rw [bs_append, bs_append, List.length_append, List.length_append] at h5
      omega
theorem parent_ne {p : ByteArray} (hg : goodP p = true) (hs : p ≠ slash) : parent p ≠ p := by
  intro e
  have := parent_lt hg hs
  rw [e] at this
  omega
structure GoodW (z : Int) (l : List Node) (ss : List Int) : Prop where
  len : l.length ≤ 400
  zx : 0 ≤ z ∧ z < 4611686018427387904
  root : ∃ n r, l = n :: r ∧ n.path = slash ∧ n.owner = 0
  sorted : SortedN l
  sess : ss.Pairwise (· < ·)
  sessB : ∀ s ∈ ss, 1 ≤ s ∧ s ≤ 2147483647
  path : ∀ n ∈ l, goodP n.path = true ∧ n.data.size ≤ 256
  stat : ∀ n ∈ l, 0 ≤ n.version ∧ n.version ≤ 2147483647 ∧ 0 ≤ n.cversion ∧ 0 ≤ n.czxid ∧ n.czxid ≤ n.mzxid ∧ n.czxid ≤ n.pzxid ∧ n.mzxid ≤ z ∧ n.pzxid ≤ z
  own : ∀ n ∈ l, n.owner = 0 ∨ (n.owner ∈ ss ∧ n.kids = 0)
  up : ∀ n ∈ l, n.path = slash ∨ ∃ m ∈ l, m.path = parent n.path
  kids : ∀ n ∈ l, n.kids = ((l.countP (kidB n.path) : Nat) : Int)
theorem okN_at {z : Int} {l : List Node} {ss : List Int} {k : Nat} {x : Node} (h : l[k]? = some x) : okN ⟨z, l, ss⟩ k = (goodP x.path && (decide (x.data.size ≤ 256) && (lessB l k x && (statB z x && (ownB ss x && upB l x))))) := by
  unfold okN
  simp only [h]
theorem lessB_s {l : List Node} {j : Nat} {y : Node} (h : l[j]? = some y) (x : Node) : lessB l (j + 1) x = decide (cmpB y.path x.path < 0) := by
  unfold lessB
  simp only [h]
theorem okS_0 {l : List Int} {s : Int} (h : l[0]? = some s) : okS l 0 = (decide (1 ≤ s) && (decide (s ≤ 2147483647) && true)) := by unfold okS; rw [h]
theorem okS_s {l : List Int} {j : Nat} {s y : Int} (h : l[j + 1]? = some s) (hy : l[j]? = some y) : okS l (j + 1) = (decide (1 ≤ s) && (decide (s ≤ 2147483647) && decide (y < s))) := by
  unfold okS
  rw [h]
  simp only [hy]
theorem okS_b {l : List Int} {i : Nat} {s : Int} (h : l[i]? = some s) (hk : okS l i = true) : 1 ≤ s ∧ s ≤ 2147483647 := by
  unfold okS at hk
  rw [h] at hk
  simp only [Bool.and_eq_true, decide_eq_true_eq] at hk
  exact ⟨hk.1, hk.2.1⟩
theorem head_inv {z : Int} {l : List Node} {ss : List Int} (h : headB ⟨z, l, ss⟩ = true) : l.length ≤ 400 ∧ Zx z ∧ ∃ n, l[0]? = some n ∧ n.path = slash ∧ n.owner = 0 := by
  cases l with
  | nil => simp [headB] at h
  | cons n r =>
    unfold headB at h
    simp only [Bool.and_eq_true, decide_eq_true_eq] at h
    exact ⟨h.1, h.2.1, n, rfl, h.2.2⟩
theorem upB_iff {l : List Node} (hs : SortedN l) {n : Node} (hg : goodP n.path = true) : upB l n = true ↔ (n.path = slash ∨ ∃ m ∈ l, m.path = parent n.path) := by
  unfold upB
  rw [Bool.or_eq_true, decide_eq_true_iff, has_iff hs, Ne, split_not hg, Classical.not_not]
theorem ownB_iff {ss : List Int} (hs : ss.Pairwise (· < ·)) (n : Node) : ownB ss n = true ↔ (n.owner = 0 ∨ (n.owner ∈ ss ∧ n.kids = 0)) := by
  unfold ownB
  rw [Bool.or_eq_true, Bool.and_eq_true, decide_eq_true_iff, decide_eq_true_iff, isI_iff hs]
theorem full_no {l : List Node} : fullB l = false ↔ ∀ n ∈ l, n.cversion ≤ 2147483647 := by
  unfold fullB
  rw [List.any_eq_false]
  constructor
  · intro h n hn
    have := h n hn
    rw [decide_eq_true_iff] at this
    omega
  · intro h n hn
    rw [decide_eq_true_iff]
    have := h n hn
    omega
theorem good_iff (z : Int) (l : List Node) (ss : List Int) : goodTree ⟨z, l, ss⟩ = true ↔ GoodW z l ss ∧ fullB l = false := by
  unfold goodTree
  simp only [Bool.and_eq_true, List.all_eq_true, List.mem_range, decide_eq_true_eq]
  constructor
  · rintro ⟨hh, hS, hN, hK⟩
    obtain ⟨hl, hz, n0, hn0, hp0, ho0⟩ := head_inv hh
    have hN' : ∀ i n, l[i]? = some n → goodP n.path = true ∧ n.data.size ≤ 256 ∧ lessB l i n = true ∧ statB z n = true ∧ ownB ss n = true ∧ upB l n = true := by
      intro i n hi
      have := hN i (List.getElem?_eq_some_iff.1 hi).1
      rw [okN_at hi] at this
      simp only [Bool.and_eq_true, decide_eq_true_eq] at this
      exact this
    have hsess : ss.Pairwise (· < ·) := pw_of_adj (R := fun (a b : Int) => a < b) (fun _ _ _ => Int.lt_trans) ss (fun i x y hx hy => by
      have := hS (i + 1) (List.getElem?_eq_some_iff.1 hy).1
      rw [okS_s hy hx] at this
      simp only [Bool.and_eq_true, decide_eq_true_eq] at this
      exact this.2.2)
    have hsort : SortedN l := pw_of_adj (R := ltN) (fun _ _ _ => ltN_trans) l (fun i x y hx hy => by
      have := (hN' (i + 1) y hy).2.2.1
      rw [lessB_s hx] at this
      exact (of_decide_eq_true this : cmpB x.path y.path < 0))
    have hst : ∀ n ∈ l, 0 ≤ n.version ∧ n.version ≤ 2147483647 ∧ 0 ≤ n.cversion ∧ n.cversion ≤ 2147483647 ∧ 0 ≤ n.czxid ∧ n.czxid ≤ n.mzxid ∧ n.czxid ≤ n.pzxid ∧ n.mzxid ≤ z ∧ n.pzxid ≤ z := by
      intro n hn
      obtain ⟨i, hi⟩ := List.mem_iff_getElem?.1 hn
      exact of_decide_eq_true (hN' i n hi).2.2.2.1
    refine ⟨⟨hl, hz, ?_, hsort, hsess, ?_, ?_, ?_, ?_, ?_, ?_⟩, full_no.2 (fun n hn => (hst n hn).2.2.2.1)⟩
    · cases l with
      | nil => cases hn0
      | cons n r =>
        injection hn0 with hn0
        subst hn0
        exact ⟨n, r, rfl, hp0, ho0⟩
    · intro s hs
      obtain ⟨i, hi⟩ := List.mem_iff_getElem?.1 hs
      exact okS_b hi (hS i (List.getElem?_eq_some_iff.1 hi).1)
    · intro n hn
      obtain ⟨i, hi⟩ := List.mem_iff_getElem?.1 hn
      exact ⟨(hN' i n hi).1, (hN' i n hi).2.1⟩
    · intro n hn
      obtain ⟨a, b, c, d, e⟩ := hst n hn
      exact ⟨a, b, c, e⟩
    · intro n hn
      obtain ⟨i, hi⟩ := List.mem_iff_getElem?.1 hn
      exact (ownB_iff hsess n).1 (hN' i n hi).2.2.2.2.1
    · intro n hn
      obtain ⟨i, hi⟩ := List.mem_iff_getElem?.1 hn
      exact (upB_iff hsort (hN' i n hi).1).1 (hN' i n hi).2.2.2.2.2
    · exact hK
  · rintro ⟨h, hf⟩
    refine ⟨?_, ?_, ?_, h.kids⟩
    · obtain ⟨n, r, rfl, hp, ho⟩ := h.root
      unfold headB
      simp only [Bool.and_eq_true, decide_eq_true_eq]
      exact ⟨h.len, h.zx, hp, ho⟩
    · intro i hi
      have hx := List.getElem?_eq_getElem hi
      have hb := h.sessB _ (List.mem_of_getElem? hx)
      cases i with
      | zero =>
        rw [okS_0 hx, decide_eq_true hb.1, decide_eq_true hb.2]
        rfl
      | succ j =>
        have hy := List.getElem?_eq_getElem (l := ss) (i := j) (by omega)
        rw [okS_s hx hy, decide_eq_true hb.1, decide_eq_true hb.2, decide_eq_true (adj_of_pw h.sess (Nat.lt_succ_self j) hy hx)]
        rfl
    · intro i hi
      have hx := List.getElem?_eq_getElem hi
      generalize l[i] = n at hx
      have hm := List.mem_of_getElem? hx
      rw [okN_at hx]
      simp only [Bool.and_eq_true, decide_eq_true_eq]
      refine ⟨(h.path n hm).1, (h.path n hm).2, ?_, ?_, (ownB_iff h.sess n).2 (h.own n hm), (upB_iff h.sorted (h.path n hm).1).2 (h.up n hm)⟩
      · cases i with
        | zero => rfl
        | succ j =>
          have hy := List.getElem?_eq_getElem (l := l) (i := j) (by omega)
          rw [lessB_s hy]
          exact decide_eq_true (adj_of_pw h.sorted (Nat.lt_succ_self j) hy hx)
      · obtain ⟨a, b, c, e⟩ := h.stat n hm
        exact decide_eq_true ⟨a, b, c, full_no.1 hf n hm, e⟩
theorem good_parts {t : Tr} (h : goodTree t = true) : GoodW t.zxid t.nodes t.sess ∧ fullB t.nodes = false := (good_iff t.zxid t.nodes t.sess).1 h
section
variable {z z' : Int} {l : List Node} {ss : List Int}
theorem GoodW.rootOf (h : GoodW z l ss) {n : Node} (hn : n ∈ l) (hp : n.path = slash) : n.owner = 0 := by
  obtain ⟨m, r, e, hmp, hmo⟩ := h.root
  have hm : m ∈ l := by rw [e]; simp
  rw [uniqN h.sorted hn hm (hp.trans hmp.symm)]
  exact hmo
theorem GoodW.has_root (h : GoodW z l ss) : ∃ m ∈ l, m.path = slash := by
  obtain ⟨m, r, e, hmp, _⟩ := h.root
  exact ⟨m, by rw [e]; simp, hmp⟩
/-- a node that has no children is nobody's parent -/
theorem GoodW.no_kid (h : GoodW z l ss) {x m : Node} (hx : x ∈ l) (hk : x.kids = 0) (hm : m ∈ l) (hms : m.path ≠ slash) : parent m.path ≠ x.path := by
  intro e
  have h1 := h.kids x hx
  rw [hk] at h1
  have h2 : 0 < l.countP (kidB x.path) := List.countP_pos_iff.2 ⟨m, hm, (kidB_iff (h.path m hm).1 _).2 ⟨hms, e⟩⟩
  omega
/-- a parent is nobody's own -/
theorem GoodW.parent_free (h : GoodW z l ss) {x m : Node} (hm : m ∈ l) (hms : m.path ≠ slash) (hx : x ∈ l) (e : x.path = parent m.path) : x.owner = 0 := by
  rcases h.own x hx with h0 | ⟨_, hk⟩
  · exact h0
  · exact absurd e.symm (h.no_kid hx hk hm hms)
theorem GoodW.later (h : GoodW z l ss) (hz : z ≤ z') (hz2 : z' < 4611686018427387904) : GoodW z' l ss :=
  ⟨h.len, ⟨by have := h.zx; omega, hz2⟩, h.root, h.sorted, h.sess, h.sessB, h.path, fun n hn => by have := h.stat n hn; omega, h.own, h.up, h.kids⟩
theorem GoodW.with_sess (h : GoodW z l ss) {ts : List Int} (h1 : ts.Pairwise (· < ·)) (h2 : ∀ s ∈ ts, 1 ≤ s ∧ s ≤ 2147483647) (h3 : ∀ n ∈ l, n.owner = 0 ∨ n.owner ∈ ts) : GoodW z l ts :=
  ⟨h.len, h.zx, h.root, h.sorted, h1, h2, h.path, h.stat, fun n hn => by
    rcases h3 n hn with h0 | h0
    · exact .inl h0
    · rcases h.own n hn with h4 | ⟨_, h4⟩
      · exact .inl h4
      · exact .inr ⟨h0, h4⟩, h.up, h.kids⟩
theorem filter_cut (hs : SortedN l) {x : Node} (hx : x ∈ l) : ∃ a b, l = a ++ x :: b ∧ l.filter (fun n => decide (n.path ≠ x.path)) = a ++ b := by
  obtain ⟨k, hk⟩ := List.mem_iff_getElem?.1 hx
  refine ⟨l.take k, l.drop (k + 1), cut_get hk, ?_⟩
  have h1 := delN_filter hs (at_ofN hs hk).2
  rw [← h1]
  unfold delN
  rw [(at_ofN hs hk).1]
theorem goneN_is (hs : SortedN l) {x : Node} (hx : x ∈ l) (zz : Int) : goneN l x.path zz = (l.filter (fun n => decide (n.path ≠ x.path))).map (bumpAt (parent x.path) (-1) zz) := by
  have hd := delN_filter hs (get_ofN hs hx).1
  unfold goneN
  rw [kidN_map (by rw [hd]; exact sorted_filter hs _), hd]
theorem mem_gone (hs : SortedN l) {x : Node} (hx : x ∈ l) (zz : Int) (n : Node) : n ∈ goneN l x.path zz ↔ ∃ m ∈ l, m.path ≠ x.path ∧ n = bumpAt (parent x.path) (-1) zz m := by
  rw [goneN_is hs hx, List.mem_map]
  constructor
  · rintro ⟨m, hm, rfl⟩
    rw [List.mem_filter] at hm
    exact ⟨m, hm.1, by simpa using hm.2, rfl⟩
  · rintro ⟨m, hm, hne, rfl⟩
    exact ⟨m, List.mem_filter.2 ⟨hm, by simpa using hne⟩, rfl⟩
theorem gone_length (hs : SortedN l) {x : Node} (hx : x ∈ l) (zz : Int) : (goneN l x.path zz).length + 1 = l.length := by
  obtain ⟨a, b, e, hf⟩ := filter_cut hs hx
  rw [goneN_is hs hx, List.length_map, hf]
  rw [e]
  simp
  omega
theorem bumpAt_own (d : ByteArray) (more zz : Int) (n : Node) : (bumpAt d more zz n).owner = n.owner := by unfold bumpAt; split <;> rfl
theorem bumpAt_data (d : ByteArray) (more zz : Int) (n : Node) : (bumpAt d more zz n).data = n.data := by unfold bumpAt; split <;> rfl
theorem bumpAt_version (d : ByteArray) (more zz : Int) (n : Node) : (bumpAt d more zz n).version = n.version := by unfold bumpAt; split <;> rfl
theorem good_gone (h : GoodW z l ss) {x : Node} (hx : x ∈ l) (hne : x.path ≠ slash) (hk : x.kids = 0) : GoodW z (goneN l x.path z) ss := by
  obtain ⟨a, b, e, hf⟩ := filter_cut h.sorted hx
  have hmem := mem_gone h.sorted hx z
  have hxk := fun q => kidB_iff (h.path x hx).1 q
  refine ⟨?_, h.zx, ?_, ?_, h.sess, h.sessB, ?_, ?_, ?_, ?_, ?_⟩
  · have := gone_length h.sorted hx z
    have := h.len
    omega
  · obtain ⟨n, r, e2, hp, ho⟩ := h.root
    rw [goneN_is h.sorted hx, e2, List.filter_cons_of_pos (by rw [hp]; simpa using fun e => hne e.symm), List.map_cons]
    exact ⟨_, _, rfl, by rw [bumpAt_path]; exact hp, by rw [bumpAt_own]; exact ho⟩
  · rw [goneN_is h.sorted hx]
    exact sorted_map (sorted_filter h.sorted _) (bumpAt_path _ _ _)
  · intro n hn
    obtain ⟨m, hm, _, rfl⟩ := (hmem n).1 hn
    rw [bumpAt_path, bumpAt_data]
    exact h.path m hm
  · intro n hn
    obtain ⟨m, hm, _, rfl⟩ := (hmem n).1 hn
    have := h.stat m hm
    unfold bumpAt
    split
    · simp only [bump]
      omega
    · exact this
  · intro n hn
    obtain ⟨m, hm, _, rfl⟩ := (hmem n).1 hn
    unfold bumpAt
    split
    · rename_i hd
      exact .inl (show m.owner = 0 from h.parent_free hx hne hm hd)
    · exact h.own m hm
  · intro n hn
    obtain ⟨m, hm, hmx, rfl⟩ := (hmem n).1 hn
    rw [bumpAt_path]
    rcases h.up m hm with h0 | ⟨q, hq, hqp⟩
    · exact .inl h0
    · by_cases hms : m.path = slash
      · exact .inl hms
      refine .inr ⟨bumpAt (parent x.path) (-1) z q, (hmem _).2 ⟨q, hq, ?_, rfl⟩, by rw [bumpAt_path]; exact hqp⟩
      rw [hqp]
      exact h.no_kid hx hk hm hms
  · intro n hn
    obtain ⟨m, hm, hmx, rfl⟩ := (hmem n).1 hn
    rw [goneN_is h.sorted hx, countP_map' (bumpAt_path _ _ _), bumpAt_path, hf]
    have h1 := h.kids m hm
    rw [e, List.countP_append, List.countP_cons] at h1
    rw [List.countP_append]
    unfold bumpAt
    by_cases hd : m.path = parent x.path
    · rw [if_pos hd]
      rw [if_pos ((hxk _).2 ⟨hne, hd.symm⟩)] at h1
      simp only [bump]
      omega
    · rw [if_neg hd]
      rw [if_neg (by rw [hxk]; exact fun e => hd e.2.symm)] at h1
      omega
theorem makeN_is (hs : SortedN l) (x : Txn) (hno : hasN l x.path = false) : ∃ a b, l = a ++ b ∧ makeN l x = (a ++ nodeOf x :: b).map (bumpAt (parent x.path) 1 x.zxid) ∧ SortedN (a ++ nodeOf x :: b) := by
  obtain ⟨a, b, e, h1, h2⟩ := insN_parts hs (x := nodeOf x) hno
  refine ⟨a, b, e, ?_, h2⟩
  unfold makeN
  rw [h1, kidN_map h2]
theorem bump_new (x : Txn) (hg : goodP x.path = true) (hne : x.path ≠ slash) (more zz : Int) : bumpAt (parent x.path) more zz (nodeOf x) = nodeOf x := by
  unfold bumpAt
  rw [if_neg]
  exact fun e => parent_ne hg hne e.symm
theorem mem_make (hs : SortedN l) (x : Txn) (hno : hasN l x.path = false) (hg : goodP x.path = true) (hne : x.path ≠ slash) (n : Node) : n ∈ makeN l x ↔ n = nodeOf x ∨ ∃ m ∈ l, n = bumpAt (parent x.path) 1 x.zxid m := by
  obtain ⟨a, b, e, h1, _⟩ := makeN_is hs x hno
  rw [h1, e]
  simp only [List.map_append, List.map_cons, bump_new x hg hne, List.mem_append, List.mem_cons, List.mem_map]
  constructor
  · rintro (⟨m, hm, rfl⟩ | rfl | ⟨m, hm, rfl⟩)
    · exact .inr ⟨m, .inl hm, rfl⟩
    · exact .inl rfl
    · exact .inr ⟨m, .inr hm, rfl⟩
  · rintro (rfl | ⟨m, hm | hm, rfl⟩)
    · exact .inr (.inl rfl)
    · exact .inl ⟨m, hm, rfl⟩
    · exact .inr (.inr ⟨m, hm, rfl⟩)
theorem good_make (h : GoodW z l ss) (x : Txn) (hxz : x.zxid = z) (hno : hasN l x.path = false) (hg : goodP x.path = true) (hne : x.path ≠ slash) (hd : x.data.size ≤ 256) (hlen : l.length < 400)
    (hown : x.owner = 0 ∨ x.owner ∈ ss) {u : Node} (hu : u ∈ l) (hup : u.path = parent x.path) (huo : u.owner = 0) : GoodW z (makeN l x) ss := by
  obtain ⟨a, b, e, hm1, hsort⟩ := makeN_is h.sorted x hno
  have hmem := mem_make h.sorted x hno hg hne
  have hnop := (has_no h.sorted).1 hno
  have hz := h.zx
  subst hxz
  refine ⟨?_, h.zx, ?_, ?_, h.sess, h.sessB, ?_, ?_, ?_, ?_, ?_⟩
  · rw [hm1, List.length_map, List.length_append, List.length_cons]
    rw [e, List.length_append] at hlen
    omega
  · obtain ⟨n, r, e2, hp, ho⟩ := h.root
    have hsl : ∀ m : Node, ltN m (nodeOf x) ∨ ltN (nodeOf x) m → True := fun _ _ => trivial
    cases a with
    | nil =>
      exfalso
      rw [List.nil_append] at e
      rw [e2] at e
      subst e
      rw [List.nil_append] at hsort
      unfold SortedN at hsort
      rw [List.pairwise_cons] at hsort
      have h1 : ltN (nodeOf x) n := hsort.1 n (by simp)
      unfold ltN at h1
      rw [hp] at h1
      have h2 := (goodP_pre hg hne).1
      obtain ⟨q, hq⟩ := bs_pre h2
      have h3 : cmpB (nodeOf x).path slash = Lib.compareBytes (47 :: q) [47] := by
        show Lib.compareBytes (bs x.path) (bs slash) = _
        rw [hq, slash_bs]
      rw [h3] at h1
      have h4 : q ≠ [] := fun e => hne (bs_inj (by rw [hq, e, slash_bs]))
      cases q with
      | nil => exact h4 rfl
      | cons c q => simp [Lib.compareBytes] at h1
    | cons a0 a =>
      rw [e2, List.cons_append] at e
      injection e with e3 e4
      subst e3
      rw [hm1, List.cons_append, List.map_cons]
      exact ⟨_, _, rfl, by rw [bumpAt_path]; exact hp, by rw [bumpAt_own]; exact ho⟩
  · rw [hm1]
    exact sorted_map hsort (bumpAt_path _ _ _)
  · intro n hn
    rcases (hmem n).1 hn with rfl | ⟨m, hm, rfl⟩
    · exact ⟨hg, hd⟩
    · rw [bumpAt_path, bumpAt_data]
      exact h.path m hm
  · intro n hn
    rcases (hmem n).1 hn with rfl | ⟨m, hm, rfl⟩
    · simp only [nodeOf]
      omega
    · have := h.stat m hm
      unfold bumpAt
      split
      · simp only [bump]
        omega
      · exact this
  · intro n hn
    rcases (hmem n).1 hn with rfl | ⟨m, hm, rfl⟩
    · rcases hown with h0 | h0
      · exact .inl h0
      · exact .inr ⟨h0, rfl⟩
    · unfold bumpAt
      split
      · rename_i hd2
        left
        rw [uniqN h.sorted hm hu (hd2.trans hup.symm)]
        exact huo
      · exact h.own m hm
  · intro n hn
    rcases (hmem n).1 hn with rfl | ⟨m, hm, rfl⟩
    · exact .inr ⟨_, (hmem _).2 (.inr ⟨u, hu, rfl⟩), by rw [bumpAt_path]; exact hup⟩
    · rw [bumpAt_path]
      rcases h.up m hm with h0 | ⟨q, hq, hqp⟩
      · exact .inl h0
      · exact .inr ⟨_, (hmem _).2 (.inr ⟨q, hq, rfl⟩), by rw [bumpAt_path]; exact hqp⟩
  · have hk := fun q => kidB_iff (n := nodeOf x) hg q
    have hc : ∀ q, ((makeN l x).countP (kidB q) : Nat) = l.countP (kidB q) + (if kidB q (nodeOf x) = true then 1 else 0) := by
      intro q
      rw [hm1, countP_map' (bumpAt_path _ _ _), e, List.countP_append, List.countP_append, List.countP_cons]
      omega
    intro n hn
    rw [hc]
    rcases (hmem n).1 hn with rfl | ⟨m, hm, rfl⟩
    · rw [if_neg (by rw [hk]; exact fun e => parent_ne hg hne e.2)]
      have h0 : l.countP (kidB (nodeOf x).path) = 0 := by
        rw [List.countP_eq_zero]
        intro m hm hkm
        obtain ⟨hms, hmp⟩ := (kidB_iff (h.path m hm).1 _).1 hkm
        rcases h.up m hm with h0 | ⟨q, hq, hqp⟩
        · exact hms h0
        · exact hnop q hq (hqp.trans hmp)
      rw [h0]
      rfl
    · rw [bumpAt_path]
      have h1 := h.kids m hm
      unfold bumpAt
      by_cases hd2 : m.path = parent x.path
      · rw [if_pos hd2, if_pos ((hk _).2 ⟨hne, hd2.symm⟩)]
        simp only [bump]
        omega
      · rw [if_neg hd2, if_neg (by rw [hk]; exact fun e => hd2 e.2.symm)]
        omega
theorem mem_set (hs : SortedN l) {x : Txn} (h : hasN l x.path = true) (n : Node) : n ∈ setN l x ↔ ∃ m ∈ l, n = putAt x m := by
  rw [setN_map hs h, List.mem_map]
  constructor
  · rintro ⟨m, hm, rfl⟩; exact ⟨m, hm, rfl⟩
  · rintro ⟨m, hm, rfl⟩; exact ⟨m, hm, rfl⟩
theorem good_set (h : GoodW z l ss) (x : Txn) (hxz : x.zxid = z) (hyes : hasN l x.path = true) (hd : x.data.size ≤ 256) (hv : 0 ≤ x.version ∧ x.version ≤ 2147483647) : GoodW z (setN l x) ss := by
  have hmem := mem_set h.sorted hyes
  subst hxz
  refine ⟨?_, h.zx, ?_, ?_, h.sess, h.sessB, ?_, ?_, ?_, ?_, ?_⟩
  · rw [setN_map h.sorted hyes, List.length_map]
    exact h.len
  · obtain ⟨n, r, e2, hp, ho⟩ := h.root
    rw [setN_map h.sorted hyes, e2, List.map_cons]
    exact ⟨_, _, rfl, by rw [putAt_path]; exact hp, by unfold putAt; split <;> exact ho⟩
  · rw [setN_map h.sorted hyes]
    exact sorted_map h.sorted (putAt_path x)
  · intro n hn
    obtain ⟨m, hm, rfl⟩ := (hmem n).1 hn
    have := h.path m hm
    unfold putAt
    split
    · exact ⟨this.1, hd⟩
    · exact this
  · intro n hn
    obtain ⟨m, hm, rfl⟩ := (hmem n).1 hn
    have := h.stat m hm
    unfold putAt
    split
    · simp only
      omega
    · exact this
  · intro n hn
    obtain ⟨m, hm, rfl⟩ := (hmem n).1 hn
    have := h.own m hm
    unfold putAt
    split <;> exact this
  · intro n hn
    obtain ⟨m, hm, rfl⟩ := (hmem n).1 hn
    rw [putAt_path]
    rcases h.up m hm with h0 | ⟨q, hq, hqp⟩
    · exact .inl h0
    · exact .inr ⟨_, (hmem _).2 ⟨q, hq, rfl⟩, by rw [putAt_path]; exact hqp⟩
  · intro n hn
    obtain ⟨m, hm, rfl⟩ := (hmem n).1 hn
    rw [putAt_path, setN_map h.sorted hyes, countP_map' (putAt_path x)]
    have := h.kids m hm
    unfold putAt
    split <;> exact this
/-- a session is closed: node by node -/
theorem good_fold {s : Int} (hs0 : s ≠ 0) : ∀ (ps : List ByteArray) (l : List Node), GoodW z l ss → ps.Nodup → (∀ p ∈ ps, ∃ n ∈ l, n.path = p) → (∀ n ∈ l, n.owner = s ↔ n.path ∈ ps) →
    GoodW z (ps.foldl (fun l p => goneN l p z) l) ss ∧ (∀ n ∈ ps.foldl (fun l p => goneN l p z) l, n.owner ≠ s ∧ ∃ m ∈ l, m.path = n.path ∧ m.owner = n.owner) ∧
      (∀ m ∈ l, m.owner ≠ s → ∃ n ∈ ps.foldl (fun l p => goneN l p z) l, n.path = m.path ∧ n.data = m.data ∧ n.version = m.version ∧ n.owner = m.owner) ∧ (ps.foldl (fun l p => goneN l p z) l).length + ps.length = l.length
  | [], l, h, _, _, ho => ⟨h, fun n hn => ⟨fun e => by simpa using (ho n hn).1 e, n, hn, rfl, rfl⟩, fun m hm _ => ⟨m, hm, rfl, rfl, rfl, rfl⟩, rfl⟩
  | p :: ps, l, h, hnd, hp, ho => by
    obtain ⟨x, hx, hxp⟩ := hp p (by simp)
    have hxo := (ho x hx).2 (by rw [hxp]; simp)
    have hxk : x.kids = 0 := by
      rcases h.own x hx with h0 | h0
      · exact absurd (hxo.symm.trans h0) hs0
      · exact h0.2
    have hxs : x.path ≠ slash := fun e => hs0 (hxo.symm.trans (h.rootOf hx e))
    have hmem := mem_gone h.sorted hx z
    have hg := good_gone h hx hxs hxk
    rw [List.nodup_cons] at hnd
    have ih := good_fold hs0 ps (goneN l x.path z) hg hnd.2 (by
      intro q hq
      obtain ⟨n, hn, hnq⟩ := hp q (by simp [hq])
      refine ⟨_, (hmem _).2 ⟨n, hn, ?_, rfl⟩, by rw [bumpAt_path]; exact hnq⟩
      rw [hxp, hnq]
      exact fun e => hnd.1 (e ▸ hq)) (by
      intro n hn
      obtain ⟨m, hm, hmx, rfl⟩ := (hmem n).1 hn
      rw [bumpAt_own, bumpAt_path, ho m hm, List.mem_cons]
      constructor
      · rintro (e | e)
        · exact absurd (e.trans hxp.symm) hmx
        · exact e
      · exact .inr)
    obtain ⟨i1, i2, i3, i4⟩ := ih
    have hlen := gone_length h.sorted hx z
    rw [hxp] at i1 i2 i3 i4 hlen
    rw [List.foldl_cons]
    refine ⟨i1, ?_, ?_, ?_⟩
    · intro n hn
      obtain ⟨a, m, hm, b, c⟩ := i2 n hn
      rw [← hxp] at hm
      obtain ⟨m', hm', _, rfl⟩ := (hmem m).1 hm
      rw [bumpAt_path] at b
      rw [bumpAt_own] at c
      exact ⟨a, m', hm', b, c⟩
    · intro m hm hmo
      have hmx : m.path ≠ x.path := by
        intro e
        rw [uniqN h.sorted hm hx e] at hmo
        exact hmo hxo
      obtain ⟨n, hn, a, b, c, d⟩ := i3 (bumpAt (parent x.path) (-1) z m) (by rw [← hxp]; exact (hmem _).2 ⟨m, hm, hmx, rfl⟩) (by rw [bumpAt_own]; exact hmo)
      rw [bumpAt_path] at a
      rw [bumpAt_data] at b
      rw [bumpAt_version] at c
      rw [bumpAt_own] at d
      exact ⟨n, hn, a, b, c, d⟩
    · rw [List.length_cons]
      omega
theorem owned_nodup (hs : SortedN l) (s : Int) : (ownedL l s).Nodup := by
  unfold ownedL
  unfold List.Nodup
  rw [List.pairwise_map]
  exact (List.Pairwise.filter _ hs).imp (fun h => ltN_ne h)
theorem mem_owned {s : Int} {p : ByteArray} : p ∈ ownedL l s ↔ ∃ n ∈ l, n.owner = s ∧ n.path = p := by
  unfold ownedL
  simp only [List.mem_map, List.mem_filter, decide_eq_true_eq]
  constructor
  · rintro ⟨n, ⟨h1, h2⟩, h3⟩; exact ⟨n, h1, h2, h3⟩
  · rintro ⟨n, h1, h2, h3⟩; exact ⟨n, ⟨h1, h2⟩, h3⟩
theorem good_close (h : GoodW z l ss) {s : Int} (hs0 : s ≠ 0) :
    GoodW z (closeN l s z) ss ∧ (∀ n ∈ closeN l s z, n.owner ≠ s ∧ ∃ m ∈ l, m.path = n.path ∧ m.owner = n.owner) ∧
      (∀ m ∈ l, m.owner ≠ s → ∃ n ∈ closeN l s z, n.path = m.path ∧ n.data = m.data ∧ n.version = m.version ∧ n.owner = m.owner) ∧ (closeN l s z).length + (ownedL l s).length = l.length := by
  refine good_fold hs0 (ownedL l s) l h (owned_nodup h.sorted s) (fun p hp => ?_) (fun n hn => ?_)
  · obtain ⟨n, hn, _, e⟩ := mem_owned.1 hp
    exact ⟨n, hn, e⟩
  · rw [mem_owned]
    constructor
    · intro e; exact ⟨n, hn, e, rfl⟩
    · rintro ⟨m, hm, e, hp⟩
      rw [← uniqN h.sorted hm hn hp]
      exact e
end
end Go.Proofs.YteolglmifimnaaaDoor

/- Trees: what a transaction leaves is a good tree. -/
namespace Go.Proofs.YteolglmifimnaaaDoor
open Go.RowKit
theorem eq_slash {p : ByteArray} : p.toList = [47] ↔ p = slash := by
  constructor
  · intro h
    exact bytes_eqB (by rw [h]; unfold slash; rw [ByteArray.toList_eq])
  · intro h
    rw [h]
    unfold slash
    rw [ByteArray.toList_eq]
theorem eq_nil {p : ByteArray} : p.toList = [] ↔ p = ⟨#[]⟩ := by
  constructor
  · intro h
    exact bytes_eqB (by rw [h, ByteArray.toList_eq])
  · intro h
    rw [h, ByteArray.toList_eq]
theorem goodT_inv {x : Txn} (h : goodT x = 0) : (1 ≤ x.op ∧ x.op ≤ 5) ∧ Zx x.zxid ∧ (1 ≤ x.session ∧ x.session ≤ 2147483647) ∧ (0 ≤ x.version ∧ x.version ≤ 2147483647) ∧ (0 ≤ x.owner ∧ x.owner ≤ 2147483647) ∧ x.data.size ≤ 256 ∧
    (x.op ≤ 2 → x.path = ⟨#[]⟩ ∧ x.data = ⟨#[]⟩ ∧ x.version = 0 ∧ x.owner = 0) ∧ (3 ≤ x.op → goodP x.path = true) ∧ (3 ≤ x.op → x.op ≠ 5 → x.path ≠ slash) ∧ (x.op = 4 → x.data = ⟨#[]⟩ ∧ x.version = 0 ∧ x.owner = 0) ∧ (x.op = 3 → x.version = 0) ∧ (x.op = 5 → x.owner = 0) := by
  unfold goodT at h
  by_cases h1 : x.op < 1 ∨ 5 < x.op
  · rw [if_pos h1] at h; exact absurd h (by decide)
  rw [if_neg h1] at h
  by_cases h2 : ¬ (0 ≤ x.zxid ∧ x.zxid < 4611686018427387904) ∨ x.session < 1 ∨ 2147483647 < x.session ∨ x.version < 0 ∨ 2147483647 < x.version ∨ x.owner < 0 ∨ 2147483647 < x.owner
  · rw [if_pos h2] at h; exact absurd h (by decide)
  rw [if_neg h2] at h
  by_cases h3 : 256 < (x.data.size : Int)
  · rw [if_pos h3] at h; exact absurd h (by decide)
  rw [if_neg h3] at h
  by_cases h4 : x.op ≤ 2 ∧ (x.path.toList ≠ [] ∨ x.data.toList ≠ [] ∨ x.version ≠ 0 ∨ x.owner ≠ 0)
  · rw [if_pos h4] at h; exact absurd h (by decide)
  rw [if_neg h4] at h
  by_cases h5 : 3 ≤ x.op ∧ (goodP x.path = false ∨ (x.path.toList = [47] ∧ x.op ≠ 5))
  · rw [if_pos h5] at h; exact absurd h (by decide)
  rw [if_neg h5] at h
  by_cases h6 : (x.op = 4 ∧ (x.data.toList ≠ [] ∨ x.version ≠ 0 ∨ x.owner ≠ 0)) ∨ (x.op = 3 ∧ x.version ≠ 0) ∨ (x.op = 5 ∧ x.owner ≠ 0)
  · rw [if_pos h6] at h; exact absurd h (by decide)
  clear h
  refine ⟨by omega, by unfold Zx; omega, by omega, by omega, by omega, by omega, ?_, ?_, ?_, ?_, ?_, ?_⟩
  · intro ho
    have h7 : ¬ (x.path.toList ≠ [] ∨ x.data.toList ≠ [] ∨ x.version ≠ 0 ∨ x.owner ≠ 0) := fun e => h4 ⟨ho, e⟩
    refine ⟨eq_nil.1 (Classical.byContradiction fun e => h7 (.inl e)), eq_nil.1 (Classical.byContradiction fun e => h7 (.inr (.inl e))), ?_, ?_⟩
    · exact Classical.byContradiction fun e => h7 (.inr (.inr (.inl e)))
    · exact Classical.byContradiction fun e => h7 (.inr (.inr (.inr e)))
  · intro ho
    cases hg : goodP x.path with
    | true => rfl
    | false => exact absurd ⟨ho, .inl hg⟩ h5
  · intro ho h8 e
    exact h5 ⟨ho, .inr ⟨eq_slash.2 e, h8⟩⟩
  · intro ho
    refine ⟨eq_nil.1 (Classical.byContradiction fun e => h6 (.inl ⟨ho, .inl e⟩)), ?_, ?_⟩
    · exact Classical.byContradiction fun e => h6 (.inl ⟨ho, .inr (.inl e)⟩)
    · exact Classical.byContradiction fun e => h6 (.inl ⟨ho, .inr (.inr e)⟩)
  · intro ho
    exact Classical.byContradiction fun e => h6 (.inr (.inl ⟨ho, e⟩))
  · intro ho
    exact Classical.byContradiction fun e => h6 (.inr (.inr ⟨ho, e⟩))
theorem lacks_inv {t : Tr} {x : Txn} (h : lacksE t x = 0) : hasN t.nodes x.path = false ∧ hasN t.nodes (parent x.path) = true ∧ (getN t.nodes (parent x.path)).owner = 0 ∧ (x.owner = 0 ∨ x.owner = x.session) ∧ t.nodes.length < 400 := by
  unfold lacksE at h
  by_cases h1 : hasN t.nodes x.path = true
  · rw [if_pos h1] at h; exact absurd h (by decide)
  rw [if_neg h1] at h
  by_cases h2 : hasN t.nodes (parent x.path) = true
  case neg => rw [if_neg h2] at h; exact absurd h (by decide)
  rw [if_pos h2] at h
  by_cases h3 : (getN t.nodes (parent x.path)).owner ≠ 0
  · rw [if_pos h3] at h; exact absurd h (by decide)
  rw [if_neg h3] at h
  by_cases h4 : x.owner ≠ 0 ∧ x.owner ≠ x.session
  · rw [if_pos h4] at h; exact absurd h (by decide)
  rw [if_neg h4] at h
  by_cases h5 : 400 ≤ t.nodes.length
  · rw [if_pos h5] at h; exact absurd h (by decide)
  refine ⟨by simpa using h1, h2, by omega, by omega, by omega⟩
theorem wrong_inv {t : Tr} {x : Txn} (h : wrongE t x = 0) : goodTree t = true ∧ goodT x = 0 ∧ t.zxid < x.zxid ∧ (x.op = 1 → isI t.sess x.session = false) ∧ (x.op ≠ 1 → isI t.sess x.session = true) ∧ (x.op = 3 → lacksE t x = 0) ∧
    (x.op = 4 → hasN t.nodes x.path = true ∧ (getN t.nodes x.path).kids ≤ 0) ∧ (x.op = 5 → hasN t.nodes x.path = true ∧ x.version = (getN t.nodes x.path).version + 1) := by
  unfold wrongE at h
  by_cases h1 : goodTree t = false
  · rw [if_pos h1] at h; exact absurd h (by decide)
  rw [if_neg h1] at h
  by_cases h2 : goodT x ≠ 0
  · rw [if_pos h2] at h; exact absurd h h2
  rw [if_neg h2] at h
  by_cases h3 : x.zxid ≤ t.zxid
  · rw [if_pos h3] at h; exact absurd h (by decide)
  rw [if_neg h3] at h
  refine ⟨by simpa using h1, Classical.not_not.1 h2, by omega, ?_⟩
  by_cases h4 : x.op = 1
  · rw [if_pos h4] at h
    by_cases h5 : isI t.sess x.session = true
    · rw [if_pos h5] at h; exact absurd h (by decide)
    · exact ⟨fun _ => by simpa using h5, fun e => absurd h4 e, fun e => by omega, fun e => by omega, fun e => by omega⟩
  rw [if_neg h4] at h
  by_cases h5 : isI t.sess x.session = false
  · rw [if_pos h5] at h; exact absurd h (by decide)
  rw [if_neg h5] at h
  refine ⟨fun e => absurd e h4, fun _ => by simpa using h5, ?_⟩
  by_cases h6 : x.op = 3
  · rw [if_pos h6] at h
    exact ⟨fun _ => h, fun e => by omega, fun e => by omega⟩
  rw [if_neg h6] at h
  refine ⟨fun e => absurd e h6, ?_⟩
  by_cases h7 : x.op = 4
  · rw [if_pos h7] at h
    refine ⟨fun _ => ?_, fun e => by omega⟩
    by_cases h8 : hasN t.nodes x.path = true
    · rw [if_pos h8] at h
      by_cases h9 : 0 < (getN t.nodes x.path).kids
      · rw [if_pos h9] at h; exact absurd h (by decide)
      · exact ⟨h8, by omega⟩
    · rw [if_neg h8] at h; exact absurd h (by decide)
  rw [if_neg h7] at h
  refine ⟨fun e => absurd e h7, fun h7 => ?_⟩
  rw [if_pos h7] at h
  by_cases h8 : hasN t.nodes x.path = true
  · rw [if_pos h8] at h
    by_cases h9 : x.version ≠ (getN t.nodes x.path).version + 1
    · rw [if_pos h9] at h; exact absurd h (by decide)
    · exact ⟨h8, Classical.not_not.1 h9⟩
  · rw [if_neg h8] at h; exact absurd h (by decide)
theorem doN_1 {t : Tr} {x : Txn} (h : x.op = 1) : doN t x = t.nodes ∧ doS t x = insS t.sess x.session ∧ doV t x = [] := by
  refine ⟨?_, ?_, ?_⟩
  · unfold doN; rw [if_neg (by omega), if_neg (by omega), if_neg (by omega), if_neg (by omega)]
  · unfold doS; rw [if_pos h]
  · unfold doV; rw [if_neg (by omega), if_neg (by omega), if_neg (by omega), if_neg (by omega)]
theorem doN_2 {t : Tr} {x : Txn} (h : x.op = 2) : doN t x = closeN t.nodes x.session x.zxid ∧ doS t x = delS t.sess x.session ∧ doV t x = closeV t.nodes x.session := by
  refine ⟨?_, ?_, ?_⟩
  · unfold doN; rw [if_pos h]
  · unfold doS; rw [if_neg (by omega), if_pos h]
  · unfold doV; rw [if_pos h]
theorem doN_3 {t : Tr} {x : Txn} (h : x.op = 3) : doN t x = makeN t.nodes x ∧ doS t x = t.sess ∧ doV t x = makeV x.path := by
  refine ⟨?_, ?_, ?_⟩
  · unfold doN; rw [if_neg (by omega), if_pos h]
  · unfold doS; rw [if_neg (by omega), if_neg (by omega)]
  · unfold doV; rw [if_neg (by omega), if_pos h]
theorem doN_4 {t : Tr} {x : Txn} (h : x.op = 4) : doN t x = goneN t.nodes x.path x.zxid ∧ doS t x = t.sess ∧ doV t x = goneV x.path := by
  refine ⟨?_, ?_, ?_⟩
  · unfold doN; rw [if_neg (by omega), if_neg (by omega), if_pos h]
  · unfold doS; rw [if_neg (by omega), if_neg (by omega)]
  · unfold doV; rw [if_neg (by omega), if_neg (by omega), if_pos h]
theorem doN_5 {t : Tr} {x : Txn} (h : x.op = 5) : doN t x = setN t.nodes x ∧ doS t x = t.sess ∧ doV t x = [⟨3, x.path⟩] := by
  refine ⟨?_, ?_, ?_⟩
  · unfold doN; rw [if_neg (by omega), if_neg (by omega), if_neg (by omega), if_pos h]
  · unfold doS; rw [if_neg (by omega), if_neg (by omega)]
  · unfold doV; rw [if_neg (by omega), if_neg (by omega), if_neg (by omega), if_pos h]
theorem apply_goodW {t : Tr} {x : Txn} (h : wrongE t x = 0) : GoodW x.zxid (doN t x) (doS t x) := by
  obtain ⟨hg, hx, hz, w1, w2, w3, w4, w5⟩ := wrong_inv h
  obtain ⟨x1, x2, x3, x4, x5, x6, x7, x8, x9, x10, x11, x12⟩ := goodT_inv hx
  obtain ⟨g, _⟩ := good_parts hg
  have g' : GoodW x.zxid t.nodes t.sess := g.later (by omega) x2.2
  rcases (by omega : x.op = 1 ∨ x.op = 2 ∨ x.op = 3 ∨ x.op = 4 ∨ x.op = 5) with ho | ho | ho | ho | ho
  · obtain ⟨e1, e2, _⟩ := doN_1 (t := t) ho
    rw [e1, e2]
    have hs := (isI_no g.sess).1 (w1 ho)
    obtain ⟨i1, i2, _⟩ := insS_spec g.sess hs
    refine g'.with_sess i1 (fun s hs => ?_) (fun n hn => ?_)
    · rcases (i2 s).1 hs with rfl | hs
      · exact x3
      · exact g.sessB s hs
    · rcases g.own n hn with h0 | ⟨h0, _⟩
      · exact .inl h0
      · exact .inr ((i2 _).2 (.inr h0))
  · obtain ⟨e1, e2, _⟩ := doN_2 (t := t) ho
    rw [e1, e2]
    have hs := (isI_iff g.sess).1 (w2 (by omega))
    obtain ⟨i1, i2, _⟩ := delS_spec g.sess hs
    obtain ⟨c1, c2, _, _⟩ := good_close g' (s := x.session) (by omega)
    refine c1.with_sess i1 (fun s hs => g.sessB s ((i2 s).1 hs).1) (fun n hn => ?_)
    rcases c1.own n hn with h0 | ⟨h0, _⟩
    · exact .inl h0
    · exact .inr ((i2 _).2 ⟨h0, (c2 n hn).1⟩)
  · obtain ⟨e1, e2, _⟩ := doN_3 (t := t) ho
    rw [e1, e2]
    obtain ⟨l1, l2, l3, l4, l5⟩ := lacks_inv (w3 ho)
    obtain ⟨hm, hp⟩ := get_mem l2
    refine good_make g' x rfl l1 (x8 (by omega)) (x9 (by omega) (by omega)) x6 l5 ?_ hm hp l3
    rcases l4 with h0 | h0
    · exact .inl h0
    · rw [h0]
      exact .inr ((isI_iff g.sess).1 (w2 (by omega)))
  · obtain ⟨e1, e2, _⟩ := doN_4 (t := t) ho
    rw [e1, e2]
    obtain ⟨l1, l2⟩ := w4 ho
    obtain ⟨hm, hp⟩ := get_mem l1
    have hk : (getN t.nodes x.path).kids = 0 := by
      have := g.kids _ hm
      omega
    have := good_gone g' hm (by rw [hp]; exact x9 (by omega) (by omega)) hk
    rw [hp] at this
    exact this
  · obtain ⟨e1, e2, _⟩ := doN_5 (t := t) ho
    rw [e1, e2]
    exact good_set g' x rfl (w5 ho).1 x6 x4
theorem applyE_0 {t : Tr} {x : Txn} (h : applyE t x = 0) : wrongE t x = 0 ∧ fullB (doN t x) = false := by
  unfold applyE at h
  by_cases h1 : wrongE t x = 0
  · rw [if_pos h1] at h
    cases hf : fullB (doN t x) with
    | false => exact ⟨h1, rfl⟩
    | true => rw [hf, if_pos rfl] at h; exact absurd h (by decide)
  · rw [if_neg h1] at h
    exact absurd h h1
theorem applyT_0 {t : Tr} {x : Txn} (h : applyE t x = 0) : applyT t x = ⟨x.zxid, doN t x, doS t x⟩ ∧ applyV t x = doV t x := by
  unfold applyT applyV
  rw [if_pos h, if_pos h]
  exact ⟨rfl, rfl⟩
theorem apply_good {t : Tr} {x : Txn} (h : applyE t x = 0) : goodTree (applyT t x) = true ∧ goodTree t = true ∧ t.zxid < x.zxid := by
  obtain ⟨h1, h2⟩ := applyE_0 h
  obtain ⟨h3, _, h4, _⟩ := wrong_inv h1
  rw [(applyT_0 h).1]
  exact ⟨(good_iff _ _ _).2 ⟨apply_goodW h1, h2⟩, h3, h4⟩
theorem new_good : goodTree newTr = true := by
  refine (good_iff _ _ _).2 ⟨⟨by decide, by decide, ⟨rootN, [], rfl, rfl, rfl⟩, List.pairwise_singleton _ _, .nil, by simp, ?_, ?_, ?_, ?_, ?_⟩, ?_⟩
  · intro n hn
    rw [List.mem_singleton.1 hn]
    exact ⟨good_slash, by decide⟩
  · intro n hn
    rw [List.mem_singleton.1 hn]
    decide
  · intro n hn
    rw [List.mem_singleton.1 hn]
    exact .inl rfl
  · intro n hn
    rw [List.mem_singleton.1 hn]
    exact .inl rfl
  · intro n hn
    rw [List.mem_singleton.1 hn]
    rw [List.countP_cons, if_neg]
    · rfl
    · rw [kidB_iff (show goodP rootN.path = true from good_slash)]
      exact fun e => e.1 rfl
  · exact full_no.2 (fun n hn => by rw [List.mem_singleton.1 hn]; decide)
end Go.Proofs.YteolglmifimnaaaDoor

/- Trees: plain laws of a node that is made, and taken away again. -/
namespace Go.Proofs.YteolglmifimnaaaDoor
open Go.RowKit
theorem path_of {p q : ByteArray} (hp : goodP p = true) (hps : p ≠ slash) (hq : goodP q = true) (hqs : q ≠ slash) (h1 : (splitR p).1 = (splitR q).1) (h2 : (splitR p).2.1 = (splitR q).2.1) : p = q := by
  have a := (split_join hp hps).1
  have b := (split_join hq hqs).1
  rw [h1, h2, b] at a
  exact (Prod.mk.inj a).1.symm
theorem count_path {l : List Node} (hs : SortedN l) {x : Node} (hx : x ∈ l) : l.countP (fun n => decide (n.path = x.path)) = 1 := by
  obtain ⟨a, b, e, hf⟩ := filter_cut hs hx
  have h1 := List.length_eq_countP_add_countP (fun n : Node => decide (n.path = x.path)) (l := l)
  have h2 : l.countP (fun n => decide (n.path ≠ x.path)) = a.length + b.length := by rw [List.countP_eq_length_filter, hf, List.length_append]
  have h3 : l.length = a.length + b.length + 1 := by rw [e, List.length_append, List.length_cons]; omega
  have h4 : l.countP (fun n => decide ¬ (decide (n.path = x.path)) = true) = l.countP (fun n => decide (n.path ≠ x.path)) := by
    congr 1
    funext n
    simp
  omega
/-- the step of a node stands once among its parent's children -/
theorem kid_once {z : Int} {l : List Node} {ss : List Int} (g : GoodW z l ss) {x : Node} (hx : x ∈ l) (hs : x.path ≠ slash) : (kidsL l (parent x.path)).countP (fun s => decide (s = (splitR x.path).2.1)) = 1 := by
  unfold kidsL
  rw [List.countP_map, List.countP_filter, ← count_path g.sorted hx]
  apply List.countP_congr
  intro n hn
  have hg := (g.path n hn).1
  have hgx := (g.path x hx).1
  simp only [Function.comp, Bool.and_eq_true, decide_eq_true_eq]
  rw [kidB_iff hg]
  constructor
  · rintro ⟨h1, h2, h3⟩
    exact path_of hg h2 hgx hs h3 h1
  · intro h
    rw [h]
    exact ⟨rfl, hs, rfl⟩
theorem goodT_del {z s : Int} {p : ByteArray} (hz : Zx z) (hs : 1 ≤ s ∧ s ≤ 2147483647) (hp : goodP p = true) (hps : p ≠ slash) : goodT ⟨z, 4, s, p, ⟨#[]⟩, 0, 0⟩ = 0 := by
  have hp2 : p.toList ≠ [47] := fun e => hps (eq_slash.1 e)
  unfold goodT
  simp only
  unfold Zx at hz
  rw [if_neg (by omega), if_neg (by omega), if_neg (by decide), if_neg (by omega), if_neg (by rw [hp]; exact fun e => e.2.elim (fun h => Bool.noConfusion h) (fun h => hp2 h.1)), if_neg]
  rw [ByteArray.toList_eq]
  rintro (⟨_, h | h | h⟩ | ⟨h, _⟩ | ⟨h, _⟩)
  · exact h rfl
  · exact h rfl
  · exact h rfl
  · omega
  · omega
theorem make_spec {z : Int} {l : List Node} {ss : List Int} {x : Txn} (ho : x.op = 3) (h : applyE ⟨z, l, ss⟩ x = 0) :
    hasN (applyT ⟨z, l, ss⟩ x).nodes x.path = true ∧ getN (applyT ⟨z, l, ss⟩ x).nodes x.path = nodeOf x ∧ hasN (applyT ⟨z, l, ss⟩ x).nodes (parent x.path) = true ∧
    (kidsL (applyT ⟨z, l, ss⟩ x).nodes (parent x.path)).countP (fun s => decide (s = (splitR x.path).2.1)) = 1 ∧ (applyT ⟨z, l, ss⟩ x).nodes.length = l.length + 1 ∧ (applyV ⟨z, l, ss⟩ x).length = 2 ∧
    goodP x.path = true ∧ x.path ≠ slash ∧ (applyT ⟨z, l, ss⟩ x).zxid = x.zxid ∧ (applyT ⟨z, l, ss⟩ x).sess = ss ∧ isI ss x.session = true ∧ (1 ≤ x.session ∧ x.session ≤ 2147483647) := by
  have hw := (applyE_0 h).1
  obtain ⟨hg, hx, hz, w1, w2, w3, w4, w5⟩ := wrong_inv hw
  obtain ⟨x1, x2, x3, x4, x5, x6, x7, x8, x9, x10, x11, x12⟩ := goodT_inv hx
  obtain ⟨d1, d2, d3⟩ := doN_3 (t := ⟨z, l, ss⟩) ho
  obtain ⟨e1, e2⟩ := applyT_0 h
  have G := apply_goodW hw
  obtain ⟨g, _⟩ := good_parts hg
  rw [d1, d2] at G
  rw [e1, e2, d3]
  simp only at g hz w2 ⊢
  rw [d1, d2]
  simp only at G ⊢
  obtain ⟨l1, l2, l3, l4, l5⟩ := lacks_inv (w3 ho)
  simp only at l1 l2
  have hgp := x8 (by omega)
  have hps := x9 (by omega) (by omega)
  have hmem := mem_make g.sorted x l1 hgp hps
  have hn : nodeOf x ∈ makeN l x := (hmem _).2 (.inl rfl)
  obtain ⟨u, hu, hup⟩ := (has_iff g.sorted).1 l2
  obtain ⟨a, b, e, hm1, _⟩ := makeN_is g.sorted x l1
  have h1 := get_ofN G.sorted hn
  refine ⟨h1.1, h1.2, (has_iff G.sorted).2 ⟨_, (hmem _).2 (.inr ⟨u, hu, rfl⟩), by rw [bumpAt_path]; exact hup⟩, kid_once G hn hps, ?_, rfl, hgp, hps, trivial, trivial, w2 (by omega), x3⟩
  rw [hm1, List.length_map, List.length_append, List.length_cons, e, List.length_append]
  omega
/-- made and taken away again -/
def twiceAt (d : ByteArray) (z : Int) (n : Node) : Node := if n.path = d then { n with cversion := n.cversion + 1 + 1, pzxid := z } else n
theorem undo_nodes {l : List Node} (hs : SortedN l) (x : Txn) (hno : hasN l x.path = false) (hg : goodP x.path = true) (hne : x.path ≠ slash) (z : Int) : goneN (makeN l x) x.path z = l.map (twiceAt (parent x.path) z) := by
  obtain ⟨a, b, e, h1, h2⟩ := makeN_is hs x hno
  have hsort : SortedN (makeN l x) := by rw [h1]; exact sorted_map h2 (bumpAt_path _ _ _)
  have hn : nodeOf x ∈ makeN l x := (mem_make hs x hno hg hne _).2 (.inl rfl)
  have hno2 := (has_no hs).1 hno
  have hgo : goneN (makeN l x) x.path z = ((makeN l x).filter (fun n => decide (n.path ≠ x.path))).map (bumpAt (parent x.path) (-1) z) := goneN_is hsort hn z
  rw [hgo, h1, List.filter_map, show ((fun n : Node => decide (n.path ≠ x.path)) ∘ bumpAt (parent x.path) 1 x.zxid) = (fun n : Node => decide (n.path ≠ x.path)) from by funext n; simp [Function.comp, bumpAt_path]]
  rw [List.filter_append, List.filter_cons_of_neg (by simp [nodeOf]), filter_same (fun y hy => by have := hno2 y (by rw [e]; simp [hy]); simpa using this), filter_same (fun y hy => by have := hno2 y (by rw [e]; simp [hy]); simpa using this), ← e, List.map_map]
  apply List.map_congr_left
  intro n _
  show bumpAt (parent x.path) (-1) z (bumpAt (parent x.path) 1 x.zxid n) = _
  by_cases hd : n.path = parent x.path
  · have h3 : bumpAt (parent x.path) 1 x.zxid n = bump n 1 x.zxid := if_pos hd
    have h4 : bumpAt (parent x.path) (-1) z (bump n 1 x.zxid) = bump (bump n 1 x.zxid) (-1) z := if_pos hd
    rw [h3, h4]
    unfold twiceAt
    rw [if_pos hd]
    simp only [bump]
    rw [show n.kids + 1 + -1 = n.kids from by omega]
  · have h3 : bumpAt (parent x.path) 1 x.zxid n = n := if_neg hd
    have h4 : bumpAt (parent x.path) (-1) z n = n := if_neg hd
    rw [h3, h4]
    unfold twiceAt
    rw [if_neg hd]
theorem undo_spec {z zz : Int} {l : List Node} {ss : List Int} {x : Txn} (ho : x.op = 3) (h : applyE ⟨z, l, ss⟩ x = 0) :
    (applyE (applyT ⟨z, l, ss⟩ x) ⟨zz, 4, x.session, x.path, ⟨#[]⟩, 0, 0⟩ = 0 → (applyT (applyT ⟨z, l, ss⟩ x) ⟨zz, 4, x.session, x.path, ⟨#[]⟩, 0, 0⟩).zxid = zz ∧ (applyT (applyT ⟨z, l, ss⟩ x) ⟨zz, 4, x.session, x.path, ⟨#[]⟩, 0, 0⟩).nodes = l.map (twiceAt (parent x.path) zz)) ∧
    (applyE (applyT ⟨z, l, ss⟩ x) ⟨zz, 4, x.session, x.path, ⟨#[]⟩, 0, 0⟩ ≠ 0 → zz ≤ x.zxid ∨ ¬ Zx zz ∨ applyE (applyT ⟨z, l, ss⟩ x) ⟨zz, 4, x.session, x.path, ⟨#[]⟩, 0, 0⟩ = 6) := by
  obtain ⟨s1, s2, s3, s4, s5, s6, s7, s8, s9, s10, s11, s12⟩ := make_spec ho h
  have hG := (apply_good h).1
  have hw := (applyE_0 h).1
  obtain ⟨hg, hx, hz, w1, w2, w3, w4, w5⟩ := wrong_inv hw
  obtain ⟨g, _⟩ := good_parts hg
  obtain ⟨l1, _⟩ := lacks_inv (w3 ho)
  obtain ⟨d1, d2, d3⟩ := doN_3 (t := ⟨z, l, ss⟩) ho
  obtain ⟨e1, e2⟩ := applyT_0 h
  simp only at g l1
  generalize hT : applyT ⟨z, l, ss⟩ x = T at *
  constructor
  · intro h2
    obtain ⟨e3, e4⟩ := applyT_0 h2
    obtain ⟨d4, d5, d6⟩ := doN_4 (t := T) (x := ⟨zz, 4, x.session, x.path, ⟨#[]⟩, 0, 0⟩) rfl
    rw [e3]
    simp only
    refine ⟨trivial, ?_⟩
    rw [d4, e1]
    simp only
    rw [d1]
    exact undo_nodes g.sorted x l1 s7 s8 zz
  · intro h2
    by_cases c1 : zz ≤ x.zxid
    · exact .inl c1
    by_cases c2 : Zx zz
    · right; right
      have hwr : wrongE T ⟨zz, 4, x.session, x.path, ⟨#[]⟩, 0, 0⟩ = 0 := by
        unfold wrongE
        rw [if_neg (by rw [hG]; decide), goodT_del c2 s12 s7 s8, if_neg (by decide), s9, if_neg c1, s10, s11, s1, s2]
        rfl
      unfold applyE at h2 ⊢
      rw [if_pos hwr] at h2 ⊢
      by_cases hf : fullB (doN T ⟨zz, 4, x.session, x.path, ⟨#[]⟩, 0, 0⟩) = true
      · rw [if_pos hf]
      · rw [if_neg hf] at h2
        exact absurd rfl h2
    · exact .inr (.inl c2)
end Go.Proofs.YteolglmifimnaaaDoor

/- zxid.small: a number of at most ten digits, without noughts ahead. -/
namespace Go.Proofs.YteolglmifimnaaaDoor
open Go.RowKit
def digit (c : UInt8) : Bool := decide (48 ≤ c.toNat ∧ c.toNat ≤ 57)
def valD (l : List UInt8) : Nat := l.foldl (fun n c => n * 10 + (c.toNat - 48)) 0
def smallOk (l : List UInt8) : Bool := decide (l ≠ []) && (decide (l.length ≤ 10) && (!(decide (1 < l.length) && decide (l[0]? = some 48)) && l.all digit))
def smallV (l : List UInt8) : Int := if smallOk l then (valD l : Nat) else 0
theorem valD_snoc (l : List UInt8) (c : UInt8) : valD (l ++ [c]) = valD l * 10 + (c.toNat - 48) := by unfold valD; rw [List.foldl_append]; rfl
theorem valD_lt (l : List UInt8) (h : l.all digit = true) : ∀ k, k ≤ l.length → valD (l.take k) < 10 ^ k
  | 0, _ => by simp [valD]
  | k + 1, hk => by
    have ih := valD_lt l h k (by omega)
    have hx := List.getElem?_eq_getElem (l := l) (i := k) (by omega)
    have h2 : digit l[k] = true := List.all_eq_true.1 h _ (List.getElem_mem (by omega))
    unfold digit at h2
    rw [decide_eq_true_iff] at h2
    rw [List.take_add_one, hx, Option.toList_some, valD_snoc, Nat.pow_succ]
    omega
theorem valD_lt' (l : List UInt8) : ∀ k, (l.take k).all digit = true → k ≤ l.length → valD (l.take k) < 10 ^ k := by
  intro k h hk
  have := valD_lt (l.take k) h k (by rw [List.length_take]; omega)
  rwa [List.take_take, Nat.min_self] at this
theorem bs_inj0 {s : ByteArray} (h : bs s = []) : s = ⟨#[]⟩ := ByteArray.ext (Array.toList_inj.mp h)
theorem bytes_row (s : ByteArray) (cap : Nat) : bytesRow s cap = ((bs s).map (fun c : UInt8 => Value.int .u8 (c.toNat : Int)) ++ List.replicate (cap - s.size) (Value.int .u8 0)).toArray := by
  apply Array.ext'
  simp only [bytesRow, Array.toList_append, Array.toList_map, Array.toList_replicate]
  rfl
theorem row_cell (w : World) (s : ByteArray) (cap e : Nat) (f : Nat × Nat) (j : Nat) (c : UInt8) (h : (bs s)[j]? = some c) : ((w.drew).alloc (.cells (bytesRow s cap) e f)).cell? ⟨w.heap.size, j, none⟩ = some (.int .u8 (c.toNat : Int)) := by
  have h1 : ((w.drew).alloc (.cells (bytesRow s cap) e f)).heap[w.heap.size]? = some (.cells (bytesRow s cap) e f) := heap_alloc_new w.drew _
  unfold World.cell?
  simp only [h1]
  rw [bytes_row]
  have hj : j < (bs s).length := (List.getElem?_eq_some_iff.1 h).1
  simp only [List.getElem?_toArray]
  rw [List.getElem?_append_left (by simpa using hj), List.getElem?_map, h]
  rfl
end Go.Proofs.YteolglmifimnaaaDoor

/- package recipe: what its functions compute, in plain words, and plain laws. -/
namespace Go.Proofs.YteolglmifimnaaaDoor
open Go.RowKit
/-- a step of the sequence of a name -/
def serB (name s : ByteArray) : Bool := Lib.hasPrefix s.data.toList name.data.toList && (decide (s.size = name.size + 10) && ((bs s).drop name.size).all digit)
def lineE (t : Tr) (dir name : ByteArray) : Int := if hasN t.nodes dir then (if name ≠ ⟨#[]⟩ ∧ named (bs name) = false then 2 else 0) else 7
def lineL (t : Tr) (dir name : ByteArray) : List ByteArray := if lineE t dir name = 0 then (kidsL t.nodes dir).filter (serB name) else []
theorem compare_append (p x y : List UInt8) : Lib.compareBytes (p ++ x) (p ++ y) = Lib.compareBytes x y := by
  induction p with
  | nil => rfl
  | cons c p ih =>
    rw [List.cons_append, List.cons_append, Lib.compareBytes, if_neg (UInt8.lt_irrefl c), if_neg (UInt8.lt_irrefl c), ih]
theorem join_cmp (d a b : ByteArray) : cmpB (joinT d a) (joinT d b) = cmpB a b := by
  show Lib.compareBytes (bs (joinT d a)) (bs (joinT d b)) = Lib.compareBytes (bs a) (bs b)
  unfold joinT
  split
  · rw [bs_append, bs_append, compare_append]
  · rw [bs_append, bs_append, bs_append, bs_append, compare_append]
theorem kid_join {n : Node} (hg : goodP n.path = true) {d : ByteArray} (h : kidB d n = true) : joinR d (splitR n.path).2.1 = (n.path, 0) ∧ joinT d (splitR n.path).2.1 = n.path := by
  obtain ⟨h1, h2⟩ := (kidB_iff hg d).1 h
  have hj := (split_join hg h1).1
  unfold parent at h2
  rw [h2] at hj
  refine ⟨hj, ?_⟩
  obtain ⟨_, _, _, k⟩ := join_parts (d := d) (n := (splitR n.path).2.1) (by rw [hj])
  rw [hj] at k
  exact (Prod.mk.inj k).1.symm
theorem kids_sorted {z : Int} {l : List Node} {ss : List Int} (g : GoodW z l ss) (d : ByteArray) : (kidsL l d).Pairwise (fun a b => cmpB a b < 0) := by
  unfold kidsL
  rw [List.pairwise_map]
  refine List.Pairwise.imp_of_mem (fun {a b} ha hb h => ?_) (List.Pairwise.filter (kidB d) g.sorted)
  rw [List.mem_filter] at ha hb
  have h1 := (kid_join (g.path a ha.1).1 ha.2).2
  have h2 := (kid_join (g.path b hb.1).1 hb.2).2
  rw [← join_cmp d, h1, h2]
  exact h
theorem kid_node {z : Int} {l : List Node} {ss : List Int} (g : GoodW z l ss) {d s : ByteArray} (h : s ∈ kidsL l d) : ∃ n ∈ l, joinR d s = (n.path, 0) ∧ hasN l n.path = true ∧ getN l n.path = n := by
  unfold kidsL at h
  rw [List.mem_map] at h
  obtain ⟨n, hn, rfl⟩ := h
  rw [List.mem_filter] at hn
  exact ⟨n, hn.1, (kid_join (g.path n hn.1).1 hn.2).1, get_ofN g.sorted hn.1⟩
theorem line_sorted {z : Int} {l : List Node} {ss : List Int} (g : GoodW z l ss) (d name : ByteArray) : (lineL ⟨z, l, ss⟩ d name).Pairwise (fun a b => cmpB a b < 0) := by
  unfold lineL
  split
  · exact List.Pairwise.filter _ (kids_sorted g d)
  · exact .nil
theorem line_kids {t : Tr} {d name s : ByteArray} (h : s ∈ lineL t d name) : s ∈ kidsL t.nodes d ∧ lineE t d name = 0 := by
  unfold lineL at h
  split at h
  · exact ⟨(List.mem_filter.1 h).1, by assumption⟩
  · cases h
theorem line_le (t : Tr) (d name : ByteArray) : (lineL t d name).length ≤ (kidsL t.nodes d).length := by
  unfold lineL
  split
  · exact List.length_filter_le _ _
  · exact Nat.zero_le _
/-- the first place of a text in a line -/
def firstAt (l : List ByteArray) (s : ByteArray) : Nat := l.findIdx (fun x => decide (x = s))
theorem first_sorted {l : List ByteArray} (h : l.Pairwise (fun a b => cmpB a b < 0)) {i : Nat} {s : ByteArray} (hs : l[i]? = some s) : firstAt l s = i := by
  obtain ⟨hi, rfl⟩ := List.getElem?_eq_some_iff.1 hs
  unfold firstAt
  rw [List.findIdx_eq hi]
  refine ⟨decide_eq_true rfl, fun j hj => ?_⟩
  have := List.pairwise_iff_getElem.1 h j i (by omega) hi hj
  refine decide_eq_false (fun e => ?_)
  rw [e, cmpB_self] at this
  omega
end Go.Proofs.YteolglmifimnaaaDoor

/- A slice of strings, as the walk reads it. -/
namespace Go.Proofs.YteolglmifimnaaaDoor
open Go.RowKit
theorem Sl.str_at {w : World} {A : Option Addr} {n c : Nat} {l : List ByteArray} (h : Sl cStr 1 w (.slice A n c) l) {i : Nat} {x : ByteArray} (hx : l[i]? = some x) : ∃ b off, A = some ⟨b, off, none⟩ ∧ b < w.heap.size ∧ w.cell? ⟨b, off + i, none⟩ = some (.string x) := by
  obtain ⟨b, off, rfl, hb, hc⟩ := h.at_ hx
  refine ⟨b, off, rfl, hb, ?_⟩
  have := hc 0 _ rfl
  simpa using this
end Go.Proofs.YteolglmifimnaaaDoor

/- package recipe: serial, slices.Index at []string. -/
namespace Go.Proofs.YteolglmifimnaaaDoor
open Go.RowKit Go.ChangeShapes Go.WideShapes Go.ChangeAt
def idxV (l : List ByteArray) (s : ByteArray) : Int := if firstAt l s < l.length then (firstAt l s : Nat) else -1
theorem first_is {l : List ByteArray} {s : ByteArray} {k : Nat} (h : l[k]? = some s) (hno : ∀ x ∈ l.take k, x ≠ s) : firstAt l s = k := by
  obtain ⟨hk, hx⟩ := List.getElem?_eq_some_iff.1 h
  unfold firstAt
  rw [List.findIdx_eq hk]
  refine ⟨decide_eq_true hx, fun j hj => decide_eq_false (fun e => ?_)⟩
  exact hno l[j] (List.mem_take_iff_getElem.2 ⟨j, by omega, rfl⟩) e
theorem first_none {l : List ByteArray} {s : ByteArray} (hno : ∀ x ∈ l, x ≠ s) : firstAt l s = l.length := by
  unfold firstAt
  rw [List.findIdx_eq_length]
  intro x hx
  exact decide_eq_false (hno x hx)
set_option maxHeartbeats 1000000 in
theorem idxStr (v : Value) (l : List ByteArray) (s : ByteArray) (w : World) (h : Sl cStr 1 w v l) (hn : l.length ≤ 140737488355328) :
    Calls Tryd.prog 41 #[v, .string s] w fun e w' => e = .returned (.int .i64 (idxV l s)) ∧ w' = w := by
  obtain ⟨A, c, rfl, h1, h2⟩ := h.form
  have H := Lib.hid h
  clear h
  go_enter Tryd.func41, Tryd.ntmps41
  go_wp2_with fail
  go_loopw [8] (fun i wr => ∃ k : Nat, k ≤ l.length ∧ i = .int .i64 k ∧ wr = w ∧ Hid (∀ x ∈ l.take k, x ≠ s)) (fun i _ => l.length - (intOf i).toNat)
  case atStart => exact ⟨0, Nat.zero_le _, rfl, rfl, Lib.hid (by simp)⟩
  case round =>
    obtain ⟨k, hk, rfl, rfl, hno⟩ := hrel
    by_cases hlt : k < l.length
    · have hx : l[k]? = some (l[k]'hlt) := List.getElem?_eq_getElem _
      have htk : l.take (k + 1) = l.take k ++ [l[k]'hlt] := by rw [List.take_add_one, hx]; rfl
      obtain ⟨bk, off, rfl, hbk, c0⟩ := H.out.str_at hx
      generalize l[k]'hlt = g at *
      by_cases hg : g = s
      · subst hg
        have hf := first_is hx hno.out
        have HF := Lib.hid (show idxV l g = (k : Nat) by unfold idxV; rw [hf, if_pos hlt])
        clear hx htk hf hno
        go_wp2_with fail
        go_ret
        exact ⟨by rw [HF.out]; rfl, rfl⟩
      · have HN := Lib.hid (show ∀ x ∈ l.take (k + 1), x ≠ s by
          intro x hx2
          rw [htk, List.mem_append, List.mem_singleton] at hx2
          rcases hx2 with h | rfl
          · exact hno.out x h
          · exact hg)
        have hne := ne_bytes hg
        have hne2 : (s.toList == g.toList) = false := ne_bytes (fun e => hg e.symm)
        clear hx htk hg hno
        go_wp2_with fail
        go_roundw
        case rel => exact ⟨k + 1, by omega, by go_num, by first | rfl | trivial, HN⟩
        case measure => simp [intOf]; omega
    · have hk' : k = l.length := by omega
      subst hk'
      have h9 := hno.out
      rw [List.take_length] at h9
      have HF := Lib.hid (show idxV l s = -1 by unfold idxV; rw [first_none h9, if_neg (Nat.lt_irrefl _)])
      clear h9 hno
      go_wp2_with fail
      go_ret
      exact ⟨by rw [HF.out]; rfl, rfl⟩
def SerIs (name s : ByteArray) (w : World) (e : Ending) (w' : World) : Prop := ∃ n : Int, e = .returned (.tuple #[.int .i64 n, .bool (serB name s)]) ∧ Below w.heap.size w w'
set_option maxHeartbeats 2000000 in
theorem trSer (s name : ByteArray) (w : World) (hs : s.size ≤ 140737488351232) :
    Calls Tryd.prog 40 #[.string s, .string name] w (SerIs name s w) := by
  have HCP := Lib.hid (fun (W : World) => Tryd.strings_CutPrefix s name W)
  unfold SerIs
  have hb : serB name s = (Lib.hasPrefix s.data.toList name.data.toList && (decide (s.size = name.size + 10) && ((bs s).drop name.size).all digit)) := rfl
  cases hpr : Lib.hasPrefix s.data.toList name.data.toList with
  | false =>
    rw [hpr, Bool.false_and] at hb
    rw [hb]
    rw [hpr] at HCP
    clear hb hpr
    generalize (⟨(Lib.trimPrefix s.data.toList name.data.toList).toArray⟩ : ByteArray) = t at *
    go_enter Tryd.func40, Tryd.ntmps40
    go_wp2_with (go_at_call 61; refine (HCP.out _).mono ?_; rintro e w1 ⟨rfl, hw⟩; obtain rfl := hw.symm; clear hw)
    go_ret2
    exact ⟨0, rfl, (by repeat (first | with_reducible exact Below.refl _ _ | with_reducible assumption | with_reducible exact below_d1 _ _ _ _ _ | with_reducible exact below_d2 _ _ _ _ _ _ _ _ | with_reducible exact below_d3 _ _ _ _ _ | with_reducible exact below_d4 _ _ _ _ _ _ _ _ | with_reducible exact below_d5 _ _ | with_reducible refine Below.drew ?_ | with_reducible refine Below.drewN' ?_ _ | with_reducible refine below_grow0 _ _ ?_ | with_reducible refine below_alloc0 _ ?_ | with_reducible refine Below.setCell ?_ ?_ _ | with_reducible refine Below.alloc ?_ ?_ _ | with_reducible refine Below.grow _ _ _ ?_ ?_ | omega | (simp; done) | (simp; omega)))⟩
  | true =>
    rw [hpr, Bool.true_and] at hb
    rw [hpr] at HCP
    have htb : bs ⟨(Lib.trimPrefix s.data.toList name.data.toList).toArray⟩ = (bs s).drop name.size := by
      show Lib.trimPrefix s.data.toList name.data.toList = _
      unfold Lib.trimPrefix
      rw [if_pos hpr, show name.data.toList.length = name.size from length_bs name]
      rfl
    have hle : name.size ≤ s.size := by
      have h9 := Lib.hasPrefix_of_take s.data.toList name.data.toList
      rw [hpr, Bool.and_eq_true, decide_eq_true_iff, show name.data.toList.length = name.size from length_bs name, show s.data.toList.length = s.size from length_bs s] at h9
      exact h9.1
    generalize (⟨(Lib.trimPrefix s.data.toList name.data.toList).toArray⟩ : ByteArray) = t at *
    have htz : t.size = s.size - name.size := by rw [size_bs, htb, List.length_drop, length_bs]
    rw [← htb] at hb
    by_cases h10 : t.size = 10
    · rw [decide_eq_true (by omega), Bool.true_and] at hb
      rw [hb]
      have h10i : ((t.size : Int) != 10) = false := bne_eq_false_iff_eq.2 (by omega)
      have hconv := fun (w : World) => run_bytes_of_string (P := Tryd.prog) w 9 111 5 t Tryd.underlying9 Tryd.underlying111 Tryd.underlying5
      have HC := Lib.hid (fun (w : World) (cap e : Nat) (f : Nat × Nat) (j : Nat) (c : UInt8) (h : (bs t)[j]? = some c) => row_cell w t cap e f j c h)
      clear hb htb hle hpr htz
      go_enter Tryd.func40, Tryd.ntmps40
      go_wp2_with (go_at_call 61; refine (HCP.out _).mono ?_; rintro e w1 ⟨rfl, hw⟩; obtain rfl := hw.symm; clear hw)
      have HC1 := Lib.hid (fun (j : Nat) (c : UInt8) (h : (bs t)[j]? = some c) => show ((w.alloc (.cells (bytesRow t (grownCap w 10 0 5)) 5 ((bytesRow t (grownCap w 10 0 5)).size, (bytesRow t (grownCap w 10 0 5)).size + 1))).drew).cell? ⟨w.heap.size, j, none⟩ = some (.int .u8 (c.toNat : Int)) from HC.out w _ _ _ j c h)
      have hB1 : Below w.heap.size w ((w.alloc (.cells (bytesRow t (grownCap w 10 0 5)) 5 ((bytesRow t (grownCap w 10 0 5)).size, (bytesRow t (grownCap w 10 0 5)).size + 1))).drew) := (by repeat (first | exact Below.refl _ _ | assumption | refine Below.drew ?_ | refine Below.drewN' ?_ _ | refine below_grow0 _ _ ?_ | refine below_alloc0 _ ?_ | refine Below.alloc ?_ (by first | omega | (simp; done) | (simp; omega)) _ | refine Below.setCell ?_ (by first | omega | (simp; done) | (simp; omega)) _ | refine Below.grow _ _ _ ?_ (by first | omega | (simp; done) | (simp; omega))))
      generalize ((w.alloc (.cells (bytesRow t (grownCap w 10 0 5)) 5 ((bytesRow t (grownCap w 10 0 5)).size, (bytesRow t (grownCap w 10 0 5)).size + 1))).drew) = W1 at *
      generalize grownCap w 10 0 5 = cap at *
      go_loopw [8, 27] (fun n i wr => ∃ k : Nat, k ≤ t.size ∧ n = .int .i64 (valD ((bs t).take k)) ∧ i = .int .i64 k ∧ wr = W1 ∧ Hid (((bs t).take k).all digit = true)) (fun _ i _ => t.size - (intOf i).toNat)
      case atStart => exact ⟨0, Nat.zero_le _, rfl, rfl, rfl, Lib.hid rfl⟩
      case round =>
        obtain ⟨k, hk, rfl, rfl, rfl, hd⟩ := hrel
        have hlen := length_bs t
        by_cases hlt : k < t.size
        · have hx : (bs t)[k]? = some ((bs t)[k]'(by omega)) := List.getElem?_eq_getElem _
          have hc := HC1.out k _ hx
          have htk : (bs t).take (k + 1) = (bs t).take k ++ [(bs t)[k]'(by omega)] := by rw [List.take_add_one, hx]; rfl
          have hmem : (bs t)[k]'(by omega) ∈ bs t := List.getElem_mem _
          generalize (bs t)[k]'(by omega) = c at *
          have hvl := valD_lt' (bs t) k hd.out (by omega)
          have hp : 10 ^ k ≤ 10 ^ 10 := Nat.pow_le_pow_right (by decide) (by omega)
          have hv9 : valD ((bs t).take k) < 10000000000 := Nat.lt_of_lt_of_le hvl hp
          have hc255 : c.toNat < 256 := c.toNat_lt
          cases hdc : digit c with
          | true =>
            have hcd : 48 ≤ c.toNat ∧ c.toNat ≤ 57 := by unfold digit at hdc; rwa [decide_eq_true_iff] at hdc
            have hval : ((valD ((bs t).take (k + 1)) : Nat) : Int) = (valD ((bs t).take k) : Int) * 10 + ((c.toNat : Int) - 48) := by rw [htk, valD_snoc]; omega
            have HV := Lib.hid hval
            have HD := Lib.hid (show ((bs t).take (k + 1)).all digit = true by rw [htk, List.all_append, hd.out]; simp [hdc])
            have hl1 : (decide ((c.toNat : Int) < 48)) = false := decide_eq_false (by omega)
            have hl2 : (decide ((57 : Int) < (c.toNat : Int))) = false := decide_eq_false (by omega)
            have hws : IntKind.u8.wrap ((c.toNat : Int) - 48) = (c.toNat : Int) - 48 := by unfold IntKind.wrap; simp [IntKind.signed, IntKind.bits]; omega
            generalize valD ((bs t).take k) = n at *
            clear hval htk hmem hx hvl hp
            go_wp2_with fail
            go_roundw
            case rel => exact ⟨k + 1, by omega, by rw [HV.out] <;> go_num, by go_num, by first | rfl | trivial, HD⟩
            case measure => simp [intOf]; omega
          | false =>
            have hno : (bs t).all digit = false := by rw [List.all_eq_false]; exact ⟨c, hmem, by simp [hdc]⟩
            have HNO := Lib.hid hno
            have hcd : c.toNat < 48 ∨ (48 ≤ c.toNat ∧ 57 < c.toNat) := by unfold digit at hdc; rw [decide_eq_false_iff_not] at hdc; omega
            generalize valD ((bs t).take k) = n at *
            clear htk hmem hx hvl hp hno
            rcases hcd with hcd | ⟨hcd1, hcd2⟩
            · have hl1 : (decide ((c.toNat : Int) < 48)) = true := decide_eq_true (by omega)
              go_wp2_with fail
              go_ret2
              exact ⟨0, by rw [HNO.out]; rfl, hB1⟩
            · have hl1 : (decide ((c.toNat : Int) < 48)) = false := decide_eq_false (by omega)
              have hl2 : (decide ((57 : Int) < (c.toNat : Int))) = true := decide_eq_true (by omega)
              go_wp2_with fail
              go_ret2
              exact ⟨0, by rw [HNO.out]; rfl, hB1⟩
        · have hk' : k = t.size := by omega
          subst hk'
          have hd1 := hd.out
          rw [List.take_of_length_le (by omega)] at hd1
          rw [List.take_of_length_le (by omega)]
          have HNO := Lib.hid hd1
          clear hd1 hd
          generalize valD (bs t) = n at *
          go_wp2_with fail
          go_ret2
          exact ⟨n, by rw [HNO.out]; rfl, hB1⟩
    · rw [decide_eq_false (by omega), Bool.false_and] at hb
      rw [hb]
      have h10i : ((t.size : Int) != 10) = true := bne_iff_ne.2 (by omega)
      clear hb htb htz hle hpr h10
      go_enter Tryd.func40, Tryd.ntmps40
      go_wp2_with (go_at_call 61; refine (HCP.out _).mono ?_; rintro e w1 ⟨rfl, hw⟩; obtain rfl := hw.symm; clear hw)
      go_ret2
      exact ⟨0, rfl, (by repeat (first | with_reducible exact Below.refl _ _ | with_reducible assumption | with_reducible exact below_d1 _ _ _ _ _ | with_reducible exact below_d2 _ _ _ _ _ _ _ _ | with_reducible exact below_d3 _ _ _ _ _ | with_reducible exact below_d4 _ _ _ _ _ _ _ _ | with_reducible exact below_d5 _ _ | with_reducible refine Below.drew ?_ | with_reducible refine Below.drewN' ?_ _ | with_reducible refine below_grow0 _ _ ?_ | with_reducible refine below_alloc0 _ ?_ | with_reducible refine Below.setCell ?_ ?_ _ | with_reducible refine Below.alloc ?_ ?_ _ | with_reducible refine Below.grow _ _ _ ?_ ?_ | omega | (simp; done) | (simp; omega)))⟩
end Go.Proofs.YteolglmifimnaaaDoor

/- Regions that draw their order: loads are taken first under a condition that only the region's last stores may break. -/
namespace Go.Proofs.YteolglmifimnaaaDoor
open Go.RowKit
theorem below_d1 (B : Nat) (w : World) (e : Array Obj) (d d' : Nat) : Below B (grow w.drew e d) (grow w e d') := ⟨rfl, rfl, rfl, Nat.le_refl _, fun _ _ => rfl⟩
theorem below_d2 (B : Nat) (w : World) (e e1 : Array Obj) (d d' d1 d1' : Nat) : Below B (grow (grow w e d).drew e1 d1) (grow (grow w e d') e1 d1') := ⟨rfl, rfl, rfl, Nat.le_refl _, fun _ _ => rfl⟩
theorem below_d3 (B : Nat) (w : World) (e : Array Obj) (d d' : Nat) : Below B (grow w e d) (grow w e d') := ⟨rfl, rfl, rfl, Nat.le_refl _, fun _ _ => rfl⟩
theorem below_d4 (B : Nat) (w : World) (e e1 : Array Obj) (d d' d1 d1' : Nat) : Below B (grow (grow w e d) e1 d1) (grow (grow w e d') e1 d1') := ⟨rfl, rfl, rfl, Nat.le_refl _, fun _ _ => rfl⟩
theorem below_d5 (B : Nat) (w : World) : Below B w.drew w := ⟨rfl, rfl, rfl, Nat.le_refl _, fun _ _ => rfl⟩
@[go_sem] theorem grow_drewN' (w : World) (n : Nat) (e : Array Obj) (d : Nat) : grow (w.drewN n) e d = grow w e d := rfl
@[go_sem] theorem grow_drew' (w : World) (e : Array Obj) (d : Nat) : grow w.drew e d = grow w e d := rfl
@[go_sem] theorem setCell_drewN' (w : World) (n : Nat) (a : Addr) (v : Value) : (w.drewN n).setCell a v = (w.setCell a v).drewN n := rfl
section
variable {P : Program} {ops : Array Oper} {Q : Exit → Act → World → Prop} {md : Region.Mode} {S : World → Prop} {brk : Nat → Bool}
/-- none of the last stores has come up -/
def clean (ops : Array Oper) (brk : Nat → Bool) (listed : Array Bool) : Bool := (List.range ops.size).all fun k => !(brk k && listed.getD k true)
/-- whatever order is picked; S holds behind every operation till one of brk has come up -/
def wpE (P : Program) (md : Region.Mode) (ops : Array Oper) (Q : Exit → Act → World → Prop) (S : World → Prop) (brk : Nat → Bool) : Nat → Array Bool → Act → World → Prop
  | 0, listed, a, w => Region.ready md ops listed = [] ∧ Q .normal a w
  | fuel + 1, listed, a, w =>
    (Region.ready md ops listed = [] → Q .normal a w) ∧
    ∀ i ∈ Region.ready md ops listed, wpOp P ops Q i (fun a' w' => (clean ops brk (listed.setIfInBounds i true) = true → S w') ∧ wpE P md ops Q S brk fuel (listed.setIfInBounds i true) a' w') a w
theorem wpAny_of_E : ∀ (fuel : Nat) (listed : Array Bool) (a : Act) (w : World), wpE P md ops Q S brk fuel listed a w → wpAny P md ops Q fuel listed a w
  | 0, _, _, _, h => h
  | fuel + 1, _, _, _, h => ⟨h.1, fun i hi => wpOp_mono (fun a' w' h' => wpAny_of_E fuel _ a' w' h'.2) (h.2 i hi)⟩
theorem clean_of {listed : Array Bool} {j : Nat} (h : clean ops brk (listed.setIfInBounds j true) = true) : clean ops brk listed = true := by
  unfold clean at *
  rw [List.all_eq_true] at *
  intro k hk
  have h1 := h k hk
  by_cases hjk : j = k
  · subst hjk
    simp only [Bool.not_eq_true', Bool.and_eq_false_iff] at h1 ⊢
    rcases h1 with h1 | h1
    · exact .inl h1
    · rcases Nat.lt_or_ge j listed.size with h2 | h2
      · simp [h2] at h1
      · exact .inr (by simp [Array.getD_eq_getD_getElem?] at h1)
  · rw [getD_set_ne true hjk] at h1
    exact h1
theorem clean_set {listed : Array Bool} {j : Nat} (h : clean ops brk listed = true) (hj : brk j = false) : clean ops brk (listed.setIfInBounds j true) = true := by
  unfold clean at *
  rw [List.all_eq_true] at *
  intro k hk
  have h1 := h k hk
  by_cases hjk : j = k
  · subst hjk
    simp [hj]
  · rw [getD_set_ne true hjk]
    exact h1
/-- those of brk wait for i -/
def waits (md : Region.Mode) (ops : Array Oper) (brk : Nat → Bool) (i : Nat) : Bool :=
  (List.range ops.size).all fun j => !brk j || (match ops[j]? with | some o => o.after.any fun e => Region.binds md e && e.on == i | none => true)
theorem waits_spec {i j : Nat} {oj : Oper} (h : waits md ops brk i = true) (hj : ops[j]? = some oj) (hb : brk j = true) : ∃ e ∈ oj.after, Region.binds md e = true ∧ e.on = i := by
  have hlt : j < ops.size := (Array.getElem?_eq_some_iff.1 hj).1
  have h1 := List.all_eq_true.1 h j (List.mem_range.2 hlt)
  rw [hb, hj] at h1
  simp only [Bool.not_true, Bool.false_or] at h1
  obtain ⟨k, hk, he⟩ := Array.any_eq_true.1 h1
  simp only [Bool.and_eq_true, beq_iff_eq] at he
  exact ⟨_, Array.getElem_mem hk, he.1, he.2⟩
theorem not_waits {i j : Nat} {listed : Array Bool} (hr : i ∈ Region.ready md ops listed) (hj : j ∈ Region.ready md ops listed) : listed.getD j true = false ∧ ∃ oj, ops[j]? = some oj ∧ ∀ e ∈ oj.after, Region.binds md e = true → e.on ≠ i := by
  obtain ⟨hjun, oj, hoj, hall⟩ := mem_ready.1 hj
  refine ⟨hjun, oj, hoj, fun e he hb heq => ?_⟩
  have h1 := hall e he hb
  have h0 := (mem_ready.1 hr).1
  rw [heq] at h1
  rcases Nat.lt_or_ge i listed.size with h' | h'
  · simp [h'] at h0 h1; rw [h0] at h1; cases h1
  · simp [Array.getElem?_eq_none h'] at h1
/-- a load may be taken first -/
theorem wpE_first {i : Nat} {oi : Oper} {v : Value} (hi : ops[i]? = some oi) (hsel : ∀ (j : Nat) (o : Oper) cs b, ops[j]? = some o → o.op ≠ .select cs b)
    (hQ : ∀ c a w, Q (.panic c) (a.put oi.dst v) w → Q (.panic c) a w) (hwt : waits md ops brk i = true) (hbi : brk i = false) :
    ∀ (fuel : Nat) (listed : Array Bool) (a : Act) (w : World),
      (∀ j oj, ops[j]? = some oj → j ≠ i → listed.getD j true = false → (∀ e ∈ oj.after, Region.binds md e = true → e.on ≠ i) → oi.apart ops oj = true) →
      i ∈ Region.ready md ops listed → YieldsIf P ops S oi v a → clean ops brk listed = true → S w →
      wpE P md ops Q S brk fuel (listed.setIfInBounds i true) (a.put oi.dst v) w → wpE P md ops Q S brk (fuel + 1) listed a w := by
  intro fuel
  induction fuel with
  | zero =>
    intro listed a w _ hr hy hc hS H
    refine ⟨fun h => (by rw [h] at hr; cases hr), fun j hj => ?_⟩
    by_cases hji : j = i
    · subst hji; exact hy.wpOp hi hS ⟨fun _ => hS, H⟩
    · have := ready_mono hj hji
      rw [H.1] at this
      cases this
  | succ fuel ih =>
    intro listed a w hfree hr hy hc hS H
    refine ⟨fun h => (by rw [h] at hr; cases hr), fun j hj => ?_⟩
    by_cases hji : j = i
    · subst hji; exact hy.wpOp hi hS ⟨fun _ => hS, H⟩
    · have h1 := H.2 j (ready_mono hj hji)
      obtain ⟨hjun, oj, hoj, hnot⟩ := not_waits hr hj
      have hbj : brk j = false := by
        cases hb : brk j with
        | false => rfl
        | true =>
          obtain ⟨e, he, h2, h3⟩ := waits_spec hwt hoj hb
          exact absurd h3 (hnot e he h2)
      have h2 := wpOp_putIf hoj (hfree j oj hoj hji hjun hnot) (fun cs b => hsel i oi cs b hi) (fun cs b => hsel j oj cs b hoj) hQ hy h1
      have hfree' : ∀ k ok, ops[k]? = some ok → k ≠ i → (listed.setIfInBounds j true).getD k true = false →
          (∀ e ∈ ok.after, Region.binds md e = true → e.on ≠ i) → oi.apart ops ok = true := fun k ok hk hki hun hno => by
        refine hfree k ok hk hki ?_ hno
        by_cases hjk : j = k
        · subst hjk; exact hjun
        · rw [getD_set_ne true hjk] at hun; exact hun
      have hcj := clean_set hc hbj
      have hcij := clean_set (clean_set hc hbi) hbj
      refine wpOp_mono (fun a' w' h3 => ⟨fun _ => h3.2.1 hcij, ih (listed.setIfInBounds j true) a' w' hfree' (ready_mono hr (Ne.symm hji)) h3.1 hcj (h3.2.1 hcij) ?_⟩) h2
      rw [Array.setIfInBounds_comm _ _ hji]
      exact h3.2.2
/-- what looks at no memory may be taken first at any time -/
theorem wpE_firstP {i : Nat} {oi : Oper} {v : Value} (hi : ops[i]? = some oi) (hsel : ∀ (j : Nat) (o : Oper) cs b, ops[j]? = some o → o.op ≠ .select cs b)
    (hQ : ∀ c a w, Q (.panic c) (a.put oi.dst v) w → Q (.panic c) a w) (hbi : brk i = false) :
    ∀ (fuel : Nat) (listed : Array Bool) (a : Act) (w : World),
      (∀ j oj, ops[j]? = some oj → j ≠ i → listed.getD j true = false → (∀ e ∈ oj.after, Region.binds md e = true → e.on ≠ i) → oi.apart ops oj = true) →
      i ∈ Region.ready md ops listed → YieldsIf P ops (fun _ => True) oi v a → (clean ops brk listed = true → S w) →
      wpE P md ops Q S brk fuel (listed.setIfInBounds i true) (a.put oi.dst v) w → wpE P md ops Q S brk (fuel + 1) listed a w := by
  intro fuel
  induction fuel with
  | zero =>
    intro listed a w _ hr hy hS H
    refine ⟨fun h => (by rw [h] at hr; cases hr), fun j hj => ?_⟩
    by_cases hji : j = i
    · subst hji; exact hy.wpOp hi trivial ⟨fun hc => hS (clean_of hc), H⟩
    · have := ready_mono hj hji
      rw [H.1] at this
      cases this
  | succ fuel ih =>
    intro listed a w hfree hr hy hS H
    refine ⟨fun h => (by rw [h] at hr; cases hr), fun j hj => ?_⟩
    by_cases hji : j = i
    · subst hji; exact hy.wpOp hi trivial ⟨fun hc => hS (clean_of hc), H⟩
    · have h1 := H.2 j (ready_mono hj hji)
      obtain ⟨hjun, oj, hoj, hnot⟩ := not_waits hr hj
      have h2 := wpOp_putIf hoj (hfree j oj hoj hji hjun hnot) (fun cs b => hsel i oi cs b hi) (fun cs b => hsel j oj cs b hoj) hQ hy h1
      have hfree' : ∀ k ok, ops[k]? = some ok → k ≠ i → (listed.setIfInBounds j true).getD k true = false →
          (∀ e ∈ ok.after, Region.binds md e = true → e.on ≠ i) → oi.apart ops ok = true := fun k ok hk hki hun hno => by
        refine hfree k ok hk hki ?_ hno
        by_cases hjk : j = k
        · subst hjk; exact hjun
        · rw [getD_set_ne true hjk] at hun; exact hun
      have hcc : clean ops brk (listed.setIfInBounds j true) = true → clean ops brk ((listed.setIfInBounds i true).setIfInBounds j true) = true := fun hc => by
        rw [Array.setIfInBounds_comm _ _ (Ne.symm hji)]
        exact clean_set hc hbi
      refine wpOp_mono (fun a' w' h3 => ⟨fun hc => h3.2.1 (hcc hc), ih (listed.setIfInBounds j true) a' w' hfree' (ready_mono hr (Ne.symm hji)) h3.1 (fun hc => h3.2.1 (hcc hc)) ?_⟩) h2
      rw [Array.setIfInBounds_comm _ _ hji]
      exact h3.2.2
theorem wpE_take {i : Nat} {oi : Oper} {v : Value} {fuel : Nat} {listed : Array Bool} {a : Act} {w : World} (hi : ops[i]? = some oi)
    (hs : Region.noSelect ops = true) (hf : Region.free md ops listed i = true) (hr : (Region.ready md ops listed).contains i = true)
    (hwt : waits md ops brk i = true) (hc : clean ops brk listed = true) (hbi : brk i = false)
    (hQ : ∀ c a w, Q (.panic c) (a.put oi.dst v) w → Q (.panic c) a w) (hy : YieldsIf P ops S oi v a) (hS : S w)
    (h : wpE P md ops Q S brk fuel (listed.setIfInBounds i true) (a.put oi.dst v) w) : wpE P md ops Q S brk (fuel + 1) listed a w :=
  wpE_first hi (Region.noSelect_spec hs) hQ hwt hbi fuel listed a w (Region.free_spec hi hf) (by simpa using hr) hy hc hS h
theorem wpE_takeP {i : Nat} {oi : Oper} {v : Value} {fuel : Nat} {listed : Array Bool} {a : Act} {w : World} (hi : ops[i]? = some oi)
    (hs : Region.noSelect ops = true) (hf : Region.free md ops listed i = true) (hr : (Region.ready md ops listed).contains i = true) (hbi : brk i = false)
    (hQ : ∀ c a w, Q (.panic c) (a.put oi.dst v) w → Q (.panic c) a w) (hy : YieldsIf P ops (fun _ => True) oi v a) (hS : S w)
    (h : wpE P md ops Q S brk fuel (listed.setIfInBounds i true) (a.put oi.dst v) w) : wpE P md ops Q S brk (fuel + 1) listed a w :=
  wpE_firstP hi (Region.noSelect_spec hs) hQ hbi fuel listed a w (Region.free_spec hi hf) (by simpa using hr) hy (fun _ => hS) h
theorem wpE_takeQ {i : Nat} {oi : Oper} {v : Value} {fuel : Nat} {listed : Array Bool} {a : Act} {w : World} (hi : ops[i]? = some oi)
    (hs : Region.noSelect ops = true) (hf : Region.free md ops listed i = true) (hr : (Region.ready md ops listed).contains i = true) (hbi : brk i = false)
    (hQ : ∀ c a w, Q (.panic c) (a.put oi.dst v) w → Q (.panic c) a w) (hy : YieldsIf P ops (fun _ => True) oi v a) (hc : clean ops brk listed = false)
    (h : wpE P md ops Q S brk fuel (listed.setIfInBounds i true) (a.put oi.dst v) w) : wpE P md ops Q S brk (fuel + 1) listed a w :=
  wpE_firstP hi (Region.noSelect_spec hs) hQ hbi fuel listed a w (Region.free_spec hi hf) (by simpa using hr) hy (fun hc2 => by rw [hc] at hc2; cases hc2) h
def AllE (P : Program) (md : Region.Mode) (ops : Array Oper) (Q : Exit → Act → World → Prop) (S : World → Prop) (brk : Nat → Bool) (fuel : Nat) (listed : Array Bool) (a : Act) (w : World) (rs : List Nat) : Prop :=
  ∀ i ∈ rs, wpOp P ops Q i (fun a' w' => (clean ops brk (listed.setIfInBounds i true) = true → S w') ∧ wpE P md ops Q S brk fuel (listed.setIfInBounds i true) a' w') a w
theorem AllE.nil {fuel : Nat} {listed : Array Bool} {a : Act} {w : World} : AllE P md ops Q S brk fuel listed a w [] := fun _ h => by cases h
theorem AllE.cons {fuel : Nat} {listed : Array Bool} {a : Act} {w : World} {i : Nat} {o : Oper} {rs : List Nat} (ho : ops[i]? = some o)
    (h : ∀ K' : Act → World → Prop, Shut (∀ a w, S w → (S w → wpE P md ops Q S brk fuel (listed.setIfInBounds i true) a w) → K' a w) → if Region.wanted o (yielded ops a.tmps) = true then Oper.wp P o a w K' Q else K' (a.put o.dst undef) w)
    (hs : AllE P md ops Q S brk fuel listed a w rs) : AllE P md ops Q S brk fuel listed a w (i :: rs) := fun j hj => by
  rcases List.mem_cons.1 hj with rfl | hj
  · exact wpOp_step ho (fun K' hK => h K' (fun a w hS hW => hK a w ⟨fun _ => hS, hW hS⟩))
  · exact hs j hj
/-- one behind which S is asked no more -/
theorem AllE.last {fuel : Nat} {listed : Array Bool} {a : Act} {w : World} {i : Nat} {o : Oper} {rs : List Nat} (ho : ops[i]? = some o) (hb : clean ops brk (listed.setIfInBounds i true) = false)
    (h : ∀ K' : Act → World → Prop, Shut (∀ a w, wpE P md ops Q S brk fuel (listed.setIfInBounds i true) a w → K' a w) → if Region.wanted o (yielded ops a.tmps) = true then Oper.wp P o a w K' Q else K' (a.put o.dst undef) w)
    (hs : AllE P md ops Q S brk fuel listed a w rs) : AllE P md ops Q S brk fuel listed a w (i :: rs) := fun j hj => by
  rcases List.mem_cons.1 hj with rfl | hj
  · exact wpOp_step ho (fun K' hK => h K' (fun a w hW => hK a w ⟨fun hf => (by rw [hb] at hf; cases hf), hW⟩))
  · exact hs j hj
theorem wpE_ready {rs : List Nat} {fuel : Nat} {listed : Array Bool} {a : Act} {w : World} (hr : Region.ready md ops listed = rs) (hne : rs ≠ [])
    (h : AllE P md ops Q S brk fuel listed a w rs) : wpE P md ops Q S brk (fuel + 1) listed a w := ⟨fun h0 => absurd (hr ▸ h0) hne, by rw [hr]; exact h⟩
theorem wpE_done {listed : Array Bool} {a : Act} {w : World} (hr : Region.ready md ops listed = []) (h : Q .normal a w) :
    ∀ fuel, wpE P md ops Q S brk fuel listed a w
  | 0 => ⟨hr, h⟩
  | _ + 1 => ⟨fun _ => h, by rw [hr]; simp⟩
theorem wp_region_W {id : Nat} {a : Act} {w : World} (hm : P.follows .mixedOrders = true) (h : ∀ W, Hid (W = w.drew) → wpAny P .any ops Q ops.size (Array.replicate ops.size false) a W) : (Code.region id ops true).wp P Q a w :=
  wp_region_any hm (h _ (Lib.hid rfl))
theorem wpAny_S {a : Act} {W : World} (S : World → Prop) (brk : Nat → Bool) (hS : S W) (h : S W → wpE P .any ops Q S brk ops.size (Array.replicate ops.size false) a W) : wpAny P .any ops Q ops.size (Array.replicate ops.size false) a W :=
  wpAny_of_E _ _ _ _ (h hS)
end
section
variable {P : Program} {w : World} {ops : Array Oper} {o : Oper} {a : Act} {K : Act → World → Prop} {Q : Exit → Act → World → Prop} {EE : Prop}
theorem stepE_app (hw : Region.wanted o (yielded ops a.tmps) = true) (sv x : Operand) (t : TypeId)
    (ho : o.op = .call { callee := .builtin .append, args := #[sv, x], argTypes := #[t, t] })
    {α : Type} {f : α → List Value} {s : Nat} {e : TypeId} {z : Value} {bytes : Nat} (E : El P t e z s bytes) {B : Nat} {v xv : Value} {l m : List α}
    (hs : a.eval sv = v) (hx : a.eval x = xv) (hown : Ow f s e w B v l) (hsrc : Sl f s w xv m) (h1 : ∀ x, ∀ u ∈ f x, u.oneCell' = true)
    (h63 : l.length + m.length ≤ maxLen) (hbytes : (l.length + m.length) * bytes ≤ 140737488355328) (hbase : B ≤ w.heap.size)
    (h : ∀ v' w', Ow f s e w' B v' (l ++ m) → w.grownBy w' v.ownBlock → (v'.ownBlock = v.ownBlock ∨ v'.ownBlock = some w.heap.size) → K (a.put o.dst v') w') : if Region.wanted o (yielded ops a.tmps) = true then Oper.wp P o a w K Q else EE := by
  rw [if_pos hw]
  exact wp_app w sv x t ho E hs hx hown hsrc h1 h63 hbytes hbase h
theorem stepE_mk (hw : Region.wanted o (yielded ops a.tmps) = true) (x y : Operand) (t : TypeId) (ho : o.op = Op.makeSlice t x y)
    {α : Type} {f : α → List Value} {s : Nat} {e : TypeId} {z : Value} {bytes : Nat} (E : El P t e z s bytes) {B n : Nat} {C : Int} (hx : a.eval x = .int .i64 0) (hy : a.eval y = .int .i64 C) (hC : C = (n : Int))
    (hbytes : n * bytes ≤ 140737488355328) (hn : n ≤ maxLen) (hbase : B ≤ w.heap.size)
    (h : ∀ w', Ow f s e w' B (.slice (some ⟨w.heap.size, 0, none⟩) 0 n) [] → w.grownBy w' none → K (a.put o.dst (.slice (some ⟨w.heap.size, 0, none⟩) 0 n)) w') : if Region.wanted o (yielded ops a.tmps) = true then Oper.wp P o a w K Q else EE := by
  rw [if_pos hw]
  obtain ⟨i, hi, hz⟩ := Option.map_eq_some_iff.1 E.info
  simp only [Prod.mk.injEq] at hz
  obtain ⟨z1, z2, z3⟩ := hz
  obtain ⟨w', hrun, r1, r2⟩ := run_make_own (P := P) w B t e i z s E.slice hi z1 z2 .i64 .i64 n (by rw [z3, Nat.mul_comm]; omega) hn hbase
  subst hC
  unfold Oper.wp
  simp [execOp, ho, hx, hy, hrun, Result.andThen]
  exact h w' ⟨r1, by simp⟩ r2
end
theorem Ow.one_at {α : Type} (f : α → List Value) (s : Nat) (w : World) (x : α) (e : TypeId) (hs : (f x).length = s) (cs : Array Value) (hcs : cs.toList = f x) {n B : Nat} (hn : n = w.heap.size) (hB : B ≤ w.heap.size) : Ow f s e (w.alloc (.cells cs e)) B (.slice (some ⟨n, 0, none⟩) 1 1) [x] := by
  subst hn
  refine ⟨?_, by simpa using hs⟩
  have := World.ownsRow_lit (e := e) (size := s) w cs 1 hB (by simp [maxLen]) (by rw [← Array.length_toList, hcs, hs, Nat.one_mul])
  rw [hcs] at this
  simpa using this
/-- behind the building of a slice of one element -/
theorem build_one {α : Type} {K : Act → World → Prop} {A : Act} {Wc : World} {cs : Array Value} {e : TypeId} {n : Nat} (hn : n = Wc.heap.size) (B : Nat) (hB : B ≤ Wc.heap.size) (f : α → List Value) (s : Nat) (x : α) (hs : (f x).length = s) (hcs : cs.toList = f x)
    (h : ∀ w', Ow f s e w' B (.slice (some ⟨n, 0, none⟩) 1 1) [x] → Below Wc.heap.size Wc w' → K A w') : K A (Wc.alloc (.cells cs e)) :=
  h _ (Ow.one_at f s Wc x e hs cs hcs hn hB) ((Below.refl _ _).alloc (Nat.le_refl _) _)
theorem Ow.lt {α : Type} {f : α → List Value} {s : Nat} {e : TypeId} {w : World} {B : Nat} {v : Value} {l : List α} (h : Ow f s e w B v l) : ∀ g, v.ownBlock = some g → g < w.heap.size := by
  intro q hq
  obtain ⟨A, c, rfl, _, _, _, h4⟩ := h.form
  cases A with
  | none => cases hq
  | some a =>
    obtain ⟨g, rfl, _, hg⟩ := h4 _ rfl
    have e1 : g = q := by simpa [Value.ownBlock] using hq
    omega
/-- a row that was there, and one that is made now -/
theorem Ow.apart {α : Type} {f : α → List Value} {s : Nat} {e : TypeId} {w : World} {B : Nat} {v x : Value} {l : List α} (h : Ow f s e w B v l) {g : Nat} (hx : x.ownBlock = some g) (hg : w.heap.size ≤ g) : v.ownBlock ≠ x.ownBlock := by
  intro h1
  have := h.lt g (h1.trans hx)
  omega
/-- a row of what has grown, in a later world -/
theorem Ow.moved {α : Type} {f : α → List Value} {s : Nat} {e : TypeId} {W W' w' : World} {ext : Array Obj} {d d' B : Nat} {v : Value} {l : List α} (h : Ow f s e (grow W ext d) B v l) (hB : W.heap.size ≤ B) (hb : Below (grow W' ext d').heap.size (grow W' ext d') w') (hs : W'.heap.size = W.heap.size) : Ow f s e w' B v l :=
  (h.regrow hB hs).below hb
/-- the world at hand, by a name of its own -/
theorem gen_w {P : Program} {c : Code} {Q : Exit → Act → World → Prop} {a : Act} {w : World} (h : ∀ W, Hid (W = w) → c.wp P Q a W) : c.wp P Q a w := h w (Lib.hid rfl)
/-- the world behind an append onto a row that lies above a base -/
theorem grown_on {W w1 w2 : World} {r : Option Nat} (hb : Below W.heap.size W w1) (hg : w1.grownBy w2 r) (hr : ∀ g, r = some g → W.heap.size ≤ g) : ∃ ext d, w2 = grow W ext d := by
  obtain ⟨h1, h2, h3, h4, h5⟩ := hb
  obtain ⟨g1, g2, g3, g4, g5⟩ := hg
  refine Below.grown_eq W ⟨g1.trans h1, g2.trans h2, g3.trans h3, Nat.le_trans h4 g4, fun k hk => ?_⟩
  rw [g5 k (by omega) ?_, h5 k hk]
  cases r with
  | none => simp
  | some g => have := hr g rfl; simp; omega
theorem Ow.above {α : Type} {f : α → List Value} {s : Nat} {e : TypeId} {w : World} {B : Nat} {v : Value} {l : List α} (h : Ow f s e w B v l) : ∀ g, v.ownBlock = some g → B ≤ g := by
  intro q hq
  obtain ⟨A, c, rfl, _, _, _, h4⟩ := h.form
  cases A with
  | none => cases hq
  | some a =>
    obtain ⟨g, rfl, hB, _⟩ := h4 _ rfl
    have e1 : g = q := by simpa [Value.ownBlock] using hq
    omega
/-- a row made with room -/
theorem ow_made {α : Type} (f : α → List Value) (s : Nat) (e : TypeId) (w : World) (cs : Array Value) (n : Nat) {g B : Nat} (hg : g = w.heap.size) (hB : B ≤ w.heap.size) (hn : n ≤ maxLen) (hs : cs.size = n * s) : Ow f s e (w.alloc (.cells cs e)) B (.slice (some ⟨g, 0, none⟩) 0 n) [] := by
  subst hg
  refine ⟨⟨by simp, .inr ⟨w.heap.size, n, cs, rfl, hB, ?_, Nat.zero_le _, hn, hs, by simp⟩⟩, by simp⟩
  exact heap_alloc_new w _
end Go.Proofs.YteolglmifimnaaaDoor

/- tree.New. -/
namespace Go.Proofs.YteolglmifimnaaaDoor
open Go.RowKit Go.ChangeShapes Go.WideShapes Go.ChangeAt
def NewRes (w : World) (e : Ending) (w' : World) : Prop := ∃ A c, e = .returned (.agg #[.int .i64 0, .slice A 1 c, .slice none 0 0]) ∧ Ow cNode 9 40 w' w.heap.size (.slice A 1 c) [rootN] ∧ Below w.heap.size w w'
theorem treeNew (w : World) : Calls Tryd.prog 28 #[] w (NewRes w) := by
  go_enter Tryd.func28, Tryd.ntmps28
  go_wp2_with fail
  refine bodyPost_ret (v := .agg #[.int .i64 0, .slice (some ⟨w.heap.size + 1, 0, none⟩) 1 1, .slice none 0 0]) (by simp [results, Tryd.results28, go_sem]) rfl ⟨some ⟨w.heap.size + 1, 0, none⟩, 1, rfl, ?_, (by repeat (first | exact Below.refl _ _ | assumption | refine Below.drew ?_ | refine Below.drewN' ?_ _ | refine below_grow0 _ _ ?_ | refine below_alloc0 _ ?_ | refine Below.alloc ?_ (by first | omega | (simp; done) | (simp; omega)) _ | refine Below.setCell ?_ (by first | omega | (simp; done) | (simp; omega)) _ | refine Below.grow _ _ _ ?_ (by first | omega | (simp; done) | (simp; omega))))⟩
  exact Ow.one_at cNode 9 _ rootN _ rfl _ rfl (by simp) (by simp)
end Go.Proofs.YteolglmifimnaaaDoor

/- made by geninst.py from XT3.src -/
namespace Go.Proofs.YteolglmifimnaaaDoor
open Go.RowKit
theorem cmpNode (x : Node) (p : ByteArray) (w : World) :
    Calls Tryd.prog 59 #[.agg #[.string x.path, .string x.data, .int .i64 x.czxid, .int .i64 x.mzxid, .int .i64 x.pzxid, .int .i64 x.version, .int .i64 x.cversion, .int .i64 x.owner, .int .i64 x.kids], .string p] w fun e w' => e = .returned (.int .i64 (cmpB x.path p)) ∧ Below w.heap.size w w' := by
  go_enter Tryd.func59, Tryd.ntmps59
  go_wp2_with (go_at_call 60; refine (Tryd.strings_Compare _ _ _).mono ?_; rintro e w1 ⟨rfl, rfl⟩)
  go_ret
  exact ⟨rfl, (by repeat (first | exact Below.refl _ _ | assumption | refine Below.drew ?_ | refine Below.drewN' ?_ _ | refine below_grow0 _ _ ?_ | refine below_alloc0 _ ?_ | refine Below.alloc ?_ (by first | omega | (simp; done) | (simp; omega)) _ | refine Below.setCell ?_ (by first | omega | (simp; done) | (simp; omega)) _ | refine Below.grow _ _ _ ?_ (by first | omega | (simp; done) | (simp; omega))))⟩

set_option maxHeartbeats 1000000 in
theorem bsfNode (v : Value) (l : List Node) (p : ByteArray) (w : World) (h : Sl cNode 9 w v l) (hn : l.length ≤ 140737488355328) :
    Calls Tryd.prog 58 #[v, .string p, .func (.func 59) #[] #[]] w fun e w' => e = .returned (.tuple #[.int .i64 (posK (l.map Node.path) p), .bool (isK (l.map Node.path) p)]) ∧ Below w.heap.size w w' := by
  obtain ⟨A, c, rfl, hc1, hc2⟩ := h.form
  have H := Lib.hid h
  clear h
  go_enter Tryd.func58, Tryd.ntmps58
  go_wp2
  go_loopw [9, 10] (fun i j wr => ∃ (a b : Nat), a ≤ b ∧ b ≤ l.length ∧ i = .int .i64 a ∧ j = .int .i64 b ∧ Hid (bsr (ltK (l.map Node.path) p) a b = posK (l.map Node.path) p) ∧ Below w.heap.size w wr) (fun i j _ => (intOf j - intOf i).toNat)
  case atStart => exact ⟨0, l.length, Nat.zero_le _, Nat.le_refl _, rfl, rfl, (by simp [posK] : bsr (ltK (l.map Node.path) p) 0 l.length = posK (l.map Node.path) p), Below.refl _ _⟩
  case round =>
    obtain ⟨a, b, hab, hbl, rfl, rfl, hr, hb⟩ := hrel
    by_cases hlt : a < b
    · have hx : l[(a + b) / 2]? = some (l[(a + b) / 2]'(by omega)) := List.getElem?_eq_getElem _
      obtain ⟨bk, off, rfl, hbw, c0, c1, c2, c3, c4, c5, c6, c7, c8⟩ := (H.out.below hb).Node_at hx
      generalize hxe : l[(a + b) / 2]'(by omega) = x at hx c0 c1 c2 c3 c4 c5 c6 c7 c8
      have HX := Lib.hid hx
      clear hx hxe
      go_wp2_with (go_at_call 59; refine (cmpNode _ _ _).mono ?_; rintro e w1 ⟨rfl, hb1⟩; obtain ⟨ext1, d1, rfl⟩ := Below.grown_eq _ hb1)
      all_goals
        have hcmp := ltK_of (g := Node.path) HX.out p
        go_roundw
      case rel =>
        have hlt2 : cmpB x.path p < 0 := by assumption
        exact ⟨(a + b) / 2 + 1, b, by omega, by omega, by go_num, rfl, Eq.trans (bsr_up _ _ _ hlt (by rw [hcmp]; simpa using hlt2)).symm hr.out, (by repeat (first | exact Below.refl _ _ | assumption | refine Below.drew ?_ | refine Below.drewN' ?_ _ | refine below_grow0 _ _ ?_ | refine below_alloc0 _ ?_ | refine Below.alloc ?_ (by first | omega | (simp; done) | (simp; omega)) _ | refine Below.setCell ?_ (by first | omega | (simp; done) | (simp; omega)) _ | refine Below.grow _ _ _ ?_ (by first | omega | (simp; done) | (simp; omega))))⟩
      case measure => simp [intOf]; omega
      case rel =>
        have hge2 : 0 ≤ cmpB x.path p := by assumption
        exact ⟨a, (a + b) / 2, by omega, by omega, rfl, by go_num, Eq.trans (bsr_down _ _ _ hlt (by rw [hcmp]; simpa using hge2)).symm hr.out, (by repeat (first | exact Below.refl _ _ | assumption | refine Below.drew ?_ | refine Below.drewN' ?_ _ | refine below_grow0 _ _ ?_ | refine below_alloc0 _ ?_ | refine Below.alloc ?_ (by first | omega | (simp; done) | (simp; omega)) _ | refine Below.setCell ?_ (by first | omega | (simp; done) | (simp; omega)) _ | refine Below.grow _ _ _ ?_ (by first | omega | (simp; done) | (simp; omega))))⟩
      case measure => simp [intOf]; omega
    · obtain rfl : a = b := by omega
      have hpos : posK (l.map Node.path) p = a := by rw [← hr.out]; exact bsr_end _ _ _ hlt
      have HP := Lib.hid hpos
      clear hpos hr
      by_cases han : a < l.length
      · have hx : l[a]? = some (l[a]'(by omega)) := List.getElem?_eq_getElem _
        obtain ⟨bk, off, rfl, hbw, c0, c1, c2, c3, c4, c5, c6, c7, c8⟩ := (H.out.below hb).Node_at hx
        generalize hxe : l[a]'(by omega) = x at hx c0 c1 c2 c3 c4 c5 c6 c7 c8
        have HX := Lib.hid hx
        clear hx hxe
        go_wp2_with (go_at_call 59; refine (cmpNode _ _ _).mono ?_; rintro e w1 ⟨rfl, hb1⟩; obtain ⟨ext1, d1, rfl⟩ := Below.grown_eq _ hb1)
        go_ret2
        refine ⟨?_, (by repeat (first | exact Below.refl _ _ | assumption | refine Below.drew ?_ | refine Below.drewN' ?_ _ | refine below_grow0 _ _ ?_ | refine below_alloc0 _ ?_ | refine Below.alloc ?_ (by first | omega | (simp; done) | (simp; omega)) _ | refine Below.setCell ?_ (by first | omega | (simp; done) | (simp; omega)) _ | refine Below.grow _ _ _ ?_ (by first | omega | (simp; done) | (simp; omega))))⟩
        rw [isK_in HP.out HX.out, HP.out]
        rfl
      · go_wp2
        go_ret2
        refine ⟨?_, (by repeat (first | exact Below.refl _ _ | assumption | refine Below.drew ?_ | refine Below.drewN' ?_ _ | refine below_grow0 _ _ ?_ | refine below_alloc0 _ ?_ | refine Below.alloc ?_ (by first | omega | (simp; done) | (simp; omega)) _ | refine Below.setCell ?_ (by first | omega | (simp; done) | (simp; omega)) _ | refine Below.grow _ _ _ ?_ (by first | omega | (simp; done) | (simp; omega))))⟩
        rw [isK_out HP.out han, HP.out]
        rfl
end Go.Proofs.YteolglmifimnaaaDoor

/- package tree: find, Get, Open, copied. -/
namespace Go.Proofs.YteolglmifimnaaaDoor
open Go.RowKit Go.ChangeShapes Go.WideShapes Go.ChangeAt
theorem trFind (z : Int) (v : Value) (sa : Option Addr) (sn sc : Nat) (l : List Node) (p : ByteArray) (w : World) (h : Sl cNode 9 w v l) (hn : l.length ≤ 140737488355328) :
    Calls Tryd.prog 38 #[.agg #[.int .i64 z, v, .slice sa sn sc], .string p] w fun e w' => e = .returned (.tuple #[.int .i64 (posN l p), .bool (hasN l p)]) ∧ Below w.heap.size w w' := by
  obtain ⟨A, c, rfl, h1, h2⟩ := h.form
  have H := Lib.hid h
  clear h
  unfold posN hasN
  go_enter Tryd.func38, Tryd.ntmps38
  go_wp2_with (go_at_call 58; refine (bsfNode _ _ _ _ (H.out.alloc _) hn).mono ?_; rintro e w1 ⟨rfl, hb⟩; obtain ⟨ext, d, rfl⟩ := Below.grown_eq _ hb)
  go_ret2
  exact ⟨rfl, (by repeat (first | exact Below.refl _ _ | assumption | refine Below.drew ?_ | refine Below.drewN' ?_ _ | refine below_grow0 _ _ ?_ | refine below_alloc0 _ ?_ | refine Below.alloc ?_ (by first | omega | (simp; done) | (simp; omega)) _ | refine Below.setCell ?_ (by first | omega | (simp; done) | (simp; omega)) _ | refine Below.grow _ _ _ ?_ (by first | omega | (simp; done) | (simp; omega))))⟩
theorem hasN_lt {l : List Node} {p : ByteArray} (h : hasN l p = true) : posN l p < l.length := by
  unfold hasN isK at h
  simp at h
  exact h.1
theorem getN_at {l : List Node} {p : ByteArray} (h : hasN l p = true) : l[posN l p]? = some (getN l p) := by
  have hlt := hasN_lt h
  unfold getN
  rw [if_pos h, List.getD_eq_getElem?_getD, List.getElem?_eq_getElem hlt]
  rfl
abbrev vNode (x : Node) : Value := .agg #[.string x.path, .string x.data, .int .i64 x.czxid, .int .i64 x.mzxid, .int .i64 x.pzxid, .int .i64 x.version, .int .i64 x.cversion, .int .i64 x.owner, .int .i64 x.kids]
set_option maxHeartbeats 400000 in
theorem trGet (z : Int) (v : Value) (sa : Option Addr) (sn sc : Nat) (l : List Node) (p : ByteArray) (w : World) (h : Sl cNode 9 w v l) (hn : l.length ≤ 140737488355328) :
    Calls Tryd.prog 19 #[.agg #[.int .i64 z, v, .slice sa sn sc], .string p] w fun e w' => e = .returned (.tuple #[vNode (getN l p), .int .i64 (getE l p)]) ∧ Below w.heap.size w w' := by
  obtain ⟨A, c, rfl, h1, h2⟩ := h.form
  have H := Lib.hid h
  clear h
  unfold getE
  cases hk : hasN l p with
  | true =>
    have hlt := hasN_lt hk
    obtain ⟨bk, off, rfl, hbw, c0, c1, c2, c3, c4, c5, c6, c7, c8⟩ := H.out.Node_at (getN_at hk)
    rw [if_pos rfl]
    have hcall := fun w' (hs : Sl cNode 9 w' (.slice (some ⟨bk, off, none⟩) l.length c) l) => trFind z _ sa sn sc l p w' hs hn
    rw [hk] at hcall
    generalize getN l p = x at *
    generalize posN l p = q at *
    have HC := Lib.hid hcall
    clear hcall hk
    go_enter Tryd.func19, Tryd.ntmps19
    go_wp2_with (go_at_call 38; refine (HC.out _ (H.out.below (by repeat (first | exact Below.refl _ _ | assumption | refine Below.drew ?_ | refine Below.drewN' ?_ _ | refine below_grow0 _ _ ?_ | refine below_alloc0 _ ?_ | refine Below.alloc ?_ (by first | omega | (simp; done) | (simp; omega)) _ | refine Below.setCell ?_ (by first | omega | (simp; done) | (simp; omega)) _ | refine Below.grow _ _ _ ?_ (by first | omega | (simp; done) | (simp; omega)))))).mono ?_; rintro e w1 ⟨rfl, hb⟩; obtain ⟨ext, d, rfl⟩ := Below.grown_eq _ hb)
    refine bodyPost_ret (v := .tuple #[vNode x, .int .i64 0]) (by simp [results, Tryd.results19, go_sem]) rfl ⟨rfl, (by repeat (first | exact Below.refl _ _ | assumption | refine Below.drew ?_ | refine Below.drewN' ?_ _ | refine below_grow0 _ _ ?_ | refine below_alloc0 _ ?_ | refine Below.alloc ?_ (by first | omega | (simp; done) | (simp; omega)) _ | refine Below.setCell ?_ (by first | omega | (simp; done) | (simp; omega)) _ | refine Below.grow _ _ _ ?_ (by first | omega | (simp; done) | (simp; omega))))⟩
  | false =>
    have hL : getN l p = noNode := by unfold getN; rw [hk]; rfl
    rw [hL, if_neg (by simp)]
    have hcall := fun w' (hs : Sl cNode 9 w' (.slice A l.length c) l) => trFind z _ sa sn sc l p w' hs hn
    rw [hk] at hcall
    clear hk hL
    generalize posN l p = q at *
    have HC := Lib.hid hcall
    clear hcall
    go_enter Tryd.func19, Tryd.ntmps19
    go_wp2_with (go_at_call 38; refine (HC.out _ (H.out.below (by repeat (first | exact Below.refl _ _ | assumption | refine Below.drew ?_ | refine Below.drewN' ?_ _ | refine below_grow0 _ _ ?_ | refine below_alloc0 _ ?_ | refine Below.alloc ?_ (by first | omega | (simp; done) | (simp; omega)) _ | refine Below.setCell ?_ (by first | omega | (simp; done) | (simp; omega)) _ | refine Below.grow _ _ _ ?_ (by first | omega | (simp; done) | (simp; omega)))))).mono ?_; rintro e w1 ⟨rfl, hb⟩; obtain ⟨ext, d, rfl⟩ := Below.grown_eq _ hb)
    refine bodyPost_ret (v := .tuple #[vNode noNode, .int .i64 7]) (by simp [results, Tryd.results19, go_sem]) rfl ⟨rfl, (by repeat (first | exact Below.refl _ _ | assumption | refine Below.drew ?_ | refine Below.drewN' ?_ _ | refine below_grow0 _ _ ?_ | refine below_alloc0 _ ?_ | refine Below.alloc ?_ (by first | omega | (simp; done) | (simp; omega)) _ | refine Below.setCell ?_ (by first | omega | (simp; done) | (simp; omega)) _ | refine Below.grow _ _ _ ?_ (by first | omega | (simp; done) | (simp; omega))))⟩
/-- a tree of the call's own -/
def TrIs (t : Tr) (w : World) (e : Ending) (w' : World) : Prop := ∃ A c A2 c2, e = .returned (.agg #[.int .i64 t.zxid, .slice A t.nodes.length c, .slice A2 t.sess.length c2]) ∧ Ow cNode 9 40 w' w.heap.size (.slice A t.nodes.length c) t.nodes ∧ Ow cInt 1 3 w' w.heap.size (.slice A2 t.sess.length c2) t.sess ∧ Below w.heap.size w w'
set_option maxHeartbeats 400000 in
theorem trCopied (t : Tr) (v v2 : Value) (w : World) (h : Sl cNode 9 w v t.nodes) (h2 : Sl cInt 1 w v2 t.sess) (hn : t.nodes.length * 88 ≤ 140737488355328) (hn2 : t.sess.length * 8 ≤ 140737488355328) :
    Calls Tryd.prog 44 #[.agg #[.int .i64 t.zxid, v, v2]] w (TrIs t w) := by
  obtain ⟨A, c, rfl, h1, h1b⟩ := h.form
  obtain ⟨A2, c2, rfl, h3, h3b⟩ := h2.form
  have H := Lib.hid h
  have H2 := Lib.hid h2
  clear h h2
  obtain ⟨z, l, ss⟩ := t
  simp only at *
  go_enter Tryd.func44, Tryd.ntmps44
  go_upto_region 1 with fail
  refine wp_region_noPanic ?_
  refine wp_region_W (by kernel_rfl) (fun W hW => ?_)
  have cl0 : W.cell? ⟨w.heap.size, 0, none⟩ = some (.int .i64 z) := by rw [hW.out]; go_simp
  have cl1 : W.cell? ⟨w.heap.size, 1, none⟩ = some (.slice A l.length c) := by rw [hW.out]; go_simp
  have cl2 : W.cell? ⟨w.heap.size, 2, none⟩ = some (.slice A2 ss.length c2) := by rw [hW.out]; go_simp
  have hnW := Lib.hid (H.out.below (w' := W) (by rw [hW.out]; exact (by repeat (first | with_reducible exact Below.refl _ _ | with_reducible assumption | with_reducible exact below_d1 _ _ _ _ _ | with_reducible exact below_d2 _ _ _ _ _ _ _ _ | with_reducible exact below_d3 _ _ _ _ _ | with_reducible exact below_d4 _ _ _ _ _ _ _ _ | with_reducible exact below_d5 _ _ | with_reducible refine Below.drew ?_ | with_reducible refine Below.drewN' ?_ _ | with_reducible refine below_grow0 _ _ ?_ | with_reducible refine below_alloc0 _ ?_ | with_reducible refine Below.setCell ?_ ?_ _ | with_reducible refine Below.alloc ?_ ?_ _ | with_reducible refine Below.grow _ _ _ ?_ ?_ | omega | (simp; done) | (simp; omega)))))
  have hsW := Lib.hid (H2.out.below (w' := W) (by rw [hW.out]; exact (by repeat (first | with_reducible exact Below.refl _ _ | with_reducible assumption | with_reducible exact below_d1 _ _ _ _ _ | with_reducible exact below_d2 _ _ _ _ _ _ _ _ | with_reducible exact below_d3 _ _ _ _ _ | with_reducible exact below_d4 _ _ _ _ _ _ _ _ | with_reducible exact below_d5 _ _ | with_reducible refine Below.drew ?_ | with_reducible refine Below.drewN' ?_ _ | with_reducible refine below_grow0 _ _ ?_ | with_reducible refine below_alloc0 _ ?_ | with_reducible refine Below.setCell ?_ ?_ _ | with_reducible refine Below.alloc ?_ ?_ _ | with_reducible refine Below.grow _ _ _ ?_ ?_ | omega | (simp; done) | (simp; omega)))))
  refine wpAny_S (fun w' => w'.cell? ⟨w.heap.size, 0, none⟩ = some (.int .i64 z) ∧ w'.cell? ⟨w.heap.size, 1, none⟩ = some (.slice A l.length c) ∧ w'.cell? ⟨w.heap.size, 2, none⟩ = some (.slice A2 ss.length c2)) (fun i => i == 7 || i == 9) (by (try dsimp only); (refine ⟨?_, ?_, ?_⟩ <;> go_simp)) (fun hHeld => ?_)
  (refine wpE_takeP (i := 0) (v := ?gV1_1) (by simp only [List.getElem?_toArray]; rfl) (by kernel_rfl) (by kernel_rfl) (by kernel_rfl) (by rfl) (fun _ _ _ h => h) (Or.inl ⟨by rfl, ?gY1_1⟩) (by assumption) ?gR1_1; case gY1_1 => (intro w hSw; (try dsimp only at hSw); go_simp <;> with_reducible rfl))
  try simp only [Act.put, List.setIfInBounds_toArray, List.set_cons_zero, List.set_cons_succ]
  (refine wpE_take (i := 1) (v := ?gV1_2) (by simp only [List.getElem?_toArray]; rfl) (by kernel_rfl) (by kernel_rfl) (by kernel_rfl) (by kernel_rfl) (by kernel_rfl) (by rfl) (fun _ _ _ h => h) (Or.inl ⟨by rfl, ?gY1_2⟩) (by assumption) ?gR1_2; case gY1_2 => (intro w hSw; (try dsimp only at hSw); go_simp <;> with_reducible rfl))
  try simp only [Act.put, List.setIfInBounds_toArray, List.set_cons_zero, List.set_cons_succ]
  (refine wpE_takeP (i := 3) (v := ?gV1_3) (by simp only [List.getElem?_toArray]; rfl) (by kernel_rfl) (by kernel_rfl) (by kernel_rfl) (by rfl) (fun _ _ _ h => h) (Or.inl ⟨by rfl, ?gY1_3⟩) (by assumption) ?gR1_3; case gY1_3 => (intro w hSw; (try dsimp only at hSw); go_simp <;> with_reducible rfl))
  try simp only [Act.put, List.setIfInBounds_toArray, List.set_cons_zero, List.set_cons_succ]
  (refine wpE_take (i := 4) (v := ?gV1_4) (by simp only [List.getElem?_toArray]; rfl) (by kernel_rfl) (by kernel_rfl) (by kernel_rfl) (by kernel_rfl) (by kernel_rfl) (by rfl) (fun _ _ _ h => h) (Or.inl ⟨by rfl, ?gY1_4⟩) (by assumption) ?gR1_4; case gY1_4 => (intro w hSw; (try dsimp only at hSw); go_simp <;> with_reducible rfl))
  try simp only [Act.put, List.setIfInBounds_toArray, List.set_cons_zero, List.set_cons_succ]
  refine wpE_ready (rs := [2]) (by kernel_rfl) (by simp) ?_
  refine AllE.cons (by simp only [List.getElem?_toArray]; rfl) (fun K hK => ?_) AllE.nil
  go_simp
  (go_at_call 63; (with_reducible refine (cloneNode _ _ _ (hnW.out.below (by repeat (first | with_reducible exact Below.refl _ _ | with_reducible assumption | with_reducible exact below_d1 _ _ _ _ _ | with_reducible exact below_d2 _ _ _ _ _ _ _ _ | with_reducible exact below_d3 _ _ _ _ _ | with_reducible exact below_d4 _ _ _ _ _ _ _ _ | with_reducible exact below_d5 _ _ | with_reducible refine Below.drew ?_ | with_reducible refine Below.drewN' ?_ _ | with_reducible refine below_grow0 _ _ ?_ | with_reducible refine below_alloc0 _ ?_ | with_reducible refine Below.setCell ?_ ?_ _ | with_reducible refine Below.alloc ?_ ?_ _ | with_reducible refine Below.grow _ _ _ ?_ ?_ | omega | (simp; done) | (simp; omega)))) hn (by simp [maxLen]; omega)).mono ?_); rintro e w1 ⟨A', c', rfl, hown, hb⟩; obtain ⟨ext, d, rfl⟩ := Below.grown_eq _ hb; have HO := Lib.hid hown; clear hown hb)
  refine hK.out _ _ ?gT1_5 (fun hHeld => ?_)
  case gT1_5 => ((try dsimp only); (refine ⟨?_, ?_, ?_⟩ <;> go_simp))
  clear hK K
  try simp only [Act.put, List.setIfInBounds_toArray, List.set_cons_zero, List.set_cons_succ]
  (refine wpE_takeP (i := 6) (v := ?gV1_6) (by simp only [List.getElem?_toArray]; rfl) (by kernel_rfl) (by kernel_rfl) (by kernel_rfl) (by rfl) (fun _ _ _ h => h) (Or.inl ⟨by rfl, ?gY1_6⟩) (by assumption) ?gR1_6; case gY1_6 => (intro w hSw; (try dsimp only at hSw); go_simp <;> with_reducible rfl))
  try simp only [Act.put, List.setIfInBounds_toArray, List.set_cons_zero, List.set_cons_succ]
  refine wpE_ready (rs := [5]) (by kernel_rfl) (by simp) ?_
  refine AllE.cons (by simp only [List.getElem?_toArray]; rfl) (fun K hK => ?_) AllE.nil
  go_simp
  (go_at_call 64; (with_reducible refine (cloneInts _ _ _ (hsW.out.below (by repeat (first | with_reducible exact Below.refl _ _ | with_reducible assumption | with_reducible exact below_d1 _ _ _ _ _ | with_reducible exact below_d2 _ _ _ _ _ _ _ _ | with_reducible exact below_d3 _ _ _ _ _ | with_reducible exact below_d4 _ _ _ _ _ _ _ _ | with_reducible exact below_d5 _ _ | with_reducible refine Below.drew ?_ | with_reducible refine Below.drewN' ?_ _ | with_reducible refine below_grow0 _ _ ?_ | with_reducible refine below_alloc0 _ ?_ | with_reducible refine Below.setCell ?_ ?_ _ | with_reducible refine Below.alloc ?_ ?_ _ | with_reducible refine Below.grow _ _ _ ?_ ?_ | omega | (simp; done) | (simp; omega)))) hn2 (by simp [maxLen]; omega)).mono ?_); rintro e w3 ⟨A3, c3, rfl, hown3, hb3⟩; obtain ⟨ext3, d3, rfl⟩ := Below.grown_eq _ hb3; have HO3 := Lib.hid hown3; clear hown3 hb3; have hWW := hW.out; subst hWW)
  refine hK.out _ _ ?gT1_7 (fun hHeld => ?_)
  case gT1_7 => ((try dsimp only); (refine ⟨?_, ?_, ?_⟩ <;> go_simp))
  clear hK K
  try simp only [Act.put, List.setIfInBounds_toArray, List.set_cons_zero, List.set_cons_succ]
  refine wpE_ready (rs := [7]) (by kernel_rfl) (by simp) ?_
  refine AllE.last (by simp only [List.getElem?_toArray]; rfl) (by kernel_rfl) (fun K hK => ?_) AllE.nil
  go_simp
  refine hK.out _ _ ?_
  clear hK K
  try simp only [Act.put, List.setIfInBounds_toArray, List.set_cons_zero, List.set_cons_succ]
  (refine wpE_takeQ (i := 8) (v := ?gV1_9) (by simp only [List.getElem?_toArray]; rfl) (by kernel_rfl) (by kernel_rfl) (by kernel_rfl) (by rfl) (fun _ _ _ h => h) (Or.inl ⟨by rfl, ?gY1_9⟩) (by kernel_rfl) ?gR1_9; case gY1_9 => (intro w hSw; (try dsimp only at hSw); go_simp <;> with_reducible rfl))
  try simp only [Act.put, List.setIfInBounds_toArray, List.set_cons_zero, List.set_cons_succ]
  refine wpE_ready (rs := [9]) (by kernel_rfl) (by simp) ?_
  refine AllE.last (by simp only [List.getElem?_toArray]; rfl) (by kernel_rfl) (fun K hK => ?_) AllE.nil
  go_simp
  refine hK.out _ _ ?_
  clear hK K
  try simp only [Act.put, List.setIfInBounds_toArray, List.set_cons_zero, List.set_cons_succ]
  refine wpE_done (by kernel_rfl) ?_ _
  refine NoPanic.normal ?_
  go_wp2_with fail
  refine bodyPost_ret (v := .agg #[.int .i64 z, .slice A' l.length c', .slice A3 ss.length c3]) (by simp [results, Tryd.results44, go_sem]) rfl ⟨A', c', A3, c3, rfl, ?_, ?_, (by repeat (first | with_reducible exact Below.refl _ _ | with_reducible assumption | with_reducible exact below_d1 _ _ _ _ _ | with_reducible exact below_d2 _ _ _ _ _ _ _ _ | with_reducible exact below_d3 _ _ _ _ _ | with_reducible exact below_d4 _ _ _ _ _ _ _ _ | with_reducible exact below_d5 _ _ | with_reducible refine Below.drew ?_ | with_reducible refine Below.drewN' ?_ _ | with_reducible refine below_grow0 _ _ ?_ | with_reducible refine below_alloc0 _ ?_ | with_reducible refine Below.setCell ?_ ?_ _ | with_reducible refine Below.alloc ?_ ?_ _ | with_reducible refine Below.grow _ _ _ ?_ ?_ | omega | (simp; done) | (simp; omega)))⟩
  · refine Ow.mono (Ow.moved (W' := ?w9) (d' := ?x9) HO.out (Nat.le_refl _) ?b9 ?z9) (by simp <;> omega)
    case b9 => exact (by repeat (first | with_reducible exact Below.refl _ _ | with_reducible assumption | with_reducible exact below_d1 _ _ _ _ _ | with_reducible exact below_d2 _ _ _ _ _ _ _ _ | with_reducible exact below_d3 _ _ _ _ _ | with_reducible exact below_d4 _ _ _ _ _ _ _ _ | with_reducible exact below_d5 _ _ | with_reducible refine Below.drew ?_ | with_reducible refine Below.drewN' ?_ _ | with_reducible refine below_grow0 _ _ ?_ | with_reducible refine below_alloc0 _ ?_ | with_reducible refine Below.setCell ?_ ?_ _ | with_reducible refine Below.alloc ?_ ?_ _ | with_reducible refine Below.grow _ _ _ ?_ ?_ | omega | (simp; done) | (simp; omega)))
    case z9 => simp
  · refine Ow.mono (Ow.moved (W' := ?w8) (d' := ?x8) HO3.out (Nat.le_refl _) ?b8 ?z8) (by simp <;> omega)
    case b8 => exact (by repeat (first | with_reducible exact Below.refl _ _ | with_reducible assumption | with_reducible exact below_d1 _ _ _ _ _ | with_reducible exact below_d2 _ _ _ _ _ _ _ _ | with_reducible exact below_d3 _ _ _ _ _ | with_reducible exact below_d4 _ _ _ _ _ _ _ _ | with_reducible exact below_d5 _ _ | with_reducible refine Below.drew ?_ | with_reducible refine Below.drewN' ?_ _ | with_reducible refine below_grow0 _ _ ?_ | with_reducible refine below_alloc0 _ ?_ | with_reducible refine Below.setCell ?_ ?_ _ | with_reducible refine Below.alloc ?_ ?_ _ | with_reducible refine Below.grow _ _ _ ?_ ?_ | omega | (simp; done) | (simp; omega)))
    case z8 => simp
end Go.Proofs.YteolglmifimnaaaDoor
