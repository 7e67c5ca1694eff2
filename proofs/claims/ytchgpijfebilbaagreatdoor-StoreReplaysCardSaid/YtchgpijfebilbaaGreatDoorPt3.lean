/- Lemmas for the statement: TreeW, TreeX, MakeP, PrepM, Srv, Clear, T5, T4F, T5F, T3F, Disk, Disk2, Disk3, Disk4. -/
import Derived.Test.YtchgpijfebilbaaGreatDoorPt1
import Derived.Test.YtchgpijfebilbaaGreatDoorPt2
/- Trees: plain laws of a good tree, and of what is done to one. -/
namespace Go.Proofs.YtchgpijfebilbaaGreatDoor
open Go.RowKit
theorem split_slash : splitR slash = (⟨#[]⟩, ⟨#[]⟩, 7) := by unfold splitR; rw [if_pos good_slash, if_pos rfl]
theorem split_not {p : ByteArray} (h : goodP p = true) : (splitR p).2.2 = 0 ↔ p ≠ slash := by
  constructor
  · intro h0 e
    rw [e, split_slash] at h0
    cases h0
  · intro hs
    exact (split_join h hs).2.2.2
theorem kidB_iff {n : Node} (hg : goodP n.path = true) (q : ByteArray) : kidB q n = true ↔ n.path ≠ slash ∧ parent n.path = q := by
  unfold kidB
  rw [Bool.and_eq_true, decide_eq_true_iff, decide_eq_true_iff, split_not hg]
theorem parent_lt {p : ByteArray} (hg : goodP p = true) (hs : p ≠ slash) : (bs (parent p)).length < (bs p).length := by
  obtain ⟨h1, h2, h3, _⟩ := split_join hg hs
  obtain ⟨_, hn1, _⟩ := named_no h3
  unfold joinR at h1
  rw [h2, h3, Bool.and_self, if_pos rfl] at h1
  by_cases h4 : 200 < (joinT (splitR p).1 (splitR p).2.1).size
  · rw [if_pos h4] at h1
    injection h1 with _ h1
    cases h1
  · rw [if_neg h4] at h1
    injection h1 with h1 _
    have h5 : (bs (joinT (splitR p).1 (splitR p).2.1)).length = (bs p).length := congrArg (fun x => (bs x).length) h1
    unfold joinT at h5
    show (bs (splitR p).1).length < _
    split at h5
    · rename_i e
      rw [bs_append, List.length_append] at h5
      rw [e]
      omega
    · rw [bs_append, bs_append, List.length_append, List.length_append] at h5
      omega
theorem parent_ne {p : ByteArray} (hg : goodP p = true) (hs : p ≠ slash) : parent p ≠ p := by
  intro e
  have := parent_lt hg hs
  rw [e] at this
  omega
structure GoodW (z : Int) (l : List Node) (ss : List Int) : Prop where
  len : l.length ≤ 400
  zx : 0 ≤ z ∧ z < 4611686018427387904
  root : ∃ n r, l = n :: r ∧ n.path = slash ∧ n.owner = 0
  sorted : SortedN l
  sess : ss.Pairwise (· < ·)
  sessB : ∀ s ∈ ss, 1 ≤ s ∧ s ≤ 2147483647
  path : ∀ n ∈ l, goodP n.path = true ∧ n.data.size ≤ 256
  stat : ∀ n ∈ l, 0 ≤ n.version ∧ n.version ≤ 2147483647 ∧ 0 ≤ n.cversion ∧ 0 ≤ n.czxid ∧ n.czxid ≤ n.mzxid ∧ n.czxid ≤ n.pzxid ∧ n.mzxid ≤ z ∧ n.pzxid ≤ z
  own : ∀ n ∈ l, n.owner = 0 ∨ (n.owner ∈ ss ∧ n.kids = 0)
  up : ∀ n ∈ l, n.path = slash ∨ ∃ m ∈ l, m.path = parent n.path
  kids : ∀ n ∈ l, n.kids = ((l.countP (kidB n.path) : Nat) : Int)
theorem okN_at {z : Int} {l : List Node} {ss : List Int} {k : Nat} {x : Node} (h : l[k]? = some x) : okN ⟨z, l, ss⟩ k = (goodP x.path && (decide (x.data.size ≤ 256) && (lessB l k x && (statB z x && (ownB ss x && upB l x))))) := by
  unfold okN
  simp only [h]
theorem lessB_s {l : List Node} {j : Nat} {y : Node} (h : l[j]? = some y) (x : Node) : lessB l (j + 1) x = decide (cmpB y.path x.path < 0) := by
  unfold lessB
  simp only [h]
theorem okS_0 {l : List Int} {s : Int} (h : l[0]? = some s) : okS l 0 = (decide (1 ≤ s) && (decide (s ≤ 2147483647) && true)) := by unfold okS; rw [h]
theorem okS_s {l : List Int} {j : Nat} {s y : Int} (h : l[j + 1]? = some s) (hy : l[j]? = some y) : okS l (j + 1) = (decide (1 ≤ s) && (decide (s ≤ 2147483647) && decide (y < s))) := by
  unfold okS
  rw [h]
  simp only [hy]
theorem okS_b {l : List Int} {i : Nat} {s : Int} (h : l[i]? = some s) (hk : okS l i = true) : 1 ≤ s ∧ s ≤ 2147483647 := by
  unfold okS at hk
  rw [h] at hk
  simp only [Bool.and_eq_true, decide_eq_true_eq] at hk
  exact ⟨hk.1, hk.2.1⟩
theorem head_inv {z : Int} {l : List Node} {ss : List Int} (h : headB ⟨z, l, ss⟩ = true) : l.length ≤ 400 ∧ Zx z ∧ ∃ n, l[0]? = some n ∧ n.path = slash ∧ n.owner = 0 := by
  cases l with
  | nil => simp [headB] at h
  | cons n r =>
    unfold headB at h
    simp only [Bool.and_eq_true, decide_eq_true_eq] at h
    exact ⟨h.1, h.2.1, n, rfl, h.2.2⟩
theorem upB_iff {l : List Node} (hs : SortedN l) {n : Node} (hg : goodP n.path = true) : upB l n = true ↔ (n.path = slash ∨ ∃ m ∈ l, m.path = parent n.path) := by
  unfold upB
  rw [Bool.or_eq_true, decide_eq_true_iff, has_iff hs, Ne, split_not hg, Classical.not_not]
theorem ownB_iff {ss : List Int} (hs : ss.Pairwise (· < ·)) (n : Node) : ownB ss n = true ↔ (n.owner = 0 ∨ (n.owner ∈ ss ∧ n.kids = 0)) := by
  unfold ownB
  rw [Bool.or_eq_true, Bool.and_eq_true, decide_eq_true_iff, decide_eq_true_iff, isI_iff hs]
theorem full_no {l : List Node} : fullB l = false ↔ ∀ n ∈ l, n.cversion ≤ 2147483647 := by
  unfold fullB
  rw [List.any_eq_false]
  constructor
  · intro h n hn
    have := h n hn
    rw [decide_eq_true_iff] at this
    omega
  · intro h n hn
    rw [decide_eq_true_iff]
    have := h n hn
    omega
theorem good_iff (z : Int) (l : List Node) (ss : List Int) : goodTree ⟨z, l, ss⟩ = true ↔ GoodW z l ss ∧ fullB l = false := by
  unfold goodTree
  simp only [Bool.and_eq_true, List.all_eq_true, List.mem_range, decide_eq_true_eq]
  constructor
  · rintro ⟨hh, hS, hN, hK⟩
    obtain ⟨hl, hz, n0, hn0, hp0, ho0⟩ := head_inv hh
    have hN' : ∀ i n, l[i]? = some n → goodP n.path = true ∧ n.data.size ≤ 256 ∧ lessB l i n = true ∧ statB z n = true ∧ ownB ss n = true ∧ upB l n = true := by
      intro i n hi
      have := hN i (List.getElem?_eq_some_iff.1 hi).1
      rw [okN_at hi] at this
      simp only [Bool.and_eq_true, decide_eq_true_eq] at this
      exact this
    have hsess : ss.Pairwise (· < ·) := pw_of_adj (R := fun (a b : Int) => a < b) (fun _ _ _ => Int.lt_trans) ss (fun i x y hx hy => by
      have := hS (i + 1) (List.getElem?_eq_some_iff.1 hy).1
      rw [okS_s hy hx] at this
      simp only [Bool.and_eq_true, decide_eq_true_eq] at this
      exact this.2.2)
    have hsort : SortedN l := pw_of_adj (R := ltN) (fun _ _ _ => ltN_trans) l (fun i x y hx hy => by
      have := (hN' (i + 1) y hy).2.2.1
      rw [lessB_s hx] at this
      exact (of_decide_eq_true this : cmpB x.path y.path < 0))
    have hst : ∀ n ∈ l, 0 ≤ n.version ∧ n.version ≤ 2147483647 ∧ 0 ≤ n.cversion ∧ n.cversion ≤ 2147483647 ∧ 0 ≤ n.czxid ∧ n.czxid ≤ n.mzxid ∧ n.czxid ≤ n.pzxid ∧ n.mzxid ≤ z ∧ n.pzxid ≤ z := by
      intro n hn
      obtain ⟨i, hi⟩ := List.mem_iff_getElem?.1 hn
      exact of_decide_eq_true (hN' i n hi).2.2.2.1
    refine ⟨⟨hl, hz, ?_, hsort, hsess, ?_, ?_, ?_, ?_, ?_, ?_⟩, full_no.2 (fun n hn => (hst n hn).2.2.2.1)⟩
    · cases l with
      | nil => cases hn0
      | cons n r =>
        injection hn0 with hn0
        subst hn0
        exact ⟨n, r, rfl, hp0, ho0⟩
    · intro s hs
      obtain ⟨i, hi⟩ := List.mem_iff_getElem?.1 hs
      exact okS_b hi (hS i (List.getElem?_eq_some_iff.1 hi).1)
    · intro n hn
      obtain ⟨i, hi⟩ := List.mem_iff_getElem?.1 hn
      exact ⟨(hN' i n hi).1, (hN' i n hi).2.1⟩
    · intro n hn
      obtain ⟨a, b, c, d, e⟩ := hst n hn
      exact ⟨a, b, c, e⟩
    · intro n hn
      obtain ⟨i, hi⟩ := List.mem_iff_getElem?.1 hn
      exact (ownB_iff hsess n).1 (hN' i n hi).2.2.2.2.1
    · intro n hn
      obtain ⟨i, hi⟩ := List.mem_iff_getElem?.1 hn
      exact (upB_iff hsort (hN' i n hi).1).1 (hN' i n hi).2.2.2.2.2
    · exact hK
  · rintro ⟨h, hf⟩
    refine ⟨?_, ?_, ?_, h.kids⟩
    · obtain ⟨n, r, rfl, hp, ho⟩ := h.root
      unfold headB
      simp only [Bool.and_eq_true, decide_eq_true_eq]
      exact ⟨h.len, h.zx, hp, ho⟩
    · intro i hi
      have hx := List.getElem?_eq_getElem hi
      have hb := h.sessB _ (List.mem_of_getElem? hx)
      cases i with
      | zero =>
        rw [okS_0 hx, decide_eq_true hb.1, decide_eq_true hb.2]
        rfl
      | succ j =>
        have hy := List.getElem?_eq_getElem (l := ss) (i := j) (by omega)
        rw [okS_s hx hy, decide_eq_true hb.1, decide_eq_true hb.2, decide_eq_true (adj_of_pw h.sess (Nat.lt_succ_self j) hy hx)]
        rfl
    · intro i hi
      have hx := List.getElem?_eq_getElem hi
      generalize l[i] = n at hx
      have hm := List.mem_of_getElem? hx
      rw [okN_at hx]
      simp only [Bool.and_eq_true, decide_eq_true_eq]
      refine ⟨(h.path n hm).1, (h.path n hm).2, ?_, ?_, (ownB_iff h.sess n).2 (h.own n hm), (upB_iff h.sorted (h.path n hm).1).2 (h.up n hm)⟩
      · cases i with
        | zero => rfl
        | succ j =>
          have hy := List.getElem?_eq_getElem (l := l) (i := j) (by omega)
          rw [lessB_s hy]
          exact decide_eq_true (adj_of_pw h.sorted (Nat.lt_succ_self j) hy hx)
      · obtain ⟨a, b, c, e⟩ := h.stat n hm
        exact decide_eq_true ⟨a, b, c, full_no.1 hf n hm, e⟩
theorem good_parts {t : Tr} (h : goodTree t = true) : GoodW t.zxid t.nodes t.sess ∧ fullB t.nodes = false := (good_iff t.zxid t.nodes t.sess).1 h
section
variable {z z' : Int} {l : List Node} {ss : List Int}
theorem GoodW.rootOf (h : GoodW z l ss) {n : Node} (hn : n ∈ l) (hp : n.path = slash) : n.owner = 0 := by
  obtain ⟨m, r, e, hmp, hmo⟩ := h.root
  have hm : m ∈ l := by rw [e]; simp
  rw [uniqN h.sorted hn hm (hp.trans hmp.symm)]
  exact hmo
theorem GoodW.no_kid (h : GoodW z l ss) {x m : Node} (hx : x ∈ l) (hk : x.kids = 0) (hm : m ∈ l) (hms : m.path ≠ slash) : parent m.path ≠ x.path := by
  intro e
  have h1 := h.kids x hx
  rw [hk] at h1
  have h2 : 0 < l.countP (kidB x.path) := List.countP_pos_iff.2 ⟨m, hm, (kidB_iff (h.path m hm).1 _).2 ⟨hms, e⟩⟩
  omega
theorem GoodW.parent_free (h : GoodW z l ss) {x m : Node} (hm : m ∈ l) (hms : m.path ≠ slash) (hx : x ∈ l) (e : x.path = parent m.path) : x.owner = 0 := by
  rcases h.own x hx with h0 | ⟨_, hk⟩
  · exact h0
  · exact absurd e.symm (h.no_kid hx hk hm hms)
theorem GoodW.later (h : GoodW z l ss) (hz : z ≤ z') (hz2 : z' < 4611686018427387904) : GoodW z' l ss :=
  ⟨h.len, ⟨by have := h.zx; omega, hz2⟩, h.root, h.sorted, h.sess, h.sessB, h.path, fun n hn => by have := h.stat n hn; omega, h.own, h.up, h.kids⟩
theorem GoodW.with_sess (h : GoodW z l ss) {ts : List Int} (h1 : ts.Pairwise (· < ·)) (h2 : ∀ s ∈ ts, 1 ≤ s ∧ s ≤ 2147483647) (h3 : ∀ n ∈ l, n.owner = 0 ∨ n.owner ∈ ts) : GoodW z l ts :=
  ⟨h.len, h.zx, h.root, h.sorted, h1, h2, h.path, h.stat, fun n hn => by
    rcases h3 n hn with h0 | h0
    · exact .inl h0
    · rcases h.own n hn with h4 | ⟨_, h4⟩
      · exact .inl h4
      · exact .inr ⟨h0, h4⟩, h.up, h.kids⟩
theorem filter_cut (hs : SortedN l) {x : Node} (hx : x ∈ l) : ∃ a b, l = a ++ x :: b ∧ l.filter (fun n => decide (n.path ≠ x.path)) = a ++ b := by
  obtain ⟨k, hk⟩ := List.mem_iff_getElem?.1 hx
  refine ⟨l.take k, l.drop (k + 1), cut_get hk, ?_⟩
  have h1 := delN_filter hs (at_ofN hs hk).2
  rw [← h1]
  unfold delN
  rw [(at_ofN hs hk).1]
theorem goneN_is (hs : SortedN l) {x : Node} (hx : x ∈ l) (zz : Int) : goneN l x.path zz = (l.filter (fun n => decide (n.path ≠ x.path))).map (bumpAt (parent x.path) (-1) zz) := by
  have hd := delN_filter hs (get_ofN hs hx).1
  unfold goneN
  rw [kidN_map (by rw [hd]; exact sorted_filter hs _), hd]
theorem mem_gone (hs : SortedN l) {x : Node} (hx : x ∈ l) (zz : Int) (n : Node) : n ∈ goneN l x.path zz ↔ ∃ m ∈ l, m.path ≠ x.path ∧ n = bumpAt (parent x.path) (-1) zz m := by
  rw [goneN_is hs hx, List.mem_map]
  constructor
  · rintro ⟨m, hm, rfl⟩
    rw [List.mem_filter] at hm
    exact ⟨m, hm.1, by simpa using hm.2, rfl⟩
  · rintro ⟨m, hm, hne, rfl⟩
    exact ⟨m, List.mem_filter.2 ⟨hm, by simpa using hne⟩, rfl⟩
theorem gone_length (hs : SortedN l) {x : Node} (hx : x ∈ l) (zz : Int) : (goneN l x.path zz).length + 1 = l.length := by
  obtain ⟨a, b, e, hf⟩ := filter_cut hs hx
  rw [goneN_is hs hx, List.length_map, hf]
  rw [e]
  simp
  omega
theorem bumpAt_own (d : ByteArray) (more zz : Int) (n : Node) : (bumpAt d more zz n).owner = n.owner := by unfold bumpAt; split <;> rfl
theorem bumpAt_data (d : ByteArray) (more zz : Int) (n : Node) : (bumpAt d more zz n).data = n.data := by unfold bumpAt; split <;> rfl
theorem bumpAt_version (d : ByteArray) (more zz : Int) (n : Node) : (bumpAt d more zz n).version = n.version := by unfold bumpAt; split <;> rfl
theorem good_gone (h : GoodW z l ss) {x : Node} (hx : x ∈ l) (hne : x.path ≠ slash) (hk : x.kids = 0) : GoodW z (goneN l x.path z) ss := by
  obtain ⟨a, b, e, hf⟩ := filter_cut h.sorted hx
  have hmem := mem_gone h.sorted hx z
  have hxk := fun q => kidB_iff (h.path x hx).1 q
  refine ⟨?_, h.zx, ?_, ?_, h.sess, h.sessB, ?_, ?_, ?_, ?_, ?_⟩
  · have := gone_length h.sorted hx z
    have := h.len
    omega
  · obtain ⟨n, r, e2, hp, ho⟩ := h.root
    rw [goneN_is h.sorted hx, e2, List.filter_cons_of_pos (by rw [hp]; simpa using fun e => hne e.symm), List.map_cons]
    exact ⟨_, _, rfl, by rw [bumpAt_path]; exact hp, by rw [bumpAt_own]; exact ho⟩
  · rw [goneN_is h.sorted hx]
    exact sorted_map (sorted_filter h.sorted _) (bumpAt_path _ _ _)
  · intro n hn
    obtain ⟨m, hm, _, rfl⟩ := (hmem n).1 hn
    rw [bumpAt_path, bumpAt_data]
    exact h.path m hm
  · intro n hn
    obtain ⟨m, hm, _, rfl⟩ := (hmem n).1 hn
    have := h.stat m hm
    unfold bumpAt
    split
    · simp only [bump]
      omega
    · exact this
  · intro n hn
    obtain ⟨m, hm, _, rfl⟩ := (hmem n).1 hn
    unfold bumpAt
    split
    · rename_i hd
      exact .inl (show m.owner = 0 from h.parent_free hx hne hm hd)
    · exact h.own m hm
  · intro n hn
    obtain ⟨m, hm, hmx, rfl⟩ := (hmem n).1 hn
    rw [bumpAt_path]
    rcases h.up m hm with h0 | ⟨q, hq, hqp⟩
    · exact .inl h0
    · by_cases hms : m.path = slash
      · exact .inl hms
      refine .inr ⟨bumpAt (parent x.path) (-1) z q, (hmem _).2 ⟨q, hq, ?_, rfl⟩, by rw [bumpAt_path]; exact hqp⟩
      rw [hqp]
      exact h.no_kid hx hk hm hms
  · intro n hn
    obtain ⟨m, hm, hmx, rfl⟩ := (hmem n).1 hn
    rw [goneN_is h.sorted hx, countP_map' (bumpAt_path _ _ _), bumpAt_path, hf]
    have h1 := h.kids m hm
    rw [e, List.countP_append, List.countP_cons] at h1
    rw [List.countP_append]
    unfold bumpAt
    by_cases hd : m.path = parent x.path
    · rw [if_pos hd]
      rw [if_pos ((hxk _).2 ⟨hne, hd.symm⟩)] at h1
      simp only [bump]
      omega
    · rw [if_neg hd]
      rw [if_neg (by rw [hxk]; exact fun e => hd e.2.symm)] at h1
      omega
theorem makeN_is (hs : SortedN l) (x : Txn) (hno : hasN l x.path = false) : ∃ a b, l = a ++ b ∧ makeN l x = (a ++ nodeOf x :: b).map (bumpAt (parent x.path) 1 x.zxid) ∧ SortedN (a ++ nodeOf x :: b) := by
  obtain ⟨a, b, e, h1, h2⟩ := insN_parts hs (x := nodeOf x) hno
  refine ⟨a, b, e, ?_, h2⟩
  unfold makeN
  rw [h1, kidN_map h2]
theorem bump_new (x : Txn) (hg : goodP x.path = true) (hne : x.path ≠ slash) (more zz : Int) : bumpAt (parent x.path) more zz (nodeOf x) = nodeOf x := by
  unfold bumpAt
  rw [if_neg]
  exact fun e => parent_ne hg hne e.symm
theorem mem_make (hs : SortedN l) (x : Txn) (hno : hasN l x.path = false) (hg : goodP x.path = true) (hne : x.path ≠ slash) (n : Node) : n ∈ makeN l x ↔ n = nodeOf x ∨ ∃ m ∈ l, n = bumpAt (parent x.path) 1 x.zxid m := by
  obtain ⟨a, b, e, h1, _⟩ := makeN_is hs x hno
  rw [h1, e]
  simp only [List.map_append, List.map_cons, bump_new x hg hne, List.mem_append, List.mem_cons, List.mem_map]
  constructor
  · rintro (⟨m, hm, rfl⟩ | rfl | ⟨m, hm, rfl⟩)
    · exact .inr ⟨m, .inl hm, rfl⟩
    · exact .inl rfl
    · exact .inr ⟨m, .inr hm, rfl⟩
  · rintro (rfl | ⟨m, hm | hm, rfl⟩)
    · exact .inr (.inl rfl)
    · exact .inl ⟨m, hm, rfl⟩
    · exact .inr (.inr ⟨m, hm, rfl⟩)
theorem good_make (h : GoodW z l ss) (x : Txn) (hxz : x.zxid = z) (hno : hasN l x.path = false) (hg : goodP x.path = true) (hne : x.path ≠ slash) (hd : x.data.size ≤ 256) (hlen : l.length < 400)
    (hown : x.owner = 0 ∨ x.owner ∈ ss) {u : Node} (hu : u ∈ l) (hup : u.path = parent x.path) (huo : u.owner = 0) : GoodW z (makeN l x) ss := by
  obtain ⟨a, b, e, hm1, hsort⟩ := makeN_is h.sorted x hno
  have hmem := mem_make h.sorted x hno hg hne
  have hnop := (has_no h.sorted).1 hno
  have hz := h.zx
  subst hxz
  refine ⟨?_, h.zx, ?_, ?_, h.sess, h.sessB, ?_, ?_, ?_, ?_, ?_⟩
  · rw [hm1, List.length_map, List.length_append, List.length_cons]
    rw [e, List.length_append] at hlen
    omega
  · obtain ⟨n, r, e2, hp, ho⟩ := h.root
    have hsl : ∀ m : Node, ltN m (nodeOf x) ∨ ltN (nodeOf x) m → True := fun _ _ => trivial
    cases a with
    | nil =>
      exfalso
      rw [List.nil_append] at e
      rw [e2] at e
      subst e
      rw [List.nil_append] at hsort
      unfold SortedN at hsort
      rw [List.pairwise_cons] at hsort
      have h1 : ltN (nodeOf x) n := hsort.1 n (by simp)
      unfold ltN at h1
      rw [hp] at h1
      have h2 := (goodP_pre hg hne).1
      obtain ⟨q, hq⟩ := bs_pre h2
      have h3 : cmpB (nodeOf x).path slash = Lib.compareBytes (47 :: q) [47] := by
        show Lib.compareBytes (bs x.path) (bs slash) = _
        rw [hq, slash_bs]
      rw [h3] at h1
      have h4 : q ≠ [] := fun e => hne (bs_inj (by rw [hq, e, slash_bs]))
      cases q with
      | nil => exact h4 rfl
      | cons c q => simp [Lib.compareBytes] at h1
    | cons a0 a =>
      rw [e2, List.cons_append] at e
      injection e with e3 e4
      subst e3
      rw [hm1, List.cons_append, List.map_cons]
      exact ⟨_, _, rfl, by rw [bumpAt_path]; exact hp, by rw [bumpAt_own]; exact ho⟩
  · rw [hm1]
    exact sorted_map hsort (bumpAt_path _ _ _)
  · intro n hn
    rcases (hmem n).1 hn with rfl | ⟨m, hm, rfl⟩
    · exact ⟨hg, hd⟩
    · rw [bumpAt_path, bumpAt_data]
      exact h.path m hm
  · intro n hn
    rcases (hmem n).1 hn with rfl | ⟨m, hm, rfl⟩
    · simp only [nodeOf]
      omega
    · have := h.stat m hm
      unfold bumpAt
      split
      · simp only [bump]
        omega
      · exact this
  · intro n hn
    rcases (hmem n).1 hn with rfl | ⟨m, hm, rfl⟩
    · rcases hown with h0 | h0
      · exact .inl h0
      · exact .inr ⟨h0, rfl⟩
    · unfold bumpAt
      split
      · rename_i hd2
        left
        rw [uniqN h.sorted hm hu (hd2.trans hup.symm)]
        exact huo
      · exact h.own m hm
  · intro n hn
    rcases (hmem n).1 hn with rfl | ⟨m, hm, rfl⟩
    · exact .inr ⟨_, (hmem _).2 (.inr ⟨u, hu, rfl⟩), by rw [bumpAt_path]; exact hup⟩
    · rw [bumpAt_path]
      rcases h.up m hm with h0 | ⟨q, hq, hqp⟩
      · exact .inl h0
      · exact .inr ⟨_, (hmem _).2 (.inr ⟨q, hq, rfl⟩), by rw [bumpAt_path]; exact hqp⟩
  · have hk := fun q => kidB_iff (n := nodeOf x) hg q
    have hc : ∀ q, ((makeN l x).countP (kidB q) : Nat) = l.countP (kidB q) + (if kidB q (nodeOf x) = true then 1 else 0) := by
      intro q
      rw [hm1, countP_map' (bumpAt_path _ _ _), e, List.countP_append, List.countP_append, List.countP_cons]
      omega
    intro n hn
    rw [hc]
    rcases (hmem n).1 hn with rfl | ⟨m, hm, rfl⟩
    · rw [if_neg (by rw [hk]; exact fun e => parent_ne hg hne e.2)]
      have h0 : l.countP (kidB (nodeOf x).path) = 0 := by
        rw [List.countP_eq_zero]
        intro m hm hkm
        obtain ⟨hms, hmp⟩ := (kidB_iff (h.path m hm).1 _).1 hkm
        rcases h.up m hm with h0 | ⟨q, hq, hqp⟩
        · exact hms h0
        · exact hnop q hq (hqp.trans hmp)
      rw [h0]
      rfl
    · rw [bumpAt_path]
      have h1 := h.kids m hm
      unfold bumpAt
      by_cases hd2 : m.path = parent x.path
      · rw [if_pos hd2, if_pos ((hk _).2 ⟨hne, hd2.symm⟩)]
        simp only [bump]
        omega
      · rw [if_neg hd2, if_neg (by rw [hk]; exact fun e => hd2 e.2.symm)]
        omega
theorem mem_set (hs : SortedN l) {x : Txn} (h : hasN l x.path = true) (n : Node) : n ∈ setN l x ↔ ∃ m ∈ l, n = putAt x m := by
  rw [setN_map hs h, List.mem_map]
  constructor
  · rintro ⟨m, hm, rfl⟩; exact ⟨m, hm, rfl⟩
  · rintro ⟨m, hm, rfl⟩; exact ⟨m, hm, rfl⟩
theorem good_set (h : GoodW z l ss) (x : Txn) (hxz : x.zxid = z) (hyes : hasN l x.path = true) (hd : x.data.size ≤ 256) (hv : 0 ≤ x.version ∧ x.version ≤ 2147483647) : GoodW z (setN l x) ss := by
  have hmem := mem_set h.sorted hyes
  subst hxz
  refine ⟨?_, h.zx, ?_, ?_, h.sess, h.sessB, ?_, ?_, ?_, ?_, ?_⟩
  · rw [setN_map h.sorted hyes, List.length_map]
    exact h.len
  · obtain ⟨n, r, e2, hp, ho⟩ := h.root
    rw [setN_map h.sorted hyes, e2, List.map_cons]
    exact ⟨_, _, rfl, by rw [putAt_path]; exact hp, by unfold putAt; split <;> exact ho⟩
  · rw [setN_map h.sorted hyes]
    exact sorted_map h.sorted (putAt_path x)
  · intro n hn
    obtain ⟨m, hm, rfl⟩ := (hmem n).1 hn
    have := h.path m hm
    unfold putAt
    split
    · exact ⟨this.1, hd⟩
    · exact this
  · intro n hn
    obtain ⟨m, hm, rfl⟩ := (hmem n).1 hn
    have := h.stat m hm
    unfold putAt
    split
    · simp only
      omega
    · exact this
  · intro n hn
    obtain ⟨m, hm, rfl⟩ := (hmem n).1 hn
    have := h.own m hm
    unfold putAt
    split <;> exact this
  · intro n hn
    obtain ⟨m, hm, rfl⟩ := (hmem n).1 hn
    rw [putAt_path]
    rcases h.up m hm with h0 | ⟨q, hq, hqp⟩
    · exact .inl h0
    · exact .inr ⟨_, (hmem _).2 ⟨q, hq, rfl⟩, by rw [putAt_path]; exact hqp⟩
  · intro n hn
    obtain ⟨m, hm, rfl⟩ := (hmem n).1 hn
    rw [putAt_path, setN_map h.sorted hyes, countP_map' (putAt_path x)]
    have := h.kids m hm
    unfold putAt
    split <;> exact this
theorem good_fold {s : Int} (hs0 : s ≠ 0) : ∀ (ps : List ByteArray) (l : List Node), GoodW z l ss → ps.Nodup → (∀ p ∈ ps, ∃ n ∈ l, n.path = p) → (∀ n ∈ l, n.owner = s ↔ n.path ∈ ps) →
    GoodW z (ps.foldl (fun l p => goneN l p z) l) ss ∧ (∀ n ∈ ps.foldl (fun l p => goneN l p z) l, n.owner ≠ s ∧ ∃ m ∈ l, m.path = n.path ∧ m.owner = n.owner) ∧
      (∀ m ∈ l, m.owner ≠ s → ∃ n ∈ ps.foldl (fun l p => goneN l p z) l, n.path = m.path ∧ n.data = m.data ∧ n.version = m.version ∧ n.owner = m.owner) ∧ (ps.foldl (fun l p => goneN l p z) l).length + ps.length = l.length
  | [], l, h, _, _, ho => ⟨h, fun n hn => ⟨fun e => by simpa using (ho n hn).1 e, n, hn, rfl, rfl⟩, fun m hm _ => ⟨m, hm, rfl, rfl, rfl, rfl⟩, rfl⟩
  | p :: ps, l, h, hnd, hp, ho => by
    obtain ⟨x, hx, hxp⟩ := hp p (by simp)
    have hxo := (ho x hx).2 (by rw [hxp]; simp)
    have hxk : x.kids = 0 := by
      rcases h.own x hx with h0 | h0
      · exact absurd (hxo.symm.trans h0) hs0
      · exact h0.2
    have hxs : x.path ≠ slash := fun e => hs0 (hxo.symm.trans (h.rootOf hx e))
    have hmem := mem_gone h.sorted hx z
    have hg := good_gone h hx hxs hxk
    rw [List.nodup_cons] at hnd
    have ih := good_fold hs0 ps (goneN l x.path z) hg hnd.2 (by
      intro q hq
      obtain ⟨n, hn, hnq⟩ := hp q (by simp [hq])
      refine ⟨_, (hmem _).2 ⟨n, hn, ?_, rfl⟩, by rw [bumpAt_path]; exact hnq⟩
      rw [hxp, hnq]
      exact fun e => hnd.1 (e ▸ hq)) (by
      intro n hn
      obtain ⟨m, hm, hmx, rfl⟩ := (hmem n).1 hn
      rw [bumpAt_own, bumpAt_path, ho m hm, List.mem_cons]
      constructor
      · rintro (e | e)
        · exact absurd (e.trans hxp.symm) hmx
        · exact e
      · exact .inr)
    obtain ⟨i1, i2, i3, i4⟩ := ih
    have hlen := gone_length h.sorted hx z
    rw [hxp] at i1 i2 i3 i4 hlen
    rw [List.foldl_cons]
    refine ⟨i1, ?_, ?_, ?_⟩
    · intro n hn
      obtain ⟨a, m, hm, b, c⟩ := i2 n hn
      rw [← hxp] at hm
      obtain ⟨m', hm', _, rfl⟩ := (hmem m).1 hm
      rw [bumpAt_path] at b
      rw [bumpAt_own] at c
      exact ⟨a, m', hm', b, c⟩
    · intro m hm hmo
      have hmx : m.path ≠ x.path := by
        intro e
        rw [uniqN h.sorted hm hx e] at hmo
        exact hmo hxo
      obtain ⟨n, hn, a, b, c, d⟩ := i3 (bumpAt (parent x.path) (-1) z m) (by rw [← hxp]; exact (hmem _).2 ⟨m, hm, hmx, rfl⟩) (by rw [bumpAt_own]; exact hmo)
      rw [bumpAt_path] at a
      rw [bumpAt_data] at b
      rw [bumpAt_version] at c
      rw [bumpAt_own] at d
      exact ⟨n, hn, a, b, c, d⟩
    · rw [List.length_cons]
      omega
theorem owned_nodup (hs : SortedN l) (s : Int) : (ownedL l s).Nodup := by
  unfold ownedL
  unfold List.Nodup
  rw [List.pairwise_map]
  exact (List.Pairwise.filter _ hs).imp (fun h => ltN_ne h)
theorem mem_owned {s : Int} {p : ByteArray} : p ∈ ownedL l s ↔ ∃ n ∈ l, n.owner = s ∧ n.path = p := by
  unfold ownedL
  simp only [List.mem_map, List.mem_filter, decide_eq_true_eq]
  constructor
  · rintro ⟨n, ⟨h1, h2⟩, h3⟩; exact ⟨n, h1, h2, h3⟩
  · rintro ⟨n, h1, h2, h3⟩; exact ⟨n, ⟨h1, h2⟩, h3⟩
theorem good_close (h : GoodW z l ss) {s : Int} (hs0 : s ≠ 0) :
    GoodW z (closeN l s z) ss ∧ (∀ n ∈ closeN l s z, n.owner ≠ s ∧ ∃ m ∈ l, m.path = n.path ∧ m.owner = n.owner) ∧
      (∀ m ∈ l, m.owner ≠ s → ∃ n ∈ closeN l s z, n.path = m.path ∧ n.data = m.data ∧ n.version = m.version ∧ n.owner = m.owner) ∧ (closeN l s z).length + (ownedL l s).length = l.length := by
  refine good_fold hs0 (ownedL l s) l h (owned_nodup h.sorted s) (fun p hp => ?_) (fun n hn => ?_)
  · obtain ⟨n, hn, _, e⟩ := mem_owned.1 hp
    exact ⟨n, hn, e⟩
  · rw [mem_owned]
    constructor
    · intro e; exact ⟨n, hn, e, rfl⟩
    · rintro ⟨m, hm, e, hp⟩
      rw [← uniqN h.sorted hm hn hp]
      exact e
end
end Go.Proofs.YtchgpijfebilbaaGreatDoor

/- Trees: what a transaction leaves is a good tree. -/
namespace Go.Proofs.YtchgpijfebilbaaGreatDoor
open Go.RowKit
theorem eq_slash {p : ByteArray} : p.toList = [47] ↔ p = slash := by
  constructor
  · intro h
    exact bytes_eqB (by rw [h]; unfold slash; rw [ByteArray.toList_eq])
  · intro h
    rw [h]
    unfold slash
    rw [ByteArray.toList_eq]
theorem eq_nil {p : ByteArray} : p.toList = [] ↔ p = ⟨#[]⟩ := by
  constructor
  · intro h
    exact bytes_eqB (by rw [h, ByteArray.toList_eq])
  · intro h
    rw [h, ByteArray.toList_eq]
theorem goodT_inv {x : Txn} (h : goodT x = 0) : (1 ≤ x.op ∧ x.op ≤ 5) ∧ Zx x.zxid ∧ (1 ≤ x.session ∧ x.session ≤ 2147483647) ∧ (0 ≤ x.version ∧ x.version ≤ 2147483647) ∧ (0 ≤ x.owner ∧ x.owner ≤ 2147483647) ∧ x.data.size ≤ 256 ∧
    (x.op ≤ 2 → x.path = ⟨#[]⟩ ∧ x.data = ⟨#[]⟩ ∧ x.version = 0 ∧ x.owner = 0) ∧ (3 ≤ x.op → goodP x.path = true) ∧ (3 ≤ x.op → x.op ≠ 5 → x.path ≠ slash) ∧ (x.op = 4 → x.data = ⟨#[]⟩ ∧ x.version = 0 ∧ x.owner = 0) ∧ (x.op = 3 → x.version = 0) ∧ (x.op = 5 → x.owner = 0) := by
  unfold goodT at h
  by_cases h1 : x.op < 1 ∨ 5 < x.op
  · rw [if_pos h1] at h; exact absurd h (by decide)
  rw [if_neg h1] at h
  by_cases h2 : ¬ (0 ≤ x.zxid ∧ x.zxid < 4611686018427387904) ∨ x.session < 1 ∨ 2147483647 < x.session ∨ x.version < 0 ∨ 2147483647 < x.version ∨ x.owner < 0 ∨ 2147483647 < x.owner
  · rw [if_pos h2] at h; exact absurd h (by decide)
  rw [if_neg h2] at h
  by_cases h3 : 256 < (x.data.size : Int)
  · rw [if_pos h3] at h; exact absurd h (by decide)
  rw [if_neg h3] at h
  by_cases h4 : x.op ≤ 2 ∧ (x.path.toList ≠ [] ∨ x.data.toList ≠ [] ∨ x.version ≠ 0 ∨ x.owner ≠ 0)
  · rw [if_pos h4] at h; exact absurd h (by decide)
  rw [if_neg h4] at h
  by_cases h5 : 3 ≤ x.op ∧ (goodP x.path = false ∨ (x.path.toList = [47] ∧ x.op ≠ 5))
  · rw [if_pos h5] at h; exact absurd h (by decide)
  rw [if_neg h5] at h
  by_cases h6 : (x.op = 4 ∧ (x.data.toList ≠ [] ∨ x.version ≠ 0 ∨ x.owner ≠ 0)) ∨ (x.op = 3 ∧ x.version ≠ 0) ∨ (x.op = 5 ∧ x.owner ≠ 0)
  · rw [if_pos h6] at h; exact absurd h (by decide)
  clear h
  refine ⟨by omega, by unfold Zx; omega, by omega, by omega, by omega, by omega, ?_, ?_, ?_, ?_, ?_, ?_⟩
  · intro ho
    have h7 : ¬ (x.path.toList ≠ [] ∨ x.data.toList ≠ [] ∨ x.version ≠ 0 ∨ x.owner ≠ 0) := fun e => h4 ⟨ho, e⟩
    refine ⟨eq_nil.1 (Classical.byContradiction fun e => h7 (.inl e)), eq_nil.1 (Classical.byContradiction fun e => h7 (.inr (.inl e))), ?_, ?_⟩
    · exact Classical.byContradiction fun e => h7 (.inr (.inr (.inl e)))
    · exact Classical.byContradiction fun e => h7 (.inr (.inr (.inr e)))
  · intro ho
    cases hg : goodP x.path with
    | true => rfl
    | false => exact absurd ⟨ho, .inl hg⟩ h5
  · intro ho h8 e
    exact h5 ⟨ho, .inr ⟨eq_slash.2 e, h8⟩⟩
  · intro ho
    refine ⟨eq_nil.1 (Classical.byContradiction fun e => h6 (.inl ⟨ho, .inl e⟩)), ?_, ?_⟩
    · exact Classical.byContradiction fun e => h6 (.inl ⟨ho, .inr (.inl e)⟩)
    · exact Classical.byContradiction fun e => h6 (.inl ⟨ho, .inr (.inr e)⟩)
  · intro ho
    exact Classical.byContradiction fun e => h6 (.inr (.inl ⟨ho, e⟩))
  · intro ho
    exact Classical.byContradiction fun e => h6 (.inr (.inr ⟨ho, e⟩))
theorem lacks_inv {t : Tr} {x : Txn} (h : lacksE t x = 0) : hasN t.nodes x.path = false ∧ hasN t.nodes (parent x.path) = true ∧ (getN t.nodes (parent x.path)).owner = 0 ∧ (x.owner = 0 ∨ x.owner = x.session) ∧ t.nodes.length < 400 := by
  unfold lacksE at h
  by_cases h1 : hasN t.nodes x.path = true
  · rw [if_pos h1] at h; exact absurd h (by decide)
  rw [if_neg h1] at h
  by_cases h2 : hasN t.nodes (parent x.path) = true
  case neg => rw [if_neg h2] at h; exact absurd h (by decide)
  rw [if_pos h2] at h
  by_cases h3 : (getN t.nodes (parent x.path)).owner ≠ 0
  · rw [if_pos h3] at h; exact absurd h (by decide)
  rw [if_neg h3] at h
  by_cases h4 : x.owner ≠ 0 ∧ x.owner ≠ x.session
  · rw [if_pos h4] at h; exact absurd h (by decide)
  rw [if_neg h4] at h
  by_cases h5 : 400 ≤ t.nodes.length
  · rw [if_pos h5] at h; exact absurd h (by decide)
  refine ⟨by simpa using h1, h2, by omega, by omega, by omega⟩
theorem wrong_inv {t : Tr} {x : Txn} (h : wrongE t x = 0) : goodTree t = true ∧ goodT x = 0 ∧ t.zxid < x.zxid ∧ (x.op = 1 → isI t.sess x.session = false) ∧ (x.op ≠ 1 → isI t.sess x.session = true) ∧ (x.op = 3 → lacksE t x = 0) ∧
    (x.op = 4 → hasN t.nodes x.path = true ∧ (getN t.nodes x.path).kids ≤ 0) ∧ (x.op = 5 → hasN t.nodes x.path = true ∧ x.version = (getN t.nodes x.path).version + 1) := by
  unfold wrongE at h
  by_cases h1 : goodTree t = false
  · rw [if_pos h1] at h; exact absurd h (by decide)
  rw [if_neg h1] at h
  by_cases h2 : goodT x ≠ 0
  · rw [if_pos h2] at h; exact absurd h h2
  rw [if_neg h2] at h
  by_cases h3 : x.zxid ≤ t.zxid
  · rw [if_pos h3] at h; exact absurd h (by decide)
  rw [if_neg h3] at h
  refine ⟨by simpa using h1, Classical.not_not.1 h2, by omega, ?_⟩
  by_cases h4 : x.op = 1
  · rw [if_pos h4] at h
    by_cases h5 : isI t.sess x.session = true
    · rw [if_pos h5] at h; exact absurd h (by decide)
    · exact ⟨fun _ => by simpa using h5, fun e => absurd h4 e, fun e => by omega, fun e => by omega, fun e => by omega⟩
  rw [if_neg h4] at h
  by_cases h5 : isI t.sess x.session = false
  · rw [if_pos h5] at h; exact absurd h (by decide)
  rw [if_neg h5] at h
  refine ⟨fun e => absurd e h4, fun _ => by simpa using h5, ?_⟩
  by_cases h6 : x.op = 3
  · rw [if_pos h6] at h
    exact ⟨fun _ => h, fun e => by omega, fun e => by omega⟩
  rw [if_neg h6] at h
  refine ⟨fun e => absurd e h6, ?_⟩
  by_cases h7 : x.op = 4
  · rw [if_pos h7] at h
    refine ⟨fun _ => ?_, fun e => by omega⟩
    by_cases h8 : hasN t.nodes x.path = true
    · rw [if_pos h8] at h
      by_cases h9 : 0 < (getN t.nodes x.path).kids
      · rw [if_pos h9] at h; exact absurd h (by decide)
      · exact ⟨h8, by omega⟩
    · rw [if_neg h8] at h; exact absurd h (by decide)
  rw [if_neg h7] at h
  refine ⟨fun e => absurd e h7, fun h7 => ?_⟩
  rw [if_pos h7] at h
  by_cases h8 : hasN t.nodes x.path = true
  · rw [if_pos h8] at h
    by_cases h9 : x.version ≠ (getN t.nodes x.path).version + 1
    · rw [if_pos h9] at h; exact absurd h (by decide)
    · exact ⟨h8, Classical.not_not.1 h9⟩
  · rw [if_neg h8] at h; exact absurd h (by decide)
theorem doN_1 {t : Tr} {x : Txn} (h : x.op = 1) : doN t x = t.nodes ∧ doS t x = insS t.sess x.session ∧ doV t x = [] := by
  refine ⟨?_, ?_, ?_⟩
  · unfold doN; rw [if_neg (by omega), if_neg (by omega), if_neg (by omega), if_neg (by omega)]
  · unfold doS; rw [if_pos h]
  · unfold doV; rw [if_neg (by omega), if_neg (by omega), if_neg (by omega), if_neg (by omega)]
theorem doN_2 {t : Tr} {x : Txn} (h : x.op = 2) : doN t x = closeN t.nodes x.session x.zxid ∧ doS t x = delS t.sess x.session ∧ doV t x = closeV t.nodes x.session := by
  refine ⟨?_, ?_, ?_⟩
  · unfold doN; rw [if_pos h]
  · unfold doS; rw [if_neg (by omega), if_pos h]
  · unfold doV; rw [if_pos h]
theorem doN_3 {t : Tr} {x : Txn} (h : x.op = 3) : doN t x = makeN t.nodes x ∧ doS t x = t.sess ∧ doV t x = makeV x.path := by
  refine ⟨?_, ?_, ?_⟩
  · unfold doN; rw [if_neg (by omega), if_pos h]
  · unfold doS; rw [if_neg (by omega), if_neg (by omega)]
  · unfold doV; rw [if_neg (by omega), if_pos h]
theorem doN_4 {t : Tr} {x : Txn} (h : x.op = 4) : doN t x = goneN t.nodes x.path x.zxid ∧ doS t x = t.sess ∧ doV t x = goneV x.path := by
  refine ⟨?_, ?_, ?_⟩
  · unfold doN; rw [if_neg (by omega), if_neg (by omega), if_pos h]
  · unfold doS; rw [if_neg (by omega), if_neg (by omega)]
  · unfold doV; rw [if_neg (by omega), if_neg (by omega), if_pos h]
theorem doN_5 {t : Tr} {x : Txn} (h : x.op = 5) : doN t x = setN t.nodes x ∧ doS t x = t.sess ∧ doV t x = [⟨3, x.path⟩] := by
  refine ⟨?_, ?_, ?_⟩
  · unfold doN; rw [if_neg (by omega), if_neg (by omega), if_neg (by omega), if_pos h]
  · unfold doS; rw [if_neg (by omega), if_neg (by omega)]
  · unfold doV; rw [if_neg (by omega), if_neg (by omega), if_neg (by omega), if_pos h]
theorem apply_goodW {t : Tr} {x : Txn} (h : wrongE t x = 0) : GoodW x.zxid (doN t x) (doS t x) := by
  obtain ⟨hg, hx, hz, w1, w2, w3, w4, w5⟩ := wrong_inv h
  obtain ⟨x1, x2, x3, x4, x5, x6, x7, x8, x9, x10, x11, x12⟩ := goodT_inv hx
  obtain ⟨g, _⟩ := good_parts hg
  have g' : GoodW x.zxid t.nodes t.sess := g.later (by omega) x2.2
  rcases (by omega : x.op = 1 ∨ x.op = 2 ∨ x.op = 3 ∨ x.op = 4 ∨ x.op = 5) with ho | ho | ho | ho | ho
  · obtain ⟨e1, e2, _⟩ := doN_1 (t := t) ho
    rw [e1, e2]
    have hs := (isI_no g.sess).1 (w1 ho)
    obtain ⟨i1, i2, _⟩ := insS_spec g.sess hs
    refine g'.with_sess i1 (fun s hs => ?_) (fun n hn => ?_)
    · rcases (i2 s).1 hs with rfl | hs
      · exact x3
      · exact g.sessB s hs
    · rcases g.own n hn with h0 | ⟨h0, _⟩
      · exact .inl h0
      · exact .inr ((i2 _).2 (.inr h0))
  · obtain ⟨e1, e2, _⟩ := doN_2 (t := t) ho
    rw [e1, e2]
    have hs := (isI_iff g.sess).1 (w2 (by omega))
    obtain ⟨i1, i2, _⟩ := delS_spec g.sess hs
    obtain ⟨c1, c2, _, _⟩ := good_close g' (s := x.session) (by omega)
    refine c1.with_sess i1 (fun s hs => g.sessB s ((i2 s).1 hs).1) (fun n hn => ?_)
    rcases c1.own n hn with h0 | ⟨h0, _⟩
    · exact .inl h0
    · exact .inr ((i2 _).2 ⟨h0, (c2 n hn).1⟩)
  · obtain ⟨e1, e2, _⟩ := doN_3 (t := t) ho
    rw [e1, e2]
    obtain ⟨l1, l2, l3, l4, l5⟩ := lacks_inv (w3 ho)
    obtain ⟨hm, hp⟩ := get_mem l2
    refine good_make g' x rfl l1 (x8 (by omega)) (x9 (by omega) (by omega)) x6 l5 ?_ hm hp l3
    rcases l4 with h0 | h0
    · exact .inl h0
    · rw [h0]
      exact .inr ((isI_iff g.sess).1 (w2 (by omega)))
  · obtain ⟨e1, e2, _⟩ := doN_4 (t := t) ho
    rw [e1, e2]
    obtain ⟨l1, l2⟩ := w4 ho
    obtain ⟨hm, hp⟩ := get_mem l1
    have hk : (getN t.nodes x.path).kids = 0 := by
      have := g.kids _ hm
      omega
    have := good_gone g' hm (by rw [hp]; exact x9 (by omega) (by omega)) hk
    rw [hp] at this
    exact this
  · obtain ⟨e1, e2, _⟩ := doN_5 (t := t) ho
    rw [e1, e2]
    exact good_set g' x rfl (w5 ho).1 x6 x4
theorem applyE_0 {t : Tr} {x : Txn} (h : applyE t x = 0) : wrongE t x = 0 ∧ fullB (doN t x) = false := by
  unfold applyE at h
  by_cases h1 : wrongE t x = 0
  · rw [if_pos h1] at h
    cases hf : fullB (doN t x) with
    | false => exact ⟨h1, rfl⟩
    | true => rw [hf, if_pos rfl] at h; exact absurd h (by decide)
  · rw [if_neg h1] at h
    exact absurd h h1
theorem applyT_0 {t : Tr} {x : Txn} (h : applyE t x = 0) : applyT t x = ⟨x.zxid, doN t x, doS t x⟩ ∧ applyV t x = doV t x := by
  unfold applyT applyV
  rw [if_pos h, if_pos h]
  exact ⟨rfl, rfl⟩
theorem apply_good {t : Tr} {x : Txn} (h : applyE t x = 0) : goodTree (applyT t x) = true ∧ goodTree t = true ∧ t.zxid < x.zxid := by
  obtain ⟨h1, h2⟩ := applyE_0 h
  obtain ⟨h3, _, h4, _⟩ := wrong_inv h1
  rw [(applyT_0 h).1]
  exact ⟨(good_iff _ _ _).2 ⟨apply_goodW h1, h2⟩, h3, h4⟩
theorem new_good : goodTree newTr = true := by
  refine (good_iff _ _ _).2 ⟨⟨by decide, by decide, ⟨rootN, [], rfl, rfl, rfl⟩, List.pairwise_singleton _ _, .nil, by simp, ?_, ?_, ?_, ?_, ?_⟩, ?_⟩
  · intro n hn
    rw [List.mem_singleton.1 hn]
    exact ⟨good_slash, by decide⟩
  · intro n hn
    rw [List.mem_singleton.1 hn]
    decide
  · intro n hn
    rw [List.mem_singleton.1 hn]
    exact .inl rfl
  · intro n hn
    rw [List.mem_singleton.1 hn]
    exact .inl rfl
  · intro n hn
    rw [List.mem_singleton.1 hn]
    rw [List.countP_cons, if_neg]
    · rfl
    · rw [kidB_iff (show goodP rootN.path = true from good_slash)]
      exact fun e => e.1 rfl
  · exact full_no.2 (fun n hn => by rw [List.mem_singleton.1 hn]; decide)
end Go.Proofs.YtchgpijfebilbaaGreatDoor

/- Trees: plain laws of a node that is made, and taken away again. -/
namespace Go.Proofs.YtchgpijfebilbaaGreatDoor
open Go.RowKit
end Go.Proofs.YtchgpijfebilbaaGreatDoor

/- package prep: what its functions compute, in plain words. -/
namespace Go.Proofs.YtchgpijfebilbaaGreatDoor
open Go.RowKit
abbrev noTxn : Txn := ⟨0, 0, 0, ⟨#[]⟩, ⟨#[]⟩, 0, 0⟩
def serR (s : ByteArray) (n : Int) : ByteArray × Int := if n < 0 ∨ 2147483647 < n then (⟨#[]⟩, 3) else if named (bs s ++ digs 10 n.toNat) then (⟨(bs s ++ digs 10 n.toNat).toArray⟩, 0) else (⟨#[]⟩, 2)
def seqF (n : Int) : Bool := decide (n = 2 ∨ n = 3)
def ephF (n : Int) : Bool := decide (n = 1 ∨ n = 3)
def versR (t : Tr) (r : Request) : Int × Int :=
  if goodP r.path then (if isI t.sess r.session then (if hasN t.nodes r.path then (if r.version ≠ -1 ∧ r.version ≠ (getN t.nodes r.path).version then (0, 9) else ((getN t.nodes r.path).version, 0)) else (0, 7)) else (0, 12)) else (0, 2)
def seqR (t : Tr) (p : ByteArray) : ByteArray × Int :=
  if hasN t.nodes (splitR p).1 then (if (serR (splitR p).2.1 (getN t.nodes (splitR p).1).cversion).2 ≠ 0 then (⟨#[]⟩, (serR (splitR p).2.1 (getN t.nodes (splitR p).1).cversion).2) else joinR (splitR p).1 (serR (splitR p).2.1 (getN t.nodes (splitR p).1).cversion).1) else (⟨#[]⟩, 7)
def creR (t : Tr) (r : Request) : ByteArray × Int :=
  if r.flags < 0 ∨ 3 < r.flags then (⟨#[]⟩, 3)
  else if (splitR r.path).2.2 ≠ 0 then (⟨#[]⟩, 2)
  else if isI t.sess r.session = false then (⟨#[]⟩, 12)
  else if seqF r.flags then seqR t r.path else (r.path, 0)
def madeR (t : Tr) (z : Int) (r : Request) : Txn × Int :=
  if r.op = 1 ∨ r.op = 2 then (⟨z, r.op, r.session, ⟨#[]⟩, ⟨#[]⟩, 0, 0⟩, 0)
  else if r.op = 3 then (⟨z, r.op, r.session, (creR t r).1, r.data, 0, if ephF r.flags then r.session else 0⟩, (creR t r).2)
  else if r.op = 4 then (⟨z, r.op, r.session, r.path, ⟨#[]⟩, 0, 0⟩, (versR t r).2)
  else if r.op = 5 then (⟨z, r.op, r.session, r.path, r.data, (versR t r).1 + 1, 0⟩, (versR t r).2)
  else (noTxn, 4)
theorem made_12 (t : Tr) (z : Int) {r : Request} (h : r.op = 1 ∨ r.op = 2) : madeR t z r = (⟨z, r.op, r.session, ⟨#[]⟩, ⟨#[]⟩, 0, 0⟩, 0) := by unfold madeR; rw [if_pos h]
theorem made_3 (t : Tr) (z : Int) {r : Request} (h : r.op = 3) : madeR t z r = (⟨z, r.op, r.session, (creR t r).1, r.data, 0, if ephF r.flags then r.session else 0⟩, (creR t r).2) := by unfold madeR; rw [if_neg (by omega), if_pos h]
theorem made_4 (t : Tr) (z : Int) {r : Request} (h : r.op = 4) : madeR t z r = (⟨z, r.op, r.session, r.path, ⟨#[]⟩, 0, 0⟩, (versR t r).2) := by unfold madeR; rw [if_neg (by omega), if_neg (by omega), if_pos h]
theorem made_5 (t : Tr) (z : Int) {r : Request} (h : r.op = 5) : madeR t z r = (⟨z, r.op, r.session, r.path, r.data, (versR t r).1 + 1, 0⟩, (versR t r).2) := by unfold madeR; rw [if_neg (by omega), if_neg (by omega), if_neg (by omega), if_pos h]
theorem made_no (t : Tr) (z : Int) {r : Request} (h : r.op < 1 ∨ 5 < r.op) : madeR t z r = (noTxn, 4) := by unfold madeR; rw [if_neg (by omega), if_neg (by omega), if_neg (by omega), if_neg (by omega)]
def asked (t : Tr) (z : Int) (r : Request) : Bool := goodTree t && decide (0 ≤ z ∧ z < 4611686018427387904 ∧ 1 ≤ r.session ∧ r.session ≤ 2147483647)
def prepE (t : Tr) (z : Int) (r : Request) : Int := if asked t z r then (if (madeR t z r).2 ≠ 0 then (madeR t z r).2 else applyE t (madeR t z r).1) else 3
def prepX (t : Tr) (z : Int) (r : Request) : Txn := if prepE t z r = 0 then (madeR t z r).1 else noTxn
theorem prepE_0 {t : Tr} {z : Int} {r : Request} (h : prepE t z r = 0) : asked t z r = true ∧ (madeR t z r).2 = 0 ∧ applyE t (madeR t z r).1 = 0 ∧ prepX t z r = (madeR t z r).1 := by
  have h0 := h
  unfold prepE at h
  cases ha : asked t z r with
  | false => rw [ha, if_neg (by decide)] at h; exact absurd h (by decide)
  | true =>
    rw [ha, if_pos rfl] at h
    by_cases hm : (madeR t z r).2 = 0
    · rw [if_neg (by omega)] at h
      exact ⟨rfl, hm, h, by unfold prepX; rw [if_pos h0]⟩
    · rw [if_pos hm] at h
      exact absurd h hm
theorem prepX_no {t : Tr} {z : Int} {r : Request} (h : prepE t z r ≠ 0) : prepX t z r = noTxn := by unfold prepX; rw [if_neg h]
theorem made_zos {t : Tr} {z : Int} {r : Request} (h : (madeR t z r).2 = 0) : (madeR t z r).1.zxid = z ∧ (madeR t z r).1.op = r.op ∧ (madeR t z r).1.session = r.session ∧ ((madeR t z r).1.owner = 0 ∨ (madeR t z r).1.owner = r.session) := by
  unfold madeR at h ⊢
  by_cases h1 : r.op = 1 ∨ r.op = 2
  · rw [if_pos h1]
    exact ⟨rfl, rfl, rfl, .inl rfl⟩
  rw [if_neg h1] at h ⊢
  by_cases h2 : r.op = 3
  · rw [if_pos h2]
    refine ⟨rfl, rfl, rfl, ?_⟩
    simp only
    split
    · exact .inr rfl
    · exact .inl rfl
  rw [if_neg h2] at h ⊢
  by_cases h3 : r.op = 4
  · rw [if_pos h3]
    exact ⟨rfl, rfl, rfl, .inl rfl⟩
  rw [if_neg h3] at h ⊢
  by_cases h4 : r.op = 5
  · rw [if_pos h4]
    exact ⟨rfl, rfl, rfl, .inl rfl⟩
  rw [if_neg h4] at h
  exact absurd h (by decide)
theorem versR_range {t : Tr} (hg : goodTree t = true) (r : Request) : 0 ≤ (versR t r).1 ∧ (versR t r).1 ≤ 2147483647 := by
  unfold versR
  cases goodP r.path with
  | false => simp
  | true =>
    cases isI t.sess r.session with
    | false => simp
    | true =>
      cases h : hasN t.nodes r.path with
      | false => simp
      | true =>
        have := (good_parts hg).1.stat _ (get_mem h).1
        rw [if_pos rfl, if_pos rfl, if_pos rfl]
        split
        · exact ⟨Int.le_refl _, by decide⟩
        · exact ⟨this.1, this.2.1⟩
theorem prep_fits {t : Tr} {z : Int} {r : Request} (h : prepE t z r = 0) : applyE t (prepX t z r) = 0 ∧ (applyT t (prepX t z r)).zxid = z ∧ (prepX t z r).zxid = z ∧ (prepX t z r).op = r.op ∧ (prepX t z r).session = r.session ∧ goodT (prepX t z r) = 0 ∧ ((prepX t z r).owner = 0 ∨ (prepX t z r).owner = r.session) := by
  obtain ⟨h1, h2, h3, h4⟩ := prepE_0 h
  obtain ⟨m1, m2, m3, m4⟩ := made_zos h2
  rw [h4]
  refine ⟨h3, ?_, m1, m2, m3, (wrong_inv (applyE_0 h3).1).2.1, m4⟩
  rw [(applyT_0 h3).1]
  exact m1
end Go.Proofs.YtchgpijfebilbaaGreatDoor

/- A server, as it lies in memory. -/
namespace Go.Proofs.YtchgpijfebilbaaGreatDoor
open Go.RowKit Go.ChangeShapes Go.WideShapes Go.ChangeAt
def SlA {α : Type} (p : Nat → Prop) (f : α → List Value) (s : Nat) (w : World) (v : Value) (l : List α) : Prop := Sl f s w v l ∧ (l = [] ∨ ∀ q, p q → v.ownBlock ≠ some q)
structure Swap (p : Nat → Prop) (w w' : World) : Prop where
  size : w'.heap.size = w.heap.size
  block : ∀ k, ¬ p k → w'.heap[k]? = w.heap[k]?
theorem Swap.refl (p : Nat → Prop) (w : World) : Swap p w w := ⟨rfl, fun _ _ => rfl⟩
theorem Swap.drew {p : Nat → Prop} {w w' : World} (h : Swap p w w') : Swap p w.drew w'.drew := ⟨h.1, h.2⟩
theorem Swap.drew1 {p : Nat → Prop} {w w' : World} (h : Swap p w w') : Swap p w.drew w' := ⟨h.1, h.2⟩
theorem Swap.drew2 {p : Nat → Prop} {w w' : World} (h : Swap p w w') : Swap p w w'.drew := ⟨h.1, h.2⟩
theorem Swap.drewN1 {p : Nat → Prop} {w w' : World} {n : Nat} (h : Swap p w w') : Swap p (w.drewN n) w' := ⟨h.1, h.2⟩
theorem Swap.drewN2 {p : Nat → Prop} {w w' : World} {n : Nat} (h : Swap p w w') : Swap p w (w'.drewN n) := ⟨h.1, h.2⟩
theorem Swap.new {p : Nat → Prop} {w w' : World} (h : Swap p w w') (o o' : Obj) (hp : p w.heap.size) : Swap p (w.alloc o) (w'.alloc o') := by
  refine ⟨by simp [h.size], fun k hk => ?_⟩
  have hne : k ≠ w.heap.size := fun e => hk (e ▸ hp)
  rcases Nat.lt_or_ge k w.heap.size with hlt | hge
  · rw [heap_alloc_old _ _ hlt, heap_alloc_old _ _ (by rw [h.size]; exact hlt), h.block k hk]
  · have hz := h.size
    rw [Array.getElem?_eq_none (by simp; omega), Array.getElem?_eq_none (by simp; omega)]
theorem Swap.alloc {p : Nat → Prop} {w w' : World} (h : Swap p w w') (o : Obj) : Swap p (w.alloc o) (w'.alloc o) := by
  refine ⟨by simp [h.size], fun k hk => ?_⟩
  rcases Nat.lt_trichotomy k w.heap.size with hlt | rfl | hgt
  · rw [heap_alloc_old _ _ hlt, heap_alloc_old _ _ (by rw [h.size]; exact hlt), h.block k hk]
  · rw [heap_alloc_new, ← h.size, heap_alloc_new]
  · have hz := h.size
    rw [Array.getElem?_eq_none (by simp; omega), Array.getElem?_eq_none (by simp; omega)]
theorem Swap.grow {p : Nat → Prop} {w w' : World} (h : Swap p w w') (e : Array Obj) (d d' : Nat) : Swap p (grow w e d) (Go.Proofs.YtchgpijfebilbaaGreatDoor.grow w' e d') := by
  refine ⟨by simp [h.size], fun k hk => ?_⟩
  show (w'.heap ++ e)[k]? = (w.heap ++ e)[k]?
  rw [Array.getElem?_append, Array.getElem?_append, h.size]
  split
  · exact h.block k hk
  · rfl
theorem Swap.set {p : Nat → Prop} {w w' : World} (h : Swap p w w') (g o : Nat) (v : Value) (hp : p g) : Swap p w (w'.setCell ⟨g, o, none⟩ v) := by
  refine ⟨by simp [World.setCell, h.size], fun k hk => ?_⟩
  have hne : g ≠ k := fun e => hk (e ▸ hp)
  show (w'.heap.modify g _)[k]? = _
  rw [Array.getElem?_modify, if_neg hne, h.block k hk]
section
variable {α : Type} {p p' : Nat → Prop} {f : α → List Value} {s : Nat} {e : TypeId} {w w' : World} {B : Nat} {v : Value} {l : List α}
theorem SlA.below (h : SlA p f s w v l) (hb : Below w.heap.size w w') : SlA p f s w' v l := ⟨h.1.below hb, h.2⟩
theorem SlA.nil (p : Nat → Prop) (f : α → List Value) (s : Nat) (w : World) : SlA p f s w (.slice none 0 0) [] := ⟨Sl.nil f s w, .inl rfl⟩
theorem Ow.sla (h : Ow f s e w B v l) (hp : ∀ q, p q → q < B) : SlA p f s w v l := by
  refine ⟨h.sl, .inr fun q hq hv => ?_⟩
  obtain ⟨A, c, rfl, _, _, _, h4⟩ := h.form
  cases A with
  | none => cases hv
  | some a =>
    obtain ⟨g, rfl, hB, _⟩ := h4 _ rfl
    have := hp q hq
    have e1 : g = q := by simpa [Value.ownBlock] using hv
    omega
theorem SlA.more (h : SlA p f s w v l) (hp : ∀ q, p' q → p q ∨ w.heap.size ≤ q) : SlA p' f s w v l := by
  refine ⟨h.1, ?_⟩
  cases l with
  | nil => exact .inl rfl
  | cons x r =>
    refine .inr fun q hq hv => ?_
    rcases hp q hq with h1 | h1
    · rcases h.2 with h2 | h2
      · cases h2
      · exact h2 q h1 hv
    · obtain ⟨A, c, rfl, _⟩ := h.1.form
      obtain ⟨b, off, rfl, hb, _⟩ := h.1.at_ (i := 0) rfl
      have e1 : b = q := by simpa [Value.ownBlock] using hv
      omega
theorem SlA.swap (h : SlA p f s w v l) (hw : Swap p w w') : SlA p f s w' v l := by
  refine ⟨?_, h.2⟩
  obtain ⟨A, c, hv, h1, h2, h3, h4⟩ := h.1
  refine ⟨A, c, hv, h1, h2, h3, fun h0 => ?_⟩
  obtain ⟨b, off, rfl, hb, hc⟩ := h4 h0
  have hnp : ¬ p b := by
    intro hp
    rcases h.2 with h5 | h5
    · rw [h5] at h0; simp at h0
    · exact h5 b hp (by rw [hv]; rfl)
  exact ⟨b, off, rfl, by rw [hw.size]; exact hb, fun i x hx j u hu => (World.cell?_of_block (hw.block b hnp)).trans (hc i x hx j u hu)⟩
end
structure Srv where
  up : Bool
  disk : List File
  id : Int
  epoch : Int
  log : List Txn
  done_ : Int
  tz : Int
  nodes : List Node
  sess : List Int
  watches : List Watch
structure SrvV where
  da : Option Addr
  dc : Nat
  la : Option Addr
  lc : Nat
  na : Option Addr
  nc : Nat
  sa : Option Addr
  sc : Nat
  wa : Option Addr
  wc : Nat
abbrev vSrv (s : Srv) (v : SrvV) : Value := .agg #[.bool s.up, .slice v.da s.disk.length v.dc, .int .i64 s.id, .int .i64 s.epoch, .slice v.la s.log.length v.lc, .int .i64 s.done_, .int .i64 s.tz, .slice v.na s.nodes.length v.nc, .slice v.sa s.sess.length v.sc, .slice v.wa s.watches.length v.wc]
structure SrvIn (p : Nat → Prop) (w : World) (s : Srv) (v : SrvV) : Prop where
  disk : SlA p cFile 3 w (.slice v.da s.disk.length v.dc) s.disk
  log : SlA p cTxn 7 w (.slice v.la s.log.length v.lc) s.log
  nodes : SlA p cNode 9 w (.slice v.na s.nodes.length v.nc) s.nodes
  sess : SlA p cInt 1 w (.slice v.sa s.sess.length v.sc) s.sess
  watches : SlA p cWatch 3 w (.slice v.wa s.watches.length v.wc) s.watches
theorem SrvIn.below {p : Nat → Prop} {w w' : World} {s : Srv} {v : SrvV} (h : SrvIn p w s v) (hb : Below w.heap.size w w') : SrvIn p w' s v :=
  ⟨h.disk.below hb, h.log.below hb, h.nodes.below hb, h.sess.below hb, h.watches.below hb⟩
theorem SrvIn.swap {p : Nat → Prop} {w w' : World} {s : Srv} {v : SrvV} (h : SrvIn p w s v) (hb : Swap p w w') : SrvIn p w' s v :=
  ⟨h.disk.swap hb, h.log.swap hb, h.nodes.swap hb, h.sess.swap hb, h.watches.swap hb⟩
theorem SrvIn.more {p p' : Nat → Prop} {w : World} {s : Srv} {v : SrvV} (h : SrvIn p w s v) (hp : ∀ q, p' q → p q ∨ w.heap.size ≤ q) : SrvIn p' w s v :=
  ⟨h.disk.more hp, h.log.more hp, h.nodes.more hp, h.sess.more hp, h.watches.more hp⟩
abbrev noSrv : Srv := ⟨false, [], 0, 0, [], 0, 0, [], [], []⟩
abbrev noSrvV : SrvV := ⟨none, 0, none, 0, none, 0, none, 0, none, 0⟩
theorem noSrv_in (p : Nat → Prop) (w : World) : SrvIn p w noSrv noSrvV := ⟨SlA.nil _ _ _ _, SlA.nil _ _ _ _, SlA.nil _ _ _ _, SlA.nil _ _ _ _, SlA.nil _ _ _ _⟩
def SrvRes (p : Nat → Prop) (s : Srv) (c : Int) (w : World) (e : Ending) (w' : World) : Prop := ∃ v, e = .returned (.tuple #[vSrv s v, .int .i64 c]) ∧ SrvIn p w' s v ∧ Below w.heap.size w w'
end Go.Proofs.YtchgpijfebilbaaGreatDoor

/- clear(s[i:]) on a row that is known whole. -/
namespace Go.Proofs.YtchgpijfebilbaaGreatDoor
open Go.RowKit
section
variable {P : Program}
theorem zeros_len {z : Value} {s : Nat} (hs : z.cells.size = s) (n : Nat) : (Builtin.zeroCells z.cells n).toList.length = n * s := by simp [size_zeroCells, hs]
theorem run_clear_blk {w : World} {t ty e : TypeId} {z : Value} {s bytes g o n c : Nat} {cur : List Value} {et : TypeId} (E : El P t e z s bytes) (hg : Bk w g cur et) (h1 : ∀ v ∈ z.cells, v.oneCell' = true) (hn : 0 < n) (hfit : o + n * s ≤ cur.length) :
    (Builtin.clear_ #[t] ty #[.slice (some ⟨g, o, none⟩) n c]).run P w = .ok (.tuple #[]) (w.setRow g (splice cur o (Builtin.zeroCells z.cells n).toList).toArray) := by
  obtain ⟨i, hi, hz, hsz, _⟩ := info_of E.info
  obtain ⟨m, rfl⟩ : ∃ m, n = m + 1 := ⟨n - 1, by omega⟩
  have hst := run_storeCells_at P g o et (Builtin.zeroCells z.cells (m + 1)).toList 0 cur.toArray w hg (by rw [zeros_len E.cells]; simpa using hfit) (by
    intro v hv
    rw [Array.mem_toList_iff] at hv
    simp only [Builtin.zeroCells, Array.mem_map, Array.mem_range] at hv
    obtain ⟨k, _, rfl⟩ := hv
    have hlt : k % z.cells.size < z.cells.size := Nat.mod_lt _ (by rw [E.cells]; exact E.pos)
    rw [getElem!_pos z.cells _ hlt]
    exact h1 _ (Array.getElem_mem _))
  simp [Builtin.clear_, run_underlying E.slice, zeroValue, typeInfo, hi, hz, hst, splice]
theorem run_clear_none {w : World} {t ty e : TypeId} {z : Value} {s bytes c : Nat} {A : Option Addr} (E : El P t e z s bytes) : (Builtin.clear_ #[t] ty #[.slice A 0 c]).run P w = .ok (.tuple #[]) w := by
  cases A <;> simp [Builtin.clear_, run_underlying E.slice]
theorem wp_clr {w : World} {o : Oper} {a : Act} {K : Act → World → Prop} {Q : Exit → Act → World → Prop} (d : Operand) (t : TypeId)
    (ho : o.op = .call { callee := .builtin .clear, args := #[d], argTypes := #[t] }) {e : TypeId} {z : Value} {s bytes : Nat} (E : El P t e z s bytes) {g off n c : Nat} {cur : List Value} {et : TypeId}
    (hd : a.eval d = .slice (some ⟨g, off, none⟩) n c) (hg : Bk w g cur et) (h1 : ∀ v ∈ z.cells, v.oneCell' = true) (hfit : off + n * s ≤ cur.length)
    (h : ∀ w' cur', Bk w' g cur' et → cur'.length = cur.length → cur'.take off = cur.take off → w.grownBy w' (some g) → w'.heap.size = w.heap.size → K (a.put o.dst (.tuple #[])) w') : o.wp P a w K Q := by
  rcases Nat.eq_zero_or_pos n with rfl | hn
  · have hr := run_clear_none (P := P) (w := w) (ty := o.type) (c := c) (A := some ⟨g, off, none⟩) E
    unfold Oper.wp execOp
    simp only [ho, resolve, invoke, builtin, Sem.run_bind, Sem.run_pure, Result.andThen_ok, List.map_toArray, List.map_cons, List.map_nil, hd, hr]
    exact h _ _ hg rfl rfl ⟨rfl, rfl, rfl, Nat.le_refl _, fun _ _ _ => rfl⟩ rfl
  · have hr := run_clear_blk (P := P) (ty := o.type) (c := c) E hg h1 hn hfit
    unfold Oper.wp execOp
    simp only [ho, resolve, invoke, builtin, Sem.run_bind, Sem.run_pure, Result.andThen_ok, List.map_toArray, List.map_cons, List.map_nil, hd, hr]
    have hz := zeros_len E.cells n
    refine h _ _ hg.setRow (splice_length _ _ _ (by rw [hz]; exact hfit)) ?_ (setRow_grown _ _ _) (by simp [World.setRow])
    unfold splice
    rw [List.take_append_of_le_length (by simp; omega), List.take_take, Nat.min_self]
theorem wpList_clr {w : World} {ops : Array Oper} {rest : List Oper} {o : Oper} {a : Act} {Q : Exit → Act → World → Prop} (hgd : o.guard = none) (d : Operand) (t : TypeId)
    (ho : o.op = .call { callee := .builtin .clear, args := #[d], argTypes := #[t] }) {e : TypeId} {z : Value} {s bytes : Nat} (E : El P t e z s bytes) {g off n c : Nat} {cur : List Value} {et : TypeId}
    (hd : a.eval d = .slice (some ⟨g, off, none⟩) n c) (hg : Bk w g cur et) (h1 : ∀ v ∈ z.cells, v.oneCell' = true) (hfit : off + n * s ≤ cur.length)
    (h : ∀ w' cur', Bk w' g cur' et → cur'.length = cur.length → cur'.take off = cur.take off → w.grownBy w' (some g) → w'.heap.size = w.heap.size → wpList P ops Q rest (a.put o.dst (.tuple #[])) w') : wpList P ops Q (o :: rest) a w :=
  wpList_plain hgd fun _ hK => wp_clr d t ho E hd hg h1 hfit fun w' cur' h2 h3 h4 h5 h6 => hK _ _ (h w' cur' h2 h3 h4 h5 h6)
theorem wpList_atclr {ops : Array Oper} {rest : List Oper} {d : Option Tmp} {args : Array Operand} {ts : Array TypeId} {ty : TypeId} {pos : String} {af : Array Edge} {g : Option (Nat × Bool)} {a : Act} {w : World} {Q : Exit → Act → World → Prop}
    (h : wpList P ops Q (⟨d, .call { callee := .builtin .clear, args := args, argTypes := ts }, ty, pos, af, g⟩ :: rest) a w) : wpList P ops Q (⟨d, .call { callee := .builtin .clear, args := args, argTypes := ts }, ty, pos, af, g⟩ :: rest) a w := h
end
end Go.Proofs.YtchgpijfebilbaaGreatDoor

/- slices.Delete of one element, at Entry: on a row of the call's own. -/
namespace Go.Proofs.YtchgpijfebilbaaGreatDoor
open Go.RowKit
theorem step_apr {P : Program} {w : World} {ops : Array Oper} {o : Oper} {a : Act} {K : Act → World → Prop} {Q : Exit → Act → World → Prop} {EE : Prop} (hgd : o.guard = none) (sv x : Operand) (t : TypeId)
    (ho : o.op = .call { callee := .builtin .append, args := #[sv, x], argTypes := #[t, t] }) {e : TypeId} {z : Value} {s bytes : Nat} (E : El P t e z s bytes) {g k c off m cc : Nat} {cur news : List Value} {et : TypeId}
    (hs : a.eval sv = .slice (some ⟨g, 0, none⟩) k c) (hx : a.eval x = .slice (some ⟨g, off, none⟩) m cc) (hg : Bk w g cur et) (hn : news.length = m * s) (hsrc : ∀ j v, news[j]? = some v → cur[off + j]? = some v)
    (hroom : k + m ≤ c) (hfit : k * s + news.length ≤ cur.length) (h1 : ∀ v ∈ news, v.oneCell' = true)
    (h : ∀ w', Bk w' g (splice cur (k * s) news) et → w.grownBy w' (some g) → w'.heap.size = w.heap.size → K (a.put o.dst (.slice (some ⟨g, 0, none⟩) (k + m) c)) w') : if Region.wanted o (yielded ops a.tmps) = true then Oper.wp P o a w K Q else EE := by
  obtain ⟨i, hi, _, hsz, _⟩ := info_of E.info
  refine step_append_room hgd sv x t ho e i s E.slice hi hsz g 0 k c hs ⟨g, off, none⟩ m cc news hx hn (fun j u hu => ?_) h1 hroom (fun j hj => ?_) ?_
  · rw [Addr.add_lit, hg.cell]
    exact hsrc j u hu
  · rw [Nat.zero_add, hg.cell, hg.frozen]
    refine ⟨?_, rfl⟩
    rw [List.getElem?_eq_getElem (by omega)]
    rfl
  · rw [Nat.zero_add]
    refine h _ (hg.puts news (k * s) hfit) (grownBy_setCells g news (k * s) w) ?_
    have key : ∀ (vs : List Value) (o : Nat) (w : World), (w.setCells g o vs).heap.size = w.heap.size := by
      intro vs
      induction vs with
      | nil => intro o w; rfl
      | cons v r ih => intro o w; rw [World.setCells, ih]; simp [World.setCell]
    exact key _ _ _
theorem drop_rows {α : Type} {f : α → List Value} {s : Nat} {l : List α} (hf : ∀ x ∈ l, (f x).length = s) (k : Nat) : (l.flatMap f).drop (k * s) = (l.drop k).flatMap f := by
  rcases Nat.lt_or_ge l.length k with h | h
  · rw [List.drop_eq_nil_of_le (by rw [flatMap_length hf]; exact Nat.mul_le_mul_right s (by omega)), List.drop_eq_nil_of_le (by omega)]
    rfl
  · have e : l.flatMap f = (l.take k).flatMap f ++ (l.drop k).flatMap f := by rw [← List.flatMap_append, List.take_append_drop]
    rw [e, ← show ((l.take k).flatMap f).length = k * s from by rw [flatMap_length (fun x hx => hf x (List.mem_of_mem_take hx)), List.length_take, Nat.min_eq_left h], List.drop_left]
theorem take_rows2 {α : Type} {f : α → List Value} {s : Nat} {l : List α} (hf : ∀ x ∈ l, (f x).length = s) {k : Nat} (h : k ≤ l.length) (J : List Value) : (l.flatMap f ++ J).take (k * s) = (l.take k).flatMap f := by
  have e : l.flatMap f = (l.take k).flatMap f ++ (l.drop k).flatMap f := by rw [← List.flatMap_append, List.take_append_drop]
  rw [e, List.append_assoc, ← show ((l.take k).flatMap f).length = k * s from by rw [flatMap_length (fun x hx => hf x (List.mem_of_mem_take hx)), List.length_take, Nat.min_eq_left h], List.take_left]
end Go.Proofs.YtchgpijfebilbaaGreatDoor

/- made by geninst.py from XT4.src -/
namespace Go.Proofs.YtchgpijfebilbaaGreatDoor
open Go.RowKit
set_option maxHeartbeats 1000000 in
theorem insFile_end (A : Option Addr) (n c : Nat) (l : List File) (x : File) (w : World) (B vb : Nat) (hown : Ow cFile 3 151 w B (.slice A n c) l) (hl : n = l.length) (hv : Bk w vb (cFile x) 151)
    (hB : B ≤ w.heap.size) (hn : (n + 1) * 48 ≤ 140737488355328) :
    Calls Tryz.prog 87 #[.slice A n c, .int .i64 n, .slice (some ⟨vb, 0, none⟩) 1 1] w (Rowed cFile 3 151 B (n + 1) (l ++ [x]) (Value.slice A n c).ownBlock w) := by
  have H := Lib.hid hown
  obtain ⟨A', c', hf1, hf2, hf3, hf4, hf5⟩ := hown.form
  injection hf1 with e1 e2 e3
  subst e1; subst e3
  have HL := Lib.hid hl
  rw [← hl] at hf2
  have HN := Lib.hid hf4
  clear hl e2 hown hf4 hf5
  by_cases hcn : c = n
  · subst hcn
    go_enter Tryz.func87, Tryz.ntmps87
    go_wp2_with (at_builtin; refine wpList_app _ rfl (.tmp 23) (.tmp 24) _ rfl elFile (l := l) (m := [x]) rfl rfl H.out (Sl.blk rfl hv) cFile_one (by have := HL.out; simp [maxLen]; omega) (by have := HL.out; simp; omega) hB ?_; intro v' w1 hown1 hg1 hat1; obtain ⟨A1, c1, rfl⟩ := Ow.is_slice (m := c + 1) hown1 (by simpa using HL.out.symm); have HO := Lib.hid hown1; have HG := Lib.hid hg1; have HT := Lib.hid hat1; clear hown1 hg1 hat1)
    go_ret
    exact ⟨A1, c1, rfl, HO.out, HG.out, HT.out⟩
  · go_enter Tryz.func87, Tryz.ntmps87
    go_wp2_with (at_builtin; refine wpList_app _ rfl (.tmp 23) (.tmp 24) _ rfl elFile (l := l) (m := [x]) rfl rfl H.out (Sl.blk rfl hv) cFile_one (by have := HL.out; simp [maxLen]; omega) (by have := HL.out; simp; omega) hB ?_; intro v' w1 hown1 hg1 hat1; obtain ⟨A1, c1, rfl⟩ := Ow.is_slice (m := n + 1) hown1 (by simpa using HL.out.symm); have HO := Lib.hid hown1; have HG := Lib.hid hg1; have HT := Lib.hid hat1; clear hown1 hg1 hat1)
    go_ret
    exact ⟨A1, c1, rfl, HO.out, HG.out, HT.out⟩
set_option maxRecDepth 100000 in
set_option maxHeartbeats 1000000 in
theorem insFile_grow (A : Option Addr) (n k : Nat) (l : List File) (x : File) (w : World) (B vb : Nat) (hown : Ow cFile 3 151 w B (.slice A n n) l) (hk : k < n) (hv : Bk w vb (cFile x) 151)
    (hB : B ≤ w.heap.size) (hn : (n + 1) * 48 ≤ 140737488355328) :
    Calls Tryz.prog 87 #[.slice A n n, .int .i64 k, .slice (some ⟨vb, 0, none⟩) 1 1] w (Rowed cFile 3 151 B (n + 1) (l.take k ++ x :: l.drop k) (Value.slice A n n).ownBlock w) := by
  obtain ⟨g, J, rfl, hBg, hbk, hbl, _, hcm, hnl⟩ := hown.blk (by omega)
  have H2 := Lib.hid hown.2
  generalize hcur : l.flatMap cFile ++ J = cur at hbk hbl
  have HC := Lib.hid hcur
  have HL := Lib.hid hnl
  have HBL := Lib.hid hbl
  clear hcur hown hnl hbl
  have ecnt := Lib.hid (show (((n + 1 - k : Nat) : Nat) : Int) = (n : Int) + 1 - (k : Int) by omega)
  have hne : ((k : Int) == (n : Int)) = false := by simp; omega
  have F1 := Lib.hid (flatMap_split H2.out k)
  go_enter Tryz.func87, Tryz.ntmps87
  have hkc : k + (n + 1 - k) = n + 1 := by omega
  have hvg : g < w.heap.size := hbk.lt
  have hvv : vb < w.heap.size := hv.lt
  go_wp2_with (first | (with_reducible refine wpList_atcp ?_); go_loud (refine wpList_cp rfl (.tmp 43) (.tmp 44) _ _ rfl elFile (cs := cFile x) rfl rfl hb1 (by rw [show ∀ q, 1 ≤ q → Nat.min 1 q = 1 from fun q h => Nat.min_eq_left h] <;> first | rfl | omega) (fun j v hj => by show w1.cell? _ = _; rw [Addr.add_lit, Nat.zero_add, (hv.grown hg1 (by simp)).cell]; exact hj) (by have := HBL.out; simp [hz1, cFile]; omega) (cFile_one x) ?_; intro w2 hb2 hg2 hs2) | at_builtin; go_loud (refine wpList_appz rfl (.tmp 34) (.tmp 39) _ _ rfl elFile Tryz.underlying3 (k := k) (c := n) (cnt := n + 1 - k) rfl (by show Value.int _ _ = _; rw [ecnt.out]) hbk (by have := HBL.out; omega) (by omega) (by omega) (by simp [maxLen]; omega) (by omega) ?_; intro w1 Z cap hb1 hz1 hc1 hc2 hg1 hs1))
  have e1 : IntKind.i64.wrap ((k : Int) + 1) = (k : Int) + 1 := by rw [IntKind.wrap_i64]; simp [maxLen] at hcm; omega
  have e2 : ((k : Int) + 1).toNat = k + 1 := by omega
  have e3 : (0 : Int) ≤ (k : Int) + 1 := by omega
  have e4 : (k : Int) + 1 ≤ (n : Int) + 1 := by omega
  have e5 : ¬ cap = k + 1 := by omega
  have e6 : ¬ n = k := by omega
  have e7 : k ≤ n := by omega
  have hcsl : ((l.drop k).flatMap cFile).length = (n - k) * 3 := by rw [flatMap_length (fun y hy => H2.out y (List.mem_of_mem_drop hy)), List.length_drop, HL.out]
  have hcs1 : ∀ v ∈ (l.drop k).flatMap cFile, v.oneCell' = true := by intro v hv; obtain ⟨y, _, hy⟩ := List.mem_flatMap.1 hv; exact cFile_one y v hy
  have hlt : (cur.take (k * 3)).length = k * 3 := by rw [List.length_take, HBL.out]; omega
  have hsl : (splice (cur.take (k * 3) ++ Z) (k * 3) (cFile x)).length = k * 3 + (cap - k) * 3 := by rw [splice_length _ _ _ (by simp only [List.length_append, hlt, hz1]; show k * 3 + 3 ≤ _; omega), List.length_append, hlt, hz1]
  have hgs : Bk w2 g cur 151 := (hbk.grown hg1 (by simp)).grown hg2 (by simp; omega)
  have hsrc : ∀ (j : Nat) (v : Value), ((l.drop k).flatMap cFile)[j]? = some v → cur[k * 3 + j]? = some v := by
    intro j v hj
    rw [F1.out.2, List.getElem?_drop] at hj
    rw [← HC.out, List.getElem?_append_left (List.getElem?_eq_some_iff.1 hj).1]
    exact hj
  have HS := Lib.hid hsl
  have HSR := Lib.hid hsrc
  have HCL := Lib.hid hcsl
  clear hsl hsrc hcsl
  have hb2d : Bk w2.drew w.heap.size (splice (cur.take (k * 3) ++ Z) (k * 3) (cFile x)) 151 := hb2
  go_region_law (go_loud (refine step_cp rfl _ _ _ _ rfl elFile (cs := (l.drop k).flatMap cFile) (off := (k + 1) * 3) (dLen := n + 1 - (k + 1)) (dCap := cap - (k + 1)) (ad := ⟨g, k * 3, none⟩) (sLen := n - k) (sCap := n - k) (by simp [Act.eval, Act.put]) (by simp [Act.eval, Act.put]) hb2d (by rw [HCL.out, show Nat.min (n - k) (n + 1 - (k + 1)) = n - k from Nat.min_eq_left (by omega)]) (fun j v hj => by show w2.cell? _ = _; rw [Addr.add_lit, hgs.cell]; exact HSR.out j v hj) (by rw [HS.out, HCL.out]; omega) hcs1 ?_; intro w3 hb3 hg3 hs3))
  go_wp2
  go_ret
  refine ⟨some ⟨w.heap.size, 0, none⟩, cap, rfl, ?_, ((hg1.but _).andThen hg2 (by simp)).andThen (show w2.grownBy w3 (some w.heap.size) from ⟨hg3.os, hg3.tape, hg3.output, hg3.size, hg3.block⟩) (by simp), .inr rfl⟩
  have hta : cur.take (k * 3) = (l.take k).flatMap cFile := by rw [F1.out.1, ← HC.out, List.take_append_of_le_length (by rw [flatMap_length H2.out, ← HL.out]; omega)]
  have hall : ∀ y ∈ l.take k ++ x :: l.drop k, (cFile y).length = 3 := fun y _ => rfl
  have hlen : (l.take k ++ x :: l.drop k).length = n + 1 := by rw [List.length_append, List.length_take, List.length_cons, List.length_drop, ← HL.out]; omega
  have := Ow.of_blk (B := B) (g := w.heap.size) (c := cap) (J := Z.drop (3 + ((l.drop k).flatMap cFile).length)) hall hB hb3 (by
    have h := ins2 (cur.take (k * 3)) Z ((l.drop k).flatMap cFile) (cFile x)
    rw [hlt] at h
    rw [show (k + 1) * 3 = k * 3 + (cFile x).length from by show _ = k * 3 + 3; omega, h, hta, List.flatMap_append, List.flatMap_cons]
    simp only [List.append_assoc]
    rfl) (by rw [splice_length _ _ _ (by rw [HS.out, HCL.out]; omega), HS.out]; omega) (by rw [hlen]; omega) hc2
  rw [hlen] at this
  exact this
set_option maxRecDepth 100000 in
set_option maxHeartbeats 1000000 in
theorem insFile_room (A : Option Addr) (n k c : Nat) (l : List File) (x : File) (w : World) (B vb : Nat) (hown : Ow cFile 3 151 w B (.slice A n c) l) (hk : k < n) (hc : n < c) (hv : Bk w vb (cFile x) 151) (hvA : (Value.slice A n c).ownBlock ≠ some vb) :
    Calls Tryz.prog 87 #[.slice A n c, .int .i64 k, .slice (some ⟨vb, 0, none⟩) 1 1] w (Rowed cFile 3 151 B (n + 1) (l.take k ++ x :: l.drop k) (Value.slice A n c).ownBlock w) := by
  obtain ⟨g, J, rfl, hBg, hbk, hbl, _, hcm, hnl⟩ := hown.blk (by omega)
  have H2 := Lib.hid hown.2
  have hvg : vb ≠ g := by intro h; exact hvA (by rw [h]; rfl)
  generalize hcur : l.flatMap cFile ++ J = cur at hbk hbl
  have HC := Lib.hid hcur
  have HL := Lib.hid hnl
  have HBL := Lib.hid hbl
  clear hcur hown hnl hbl
  have hne : ((k : Int) == (n : Int)) = false := by simp; omega
  have F1 := Lib.hid (flatMap_split H2.out k)
  have d1 : IntKind.i64.wrap ((n : Int) + 1) = (n : Int) + 1 := by rw [IntKind.wrap_i64]; simp [maxLen] at hcm; omega
  have d2 : ((n : Int) + 1).toNat = n + 1 := by omega
  have d3 : (0 : Int) ≤ (n : Int) + 1 := by omega
  have d4 : (n : Int) + 1 ≤ (c : Int) := by omega
  have d5 : ¬ (c : Int) < (n : Int) + 1 := by omega
  have e1 : IntKind.i64.wrap ((k : Int) + 1) = (k : Int) + 1 := by rw [IntKind.wrap_i64]; simp [maxLen] at hcm; omega
  have e2 : ((k : Int) + 1).toNat = k + 1 := by omega
  have e3 : (0 : Int) ≤ (k : Int) + 1 := by omega
  have e4 : (k : Int) + 1 ≤ (n : Int) + 1 := by omega
  have e5 : ¬ c = k + 1 := by omega
  have e6 : ¬ c = k := by omega
  have e7 : (k : Int) ≤ (n : Int) + 1 := by omega
  have e8 : k ≤ n := by omega
  have hov := fun (off lb cb : Nat) => overlaps_no elFile Tryz.func104 (by kernel_rfl) (by kernel_rfl) (by kernel_rfl) (tB := 4) (by kernel_rfl) hv hbk hvg (by have := HBL.out; omega) off 1 1 lb cb
  go_enter Tryz.func87, Tryz.ntmps87
  go_wp2_with (simp only [hov])
  have hcsl : ((l.drop k).flatMap cFile).length = (n - k) * 3 := by rw [flatMap_length (fun y hy => H2.out y (List.mem_of_mem_drop hy)), List.length_drop, HL.out]
  have hcs1 : ∀ v ∈ (l.drop k).flatMap cFile, v.oneCell' = true := by intro v hv; obtain ⟨y, _, hy⟩ := List.mem_flatMap.1 hv; exact cFile_one y v hy
  have hsl : (splice cur ((k + 1) * 3) ((l.drop k).flatMap cFile)).length = c * 3 := by rw [splice_length _ _ _ (by rw [hcsl, HBL.out]; omega), HBL.out]
  have hsrc : ∀ (j : Nat) (v : Value), ((l.drop k).flatMap cFile)[j]? = some v → cur[k * 3 + j]? = some v := by
    intro j v hj
    rw [F1.out.2, List.getElem?_drop] at hj
    rw [← HC.out, List.getElem?_append_left (List.getElem?_eq_some_iff.1 hj).1]
    exact hj
  have HS := Lib.hid hsl
  have HSR := Lib.hid hsrc
  have HCL := Lib.hid hcsl
  clear hsl hsrc hcsl
  have hbd : Bk w.drew g cur 151 := hbk
  have hvd : Bk w.drew vb (cFile x) 151 := hv
  go_region_law (go_loud (refine step_cp rfl _ _ _ _ rfl elFile (cs := (l.drop k).flatMap cFile) (off := (k + 1) * 3) (dLen := n - k) (dCap := c - (k + 1)) (ad := ⟨g, k * 3, none⟩) (sLen := n + 1 - k) (sCap := c - k) (by simp [Act.eval, Act.put]) (by simp [Act.eval, Act.put]) hbd (by rw [HCL.out, show Nat.min (n + 1 - k) (n - k) = n - k from Nat.min_eq_right (by omega)]) (fun j v hj => by rw [Addr.add_lit, hbd.cell]; exact HSR.out j v hj) (by rw [HBL.out, HCL.out]; omega) hcs1 ?_; intro w3 hb3 hg3 hs3))
  go_wp2_with (first | (with_reducible refine wpList_atcp ?_); go_loud (refine wpList_cp rfl (.tmp 80) (.tmp 81) _ _ rfl elFile (cs := cFile x) (off := k * 3) (dLen := n + 1 - k) (dCap := c - k) rfl rfl hb3 (by rw [show ∀ q, 1 ≤ q → Nat.min 1 q = 1 from fun q h => Nat.min_eq_left h] <;> first | rfl | omega) (fun j v hj => by rw [Addr.add_lit, Nat.zero_add, (hvd.grown hg3 (by simp; exact hvg)).cell]; exact hj) (by rw [HS.out]; show k * 3 + 3 ≤ _; omega) (cFile_one x) ?_; intro w4 hb4 hg4 hs4))
  go_ret
  refine ⟨some ⟨g, 0, none⟩, c, rfl, ?_, (show w.grownBy w3 (some g) from ⟨hg3.os, hg3.tape, hg3.output, hg3.size, hg3.block⟩).trans hg4, .inl rfl⟩
  have hta : cur = (l.take k).flatMap cFile ++ (l.drop k).flatMap cFile ++ J := by rw [← List.flatMap_append, List.take_append_drop, HC.out]
  have hlt : ((l.take k).flatMap cFile).length = k * 3 := by rw [flatMap_length (fun y hy => H2.out y (List.mem_of_mem_take hy)), List.length_take, ← HL.out, Nat.min_eq_left (by omega)]
  have hJ : (cFile x).length ≤ J.length := by
    have h := HBL.out
    rw [hta, List.length_append, List.length_append, hlt, HCL.out] at h
    show 3 ≤ _
    omega
  have hall : ∀ y ∈ l.take k ++ x :: l.drop k, (cFile y).length = 3 := fun y _ => rfl
  have hlen : (l.take k ++ x :: l.drop k).length = n + 1 := by rw [List.length_append, List.length_take, List.length_cons, List.length_drop, ← HL.out]; omega
  have := Ow.of_blk (B := B) (g := g) (c := c) (J := J.drop (cFile x).length) hall hBg hb4 (by
    have h := ins1 ((l.take k).flatMap cFile) ((l.drop k).flatMap cFile) J (cFile x) hJ
    rw [hlt, ← hta] at h
    rw [show (k + 1) * 3 = k * 3 + (cFile x).length from by show _ = k * 3 + 3; omega, h, List.flatMap_append, List.flatMap_cons]
    simp only [List.append_assoc]) (by rw [splice_length _ _ _ (by rw [HS.out]; show k * 3 + 3 ≤ _; omega), HS.out]) (by rw [hlen]; omega) hcm
  rw [hlen] at this
  exact this
theorem insFile (v : Value) (k : Nat) (l : List File) (x : File) (w : World) (B vb : Nat) (hown : Ow cFile 3 151 w B v l) (hk : k ≤ l.length) (hv : Bk w vb (cFile x) 151) (hvA : v.ownBlock ≠ some vb)
    (hB : B ≤ w.heap.size) (hn : (l.length + 1) * 48 ≤ 140737488355328) :
    Calls Tryz.prog 87 #[v, .int .i64 k, .slice (some ⟨vb, 0, none⟩) 1 1] w (Rowed cFile 3 151 B (l.length + 1) (l.take k ++ x :: l.drop k) v.ownBlock w) := by
  obtain ⟨A, c, rfl, h2⟩ := hown.form
  rcases Nat.lt_or_ge k l.length with h | h
  · obtain ⟨g, J, rfl, _, _, _, hnc, _, _⟩ := hown.blk (by omega)
    by_cases hc : c = l.length
    · subst hc
      exact insFile_grow _ _ k l x w B vb hown h hv hB hn
    · exact insFile_room _ _ k c l x w B vb hown h (by omega) hv hvA
  · obtain rfl : k = l.length := by omega
    rw [List.take_length, List.drop_length]
    exact insFile_end _ _ c l x w B vb hown rfl hv hB hn
end Go.Proofs.YtchgpijfebilbaaGreatDoor

/- made by geninst.py from XT5.src -/
namespace Go.Proofs.YtchgpijfebilbaaGreatDoor
open Go.RowKit
end Go.Proofs.YtchgpijfebilbaaGreatDoor

/- made by geninst.py from XT3.src -/
namespace Go.Proofs.YtchgpijfebilbaaGreatDoor
open Go.RowKit
theorem cmpFile (x : File) (p : ByteArray) (w : World) :
    Calls Tryz.prog 101 #[.agg #[.string x.name, .string x.safe, .string x.tail], .string p] w fun e w' => e = .returned (.int .i64 (cmpB x.name p)) ∧ Below w.heap.size w w' := by
  go_enter Tryz.func101, Tryz.ntmps101
  go_wp2_with (go_at_call 57; refine (Tryz.strings_Compare _ _ _).mono ?_; rintro e w1 ⟨rfl, rfl⟩)
  go_ret
  exact ⟨rfl, (by repeat (first | exact bA .. | assumption | refine bB ?_ | refine bC ?_ _ | refine bD _ _ ?_ | refine bE _ ?_ | refine bG ?_ (by first | omega | (simp; done) | (simp; omega)) _ | refine Below.setCell ?_ (by first | omega | (simp; done) | (simp; omega)) _ | refine Below.grow _ _ _ ?_ (by first | omega | (simp; done) | (simp; omega))))⟩

set_option maxHeartbeats 1000000 in
theorem bsfFile (v : Value) (l : List File) (p : ByteArray) (w : World) (h : Sl cFile 3 w v l) (hn : l.length ≤ 140737488355328) :
    Calls Tryz.prog 100 #[v, .string p, .func (.func 101) #[] #[]] w fun e w' => e = .returned (.tuple #[.int .i64 (posK (l.map File.name) p), .bool (isK (l.map File.name) p)]) ∧ Below w.heap.size w w' := by
  obtain ⟨A, c, rfl, hc1, hc2⟩ := h.form
  have H := Lib.hid h
  clear h
  go_enter Tryz.func100, Tryz.ntmps100
  go_wp2
  go_loopw [9, 10] (fun i j wr => ∃ (a b : Nat), a ≤ b ∧ b ≤ l.length ∧ i = .int .i64 a ∧ j = .int .i64 b ∧ Hid (bsr (ltK (l.map File.name) p) a b = posK (l.map File.name) p) ∧ Below w.heap.size w wr) (fun i j _ => (intOf j - intOf i).toNat)
  case atStart => exact ⟨0, l.length, Nat.zero_le _, Nat.le_refl _, rfl, rfl, (by simp [posK] : bsr (ltK (l.map File.name) p) 0 l.length = posK (l.map File.name) p), Below.refl _ _⟩
  case round =>
    obtain ⟨a, b, hab, hbl, rfl, rfl, hr, hb⟩ := hrel
    by_cases hlt : a < b
    · have hx : l[(a + b) / 2]? = some (l[(a + b) / 2]'(by omega)) := List.getElem?_eq_getElem _
      obtain ⟨bk, off, rfl, hbw, c0, c1, c2⟩ := (H.out.below hb).File_at hx
      generalize hxe : l[(a + b) / 2]'(by omega) = x at hx c0 c1 c2
      have HX := Lib.hid hx
      clear hx hxe
      go_wp2_with (go_at_call 101; refine (cmpFile _ _ _).mono ?_; rintro e w1 ⟨rfl, hb1⟩; obtain ⟨ext1, d1, rfl⟩ := Below.grown_eq _ hb1)
      all_goals
        have hcmp := ltK_of (g := File.name) HX.out p
        go_roundw
      case rel =>
        have hlt2 : cmpB x.name p < 0 := by assumption
        exact ⟨(a + b) / 2 + 1, b, by omega, by omega, by go_num, rfl, Eq.trans (bsr_up _ _ _ hlt (by rw [hcmp]; simpa using hlt2)).symm hr.out, (by repeat (first | exact bA .. | assumption | refine bB ?_ | refine bC ?_ _ | refine bD _ _ ?_ | refine bE _ ?_ | refine bG ?_ (by first | omega | (simp; done) | (simp; omega)) _ | refine Below.setCell ?_ (by first | omega | (simp; done) | (simp; omega)) _ | refine Below.grow _ _ _ ?_ (by first | omega | (simp; done) | (simp; omega))))⟩
      case measure => simp [intOf]; omega
      case rel =>
        have hge2 : 0 ≤ cmpB x.name p := by assumption
        exact ⟨a, (a + b) / 2, by omega, by omega, rfl, by go_num, Eq.trans (bsr_down _ _ _ hlt (by rw [hcmp]; simpa using hge2)).symm hr.out, (by repeat (first | exact bA .. | assumption | refine bB ?_ | refine bC ?_ _ | refine bD _ _ ?_ | refine bE _ ?_ | refine bG ?_ (by first | omega | (simp; done) | (simp; omega)) _ | refine Below.setCell ?_ (by first | omega | (simp; done) | (simp; omega)) _ | refine Below.grow _ _ _ ?_ (by first | omega | (simp; done) | (simp; omega))))⟩
      case measure => simp [intOf]; omega
    · obtain rfl : a = b := by omega
      have hpos : posK (l.map File.name) p = a := by rw [← hr.out]; exact bsr_end _ _ _ hlt
      have HP := Lib.hid hpos
      clear hpos hr
      by_cases han : a < l.length
      · have hx : l[a]? = some (l[a]'(by omega)) := List.getElem?_eq_getElem _
        obtain ⟨bk, off, rfl, hbw, c0, c1, c2⟩ := (H.out.below hb).File_at hx
        generalize hxe : l[a]'(by omega) = x at hx c0 c1 c2
        have HX := Lib.hid hx
        clear hx hxe
        go_wp2_with (go_at_call 101; refine (cmpFile _ _ _).mono ?_; rintro e w1 ⟨rfl, hb1⟩; obtain ⟨ext1, d1, rfl⟩ := Below.grown_eq _ hb1)
        go_ret2
        refine ⟨?_, (by repeat (first | exact bA .. | assumption | refine bB ?_ | refine bC ?_ _ | refine bD _ _ ?_ | refine bE _ ?_ | refine bG ?_ (by first | omega | (simp; done) | (simp; omega)) _ | refine Below.setCell ?_ (by first | omega | (simp; done) | (simp; omega)) _ | refine Below.grow _ _ _ ?_ (by first | omega | (simp; done) | (simp; omega))))⟩
        rw [isK_in HP.out HX.out, HP.out]
        rfl
      · go_wp2
        go_ret2
        refine ⟨?_, (by repeat (first | exact bA .. | assumption | refine bB ?_ | refine bC ?_ _ | refine bD _ _ ?_ | refine bE _ ?_ | refine bG ?_ (by first | omega | (simp; done) | (simp; omega)) _ | refine Below.setCell ?_ (by first | omega | (simp; done) | (simp; omega)) _ | refine Below.grow _ _ _ ?_ (by first | omega | (simp; done) | (simp; omega))))⟩
        rw [isK_out HP.out han, HP.out]
        rfl
end Go.Proofs.YtchgpijfebilbaaGreatDoor

/- package disk: find, copied, Good. -/
namespace Go.Proofs.YtchgpijfebilbaaGreatDoor
open Go.RowKit Go.ChangeShapes Go.WideShapes Go.ChangeAt
theorem dkFind (v : Value) (l : List File) (p : ByteArray) (w : World) (h : Sl cFile 3 w v l) (hn : l.length ≤ 140737488355328) :
    Calls Tryz.prog 82 #[.agg #[v], .string p] w fun e w' => e = .returned (.tuple #[.int .i64 (posK (l.map File.name) p), .bool (isK (l.map File.name) p)]) ∧ Below w.heap.size w w' := by
  obtain ⟨A, c, rfl, h1, h2⟩ := h.form
  have H := Lib.hid h
  clear h
  go_enter Tryz.func82, Tryz.ntmps82
  go_wp2_with (go_at_call 100; refine (bsfFile _ _ _ _ (H.out.alloc _) hn).mono ?_; rintro e w1 ⟨rfl, hb⟩; obtain ⟨ext, d, rfl⟩ := Below.grown_eq _ hb)
  go_ret2
  exact ⟨rfl, (by repeat (first | exact bA .. | assumption | refine bB ?_ | refine bC ?_ _ | refine bD _ _ ?_ | refine bE _ ?_ | refine bG ?_ (by first | omega | (simp; done) | (simp; omega)) _ | refine Below.setCell ?_ (by first | omega | (simp; done) | (simp; omega)) _ | refine Below.grow _ _ _ ?_ (by first | omega | (simp; done) | (simp; omega))))⟩
def DkIs (l : List File) (w : World) (e : Ending) (w' : World) : Prop := ∃ A c, e = .returned (.agg #[.slice A l.length c]) ∧ Ow cFile 3 151 w' w.heap.size (.slice A l.length c) l ∧ Below w.heap.size w w'
set_option maxHeartbeats 400000 in
theorem dkCopied (v : Value) (l : List File) (w : World) (h : Sl cFile 3 w v l) (hn : l.length * 48 ≤ 140737488355328) (hm : l.length ≤ maxLen) :
    Calls Tryz.prog 86 #[.agg #[v]] w (DkIs l w) := by
  obtain ⟨A, c, rfl, h1, h2⟩ := h.form
  have H := Lib.hid h
  clear h
  go_enter Tryz.func86, Tryz.ntmps86
  go_wp2_with (go_at_call 103; refine (cloneFile _ _ _ ((H.out.alloc _).alloc _) hn hm).mono ?_; rintro e w1 ⟨A', c', rfl, hown, hb⟩; obtain ⟨ext, d, rfl⟩ := Below.grown_eq _ hb)
  refine bodyPost_ret (v := .agg #[.slice A' l.length c']) (by simp [results, Tryz.results86, go_sem]) rfl ⟨A', c', rfl, ?_, ?_⟩
  · exact (hown.regrow (Nat.le_refl _) (by simp)).mono (by simp; omega)
  · exact (by repeat (first | exact bA .. | assumption | refine bB ?_ | refine bC ?_ _ | refine bD _ _ ?_ | refine bE _ ?_ | refine bG ?_ (by first | omega | (simp; done) | (simp; omega)) _ | refine Below.setCell ?_ (by first | omega | (simp; done) | (simp; omega)) _ | refine Below.grow _ _ _ ?_ (by first | omega | (simp; done) | (simp; omega))))
theorem not_less_of_cmp {a b : ByteArray} (h : ¬ cmpB a b < 0) : Op.bytesLess a.toList b.toList = false := by
  rw [ByteArray.toList_eq, ByteArray.toList_eq, less_of_cb]
  exact decide_eq_false h
theorem retB {a b : Bool} (h : a = b) : Ending.returned (.bool a) = Ending.returned (.bool b) := by rw [h]
def okF (x : File) : Bool := named (bs x.name) && decide (x.safe.size + x.tail.size ≤ 1048576)
def stepF (l : List File) (i : Nat) : Bool := match l[i]? with
  | none => true
  | some x => okF x && (match i with | 0 => true | j + 1 => match l[j]? with | some y => decide (cmpB y.name x.name < 0) | none => true)
def goodD (l : List File) : Bool := decide (l.length ≤ 16) && (List.range l.length).all (stepF l)
theorem goodD_no {l : List File} {i : Nat} (h : stepF l i = false) : goodD l = false := by
  have hi : i < l.length := by
    apply Classical.byContradiction
    intro hn
    unfold stepF at h
    rw [List.getElem?_eq_none (by omega)] at h
    cases h
  unfold goodD
  rw [Bool.and_eq_false_iff]
  refine .inr ?_
  rw [List.all_eq_false]
  exact ⟨i, List.mem_range.2 hi, by simp [h]⟩
theorem goodD_yes {l : List File} (h : ∀ i, i < l.length → stepF l i = true) (h16 : l.length ≤ 16) : goodD l = true := by
  unfold goodD
  rw [Bool.and_eq_true, List.all_eq_true]
  exact ⟨decide_eq_true h16, fun i hi => h i (List.mem_range.1 hi)⟩
def File.sized (x : File) : Prop := x.name.size ≤ 9223372036854775807 ∧ x.safe.size ≤ 140737488355328 ∧ x.tail.size ≤ 140737488355328
set_option maxHeartbeats 2000000 in
theorem dkGood (v : Value) (l : List File) (w : World) (h : Sl cFile 3 w v l) (hz : ∀ x ∈ l, x.sized) :
    Calls Tryz.prog 81 #[.agg #[v]] w fun e w' => e = .returned (.bool (goodD l)) ∧ Below w.heap.size w w' := by
  obtain ⟨A, c, rfl, hc1, hc2⟩ := h.form
  have H := Lib.hid h
  have HZ := Lib.hid hz
  clear h hz
  by_cases h16 : l.length ≤ 16
  · have h16i : (decide ((16 : Int) < (l.length : Int))) = false := decide_eq_false (by omega)
    go_enter Tryz.func81, Tryz.ntmps81
    go_wp2_with fail
    go_loopw [12] (fun i wr => ∃ (k : Nat) (ext : Array Obj) (d : Nat), k ≤ l.length ∧ i = .int .i64 k ∧ wr = grow (w.alloc (.cells #[.slice A l.length c] 28)) ext d ∧ Hid (∀ j, j < k → stepF l j = true)) (fun i _ => l.length - (intOf i).toNat)
    case atStart => exact ⟨0, _, _, Nat.zero_le _, rfl, grown_of (by repeat (first | exact bA .. | assumption | refine bB ?_ | refine bC ?_ _ | refine bD _ _ ?_ | refine bE _ ?_ | refine bG ?_ (by first | omega | (simp; done) | (simp; omega)) _ | refine Below.setCell ?_ (by first | omega | (simp; done) | (simp; omega)) _ | refine Below.grow _ _ _ ?_ (by first | omega | (simp; done) | (simp; omega)))), Lib.hid (fun j hj => absurd hj (by omega))⟩
    case round =>
      obtain ⟨k, ext, d, hk, rfl, rfl, hok⟩ := hrel
      by_cases hlt : k < l.length
      · have hx : l[k]? = some (l[k]'hlt) := List.getElem?_eq_getElem _
        obtain ⟨b, off, rfl, hbw, x0, x1, x2⟩ := H.out.File_at hx
        have hzx := HZ.out _ (List.mem_of_getElem? hx)
        generalize l[k]'hlt = x at *
        have HX := Lib.hid hx
        clear hx
        obtain ⟨z0, z1, z2⟩ := hzx
        have HN := Lib.hid (fun (W : World) => named_any x.name W z0)
        generalize hnm : named (bs x.name) = nm at HN
        have HNM := Lib.hid hnm
        clear hnm
        go_wp2_with fail
        cases nm with
        | false =>
          go_quiet (first | (go_at_call 79; with_reducible refine Calls.quiet_of_same ((HN.out _).mono fun e w' h => ⟨h.1, h.2.symm⟩)))
          go_wp2_with fail
          go_ret
          exact ⟨retB (goodD_no (i := k) (by unfold stepF; rw [HX.out]; simp [okF, HNM.out])).symm, (by repeat (first | exact bA .. | assumption | refine bB ?_ | refine bC ?_ _ | refine bD _ _ ?_ | refine bE _ ?_ | refine bG ?_ (by first | omega | (simp; done) | (simp; omega)) _ | refine Below.setCell ?_ (by first | omega | (simp; done) | (simp; omega)) _ | refine Below.grow _ _ _ ?_ (by first | omega | (simp; done) | (simp; omega))))⟩
        | true =>
          by_cases hsz : x.safe.size + x.tail.size ≤ 1048576
          · have hszi : (decide ((1048576 : Int) < (x.safe.size : Int) + (x.tail.size : Int))) = false := decide_eq_false (by omega)
            have hokx : okF x = true := by simp [okF, HNM.out, hsz]
            have HOK := Lib.hid hokx
            clear hokx
            cases k with
            | zero =>
              go_quiet (first | (go_at_call 79; with_reducible refine Calls.quiet_of_same ((HN.out _).mono fun e w' h => ⟨h.1, h.2.symm⟩)))
              go_wp2_with fail
              go_roundw
              case rel => exact ⟨0 + 1, _, _, by omega, by go_num, grown_of (by repeat (first | exact bA .. | assumption | refine bB ?_ | refine bC ?_ _ | refine bD _ _ ?_ | refine bE _ ?_ | refine bG ?_ (by first | omega | (simp; done) | (simp; omega)) _ | refine Below.setCell ?_ (by first | omega | (simp; done) | (simp; omega)) _ | refine Below.grow _ _ _ ?_ (by first | omega | (simp; done) | (simp; omega)))), Lib.hid (fun i hi => by
                rcases Nat.lt_or_ge i (0) with h | h
                · exact hok.out i h
                · obtain rfl : i = 0 := by omega
                  unfold stepF; rw [HX.out]; simp [HOK.out])⟩
              case measure => simp [intOf]; omega
            | succ j =>
              have hy : l[j]? = some (l[j]'(by omega)) := List.getElem?_eq_getElem _
              obtain ⟨b2, off2, hA2, _, y0, y1, y2⟩ := H.out.File_at hy
              injection hA2 with hA2
              injection hA2 with e1 e2 _
              subst e1
              subst e2
              generalize l[j]'(by omega) = y at *
              have HY := Lib.hid hy
              clear hy
              have hcmp := less_of_cb (bs3 y.name) (bs3 x.name)
              by_cases hlt2 : cmpB y.name x.name < 0
              · have HLT := Lib.hid hlt2
                have hls := less_of_cmp hlt2
                clear hlt2 hcmp
                go_quiet (first | (go_at_call 79; with_reducible refine Calls.quiet_of_same ((HN.out _).mono fun e w' h => ⟨h.1, h.2.symm⟩)))
                go_wp2_with fail
                go_roundw
                case rel => exact ⟨j + 1 + 1, _, _, by omega, by go_num, grown_of (by repeat (first | exact bA .. | assumption | refine bB ?_ | refine bC ?_ _ | refine bD _ _ ?_ | refine bE _ ?_ | refine bG ?_ (by first | omega | (simp; done) | (simp; omega)) _ | refine Below.setCell ?_ (by first | omega | (simp; done) | (simp; omega)) _ | refine Below.grow _ _ _ ?_ (by first | omega | (simp; done) | (simp; omega)))), Lib.hid (fun i hi => by
                  rcases Nat.lt_or_ge i (j + 1) with h | h
                  · exact hok.out i h
                  · obtain rfl : i = j + 1 := by omega
                    unfold stepF; rw [HX.out]; simp [HOK.out, HY.out, HLT.out])⟩
                case measure => simp [intOf]; omega
              · have HLT := Lib.hid hlt2
                have hls : Op.bytesLess y.name.toList x.name.toList = false := not_less_of_cmp hlt2
                clear hlt2 hcmp
                go_quiet (first | (go_at_call 79; with_reducible refine Calls.quiet_of_same ((HN.out _).mono fun e w' h => ⟨h.1, h.2.symm⟩)))
                go_wp2_with fail
                go_ret
                exact ⟨retB (goodD_no (i := j + 1) (by unfold stepF; rw [HX.out]; simp [HOK.out, HY.out]; have := HLT.out; omega)).symm, (by repeat (first | exact bA .. | assumption | refine bB ?_ | refine bC ?_ _ | refine bD _ _ ?_ | refine bE _ ?_ | refine bG ?_ (by first | omega | (simp; done) | (simp; omega)) _ | refine Below.setCell ?_ (by first | omega | (simp; done) | (simp; omega)) _ | refine Below.grow _ _ _ ?_ (by first | omega | (simp; done) | (simp; omega))))⟩
          · have hszi : (decide ((1048576 : Int) < (x.safe.size : Int) + (x.tail.size : Int))) = true := decide_eq_true (by omega)
            have hokx : okF x = false := by simp [okF, HNM.out, hsz]
            have HOK := Lib.hid hokx
            clear hokx
            cases k with
            | zero =>
              go_quiet (first | (go_at_call 79; with_reducible refine Calls.quiet_of_same ((HN.out _).mono fun e w' h => ⟨h.1, h.2.symm⟩)))
              go_wp2_with fail
              go_ret
              exact ⟨retB (goodD_no (i := 0) (by unfold stepF; rw [HX.out]; simp [HOK.out])).symm, (by repeat (first | exact bA .. | assumption | refine bB ?_ | refine bC ?_ _ | refine bD _ _ ?_ | refine bE _ ?_ | refine bG ?_ (by first | omega | (simp; done) | (simp; omega)) _ | refine Below.setCell ?_ (by first | omega | (simp; done) | (simp; omega)) _ | refine Below.grow _ _ _ ?_ (by first | omega | (simp; done) | (simp; omega))))⟩
            | succ j =>
              have hy : l[j]? = some (l[j]'(by omega)) := List.getElem?_eq_getElem _
              obtain ⟨b2, off2, hA2, _, y0, y1, y2⟩ := H.out.File_at hy
              injection hA2 with hA2
              injection hA2 with e1 e2 _
              subst e1
              subst e2
              generalize l[j]'(by omega) = y at *
              clear hy
              by_cases hlt2 : cmpB y.name x.name < 0
              · have hls := less_of_cmp hlt2
                clear hlt2
                go_quiet (first | (go_at_call 79; with_reducible refine Calls.quiet_of_same ((HN.out _).mono fun e w' h => ⟨h.1, h.2.symm⟩)))
                go_wp2_with fail
                go_ret
                exact ⟨retB (goodD_no (i := j + 1) (by unfold stepF; rw [HX.out]; simp [HOK.out])).symm, (by repeat (first | exact bA .. | assumption | refine bB ?_ | refine bC ?_ _ | refine bD _ _ ?_ | refine bE _ ?_ | refine bG ?_ (by first | omega | (simp; done) | (simp; omega)) _ | refine Below.setCell ?_ (by first | omega | (simp; done) | (simp; omega)) _ | refine Below.grow _ _ _ ?_ (by first | omega | (simp; done) | (simp; omega))))⟩
              · have hls : Op.bytesLess y.name.toList x.name.toList = false := not_less_of_cmp hlt2
                clear hlt2
                go_quiet (first | (go_at_call 79; with_reducible refine Calls.quiet_of_same ((HN.out _).mono fun e w' h => ⟨h.1, h.2.symm⟩)))
                go_wp2_with fail
                go_ret
                exact ⟨retB (goodD_no (i := j + 1) (by unfold stepF; rw [HX.out]; simp [HOK.out])).symm, (by repeat (first | exact bA .. | assumption | refine bB ?_ | refine bC ?_ _ | refine bD _ _ ?_ | refine bE _ ?_ | refine bG ?_ (by first | omega | (simp; done) | (simp; omega)) _ | refine Below.setCell ?_ (by first | omega | (simp; done) | (simp; omega)) _ | refine Below.grow _ _ _ ?_ (by first | omega | (simp; done) | (simp; omega))))⟩
      · go_wp2_with fail
        go_ret
        exact ⟨retB (goodD_yes (fun i hi => hok.out i (by omega)) h16).symm, (by repeat (first | exact bA .. | assumption | refine bB ?_ | refine bC ?_ _ | refine bD _ _ ?_ | refine bE _ ?_ | refine bG ?_ (by first | omega | (simp; done) | (simp; omega)) _ | refine Below.setCell ?_ (by first | omega | (simp; done) | (simp; omega)) _ | refine Below.grow _ _ _ ?_ (by first | omega | (simp; done) | (simp; omega))))⟩
  · have hg : goodD l = false := by unfold goodD; rw [decide_eq_false h16]; rfl
    have h16i : (decide ((16 : Int) < (l.length : Int))) = true := decide_eq_true (by omega)
    rw [hg]
    go_enter Tryz.func81, Tryz.ntmps81
    go_wp2_with fail
    go_ret
    exact ⟨rfl, (by repeat (first | exact bA .. | assumption | refine bB ?_ | refine bC ?_ _ | refine bD _ _ ?_ | refine bE _ ?_ | refine bG ?_ (by first | omega | (simp; done) | (simp; omega)) _ | refine Below.setCell ?_ (by first | omega | (simp; done) | (simp; omega)) _ | refine Below.grow _ _ _ ?_ (by first | omega | (simp; done) | (simp; omega))))⟩
end Go.Proofs.YtchgpijfebilbaaGreatDoor

/- package disk: Read. -/
namespace Go.Proofs.YtchgpijfebilbaaGreatDoor
open Go.RowKit Go.ChangeShapes Go.WideShapes Go.ChangeAt
def fileAt (l : List File) (p : ByteArray) : File := l.getD (posK (l.map File.name) p) ⟨ByteArray.empty, ByteArray.empty, ByteArray.empty⟩
def readE (l : List File) (p : ByteArray) : Int := if goodD l then (if isK (l.map File.name) p then 0 else 7) else 3
def readS (l : List File) (p : ByteArray) : ByteArray := if goodD l && isK (l.map File.name) p then (fileAt l p).safe ++ (fileAt l p).tail else ⟨#[]⟩
theorem isK_in_file {l : List File} {p : ByteArray} (h : isK (l.map File.name) p = true) : posK (l.map File.name) p < l.length := by
  unfold isK at h
  simp at h
  exact h.1
theorem goodD_len {l : List File} (h : goodD l = true) : l.length ≤ 16 := by
  unfold goodD at h
  simp at h
  exact h.1
set_option maxHeartbeats 1000000 in
theorem dkRead (v : Value) (l : List File) (p : ByteArray) (w : World) (h : Sl cFile 3 w v l) (hz : ∀ x ∈ l, x.sized) :
    Calls Tryz.prog 63 #[.agg #[v], .string p] w fun e w' => e = .returned (.tuple #[.string (readS l p), .int .i64 (readE l p)]) ∧ Below w.heap.size w w' := by
  obtain ⟨A, c, rfl, hc1, hc2⟩ := h.form
  have H := Lib.hid h
  have HG := Lib.hid (fun (W : World) (hs : Sl cFile 3 W (.slice A l.length c) l) => dkGood _ l W hs hz)
  unfold readS readE
  cases hg : goodD l with
  | false =>
    rw [hg] at HG
    clear h hz hg
    simp only [Bool.false_and, Bool.false_eq_true, if_false]
    go_enter Tryz.func63, Tryz.ntmps63
    go_wp2_with (first | (go_at_call 81; refine (HG.out _ (H.out.alloc _)).mono ?_; rintro e w1 ⟨rfl, hb⟩; obtain ⟨ext, d, rfl⟩ := Below.grown_eq _ hb; clear hb))
    go_ret2
    exact ⟨rfl, (by repeat (first | exact bA .. | assumption | refine bB ?_ | refine bC ?_ _ | refine bD _ _ ?_ | refine bE _ ?_ | refine bG ?_ (by first | omega | (simp; done) | (simp; omega)) _ | refine Below.setCell ?_ (by first | omega | (simp; done) | (simp; omega)) _ | refine Below.grow _ _ _ ?_ (by first | omega | (simp; done) | (simp; omega))))⟩
  | true =>
    rw [hg] at HG
    have hl16 := goodD_len hg
    have hfind := fun (W : World) (v : Value) (hs : Sl cFile 3 W v l) => dkFind v l p W hs (by omega)
    clear hg
    simp only [Bool.true_and, if_true]
    cases hk : isK (l.map File.name) p with
    | false =>
      rw [hk] at hfind
      have HF := Lib.hid hfind
      generalize posK (l.map File.name) p = q at *
      clear h hz hk hfind
      simp only [Bool.false_eq_true, if_false]
      go_enter Tryz.func63, Tryz.ntmps63
      go_wp2_with (first | (go_at_call 81; refine (HG.out _ (H.out.alloc _)).mono ?_; rintro e w1 ⟨rfl, hb⟩; obtain ⟨ext, d, rfl⟩ := Below.grown_eq _ hb; clear hb) | (go_at_call 82; refine (HF.out _ _ (H.out.below (by repeat (first | exact bA .. | assumption | refine bB ?_ | refine bC ?_ _ | refine bD _ _ ?_ | refine bE _ ?_ | refine bG ?_ (by first | omega | (simp; done) | (simp; omega)) _ | refine Below.setCell ?_ (by first | omega | (simp; done) | (simp; omega)) _ | refine Below.grow _ _ _ ?_ (by first | omega | (simp; done) | (simp; omega)))))).mono ?_; rintro e w1 ⟨rfl, hb⟩; obtain ⟨ext2, d2, rfl⟩ := Below.grown_eq _ hb; clear hb))
      go_ret2
      exact ⟨rfl, (by repeat (first | exact bA .. | assumption | refine bB ?_ | refine bC ?_ _ | refine bD _ _ ?_ | refine bE _ ?_ | refine bG ?_ (by first | omega | (simp; done) | (simp; omega)) _ | refine Below.setCell ?_ (by first | omega | (simp; done) | (simp; omega)) _ | refine Below.grow _ _ _ ?_ (by first | omega | (simp; done) | (simp; omega))))⟩
    | true =>
      rw [hk] at hfind
      have HF := Lib.hid hfind
      have hq := isK_in_file hk
      have hx : l[posK (l.map File.name) p]? = some (fileAt l p) := by
        unfold fileAt
        rw [List.getD_eq_getElem?_getD, List.getElem?_eq_getElem hq]
        rfl
      obtain ⟨z0, z1, z2⟩ := hz _ (List.mem_of_getElem? hx)
      obtain ⟨b, off, rfl, hbw, x0, x1, x2⟩ := H.out.File_at hx
      generalize fileAt l p = x at *
      generalize posK (l.map File.name) p = q at *
      clear h hz hk hfind hx
      simp only [if_true]
      go_enter Tryz.func63, Tryz.ntmps63
      go_wp2_with (first | (go_at_call 81; refine (HG.out _ (H.out.alloc _)).mono ?_; rintro e w1 ⟨rfl, hb⟩; obtain ⟨ext, d, rfl⟩ := Below.grown_eq _ hb; clear hb) | (go_at_call 82; refine (HF.out _ _ (H.out.below (by repeat (first | exact bA .. | assumption | refine bB ?_ | refine bC ?_ _ | refine bD _ _ ?_ | refine bE _ ?_ | refine bG ?_ (by first | omega | (simp; done) | (simp; omega)) _ | refine Below.setCell ?_ (by first | omega | (simp; done) | (simp; omega)) _ | refine Below.grow _ _ _ ?_ (by first | omega | (simp; done) | (simp; omega)))))).mono ?_; rintro e w1 ⟨rfl, hb⟩; obtain ⟨ext2, d2, rfl⟩ := Below.grown_eq _ hb; clear hb))
      go_quiet (fail)
      go_wp2_with fail
      go_ret2
      exact ⟨rfl, (by repeat (first | exact bA .. | assumption | refine bB ?_ | refine bC ?_ _ | refine bD _ _ ?_ | refine bE _ ?_ | refine bG ?_ (by first | omega | (simp; done) | (simp; omega)) _ | refine Below.setCell ?_ (by first | omega | (simp; done) | (simp; omega)) _ | refine Below.grow _ _ _ ?_ (by first | omega | (simp; done) | (simp; omega))))⟩
def DkRes (l : List File) (c : Int) (w : World) (e : Ending) (w' : World) : Prop := ∃ A k, e = .returned (.tuple #[.agg #[.slice A l.length k], .int .i64 c]) ∧ Ow cFile 3 151 w' w.heap.size (.slice A l.length k) l ∧ Below w.heap.size w w'
end Go.Proofs.YtchgpijfebilbaaGreatDoor

/- package disk: Sync, Cut, Crash: under way. -/
namespace Go.Proofs.YtchgpijfebilbaaGreatDoor
open Go.RowKit Go.ChangeShapes Go.WideShapes Go.ChangeAt
set_option maxHeartbeats 1000000 in
theorem dkSync1 (g o : Nat) (x : File) (w : World) (c1 : w.cell? ⟨g, o + 1, none⟩ = some (.string x.safe)) (c2 : w.cell? ⟨g, o + 2, none⟩ = some (.string x.tail)) (f1 : w.frozen? ⟨g, o + 1, none⟩ = false) (f2 : w.frozen? ⟨g, o + 2, none⟩ = false)
    (z1 : x.safe.size ≤ 140737488355328) (z2 : x.tail.size ≤ 140737488355328) :
    Calls Tryz.prog 93 #[.pointer (some ⟨g, o, none⟩)] w fun e w' => e = .returned (.int .i64 0) ∧ w' = ((w.setCell ⟨g, o + 1, none⟩ (.string (x.safe ++ x.tail))).setCell ⟨g, o + 2, none⟩ (.string ⟨#[]⟩)).drew := by
  go_enter Tryz.func93, Tryz.ntmps93
  go_wp2_with fail
  go_region
  go_wp2_with fail
  go_ret
  exact ⟨rfl, rfl⟩
set_option maxHeartbeats 1000000 in
theorem dkCut1_no (g o bn : Nat) (n : Int) (x : File) (w : World) (c1 : w.cell? ⟨g, o + 1, none⟩ = some (.string x.safe)) (c2 : w.cell? ⟨g, o + 2, none⟩ = some (.string x.tail)) (cn : w.cell? ⟨bn, 0, none⟩ = some (.int .i64 n))
    (z1 : x.safe.size ≤ 140737488355328) (z2 : x.tail.size ≤ 140737488355328) (h : n < 0 ∨ ((x.safe ++ x.tail).size : Int) < n) :
    Calls Tryz.prog 90 #[.pointer (some ⟨g, o, none⟩), .pointer (some ⟨bn, 0, none⟩)] w fun e w' => e = .returned (.int .i64 3) ∧ w' = w.drew := by
  have hsz : (x.safe ++ x.tail).size = x.safe.size + x.tail.size := by simp
  generalize hall : x.safe ++ x.tail = all at *
  by_cases hn : n < 0
  · go_enter Tryz.func90, Tryz.ntmps90
    go_wp2_with fail
    go_region
    go_wp2_with fail
    go_ret
    exact ⟨rfl, rfl⟩
  · have hn2 : (all.size : Int) < n := by omega
    go_enter Tryz.func90, Tryz.ntmps90
    go_wp2_with fail
    go_region
    go_wp2_with fail
    go_ret
    exact ⟨rfl, rfl⟩
set_option maxHeartbeats 1000000 in
theorem dkCut1_ok (g o bn n : Nat) (x : File) (w : World) (c1 : w.cell? ⟨g, o + 1, none⟩ = some (.string x.safe)) (c2 : w.cell? ⟨g, o + 2, none⟩ = some (.string x.tail)) (f1 : w.frozen? ⟨g, o + 1, none⟩ = false) (f2 : w.frozen? ⟨g, o + 2, none⟩ = false) (cn : w.cell? ⟨bn, 0, none⟩ = some (.int .i64 n))
    (z1 : x.safe.size ≤ 140737488355328) (z2 : x.tail.size ≤ 140737488355328) (h : n ≤ (x.safe ++ x.tail).size) :
    Calls Tryz.prog 90 #[.pointer (some ⟨g, o, none⟩), .pointer (some ⟨bn, 0, none⟩)] w fun e w' => e = .returned (.int .i64 0) ∧ w' = ((w.setCell ⟨g, o + 1, none⟩ (.string ((x.safe ++ x.tail).extract 0 n))).setCell ⟨g, o + 2, none⟩ (.string ⟨#[]⟩)).drew := by
  have hsz : (x.safe ++ x.tail).size = x.safe.size + x.tail.size := by simp
  generalize hall : x.safe ++ x.tail = all at *
  go_enter Tryz.func90, Tryz.ntmps90
  go_wp2_with fail
  go_region
  go_wp2_with fail
  go_ret
  exact ⟨rfl, rfl⟩
theorem file_cells {W : World} {g k : Nat} {l : List File} {J : List Value} {t : TypeId} {x : File} (h : Bk W g (l.flatMap cFile ++ J) t) (hx : l[k]? = some x) :
    W.cell? ⟨g, k * 3, none⟩ = some (.string x.name) ∧ W.cell? ⟨g, k * 3 + 1, none⟩ = some (.string x.safe) ∧ W.cell? ⟨g, k * 3 + 2, none⟩ = some (.string x.tail) := by
  have key : ∀ j u, (cFile x)[j]? = some u → W.cell? ⟨g, k * 3 + j, none⟩ = some u := by
    intro j u hu
    have h0 : (l.flatMap cFile)[k * 3 + j]? = some u := flatMap_get (f := cFile) (s := 3) (fun y _ => rfl) hx hu
    rw [h.cell, List.getElem?_append_left (List.getElem?_eq_some_iff.1 h0).1, h0]
  exact ⟨key 0 _ rfl, key 1 _ rfl, key 2 _ rfl⟩
theorem splice1 (cs : List Value) (o : Nat) (v : Value) (r : List Value) (hl : o + (r.length + 1) ≤ cs.length) : splice (cs.set o v) (o + 1) r = splice cs o (v :: r) := by
  unfold splice
  have h1 : (cs.set o v).take (o + 1) = cs.take o ++ [v] := by
    rw [List.take_add_one, List.getElem?_set_self (by omega), List.take_set_of_le (by omega)]
    rfl
  rw [h1, List.drop_set_of_lt (by omega), List.length_cons, show o + (r.length + 1) = o + 1 + r.length from by omega]
  simp
theorem set_file {l : List File} {J : List Value} {k : Nat} {x : File} (hx : l[k]? = some x) (s t : ByteArray) :
    (((l.flatMap cFile ++ J).set (k * 3 + 1) (.string s)).set (k * 3 + 2) (.string t)) = (l.set k ⟨x.name, s, t⟩).flatMap cFile ++ J := by
  have hk : k < l.length := (List.getElem?_eq_some_iff.1 hx).1
  have hlen : (l.flatMap cFile).length = l.length * 3 := flatMap_length (fun y _ => rfl)
  have hle : k * 3 + 3 ≤ (l.flatMap cFile ++ J).length := by rw [List.length_append, hlen]; omega
  have h0 : (l.flatMap cFile)[k * 3 + 0]? = some (.string x.name) := flatMap_get (f := cFile) (s := 3) (fun y _ => rfl) hx rfl
  have hself : (l.flatMap cFile ++ J).set (k * 3) (.string x.name) = l.flatMap cFile ++ J := by
    apply List.ext_getElem?
    intro i
    rw [List.getElem?_set]
    split
    · rename_i e
      subst e
      rw [if_pos (by omega), List.getElem?_append_left (by rw [hlen]; omega), ← Nat.add_zero (k * 3), h0]
    · rfl
  rw [← flatMap_set (f := cFile) (s := 3) (fun y _ => rfl) hk ⟨x.name, s, t⟩ rfl J]
  show _ = splice _ (k * 3) [Value.string x.name, Value.string s, Value.string t]
  rw [← splice1 _ _ _ _ (by simpa using hle), hself, ← splice1 _ _ _ _ (by simpa using hle), ← splice1 _ _ _ _ (by rw [List.length_set]; simpa using hle)]
  simp [splice]
def syncF (x : File) : File := ⟨x.name, x.safe ++ x.tail, ⟨#[]⟩⟩
def syncL (l : List File) (p : ByteArray) : List File := if goodD l && isK (l.map File.name) p then l.set (posK (l.map File.name) p) (syncF (fileAt l p)) else []
set_option maxHeartbeats 2000000 in
theorem dkChangeSync (v : Value) (l : List File) (p : ByteArray) (w : World) (h : Sl cFile 3 w v l) (hz : ∀ x ∈ l, x.sized) :
    Calls Tryz.prog 89 #[.agg #[v], .string p, .func (.func 93) #[] #[]] w (DkRes (syncL l p) (readE l p) w) := by
  obtain ⟨A, c, rfl, hc1, hc2⟩ := h.form
  have H := Lib.hid h
  have HG := Lib.hid (fun (W : World) (hs : Sl cFile 3 W (.slice A l.length c) l) => dkGood _ l W hs hz)
  unfold syncL readE
  cases hg : goodD l with
  | false =>
    rw [hg] at HG
    clear h hz hg
    simp only [Bool.false_and, Bool.false_eq_true, if_false]
    go_enter Tryz.func89, Tryz.ntmps89
    go_wp2_with
      (first | (go_at_call 81; refine (HG.out _ (H.out.below (by repeat (first | exact bA .. | assumption | refine bB ?_ | refine bC ?_ _ | refine bD _ _ ?_ | refine bE _ ?_ | refine bG ?_ (by first | omega | (simp; done) | (simp; omega)) _ | refine Below.setCell ?_ (by first | omega | (simp; done) | (simp; omega)) _ | refine Below.grow _ _ _ ?_ (by first | omega | (simp; done) | (simp; omega)))))).mono ?_; rintro e w1 ⟨rfl, hb⟩; obtain ⟨ext, d, rfl⟩ := Below.grown_eq _ hb; clear hb) | (go_at_call 82; refine (HF.out _ _ (H.out.below (by repeat (first | exact bA .. | assumption | refine bB ?_ | refine bC ?_ _ | refine bD _ _ ?_ | refine bE _ ?_ | refine bG ?_ (by first | omega | (simp; done) | (simp; omega)) _ | refine Below.setCell ?_ (by first | omega | (simp; done) | (simp; omega)) _ | refine Below.grow _ _ _ ?_ (by first | omega | (simp; done) | (simp; omega)))))).mono ?_; rintro e w1 ⟨rfl, hb⟩; obtain ⟨ext2, d2, rfl⟩ := Below.grown_eq _ hb; clear hb))
    refine bodyPost_ret (v := .tuple #[.agg #[.slice none 0 0], .int .i64 3]) (by simp [results, Tryz.results89, go_sem]) rfl ⟨none, 0, rfl, Ow.nil _ _ _ _ _, (by repeat (first | exact bA .. | assumption | refine bB ?_ | refine bC ?_ _ | refine bD _ _ ?_ | refine bE _ ?_ | refine bG ?_ (by first | omega | (simp; done) | (simp; omega)) _ | refine Below.setCell ?_ (by first | omega | (simp; done) | (simp; omega)) _ | refine Below.grow _ _ _ ?_ (by first | omega | (simp; done) | (simp; omega))))⟩
  | true =>
    rw [hg] at HG
    have hl16 := goodD_len hg
    have hfind := fun (W : World) (v : Value) (hs : Sl cFile 3 W v l) => dkFind v l p W hs (by omega)
    clear hg
    simp only [Bool.true_and, if_true]
    cases hk : isK (l.map File.name) p with
    | false =>
      rw [hk] at hfind
      have HF := Lib.hid hfind
      generalize posK (l.map File.name) p = q at *
      clear h hz hk hfind
      simp only [Bool.false_eq_true, if_false]
      go_enter Tryz.func89, Tryz.ntmps89
      go_wp2_with
        (first | (go_at_call 81; refine (HG.out _ (H.out.below (by repeat (first | exact bA .. | assumption | refine bB ?_ | refine bC ?_ _ | refine bD _ _ ?_ | refine bE _ ?_ | refine bG ?_ (by first | omega | (simp; done) | (simp; omega)) _ | refine Below.setCell ?_ (by first | omega | (simp; done) | (simp; omega)) _ | refine Below.grow _ _ _ ?_ (by first | omega | (simp; done) | (simp; omega)))))).mono ?_; rintro e w1 ⟨rfl, hb⟩; obtain ⟨ext, d, rfl⟩ := Below.grown_eq _ hb; clear hb) | (go_at_call 82; refine (HF.out _ _ (H.out.below (by repeat (first | exact bA .. | assumption | refine bB ?_ | refine bC ?_ _ | refine bD _ _ ?_ | refine bE _ ?_ | refine bG ?_ (by first | omega | (simp; done) | (simp; omega)) _ | refine Below.setCell ?_ (by first | omega | (simp; done) | (simp; omega)) _ | refine Below.grow _ _ _ ?_ (by first | omega | (simp; done) | (simp; omega)))))).mono ?_; rintro e w1 ⟨rfl, hb⟩; obtain ⟨ext2, d2, rfl⟩ := Below.grown_eq _ hb; clear hb))
      refine bodyPost_ret (v := .tuple #[.agg #[.slice none 0 0], .int .i64 7]) (by simp [results, Tryz.results89, go_sem]) rfl ⟨none, 0, rfl, Ow.nil _ _ _ _ _, (by repeat (first | exact bA .. | assumption | refine bB ?_ | refine bC ?_ _ | refine bD _ _ ?_ | refine bE _ ?_ | refine bG ?_ (by first | omega | (simp; done) | (simp; omega)) _ | refine Below.setCell ?_ (by first | omega | (simp; done) | (simp; omega)) _ | refine Below.grow _ _ _ ?_ (by first | omega | (simp; done) | (simp; omega))))⟩
    | true =>
      rw [hk] at hfind
      have HF := Lib.hid hfind
      have hq := isK_in_file hk
      have hx : l[posK (l.map File.name) p]? = some (fileAt l p) := by
        unfold fileAt
        rw [List.getD_eq_getElem?_getD, List.getElem?_eq_getElem hq]
        rfl
      obtain ⟨z0, z1, z2⟩ := hz _ (List.mem_of_getElem? hx)
      generalize fileAt l p = x at *
      generalize posK (l.map File.name) p = q at *
      have HX := Lib.hid hx
      clear h hz hk hfind hx
      simp only [if_true]
      go_enter Tryz.func89, Tryz.ntmps89
      go_wp2_with
        (first | (go_at_call 81; refine (HG.out _ (H.out.below (by repeat (first | exact bA .. | assumption | refine bB ?_ | refine bC ?_ _ | refine bD _ _ ?_ | refine bE _ ?_ | refine bG ?_ (by first | omega | (simp; done) | (simp; omega)) _ | refine Below.setCell ?_ (by first | omega | (simp; done) | (simp; omega)) _ | refine Below.grow _ _ _ ?_ (by first | omega | (simp; done) | (simp; omega)))))).mono ?_; rintro e w1 ⟨rfl, hb⟩; obtain ⟨ext, d, rfl⟩ := Below.grown_eq _ hb; clear hb) | (go_at_call 82; refine (HF.out _ _ (H.out.below (by repeat (first | exact bA .. | assumption | refine bB ?_ | refine bC ?_ _ | refine bD _ _ ?_ | refine bE _ ?_ | refine bG ?_ (by first | omega | (simp; done) | (simp; omega)) _ | refine Below.setCell ?_ (by first | omega | (simp; done) | (simp; omega)) _ | refine Below.grow _ _ _ ?_ (by first | omega | (simp; done) | (simp; omega)))))).mono ?_; rintro e w1 ⟨rfl, hb⟩; obtain ⟨ext2, d2, rfl⟩ := Below.grown_eq _ hb; clear hb))
      refine (dkCopied _ l _ (H.out.below (by repeat (first | exact bA .. | assumption | refine bB ?_ | refine bC ?_ _ | refine bD _ _ ?_ | refine bE _ ?_ | refine bG ?_ (by first | omega | (simp; done) | (simp; omega)) _ | refine Below.setCell ?_ (by first | omega | (simp; done) | (simp; omega)) _ | refine Below.grow _ _ _ ?_ (by first | omega | (simp; done) | (simp; omega))))) (by omega) (by simp [maxLen]; omega)).mono ?_
      rintro e w3 ⟨A3, c3, rfl, ho3, hb3⟩
      obtain ⟨ext3, d3, rfl⟩ := Below.grown_eq _ hb3
      obtain ⟨g3, J, rfl, hg3, hbk3, hcl, hlc, hcm, _⟩ := ho3.blk (by omega)
      have hbk4 : Bk (grow (grow (grow ((w.alloc (.cells #[.slice (some ⟨g3, 0, none⟩) l.length c3] 28)).alloc (.cells #[.slice none 0 0] 28)) ext d) ext2 d2) ext3 d3) g3 (l.flatMap cFile ++ J) 151 := hbk3.regrow (by simpa using hg3) (by simp)
      have hg4 : w.heap.size + 1 + 1 ≤ g3 := by simp at hg3; omega
      obtain ⟨r0, r1, r2⟩ := file_cells hbk4 HX.out
      have HBK := Lib.hid hbk4
      have HCL := Lib.hid hcl
      clear hb3 ho3 hbk3 hbk4 hg3 hcl
      go_wp2_with fail
      refine (dkSync1 g3 (q * 3) x _ r1 r2 (HBK.out.frozen _) (HBK.out.frozen _) z1 z2).mono ?_
      rintro e w4 ⟨rfl, rfl⟩
      have hb5 : Below ((w.alloc (.cells #[.slice (some ⟨g3, 0, none⟩) l.length c3] 28)).alloc (.cells #[.slice none 0 0] 28)).heap.size ((w.alloc (.cells #[.slice (some ⟨g3, 0, none⟩) l.length c3] 28)).alloc (.cells #[.slice none 0 0] 28)) ((((grow (grow (grow ((w.alloc (.cells #[.slice (some ⟨g3, 0, none⟩) l.length c3] 28)).alloc (.cells #[.slice none 0 0] 28)) ext d) ext2 d2) ext3 d3).setCell ⟨g3, q * 3 + 1, none⟩ (.string (x.safe ++ x.tail))).setCell ⟨g3, q * 3 + 2, none⟩ (.string ⟨#[]⟩)).drew) := Below.drew (Below.put (Below.put (by repeat (first | exact bA .. | assumption | refine bB ?_ | refine bC ?_ _ | refine bD _ _ ?_ | refine bE _ ?_ | refine bG ?_ (by first | omega | (simp; done) | (simp; omega)) _ | refine Below.setCell ?_ (by first | omega | (simp; done) | (simp; omega)) _ | refine Below.grow _ _ _ ?_ (by first | omega | (simp; done) | (simp; omega)))) (by simp; omega)) (by simp; omega))
      have hbk5 : Bk ((((grow (grow (grow ((w.alloc (.cells #[.slice (some ⟨g3, 0, none⟩) l.length c3] 28)).alloc (.cells #[.slice none 0 0] 28)) ext d) ext2 d2) ext3 d3).setCell ⟨g3, q * 3 + 1, none⟩ (.string (x.safe ++ x.tail))).setCell ⟨g3, q * 3 + 2, none⟩ (.string ⟨#[]⟩)).drew) g3 ((l.set q (syncF x)).flatMap cFile ++ J) 151 := by
        have := (HBK.out.put (q * 3 + 1) (.string (x.safe ++ x.tail))).put (q * 3 + 2) (.string ⟨#[]⟩)
        rw [set_file HX.out] at this
        exact this
      generalize ((((grow (grow (grow ((w.alloc (.cells #[.slice (some ⟨g3, 0, none⟩) l.length c3] 28)).alloc (.cells #[.slice none 0 0] 28)) ext d) ext2 d2) ext3 d3).setCell ⟨g3, q * 3 + 1, none⟩ (.string (x.safe ++ x.tail))).setCell ⟨g3, q * 3 + 2, none⟩ (.string ⟨#[]⟩)).drew) = w5 at hb5 hbk5 ⊢
      obtain ⟨ext5, d5, rfl⟩ := Below.grown_eq _ hb5
      have HBK5 := Lib.hid hbk5
      clear hb5 hbk5 HBK r0 r1 r2
      go_wp2_with fail
      have hlen : ((l.set q (syncF x)).flatMap cFile ++ J).length = c3 * 3 := by
        rw [← HCL.out, List.length_append, List.length_append, flatMap_length (f := cFile) (s := 3) (fun _ _ => rfl), flatMap_length (f := cFile) (s := 3) (fun _ _ => rfl), List.length_set]
      refine bodyPost_ret (v := .tuple #[.agg #[.slice (some ⟨g3, 0, none⟩) l.length c3], .int .i64 0]) (by simp [results, Tryz.results89, go_sem]) rfl ⟨some ⟨g3, 0, none⟩, c3, by rw [List.length_set], ?_, (by repeat (first | exact bA .. | assumption | refine bB ?_ | refine bC ?_ _ | refine bD _ _ ?_ | refine bE _ ?_ | refine bG ?_ (by first | omega | (simp; done) | (simp; omega)) _ | refine Below.setCell ?_ (by first | omega | (simp; done) | (simp; omega)) _ | refine Below.grow _ _ _ ?_ (by first | omega | (simp; done) | (simp; omega))))⟩
      exact Ow.of_blk (f := cFile) (s := 3) (B := w.heap.size) (fun _ _ => rfl) (by omega) (HBK5.out.regrow (by simp; omega) (by simp)) rfl hlen (by rw [List.length_set]; exact hlc) hcm
end Go.Proofs.YtchgpijfebilbaaGreatDoor
/- package disk: Sync. -/
namespace Go.Proofs.YtchgpijfebilbaaGreatDoor
open Go.RowKit Go.ChangeShapes Go.WideShapes Go.ChangeAt
set_option maxHeartbeats 1000000 in
theorem dkSync (v : Value) (l : List File) (p : ByteArray) (w : World) (h : Sl cFile 3 w v l) (hz : ∀ x ∈ l, x.sized) :
    Calls Tryz.prog 70 #[.agg #[v], .string p] w (DkRes (syncL l p) (readE l p) w) := by
  obtain ⟨A, c, rfl, hc1, hc2⟩ := h.form
  have H := Lib.hid h
  have HC := Lib.hid (fun (W : World) (hs : Sl cFile 3 W (.slice A l.length c) l) => dkChangeSync _ l p W hs hz)
  generalize syncL l p = L at *
  generalize readE l p = code at *
  clear h hz
  go_enter Tryz.func70, Tryz.ntmps70
  go_wp2_with (first | (go_at_call 89; refine (HC.out _ (H.out.below (by repeat (first | exact bA .. | assumption | refine bB ?_ | refine bC ?_ _ | refine bD _ _ ?_ | refine bE _ ?_ | refine bG ?_ (by first | omega | (simp; done) | (simp; omega)) _ | refine Below.setCell ?_ (by first | omega | (simp; done) | (simp; omega)) _ | refine Below.grow _ _ _ ?_ (by first | omega | (simp; done) | (simp; omega)))))).mono ?_; rintro e w1 ⟨A1, k1, rfl, hs1, hb1⟩; have HS1 := Lib.hid hs1; obtain ⟨ext, d, rfl⟩ := Below.grown_eq _ hb1; clear hs1 hb1))
  refine bodyPost_ret (v := .tuple #[.agg #[.slice A1 L.length k1], .int .i64 code]) (by simp [results, Tryz.results70, go_sem]) rfl ⟨A1, k1, rfl, ?_, (by repeat (first | exact bA .. | assumption | refine bB ?_ | refine bC ?_ _ | refine bD _ _ ?_ | refine bE _ ?_ | refine bG ?_ (by first | omega | (simp; done) | (simp; omega)) _ | refine Below.setCell ?_ (by first | omega | (simp; done) | (simp; omega)) _ | refine Below.grow _ _ _ ?_ (by first | omega | (simp; done) | (simp; omega))))⟩
  exact (HS1.out.regrow (Nat.le_refl _) (by simp)).mono (by simp; omega)
end Go.Proofs.YtchgpijfebilbaaGreatDoor
