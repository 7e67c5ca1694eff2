/- Lemmas for the statement: Order, WGood, TreeM, PathD, TreeL, TreeW, TreeX, Sum, SnapM, Apps, Encode, Enc2, DecP, SnapP. -/
import Derived.Lib.AppendStr
import Derived.Deep.RegionHeld3
import Derived.Deep.Cut
import Derived.Test.YtfoglgeiipafeaaDoorPt1
import Derived.Test.YtfoglgeiipafeaaDoorPt2
/- The order of texts; a sorted list of entries, searched and kept: plain laws. -/
namespace Go.Proofs.YtfoglgeiipafeaaDoor
open Go.RowKit Go.Lib
theorem cb_zero : ∀ (a b : List UInt8), compareBytes a b = 0 → a = b
  | [], [], _ => rfl
  | [], _ :: _, h => by simp [compareBytes] at h
  | _ :: _, [], h => by simp [compareBytes] at h
  | a :: r, b :: q, h => by
    unfold compareBytes at h
    split at h
    · simp at h
    · split at h
      · simp at h
      · have : a = b := by
          rename_i h1 h2
          exact UInt8.toNat_inj.1 (by have := UInt8.not_lt.1 h1; have := UInt8.not_lt.1 h2; simp only [UInt8.le_iff_toNat_le] at *; omega)
        rw [this, cb_zero r q h]
theorem cb_self : ∀ (a : List UInt8), compareBytes a a = 0
  | [] => rfl
  | a :: r => by unfold compareBytes; rw [if_neg (by simp), if_neg (by simp)]; exact cb_self r
theorem cb_swap : ∀ (a b : List UInt8), compareBytes a b < 0 → 0 < compareBytes b a
  | [], [], h => by simp [compareBytes] at h
  | [], _ :: _, _ => by simp [compareBytes]
  | _ :: _, [], h => by simp [compareBytes] at h
  | a :: r, b :: q, h => by
    unfold compareBytes at h ⊢
    by_cases h1 : a < b
    · rw [if_neg (by simp only [UInt8.lt_iff_toNat_lt] at *; omega), if_pos h1]; decide
    · by_cases h2 : b < a
      · rw [if_neg h1, if_pos h2] at h; simp at h
      · rw [if_neg h1, if_neg h2] at h
        rw [if_neg h2, if_neg h1]
        exact cb_swap r q h
theorem cb_swap' : ∀ (a b : List UInt8), 0 < compareBytes a b → compareBytes b a < 0
  | [], [], h => by simp [compareBytes] at h
  | _ :: _, [], _ => by simp [compareBytes]
  | [], _ :: _, h => by simp [compareBytes] at h
  | a :: r, b :: q, h => by
    unfold compareBytes at h ⊢
    by_cases h2 : b < a
    · rw [if_pos h2]; decide
    · by_cases h1 : a < b
      · rw [if_pos h1] at h; simp at h
      · rw [if_neg h1, if_neg h2] at h
        rw [if_neg h2, if_neg h1]
        exact cb_swap' r q h
theorem cb_trans : ∀ (a b c : List UInt8), compareBytes a b < 0 → compareBytes b c < 0 → compareBytes a c < 0
  | [], [], _, h, _ => by simp [compareBytes] at h
  | [], _ :: _, [], _, h => by simp [compareBytes] at h
  | [], _ :: _, _ :: _, _, _ => by simp [compareBytes]
  | _ :: _, [], _, h, _ => by simp [compareBytes] at h
  | _ :: _, _ :: _, [], _, h => by simp [compareBytes] at h
  | a :: r, b :: q, c :: t, h, k => by
    unfold compareBytes at h k ⊢
    by_cases h1 : a < b
    · by_cases k1 : b < c
      · rw [if_pos (by simp only [UInt8.lt_iff_toNat_lt] at *; omega)]; decide
      · by_cases k2 : c < b
        · rw [if_neg k1, if_pos k2] at k; simp at k
        · rw [if_pos (by simp only [UInt8.lt_iff_toNat_lt] at *; omega)]; decide
    · by_cases h2 : b < a
      · rw [if_neg h1, if_pos h2] at h; simp at h
      · rw [if_neg h1, if_neg h2] at h
        by_cases k1 : b < c
        · rw [if_pos (by simp only [UInt8.lt_iff_toNat_lt] at *; omega)]; decide
        · by_cases k2 : c < b
          · rw [if_neg k1, if_pos k2] at k; simp at k
          · rw [if_neg k1, if_neg k2] at k
            rw [if_neg (by simp only [UInt8.lt_iff_toNat_lt] at *; omega), if_neg (by simp only [UInt8.lt_iff_toNat_lt] at *; omega)]
            exact cb_trans r q t h k
theorem cmpB_self (a : ByteArray) : cmpB a a = 0 := cb_self _
theorem cmpB_zero {a b : ByteArray} (h : cmpB a b = 0) : a = b := by
  have := cb_zero _ _ h
  exact ByteArray.ext (Array.ext' this)
/-- sorted strictly by path -/
def SortedE (l : List Entry) : Prop := ∀ (i j : Nat) (x y : Entry), i < j → l[i]? = some x → l[j]? = some y → cmpB x.path y.path < 0
theorem border (f : Nat → Bool) : ∀ n, (∀ i j, i < j → j < n → f j = true → f i = true) → ∃ m, m ≤ n ∧ (∀ k, k < m → f k = true) ∧ (∀ k, m ≤ k → k < n → f k = false)
  | 0, _ => ⟨0, Nat.le_refl _, fun k hk => by omega, fun k _ hk => by omega⟩
  | n + 1, h => by
    obtain ⟨m, hm, h1, h2⟩ := border f n (fun i j hij hj => h i j hij (by omega))
    have split : ∀ k, k < n + 1 → k < n ∨ k = n := fun k hk => by omega
    cases hf : f n with
    | true =>
      refine ⟨n + 1, Nat.le_refl _, fun k hk => ?_, fun k hk hk2 => by omega⟩
      rcases split k hk with hlt | rfl
      · exact h k n hlt (by omega) hf
      · exact hf
    | false =>
      refine ⟨m, by omega, h1, fun k hk hk2 => ?_⟩
      rcases split k hk2 with hlt | rfl
      · exact h2 k hk hlt
      · exact hf
/-- the place of p in a sorted list -/
theorem pos_of {l : List Entry} (hs : SortedE l) (p : ByteArray) (k : Nat) (x : Entry) (hx : l[k]? = some x) : k < posK (l.map Entry.path) p ↔ cmpB x.path p < 0 := by
  have hk : k < l.length := (List.getElem?_eq_some_iff.1 hx).1
  have hlt : ∀ (k : Nat) (x : Entry), l[k]? = some x → ltK (l.map Entry.path) p k = decide (cmpB x.path p < 0) := fun k x h => ltK_of (g := Entry.path) h p
  obtain ⟨m, hm, h1, h2⟩ := border (ltK (l.map Entry.path) p) l.length (by
    intro i j hij hj h
    have hi := List.getElem?_eq_getElem (l := l) (i := i) (by omega)
    have hj2 := List.getElem?_eq_getElem (l := l) (i := j) hj
    rw [hlt j _ hj2] at h
    rw [hlt i _ hi]
    simp at h ⊢
    exact cb_trans _ _ _ (hs i j _ _ hij hi hj2) h)
  have hp : posK (l.map Entry.path) p = m := by
    unfold posK
    rw [List.length_map]
    exact bsr_sorted _ m l.length 0 l.length (by omega) (Nat.zero_le _) hm h1 h2
  rw [hp]
  constructor
  · intro h
    have := h1 k h
    rw [hlt k x hx] at this
    simpa using this
  · intro h
    rcases Nat.lt_or_ge k m with hlt2 | hge
    · exact hlt2
    · have := h2 k hge hk
      rw [hlt k x hx] at this
      simp at this
      omega
theorem at_of {l : List Entry} (hs : SortedE l) {k : Nat} {x : Entry} (hx : l[k]? = some x) : posK (l.map Entry.path) x.path = k ∧ isK (l.map Entry.path) x.path = true := by
  have h1 : ¬ k < posK (l.map Entry.path) x.path := by rw [pos_of hs x.path k x hx, cmpB_self]; omega
  have hk : k < l.length := (List.getElem?_eq_some_iff.1 hx).1
  have h2 : posK (l.map Entry.path) x.path = k := by
    rcases Nat.lt_or_ge (posK (l.map Entry.path) x.path) k with h | h
    · have hy := List.getElem?_eq_getElem (l := l) (i := posK (l.map Entry.path) x.path) (by omega)
      have h3 := hs _ _ _ _ h hy hx
      rw [← pos_of hs x.path _ _ hy] at h3
      omega
    · omega
  exact ⟨h2, by rw [isK_in h2 hx, cmpB_self]; rfl⟩
theorem none_of {l : List Entry} (p : ByteArray) (h : ∀ (k : Nat) (x : Entry), l[k]? = some x → x.path ≠ p) : isK (l.map Entry.path) p = false := by
  rcases Nat.lt_or_ge (posK (l.map Entry.path) p) l.length with hlt | hge
  · have hy := List.getElem?_eq_getElem (l := l) (i := posK (l.map Entry.path) p) hlt
    rw [isK_in rfl hy]
    have := h _ _ hy
    simp
    intro h0
    exact this (cmpB_zero h0)
  · exact isK_out rfl (by omega)
def ltE (x y : Entry) : Prop := cmpB x.path y.path < 0
theorem sorted_pw {l : List Entry} : SortedE l ↔ l.Pairwise ltE := by
  rw [List.pairwise_iff_getElem]
  constructor
  · intro h i j hi hj hij
    exact h i j _ _ hij (List.getElem?_eq_getElem hi) (List.getElem?_eq_getElem hj)
  · intro h i j x y hij hx hy
    obtain ⟨hi, rfl⟩ := List.getElem?_eq_some_iff.1 hx
    obtain ⟨hj, rfl⟩ := List.getElem?_eq_some_iff.1 hy
    exact h i j hi hj hij
theorem strip_path (x : Entry) : (stripE x).path = x.path := by unfold stripE; split <;> rfl
theorem before_of {l : List Entry} (hs : SortedE l) (p : ByteArray) : ∀ y ∈ l.take (posK (l.map Entry.path) p), cmpB y.path p < 0 := by
  intro y hy
  obtain ⟨k, hk⟩ := List.mem_iff_getElem?.1 hy
  rw [List.getElem?_take] at hk
  split at hk
  · exact (pos_of hs p k y hk).1 (by assumption)
  · cases hk
theorem behind_of {l : List Entry} (hs : SortedE l) (p : ByteArray) (h : isK (l.map Entry.path) p = false) : ∀ y ∈ l.drop (posK (l.map Entry.path) p), cmpB p y.path < 0 := by
  intro y hy
  obtain ⟨k, hk⟩ := List.mem_iff_getElem?.1 hy
  rw [List.getElem?_drop] at hk
  have h1 := mt (pos_of hs p _ y hk).2 (by omega)
  have h2 : cmpB y.path p ≠ 0 := by
    intro h0
    obtain rfl := cmpB_zero h0
    rw [(at_of hs hk).2] at h
    cases h
  exact cb_swap' _ _ (by unfold cmpB at h1 h2; omega)
theorem set_split {l : List Entry} {q : Nat} (hq : q < l.length) (x : Entry) : l.set q x = l.take q ++ x :: l.drop (q + 1) := by rw [List.set_eq_take_append_cons_drop, if_pos hq]
theorem is_at {l : List Entry} {p : ByteArray} (h : isK (l.map Entry.path) p = true) : ∃ hq : posK (l.map Entry.path) p < l.length, (l[posK (l.map Entry.path) p]'hq).path = p := by
  have hq := isK_lt h
  refine ⟨hq, ?_⟩
  rw [isK_in rfl (List.getElem?_eq_getElem hq)] at h
  exact cmpB_zero (by simpa using h)
theorem keepL_sorted {l : List Entry} (hs : SortedE l) (x : Entry) : SortedE (keepL l x) := by
  have hpw := sorted_pw.1 hs
  rw [sorted_pw]
  unfold keepL
  cases hk : isK (l.map Entry.path) x.path with
  | true =>
    obtain ⟨hq, he⟩ := is_at hk
    rw [if_pos rfl, set_split hq]
    have e : l = l.take (posK (l.map Entry.path) x.path) ++ l[posK (l.map Entry.path) x.path] :: l.drop (posK (l.map Entry.path) x.path + 1) := by rw [List.getElem_cons_drop, List.take_append_drop]
    generalize l[posK (l.map Entry.path) x.path] = y at e he
    generalize posK (l.map Entry.path) x.path = q at e
    generalize l.take q = a at e ⊢
    generalize l.drop (q + 1) = b at e ⊢
    rw [e] at hpw
    simp only [List.pairwise_append, List.pairwise_cons, List.mem_cons, forall_eq_or_imp] at hpw ⊢
    unfold ltE at hpw ⊢
    rw [strip_path, ← he]
    exact hpw
  | false =>
    rw [if_neg (by simp)]
    have e := List.take_append_drop (posK (l.map Entry.path) x.path) l
    have hb := before_of hs x.path
    have ha := behind_of hs x.path hk
    generalize posK (l.map Entry.path) x.path = q at e hb ha
    generalize l.take q = a at e hb ⊢
    generalize l.drop q = b at e ha ⊢
    rw [← e] at hpw
    simp only [List.pairwise_append, List.pairwise_cons, List.mem_cons, forall_eq_or_imp] at hpw ⊢
    unfold ltE at hpw ⊢
    rw [strip_path]
    exact ⟨hpw.1, ⟨ha, hpw.2.1⟩, fun y hy => ⟨hb y hy, hpw.2.2 y hy⟩⟩
theorem mem_keepL {l : List Entry} (hs : SortedE l) (x y : Entry) : y ∈ keepL l x ↔ y = stripE x ∨ (y ∈ l ∧ y.path ≠ x.path) := by
  unfold keepL
  cases hk : isK (l.map Entry.path) x.path with
  | true =>
    obtain ⟨hq, he⟩ := is_at hk
    rw [if_pos rfl, set_split hq]
    have hpw := sorted_pw.1 hs
    have e : l = l.take (posK (l.map Entry.path) x.path) ++ l[posK (l.map Entry.path) x.path] :: l.drop (posK (l.map Entry.path) x.path + 1) := by rw [List.getElem_cons_drop, List.take_append_drop]
    generalize l[posK (l.map Entry.path) x.path] = z at e he
    generalize posK (l.map Entry.path) x.path = q at e
    generalize l.take q = a at e ⊢
    generalize l.drop (q + 1) = b at e ⊢
    rw [e] at hpw
    simp only [List.pairwise_append, List.pairwise_cons, List.mem_cons, forall_eq_or_imp] at hpw
    unfold ltE at hpw
    rw [e]
    simp only [List.mem_append, List.mem_cons]
    constructor
    · rintro (h | h | h)
      · exact .inr ⟨.inl h, fun hp => by have := (hpw.2.2 y h).1; rw [hp, he, cmpB_self] at this; omega⟩
      · exact .inl h
      · exact .inr ⟨.inr (.inr h), fun hp => by have := hpw.2.1.1 y h; rw [hp, he, cmpB_self] at this; omega⟩
    · rintro (h | ⟨h | h | h, hp⟩)
      · exact .inr (.inl h)
      · exact .inl h
      · exact absurd (h ▸ he) hp
      · exact .inr (.inr h)
  | false =>
    rw [if_neg (by simp)]
    have hm : ∀ z, z ∈ l ↔ z ∈ l.take (posK (l.map Entry.path) x.path) ∨ z ∈ l.drop (posK (l.map Entry.path) x.path) := fun z => by rw [← List.mem_append, List.take_append_drop]
    have hn : y ∈ l → y.path ≠ x.path := by
      intro h hp
      obtain ⟨k, hk2⟩ := List.mem_iff_getElem?.1 h
      have := (at_of hs hk2).2
      rw [hp, hk] at this
      cases this
    simp only [List.mem_append, List.mem_cons]
    rw [hm]
    rw [hm] at hn
    constructor
    · rintro (h | h | h)
      · exact .inr ⟨.inl h, hn (.inl h)⟩
      · exact .inl h
      · exact .inr ⟨.inr h, hn (.inr h)⟩
    · rintro (h | ⟨h | h, _⟩)
      · exact .inr (.inl h)
      · exact .inl h
      · exact .inr (.inr h)
theorem look_of {l : List Entry} (hs : SortedE l) {y : Entry} (hy : y ∈ l) : isK (l.map Entry.path) y.path = true ∧ lookE l y.path = y := by
  obtain ⟨k, hk⟩ := List.mem_iff_getElem?.1 hy
  obtain ⟨h1, h2⟩ := at_of hs hk
  refine ⟨h2, ?_⟩
  unfold lookE
  rw [h2, if_pos rfl, h1, List.getD_eq_getElem?_getD, hk]
  rfl
theorem look_none {l : List Entry} {p : ByteArray} (h : ∀ y ∈ l, y.path ≠ p) : isK (l.map Entry.path) p = false ∧ lookE l p = noEntry := by
  have h1 := none_of (l := l) p (fun k x hx => h x (List.mem_iff_getElem?.2 ⟨k, hx⟩))
  exact ⟨h1, by unfold lookE; rw [h1]; rfl⟩
theorem look_kept {l : List Entry} (hs : SortedE l) (x : Entry) : isK ((keepL l x).map Entry.path) x.path = true ∧ lookE (keepL l x) x.path = stripE x := by
  have := look_of (keepL_sorted hs x) ((mem_keepL hs x (stripE x)).2 (.inl rfl))
  rw [strip_path] at this
  exact this
theorem look_other {l : List Entry} (hs : SortedE l) (x : Entry) {p : ByteArray} (hp : p ≠ x.path) : isK ((keepL l x).map Entry.path) p = isK (l.map Entry.path) p ∧ lookE (keepL l x) p = lookE l p := by
  by_cases h : ∃ y, y ∈ l ∧ y.path = p
  · obtain ⟨y, hy, rfl⟩ := h
    have h1 := look_of hs hy
    have h2 := look_of (keepL_sorted hs x) ((mem_keepL hs x y).2 (.inr ⟨hy, hp⟩))
    exact ⟨h2.1.trans h1.1.symm, h2.2.trans h1.2.symm⟩
  · have h1 := look_none (l := l) (p := p) (fun y hy he => h ⟨y, hy, he⟩)
    have h2 := look_none (l := keepL l x) (p := p) (fun y hy he => by
      rcases (mem_keepL hs x y).1 hy with rfl | ⟨h3, _⟩
      · rw [strip_path] at he; exact hp he.symm
      · exact h ⟨y, h3, he⟩)
    exact ⟨h2.1.trans h1.1.symm, h2.2.trans h1.2.symm⟩
theorem cacheK_sorted (l : List Entry) : ∀ k, SortedE (cacheK l k)
  | 0 => by intro i j x y _ h; simp [cacheK] at h
  | k + 1 => by
    cases h : l[k]? with
    | none =>
      have : cacheK l (k + 1) = cacheK l k := by unfold cacheK; rw [List.take_add_one, h]; simp
      rw [this]; exact cacheK_sorted l k
    | some x => rw [cacheK_succ h]; exact keepL_sorted (cacheK_sorted l k) x
/-- the model's order of texts is that of strings.Compare -/
theorem less_of_cb : ∀ (a b : List UInt8), Op.bytesLess a b = decide (compareBytes a b < 0)
  | [], [] => rfl
  | _ :: _, [] => by simp [Op.bytesLess, compareBytes]
  | [], _ :: _ => by simp [Op.bytesLess, compareBytes]
  | a :: r, b :: q => by
    unfold Op.bytesLess compareBytes
    by_cases h1 : a < b
    · simp [h1]
    · by_cases h2 : b < a
      · have h3 : a ≠ b := by intro e; subst e; simp at h2
        simp [h1, h2, h3]
      · have h3 : a = b := UInt8.toNat_inj.1 (by simp only [UInt8.lt_iff_toNat_lt] at *; omega)
        subst h3
        simp [less_of_cb r q]
theorem less_of_cmp {a b : ByteArray} (h : cmpB a b < 0) : Op.bytesLess a.toList b.toList = true := by
  rw [ByteArray.toList_eq, ByteArray.toList_eq, less_of_cb]
  simpa [cmpB] using h
end Go.Proofs.YtfoglgeiipafeaaDoor

/- wire.Good: what is wrong with a transaction. -/
namespace Go.Proofs.YtfoglgeiipafeaaDoor
open Go.RowKit Go.ChangeShapes Go.WideShapes Go.ChangeAt
def goodT (t : Txn) : Int :=
  if t.op < 1 ∨ 5 < t.op then 4
  else if ¬ (0 ≤ t.zxid ∧ t.zxid < 4611686018427387904) ∨ t.session < 1 ∨ 2147483647 < t.session ∨ t.version < 0 ∨ 2147483647 < t.version ∨ t.owner < 0 ∨ 2147483647 < t.owner then 3
  else if 256 < (t.data.size : Int) then 1
  else if t.op ≤ 2 ∧ (t.path.toList ≠ [] ∨ t.data.toList ≠ [] ∨ t.version ≠ 0 ∨ t.owner ≠ 0) then 2
  else if 3 ≤ t.op ∧ (goodP t.path = false ∨ (t.path.toList = [47] ∧ t.op ≠ 5)) then 2
  else if (t.op = 4 ∧ (t.data.toList ≠ [] ∨ t.version ≠ 0 ∨ t.owner ≠ 0)) ∨ (t.op = 3 ∧ t.version ≠ 0) ∨ (t.op = 5 ∧ t.owner ≠ 0) then 2
  else 0
theorem goodT_low (z o s v ow : Int) (p d : ByteArray) (h1 : decide (o < 1) = false) (_h2 : decide (5 < o) = false) (hz : Zx z) (h3 : decide (s < 1) = false) (h4 : decide (2147483647 < s) = false) (h5 : decide (v < 0) = false) (h6 : decide (2147483647 < v) = false) (h7 : decide (ow < 0) = false) (h8 : decide (2147483647 < ow) = false) (h9 : decide (256 < (d.size : Int)) = false)
    (h10 : o ≤ 2) : goodT ⟨z, o, s, p, d, v, ow⟩ = if p.toList = [] ∧ d.toList = [] ∧ v = 0 ∧ ow = 0 then 0 else 2 := by
  simp at h1 h3 h4 h5 h6 h7 h8 h9
  unfold Zx at hz
  unfold goodT
  dsimp only
  rw [if_neg (by omega), if_neg (by omega), if_neg (by omega)]
  by_cases hh : p.toList = [] ∧ d.toList = [] ∧ v = 0 ∧ ow = 0
  · rw [if_pos hh, if_neg (by simp [hh.1, hh.2.1, hh.2.2.1, hh.2.2.2]), if_neg (by omega), if_neg (by omega)]
  · have hx : p.toList ≠ [] ∨ d.toList ≠ [] ∨ v ≠ 0 ∨ ow ≠ 0 := by
      by_cases a : p.toList = []
      · by_cases b : d.toList = []
        · have : ¬ (v = 0 ∧ ow = 0) := fun e => hh ⟨a, b, e⟩
          exact .inr (.inr (by omega))
        · exact .inr (.inl b)
      · exact .inl a
    rw [if_neg hh, if_pos ⟨h10, hx⟩]
theorem goodT_high (z o s v ow : Int) (p d : ByteArray) (h2 : decide (5 < o) = false) (hz : Zx z) (h3 : decide (s < 1) = false) (h4 : decide (2147483647 < s) = false) (h5 : decide (v < 0) = false) (h6 : decide (2147483647 < v) = false) (h7 : decide (ow < 0) = false) (h8 : decide (2147483647 < ow) = false) (h9 : decide (256 < (d.size : Int)) = false)
    (h10 : 3 ≤ o) : goodT ⟨z, o, s, p, d, v, ow⟩ = if goodP p = false ∨ (p.toList = [47] ∧ o ≠ 5) then 2
      else if (o = 4 ∧ (d.toList ≠ [] ∨ v ≠ 0 ∨ ow ≠ 0)) ∨ (o = 3 ∧ v ≠ 0) ∨ (o = 5 ∧ ow ≠ 0) then 2 else 0 := by
  simp at h2 h3 h4 h5 h6 h7 h8 h9
  unfold Zx at hz
  unfold goodT
  dsimp only
  rw [if_neg (by omega), if_neg (by omega), if_neg (by omega), if_neg (by omega)]
  by_cases hh : goodP p = false ∨ (p.toList = [47] ∧ o ≠ 5)
  · rw [if_pos ⟨h10, hh⟩, if_pos hh]
  · rw [if_neg (fun e => hh e.2), if_neg hh]
end Go.Proofs.YtfoglgeiipafeaaDoor

/- The tree: what its functions compute, in plain words. -/
namespace Go.Proofs.YtfoglgeiipafeaaDoor
open Go.RowKit
/-! numbers in order, searched by halves -/
def ltI (l : List Int) (s : Int) (k : Nat) : Bool := match l[k]? with | some x => decide (x < s) | none => false
def posI (l : List Int) (s : Int) : Nat := bsr (ltI l s) 0 l.length
def isI (l : List Int) (s : Int) : Bool := decide (l[posI l s]? = some s)
theorem ltI_of {l : List Int} {k : Nat} {x : Int} (h : l[k]? = some x) (s : Int) : ltI l s k = decide (x < s) := by unfold ltI; rw [h]
theorem isI_in {l : List Int} {s : Int} {k : Nat} {x : Int} (hp : posI l s = k) (h : l[k]? = some x) : isI l s = decide (x = s) := by
  unfold isI
  rw [hp, h]
  simp
theorem isI_out {l : List Int} {s : Int} {k : Nat} (hp : posI l s = k) (h : ¬ k < l.length) : isI l s = false := by
  unfold isI
  rw [hp, List.getElem?_eq_none (by omega)]
  simp
theorem posI_le (l : List Int) (s : Int) : posI l s ≤ l.length := bsr_le _ _
theorem posK_le' (l : List ByteArray) (s : ByteArray) : posK l s ≤ l.length := bsr_le _ _
/-! the tree -/
structure Tr where
  zxid : Int
  nodes : List Node
  sess : List Int
abbrev noNode : Node := ⟨⟨#[]⟩, ⟨#[]⟩, 0, 0, 0, 0, 0, 0, 0⟩
abbrev rootN : Node := ⟨⟨#[47]⟩, ⟨#[]⟩, 0, 0, 0, 0, 0, 0, 0⟩
def posN (l : List Node) (p : ByteArray) : Nat := posK (l.map Node.path) p
def hasN (l : List Node) (p : ByteArray) : Bool := isK (l.map Node.path) p
def getN (l : List Node) (p : ByteArray) : Node := if hasN l p then l.getD (posN l p) noNode else noNode
def getE (l : List Node) (p : ByteArray) : Int := if hasN l p then 0 else 7
def kidB (p : ByteArray) (n : Node) : Bool := decide ((splitR n.path).2.2 = 0) && decide ((splitR n.path).1 = p)
def kidsL (l : List Node) (p : ByteArray) : List ByteArray := (l.filter (kidB p)).map (fun n => (splitR n.path).2.1)
/-- a child more or less -/
def bump (n : Node) (more z : Int) : Node := { n with kids := n.kids + more, cversion := n.cversion + 1, pzxid := z }
def kidN (l : List Node) (d : ByteArray) (more z : Int) : List Node := if hasN l d then l.set (posN l d) (bump (l.getD (posN l d) noNode) more z) else l
abbrev parent (p : ByteArray) : ByteArray := (splitR p).1
def insN (l : List Node) (x : Node) : List Node := l.take (posN l x.path) ++ x :: l.drop (posN l x.path)
def delN (l : List Node) (p : ByteArray) : List Node := l.take (posN l p) ++ l.drop (posN l p + 1)
def nodeOf (x : Txn) : Node := ⟨x.path, x.data, x.zxid, x.zxid, x.zxid, 0, 0, x.owner, 0⟩
def makeN (l : List Node) (x : Txn) : List Node := kidN (insN l (nodeOf x)) (parent x.path) 1 x.zxid
def goneN (l : List Node) (p : ByteArray) (z : Int) : List Node := kidN (delN l p) (parent p) (-1) z
def setN (l : List Node) (x : Txn) : List Node := l.set (posN l x.path) { l.getD (posN l x.path) noNode with data := x.data, version := x.version, mzxid := x.zxid }
def makeV (p : ByteArray) : List Event := [⟨1, p⟩, ⟨4, parent p⟩]
def goneV (p : ByteArray) : List Event := [⟨2, p⟩, ⟨4, parent p⟩]
def ownedL (l : List Node) (s : Int) : List ByteArray := (l.filter (fun n => decide (n.owner = s))).map Node.path
def closeN (l : List Node) (s z : Int) : List Node := (ownedL l s).foldl (fun l p => goneN l p z) l
def closeV (l : List Node) (s : Int) : List Event := (ownedL l s).flatMap goneV
/-! is it good -/
def okS (l : List Int) (i : Nat) : Bool := match l[i]? with
  | none => true
  | some s => decide (1 ≤ s) && (decide (s ≤ 2147483647) && (match i with | 0 => true | j + 1 => match l[j]? with | some y => decide (y < s) | none => true))
def statB (z : Int) (n : Node) : Bool := decide (0 ≤ n.version ∧ n.version ≤ 2147483647 ∧ 0 ≤ n.cversion ∧ n.cversion ≤ 2147483647 ∧ 0 ≤ n.czxid ∧ n.czxid ≤ n.mzxid ∧ n.czxid ≤ n.pzxid ∧ n.mzxid ≤ z ∧ n.pzxid ≤ z)
def ownB (ss : List Int) (n : Node) : Bool := decide (n.owner = 0) || (isI ss n.owner && decide (n.kids = 0))
def upB (l : List Node) (n : Node) : Bool := decide ((splitR n.path).2.2 ≠ 0) || hasN l (parent n.path)
def lessB (l : List Node) (i : Nat) (n : Node) : Bool := match i with | 0 => true | j + 1 => match l[j]? with | some y => decide (cmpB y.path n.path < 0) | none => true
def okN (t : Tr) (i : Nat) : Bool := match t.nodes[i]? with
  | none => true
  | some n => goodP n.path && (decide (n.data.size ≤ 256) && (lessB t.nodes i n && (statB t.zxid n && (ownB t.sess n && upB t.nodes n))))
def headB (t : Tr) : Bool := decide (t.nodes.length ≤ 400) && (decide (0 ≤ t.zxid ∧ t.zxid < 4611686018427387904) && (match t.nodes with | [] => false | n :: _ => decide (n.path = slash) && decide (n.owner = 0)))
def goodTree (t : Tr) : Bool := headB t && ((List.range t.sess.length).all (okS t.sess) && ((List.range t.nodes.length).all (okN t) && t.nodes.all (fun n => decide (n.kids = ((t.nodes.countP (kidB n.path) : Nat) : Int)))))
/-! a transaction -/
def lacksE (t : Tr) (x : Txn) : Int := if hasN t.nodes x.path then 8 else if hasN t.nodes (parent x.path) then (if (getN t.nodes (parent x.path)).owner ≠ 0 then 11 else if x.owner ≠ 0 ∧ x.owner ≠ x.session then 12 else if 400 ≤ t.nodes.length then 6 else 0) else 7
def wrongE (t : Tr) (x : Txn) : Int :=
  if goodTree t = false then 3
  else if goodT x ≠ 0 then goodT x
  else if x.zxid ≤ t.zxid then 13
  else if x.op = 1 then (if isI t.sess x.session then 8 else 0)
  else if isI t.sess x.session = false then 12
  else if x.op = 3 then lacksE t x
  else if x.op = 4 then (if hasN t.nodes x.path then (if 0 < (getN t.nodes x.path).kids then 10 else 0) else 7)
  else if x.op = 5 then (if hasN t.nodes x.path then (if x.version ≠ (getN t.nodes x.path).version + 1 then 9 else 0) else 7)
  else 0
def insS (l : List Int) (s : Int) : List Int := l.take (posI l s) ++ s :: l.drop (posI l s)
def delS (l : List Int) (s : Int) : List Int := l.take (posI l s) ++ l.drop (posI l s + 1)
def doN (t : Tr) (x : Txn) : List Node := if x.op = 2 then closeN t.nodes x.session x.zxid else if x.op = 3 then makeN t.nodes x else if x.op = 4 then goneN t.nodes x.path x.zxid else if x.op = 5 then setN t.nodes x else t.nodes
def doS (t : Tr) (x : Txn) : List Int := if x.op = 1 then insS t.sess x.session else if x.op = 2 then delS t.sess x.session else t.sess
def doV (t : Tr) (x : Txn) : List Event := if x.op = 2 then closeV t.nodes x.session else if x.op = 3 then makeV x.path else if x.op = 4 then goneV x.path else if x.op = 5 then [⟨3, x.path⟩] else []
def fullB (l : List Node) : Bool := l.any (fun n => decide (2147483647 < n.cversion))
def applyE (t : Tr) (x : Txn) : Int := if wrongE t x = 0 then (if fullB (doN t x) then 6 else 0) else wrongE t x
def noTr : Tr := ⟨0, [], []⟩
def applyT (t : Tr) (x : Txn) : Tr := if applyE t x = 0 then ⟨x.zxid, doN t x, doS t x⟩ else noTr
def applyV (t : Tr) (x : Txn) : List Event := if applyE t x = 0 then doV t x else []
abbrev newTr : Tr := ⟨0, [rootN], []⟩
end Go.Proofs.YtfoglgeiipafeaaDoor

/- What Join gives: plain laws. -/
namespace Go.Proofs.YtfoglgeiipafeaaDoor
open Go.RowKit
theorem join_parts {d n : ByteArray} (h : (joinR d n).2 = 0) : goodP d = true ∧ named (bs n) = true ∧ (joinT d n).size ≤ 200 ∧ joinR d n = (joinT d n, 0) := by
  unfold joinR at h ⊢
  cases h1 : goodP d with
  | false => rw [h1] at h; simp at h
  | true =>
    cases h2 : named (bs n) with
    | false => rw [h1, h2] at h; simp at h
    | true =>
      rw [h1, h2] at h
      by_cases h3 : 200 < (joinT d n).size
      · simp [h3] at h
      · exact ⟨rfl, rfl, by omega, by simp [h3]⟩
theorem joinR_not {d n : ByteArray} (h : (joinR d n).2 ≠ 0) : (joinR d n).1 = ⟨#[]⟩ := by
  unfold joinR at h ⊢
  split
  · split
    · rfl
    · rename_i h1 h2; rw [if_pos h1, if_neg h2] at h; simp at h
  · rfl
theorem count_none {l : List UInt8} (h : (47 : UInt8) ∉ l) : Lib.countByte l 47 = 0 := by
  unfold Lib.countByte
  exact List.count_eq_zero.2 h
theorem join_all {d n : ByteArray} (h : (joinR d n).2 = 0) : goodP (joinT d n) = true ∧ splitR (joinT d n) = (d, n, 0) ∧ depthR (joinT d n) = ((depthR d).1 + 1, 0) ∧ (depthR d).2 = 0 ∧ underB (joinT d n) d = true ∧ underB d (joinT d n) = false := by
  obtain ⟨h1, h2, h3, _⟩ := join_parts h
  obtain ⟨hn, hn1, hn2⟩ := named_no h2
  have key : goodP (joinT d n) = true ∧ splitR (joinT d n) = (d, n, 0) ∧ depthR (joinT d n) = ((depthR d).1 + 1, 0) ∧ (depthR d).2 = 0 ∧ underB (joinT d n) d = true := by
    by_cases hd : d = slash
    · subst hd
      have hb : bs (joinT slash n) = 47 :: bs n := by
        unfold joinT
        rw [if_pos rfl, bs_append, slash_bs]
        rfl
      have hsz := size_bs (joinT slash n)
      generalize joinT slash n = s at *
      have hp := pre_of_bs hb
      have hg : goodP s = true := by
        rw [goodP_L, hb, goodL_root (bs n) hn (by rw [← hb, length_bs]; exact h3), h2]
        simp
      have hne : s ≠ slash := by
        intro e
        rw [e, slash_bs] at hb
        injection hb with _ hb
        rw [← hb] at hn1
        simp at hn1
      have hk : lastP s = 0 := lastP_of (d := []) (n := bs n) hb hn hp
      have hn3 : s.extract 1 s.size = n := by
        apply bs_inj
        rw [bs_extract, List.take_of_length_le (by rw [length_bs]; exact Nat.le_refl _), hb]
        rfl
      refine ⟨hg, ?_, ?_, ?_, ?_⟩
      · unfold splitR
        rw [if_pos hg, if_neg hne, if_pos hk, hn3]
      · unfold depthR
        rw [if_pos hg, if_neg hne, if_pos good_slash, if_pos rfl]
        show (((Lib.countByte (bs s) 47 : Nat) : Int), (0 : Int)) = _
        have := count_none hn
        unfold Lib.countByte at this ⊢
        rw [hb, List.count_cons_self, this]
        rfl
      · unfold depthR
        rw [if_pos good_slash, if_pos rfl]
      · unfold underB
        rw [hg, good_slash, decide_eq_true hne, decide_eq_true rfl]
        rfl
    · have hb : bs (joinT d n) = bs d ++ 47 :: bs n := by
        unfold joinT
        rw [if_neg hd, bs_append, bs_append, slash_bs]
        simp
      generalize joinT d n = s at *
      obtain ⟨r, hr⟩ := bs_pre (goodP_pre h1 hd).1
      have hds : 47 :: r ≠ [47] := by
        intro e
        exact hd (bs_inj (by rw [hr, e]; rfl))
      have hb2 : bs s = 47 :: (r ++ 47 :: bs n) := by rw [hb, hr]; rfl
      have hp := pre_of_bs hb2
      have hg : goodP s = true := by
        have h4 := goodL_deep 47 r (bs n) hds hn (by rw [show 47 :: r ++ 47 :: bs n = bs s from hb2.symm, length_bs]; exact h3)
        rw [goodP_L, hb2]
        rw [goodP_L, hr] at h1
        rw [h1, h2] at h4
        exact h4
      have hk : lastP s = (bs d).length := lastP_of hb hn hp
      have hne : s ≠ slash := by
        intro e
        rw [e, slash_bs] at hb2
        injection hb2 with _ hb2
        simp at hb2
      have hk0 : lastP s ≠ 0 := by rw [hk, hr]; simp
      have hd3 : s.extract 0 (lastP s) = d := by
        apply bs_inj
        rw [bs_extract, hk, hb]
        simp
      have hn3 : s.extract (lastP s + 1) s.size = n := by
        apply bs_inj
        rw [bs_extract, List.take_of_length_le (by rw [length_bs]; exact Nat.le_refl _), hk, hb]
        rw [List.drop_append, List.drop_of_length_le (by omega), show (bs d).length + 1 - (bs d).length = 1 from by omega]
        rfl
      refine ⟨hg, ?_, ?_, ?_, ?_⟩
      · unfold splitR
        rw [if_pos hg, if_neg hne, if_neg hk0, hd3, hn3]
      · unfold depthR
        rw [if_pos hg, if_neg hne, if_pos h1, if_neg hd]
        show (((Lib.countByte (bs s) 47 : Nat) : Int), (0 : Int)) = (((Lib.countByte (bs d) 47 : Nat) : Int) + 1, 0)
        have := count_none hn
        unfold Lib.countByte at this ⊢
        rw [hb, List.count_append, List.count_cons_self, this]
        rfl
      · unfold depthR
        rw [if_pos h1, if_neg hd]
      · unfold underB
        have hsd : s ≠ d := by
          intro e
          have := congrArg List.length hb
          rw [e] at this
          simp at this
        have hpp : Lib.hasPrefix s.data.toList (d ++ slash).data.toList = true := by
          show Lib.hasPrefix (bs s) (bs (d ++ slash)) = true
          refine List.isPrefixOf_iff_prefix.2 ⟨bs n, ?_⟩
          rw [bs_append, slash_bs, hb]
          simp
        rw [hg, h1, decide_eq_true hsd, hpp]
        simp
  obtain ⟨k1, k2, k3, k4, k5⟩ := key
  refine ⟨k1, k2, k3, k4, k5, ?_⟩
  cases hu : underB d (joinT d n) with
  | false => rfl
  | true => exact (under_both k5 hu).elim
end Go.Proofs.YtfoglgeiipafeaaDoor

/- Trees: plain laws of nodes that stand in order. -/
namespace Go.Proofs.YtfoglgeiipafeaaDoor
open Go.RowKit
def toE (n : Node) : Entry := ⟨n.path, n.data, true⟩
theorem map_toE (l : List Node) : (l.map toE).map Entry.path = l.map Node.path := by rw [List.map_map]; rfl
def ltN (x y : Node) : Prop := cmpB x.path y.path < 0
def SortedN (l : List Node) : Prop := l.Pairwise ltN
theorem ltN_trans {a b c : Node} (h : ltN a b) (k : ltN b c) : ltN a c := cb_trans _ _ _ h k
theorem ltN_ne {a b : Node} (h : ltN a b) : a.path ≠ b.path := by
  intro e
  unfold ltN at h
  rw [e, cmpB_self] at h
  omega
theorem sortedE_of {l : List Node} (h : SortedN l) : SortedE (l.map toE) := by
  rw [sorted_pw, List.pairwise_map]
  exact h
theorem posN_E (l : List Node) (p : ByteArray) : posN l p = posK ((l.map toE).map Entry.path) p := by unfold posN; rw [map_toE]
theorem hasN_E (l : List Node) (p : ByteArray) : hasN l p = isK ((l.map toE).map Entry.path) p := by unfold hasN; rw [map_toE]
theorem posN_lt {l : List Node} (hs : SortedN l) (p : ByteArray) {k : Nat} {x : Node} (hx : l[k]? = some x) : k < posN l p ↔ cmpB x.path p < 0 := by
  rw [posN_E]
  exact pos_of (sortedE_of hs) p k (toE x) (by rw [List.getElem?_map, hx]; rfl)
theorem at_ofN {l : List Node} (hs : SortedN l) {k : Nat} {x : Node} (hx : l[k]? = some x) : posN l x.path = k ∧ hasN l x.path = true := by
  rw [posN_E, hasN_E]
  exact at_of (sortedE_of hs) (x := toE x) (by rw [List.getElem?_map, hx]; rfl)
theorem none_ofN {l : List Node} {p : ByteArray} (h : ∀ x ∈ l, x.path ≠ p) : hasN l p = false := by
  rw [hasN_E]
  refine none_of p (fun k x hx => ?_)
  rw [List.getElem?_map, Option.map_eq_some_iff] at hx
  obtain ⟨y, hy, rfl⟩ := hx
  exact h y (List.mem_of_getElem? hy)
theorem has_at {l : List Node} {p : ByteArray} (h : hasN l p = true) : ∃ x, l[posN l p]? = some x ∧ x.path = p := by
  rw [hasN_E] at h
  obtain ⟨hq, he⟩ := is_at h
  have h1 := List.getElem?_eq_getElem hq
  generalize (l.map toE)[posK ((l.map toE).map Entry.path) p]'hq = e at h1 he
  rw [← posN_E, List.getElem?_map, Option.map_eq_some_iff] at h1
  obtain ⟨y, hy, rfl⟩ := h1
  exact ⟨y, hy, he⟩
theorem has_iff {l : List Node} (hs : SortedN l) {p : ByteArray} : hasN l p = true ↔ ∃ x ∈ l, x.path = p := by
  constructor
  · intro h
    obtain ⟨x, hx, he⟩ := has_at h
    exact ⟨x, List.mem_of_getElem? hx, he⟩
  · rintro ⟨x, hx, rfl⟩
    obtain ⟨k, hk⟩ := List.mem_iff_getElem?.1 hx
    exact (at_ofN hs hk).2
theorem has_no {l : List Node} (hs : SortedN l) {p : ByteArray} : hasN l p = false ↔ ∀ x ∈ l, x.path ≠ p := by
  constructor
  · intro h x hx he
    rw [(has_iff hs).2 ⟨x, hx, he⟩] at h
    cases h
  · exact none_ofN
theorem get_ofN {l : List Node} (hs : SortedN l) {x : Node} (hx : x ∈ l) : hasN l x.path = true ∧ getN l x.path = x := by
  obtain ⟨k, hk⟩ := List.mem_iff_getElem?.1 hx
  obtain ⟨h1, h2⟩ := at_ofN hs hk
  refine ⟨h2, ?_⟩
  unfold getN
  rw [h2, if_pos rfl, h1, List.getD_eq_getElem?_getD, hk]
  rfl
theorem get_noN {l : List Node} {p : ByteArray} (h : hasN l p = false) : getN l p = noNode := by unfold getN; rw [h]; rfl
theorem get_mem {l : List Node} {p : ByteArray} (h : hasN l p = true) : getN l p ∈ l ∧ (getN l p).path = p := by
  obtain ⟨x, hx, he⟩ := has_at h
  have hg : getN l p = x := by
    unfold getN
    rw [if_pos h, List.getD_eq_getElem?_getD, hx]
    rfl
  rw [hg]
  exact ⟨List.mem_of_getElem? hx, he⟩
theorem uniqN {l : List Node} (hs : SortedN l) {x y : Node} (hx : x ∈ l) (hy : y ∈ l) (h : x.path = y.path) : x = y := by rw [← (get_ofN hs hx).2, ← (get_ofN hs hy).2, h]
theorem map_same {l : List Node} {f : Node → Node} (h : ∀ x ∈ l, f x = x) : l.map f = l := by
  induction l with
  | nil => rfl
  | cons a r ih => rw [List.map_cons, h a (by simp), ih (fun x hx => h x (by simp [hx]))]
theorem set_map {l : List Node} (hs : SortedN l) {k : Nat} {x u : Node} (hx : l[k]? = some x) (g : Node → Node) (hgx : g x = u) (hg : ∀ y ∈ l, y.path ≠ x.path → g y = y) : l.set k u = l.map g := by
  apply List.ext_getElem?
  intro i
  rw [List.getElem?_set, List.getElem?_map]
  have hk := (List.getElem?_eq_some_iff.1 hx).1
  by_cases hki : k = i
  · subst hki
    rw [if_pos rfl, if_pos hk, hx, ← hgx]
    rfl
  · rw [if_neg hki]
    cases hy : l[i]? with
    | none => rfl
    | some y =>
      have hne : y.path ≠ x.path := by
        intro e
        have h1 := (at_ofN hs hy).1
        have h2 := (at_ofN hs hx).1
        rw [e] at h1
        omega
      rw [Option.map_some, hg y (List.mem_of_getElem? hy) hne]
def bumpAt (d : ByteArray) (more z : Int) (n : Node) : Node := if n.path = d then bump n more z else n
theorem kidN_map {l : List Node} (hs : SortedN l) (d : ByteArray) (more z : Int) : kidN l d more z = l.map (bumpAt d more z) := by
  unfold kidN
  cases h : hasN l d with
  | false =>
    rw [if_neg (by simp), map_same]
    intro x hx
    unfold bumpAt
    rw [if_neg ((has_no hs).1 h x hx)]
  | true =>
    obtain ⟨x, hx, he⟩ := has_at h
    rw [if_pos rfl, List.getD_eq_getElem?_getD, hx]
    refine set_map hs hx _ ?_ ?_
    · unfold bumpAt
      rw [if_pos he]
      rfl
    · intro y hy hne
      unfold bumpAt
      rw [if_neg (by rw [← he]; exact hne)]
def putAt (x : Txn) (n : Node) : Node := if n.path = x.path then { n with data := x.data, version := x.version, mzxid := x.zxid } else n
theorem setN_map {l : List Node} (hs : SortedN l) {x : Txn} (h : hasN l x.path = true) : setN l x = l.map (putAt x) := by
  obtain ⟨n, hn, he⟩ := has_at h
  unfold setN
  rw [List.getD_eq_getElem?_getD, hn]
  refine set_map hs hn _ ?_ ?_
  · unfold putAt
    rw [if_pos he]
    rfl
  · intro y hy hne
    unfold putAt
    rw [if_neg (by rw [← he]; exact hne)]
theorem cut_get {α : Type} {l : List α} {k : Nat} {x : α} (h : l[k]? = some x) : l = l.take k ++ x :: l.drop (k + 1) := by
  obtain ⟨h1, h2⟩ := List.getElem?_eq_some_iff.1 h
  rw [← h2, List.getElem_cons_drop, List.take_append_drop]
theorem filter_same {α : Type} {l : List α} {f : α → Bool} (h : ∀ x ∈ l, f x = true) : l.filter f = l := List.filter_eq_self.2 h
theorem delN_filter {l : List Node} (hs : SortedN l) {p : ByteArray} (h : hasN l p = true) : delN l p = l.filter (fun n => decide (n.path ≠ p)) := by
  obtain ⟨x, hx, he⟩ := has_at h
  unfold delN
  have hc := cut_get hx
  generalize posN l p = k at hc
  generalize l.take k = a at hc ⊢
  generalize l.drop (k + 1) = b at hc ⊢
  subst hc
  unfold SortedN at hs
  rw [List.pairwise_append, List.pairwise_cons] at hs
  rw [List.filter_append, List.filter_cons_of_neg (by simp [he]), filter_same, filter_same]
  · intro y hy
    have := hs.2.1.1 y hy
    have := ltN_ne this
    simp
    rw [← he]
    exact fun e => this e.symm
  · intro y hy
    have := ltN_ne (hs.2.2 y hy x (by simp))
    simp
    rw [← he]
    exact this
theorem insN_parts {l : List Node} (hs : SortedN l) {x : Node} (h : hasN l x.path = false) : ∃ a b, l = a ++ b ∧ insN l x = a ++ x :: b ∧ SortedN (a ++ x :: b) := by
  refine ⟨l.take (posN l x.path), l.drop (posN l x.path), (List.take_append_drop _ _).symm, rfl, ?_⟩
  have hE := sortedE_of hs
  have hb := before_of hE x.path
  have ha := behind_of hE x.path (by rw [← hasN_E]; exact h)
  rw [← posN_E] at hb ha
  have e := List.take_append_drop (posN l x.path) l
  generalize posN l x.path = q at *
  rw [← List.map_take] at hb
  rw [← List.map_drop] at ha
  generalize l.take q = a at *
  generalize l.drop q = b at *
  unfold SortedN at *
  rw [← e] at hs
  rw [List.pairwise_append] at hs ⊢
  rw [List.pairwise_cons]
  refine ⟨hs.1, ⟨fun y hy => ha (toE y) (List.mem_map_of_mem hy), hs.2.1⟩, fun y hy u hu => ?_⟩
  have hyx : ltN y x := hb (toE y) (List.mem_map_of_mem hy)
  rcases List.mem_cons.1 hu with rfl | hu
  · exact hyx
  · exact hs.2.2 y hy u hu
theorem sorted_map {l : List Node} (hs : SortedN l) {f : Node → Node} (hf : ∀ x, (f x).path = x.path) : SortedN (l.map f) := by
  unfold SortedN at *
  rw [List.pairwise_map]
  refine hs.imp (fun h => ?_)
  unfold ltN at *
  rw [hf, hf]
  exact h
theorem sorted_filter {l : List Node} (hs : SortedN l) (f : Node → Bool) : SortedN (l.filter f) := List.Pairwise.filter f hs
theorem countP_map' {l : List Node} {f : Node → Node} (hf : ∀ x, (f x).path = x.path) (q : ByteArray) : (l.map f).countP (kidB q) = l.countP (kidB q) := by
  rw [List.countP_map]
  congr 1
  funext x
  simp only [Function.comp, kidB, hf]
theorem bumpAt_path (d : ByteArray) (more z : Int) (x : Node) : (bumpAt d more z x).path = x.path := by unfold bumpAt; split <;> rfl
theorem putAt_path (x : Txn) (n : Node) : (putAt x n).path = n.path := by unfold putAt; split <;> rfl
theorem pw_of_adj {α : Type} {R : α → α → Prop} (tr : ∀ a b c, R a b → R b c → R a c) : ∀ l : List α, (∀ i x y, l[i]? = some x → l[i + 1]? = some y → R x y) → l.Pairwise R
  | [], _ => .nil
  | [a], _ => List.pairwise_singleton R a
  | a :: b :: r, h => by
    have ih := pw_of_adj tr (b :: r) (fun i x y hx hy => h (i + 1) x y hx hy)
    have h0 := h 0 a b rfl rfl
    rw [List.pairwise_cons]
    refine ⟨fun y hy => ?_, ih⟩
    rcases List.mem_cons.1 hy with rfl | hy
    · exact h0
    · exact tr a b y h0 ((List.pairwise_cons.1 ih).1 y hy)
theorem adj_of_pw {α : Type} {R : α → α → Prop} {l : List α} (h : l.Pairwise R) {i j : Nat} {x y : α} (hij : i < j) (hx : l[i]? = some x) (hy : l[j]? = some y) : R x y := by
  obtain ⟨hi, rfl⟩ := List.getElem?_eq_some_iff.1 hx
  obtain ⟨hj, rfl⟩ := List.getElem?_eq_some_iff.1 hy
  exact List.pairwise_iff_getElem.1 h i j hi hj hij
/-! numbers in order -/
theorem posI_lt {l : List Int} (hs : l.Pairwise (· < ·)) (s : Int) {k : Nat} {x : Int} (hx : l[k]? = some x) : k < posI l s ↔ x < s := by
  have hk : k < l.length := (List.getElem?_eq_some_iff.1 hx).1
  obtain ⟨m, hm, h1, h2⟩ := border (ltI l s) l.length (by
    intro i j hij hj h
    have hi := List.getElem?_eq_getElem (l := l) (i := i) (by omega)
    have hj2 := List.getElem?_eq_getElem (l := l) (i := j) hj
    rw [ltI_of hj2] at h
    rw [ltI_of hi]
    have := adj_of_pw hs hij hi hj2
    simp at h ⊢
    omega)
  have hp : posI l s = m := by
    unfold posI
    exact bsr_sorted _ m l.length 0 l.length (by omega) (Nat.zero_le _) hm h1 h2
  rw [hp]
  constructor
  · intro h
    have := h1 k h
    rw [ltI_of hx] at this
    simpa using this
  · intro h
    rcases Nat.lt_or_ge k m with hlt2 | hge
    · exact hlt2
    · have := h2 k hge hk
      rw [ltI_of hx] at this
      simp at this
      omega
theorem isI_iff {l : List Int} (hs : l.Pairwise (· < ·)) {s : Int} : isI l s = true ↔ s ∈ l := by
  unfold isI
  rw [decide_eq_true_iff]
  constructor
  · exact List.mem_of_getElem?
  · intro h
    obtain ⟨k, hk⟩ := List.mem_iff_getElem?.1 h
    have h1 : ¬ k < posI l s := by rw [posI_lt hs s hk]; omega
    have h2 : posI l s = k := by
      rcases Nat.lt_or_ge (posI l s) k with h | h
      · have hkl := (List.getElem?_eq_some_iff.1 hk).1
        have hy := List.getElem?_eq_getElem (l := l) (i := posI l s) (by omega)
        have h3 := adj_of_pw hs h hy hk
        rw [← posI_lt hs s hy] at h3
        omega
      · omega
    rw [h2]
    exact hk
theorem isI_no {l : List Int} (hs : l.Pairwise (· < ·)) {s : Int} : isI l s = false ↔ s ∉ l := by
  rw [← isI_iff hs]
  cases isI l s <;> simp
theorem insS_spec {l : List Int} (hs : l.Pairwise (· < ·)) {s : Int} (h : s ∉ l) : (insS l s).Pairwise (· < ·) ∧ (∀ x, x ∈ insS l s ↔ x = s ∨ x ∈ l) ∧ (insS l s).length = l.length + 1 := by
  have hb : ∀ y ∈ l.take (posI l s), y < s := by
    intro y hy
    obtain ⟨k, hk⟩ := List.mem_iff_getElem?.1 hy
    rw [List.getElem?_take] at hk
    split at hk
    · exact (posI_lt hs s hk).1 (by assumption)
    · cases hk
  have ha : ∀ y ∈ l.drop (posI l s), s < y := by
    intro y hy
    have hne : y ≠ s := fun e => h (e ▸ List.mem_of_mem_drop hy)
    obtain ⟨k, hk⟩ := List.mem_iff_getElem?.1 hy
    rw [List.getElem?_drop] at hk
    have h1 := mt (posI_lt hs s hk).2 (by omega)
    omega
  have e := List.take_append_drop (posI l s) l
  have hle := posI_le l s
  unfold insS
  generalize posI l s = q at *
  have hlen : (l.take q).length = q := by rw [List.length_take]; omega
  have hlen2 : (l.drop q).length = l.length - q := by rw [List.length_drop]
  generalize l.take q = a at *
  generalize l.drop q = b at *
  rw [← e] at hs
  rw [List.pairwise_append] at hs
  refine ⟨?_, ?_, ?_⟩
  · rw [List.pairwise_append, List.pairwise_cons]
    refine ⟨hs.1, ⟨ha, hs.2.1⟩, fun y hy u hu => ?_⟩
    rcases List.mem_cons.1 hu with rfl | hu
    · exact hb y hy
    · exact hs.2.2 y hy u hu
  · intro x
    rw [← e]
    simp only [List.mem_append, List.mem_cons]
    constructor
    · rintro (h | h | h)
      · exact .inr (.inl h)
      · exact .inl h
      · exact .inr (.inr h)
    · rintro (h | h | h)
      · exact .inr (.inl h)
      · exact .inl h
      · exact .inr (.inr h)
  · rw [List.length_append, List.length_cons]
    omega
theorem delS_spec {l : List Int} (hs : l.Pairwise (· < ·)) {s : Int} (h : s ∈ l) : (delS l s).Pairwise (· < ·) ∧ (∀ x, x ∈ delS l s ↔ x ∈ l ∧ x ≠ s) ∧ (delS l s).length + 1 = l.length := by
  have hx : l[posI l s]? = some s := by
    have := (isI_iff hs).2 h
    unfold isI at this
    simpa using this
  have hc := cut_get hx
  have hq := (List.getElem?_eq_some_iff.1 hx).1
  unfold delS
  generalize posI l s = q at *
  have hlen : (l.take q).length = q := by rw [List.length_take]; omega
  have hlen2 : (l.drop (q + 1)).length = l.length - (q + 1) := by rw [List.length_drop]
  generalize l.take q = a at *
  generalize l.drop (q + 1) = b at *
  have hs2 := hs
  rw [hc, List.pairwise_append, List.pairwise_cons] at hs
  refine ⟨?_, ?_, ?_⟩
  · rw [List.pairwise_append]
    exact ⟨hs.1, hs.2.1.2, fun y hy u hu => hs.2.2 y hy u (by simp [hu])⟩
  · intro x
    rw [hc]
    simp only [List.mem_append, List.mem_cons]
    constructor
    · rintro (h | h)
      · exact ⟨.inl h, by have := hs.2.2 x h s (by simp); omega⟩
      · exact ⟨.inr (.inr h), by have := hs.2.1.1 x h; omega⟩
    · rintro ⟨h | h | h, hn⟩
      · exact .inl h
      · exact absurd h hn
      · exact .inr h
  · rw [List.length_append]
    omega
end Go.Proofs.YtfoglgeiipafeaaDoor

/- Trees: plain laws of a good tree, and of what is done to one. -/
namespace Go.Proofs.YtfoglgeiipafeaaDoor
open Go.RowKit
theorem split_slash : splitR slash = (⟨#[]⟩, ⟨#[]⟩, 7) := by unfold splitR; rw [if_pos good_slash, if_pos rfl]
theorem split_not {p : ByteArray} (h : goodP p = true) : (splitR p).2.2 = 0 ↔ p ≠ slash := by
  constructor
  · intro h0 e
    rw [e, split_slash] at h0
    cases h0
  · intro hs
    exact (split_join h hs).2.2.2
theorem kidB_iff {n : Node} (hg : goodP n.path = true) (q : ByteArray) : kidB q n = true ↔ n.path ≠ slash ∧ parent n.path = q := by
  unfold kidB
  rw [Bool.and_eq_true, decide_eq_true_iff, decide_eq_true_iff, split_not hg]
theorem parent_lt {p : ByteArray} (hg : goodP p = true) (hs : p ≠ slash) : (bs (parent p)).length < (bs p).length := by
  obtain ⟨h1, h2, h3, _⟩ := split_join hg hs
  obtain ⟨_, hn1, _⟩ := named_no h3
  unfold joinR at h1
  rw [h2, h3, Bool.and_self, if_pos rfl] at h1
  by_cases h4 : 200 < (joinT (splitR p).1 (splitR p).2.1).size
  · rw [if_pos h4] at h1
    injection h1 with _ h1
    cases h1
  · rw [if_neg h4] at h1
    injection h1 with h1 _
    have h5 : (bs (joinT (splitR p).1 (splitR p).2.1)).length = (bs p).length := congrArg (fun x => (bs x).length) h1
    unfold joinT at h5
    show (bs (splitR p).1).length < _
    split at h5
    · rename_i e
      rw [bs_append, List.length_append] at h5
      rw [e]
      omega
    · rw [bs_append, bs_append, List.length_append, List.length_append] at h5
      omega
theorem parent_ne {p : ByteArray} (hg : goodP p = true) (hs : p ≠ slash) : parent p ≠ p := by
  intro e
  have := parent_lt hg hs
  rw [e] at this
  omega
structure GoodW (z : Int) (l : List Node) (ss : List Int) : Prop where
  len : l.length ≤ 400
  zx : 0 ≤ z ∧ z < 4611686018427387904
  root : ∃ n r, l = n :: r ∧ n.path = slash ∧ n.owner = 0
  sorted : SortedN l
  sess : ss.Pairwise (· < ·)
  sessB : ∀ s ∈ ss, 1 ≤ s ∧ s ≤ 2147483647
  path : ∀ n ∈ l, goodP n.path = true ∧ n.data.size ≤ 256
  stat : ∀ n ∈ l, 0 ≤ n.version ∧ n.version ≤ 2147483647 ∧ 0 ≤ n.cversion ∧ 0 ≤ n.czxid ∧ n.czxid ≤ n.mzxid ∧ n.czxid ≤ n.pzxid ∧ n.mzxid ≤ z ∧ n.pzxid ≤ z
  own : ∀ n ∈ l, n.owner = 0 ∨ (n.owner ∈ ss ∧ n.kids = 0)
  up : ∀ n ∈ l, n.path = slash ∨ ∃ m ∈ l, m.path = parent n.path
  kids : ∀ n ∈ l, n.kids = ((l.countP (kidB n.path) : Nat) : Int)
theorem okN_at {z : Int} {l : List Node} {ss : List Int} {k : Nat} {x : Node} (h : l[k]? = some x) : okN ⟨z, l, ss⟩ k = (goodP x.path && (decide (x.data.size ≤ 256) && (lessB l k x && (statB z x && (ownB ss x && upB l x))))) := by
  unfold okN
  simp only [h]
theorem lessB_s {l : List Node} {j : Nat} {y : Node} (h : l[j]? = some y) (x : Node) : lessB l (j + 1) x = decide (cmpB y.path x.path < 0) := by
  unfold lessB
  simp only [h]
theorem okS_0 {l : List Int} {s : Int} (h : l[0]? = some s) : okS l 0 = (decide (1 ≤ s) && (decide (s ≤ 2147483647) && true)) := by unfold okS; rw [h]
theorem okS_s {l : List Int} {j : Nat} {s y : Int} (h : l[j + 1]? = some s) (hy : l[j]? = some y) : okS l (j + 1) = (decide (1 ≤ s) && (decide (s ≤ 2147483647) && decide (y < s))) := by
  unfold okS
  rw [h]
  simp only [hy]
theorem okS_b {l : List Int} {i : Nat} {s : Int} (h : l[i]? = some s) (hk : okS l i = true) : 1 ≤ s ∧ s ≤ 2147483647 := by
  unfold okS at hk
  rw [h] at hk
  simp only [Bool.and_eq_true, decide_eq_true_eq] at hk
  exact ⟨hk.1, hk.2.1⟩
theorem head_inv {z : Int} {l : List Node} {ss : List Int} (h : headB ⟨z, l, ss⟩ = true) : l.length ≤ 400 ∧ Zx z ∧ ∃ n, l[0]? = some n ∧ n.path = slash ∧ n.owner = 0 := by
  cases l with
  | nil => simp [headB] at h
  | cons n r =>
    unfold headB at h
    simp only [Bool.and_eq_true, decide_eq_true_eq] at h
    exact ⟨h.1, h.2.1, n, rfl, h.2.2⟩
theorem upB_iff {l : List Node} (hs : SortedN l) {n : Node} (hg : goodP n.path = true) : upB l n = true ↔ (n.path = slash ∨ ∃ m ∈ l, m.path = parent n.path) := by
  unfold upB
  rw [Bool.or_eq_true, decide_eq_true_iff, has_iff hs, Ne, split_not hg, Classical.not_not]
theorem ownB_iff {ss : List Int} (hs : ss.Pairwise (· < ·)) (n : Node) : ownB ss n = true ↔ (n.owner = 0 ∨ (n.owner ∈ ss ∧ n.kids = 0)) := by
  unfold ownB
  rw [Bool.or_eq_true, Bool.and_eq_true, decide_eq_true_iff, decide_eq_true_iff, isI_iff hs]
theorem full_no {l : List Node} : fullB l = false ↔ ∀ n ∈ l, n.cversion ≤ 2147483647 := by
  unfold fullB
  rw [List.any_eq_false]
  constructor
  · intro h n hn
    have := h n hn
    rw [decide_eq_true_iff] at this
    omega
  · intro h n hn
    rw [decide_eq_true_iff]
    have := h n hn
    omega
theorem good_iff (z : Int) (l : List Node) (ss : List Int) : goodTree ⟨z, l, ss⟩ = true ↔ GoodW z l ss ∧ fullB l = false := by
  unfold goodTree
  simp only [Bool.and_eq_true, List.all_eq_true, List.mem_range, decide_eq_true_eq]
  constructor
  · rintro ⟨hh, hS, hN, hK⟩
    obtain ⟨hl, hz, n0, hn0, hp0, ho0⟩ := head_inv hh
    have hN' : ∀ i n, l[i]? = some n → goodP n.path = true ∧ n.data.size ≤ 256 ∧ lessB l i n = true ∧ statB z n = true ∧ ownB ss n = true ∧ upB l n = true := by
      intro i n hi
      have := hN i (List.getElem?_eq_some_iff.1 hi).1
      rw [okN_at hi] at this
      simp only [Bool.and_eq_true, decide_eq_true_eq] at this
      exact this
    have hsess : ss.Pairwise (· < ·) := pw_of_adj (R := fun (a b : Int) => a < b) (fun _ _ _ => Int.lt_trans) ss (fun i x y hx hy => by
      have := hS (i + 1) (List.getElem?_eq_some_iff.1 hy).1
      rw [okS_s hy hx] at this
      simp only [Bool.and_eq_true, decide_eq_true_eq] at this
      exact this.2.2)
    have hsort : SortedN l := pw_of_adj (R := ltN) (fun _ _ _ => ltN_trans) l (fun i x y hx hy => by
      have := (hN' (i + 1) y hy).2.2.1
      rw [lessB_s hx] at this
      exact (of_decide_eq_true this : cmpB x.path y.path < 0))
    have hst : ∀ n ∈ l, 0 ≤ n.version ∧ n.version ≤ 2147483647 ∧ 0 ≤ n.cversion ∧ n.cversion ≤ 2147483647 ∧ 0 ≤ n.czxid ∧ n.czxid ≤ n.mzxid ∧ n.czxid ≤ n.pzxid ∧ n.mzxid ≤ z ∧ n.pzxid ≤ z := by
      intro n hn
      obtain ⟨i, hi⟩ := List.mem_iff_getElem?.1 hn
      exact of_decide_eq_true (hN' i n hi).2.2.2.1
    refine ⟨⟨hl, hz, ?_, hsort, hsess, ?_, ?_, ?_, ?_, ?_, ?_⟩, full_no.2 (fun n hn => (hst n hn).2.2.2.1)⟩
    · cases l with
      | nil => cases hn0
      | cons n r =>
        injection hn0 with hn0
        subst hn0
        exact ⟨n, r, rfl, hp0, ho0⟩
    · intro s hs
      obtain ⟨i, hi⟩ := List.mem_iff_getElem?.1 hs
      exact okS_b hi (hS i (List.getElem?_eq_some_iff.1 hi).1)
    · intro n hn
      obtain ⟨i, hi⟩ := List.mem_iff_getElem?.1 hn
      exact ⟨(hN' i n hi).1, (hN' i n hi).2.1⟩
    · intro n hn
      obtain ⟨a, b, c, d, e⟩ := hst n hn
      exact ⟨a, b, c, e⟩
    · intro n hn
      obtain ⟨i, hi⟩ := List.mem_iff_getElem?.1 hn
      exact (ownB_iff hsess n).1 (hN' i n hi).2.2.2.2.1
    · intro n hn
      obtain ⟨i, hi⟩ := List.mem_iff_getElem?.1 hn
      exact (upB_iff hsort (hN' i n hi).1).1 (hN' i n hi).2.2.2.2.2
    · exact hK
  · rintro ⟨h, hf⟩
    refine ⟨?_, ?_, ?_, h.kids⟩
    · obtain ⟨n, r, rfl, hp, ho⟩ := h.root
      unfold headB
      simp only [Bool.and_eq_true, decide_eq_true_eq]
      exact ⟨h.len, h.zx, hp, ho⟩
    · intro i hi
      have hx := List.getElem?_eq_getElem hi
      have hb := h.sessB _ (List.mem_of_getElem? hx)
      cases i with
      | zero =>
        rw [okS_0 hx, decide_eq_true hb.1, decide_eq_true hb.2]
        rfl
      | succ j =>
        have hy := List.getElem?_eq_getElem (l := ss) (i := j) (by omega)
        rw [okS_s hx hy, decide_eq_true hb.1, decide_eq_true hb.2, decide_eq_true (adj_of_pw h.sess (Nat.lt_succ_self j) hy hx)]
        rfl
    · intro i hi
      have hx := List.getElem?_eq_getElem hi
      generalize l[i] = n at hx
      have hm := List.mem_of_getElem? hx
      rw [okN_at hx]
      simp only [Bool.and_eq_true, decide_eq_true_eq]
      refine ⟨(h.path n hm).1, (h.path n hm).2, ?_, ?_, (ownB_iff h.sess n).2 (h.own n hm), (upB_iff h.sorted (h.path n hm).1).2 (h.up n hm)⟩
      · cases i with
        | zero => rfl
        | succ j =>
          have hy := List.getElem?_eq_getElem (l := l) (i := j) (by omega)
          rw [lessB_s hy]
          exact decide_eq_true (adj_of_pw h.sorted (Nat.lt_succ_self j) hy hx)
      · obtain ⟨a, b, c, e⟩ := h.stat n hm
        exact decide_eq_true ⟨a, b, c, full_no.1 hf n hm, e⟩
theorem good_parts {t : Tr} (h : goodTree t = true) : GoodW t.zxid t.nodes t.sess ∧ fullB t.nodes = false := (good_iff t.zxid t.nodes t.sess).1 h
section
variable {z z' : Int} {l : List Node} {ss : List Int}
theorem GoodW.rootOf (h : GoodW z l ss) {n : Node} (hn : n ∈ l) (hp : n.path = slash) : n.owner = 0 := by
  obtain ⟨m, r, e, hmp, hmo⟩ := h.root
  have hm : m ∈ l := by rw [e]; simp
  rw [uniqN h.sorted hn hm (hp.trans hmp.symm)]
  exact hmo
theorem GoodW.has_root (h : GoodW z l ss) : ∃ m ∈ l, m.path = slash := by
  obtain ⟨m, r, e, hmp, _⟩ := h.root
  exact ⟨m, by rw [e]; simp, hmp⟩
/-- a node that has no children is nobody's parent -/
theorem GoodW.no_kid (h : GoodW z l ss) {x m : Node} (hx : x ∈ l) (hk : x.kids = 0) (hm : m ∈ l) (hms : m.path ≠ slash) : parent m.path ≠ x.path := by
  intro e
  have h1 := h.kids x hx
  rw [hk] at h1
  have h2 : 0 < l.countP (kidB x.path) := List.countP_pos_iff.2 ⟨m, hm, (kidB_iff (h.path m hm).1 _).2 ⟨hms, e⟩⟩
  omega
/-- a parent is nobody's own -/
theorem GoodW.parent_free (h : GoodW z l ss) {x m : Node} (hm : m ∈ l) (hms : m.path ≠ slash) (hx : x ∈ l) (e : x.path = parent m.path) : x.owner = 0 := by
  rcases h.own x hx with h0 | ⟨_, hk⟩
  · exact h0
  · exact absurd e.symm (h.no_kid hx hk hm hms)
theorem GoodW.later (h : GoodW z l ss) (hz : z ≤ z') (hz2 : z' < 4611686018427387904) : GoodW z' l ss :=
  ⟨h.len, ⟨by have := h.zx; omega, hz2⟩, h.root, h.sorted, h.sess, h.sessB, h.path, fun n hn => by have := h.stat n hn; omega, h.own, h.up, h.kids⟩
theorem GoodW.with_sess (h : GoodW z l ss) {ts : List Int} (h1 : ts.Pairwise (· < ·)) (h2 : ∀ s ∈ ts, 1 ≤ s ∧ s ≤ 2147483647) (h3 : ∀ n ∈ l, n.owner = 0 ∨ n.owner ∈ ts) : GoodW z l ts :=
  ⟨h.len, h.zx, h.root, h.sorted, h1, h2, h.path, h.stat, fun n hn => by
    rcases h3 n hn with h0 | h0
    · exact .inl h0
    · rcases h.own n hn with h4 | ⟨_, h4⟩
      · exact .inl h4
      · exact .inr ⟨h0, h4⟩, h.up, h.kids⟩
theorem filter_cut (hs : SortedN l) {x : Node} (hx : x ∈ l) : ∃ a b, l = a ++ x :: b ∧ l.filter (fun n => decide (n.path ≠ x.path)) = a ++ b := by
  obtain ⟨k, hk⟩ := List.mem_iff_getElem?.1 hx
  refine ⟨l.take k, l.drop (k + 1), cut_get hk, ?_⟩
  have h1 := delN_filter hs (at_ofN hs hk).2
  rw [← h1]
  unfold delN
  rw [(at_ofN hs hk).1]
theorem goneN_is (hs : SortedN l) {x : Node} (hx : x ∈ l) (zz : Int) : goneN l x.path zz = (l.filter (fun n => decide (n.path ≠ x.path))).map (bumpAt (parent x.path) (-1) zz) := by
  have hd := delN_filter hs (get_ofN hs hx).1
  unfold goneN
  rw [kidN_map (by rw [hd]; exact sorted_filter hs _), hd]
theorem mem_gone (hs : SortedN l) {x : Node} (hx : x ∈ l) (zz : Int) (n : Node) : n ∈ goneN l x.path zz ↔ ∃ m ∈ l, m.path ≠ x.path ∧ n = bumpAt (parent x.path) (-1) zz m := by
  rw [goneN_is hs hx, List.mem_map]
  constructor
  · rintro ⟨m, hm, rfl⟩
    rw [List.mem_filter] at hm
    exact ⟨m, hm.1, by simpa using hm.2, rfl⟩
  · rintro ⟨m, hm, hne, rfl⟩
    exact ⟨m, List.mem_filter.2 ⟨hm, by simpa using hne⟩, rfl⟩
theorem gone_length (hs : SortedN l) {x : Node} (hx : x ∈ l) (zz : Int) : (goneN l x.path zz).length + 1 = l.length := by
  obtain ⟨a, b, e, hf⟩ := filter_cut hs hx
  rw [goneN_is hs hx, List.length_map, hf]
  rw [e]
  simp
  omega
theorem bumpAt_own (d : ByteArray) (more zz : Int) (n : Node) : (bumpAt d more zz n).owner = n.owner := by unfold bumpAt; split <;> rfl
theorem bumpAt_data (d : ByteArray) (more zz : Int) (n : Node) : (bumpAt d more zz n).data = n.data := by unfold bumpAt; split <;> rfl
theorem bumpAt_version (d : ByteArray) (more zz : Int) (n : Node) : (bumpAt d more zz n).version = n.version := by unfold bumpAt; split <;> rfl
theorem good_gone (h : GoodW z l ss) {x : Node} (hx : x ∈ l) (hne : x.path ≠ slash) (hk : x.kids = 0) : GoodW z (goneN l x.path z) ss := by
  obtain ⟨a, b, e, hf⟩ := filter_cut h.sorted hx
  have hmem := mem_gone h.sorted hx z
  have hxk := fun q => kidB_iff (h.path x hx).1 q
  refine ⟨?_, h.zx, ?_, ?_, h.sess, h.sessB, ?_, ?_, ?_, ?_, ?_⟩
  · have := gone_length h.sorted hx z
    have := h.len
    omega
  · obtain ⟨n, r, e2, hp, ho⟩ := h.root
    rw [goneN_is h.sorted hx, e2, List.filter_cons_of_pos (by rw [hp]; simpa using fun e => hne e.symm), List.map_cons]
    exact ⟨_, _, rfl, by rw [bumpAt_path]; exact hp, by rw [bumpAt_own]; exact ho⟩
  · rw [goneN_is h.sorted hx]
    exact sorted_map (sorted_filter h.sorted _) (bumpAt_path _ _ _)
  · intro n hn
    obtain ⟨m, hm, _, rfl⟩ := (hmem n).1 hn
    rw [bumpAt_path, bumpAt_data]
    exact h.path m hm
  · intro n hn
    obtain ⟨m, hm, _, rfl⟩ := (hmem n).1 hn
    have := h.stat m hm
    unfold bumpAt
    split
    · simp only [bump]
      omega
    · exact this
  · intro n hn
    obtain ⟨m, hm, _, rfl⟩ := (hmem n).1 hn
    unfold bumpAt
    split
    · rename_i hd
      exact .inl (show m.owner = 0 from h.parent_free hx hne hm hd)
    · exact h.own m hm
  · intro n hn
    obtain ⟨m, hm, hmx, rfl⟩ := (hmem n).1 hn
    rw [bumpAt_path]
    rcases h.up m hm with h0 | ⟨q, hq, hqp⟩
    · exact .inl h0
    · by_cases hms : m.path = slash
      · exact .inl hms
      refine .inr ⟨bumpAt (parent x.path) (-1) z q, (hmem _).2 ⟨q, hq, ?_, rfl⟩, by rw [bumpAt_path]; exact hqp⟩
      rw [hqp]
      exact h.no_kid hx hk hm hms
  · intro n hn
    obtain ⟨m, hm, hmx, rfl⟩ := (hmem n).1 hn
    rw [goneN_is h.sorted hx, countP_map' (bumpAt_path _ _ _), bumpAt_path, hf]
    have h1 := h.kids m hm
    rw [e, List.countP_append, List.countP_cons] at h1
    rw [List.countP_append]
    unfold bumpAt
    by_cases hd : m.path = parent x.path
    · rw [if_pos hd]
      rw [if_pos ((hxk _).2 ⟨hne, hd.symm⟩)] at h1
      simp only [bump]
      omega
    · rw [if_neg hd]
      rw [if_neg (by rw [hxk]; exact fun e => hd e.2.symm)] at h1
      omega
theorem makeN_is (hs : SortedN l) (x : Txn) (hno : hasN l x.path = false) : ∃ a b, l = a ++ b ∧ makeN l x = (a ++ nodeOf x :: b).map (bumpAt (parent x.path) 1 x.zxid) ∧ SortedN (a ++ nodeOf x :: b) := by
  obtain ⟨a, b, e, h1, h2⟩ := insN_parts hs (x := nodeOf x) hno
  refine ⟨a, b, e, ?_, h2⟩
  unfold makeN
  rw [h1, kidN_map h2]
theorem bump_new (x : Txn) (hg : goodP x.path = true) (hne : x.path ≠ slash) (more zz : Int) : bumpAt (parent x.path) more zz (nodeOf x) = nodeOf x := by
  unfold bumpAt
  rw [if_neg]
  exact fun e => parent_ne hg hne e.symm
theorem mem_make (hs : SortedN l) (x : Txn) (hno : hasN l x.path = false) (hg : goodP x.path = true) (hne : x.path ≠ slash) (n : Node) : n ∈ makeN l x ↔ n = nodeOf x ∨ ∃ m ∈ l, n = bumpAt (parent x.path) 1 x.zxid m := by
  obtain ⟨a, b, e, h1, _⟩ := makeN_is hs x hno
  rw [h1, e]
  simp only [List.map_append, List.map_cons, bump_new x hg hne, List.mem_append, List.mem_cons, List.mem_map]
  constructor
  · rintro (⟨m, hm, rfl⟩ | rfl | ⟨m, hm, rfl⟩)
    · exact .inr ⟨m, .inl hm, rfl⟩
    · exact .inl rfl
    · exact .inr ⟨m, .inr hm, rfl⟩
  · rintro (rfl | ⟨m, hm | hm, rfl⟩)
    · exact .inr (.inl rfl)
    · exact .inl ⟨m, hm, rfl⟩
    · exact .inr (.inr ⟨m, hm, rfl⟩)
theorem good_make (h : GoodW z l ss) (x : Txn) (hxz : x.zxid = z) (hno : hasN l x.path = false) (hg : goodP x.path = true) (hne : x.path ≠ slash) (hd : x.data.size ≤ 256) (hlen : l.length < 400)
    (hown : x.owner = 0 ∨ x.owner ∈ ss) {u : Node} (hu : u ∈ l) (hup : u.path = parent x.path) (huo : u.owner = 0) : GoodW z (makeN l x) ss := by
  obtain ⟨a, b, e, hm1, hsort⟩ := makeN_is h.sorted x hno
  have hmem := mem_make h.sorted x hno hg hne
  have hnop := (has_no h.sorted).1 hno
  have hz := h.zx
  subst hxz
  refine ⟨?_, h.zx, ?_, ?_, h.sess, h.sessB, ?_, ?_, ?_, ?_, ?_⟩
  · rw [hm1, List.length_map, List.length_append, List.length_cons]
    rw [e, List.length_append] at hlen
    omega
  · obtain ⟨n, r, e2, hp, ho⟩ := h.root
    have hsl : ∀ m : Node, ltN m (nodeOf x) ∨ ltN (nodeOf x) m → True := fun _ _ => trivial
    cases a with
    | nil =>
      exfalso
      rw [List.nil_append] at e
      rw [e2] at e
      subst e
      rw [List.nil_append] at hsort
      unfold SortedN at hsort
      rw [List.pairwise_cons] at hsort
      have h1 : ltN (nodeOf x) n := hsort.1 n (by simp)
      unfold ltN at h1
      rw [hp] at h1
      have h2 := (goodP_pre hg hne).1
      obtain ⟨q, hq⟩ := bs_pre h2
      have h3 : cmpB (nodeOf x).path slash = Lib.compareBytes (47 :: q) [47] := by
        show Lib.compareBytes (bs x.path) (bs slash) = _
        rw [hq, slash_bs]
      rw [h3] at h1
      have h4 : q ≠ [] := fun e => hne (bs_inj (by rw [hq, e, slash_bs]))
      cases q with
      | nil => exact h4 rfl
      | cons c q => simp [Lib.compareBytes] at h1
    | cons a0 a =>
      rw [e2, List.cons_append] at e
      injection e with e3 e4
      subst e3
      rw [hm1, List.cons_append, List.map_cons]
      exact ⟨_, _, rfl, by rw [bumpAt_path]; exact hp, by rw [bumpAt_own]; exact ho⟩
  · rw [hm1]
    exact sorted_map hsort (bumpAt_path _ _ _)
  · intro n hn
    rcases (hmem n).1 hn with rfl | ⟨m, hm, rfl⟩
    · exact ⟨hg, hd⟩
    · rw [bumpAt_path, bumpAt_data]
      exact h.path m hm
  · intro n hn
    rcases (hmem n).1 hn with rfl | ⟨m, hm, rfl⟩
    · simp only [nodeOf]
      omega
    · have := h.stat m hm
      unfold bumpAt
      split
      · simp only [bump]
        omega
      · exact this
  · intro n hn
    rcases (hmem n).1 hn with rfl | ⟨m, hm, rfl⟩
    · rcases hown with h0 | h0
      · exact .inl h0
      · exact .inr ⟨h0, rfl⟩
    · unfold bumpAt
      split
      · rename_i hd2
        left
        rw [uniqN h.sorted hm hu (hd2.trans hup.symm)]
        exact huo
      · exact h.own m hm
  · intro n hn
    rcases (hmem n).1 hn with rfl | ⟨m, hm, rfl⟩
    · exact .inr ⟨_, (hmem _).2 (.inr ⟨u, hu, rfl⟩), by rw [bumpAt_path]; exact hup⟩
    · rw [bumpAt_path]
      rcases h.up m hm with h0 | ⟨q, hq, hqp⟩
      · exact .inl h0
      · exact .inr ⟨_, (hmem _).2 (.inr ⟨q, hq, rfl⟩), by rw [bumpAt_path]; exact hqp⟩
  · have hk := fun q => kidB_iff (n := nodeOf x) hg q
    have hc : ∀ q, ((makeN l x).countP (kidB q) : Nat) = l.countP (kidB q) + (if kidB q (nodeOf x) = true then 1 else 0) := by
      intro q
      rw [hm1, countP_map' (bumpAt_path _ _ _), e, List.countP_append, List.countP_append, List.countP_cons]
      omega
    intro n hn
    rw [hc]
    rcases (hmem n).1 hn with rfl | ⟨m, hm, rfl⟩
    · rw [if_neg (by rw [hk]; exact fun e => parent_ne hg hne e.2)]
      have h0 : l.countP (kidB (nodeOf x).path) = 0 := by
        rw [List.countP_eq_zero]
        intro m hm hkm
        obtain ⟨hms, hmp⟩ := (kidB_iff (h.path m hm).1 _).1 hkm
        rcases h.up m hm with h0 | ⟨q, hq, hqp⟩
        · exact hms h0
        · exact hnop q hq (hqp.trans hmp)
      rw [h0]
      rfl
    · rw [bumpAt_path]
      have h1 := h.kids m hm
      unfold bumpAt
      by_cases hd2 : m.path = parent x.path
      · rw [if_pos hd2, if_pos ((hk _).2 ⟨hne, hd2.symm⟩)]
        simp only [bump]
        omega
      · rw [if_neg hd2, if_neg (by rw [hk]; exact fun e => hd2 e.2.symm)]
        omega
theorem mem_set (hs : SortedN l) {x : Txn} (h : hasN l x.path = true) (n : Node) : n ∈ setN l x ↔ ∃ m ∈ l, n = putAt x m := by
  rw [setN_map hs h, List.mem_map]
  constructor
  · rintro ⟨m, hm, rfl⟩; exact ⟨m, hm, rfl⟩
  · rintro ⟨m, hm, rfl⟩; exact ⟨m, hm, rfl⟩
theorem good_set (h : GoodW z l ss) (x : Txn) (hxz : x.zxid = z) (hyes : hasN l x.path = true) (hd : x.data.size ≤ 256) (hv : 0 ≤ x.version ∧ x.version ≤ 2147483647) : GoodW z (setN l x) ss := by
  have hmem := mem_set h.sorted hyes
  subst hxz
  refine ⟨?_, h.zx, ?_, ?_, h.sess, h.sessB, ?_, ?_, ?_, ?_, ?_⟩
  · rw [setN_map h.sorted hyes, List.length_map]
    exact h.len
  · obtain ⟨n, r, e2, hp, ho⟩ := h.root
    rw [setN_map h.sorted hyes, e2, List.map_cons]
    exact ⟨_, _, rfl, by rw [putAt_path]; exact hp, by unfold putAt; split <;> exact ho⟩
  · rw [setN_map h.sorted hyes]
    exact sorted_map h.sorted (putAt_path x)
  · intro n hn
    obtain ⟨m, hm, rfl⟩ := (hmem n).1 hn
    have := h.path m hm
    unfold putAt
    split
    · exact ⟨this.1, hd⟩
    · exact this
  · intro n hn
    obtain ⟨m, hm, rfl⟩ := (hmem n).1 hn
    have := h.stat m hm
    unfold putAt
    split
    · simp only
      omega
    · exact this
  · intro n hn
    obtain ⟨m, hm, rfl⟩ := (hmem n).1 hn
    have := h.own m hm
    unfold putAt
    split <;> exact this
  · intro n hn
    obtain ⟨m, hm, rfl⟩ := (hmem n).1 hn
    rw [putAt_path]
    rcases h.up m hm with h0 | ⟨q, hq, hqp⟩
    · exact .inl h0
    · exact .inr ⟨_, (hmem _).2 ⟨q, hq, rfl⟩, by rw [putAt_path]; exact hqp⟩
  · intro n hn
    obtain ⟨m, hm, rfl⟩ := (hmem n).1 hn
    rw [putAt_path, setN_map h.sorted hyes, countP_map' (putAt_path x)]
    have := h.kids m hm
    unfold putAt
    split <;> exact this
/-- a session is closed: node by node -/
theorem good_fold {s : Int} (hs0 : s ≠ 0) : ∀ (ps : List ByteArray) (l : List Node), GoodW z l ss → ps.Nodup → (∀ p ∈ ps, ∃ n ∈ l, n.path = p) → (∀ n ∈ l, n.owner = s ↔ n.path ∈ ps) →
    GoodW z (ps.foldl (fun l p => goneN l p z) l) ss ∧ (∀ n ∈ ps.foldl (fun l p => goneN l p z) l, n.owner ≠ s ∧ ∃ m ∈ l, m.path = n.path ∧ m.owner = n.owner) ∧
      (∀ m ∈ l, m.owner ≠ s → ∃ n ∈ ps.foldl (fun l p => goneN l p z) l, n.path = m.path ∧ n.data = m.data ∧ n.version = m.version ∧ n.owner = m.owner) ∧ (ps.foldl (fun l p => goneN l p z) l).length + ps.length = l.length
  | [], l, h, _, _, ho => ⟨h, fun n hn => ⟨fun e => by simpa using (ho n hn).1 e, n, hn, rfl, rfl⟩, fun m hm _ => ⟨m, hm, rfl, rfl, rfl, rfl⟩, rfl⟩
  | p :: ps, l, h, hnd, hp, ho => by
    obtain ⟨x, hx, hxp⟩ := hp p (by simp)
    have hxo := (ho x hx).2 (by rw [hxp]; simp)
    have hxk : x.kids = 0 := by
      rcases h.own x hx with h0 | h0
      · exact absurd (hxo.symm.trans h0) hs0
      · exact h0.2
    have hxs : x.path ≠ slash := fun e => hs0 (hxo.symm.trans (h.rootOf hx e))
    have hmem := mem_gone h.sorted hx z
    have hg := good_gone h hx hxs hxk
    rw [List.nodup_cons] at hnd
    have ih := good_fold hs0 ps (goneN l x.path z) hg hnd.2 (by
      intro q hq
      obtain ⟨n, hn, hnq⟩ := hp q (by simp [hq])
      refine ⟨_, (hmem _).2 ⟨n, hn, ?_, rfl⟩, by rw [bumpAt_path]; exact hnq⟩
      rw [hxp, hnq]
      exact fun e => hnd.1 (e ▸ hq)) (by
      intro n hn
      obtain ⟨m, hm, hmx, rfl⟩ := (hmem n).1 hn
      rw [bumpAt_own, bumpAt_path, ho m hm, List.mem_cons]
      constructor
      · rintro (e | e)
        · exact absurd (e.trans hxp.symm) hmx
        · exact e
      · exact .inr)
    obtain ⟨i1, i2, i3, i4⟩ := ih
    have hlen := gone_length h.sorted hx z
    rw [hxp] at i1 i2 i3 i4 hlen
    rw [List.foldl_cons]
    refine ⟨i1, ?_, ?_, ?_⟩
    · intro n hn
      obtain ⟨a, m, hm, b, c⟩ := i2 n hn
      rw [← hxp] at hm
      obtain ⟨m', hm', _, rfl⟩ := (hmem m).1 hm
      rw [bumpAt_path] at b
      rw [bumpAt_own] at c
      exact ⟨a, m', hm', b, c⟩
    · intro m hm hmo
      have hmx : m.path ≠ x.path := by
        intro e
        rw [uniqN h.sorted hm hx e] at hmo
        exact hmo hxo
      obtain ⟨n, hn, a, b, c, d⟩ := i3 (bumpAt (parent x.path) (-1) z m) (by rw [← hxp]; exact (hmem _).2 ⟨m, hm, hmx, rfl⟩) (by rw [bumpAt_own]; exact hmo)
      rw [bumpAt_path] at a
      rw [bumpAt_data] at b
      rw [bumpAt_version] at c
      rw [bumpAt_own] at d
      exact ⟨n, hn, a, b, c, d⟩
    · rw [List.length_cons]
      omega
theorem owned_nodup (hs : SortedN l) (s : Int) : (ownedL l s).Nodup := by
  unfold ownedL
  unfold List.Nodup
  rw [List.pairwise_map]
  exact (List.Pairwise.filter _ hs).imp (fun h => ltN_ne h)
theorem mem_owned {s : Int} {p : ByteArray} : p ∈ ownedL l s ↔ ∃ n ∈ l, n.owner = s ∧ n.path = p := by
  unfold ownedL
  simp only [List.mem_map, List.mem_filter, decide_eq_true_eq]
  constructor
  · rintro ⟨n, ⟨h1, h2⟩, h3⟩; exact ⟨n, h1, h2, h3⟩
  · rintro ⟨n, h1, h2, h3⟩; exact ⟨n, ⟨h1, h2⟩, h3⟩
theorem good_close (h : GoodW z l ss) {s : Int} (hs0 : s ≠ 0) :
    GoodW z (closeN l s z) ss ∧ (∀ n ∈ closeN l s z, n.owner ≠ s ∧ ∃ m ∈ l, m.path = n.path ∧ m.owner = n.owner) ∧
      (∀ m ∈ l, m.owner ≠ s → ∃ n ∈ closeN l s z, n.path = m.path ∧ n.data = m.data ∧ n.version = m.version ∧ n.owner = m.owner) ∧ (closeN l s z).length + (ownedL l s).length = l.length := by
  refine good_fold hs0 (ownedL l s) l h (owned_nodup h.sorted s) (fun p hp => ?_) (fun n hn => ?_)
  · obtain ⟨n, hn, _, e⟩ := mem_owned.1 hp
    exact ⟨n, hn, e⟩
  · rw [mem_owned]
    constructor
    · intro e; exact ⟨n, hn, e, rfl⟩
    · rintro ⟨m, hm, e, hp⟩
      rw [← uniqN h.sorted hm hn hp]
      exact e
end
end Go.Proofs.YtfoglgeiipafeaaDoor

/- Trees: what a transaction leaves is a good tree. -/
namespace Go.Proofs.YtfoglgeiipafeaaDoor
open Go.RowKit
theorem eq_slash {p : ByteArray} : p.toList = [47] ↔ p = slash := by
  constructor
  · intro h
    exact bytes_eqB (by rw [h]; unfold slash; rw [ByteArray.toList_eq])
  · intro h
    rw [h]
    unfold slash
    rw [ByteArray.toList_eq]
theorem eq_nil {p : ByteArray} : p.toList = [] ↔ p = ⟨#[]⟩ := by
  constructor
  · intro h
    exact bytes_eqB (by rw [h, ByteArray.toList_eq])
  · intro h
    rw [h, ByteArray.toList_eq]
theorem goodT_inv {x : Txn} (h : goodT x = 0) : (1 ≤ x.op ∧ x.op ≤ 5) ∧ Zx x.zxid ∧ (1 ≤ x.session ∧ x.session ≤ 2147483647) ∧ (0 ≤ x.version ∧ x.version ≤ 2147483647) ∧ (0 ≤ x.owner ∧ x.owner ≤ 2147483647) ∧ x.data.size ≤ 256 ∧
    (x.op ≤ 2 → x.path = ⟨#[]⟩ ∧ x.data = ⟨#[]⟩ ∧ x.version = 0 ∧ x.owner = 0) ∧ (3 ≤ x.op → goodP x.path = true) ∧ (3 ≤ x.op → x.op ≠ 5 → x.path ≠ slash) ∧ (x.op = 4 → x.data = ⟨#[]⟩ ∧ x.version = 0 ∧ x.owner = 0) ∧ (x.op = 3 → x.version = 0) ∧ (x.op = 5 → x.owner = 0) := by
  unfold goodT at h
  by_cases h1 : x.op < 1 ∨ 5 < x.op
  · rw [if_pos h1] at h; exact absurd h (by decide)
  rw [if_neg h1] at h
  by_cases h2 : ¬ (0 ≤ x.zxid ∧ x.zxid < 4611686018427387904) ∨ x.session < 1 ∨ 2147483647 < x.session ∨ x.version < 0 ∨ 2147483647 < x.version ∨ x.owner < 0 ∨ 2147483647 < x.owner
  · rw [if_pos h2] at h; exact absurd h (by decide)
  rw [if_neg h2] at h
  by_cases h3 : 256 < (x.data.size : Int)
  · rw [if_pos h3] at h; exact absurd h (by decide)
  rw [if_neg h3] at h
  by_cases h4 : x.op ≤ 2 ∧ (x.path.toList ≠ [] ∨ x.data.toList ≠ [] ∨ x.version ≠ 0 ∨ x.owner ≠ 0)
  · rw [if_pos h4] at h; exact absurd h (by decide)
  rw [if_neg h4] at h
  by_cases h5 : 3 ≤ x.op ∧ (goodP x.path = false ∨ (x.path.toList = [47] ∧ x.op ≠ 5))
  · rw [if_pos h5] at h; exact absurd h (by decide)
  rw [if_neg h5] at h
  by_cases h6 : (x.op = 4 ∧ (x.data.toList ≠ [] ∨ x.version ≠ 0 ∨ x.owner ≠ 0)) ∨ (x.op = 3 ∧ x.version ≠ 0) ∨ (x.op = 5 ∧ x.owner ≠ 0)
  · rw [if_pos h6] at h; exact absurd h (by decide)
  clear h
  refine ⟨by omega, by unfold Zx; omega, by omega, by omega, by omega, by omega, ?_, ?_, ?_, ?_, ?_, ?_⟩
  · intro ho
    have h7 : ¬ (x.path.toList ≠ [] ∨ x.data.toList ≠ [] ∨ x.version ≠ 0 ∨ x.owner ≠ 0) := fun e => h4 ⟨ho, e⟩
    refine ⟨eq_nil.1 (Classical.byContradiction fun e => h7 (.inl e)), eq_nil.1 (Classical.byContradiction fun e => h7 (.inr (.inl e))), ?_, ?_⟩
    · exact Classical.byContradiction fun e => h7 (.inr (.inr (.inl e)))
    · exact Classical.byContradiction fun e => h7 (.inr (.inr (.inr e)))
  · intro ho
    cases hg : goodP x.path with
    | true => rfl
    | false => exact absurd ⟨ho, .inl hg⟩ h5
  · intro ho h8 e
    exact h5 ⟨ho, .inr ⟨eq_slash.2 e, h8⟩⟩
  · intro ho
    refine ⟨eq_nil.1 (Classical.byContradiction fun e => h6 (.inl ⟨ho, .inl e⟩)), ?_, ?_⟩
    · exact Classical.byContradiction fun e => h6 (.inl ⟨ho, .inr (.inl e)⟩)
    · exact Classical.byContradiction fun e => h6 (.inl ⟨ho, .inr (.inr e)⟩)
  · intro ho
    exact Classical.byContradiction fun e => h6 (.inr (.inl ⟨ho, e⟩))
  · intro ho
    exact Classical.byContradiction fun e => h6 (.inr (.inr ⟨ho, e⟩))
theorem lacks_inv {t : Tr} {x : Txn} (h : lacksE t x = 0) : hasN t.nodes x.path = false ∧ hasN t.nodes (parent x.path) = true ∧ (getN t.nodes (parent x.path)).owner = 0 ∧ (x.owner = 0 ∨ x.owner = x.session) ∧ t.nodes.length < 400 := by
  unfold lacksE at h
  by_cases h1 : hasN t.nodes x.path = true
  · rw [if_pos h1] at h; exact absurd h (by decide)
  rw [if_neg h1] at h
  by_cases h2 : hasN t.nodes (parent x.path) = true
  case neg => rw [if_neg h2] at h; exact absurd h (by decide)
  rw [if_pos h2] at h
  by_cases h3 : (getN t.nodes (parent x.path)).owner ≠ 0
  · rw [if_pos h3] at h; exact absurd h (by decide)
  rw [if_neg h3] at h
  by_cases h4 : x.owner ≠ 0 ∧ x.owner ≠ x.session
  · rw [if_pos h4] at h; exact absurd h (by decide)
  rw [if_neg h4] at h
  by_cases h5 : 400 ≤ t.nodes.length
  · rw [if_pos h5] at h; exact absurd h (by decide)
  refine ⟨by simpa using h1, h2, by omega, by omega, by omega⟩
theorem wrong_inv {t : Tr} {x : Txn} (h : wrongE t x = 0) : goodTree t = true ∧ goodT x = 0 ∧ t.zxid < x.zxid ∧ (x.op = 1 → isI t.sess x.session = false) ∧ (x.op ≠ 1 → isI t.sess x.session = true) ∧ (x.op = 3 → lacksE t x = 0) ∧
    (x.op = 4 → hasN t.nodes x.path = true ∧ (getN t.nodes x.path).kids ≤ 0) ∧ (x.op = 5 → hasN t.nodes x.path = true ∧ x.version = (getN t.nodes x.path).version + 1) := by
  unfold wrongE at h
  by_cases h1 : goodTree t = false
  · rw [if_pos h1] at h; exact absurd h (by decide)
  rw [if_neg h1] at h
  by_cases h2 : goodT x ≠ 0
  · rw [if_pos h2] at h; exact absurd h h2
  rw [if_neg h2] at h
  by_cases h3 : x.zxid ≤ t.zxid
  · rw [if_pos h3] at h; exact absurd h (by decide)
  rw [if_neg h3] at h
  refine ⟨by simpa using h1, Classical.not_not.1 h2, by omega, ?_⟩
  by_cases h4 : x.op = 1
  · rw [if_pos h4] at h
    by_cases h5 : isI t.sess x.session = true
    · rw [if_pos h5] at h; exact absurd h (by decide)
    · exact ⟨fun _ => by simpa using h5, fun e => absurd h4 e, fun e => by omega, fun e => by omega, fun e => by omega⟩
  rw [if_neg h4] at h
  by_cases h5 : isI t.sess x.session = false
  · rw [if_pos h5] at h; exact absurd h (by decide)
  rw [if_neg h5] at h
  refine ⟨fun e => absurd e h4, fun _ => by simpa using h5, ?_⟩
  by_cases h6 : x.op = 3
  · rw [if_pos h6] at h
    exact ⟨fun _ => h, fun e => by omega, fun e => by omega⟩
  rw [if_neg h6] at h
  refine ⟨fun e => absurd e h6, ?_⟩
  by_cases h7 : x.op = 4
  · rw [if_pos h7] at h
    refine ⟨fun _ => ?_, fun e => by omega⟩
    by_cases h8 : hasN t.nodes x.path = true
    · rw [if_pos h8] at h
      by_cases h9 : 0 < (getN t.nodes x.path).kids
      · rw [if_pos h9] at h; exact absurd h (by decide)
      · exact ⟨h8, by omega⟩
    · rw [if_neg h8] at h; exact absurd h (by decide)
  rw [if_neg h7] at h
  refine ⟨fun e => absurd e h7, fun h7 => ?_⟩
  rw [if_pos h7] at h
  by_cases h8 : hasN t.nodes x.path = true
  · rw [if_pos h8] at h
    by_cases h9 : x.version ≠ (getN t.nodes x.path).version + 1
    · rw [if_pos h9] at h; exact absurd h (by decide)
    · exact ⟨h8, Classical.not_not.1 h9⟩
  · rw [if_neg h8] at h; exact absurd h (by decide)
theorem doN_1 {t : Tr} {x : Txn} (h : x.op = 1) : doN t x = t.nodes ∧ doS t x = insS t.sess x.session ∧ doV t x = [] := by
  refine ⟨?_, ?_, ?_⟩
  · unfold doN; rw [if_neg (by omega), if_neg (by omega), if_neg (by omega), if_neg (by omega)]
  · unfold doS; rw [if_pos h]
  · unfold doV; rw [if_neg (by omega), if_neg (by omega), if_neg (by omega), if_neg (by omega)]
theorem doN_2 {t : Tr} {x : Txn} (h : x.op = 2) : doN t x = closeN t.nodes x.session x.zxid ∧ doS t x = delS t.sess x.session ∧ doV t x = closeV t.nodes x.session := by
  refine ⟨?_, ?_, ?_⟩
  · unfold doN; rw [if_pos h]
  · unfold doS; rw [if_neg (by omega), if_pos h]
  · unfold doV; rw [if_pos h]
theorem doN_3 {t : Tr} {x : Txn} (h : x.op = 3) : doN t x = makeN t.nodes x ∧ doS t x = t.sess ∧ doV t x = makeV x.path := by
  refine ⟨?_, ?_, ?_⟩
  · unfold doN; rw [if_neg (by omega), if_pos h]
  · unfold doS; rw [if_neg (by omega), if_neg (by omega)]
  · unfold doV; rw [if_neg (by omega), if_pos h]
theorem doN_4 {t : Tr} {x : Txn} (h : x.op = 4) : doN t x = goneN t.nodes x.path x.zxid ∧ doS t x = t.sess ∧ doV t x = goneV x.path := by
  refine ⟨?_, ?_, ?_⟩
  · unfold doN; rw [if_neg (by omega), if_neg (by omega), if_pos h]
  · unfold doS; rw [if_neg (by omega), if_neg (by omega)]
  · unfold doV; rw [if_neg (by omega), if_neg (by omega), if_pos h]
theorem doN_5 {t : Tr} {x : Txn} (h : x.op = 5) : doN t x = setN t.nodes x ∧ doS t x = t.sess ∧ doV t x = [⟨3, x.path⟩] := by
  refine ⟨?_, ?_, ?_⟩
  · unfold doN; rw [if_neg (by omega), if_neg (by omega), if_neg (by omega), if_pos h]
  · unfold doS; rw [if_neg (by omega), if_neg (by omega)]
  · unfold doV; rw [if_neg (by omega), if_neg (by omega), if_neg (by omega), if_pos h]
theorem apply_goodW {t : Tr} {x : Txn} (h : wrongE t x = 0) : GoodW x.zxid (doN t x) (doS t x) := by
  obtain ⟨hg, hx, hz, w1, w2, w3, w4, w5⟩ := wrong_inv h
  obtain ⟨x1, x2, x3, x4, x5, x6, x7, x8, x9, x10, x11, x12⟩ := goodT_inv hx
  obtain ⟨g, _⟩ := good_parts hg
  have g' : GoodW x.zxid t.nodes t.sess := g.later (by omega) x2.2
  rcases (by omega : x.op = 1 ∨ x.op = 2 ∨ x.op = 3 ∨ x.op = 4 ∨ x.op = 5) with ho | ho | ho | ho | ho
  · obtain ⟨e1, e2, _⟩ := doN_1 (t := t) ho
    rw [e1, e2]
    have hs := (isI_no g.sess).1 (w1 ho)
    obtain ⟨i1, i2, _⟩ := insS_spec g.sess hs
    refine g'.with_sess i1 (fun s hs => ?_) (fun n hn => ?_)
    · rcases (i2 s).1 hs with rfl | hs
      · exact x3
      · exact g.sessB s hs
    · rcases g.own n hn with h0 | ⟨h0, _⟩
      · exact .inl h0
      · exact .inr ((i2 _).2 (.inr h0))
  · obtain ⟨e1, e2, _⟩ := doN_2 (t := t) ho
    rw [e1, e2]
    have hs := (isI_iff g.sess).1 (w2 (by omega))
    obtain ⟨i1, i2, _⟩ := delS_spec g.sess hs
    obtain ⟨c1, c2, _, _⟩ := good_close g' (s := x.session) (by omega)
    refine c1.with_sess i1 (fun s hs => g.sessB s ((i2 s).1 hs).1) (fun n hn => ?_)
    rcases c1.own n hn with h0 | ⟨h0, _⟩
    · exact .inl h0
    · exact .inr ((i2 _).2 ⟨h0, (c2 n hn).1⟩)
  · obtain ⟨e1, e2, _⟩ := doN_3 (t := t) ho
    rw [e1, e2]
    obtain ⟨l1, l2, l3, l4, l5⟩ := lacks_inv (w3 ho)
    obtain ⟨hm, hp⟩ := get_mem l2
    refine good_make g' x rfl l1 (x8 (by omega)) (x9 (by omega) (by omega)) x6 l5 ?_ hm hp l3
    rcases l4 with h0 | h0
    · exact .inl h0
    · rw [h0]
      exact .inr ((isI_iff g.sess).1 (w2 (by omega)))
  · obtain ⟨e1, e2, _⟩ := doN_4 (t := t) ho
    rw [e1, e2]
    obtain ⟨l1, l2⟩ := w4 ho
    obtain ⟨hm, hp⟩ := get_mem l1
    have hk : (getN t.nodes x.path).kids = 0 := by
      have := g.kids _ hm
      omega
    have := good_gone g' hm (by rw [hp]; exact x9 (by omega) (by omega)) hk
    rw [hp] at this
    exact this
  · obtain ⟨e1, e2, _⟩ := doN_5 (t := t) ho
    rw [e1, e2]
    exact good_set g' x rfl (w5 ho).1 x6 x4
theorem applyE_0 {t : Tr} {x : Txn} (h : applyE t x = 0) : wrongE t x = 0 ∧ fullB (doN t x) = false := by
  unfold applyE at h
  by_cases h1 : wrongE t x = 0
  · rw [if_pos h1] at h
    cases hf : fullB (doN t x) with
    | false => exact ⟨h1, rfl⟩
    | true => rw [hf, if_pos rfl] at h; exact absurd h (by decide)
  · rw [if_neg h1] at h
    exact absurd h h1
theorem applyT_0 {t : Tr} {x : Txn} (h : applyE t x = 0) : applyT t x = ⟨x.zxid, doN t x, doS t x⟩ ∧ applyV t x = doV t x := by
  unfold applyT applyV
  rw [if_pos h, if_pos h]
  exact ⟨rfl, rfl⟩
theorem apply_good {t : Tr} {x : Txn} (h : applyE t x = 0) : goodTree (applyT t x) = true ∧ goodTree t = true ∧ t.zxid < x.zxid := by
  obtain ⟨h1, h2⟩ := applyE_0 h
  obtain ⟨h3, _, h4, _⟩ := wrong_inv h1
  rw [(applyT_0 h).1]
  exact ⟨(good_iff _ _ _).2 ⟨apply_goodW h1, h2⟩, h3, h4⟩
theorem new_good : goodTree newTr = true := by
  refine (good_iff _ _ _).2 ⟨⟨by decide, by decide, ⟨rootN, [], rfl, rfl, rfl⟩, List.pairwise_singleton _ _, .nil, by simp, ?_, ?_, ?_, ?_, ?_⟩, ?_⟩
  · intro n hn
    rw [List.mem_singleton.1 hn]
    exact ⟨good_slash, by decide⟩
  · intro n hn
    rw [List.mem_singleton.1 hn]
    decide
  · intro n hn
    rw [List.mem_singleton.1 hn]
    exact .inl rfl
  · intro n hn
    rw [List.mem_singleton.1 hn]
    exact .inl rfl
  · intro n hn
    rw [List.mem_singleton.1 hn]
    rw [List.countP_cons, if_neg]
    · rfl
    · rw [kidB_iff (show goodP rootN.path = true from good_slash)]
      exact fun e => e.1 rfl
  · exact full_no.2 (fun n hn => by rw [List.mem_singleton.1 hn]; decide)
end Go.Proofs.YtfoglgeiipafeaaDoor

/- wire.Sum: the cyclic sum of 32 bits. -/
namespace Go.Proofs.YtfoglgeiipafeaaDoor
open Go.RowKit
def rnd (c : Nat) : Nat := if c % 2 = 1 then (c / 2) ^^^ 3988292384 else c / 2
def rndN : Nat → Nat → Nat
  | 0, c => c
  | n + 1, c => rnd (rndN n c)
def sumK (l : List UInt8) (c : Nat) : Nat := l.foldl (fun c b => rndN 8 (c ^^^ b.toNat)) c
def sumN (l : List UInt8) : Nat := 4294967295 - sumK l 4294967295
theorem xor_lt {a b : Nat} (ha : a < 4294967296) (hb : b < 4294967296) : a ^^^ b < 4294967296 := Nat.xor_lt_two_pow (n := 32) ha hb
theorem rnd_lt {c : Nat} (h : c < 4294967296) : rnd c < 4294967296 := by
  unfold rnd
  split
  · exact xor_lt (by omega) (by omega)
  · omega
theorem rndN_lt {c : Nat} (h : c < 4294967296) : ∀ n, rndN n c < 4294967296
  | 0 => h
  | n + 1 => rnd_lt (rndN_lt h n)
theorem sumK_lt : ∀ (l : List UInt8) {c : Nat}, c < 4294967296 → sumK l c < 4294967296
  | [], _, h => h
  | b :: r, c, h => by
    have hb : b.toNat < 256 := b.toNat_lt
    exact sumK_lt r (rndN_lt (xor_lt h (by omega)) 8)
theorem sumK_snoc (l : List UInt8) (b : UInt8) (c : Nat) : sumK (l ++ [b]) c = rndN 8 (sumK l c ^^^ b.toNat) := by unfold sumK; rw [List.foldl_append]; rfl
theorem bv32 (a : Nat) (ha : a < 4294967296) : (BitVec.ofInt 32 (a : Int)).toNat = a := by
  rw [BitVec.ofInt_natCast, BitVec.toNat_ofNat]
  exact Nat.mod_eq_of_lt (by omega)
theorem wrap32n (a : Nat) (h : a < 4294967296) : IntKind.u32.wrap (a : Int) = a := by
  unfold IntKind.wrap
  simp [IntKind.signed, IntKind.bits]
  omega
theorem bits_xor32 (a b : Nat) (ha : a < 4294967296) (hb : b < 4294967296) : bits .xor .u32 (a : Int) (b : Int) = ((a ^^^ b : Nat) : Int) := by
  show IntKind.u32.wrap ((BitVec.ofInt 32 (a : Int) ^^^ BitVec.ofInt 32 (b : Int)).toNat : Int) = _
  rw [BitVec.toNat_xor, bv32 a ha, bv32 b hb, wrap32n _ (xor_lt ha hb)]
theorem bits_and1 (a : Nat) (ha : a < 4294967296) : bits .and .u32 (a : Int) 1 = ((a % 2 : Nat) : Int) := by
  show IntKind.u32.wrap ((BitVec.ofInt 32 (a : Int) &&& BitVec.ofInt 32 ((1 : Nat) : Int)).toNat : Int) = _
  rw [BitVec.toNat_and, bv32 a ha, bv32 1 (by omega), Nat.and_one_is_mod, wrap32n _ (by omega)]
theorem bits_not32 (a : Nat) (ha : a < 4294967296) : bits .xor .u32 IntKind.u32.max (a : Int) = ((4294967295 - a : Nat) : Int) := by
  show IntKind.u32.wrap ((BitVec.ofInt 32 ((4294967295 : Nat) : Int) ^^^ BitVec.ofInt 32 (a : Int)).toNat : Int) = _
  have h1 : BitVec.ofInt 32 ((4294967295 : Nat) : Int) = BitVec.allOnes 32 := by decide
  rw [h1, BitVec.xor_comm, BitVec.xor_allOnes, BitVec.toNat_not, bv32 a ha, wrap32n _ (by omega)]
set_option maxHeartbeats 1000000 in
theorem sum_any (s : ByteArray) (w : World) (hs : s.size ≤ 9223372036854775807) :
    Calls Tryd.prog 17 #[.string s] w fun e w' => e = .returned (.int .i64 (sumN (bs s))) ∧ w = w' := by
  go_enter Tryd.func17, Tryd.ntmps17
  go_wp2
  go_loop [3, 4] (fun c i => ∃ k : Nat, k ≤ s.size ∧ c = .int .u32 (sumK ((bs s).take k) 4294967295 : Nat) ∧ i = .int .i64 k) (fun _ i => s.size - (intOf i).toNat)
  case atStart => exact ⟨0, Nat.zero_le _, rfl, rfl⟩
  case round =>
    obtain ⟨k, hk, rfl, rfl⟩ := hrel
    have hlt0 := sumK_lt ((bs s).take k) (c := 4294967295) (by omega)
    by_cases hlt : k < s.size
    · have hx : (bs s)[k]? = some (s[k]) := List.getElem?_eq_getElem (by rw [length_bs]; exact hlt)
      have htk : (bs s).take (k + 1) = (bs s).take k ++ [s[k]] := by rw [List.take_add_one, hx]; rfl
      have hsn := sumK_snoc ((bs s).take k) s[k] 4294967295
      rw [← htk] at hsn
      have hc : s[k].toNat < 256 := s[k].toNat_lt
      have hxb := bits_xor32 (sumK ((bs s).take k) 4294967295) s[k].toNat hlt0 (by omega)
      have hx2 : sumK ((bs s).take k) 4294967295 ^^^ s[k].toNat < 4294967296 := xor_lt hlt0 (by omega)
      have HSN := Lib.hid hsn
      generalize sumK ((bs s).take k) 4294967295 = c0 at *
      clear htk hsn hx
      go_wp2
      generalize c0 ^^^ s[k].toNat = y at *
      go_loop [3, 18] (fun c j => ∃ n : Nat, n ≤ 8 ∧ c = .int .u32 (rndN n y : Nat) ∧ j = .int .i64 n) (fun _ j => 8 - (intOf j).toNat)
      case atStart => exact ⟨0, by omega, rfl, rfl⟩
      case round =>
        obtain ⟨n, hn, rfl, rfl⟩ := hrel
        have hr := rndN_lt hx2 n
        by_cases h8 : n < 8
        · have hand := bits_and1 (rndN n y) hr
          have hrd : rndN (n + 1) y = rnd (rndN n y) := rfl
          have hh : rndN n y / 2 < 4294967296 := by omega
          have hxr : bits .xor .u32 ((rndN n y : Int) / 2) 3988292384 = ((rndN n y / 2 ^^^ 3988292384 : Nat) : Int) := bits_xor32 (rndN n y / 2) 3988292384 hh (by omega)
          have HRD := Lib.hid hrd
          generalize rndN n y = z at *
          clear hrd
          rcases Nat.mod_two_eq_zero_or_one z with h2 | h2
          · have hz : rnd z = z / 2 := by unfold rnd; rw [if_neg (by omega)]
            have HZ := Lib.hid hz
            clear hz
            rw [h2] at hand
            go_wp2
            exact ⟨⟨n + 1, by omega, by rw [HRD.out, HZ.out] <;> rfl, by go_num⟩, by simp [intOf]; omega⟩
          · have hz : rnd z = (z / 2) ^^^ 3988292384 := by unfold rnd; rw [if_pos h2]
            have HZ := Lib.hid hz
            clear hz
            rw [h2] at hand
            go_wp2
            exact ⟨⟨n + 1, by omega, by rw [HRD.out, HZ.out], by go_num⟩, by simp [intOf]; omega⟩
        · have hn8 : n = 8 := by omega
          subst hn8
          go_wp2
          go_round
          case rel => exact ⟨k + 1, by omega, by rw [HSN.out], by go_num⟩
          case measure => simp [intOf]; omega
    · have hk' : k = s.size := by omega
      subst hk'
      have hfull : (bs s).take s.size = bs s := List.take_of_length_le (by rw [length_bs]; exact Nat.le_refl _)
      rw [hfull] at hlt0 ⊢
      have HSU := Lib.hid (show sumN (bs s) = 4294967295 - sumK (bs s) 4294967295 from rfl)
      generalize sumK (bs s) 4294967295 = c0 at *
      have hnot := bits_not32 c0 hlt0
      have hw : wrap64 (((4294967295 - c0 : Nat) : Int)) = ((4294967295 - c0 : Nat) : Int) := by unfold wrap64; omega
      generalize hd : 4294967295 - c0 = d at *
      clear hfull hd
      go_wp2
      go_ret
      exact ⟨by rw [HSU.out]; rfl, rfl⟩
end Go.Proofs.YtfoglgeiipafeaaDoor

/- package snap: what its functions compute, in plain words. -/
namespace Go.Proofs.YtfoglgeiipafeaaDoor
open Go.RowKit
def statBy (n : Node) : List UInt8 := be 8 n.czxid.toNat ++ be 8 n.mzxid.toNat ++ be 8 n.pzxid.toNat ++ be 8 n.version.toNat ++ be 8 n.cversion.toNat ++ be 8 n.owner.toNat ++ be 8 n.kids.toNat
def nodeBy (n : Node) : List UInt8 := [UInt8.ofNat n.path.size] ++ bs n.path ++ be 2 n.data.size ++ bs n.data ++ statBy n
def sessBy (l : List Int) : List UInt8 := l.flatMap (fun s => be 4 s.toNat)
def bodyBy (t : Tr) : List UInt8 := [83] ++ be 8 t.zxid.toNat ++ be 4 t.sess.length ++ sessBy t.sess ++ be 4 t.nodes.length ++ t.nodes.flatMap nodeBy
def snapBy (t : Tr) : List UInt8 := bodyBy t ++ be 4 (sumN (bodyBy t))
theorem statBy_length (n : Node) : (statBy n).length = 56 := by unfold statBy; simp [be_length]
theorem nodeBy_length (n : Node) : (nodeBy n).length = n.path.size + n.data.size + 59 := by
  unfold nodeBy
  simp only [List.length_append, List.length_cons, List.length_nil, be_length, statBy_length, length_bs]
  omega
theorem sessBy_length (l : List Int) : (sessBy l).length = l.length * 4 := by
  unfold sessBy
  induction l with
  | nil => rfl
  | cons a l ih => rw [List.flatMap_cons, List.length_append, be_length, ih, List.length_cons]; omega
theorem nodesBy_le {l : List Node} (h : ∀ n ∈ l, n.path.size ≤ 200 ∧ n.data.size ≤ 256) : (l.flatMap nodeBy).length ≤ l.length * 515 := by
  induction l with
  | nil => exact Nat.le_refl _
  | cons a l ih =>
    have h1 := h a (by simp)
    have h2 := ih (fun n hn => h n (by simp [hn]))
    rw [List.flatMap_cons, List.length_append, nodeBy_length, List.length_cons]
    omega
/-- numbers that rise from 1 on are not many -/
theorem rising_len : ∀ (l : List Int) (lo hi : Int), l.Pairwise (· < ·) → (∀ s ∈ l, lo ≤ s ∧ s ≤ hi) → lo ≤ hi + 1 → (l.length : Int) ≤ hi + 1 - lo
  | [], lo, hi, _, _, h => by simp; omega
  | a :: l, lo, hi, hp, hb, h => by
    rw [List.pairwise_cons] at hp
    have ha := hb a (by simp)
    have := rising_len l (a + 1) hi hp.2 (fun s hs => ⟨hp.1 s hs, (hb s (by simp [hs])).2⟩) (by omega)
    rw [List.length_cons]
    omega
structure SnapOk (t : Tr) : Prop where
  ns : t.sess.length ≤ 2147483647
  nn : t.nodes.length ≤ 400
  z : 0 ≤ t.zxid ∧ t.zxid < 4611686018427387904
  s : ∀ s ∈ t.sess, 1 ≤ s ∧ s ≤ 2147483647
  n : ∀ n ∈ t.nodes, n.path.size ≤ 200 ∧ n.data.size ≤ 256 ∧ (0 ≤ n.czxid ∧ n.czxid < 4611686018427387904) ∧ (0 ≤ n.mzxid ∧ n.mzxid < 4611686018427387904) ∧ (0 ≤ n.pzxid ∧ n.pzxid < 4611686018427387904) ∧ (0 ≤ n.version ∧ n.version ≤ 2147483647) ∧ (0 ≤ n.cversion ∧ n.cversion ≤ 2147483647) ∧ (0 ≤ n.owner ∧ n.owner ≤ 2147483647) ∧ (0 ≤ n.kids ∧ n.kids ≤ 400)
theorem snap_ok {t : Tr} (h : goodTree t = true) : SnapOk t := by
  obtain ⟨g, f⟩ := good_parts h
  refine ⟨?_, g.len, g.zx, g.sessB, fun n hn => ?_⟩
  · have := rising_len t.sess 1 2147483647 g.sess g.sessB (by decide)
    omega
  · have a := goodP_size (g.path n hn).1
    have b := (g.path n hn).2
    have c := g.stat n hn
    have d := full_no.1 f n hn
    have e := g.own n hn
    have k := g.kids n hn
    have k2 : t.nodes.countP (kidB n.path) ≤ 400 := Nat.le_trans List.countP_le_length g.len
    have hz := g.zx
    refine ⟨a.2, b, by omega, by omega, by omega, by omega, by omega, ?_, by omega⟩
    rcases e with e | ⟨e, _⟩
    · omega
    · have := g.sessB _ e
      omega
theorem body_le {t : Tr} (h : SnapOk t) : (bodyBy t).length ≤ 10000000000 := by
  unfold bodyBy
  simp only [List.length_append, be_length, sessBy_length, List.length_cons, List.length_nil]
  have h1 := nodesBy_le (fun n hn => ⟨(h.n n hn).1, (h.n n hn).2.1⟩)
  have h2 := h.ns
  have h3 := h.nn
  omega
end Go.Proofs.YtfoglgeiipafeaaDoor

/- append of a string's bytes onto a row of one's own. -/
namespace Go.Proofs.YtfoglgeiipafeaaDoor
open Go.RowKit Go.ChangeShapes Go.WideShapes Go.ChangeAt
theorem below_regrow (W : World) (ext : Array Obj) (d d' : Nat) : Below (grow W ext d).heap.size (grow W ext d) (grow W ext d') := ⟨rfl, rfl, rfl, Nat.le_refl _, fun _ _ => rfl⟩
theorem ow_lit1 (W : World) (B : Nat) (e : TypeId) {n : Nat} (hn : n = W.heap.size) (hB : B ≤ W.heap.size) : Ow cByte 1 e (W.alloc (.cells #[.int .u8 84] e)) B (.slice (some ⟨n, 0, none⟩) 1 1) [84] := by
  subst hn
  exact ⟨World.ownsRow_lit W #[.int .u8 84] 1 hB (by simp [maxLen]) (by simp), fun x _ => rfl⟩
theorem flat_bytes (l : List UInt8) : l.flatMap cByte = l.map fun b => Value.int .u8 b.toNat := by
  induction l with
  | nil => rfl
  | cons a r ih => rw [List.flatMap_cons, ih]; rfl
section
variable {P : Program} (w : World)
theorem run_apps {t e ts : TypeId} {z : Value} (ty : TypeId) (E : El P t e z 1 1) (hz0 : z = .int .u8 0) (hu : P.underlying ts = some .string) {B : Nat} {v : Value} {l : List UInt8} (s : ByteArray)
    (hown : Ow cByte 1 e w B v l) (h63 : l.length + s.size ≤ maxLen) (hbytes : l.length + s.size ≤ 140737488355328) (hbase : B ≤ w.heap.size) :
    ∃ v' w', (Builtin.append_ #[t, ts] ty #[v, .string s]).run P w = .ok v' w' ∧ Ow cByte 1 e w' B v' (l ++ bs s) ∧ w.grownBy w' v.ownBlock := by
  obtain ⟨i, hi, hz, hs, hb⟩ := info_of E.info
  subst hz0
  obtain ⟨v', w', hr, h2, h3, _⟩ := Go.Lib.run_append_own_string (P := P) w B t ts ty e i E.slice hu hi hz hs hb v l.length (l.flatMap cByte) hown.1 s h63 hbytes hbase
  refine ⟨v', w', hr, ⟨?_, fun x _ => rfl⟩, h3⟩
  have e1 : (l ++ bs s).flatMap cByte = l.flatMap cByte ++ Go.Lib.strCells s := by rw [List.flatMap_append, flat_bytes (bs s)]; rfl
  have e2 : (l ++ bs s).length = l.length + s.size := by rw [List.length_append, length_bs]
  rw [e1, e2]
  exact h2
theorem wp_apps {o : Oper} {a : Act} {K : Act → World → Prop} {Q : Exit → Act → World → Prop} (sv x : Operand) (t ts : TypeId)
    (ho : o.op = .call { callee := .builtin .append, args := #[sv, x], argTypes := #[t, ts] })
    {e : TypeId} {z : Value} (E : El P t e z 1 1) (hz0 : z = .int .u8 0) (hu : P.underlying ts = some .string) {B : Nat} {v : Value} {l : List UInt8} (s : ByteArray)
    (hs : a.eval sv = v) (hx : a.eval x = .string s) (hown : Ow cByte 1 e w B v l)
    (h63 : l.length + s.size ≤ maxLen) (hbytes : l.length + s.size ≤ 140737488355328) (hbase : B ≤ w.heap.size)
    (h : ∀ v' w', Ow cByte 1 e w' B v' (l ++ bs s) → w.grownBy w' v.ownBlock → K (a.put o.dst v') w') : o.wp P a w K Q := by
  obtain ⟨v', w', hr, h2, h3⟩ := run_apps (P := P) w o.type E hz0 hu s hown h63 hbytes hbase
  unfold Oper.wp execOp
  simp only [ho, resolve, invoke, builtin, Sem.run_bind, Sem.run_pure, Result.andThen_ok, List.map_toArray, List.map_cons, List.map_nil, hs, hx, hr]
  exact h v' w' h2 h3
theorem step_apps {ops : Array Oper} {o : Oper} {a : Act} {K : Act → World → Prop} {Q : Exit → Act → World → Prop} {EE : Prop} (hgd : o.guard = none) (sv x : Operand) (t ts : TypeId)
    (ho : o.op = .call { callee := .builtin .append, args := #[sv, x], argTypes := #[t, ts] })
    {e : TypeId} {z : Value} (E : El P t e z 1 1) (hz0 : z = .int .u8 0) (hu : P.underlying ts = some .string) {B : Nat} {v : Value} {l : List UInt8} (s : ByteArray)
    (hs : a.eval sv = v) (hx : a.eval x = .string s) (hown : Ow cByte 1 e w B v l)
    (h63 : l.length + s.size ≤ maxLen) (hbytes : l.length + s.size ≤ 140737488355328) (hbase : B ≤ w.heap.size)
    (h : ∀ v' w', Ow cByte 1 e w' B v' (l ++ bs s) → w.grownBy w' v.ownBlock → K (a.put o.dst v') w') : if Region.wanted o (yielded ops a.tmps) = true then Oper.wp P o a w K Q else EE := by
  have hw : Region.wanted o (yielded ops a.tmps) = true := by simp [Region.wanted, hgd]
  rw [if_pos hw]
  exact wp_apps w sv x t ts ho E hz0 hu s hs hx hown h63 hbytes hbase h
theorem step_app {ops : Array Oper} {o : Oper} {a : Act} {K : Act → World → Prop} {Q : Exit → Act → World → Prop} {EE : Prop} (hgd : o.guard = none) (sv x : Operand) (t : TypeId)
    (ho : o.op = .call { callee := .builtin .append, args := #[sv, x], argTypes := #[t, t] })
    {α : Type} {f : α → List Value} {s : Nat} {e : TypeId} {z : Value} {bytes : Nat} (E : El P t e z s bytes) {B : Nat} {v xv : Value} {l m : List α}
    (hs : a.eval sv = v) (hx : a.eval x = xv) (hown : Ow f s e w B v l) (hsrc : Sl f s w xv m) (h1 : ∀ x, ∀ u ∈ f x, u.oneCell' = true)
    (h63 : l.length + m.length ≤ maxLen) (hbytes : (l.length + m.length) * bytes ≤ 140737488355328) (hbase : B ≤ w.heap.size)
    (h : ∀ v' w', Ow f s e w' B v' (l ++ m) → w.grownBy w' v.ownBlock → (v'.ownBlock = v.ownBlock ∨ v'.ownBlock = some w.heap.size) → K (a.put o.dst v') w') : if Region.wanted o (yielded ops a.tmps) = true then Oper.wp P o a w K Q else EE := by
  have hw : Region.wanted o (yielded ops a.tmps) = true := by simp [Region.wanted, hgd]
  rw [if_pos hw]
  exact wp_app w sv x t ho E hs hx hown hsrc h1 h63 hbytes hbase h
end
/-- the bytes of a row, as a text -/
theorem run_row_text {P : Program} {w : World} {src e dst B : Nat} {v : Value} {l : List UInt8} (h : Ow cByte 1 e w B v l) (hs : P.underlying src = some (.slice e)) (he : P.underlying e = some (.int .u8)) (hd : P.underlying dst = some .string) :
    (convert src dst v).run P w = .ok (.string ⟨l.toArray⟩) w := by
  obtain ⟨A, c, rfl, h1, h2⟩ := h.sl.form
  cases A with
  | none =>
    have hl : l = [] := by
      cases l with
      | nil => rfl
      | cons x l => obtain ⟨a, o, ha, _⟩ := h.sl.at_ (i := 0) rfl; cases ha
    subst hl
    rw [run_convert_bytes_string w src dst e none [].length c hs he hd]
    rfl
  | some a =>
    refine run_convert_bytes_back w src dst e a c l hs he hd (fun j hj => ?_)
    obtain ⟨b, off, ha, _, hc⟩ := h.sl.at_ (i := j) (x := l[j]) (List.getElem?_eq_getElem hj)
    injection ha with ha
    subst ha
    have hadd : (⟨b, off, none⟩ : Addr).add j = ⟨b, off + j * 1, none⟩ := by
      unfold Addr.add
      split
      · rename_i h0'; rw [Nat.mul_one, h0']; rfl
      · rw [Nat.mul_one]
    rw [hadd]
    exact hc 0 _ rfl
end Go.Proofs.YtfoglgeiipafeaaDoor

/- wire.Encode: a transaction's bytes. -/
namespace Go.Proofs.YtfoglgeiipafeaaDoor
open Go.RowKit Go.ChangeShapes Go.WideShapes Go.ChangeAt
def headL (B : List UInt8) : List UInt8 := [84] ++ be 2 B.length ++ B
def recL (B : List UInt8) : List UInt8 := headL B ++ be 4 (sumN (headL B))
def bodyL (z o s v ow : Nat) (p d : List UInt8) : List UInt8 := be 8 z ++ [UInt8.ofNat o] ++ be 4 s ++ be 4 v ++ be 4 ow ++ [UInt8.ofNat p.length] ++ p ++ be 2 d.length ++ d
theorem bodyL_length (z o s v ow : Nat) (p d : List UInt8) : (bodyL z o s v ow p d).length = 24 + p.length + d.length := by
  simp [bodyL, be_length]
  omega
theorem sumN_lt (l : List UInt8) : sumN l < 4294967296 := by unfold sumN; omega
theorem str_snoc (S : ByteArray) (l : List UInt8) : S ++ (⟨l.toArray⟩ : ByteArray) = ⟨(bs S ++ l).toArray⟩ := by
  apply ByteArray.ext
  simp [bs]
end Go.Proofs.YtfoglgeiipafeaaDoor

/- wire.Encode: the contract for every transaction. -/
namespace Go.Proofs.YtfoglgeiipafeaaDoor
open Go.RowKit Go.ChangeShapes Go.WideShapes Go.ChangeAt
abbrev vTxn (t : Txn) : Value := .agg #[.int .i64 t.zxid, .int .i64 t.op, .int .i64 t.session, .string t.path, .string t.data, .int .i64 t.version, .int .i64 t.owner]
/-- a good transaction's record -/
def recT (t : Txn) : List UInt8 := recL (bodyL t.zxid.toNat t.op.toNat t.session.toNat t.version.toNat t.owner.toNat (bs t.path) (bs t.data))
def encR (t : Txn) : ByteArray := if goodT t = 0 then ⟨(recT t).toArray⟩ else ⟨#[]⟩
structure GoodF (t : Txn) : Prop where
  z0 : 0 ≤ t.zxid
  z1 : t.zxid < 4611686018427387904
  o0 : 1 ≤ t.op
  o1 : t.op ≤ 5
  s0 : 1 ≤ t.session
  s1 : t.session ≤ 2147483647
  v0 : 0 ≤ t.version
  v1 : t.version ≤ 2147483647
  w0 : 0 ≤ t.owner
  w1 : t.owner ≤ 2147483647
  d1 : t.data.size ≤ 256
  p1 : t.path.size ≤ 200
theorem goodT_facts (t : Txn) (h : goodT t = 0) : GoodF t := by
  unfold goodT at h
  split at h
  · exact absurd h (by decide)
  rename_i a1
  split at h
  · exact absurd h (by decide)
  rename_i a2
  split at h
  · exact absurd h (by decide)
  rename_i a3
  split at h
  · exact absurd h (by decide)
  rename_i a4
  split at h
  · exact absurd h (by decide)
  rename_i a5
  clear h
  refine ⟨by omega, by omega, by omega, by omega, by omega, by omega, by omega, by omega, by omega, by omega, by omega, ?_⟩
  by_cases h2 : t.op ≤ 2
  · have h3 : t.path.toList = [] := by
      rcases Classical.em (t.path.toList = []) with e | e
      · exact e
      · exact absurd ⟨h2, .inl e⟩ a4
    rw [ByteArray.toList_eq] at h3
    have h4 := length_bs t.path
    unfold bs at h4
    rw [h3] at h4
    simp at h4
    omega
  · have h3 : goodP t.path = true := by
      cases e : goodP t.path with
      | true => rfl
      | false => exact absurd ⟨by omega, .inl e⟩ a5
    exact (goodP_size h3).2
end Go.Proofs.YtfoglgeiipafeaaDoor

/- wire.Decode as a function of bytes. -/
namespace Go.Proofs.YtfoglgeiipafeaaDoor
open Go.RowKit
abbrev txn0 : Txn := ⟨0, 0, 0, ⟨#[]⟩, ⟨#[]⟩, 0, 0⟩
def dB10 (n z o ss v ow : Int) (p d s : ByteArray) (b : Bool) : Txn × Int × Int :=
  bif b || !s.toList.isEmpty then (txn0, 0, 2) else bif goodT ⟨z, o, ss, p, d, v, ow⟩ != 0 then (txn0, 0, goodT ⟨z, o, ss, p, d, v, ow⟩) else (⟨z, o, ss, p, d, v, ow⟩, n + 7, 0)
def dB9 (n z o ss v ow : Int) (p : ByteArray) (dl : Nat) (s : ByteArray) (b : Bool) : Txn × Int × Int := dB10 n z o ss v ow p (takeT s b dl) (restT s b dl) (badT s b dl)
def dB8 (n z o ss v ow : Int) (p s : ByteArray) (b : Bool) : Txn × Int × Int := dB9 n z o ss v ow p (valI (bs (takeT s b 2))).toNat (restT s b 2) (badT s b 2)
def dB7 (n z o ss v ow : Int) (pl : Nat) (s : ByteArray) (b : Bool) : Txn × Int × Int := dB8 n z o ss v ow (takeT s b pl) (restT s b pl) (badT s b pl)
def dB6 (n z o ss v ow : Int) (s : ByteArray) (b : Bool) : Txn × Int × Int := dB7 n z o ss v ow (valI (bs (takeT s b 1))).toNat (restT s b 1) (badT s b 1)
def dB5 (n z o ss v : Int) (s : ByteArray) (b : Bool) : Txn × Int × Int := dB6 n z o ss v (valI (bs (takeT s b 4))) (restT s b 4) (badT s b 4)
def dB4 (n z o ss : Int) (s : ByteArray) (b : Bool) : Txn × Int × Int := dB5 n z o ss (valI (bs (takeT s b 4))) (restT s b 4) (badT s b 4)
def dB3 (n z o : Int) (s : ByteArray) (b : Bool) : Txn × Int × Int := dB4 n z o (valI (bs (takeT s b 4))) (restT s b 4) (badT s b 4)
def dB2 (n z : Int) (s : ByteArray) (b : Bool) : Txn × Int × Int := dB3 n z (valI (bs (takeT s b 1))) (restT s b 1) (badT s b 1)
def dB1 (n : Int) (s : ByteArray) (b : Bool) : Txn × Int × Int := dB2 n (valI (bs (takeT s b 8))) (restT s b 8) (badT s b 8)
def dec4 (s : ByteArray) (n : Nat) (B : ByteArray) (sum : Int) (b4 : Bool) : Txn × Int × Int :=
  bif b4 then (txn0, 0, 2) else bif ((sumN (bs (s.extract 0 (3 + n))) : Nat) : Int) != sum then (txn0, 0, 5) else dB1 n B false
def dec3 (s : ByteArray) (n : Nat) (B s3 : ByteArray) (b3 : Bool) : Txn × Int × Int := dec4 s n B (valI (bs (takeT s3 b3 4))) (badT s3 b3 4)
def dec2 (s : ByteArray) (n : Nat) (s2 : ByteArray) (b2 : Bool) : Txn × Int × Int :=
  bif b2 || decide (1024 < (n : Int)) then (txn0, 0, 2) else dec3 s n (takeT s2 b2 n) (restT s2 b2 n) (badT s2 b2 n)
def dec1 (s t1 s1 : ByteArray) (b1 : Bool) : Txn × Int × Int :=
  bif !(t1.toList == [84]) then (txn0, 0, 2) else dec2 s (valI (bs (takeT s1 b1 2))).toNat (restT s1 b1 2) (badT s1 b1 2)
/-- what Decode answers -/
def decR (s : ByteArray) : Txn × Int × Int := dec1 s (takeT s false 1) (restT s false 1) (badT s false 1)
theorem dec1_bad {s t1 s1 : ByteArray} {b1 : Bool} (h : (!(t1.toList == [84])) = true) : dec1 s t1 s1 b1 = (txn0, 0, 2) := by unfold dec1; rw [h]; rfl
theorem dec1_ok {s t1 s1 : ByteArray} {b1 : Bool} (h : (!(t1.toList == [84])) = false) {n : Nat} (hn : valI (bs (takeT s1 b1 2)) = (n : Int)) : dec1 s t1 s1 b1 = dec2 s n (restT s1 b1 2) (badT s1 b1 2) := by unfold dec1; rw [h, hn]; rfl
theorem dec2_bad {s s2 : ByteArray} {n : Nat} {b2 : Bool} (h : b2 = true) : dec2 s n s2 b2 = (txn0, 0, 2) := by unfold dec2; rw [h]; rfl
theorem dec2_big {s s2 : ByteArray} {n : Nat} {b2 : Bool} (h : 1024 < (n : Int)) : dec2 s n s2 b2 = (txn0, 0, 2) := by unfold dec2; rw [decide_eq_true h, Bool.or_true]; rfl
theorem dec2_ok {s s2 : ByteArray} {n : Nat} {b2 : Bool} (h : ¬ b2 = true) (h' : (n : Int) ≤ 1024) : dec2 s n s2 b2 = dec3 s n (takeT s2 b2 n) (restT s2 b2 n) (badT s2 b2 n) := by
  unfold dec2; rw [Bool.eq_false_iff.2 h, decide_eq_false (by omega)]; rfl
theorem dec4_bad {s B : ByteArray} {n : Nat} {sum : Int} {b4 : Bool} (h : b4 = true) : dec4 s n B sum b4 = (txn0, 0, 2) := by unfold dec4; rw [h]; rfl
theorem dec4_sum {s B : ByteArray} {n : Nat} {sum : Int} {b4 : Bool} (h : b4 = false) (h' : (((sumN (bs (s.extract 0 (3 + n))) : Nat) : Int) != sum) = true) : dec4 s n B sum b4 = (txn0, 0, 5) := by unfold dec4; rw [h, h']; rfl
theorem dec4_ok {s B : ByteArray} {n : Nat} {sum : Int} {b4 : Bool} (h : b4 = false) (h' : (((sumN (bs (s.extract 0 (3 + n))) : Nat) : Int) != sum) = false) : dec4 s n B sum b4 = dB1 n B false := by unfold dec4; rw [h, h']; rfl
theorem dB10_bad {n z o ss v ow : Int} {p d s : ByteArray} {b : Bool} (h : b = true) : dB10 n z o ss v ow p d s b = (txn0, 0, 2) := by unfold dB10; rw [h]; rfl
theorem dB10_more {n z o ss v ow : Int} {p d s : ByteArray} {b : Bool} (h : (!s.toList.isEmpty) = true) : dB10 n z o ss v ow p d s b = (txn0, 0, 2) := by unfold dB10; rw [h, Bool.or_true]; rfl
theorem dB10_not {n z o ss v ow : Int} {p d s : ByteArray} {b : Bool} (h : ¬ b = true) (h' : (!s.toList.isEmpty) = false) (hg : (goodT ⟨z, o, ss, p, d, v, ow⟩ != 0) = true) : dB10 n z o ss v ow p d s b = (txn0, 0, goodT ⟨z, o, ss, p, d, v, ow⟩) := by unfold dB10; rw [Bool.eq_false_iff.2 h, h', hg]; rfl
theorem dB10_ok {n z o ss v ow : Int} {p d s : ByteArray} {b : Bool} (h : ¬ b = true) (h' : (!s.toList.isEmpty) = false) (hg : (goodT ⟨z, o, ss, p, d, v, ow⟩ != 0) = false) : dB10 n z o ss v ow p d s b = (⟨z, o, ss, p, d, v, ow⟩, n + 7, 0) := by unfold dB10; rw [Bool.eq_false_iff.2 h, h', hg]; rfl
def valN (l : List UInt8) : Nat := l.foldl (fun v c => v * 256 + c.toNat) 0
theorem valN_snoc (l : List UInt8) (c : UInt8) : valN (l ++ [c]) = valN l * 256 + c.toNat := by unfold valN; rw [List.foldl_append]; rfl
theorem list_snoc_rec {P : List UInt8 → Prop} (h0 : P []) (h1 : ∀ l c, P l → P (l ++ [c])) (l : List UInt8) : P l := by
  rw [← List.reverse_reverse l]
  induction l.reverse with
  | nil => exact h0
  | cons c r ih => rw [List.reverse_cons]; exact h1 _ _ ih
theorem valN_lt (l : List UInt8) : valN l < 256 ^ l.length := by
  refine list_snoc_rec (P := fun l => valN l < 256 ^ l.length) ?_ ?_ l
  · exact Nat.one_pos
  · intro l c h
    have := c.toNat_lt
    rw [valN_snoc, List.length_append, List.length_singleton, Nat.pow_succ]
    omega
theorem valI_nat (l : List UInt8) (h : l.length ≤ 7) : valI l = (valN l : Int) := by
  revert h
  refine list_snoc_rec (P := fun l => l.length ≤ 7 → valI l = (valN l : Int)) ?_ ?_ l
  · intro _; rfl
  · intro l c ih h
    rw [List.length_append, List.length_singleton] at h
    have hl : valN (l ++ [c]) < 256 ^ 7 := Nat.lt_of_lt_of_le (valN_lt _) (Nat.pow_le_pow_right (by decide) (by rw [List.length_append, List.length_singleton]; exact h))
    rw [valI_snoc, ih (by omega), valN_snoc]
    rw [valN_snoc] at hl
    unfold wrap64
    omega
theorem takeT_len (s : ByteArray) (b : Bool) (n : Nat) : (bs (takeT s b n)).length ≤ n := by
  unfold takeT
  split
  · exact Nat.zero_le _
  · rw [length_bs, ByteArray.size_extract]; omega
theorem valT (s : ByteArray) (b : Bool) (n : Nat) (hn : n ≤ 7) : ∃ k : Nat, valI (bs (takeT s b n)) = (k : Int) ∧ k < 256 ^ n :=
  ⟨valN _, valI_nat _ (Nat.le_trans (takeT_len s b n) hn), Nat.lt_of_lt_of_le (valN_lt _) (Nat.pow_le_pow_right (by decide) (takeT_len s b n))⟩
theorem restT_size (s : ByteArray) (b : Bool) (n : Nat) : (restT s b n).size ≤ s.size := by
  unfold restT
  split
  · exact Nat.le_refl _
  · rw [ByteArray.size_extract]; omega
theorem bs_extractTD (s : ByteArray) (i j : Nat) : bs (s.extract i j) = ((bs s).take j).drop i := by
  unfold bs
  simp [ByteArray.data_extract, List.drop_take]
theorem tk_ok {s : ByteArray} {b : Bool} {n : Nat} (h : badT s b n = false) : b = false ∧ bs (takeT s b n) = (bs s).take n ∧ bs (restT s b n) = (bs s).drop n ∧ n ≤ s.size := by
  have hb := h
  unfold badT at h
  rw [Bool.or_eq_false_iff] at h
  obtain ⟨h1, h2⟩ := h
  have h3 : n ≤ s.size := by have := of_decide_eq_false h2; omega
  refine ⟨h1, ?_, ?_, h3⟩
  · unfold takeT
    rw [hb]
    simp only [Bool.false_eq_true, if_false]
    rw [bs_extractTD, List.drop_zero]
  · unfold restT
    rw [hb]
    simp only [Bool.false_eq_true, if_false]
    rw [bs_extractTD, List.take_of_length_le (by rw [length_bs]; exact Nat.le_refl _)]
end Go.Proofs.YtfoglgeiipafeaaDoor

/- snap.Read as a function of bytes. -/
namespace Go.Proofs.YtfoglgeiipafeaaDoor
open Go.RowKit
def sessS : Nat → ByteArray → Bool → List Int
  | 0, _, _ => []
  | k + 1, s, b => bif b then [] else valI (bs (takeT s b 4)) :: sessS k (restT s b 4) (badT s b 4)
def sessR : Nat → ByteArray → Bool → ByteArray × Bool
  | 0, s, b => (s, b)
  | k + 1, s, b => bif b then (s, b) else sessR k (restT s b 4) (badT s b 4)
def numsS : Nat → ByteArray → Bool → List Int
  | 0, _, _ => []
  | k + 1, s, b => valI (bs (takeT s b 8)) :: numsS k (restT s b 8) (badT s b 8)
def numsR : Nat → ByteArray → Bool → ByteArray × Bool
  | 0, s, b => (s, b)
  | k + 1, s, b => numsR k (restT s b 8) (badT s b 8)
def txtS (m : Nat) (s : ByteArray) (b : Bool) : ByteArray := takeT (restT s b m) (badT s b m) (valI (bs (takeT s b m))).toNat
def txtR (m : Nat) (s : ByteArray) (b : Bool) : ByteArray × Bool := (restT (restT s b m) (badT s b m) (valI (bs (takeT s b m))).toNat, badT (restT s b m) (badT s b m) (valI (bs (takeT s b m))).toNat)
def headR (s : ByteArray) (b : Bool) : ByteArray × Bool := txtR 2 (txtR 1 s b).1 (txtR 1 s b).2
def node7 (p d : ByteArray) (l : List Int) : Node := ⟨p, d, l.getD 0 0, l.getD 1 0, l.getD 2 0, l.getD 3 0, l.getD 4 0, l.getD 5 0, l.getD 6 0⟩
def nodeS (s : ByteArray) (b : Bool) : Node := node7 (txtS 1 s b) (txtS 2 (txtR 1 s b).1 (txtR 1 s b).2) (numsS 7 (headR s b).1 (headR s b).2)
def nodeR (s : ByteArray) (b : Bool) : ByteArray × Bool := numsR 7 (headR s b).1 (headR s b).2
def nodesS : Nat → ByteArray → Bool → List Node
  | 0, _, _ => []
  | k + 1, s, b => bif b then [] else nodeS s b :: nodesS k (nodeR s b).1 (nodeR s b).2
def nodesR : Nat → ByteArray → Bool → ByteArray × Bool
  | 0, s, b => (s, b)
  | k + 1, s, b => bif b then (s, b) else nodesR k (nodeR s b).1 (nodeR s b).2
def tr0 : Tr := ⟨0, [], []⟩
/-- what is answered behind the nodes -/
def read5 (z : Int) (ss : List Int) (ns : List Node) (e : ByteArray × Bool) : Tr × Int :=
  bif e.2 || !e.1.toList.isEmpty then (tr0, 2) else bif !goodTree ⟨z, ns, ss⟩ then (tr0, 3) else (⟨z, ns, ss⟩, 0)
def read4 (z : Int) (ss : List Int) (n : Nat) (s : ByteArray) (b : Bool) : Tr × Int := read5 z ss (nodesS n s b) (nodesR n s b)
def read3 (z : Int) (ss : List Int) (s : ByteArray) (b : Bool) : Tr × Int := read4 z ss (valI (bs (takeT s b 4))).toNat (restT s b 4) (badT s b 4)
def read2 (z : Int) (n : Nat) (s : ByteArray) (b : Bool) : Tr × Int := read3 z (sessS n s b) (sessR n s b).1 (sessR n s b).2
def read1 (z : Int) (s : ByteArray) (b : Bool) : Tr × Int := read2 z (valI (bs (takeT s b 4))).toNat (restT s b 4) (badT s b 4)
def read0 (s : ByteArray) : Tr × Int := read1 (valI (bs (takeT s false 8))) (restT s false 8) (badT s false 8)
/-- what Read answers -/
def readS (s : ByteArray) : Tr × Int :=
  bif decide (s.size < 5) || (bs s).head? != some 83 then (tr0, 2)
  else bif ((sumN (bs (s.extract 0 (s.size - 4))) : Nat) : Int) != valI (bs (takeT (s.extract (s.size - 4) s.size) false 4)) then (tr0, 5)
  else read0 ((s.extract 0 (s.size - 4)).extract 1 (s.size - 4))
end Go.Proofs.YtfoglgeiipafeaaDoor
