/- Lemmas for the statement: Order, PathA, Disk, Disk2, Disk3, Disk4, Disk5, Disk6, DiskLaw, Files. -/
import Derived.Lib.ConvBytes
import Derived.Laws.IdiomStrings
import Derived.Test.YtkoemhdchoicaaaDoorPt1
import Derived.Test.YtkoemhdchoicaaaDoorPt2
/- The order of texts; a sorted list of entries, searched and kept: plain laws. -/
namespace Go.Proofs.YtkoemhdchoicaaaDoor
open Go.RowKit Go.Lib
theorem cb_zero : ∀ (a b : List UInt8), compareBytes a b = 0 → a = b
  | [], [], _ => rfl
  | [], _ :: _, h => by simp [compareBytes] at h
  | _ :: _, [], h => by simp [compareBytes] at h
  | a :: r, b :: q, h => by
    unfold compareBytes at h
    split at h
    · simp at h
    · split at h
      · simp at h
      · have : a = b := by
          rename_i h1 h2
          exact UInt8.toNat_inj.1 (by have := UInt8.not_lt.1 h1; have := UInt8.not_lt.1 h2; simp only [UInt8.le_iff_toNat_le] at *; omega)
        rw [this, cb_zero r q h]
theorem cb_self : ∀ (a : List UInt8), compareBytes a a = 0
  | [] => rfl
  | a :: r => by unfold compareBytes; rw [if_neg (by simp), if_neg (by simp)]; exact cb_self r
theorem cb_swap : ∀ (a b : List UInt8), compareBytes a b < 0 → 0 < compareBytes b a
  | [], [], h => by simp [compareBytes] at h
  | [], _ :: _, _ => by simp [compareBytes]
  | _ :: _, [], h => by simp [compareBytes] at h
  | a :: r, b :: q, h => by
    unfold compareBytes at h ⊢
    by_cases h1 : a < b
    · rw [if_neg (by simp only [UInt8.lt_iff_toNat_lt] at *; omega), if_pos h1]; decide
    · by_cases h2 : b < a
      · rw [if_neg h1, if_pos h2] at h; simp at h
      · rw [if_neg h1, if_neg h2] at h
        rw [if_neg h2, if_neg h1]
        exact cb_swap r q h
theorem cb_swap' : ∀ (a b : List UInt8), 0 < compareBytes a b → compareBytes b a < 0
  | [], [], h => by simp [compareBytes] at h
  | _ :: _, [], _ => by simp [compareBytes]
  | [], _ :: _, h => by simp [compareBytes] at h
  | a :: r, b :: q, h => by
    unfold compareBytes at h ⊢
    by_cases h2 : b < a
    · rw [if_pos h2]; decide
    · by_cases h1 : a < b
      · rw [if_pos h1] at h; simp at h
      · rw [if_neg h1, if_neg h2] at h
        rw [if_neg h2, if_neg h1]
        exact cb_swap' r q h
theorem cb_trans : ∀ (a b c : List UInt8), compareBytes a b < 0 → compareBytes b c < 0 → compareBytes a c < 0
  | [], [], _, h, _ => by simp [compareBytes] at h
  | [], _ :: _, [], _, h => by simp [compareBytes] at h
  | [], _ :: _, _ :: _, _, _ => by simp [compareBytes]
  | _ :: _, [], _, h, _ => by simp [compareBytes] at h
  | _ :: _, _ :: _, [], _, h => by simp [compareBytes] at h
  | a :: r, b :: q, c :: t, h, k => by
    unfold compareBytes at h k ⊢
    by_cases h1 : a < b
    · by_cases k1 : b < c
      · rw [if_pos (by simp only [UInt8.lt_iff_toNat_lt] at *; omega)]; decide
      · by_cases k2 : c < b
        · rw [if_neg k1, if_pos k2] at k; simp at k
        · rw [if_pos (by simp only [UInt8.lt_iff_toNat_lt] at *; omega)]; decide
    · by_cases h2 : b < a
      · rw [if_neg h1, if_pos h2] at h; simp at h
      · rw [if_neg h1, if_neg h2] at h
        by_cases k1 : b < c
        · rw [if_pos (by simp only [UInt8.lt_iff_toNat_lt] at *; omega)]; decide
        · by_cases k2 : c < b
          · rw [if_neg k1, if_pos k2] at k; simp at k
          · rw [if_neg k1, if_neg k2] at k
            rw [if_neg (by simp only [UInt8.lt_iff_toNat_lt] at *; omega), if_neg (by simp only [UInt8.lt_iff_toNat_lt] at *; omega)]
            exact cb_trans r q t h k
theorem cmpB_self (a : ByteArray) : cmpB a a = 0 := cb_self _
theorem cmpB_zero {a b : ByteArray} (h : cmpB a b = 0) : a = b := by
  have := cb_zero _ _ h
  exact ByteArray.ext (Array.ext' this)
/-- sorted strictly by path -/
def SortedE (l : List Entry) : Prop := ∀ (i j : Nat) (x y : Entry), i < j → l[i]? = some x → l[j]? = some y → cmpB x.path y.path < 0
theorem border (f : Nat → Bool) : ∀ n, (∀ i j, i < j → j < n → f j = true → f i = true) → ∃ m, m ≤ n ∧ (∀ k, k < m → f k = true) ∧ (∀ k, m ≤ k → k < n → f k = false)
  | 0, _ => ⟨0, Nat.le_refl _, fun k hk => by omega, fun k _ hk => by omega⟩
  | n + 1, h => by
    obtain ⟨m, hm, h1, h2⟩ := border f n (fun i j hij hj => h i j hij (by omega))
    have split : ∀ k, k < n + 1 → k < n ∨ k = n := fun k hk => by omega
    cases hf : f n with
    | true =>
      refine ⟨n + 1, Nat.le_refl _, fun k hk => ?_, fun k hk hk2 => by omega⟩
      rcases split k hk with hlt | rfl
      · exact h k n hlt (by omega) hf
      · exact hf
    | false =>
      refine ⟨m, by omega, h1, fun k hk hk2 => ?_⟩
      rcases split k hk2 with hlt | rfl
      · exact h2 k hk hlt
      · exact hf
/-- the place of p in a sorted list -/
theorem pos_of {l : List Entry} (hs : SortedE l) (p : ByteArray) (k : Nat) (x : Entry) (hx : l[k]? = some x) : k < posK (l.map Entry.path) p ↔ cmpB x.path p < 0 := by
  have hk : k < l.length := (List.getElem?_eq_some_iff.1 hx).1
  have hlt : ∀ (k : Nat) (x : Entry), l[k]? = some x → ltK (l.map Entry.path) p k = decide (cmpB x.path p < 0) := fun k x h => ltK_of (g := Entry.path) h p
  obtain ⟨m, hm, h1, h2⟩ := border (ltK (l.map Entry.path) p) l.length (by
    intro i j hij hj h
    have hi := List.getElem?_eq_getElem (l := l) (i := i) (by omega)
    have hj2 := List.getElem?_eq_getElem (l := l) (i := j) hj
    rw [hlt j _ hj2] at h
    rw [hlt i _ hi]
    simp at h ⊢
    exact cb_trans _ _ _ (hs i j _ _ hij hi hj2) h)
  have hp : posK (l.map Entry.path) p = m := by
    unfold posK
    rw [List.length_map]
    exact bsr_sorted _ m l.length 0 l.length (by omega) (Nat.zero_le _) hm h1 h2
  rw [hp]
  constructor
  · intro h
    have := h1 k h
    rw [hlt k x hx] at this
    simpa using this
  · intro h
    rcases Nat.lt_or_ge k m with hlt2 | hge
    · exact hlt2
    · have := h2 k hge hk
      rw [hlt k x hx] at this
      simp at this
      omega
theorem at_of {l : List Entry} (hs : SortedE l) {k : Nat} {x : Entry} (hx : l[k]? = some x) : posK (l.map Entry.path) x.path = k ∧ isK (l.map Entry.path) x.path = true := by
  have h1 : ¬ k < posK (l.map Entry.path) x.path := by rw [pos_of hs x.path k x hx, cmpB_self]; omega
  have hk : k < l.length := (List.getElem?_eq_some_iff.1 hx).1
  have h2 : posK (l.map Entry.path) x.path = k := by
    rcases Nat.lt_or_ge (posK (l.map Entry.path) x.path) k with h | h
    · have hy := List.getElem?_eq_getElem (l := l) (i := posK (l.map Entry.path) x.path) (by omega)
      have h3 := hs _ _ _ _ h hy hx
      rw [← pos_of hs x.path _ _ hy] at h3
      omega
    · omega
  exact ⟨h2, by rw [isK_in h2 hx, cmpB_self]; rfl⟩
theorem none_of {l : List Entry} (p : ByteArray) (h : ∀ (k : Nat) (x : Entry), l[k]? = some x → x.path ≠ p) : isK (l.map Entry.path) p = false := by
  rcases Nat.lt_or_ge (posK (l.map Entry.path) p) l.length with hlt | hge
  · have hy := List.getElem?_eq_getElem (l := l) (i := posK (l.map Entry.path) p) hlt
    rw [isK_in rfl hy]
    have := h _ _ hy
    simp
    intro h0
    exact this (cmpB_zero h0)
  · exact isK_out rfl (by omega)
def ltE (x y : Entry) : Prop := cmpB x.path y.path < 0
theorem sorted_pw {l : List Entry} : SortedE l ↔ l.Pairwise ltE := by
  rw [List.pairwise_iff_getElem]
  constructor
  · intro h i j hi hj hij
    exact h i j _ _ hij (List.getElem?_eq_getElem hi) (List.getElem?_eq_getElem hj)
  · intro h i j x y hij hx hy
    obtain ⟨hi, rfl⟩ := List.getElem?_eq_some_iff.1 hx
    obtain ⟨hj, rfl⟩ := List.getElem?_eq_some_iff.1 hy
    exact h i j hi hj hij
theorem strip_path (x : Entry) : (stripE x).path = x.path := by unfold stripE; split <;> rfl
theorem before_of {l : List Entry} (hs : SortedE l) (p : ByteArray) : ∀ y ∈ l.take (posK (l.map Entry.path) p), cmpB y.path p < 0 := by
  intro y hy
  obtain ⟨k, hk⟩ := List.mem_iff_getElem?.1 hy
  rw [List.getElem?_take] at hk
  split at hk
  · exact (pos_of hs p k y hk).1 (by assumption)
  · cases hk
theorem behind_of {l : List Entry} (hs : SortedE l) (p : ByteArray) (h : isK (l.map Entry.path) p = false) : ∀ y ∈ l.drop (posK (l.map Entry.path) p), cmpB p y.path < 0 := by
  intro y hy
  obtain ⟨k, hk⟩ := List.mem_iff_getElem?.1 hy
  rw [List.getElem?_drop] at hk
  have h1 := mt (pos_of hs p _ y hk).2 (by omega)
  have h2 : cmpB y.path p ≠ 0 := by
    intro h0
    obtain rfl := cmpB_zero h0
    rw [(at_of hs hk).2] at h
    cases h
  exact cb_swap' _ _ (by unfold cmpB at h1 h2; omega)
theorem set_split {l : List Entry} {q : Nat} (hq : q < l.length) (x : Entry) : l.set q x = l.take q ++ x :: l.drop (q + 1) := by rw [List.set_eq_take_append_cons_drop, if_pos hq]
theorem is_at {l : List Entry} {p : ByteArray} (h : isK (l.map Entry.path) p = true) : ∃ hq : posK (l.map Entry.path) p < l.length, (l[posK (l.map Entry.path) p]'hq).path = p := by
  have hq := isK_lt h
  refine ⟨hq, ?_⟩
  rw [isK_in rfl (List.getElem?_eq_getElem hq)] at h
  exact cmpB_zero (by simpa using h)
theorem keepL_sorted {l : List Entry} (hs : SortedE l) (x : Entry) : SortedE (keepL l x) := by
  have hpw := sorted_pw.1 hs
  rw [sorted_pw]
  unfold keepL
  cases hk : isK (l.map Entry.path) x.path with
  | true =>
    obtain ⟨hq, he⟩ := is_at hk
    rw [if_pos rfl, set_split hq]
    have e : l = l.take (posK (l.map Entry.path) x.path) ++ l[posK (l.map Entry.path) x.path] :: l.drop (posK (l.map Entry.path) x.path + 1) := by rw [List.getElem_cons_drop, List.take_append_drop]
    generalize l[posK (l.map Entry.path) x.path] = y at e he
    generalize posK (l.map Entry.path) x.path = q at e
    generalize l.take q = a at e ⊢
    generalize l.drop (q + 1) = b at e ⊢
    rw [e] at hpw
    simp only [List.pairwise_append, List.pairwise_cons, List.mem_cons, forall_eq_or_imp] at hpw ⊢
    unfold ltE at hpw ⊢
    rw [strip_path, ← he]
    exact hpw
  | false =>
    rw [if_neg (by simp)]
    have e := List.take_append_drop (posK (l.map Entry.path) x.path) l
    have hb := before_of hs x.path
    have ha := behind_of hs x.path hk
    generalize posK (l.map Entry.path) x.path = q at e hb ha
    generalize l.take q = a at e hb ⊢
    generalize l.drop q = b at e ha ⊢
    rw [← e] at hpw
    simp only [List.pairwise_append, List.pairwise_cons, List.mem_cons, forall_eq_or_imp] at hpw ⊢
    unfold ltE at hpw ⊢
    rw [strip_path]
    exact ⟨hpw.1, ⟨ha, hpw.2.1⟩, fun y hy => ⟨hb y hy, hpw.2.2 y hy⟩⟩
theorem mem_keepL {l : List Entry} (hs : SortedE l) (x y : Entry) : y ∈ keepL l x ↔ y = stripE x ∨ (y ∈ l ∧ y.path ≠ x.path) := by
  unfold keepL
  cases hk : isK (l.map Entry.path) x.path with
  | true =>
    obtain ⟨hq, he⟩ := is_at hk
    rw [if_pos rfl, set_split hq]
    have hpw := sorted_pw.1 hs
    have e : l = l.take (posK (l.map Entry.path) x.path) ++ l[posK (l.map Entry.path) x.path] :: l.drop (posK (l.map Entry.path) x.path + 1) := by rw [List.getElem_cons_drop, List.take_append_drop]
    generalize l[posK (l.map Entry.path) x.path] = z at e he
    generalize posK (l.map Entry.path) x.path = q at e
    generalize l.take q = a at e ⊢
    generalize l.drop (q + 1) = b at e ⊢
    rw [e] at hpw
    simp only [List.pairwise_append, List.pairwise_cons, List.mem_cons, forall_eq_or_imp] at hpw
    unfold ltE at hpw
    rw [e]
    simp only [List.mem_append, List.mem_cons]
    constructor
    · rintro (h | h | h)
      · exact .inr ⟨.inl h, fun hp => by have := (hpw.2.2 y h).1; rw [hp, he, cmpB_self] at this; omega⟩
      · exact .inl h
      · exact .inr ⟨.inr (.inr h), fun hp => by have := hpw.2.1.1 y h; rw [hp, he, cmpB_self] at this; omega⟩
    · rintro (h | ⟨h | h | h, hp⟩)
      · exact .inr (.inl h)
      · exact .inl h
      · exact absurd (h ▸ he) hp
      · exact .inr (.inr h)
  | false =>
    rw [if_neg (by simp)]
    have hm : ∀ z, z ∈ l ↔ z ∈ l.take (posK (l.map Entry.path) x.path) ∨ z ∈ l.drop (posK (l.map Entry.path) x.path) := fun z => by rw [← List.mem_append, List.take_append_drop]
    have hn : y ∈ l → y.path ≠ x.path := by
      intro h hp
      obtain ⟨k, hk2⟩ := List.mem_iff_getElem?.1 h
      have := (at_of hs hk2).2
      rw [hp, hk] at this
      cases this
    simp only [List.mem_append, List.mem_cons]
    rw [hm]
    rw [hm] at hn
    constructor
    · rintro (h | h | h)
      · exact .inr ⟨.inl h, hn (.inl h)⟩
      · exact .inl h
      · exact .inr ⟨.inr h, hn (.inr h)⟩
    · rintro (h | ⟨h | h, _⟩)
      · exact .inr (.inl h)
      · exact .inl h
      · exact .inr (.inr h)
theorem look_of {l : List Entry} (hs : SortedE l) {y : Entry} (hy : y ∈ l) : isK (l.map Entry.path) y.path = true ∧ lookE l y.path = y := by
  obtain ⟨k, hk⟩ := List.mem_iff_getElem?.1 hy
  obtain ⟨h1, h2⟩ := at_of hs hk
  refine ⟨h2, ?_⟩
  unfold lookE
  rw [h2, if_pos rfl, h1, List.getD_eq_getElem?_getD, hk]
  rfl
theorem look_none {l : List Entry} {p : ByteArray} (h : ∀ y ∈ l, y.path ≠ p) : isK (l.map Entry.path) p = false ∧ lookE l p = noEntry := by
  have h1 := none_of (l := l) p (fun k x hx => h x (List.mem_iff_getElem?.2 ⟨k, hx⟩))
  exact ⟨h1, by unfold lookE; rw [h1]; rfl⟩
theorem look_kept {l : List Entry} (hs : SortedE l) (x : Entry) : isK ((keepL l x).map Entry.path) x.path = true ∧ lookE (keepL l x) x.path = stripE x := by
  have := look_of (keepL_sorted hs x) ((mem_keepL hs x (stripE x)).2 (.inl rfl))
  rw [strip_path] at this
  exact this
theorem look_other {l : List Entry} (hs : SortedE l) (x : Entry) {p : ByteArray} (hp : p ≠ x.path) : isK ((keepL l x).map Entry.path) p = isK (l.map Entry.path) p ∧ lookE (keepL l x) p = lookE l p := by
  by_cases h : ∃ y, y ∈ l ∧ y.path = p
  · obtain ⟨y, hy, rfl⟩ := h
    have h1 := look_of hs hy
    have h2 := look_of (keepL_sorted hs x) ((mem_keepL hs x y).2 (.inr ⟨hy, hp⟩))
    exact ⟨h2.1.trans h1.1.symm, h2.2.trans h1.2.symm⟩
  · have h1 := look_none (l := l) (p := p) (fun y hy he => h ⟨y, hy, he⟩)
    have h2 := look_none (l := keepL l x) (p := p) (fun y hy he => by
      rcases (mem_keepL hs x y).1 hy with rfl | ⟨h3, _⟩
      · rw [strip_path] at he; exact hp he.symm
      · exact h ⟨y, h3, he⟩)
    exact ⟨h2.1.trans h1.1.symm, h2.2.trans h1.2.symm⟩
theorem cacheK_sorted (l : List Entry) : ∀ k, SortedE (cacheK l k)
  | 0 => by intro i j x y _ h; simp [cacheK] at h
  | k + 1 => by
    cases h : l[k]? with
    | none =>
      have : cacheK l (k + 1) = cacheK l k := by unfold cacheK; rw [List.take_add_one, h]; simp
      rw [this]; exact cacheK_sorted l k
    | some x => rw [cacheK_succ h]; exact keepL_sorted (cacheK_sorted l k) x
/-- the model's order of texts is that of strings.Compare -/
theorem less_of_cb : ∀ (a b : List UInt8), Op.bytesLess a b = decide (compareBytes a b < 0)
  | [], [] => rfl
  | _ :: _, [] => by simp [Op.bytesLess, compareBytes]
  | [], _ :: _ => by simp [Op.bytesLess, compareBytes]
  | a :: r, b :: q => by
    unfold Op.bytesLess compareBytes
    by_cases h1 : a < b
    · simp [h1]
    · by_cases h2 : b < a
      · have h3 : a ≠ b := by intro e; subst e; simp at h2
        simp [h1, h2, h3]
      · have h3 : a = b := UInt8.toNat_inj.1 (by simp only [UInt8.lt_iff_toNat_lt] at *; omega)
        subst h3
        simp [less_of_cb r q]
theorem less_of_cmp {a b : ByteArray} (h : cmpB a b < 0) : Op.bytesLess a.toList b.toList = true := by
  rw [ByteArray.toList_eq, ByteArray.toList_eq, less_of_cb]
  simpa [cmpB] using h
end Go.Proofs.YtkoemhdchoicaaaDoor

/- Contracts of package path that reach no library: Named, Serial. -/
namespace Go.Proofs.YtkoemhdchoicaaaDoor
open Go.RowKit

theorem ret_bool' {a b : Bool} (h : a = b) : Ending.returned (.bool a) = Ending.returned (.bool b) := by rw [h]
/-- a letter, a digit, '-' or '_' -/
def okc (c : UInt8) : Bool := decide ((97 ≤ c.toNat ∧ c.toNat ≤ 122) ∨ (48 ≤ c.toNat ∧ c.toNat ≤ 57) ∨ c.toNat = 45 ∨ c.toNat = 95)
/-- may these bytes be one step of a path? -/
def named (l : List UInt8) : Bool := l.all okc && decide (0 < l.length) && decide (l.length ≤ 40)
def bs (s : ByteArray) : List UInt8 := s.data.toList
@[simp] theorem length_bs (s : ByteArray) : (bs s).length = s.size := by
  show s.data.toList.length = s.data.size
  simp
theorem bs_get (s : ByteArray) (k : Nat) (h : k < s.size) : (bs s)[k]'(by simpa using h) = s[k] := rfl

theorem all_take_succ (s : ByteArray) (k : Nat) (h : k < s.size) : ((bs s).take (k + 1)).all okc = (((bs s).take k).all okc && okc s[k]) := by
  rw [List.take_succ_eq_append_getElem (by simpa using h), List.all_append, bs_get s k h]
  simp
theorem not_named_of {s : ByteArray} {k : Nat} (h : k < s.size) (hk : okc s[k] = false) : named (bs s) = false := by
  have : (bs s).all okc = false := by
    rw [List.all_eq_false]
    exact ⟨(bs s)[k]'(by simpa using h), List.getElem_mem _, by rw [bs_get s k h, hk]; simp⟩
  simp [named, this]
theorem named_round {k : Nat} {s : ByteArray} (h : k < s.size) (hall : ((bs s).take k).all okc = true) (hk : okc s[k] = true) : ((bs s).take (k + 1)).all okc = true := by
  rw [all_take_succ s k h, hall, hk]; rfl
theorem named_end {k : Nat} {s : ByteArray} (h : ¬ k < s.size) (hk : k ≤ s.size) (hall : ((bs s).take k).all okc = true) : (!s.toList.isEmpty && decide ((s.size : Int) ≤ 40)) = named (bs s) := by
  obtain rfl : k = s.size := by omega
  rw [List.take_of_length_le (by simp)] at hall
  have h1 : (!s.toList.isEmpty) = decide (0 < (bs s).length) := by
    rw [ByteArray.toList_eq]
    show (!(bs s).isEmpty) = _
    cases bs s <;> simp
  have h2 : decide ((s.size : Int) ≤ 40) = decide ((bs s).length ≤ 40) := by rw [length_bs]; simp; omega
  rw [named, hall, h1, h2]
  simp
theorem named_any (s : ByteArray) (w : World) (hs : s.size ≤ 9223372036854775807) :
    Calls Tryd.prog 42 #[.string s] w fun e w' => e = .returned (.bool (named (bs s))) ∧ w = w' := by
  go_enter Tryd.func42, Tryd.ntmps42
  go_wp2
  go_loop [3] (fun i => ∃ k : Nat, k ≤ s.size ∧ i = .int .i64 k ∧ Hid (((bs s).take k).all okc = true)) (fun i => s.size - (intOf i).toNat)
  case atStart => exact ⟨0, Nat.zero_le _, rfl, rfl⟩
  case round =>
    obtain ⟨k, hk, rfl, hall⟩ := hrel
    by_cases hlt : k < s.size
    · by_cases hok : okc s[k] = true
      · have hok' : (97 ≤ s[k].toNat ∧ s[k].toNat ≤ 122) ∨ (48 ≤ s[k].toNat ∧ s[k].toNat ≤ 57) ∨ s[k].toNat = 45 ∨ s[k].toNat = 95 := of_decide_eq_true hok
        have H := Lib.hid (named_round hlt hall.out hok)
        clear hok hall
        rcases hok' with ⟨h1, h2⟩ | ⟨h1, h2⟩ | h1 | h1
        · have g1 : (97 : Int) ≤ (s[k].toNat : Int) := by omega
          have g2 : (s[k].toNat : Int) ≤ 122 := by omega
          clear h1 h2
          go_wp2
          go_round
          case rel => exact ⟨k + 1, by omega, by go_num, H.out⟩
          case measure => simp [intOf]; omega
        · have g0 : (s[k].toNat : Int) < 97 := by omega
          have g1 : (48 : Int) ≤ (s[k].toNat : Int) := by omega
          have g2 : (s[k].toNat : Int) ≤ 57 := by omega
          clear h1 h2
          go_wp2
          go_round
          case rel => exact ⟨k + 1, by omega, by go_num, H.out⟩
          case measure => simp [intOf]; omega
        · have g0 : (s[k].toNat : Int) < 48 := by omega
          have g1 : ((s[k].toNat : Int) != 45) = false := by simp; omega
          clear h1
          go_wp2
          go_round
          case rel => exact ⟨k + 1, by omega, by go_num, H.out⟩
          case measure => simp [intOf]; omega
        · have g0 : (s[k].toNat : Int) < 97 := by omega
          have g3 : (57 : Int) < (s[k].toNat : Int) := by omega
          have g1 : ((s[k].toNat : Int) != 45) = true := by simp; omega
          have g2 : ((s[k].toNat : Int) != 95) = false := by simp; omega
          clear h1
          go_wp2
          go_round
          case rel => exact ⟨k + 1, by omega, by go_num, H.out⟩
          case measure => simp [intOf]; omega
      · have hok' : ¬ ((97 ≤ s[k].toNat ∧ s[k].toNat ≤ 122) ∨ (48 ≤ s[k].toNat ∧ s[k].toNat ≤ 57) ∨ s[k].toNat = 45 ∨ s[k].toNat = 95) := fun h => hok (decide_eq_true h)
        have H := Lib.hid (not_named_of hlt (by simpa using hok))
        clear hok hall
        have g1 : ((s[k].toNat : Int) != 45) = true := by simp; omega
        have g2 : ((s[k].toNat : Int) != 95) = true := by simp; omega
        rcases (by omega : s[k].toNat < 48 ∨ (57 < s[k].toNat ∧ s[k].toNat < 97) ∨ 122 < s[k].toNat) with h1 | ⟨h1, h2⟩ | h1
        · have g3 : (s[k].toNat : Int) < 48 := by omega
          clear hok' h1
          go_wp2
          go_ret
          exact ⟨ret_bool' H.out.symm, rfl⟩
        · have g3 : (57 : Int) < (s[k].toNat : Int) := by omega
          have g4 : (s[k].toNat : Int) < 97 := by omega
          clear hok' h1 h2
          go_wp2
          go_ret
          exact ⟨ret_bool' H.out.symm, rfl⟩
        · have g3 : (122 : Int) < (s[k].toNat : Int) := by omega
          clear hok' h1
          go_wp2
          go_ret
          exact ⟨ret_bool' H.out.symm, rfl⟩
    · have H := Lib.hid (named_end hlt hk hall.out)
      clear hall
      go_wp2
      all_goals
        go_ret
        refine ⟨ret_bool' (Eq.trans ?_ H.out), rfl⟩
        first | rfl | simp [*]
/-- ten digits of a number, the highest first -/
def digs : Nat → Nat → List UInt8
  | 0, _ => []
  | k + 1, n => digs k (n / 10) ++ [UInt8.ofNat (48 + n % 10)]
theorem length_digs (k n : Nat) : (digs k n).length = k := by
  induction k generalizing n with
  | zero => rfl
  | succ k ih => simp [digs, ih]
theorem digs_left (k : Nat) : ∀ n : Nat, digs (k + 1) n = UInt8.ofNat (48 + n / 10 ^ k % 10) :: digs k n := by
  induction k with
  | zero => intro n; simp [digs]
  | succ k ih =>
    intro n
    rw [digs, ih (n / 10)]
    rw [digs, List.cons_append, Nat.div_div_eq_div_mul, Nat.pow_succ, Nat.mul_comm 10]
theorem digs_zero (k : Nat) : digs k 0 = List.replicate k 48 := by
  induction k with
  | zero => rfl
  | succ k ih => rw [digs_left, ih]; simp [List.replicate_succ]
/-- where nothing is left of a number, noughts stand ahead of its digits -/
theorem digs_pad (k j n : Nat) (h : n / 10 ^ j = 0) : digs (j + k) n = List.replicate k 48 ++ digs j n := by
  induction k with
  | zero => simp
  | succ k ih =>
    rw [show j + (k + 1) = (j + k) + 1 from by omega, digs_left, ih, List.replicate_succ, List.cons_append]
    have : n / 10 ^ (j + k) = 0 := by rw [Nat.pow_add, ← Nat.div_div_eq_div_mul, h, Nat.zero_div]
    rw [this]
    rfl
/-- what stands behind the name when j digits are laid -/
def part (j n : Nat) : List UInt8 := List.replicate (10 - j) 48 ++ digs j n
theorem length_part (j n : Nat) (h : j ≤ 10) : (part j n).length = 10 := by simp [part, length_digs]; omega
theorem part_end (j n : Nat) (hj : j ≤ 10) (h : n / 10 ^ j = 0) : part j n = digs 10 n := by
  rw [part, ← digs_pad (10 - j) j n h, show j + (10 - j) = 10 from by omega]
theorem part_set (j n : Nat) (hj : j < 10) : (part j n).set (9 - j) (UInt8.ofNat (48 + n / 10 ^ j % 10)) = part (j + 1) n := by
  unfold part
  rw [digs_left, show 10 - j = (9 - j) + 1 from by omega, List.replicate_succ', List.append_assoc, List.set_append_right _ _ (by simp), show 10 - (j + 1) = 9 - j from by omega]
  simp
theorem lt_ten {n j : Nat} (hn : n ≤ 2147483647) (h : 0 < n / 10 ^ j) : j < 10 := by
  rcases Nat.lt_or_ge j 10 with h1 | h1
  · exact h1
  · have h2 : 10 ^ 10 ≤ 10 ^ j := Nat.pow_le_pow_right (by omega) h1
    have : n / 10 ^ j = 0 := Nat.div_eq_of_lt (by omega)
    omega
end Go.Proofs.YtkoemhdchoicaaaDoor

/- package disk: find, copied, Good. -/
namespace Go.Proofs.YtkoemhdchoicaaaDoor
open Go.RowKit Go.ChangeShapes Go.WideShapes Go.ChangeAt
theorem dkFind (v : Value) (l : List File) (p : ByteArray) (w : World) (h : Sl cFile 3 w v l) (hn : l.length ≤ 140737488355328) :
    Calls Tryd.prog 44 #[.agg #[v], .string p] w fun e w' => e = .returned (.tuple #[.int .i64 (posK (l.map File.name) p), .bool (isK (l.map File.name) p)]) ∧ Below w.heap.size w w' := by
  obtain ⟨A, c, rfl, h1, h2⟩ := h.form
  have H := Lib.hid h
  clear h
  go_enter Tryd.func44, Tryd.ntmps44
  go_wp2_with (go_at_call 57; refine (bsfFile _ _ _ _ (H.out.alloc _) hn).mono ?_; rintro e w1 ⟨rfl, hb⟩; obtain ⟨ext, d, rfl⟩ := Below.grown_eq _ hb)
  go_ret2
  exact ⟨rfl, (by repeat (first | exact Below.refl _ _ | assumption | refine Below.drew ?_ | refine Below.drewN' ?_ _ | refine below_grow0 _ _ ?_ | refine below_alloc0 _ ?_ | refine Below.alloc ?_ (by first | omega | (simp; done) | (simp; omega)) _ | refine Below.setCell ?_ (by first | omega | (simp; done) | (simp; omega)) _ | refine Below.grow _ _ _ ?_ (by first | omega | (simp; done) | (simp; omega))))⟩
/-- a disk of the call's own -/
def DkIs (l : List File) (w : World) (e : Ending) (w' : World) : Prop := ∃ A c, e = .returned (.agg #[.slice A l.length c]) ∧ Ow cFile 3 70 w' w.heap.size (.slice A l.length c) l ∧ Below w.heap.size w w'
set_option maxHeartbeats 400000 in
theorem dkCopied (v : Value) (l : List File) (w : World) (h : Sl cFile 3 w v l) (hn : l.length * 48 ≤ 140737488355328) (hm : l.length ≤ maxLen) :
    Calls Tryd.prog 29 #[.agg #[v]] w (DkIs l w) := by
  obtain ⟨A, c, rfl, h1, h2⟩ := h.form
  have H := Lib.hid h
  clear h
  go_enter Tryd.func29, Tryd.ntmps29
  go_wp2_with (go_at_call 43; refine (cloneFile _ _ _ ((H.out.alloc _).alloc _) hn hm).mono ?_; rintro e w1 ⟨A', c', rfl, hown, hb⟩; obtain ⟨ext, d, rfl⟩ := Below.grown_eq _ hb)
  refine bodyPost_ret (v := .agg #[.slice A' l.length c']) (by simp [results, Tryd.results29, go_sem]) rfl ⟨A', c', rfl, ?_, ?_⟩
  · exact (hown.regrow (Nat.le_refl _) (by simp)).mono (by simp; omega)
  · exact (by repeat (first | exact Below.refl _ _ | assumption | refine Below.drew ?_ | refine Below.drewN' ?_ _ | refine below_grow0 _ _ ?_ | refine below_alloc0 _ ?_ | refine Below.alloc ?_ (by first | omega | (simp; done) | (simp; omega)) _ | refine Below.setCell ?_ (by first | omega | (simp; done) | (simp; omega)) _ | refine Below.grow _ _ _ ?_ (by first | omega | (simp; done) | (simp; omega))))
theorem not_less_of_cmp {a b : ByteArray} (h : ¬ cmpB a b < 0) : Op.bytesLess a.toList b.toList = false := by
  rw [ByteArray.toList_eq, ByteArray.toList_eq, less_of_cb]
  exact decide_eq_false h
theorem retB {a b : Bool} (h : a = b) : Ending.returned (.bool a) = Ending.returned (.bool b) := by rw [h]
def okF (x : File) : Bool := named (bs x.name) && decide (x.safe.size + x.tail.size ≤ 1048576)
def stepF (l : List File) (i : Nat) : Bool := match l[i]? with
  | none => true
  | some x => okF x && (match i with | 0 => true | j + 1 => match l[j]? with | some y => decide (cmpB y.name x.name < 0) | none => true)
def goodD (l : List File) : Bool := decide (l.length ≤ 16) && (List.range l.length).all (stepF l)
theorem goodD_no {l : List File} {i : Nat} (h : stepF l i = false) : goodD l = false := by
  have hi : i < l.length := by
    apply Classical.byContradiction
    intro hn
    unfold stepF at h
    rw [List.getElem?_eq_none (by omega)] at h
    cases h
  unfold goodD
  rw [Bool.and_eq_false_iff]
  refine .inr ?_
  rw [List.all_eq_false]
  exact ⟨i, List.mem_range.2 hi, by simp [h]⟩
theorem goodD_yes {l : List File} (h : ∀ i, i < l.length → stepF l i = true) (h16 : l.length ≤ 16) : goodD l = true := by
  unfold goodD
  rw [Bool.and_eq_true, List.all_eq_true]
  exact ⟨decide_eq_true h16, fun i hi => h i (List.mem_range.1 hi)⟩
def File.sized (x : File) : Prop := x.name.size ≤ 9223372036854775807 ∧ x.safe.size ≤ 140737488355328 ∧ x.tail.size ≤ 140737488355328
set_option maxHeartbeats 2000000 in
theorem dkGood (v : Value) (l : List File) (w : World) (h : Sl cFile 3 w v l) (hz : ∀ x ∈ l, x.sized) :
    Calls Tryd.prog 28 #[.agg #[v]] w fun e w' => e = .returned (.bool (goodD l)) ∧ Below w.heap.size w w' := by
  obtain ⟨A, c, rfl, hc1, hc2⟩ := h.form
  have H := Lib.hid h
  have HZ := Lib.hid hz
  clear h hz
  by_cases h16 : l.length ≤ 16
  · have h16i : (decide ((16 : Int) < (l.length : Int))) = false := decide_eq_false (by omega)
    go_enter Tryd.func28, Tryd.ntmps28
    go_wp2_with fail
    go_loopw [12] (fun i wr => ∃ (k : Nat) (ext : Array Obj) (d : Nat), k ≤ l.length ∧ i = .int .i64 k ∧ wr = grow (w.alloc (.cells #[.slice A l.length c] 26)) ext d ∧ Hid (∀ j, j < k → stepF l j = true)) (fun i _ => l.length - (intOf i).toNat)
    case atStart => exact ⟨0, _, _, Nat.zero_le _, rfl, grown_of (by repeat (first | exact Below.refl _ _ | assumption | refine Below.drew ?_ | refine Below.drewN' ?_ _ | refine below_grow0 _ _ ?_ | refine below_alloc0 _ ?_ | refine Below.alloc ?_ (by first | omega | (simp; done) | (simp; omega)) _ | refine Below.setCell ?_ (by first | omega | (simp; done) | (simp; omega)) _ | refine Below.grow _ _ _ ?_ (by first | omega | (simp; done) | (simp; omega)))), Lib.hid (fun j hj => absurd hj (by omega))⟩
    case round =>
      obtain ⟨k, ext, d, hk, rfl, rfl, hok⟩ := hrel
      by_cases hlt : k < l.length
      · have hx : l[k]? = some (l[k]'hlt) := List.getElem?_eq_getElem _
        obtain ⟨b, off, rfl, hbw, x0, x1, x2⟩ := H.out.File_at hx
        have hzx := HZ.out _ (List.mem_of_getElem? hx)
        generalize l[k]'hlt = x at *
        have HX := Lib.hid hx
        clear hx
        obtain ⟨z0, z1, z2⟩ := hzx
        have HN := Lib.hid (fun (W : World) => named_any x.name W z0)
        generalize hnm : named (bs x.name) = nm at HN
        have HNM := Lib.hid hnm
        clear hnm
        go_wp2_with fail
        cases nm with
        | false =>
          go_quiet (first | (go_at_call 42; with_reducible refine Calls.quiet_of_same ((HN.out _).mono fun e w' h => ⟨h.1, h.2.symm⟩)))
          go_wp2_with fail
          go_ret
          exact ⟨retB (goodD_no (i := k) (by unfold stepF; rw [HX.out]; simp [okF, HNM.out])).symm, (by repeat (first | exact Below.refl _ _ | assumption | refine Below.drew ?_ | refine Below.drewN' ?_ _ | refine below_grow0 _ _ ?_ | refine below_alloc0 _ ?_ | refine Below.alloc ?_ (by first | omega | (simp; done) | (simp; omega)) _ | refine Below.setCell ?_ (by first | omega | (simp; done) | (simp; omega)) _ | refine Below.grow _ _ _ ?_ (by first | omega | (simp; done) | (simp; omega))))⟩
        | true =>
          by_cases hsz : x.safe.size + x.tail.size ≤ 1048576
          · have hszi : (decide ((1048576 : Int) < (x.safe.size : Int) + (x.tail.size : Int))) = false := decide_eq_false (by omega)
            have hokx : okF x = true := by simp [okF, HNM.out, hsz]
            have HOK := Lib.hid hokx
            clear hokx
            cases k with
            | zero =>
              go_quiet (first | (go_at_call 42; with_reducible refine Calls.quiet_of_same ((HN.out _).mono fun e w' h => ⟨h.1, h.2.symm⟩)))
              go_wp2_with fail
              go_roundw
              case rel => exact ⟨0 + 1, _, _, by omega, by go_num, grown_of (by repeat (first | exact Below.refl _ _ | assumption | refine Below.drew ?_ | refine Below.drewN' ?_ _ | refine below_grow0 _ _ ?_ | refine below_alloc0 _ ?_ | refine Below.alloc ?_ (by first | omega | (simp; done) | (simp; omega)) _ | refine Below.setCell ?_ (by first | omega | (simp; done) | (simp; omega)) _ | refine Below.grow _ _ _ ?_ (by first | omega | (simp; done) | (simp; omega)))), Lib.hid (fun i hi => by
                rcases Nat.lt_or_ge i (0) with h | h
                · exact hok.out i h
                · obtain rfl : i = 0 := by omega
                  unfold stepF; rw [HX.out]; simp [HOK.out])⟩
              case measure => simp [intOf]; omega
            | succ j =>
              have hy : l[j]? = some (l[j]'(by omega)) := List.getElem?_eq_getElem _
              obtain ⟨b2, off2, hA2, _, y0, y1, y2⟩ := H.out.File_at hy
              injection hA2 with hA2
              injection hA2 with e1 e2 _
              subst e1
              subst e2
              generalize l[j]'(by omega) = y at *
              have HY := Lib.hid hy
              clear hy
              have hcmp := less_of_cb (bs3 y.name) (bs3 x.name)
              by_cases hlt2 : cmpB y.name x.name < 0
              · have HLT := Lib.hid hlt2
                have hls := less_of_cmp hlt2
                clear hlt2 hcmp
                go_quiet (first | (go_at_call 42; with_reducible refine Calls.quiet_of_same ((HN.out _).mono fun e w' h => ⟨h.1, h.2.symm⟩)))
                go_wp2_with fail
                go_roundw
                case rel => exact ⟨j + 1 + 1, _, _, by omega, by go_num, grown_of (by repeat (first | exact Below.refl _ _ | assumption | refine Below.drew ?_ | refine Below.drewN' ?_ _ | refine below_grow0 _ _ ?_ | refine below_alloc0 _ ?_ | refine Below.alloc ?_ (by first | omega | (simp; done) | (simp; omega)) _ | refine Below.setCell ?_ (by first | omega | (simp; done) | (simp; omega)) _ | refine Below.grow _ _ _ ?_ (by first | omega | (simp; done) | (simp; omega)))), Lib.hid (fun i hi => by
                  rcases Nat.lt_or_ge i (j + 1) with h | h
                  · exact hok.out i h
                  · obtain rfl : i = j + 1 := by omega
                    unfold stepF; rw [HX.out]; simp [HOK.out, HY.out, HLT.out])⟩
                case measure => simp [intOf]; omega
              · have HLT := Lib.hid hlt2
                have hls : Op.bytesLess y.name.toList x.name.toList = false := not_less_of_cmp hlt2
                clear hlt2 hcmp
                go_quiet (first | (go_at_call 42; with_reducible refine Calls.quiet_of_same ((HN.out _).mono fun e w' h => ⟨h.1, h.2.symm⟩)))
                go_wp2_with fail
                go_ret
                exact ⟨retB (goodD_no (i := j + 1) (by unfold stepF; rw [HX.out]; simp [HOK.out, HY.out]; have := HLT.out; omega)).symm, (by repeat (first | exact Below.refl _ _ | assumption | refine Below.drew ?_ | refine Below.drewN' ?_ _ | refine below_grow0 _ _ ?_ | refine below_alloc0 _ ?_ | refine Below.alloc ?_ (by first | omega | (simp; done) | (simp; omega)) _ | refine Below.setCell ?_ (by first | omega | (simp; done) | (simp; omega)) _ | refine Below.grow _ _ _ ?_ (by first | omega | (simp; done) | (simp; omega))))⟩
          · have hszi : (decide ((1048576 : Int) < (x.safe.size : Int) + (x.tail.size : Int))) = true := decide_eq_true (by omega)
            have hokx : okF x = false := by simp [okF, HNM.out, hsz]
            have HOK := Lib.hid hokx
            clear hokx
            cases k with
            | zero =>
              go_quiet (first | (go_at_call 42; with_reducible refine Calls.quiet_of_same ((HN.out _).mono fun e w' h => ⟨h.1, h.2.symm⟩)))
              go_wp2_with fail
              go_ret
              exact ⟨retB (goodD_no (i := 0) (by unfold stepF; rw [HX.out]; simp [HOK.out])).symm, (by repeat (first | exact Below.refl _ _ | assumption | refine Below.drew ?_ | refine Below.drewN' ?_ _ | refine below_grow0 _ _ ?_ | refine below_alloc0 _ ?_ | refine Below.alloc ?_ (by first | omega | (simp; done) | (simp; omega)) _ | refine Below.setCell ?_ (by first | omega | (simp; done) | (simp; omega)) _ | refine Below.grow _ _ _ ?_ (by first | omega | (simp; done) | (simp; omega))))⟩
            | succ j =>
              have hy : l[j]? = some (l[j]'(by omega)) := List.getElem?_eq_getElem _
              obtain ⟨b2, off2, hA2, _, y0, y1, y2⟩ := H.out.File_at hy
              injection hA2 with hA2
              injection hA2 with e1 e2 _
              subst e1
              subst e2
              generalize l[j]'(by omega) = y at *
              clear hy
              by_cases hlt2 : cmpB y.name x.name < 0
              · have hls := less_of_cmp hlt2
                clear hlt2
                go_quiet (first | (go_at_call 42; with_reducible refine Calls.quiet_of_same ((HN.out _).mono fun e w' h => ⟨h.1, h.2.symm⟩)))
                go_wp2_with fail
                go_ret
                exact ⟨retB (goodD_no (i := j + 1) (by unfold stepF; rw [HX.out]; simp [HOK.out])).symm, (by repeat (first | exact Below.refl _ _ | assumption | refine Below.drew ?_ | refine Below.drewN' ?_ _ | refine below_grow0 _ _ ?_ | refine below_alloc0 _ ?_ | refine Below.alloc ?_ (by first | omega | (simp; done) | (simp; omega)) _ | refine Below.setCell ?_ (by first | omega | (simp; done) | (simp; omega)) _ | refine Below.grow _ _ _ ?_ (by first | omega | (simp; done) | (simp; omega))))⟩
              · have hls : Op.bytesLess y.name.toList x.name.toList = false := not_less_of_cmp hlt2
                clear hlt2
                go_quiet (first | (go_at_call 42; with_reducible refine Calls.quiet_of_same ((HN.out _).mono fun e w' h => ⟨h.1, h.2.symm⟩)))
                go_wp2_with fail
                go_ret
                exact ⟨retB (goodD_no (i := j + 1) (by unfold stepF; rw [HX.out]; simp [HOK.out])).symm, (by repeat (first | exact Below.refl _ _ | assumption | refine Below.drew ?_ | refine Below.drewN' ?_ _ | refine below_grow0 _ _ ?_ | refine below_alloc0 _ ?_ | refine Below.alloc ?_ (by first | omega | (simp; done) | (simp; omega)) _ | refine Below.setCell ?_ (by first | omega | (simp; done) | (simp; omega)) _ | refine Below.grow _ _ _ ?_ (by first | omega | (simp; done) | (simp; omega))))⟩
      · go_wp2_with fail
        go_ret
        exact ⟨retB (goodD_yes (fun i hi => hok.out i (by omega)) h16).symm, (by repeat (first | exact Below.refl _ _ | assumption | refine Below.drew ?_ | refine Below.drewN' ?_ _ | refine below_grow0 _ _ ?_ | refine below_alloc0 _ ?_ | refine Below.alloc ?_ (by first | omega | (simp; done) | (simp; omega)) _ | refine Below.setCell ?_ (by first | omega | (simp; done) | (simp; omega)) _ | refine Below.grow _ _ _ ?_ (by first | omega | (simp; done) | (simp; omega))))⟩
  · have hg : goodD l = false := by unfold goodD; rw [decide_eq_false h16]; rfl
    have h16i : (decide ((16 : Int) < (l.length : Int))) = true := decide_eq_true (by omega)
    rw [hg]
    go_enter Tryd.func28, Tryd.ntmps28
    go_wp2_with fail
    go_ret
    exact ⟨rfl, (by repeat (first | exact Below.refl _ _ | assumption | refine Below.drew ?_ | refine Below.drewN' ?_ _ | refine below_grow0 _ _ ?_ | refine below_alloc0 _ ?_ | refine Below.alloc ?_ (by first | omega | (simp; done) | (simp; omega)) _ | refine Below.setCell ?_ (by first | omega | (simp; done) | (simp; omega)) _ | refine Below.grow _ _ _ ?_ (by first | omega | (simp; done) | (simp; omega))))⟩
end Go.Proofs.YtkoemhdchoicaaaDoor

/- package disk: Read. -/
namespace Go.Proofs.YtkoemhdchoicaaaDoor
open Go.RowKit Go.ChangeShapes Go.WideShapes Go.ChangeAt
def fileAt (l : List File) (p : ByteArray) : File := l.getD (posK (l.map File.name) p) ⟨ByteArray.empty, ByteArray.empty, ByteArray.empty⟩
def readE (l : List File) (p : ByteArray) : Int := if goodD l then (if isK (l.map File.name) p then 0 else 7) else 3
def readS (l : List File) (p : ByteArray) : ByteArray := if goodD l && isK (l.map File.name) p then (fileAt l p).safe ++ (fileAt l p).tail else ⟨#[]⟩
theorem isK_in_file {l : List File} {p : ByteArray} (h : isK (l.map File.name) p = true) : posK (l.map File.name) p < l.length := by
  unfold isK at h
  simp at h
  exact h.1
theorem goodD_len {l : List File} (h : goodD l = true) : l.length ≤ 16 := by
  unfold goodD at h
  simp at h
  exact h.1
set_option maxHeartbeats 1000000 in
theorem dkRead (v : Value) (l : List File) (p : ByteArray) (w : World) (h : Sl cFile 3 w v l) (hz : ∀ x ∈ l, x.sized) :
    Calls Tryd.prog 30 #[.agg #[v], .string p] w fun e w' => e = .returned (.tuple #[.string (readS l p), .int .i64 (readE l p)]) ∧ Below w.heap.size w w' := by
  obtain ⟨A, c, rfl, hc1, hc2⟩ := h.form
  have H := Lib.hid h
  have HG := Lib.hid (fun (W : World) (hs : Sl cFile 3 W (.slice A l.length c) l) => dkGood _ l W hs hz)
  unfold readS readE
  cases hg : goodD l with
  | false =>
    rw [hg] at HG
    clear h hz hg
    simp only [Bool.false_and, Bool.false_eq_true, if_false]
    go_enter Tryd.func30, Tryd.ntmps30
    go_wp2_with (first | (go_at_call 28; refine (HG.out _ (H.out.alloc _)).mono ?_; rintro e w1 ⟨rfl, hb⟩; obtain ⟨ext, d, rfl⟩ := Below.grown_eq _ hb; clear hb))
    go_ret2
    exact ⟨rfl, (by repeat (first | exact Below.refl _ _ | assumption | refine Below.drew ?_ | refine Below.drewN' ?_ _ | refine below_grow0 _ _ ?_ | refine below_alloc0 _ ?_ | refine Below.alloc ?_ (by first | omega | (simp; done) | (simp; omega)) _ | refine Below.setCell ?_ (by first | omega | (simp; done) | (simp; omega)) _ | refine Below.grow _ _ _ ?_ (by first | omega | (simp; done) | (simp; omega))))⟩
  | true =>
    rw [hg] at HG
    have hl16 := goodD_len hg
    have hfind := fun (W : World) (v : Value) (hs : Sl cFile 3 W v l) => dkFind v l p W hs (by omega)
    clear hg
    simp only [Bool.true_and, if_true]
    cases hk : isK (l.map File.name) p with
    | false =>
      rw [hk] at hfind
      have HF := Lib.hid hfind
      generalize posK (l.map File.name) p = q at *
      clear h hz hk hfind
      simp only [Bool.false_eq_true, if_false]
      go_enter Tryd.func30, Tryd.ntmps30
      go_wp2_with (first | (go_at_call 28; refine (HG.out _ (H.out.alloc _)).mono ?_; rintro e w1 ⟨rfl, hb⟩; obtain ⟨ext, d, rfl⟩ := Below.grown_eq _ hb; clear hb) | (go_at_call 44; refine (HF.out _ _ (H.out.below (by repeat (first | exact Below.refl _ _ | assumption | refine Below.drew ?_ | refine Below.drewN' ?_ _ | refine below_grow0 _ _ ?_ | refine below_alloc0 _ ?_ | refine Below.alloc ?_ (by first | omega | (simp; done) | (simp; omega)) _ | refine Below.setCell ?_ (by first | omega | (simp; done) | (simp; omega)) _ | refine Below.grow _ _ _ ?_ (by first | omega | (simp; done) | (simp; omega)))))).mono ?_; rintro e w1 ⟨rfl, hb⟩; obtain ⟨ext2, d2, rfl⟩ := Below.grown_eq _ hb; clear hb))
      go_ret2
      exact ⟨rfl, (by repeat (first | exact Below.refl _ _ | assumption | refine Below.drew ?_ | refine Below.drewN' ?_ _ | refine below_grow0 _ _ ?_ | refine below_alloc0 _ ?_ | refine Below.alloc ?_ (by first | omega | (simp; done) | (simp; omega)) _ | refine Below.setCell ?_ (by first | omega | (simp; done) | (simp; omega)) _ | refine Below.grow _ _ _ ?_ (by first | omega | (simp; done) | (simp; omega))))⟩
    | true =>
      rw [hk] at hfind
      have HF := Lib.hid hfind
      have hq := isK_in_file hk
      have hx : l[posK (l.map File.name) p]? = some (fileAt l p) := by
        unfold fileAt
        rw [List.getD_eq_getElem?_getD, List.getElem?_eq_getElem hq]
        rfl
      obtain ⟨z0, z1, z2⟩ := hz _ (List.mem_of_getElem? hx)
      obtain ⟨b, off, rfl, hbw, x0, x1, x2⟩ := H.out.File_at hx
      generalize fileAt l p = x at *
      generalize posK (l.map File.name) p = q at *
      clear h hz hk hfind hx
      simp only [if_true]
      go_enter Tryd.func30, Tryd.ntmps30
      go_wp2_with (first | (go_at_call 28; refine (HG.out _ (H.out.alloc _)).mono ?_; rintro e w1 ⟨rfl, hb⟩; obtain ⟨ext, d, rfl⟩ := Below.grown_eq _ hb; clear hb) | (go_at_call 44; refine (HF.out _ _ (H.out.below (by repeat (first | exact Below.refl _ _ | assumption | refine Below.drew ?_ | refine Below.drewN' ?_ _ | refine below_grow0 _ _ ?_ | refine below_alloc0 _ ?_ | refine Below.alloc ?_ (by first | omega | (simp; done) | (simp; omega)) _ | refine Below.setCell ?_ (by first | omega | (simp; done) | (simp; omega)) _ | refine Below.grow _ _ _ ?_ (by first | omega | (simp; done) | (simp; omega)))))).mono ?_; rintro e w1 ⟨rfl, hb⟩; obtain ⟨ext2, d2, rfl⟩ := Below.grown_eq _ hb; clear hb))
      go_quiet (fail)
      go_wp2_with fail
      go_ret2
      exact ⟨rfl, (by repeat (first | exact Below.refl _ _ | assumption | refine Below.drew ?_ | refine Below.drewN' ?_ _ | refine below_grow0 _ _ ?_ | refine below_alloc0 _ ?_ | refine Below.alloc ?_ (by first | omega | (simp; done) | (simp; omega)) _ | refine Below.setCell ?_ (by first | omega | (simp; done) | (simp; omega)) _ | refine Below.grow _ _ _ ?_ (by first | omega | (simp; done) | (simp; omega))))⟩
/-- a disk and an error's number -/
def DkRes (l : List File) (c : Int) (w : World) (e : Ending) (w' : World) : Prop := ∃ A k, e = .returned (.tuple #[.agg #[.slice A l.length k], .int .i64 c]) ∧ Ow cFile 3 70 w' w.heap.size (.slice A l.length k) l ∧ Below w.heap.size w w'
def removeL (l : List File) (p : ByteArray) : List File := if goodD l && isK (l.map File.name) p then l.take (posK (l.map File.name) p) ++ l.drop (posK (l.map File.name) p + 1) else []
set_option maxHeartbeats 2000000 in
theorem dkRemove (v : Value) (l : List File) (p : ByteArray) (w : World) (h : Sl cFile 3 w v l) (hz : ∀ x ∈ l, x.sized) :
    Calls Tryd.prog 41 #[.agg #[v], .string p] w (DkRes (removeL l p) (readE l p) w) := by
  obtain ⟨A, c, rfl, hc1, hc2⟩ := h.form
  have H := Lib.hid h
  have HG := Lib.hid (fun (W : World) (hs : Sl cFile 3 W (.slice A l.length c) l) => dkGood _ l W hs hz)
  unfold removeL readE
  cases hg : goodD l with
  | false =>
    rw [hg] at HG
    clear h hz hg
    simp only [Bool.false_and, Bool.false_eq_true, if_false]
    go_enter Tryd.func41, Tryd.ntmps41
    go_wp2_with
      (first | (go_at_call 28; refine (HG.out _ (H.out.below (by repeat (first | exact Below.refl _ _ | assumption | refine Below.drew ?_ | refine Below.drewN' ?_ _ | refine below_grow0 _ _ ?_ | refine below_alloc0 _ ?_ | refine Below.alloc ?_ (by first | omega | (simp; done) | (simp; omega)) _ | refine Below.setCell ?_ (by first | omega | (simp; done) | (simp; omega)) _ | refine Below.grow _ _ _ ?_ (by first | omega | (simp; done) | (simp; omega)))))).mono ?_; rintro e w1 ⟨rfl, hb⟩; obtain ⟨ext, d, rfl⟩ := Below.grown_eq _ hb; clear hb) | (go_at_call 44; refine (HF.out _ _ (H.out.below (by repeat (first | exact Below.refl _ _ | assumption | refine Below.drew ?_ | refine Below.drewN' ?_ _ | refine below_grow0 _ _ ?_ | refine below_alloc0 _ ?_ | refine Below.alloc ?_ (by first | omega | (simp; done) | (simp; omega)) _ | refine Below.setCell ?_ (by first | omega | (simp; done) | (simp; omega)) _ | refine Below.grow _ _ _ ?_ (by first | omega | (simp; done) | (simp; omega)))))).mono ?_; rintro e w1 ⟨rfl, hb⟩; obtain ⟨ext2, d2, rfl⟩ := Below.grown_eq _ hb; clear hb))
    refine bodyPost_ret (v := .tuple #[.agg #[.slice none 0 0], .int .i64 3]) (by simp [results, Tryd.results41, go_sem]) rfl ⟨none, 0, rfl, Ow.nil _ _ _ _ _, (by repeat (first | exact Below.refl _ _ | assumption | refine Below.drew ?_ | refine Below.drewN' ?_ _ | refine below_grow0 _ _ ?_ | refine below_alloc0 _ ?_ | refine Below.alloc ?_ (by first | omega | (simp; done) | (simp; omega)) _ | refine Below.setCell ?_ (by first | omega | (simp; done) | (simp; omega)) _ | refine Below.grow _ _ _ ?_ (by first | omega | (simp; done) | (simp; omega))))⟩
  | true =>
    rw [hg] at HG
    have hl16 := goodD_len hg
    have hfind := fun (W : World) (v : Value) (hs : Sl cFile 3 W v l) => dkFind v l p W hs (by omega)
    clear hg
    simp only [Bool.true_and, if_true]
    cases hk : isK (l.map File.name) p with
    | false =>
      rw [hk] at hfind
      have HF := Lib.hid hfind
      generalize posK (l.map File.name) p = q at *
      clear h hz hk hfind
      simp only [Bool.false_eq_true, if_false]
      go_enter Tryd.func41, Tryd.ntmps41
      go_wp2_with
        (first | (go_at_call 28; refine (HG.out _ (H.out.below (by repeat (first | exact Below.refl _ _ | assumption | refine Below.drew ?_ | refine Below.drewN' ?_ _ | refine below_grow0 _ _ ?_ | refine below_alloc0 _ ?_ | refine Below.alloc ?_ (by first | omega | (simp; done) | (simp; omega)) _ | refine Below.setCell ?_ (by first | omega | (simp; done) | (simp; omega)) _ | refine Below.grow _ _ _ ?_ (by first | omega | (simp; done) | (simp; omega)))))).mono ?_; rintro e w1 ⟨rfl, hb⟩; obtain ⟨ext, d, rfl⟩ := Below.grown_eq _ hb; clear hb) | (go_at_call 44; refine (HF.out _ _ (H.out.below (by repeat (first | exact Below.refl _ _ | assumption | refine Below.drew ?_ | refine Below.drewN' ?_ _ | refine below_grow0 _ _ ?_ | refine below_alloc0 _ ?_ | refine Below.alloc ?_ (by first | omega | (simp; done) | (simp; omega)) _ | refine Below.setCell ?_ (by first | omega | (simp; done) | (simp; omega)) _ | refine Below.grow _ _ _ ?_ (by first | omega | (simp; done) | (simp; omega)))))).mono ?_; rintro e w1 ⟨rfl, hb⟩; obtain ⟨ext2, d2, rfl⟩ := Below.grown_eq _ hb; clear hb))
      refine bodyPost_ret (v := .tuple #[.agg #[.slice none 0 0], .int .i64 7]) (by simp [results, Tryd.results41, go_sem]) rfl ⟨none, 0, rfl, Ow.nil _ _ _ _ _, (by repeat (first | exact Below.refl _ _ | assumption | refine Below.drew ?_ | refine Below.drewN' ?_ _ | refine below_grow0 _ _ ?_ | refine below_alloc0 _ ?_ | refine Below.alloc ?_ (by first | omega | (simp; done) | (simp; omega)) _ | refine Below.setCell ?_ (by first | omega | (simp; done) | (simp; omega)) _ | refine Below.grow _ _ _ ?_ (by first | omega | (simp; done) | (simp; omega))))⟩
    | true =>
      rw [hk] at hfind
      have HF := Lib.hid hfind
      have hq := isK_in_file hk
      generalize posK (l.map File.name) p = q at *
      clear h hz hk hfind
      simp only [if_true]
      have HQ := Lib.hid hq
      go_enter Tryd.func41, Tryd.ntmps41
      go_wp2_with
        (first | (go_at_call 28; refine (HG.out _ (H.out.below (by repeat (first | exact Below.refl _ _ | assumption | refine Below.drew ?_ | refine Below.drewN' ?_ _ | refine below_grow0 _ _ ?_ | refine below_alloc0 _ ?_ | refine Below.alloc ?_ (by first | omega | (simp; done) | (simp; omega)) _ | refine Below.setCell ?_ (by first | omega | (simp; done) | (simp; omega)) _ | refine Below.grow _ _ _ ?_ (by first | omega | (simp; done) | (simp; omega)))))).mono ?_; rintro e w1 ⟨rfl, hb⟩; obtain ⟨ext, d, rfl⟩ := Below.grown_eq _ hb; clear hb) | (go_at_call 44; refine (HF.out _ _ (H.out.below (by repeat (first | exact Below.refl _ _ | assumption | refine Below.drew ?_ | refine Below.drewN' ?_ _ | refine below_grow0 _ _ ?_ | refine below_alloc0 _ ?_ | refine Below.alloc ?_ (by first | omega | (simp; done) | (simp; omega)) _ | refine Below.setCell ?_ (by first | omega | (simp; done) | (simp; omega)) _ | refine Below.grow _ _ _ ?_ (by first | omega | (simp; done) | (simp; omega)))))).mono ?_; rintro e w1 ⟨rfl, hb⟩; obtain ⟨ext2, d2, rfl⟩ := Below.grown_eq _ hb; clear hb))
      refine (dkCopied _ l _ (H.out.below (by repeat (first | exact Below.refl _ _ | assumption | refine Below.drew ?_ | refine Below.drewN' ?_ _ | refine below_grow0 _ _ ?_ | refine below_alloc0 _ ?_ | refine Below.alloc ?_ (by first | omega | (simp; done) | (simp; omega)) _ | refine Below.setCell ?_ (by first | omega | (simp; done) | (simp; omega)) _ | refine Below.grow _ _ _ ?_ (by first | omega | (simp; done) | (simp; omega))))) (by omega) (by simp [maxLen]; omega)).mono ?_
      rintro e w3 ⟨A3, c3, rfl, ho3, hb3⟩
      obtain ⟨ext3, d3, rfl⟩ := Below.grown_eq _ hb3
      have HO3 := Lib.hid ho3
      have hc3 : c3 ≤ 9223372036854775807 := Nat.le_trans ho3.sl.cap_le (Nat.le_of_eq rfl)
      clear hb3 ho3
      go_wp2_with fail
      have HO4 := Lib.hid (HO3.out.regrow (W' := (grow (grow ((w.alloc (.cells #[.slice A3 l.length c3] 26)).alloc (.cells #[.slice none 0 0] 26)) ext d) ext2 d2)) (d' := d3) (Nat.le_refl _) (by simp))
      refine (delFile A3 l.length c3 q l _ _ HO4.out HQ.out hc3).mono ?_
      rintro e w4 ⟨rfl, hd⟩
      have hb4 : Below ((w.alloc (.cells #[.slice A3 l.length c3] 26)).alloc (.cells #[.slice none 0 0] 26)).heap.size ((w.alloc (.cells #[.slice A3 l.length c3] 26)).alloc (.cells #[.slice none 0 0] 26)) w4 :=
        Below.grown (by repeat (first | exact Below.refl _ _ | assumption | refine Below.drew ?_ | refine Below.drewN' ?_ _ | refine below_grow0 _ _ ?_ | refine below_alloc0 _ ?_ | refine Below.alloc ?_ (by first | omega | (simp; done) | (simp; omega)) _ | refine Below.setCell ?_ (by first | omega | (simp; done) | (simp; omega)) _ | refine Below.grow _ _ _ ?_ (by first | omega | (simp; done) | (simp; omega)))) hd.out.2 (by simp; omega) (fun g hg => by have := (Ow.own_in HO4.out hg).1; simp at this ⊢; omega)
      have HD := Lib.hid hd.out.1
      obtain ⟨ext5, d5, rfl⟩ := Below.grown_eq _ hb4
      have hgl : (l.take q ++ l.drop (q + 1)).length = l.length - 1 := by rw [List.length_append, List.length_take, List.length_drop]; have := HQ.out; omega
      have HGN := Lib.hid hgl
      clear hb4 hd hgl
      go_wp2_with fail
      refine bodyPost_ret (v := .tuple #[.agg #[.slice A3 (l.length - 1) c3], .int .i64 0]) (by simp [results, Tryd.results41, go_sem]) rfl ⟨A3, c3, by rw [HGN.out], ?_, (by repeat (first | exact Below.refl _ _ | assumption | refine Below.drew ?_ | refine Below.drewN' ?_ _ | refine below_grow0 _ _ ?_ | refine below_alloc0 _ ?_ | refine Below.alloc ?_ (by first | omega | (simp; done) | (simp; omega)) _ | refine Below.setCell ?_ (by first | omega | (simp; done) | (simp; omega)) _ | refine Below.grow _ _ _ ?_ (by first | omega | (simp; done) | (simp; omega))))⟩
      rw [HGN.out]
      exact (HD.out.regrow (by simp; omega) (by simp)).mono (by simp; omega)
end Go.Proofs.YtkoemhdchoicaaaDoor

/- package disk: Sync, Cut, Crash: under way. -/
namespace Go.Proofs.YtkoemhdchoicaaaDoor
open Go.RowKit Go.ChangeShapes Go.WideShapes Go.ChangeAt
set_option maxHeartbeats 1000000 in
theorem dkSync1 (g o : Nat) (x : File) (w : World) (c1 : w.cell? ⟨g, o + 1, none⟩ = some (.string x.safe)) (c2 : w.cell? ⟨g, o + 2, none⟩ = some (.string x.tail)) (f1 : w.frozen? ⟨g, o + 1, none⟩ = false) (f2 : w.frozen? ⟨g, o + 2, none⟩ = false)
    (z1 : x.safe.size ≤ 140737488355328) (z2 : x.tail.size ≤ 140737488355328) :
    Calls Tryd.prog 51 #[.pointer (some ⟨g, o, none⟩)] w fun e w' => e = .returned (.int .i64 0) ∧ w' = ((w.setCell ⟨g, o + 1, none⟩ (.string (x.safe ++ x.tail))).setCell ⟨g, o + 2, none⟩ (.string ⟨#[]⟩)).drew := by
  go_enter Tryd.func51, Tryd.ntmps51
  go_wp2_with fail
  go_region
  go_wp2_with fail
  go_ret
  exact ⟨rfl, rfl⟩
set_option maxHeartbeats 1000000 in
theorem dkCut1_no (g o bn : Nat) (n : Int) (x : File) (w : World) (c1 : w.cell? ⟨g, o + 1, none⟩ = some (.string x.safe)) (c2 : w.cell? ⟨g, o + 2, none⟩ = some (.string x.tail)) (cn : w.cell? ⟨bn, 0, none⟩ = some (.int .i64 n))
    (z1 : x.safe.size ≤ 140737488355328) (z2 : x.tail.size ≤ 140737488355328) (h : n < 0 ∨ ((x.safe ++ x.tail).size : Int) < n) :
    Calls Tryd.prog 50 #[.pointer (some ⟨g, o, none⟩), .pointer (some ⟨bn, 0, none⟩)] w fun e w' => e = .returned (.int .i64 3) ∧ w' = w.drew := by
  have hsz : (x.safe ++ x.tail).size = x.safe.size + x.tail.size := by simp
  generalize hall : x.safe ++ x.tail = all at *
  by_cases hn : n < 0
  · go_enter Tryd.func50, Tryd.ntmps50
    go_wp2_with fail
    go_region
    go_wp2_with fail
    go_ret
    exact ⟨rfl, rfl⟩
  · have hn2 : (all.size : Int) < n := by omega
    go_enter Tryd.func50, Tryd.ntmps50
    go_wp2_with fail
    go_region
    go_wp2_with fail
    go_ret
    exact ⟨rfl, rfl⟩
set_option maxHeartbeats 1000000 in
theorem dkCut1_ok (g o bn n : Nat) (x : File) (w : World) (c1 : w.cell? ⟨g, o + 1, none⟩ = some (.string x.safe)) (c2 : w.cell? ⟨g, o + 2, none⟩ = some (.string x.tail)) (f1 : w.frozen? ⟨g, o + 1, none⟩ = false) (f2 : w.frozen? ⟨g, o + 2, none⟩ = false) (cn : w.cell? ⟨bn, 0, none⟩ = some (.int .i64 n))
    (z1 : x.safe.size ≤ 140737488355328) (z2 : x.tail.size ≤ 140737488355328) (h : n ≤ (x.safe ++ x.tail).size) :
    Calls Tryd.prog 50 #[.pointer (some ⟨g, o, none⟩), .pointer (some ⟨bn, 0, none⟩)] w fun e w' => e = .returned (.int .i64 0) ∧ w' = ((w.setCell ⟨g, o + 1, none⟩ (.string ((x.safe ++ x.tail).extract 0 n))).setCell ⟨g, o + 2, none⟩ (.string ⟨#[]⟩)).drew := by
  have hsz : (x.safe ++ x.tail).size = x.safe.size + x.tail.size := by simp
  generalize hall : x.safe ++ x.tail = all at *
  go_enter Tryd.func50, Tryd.ntmps50
  go_wp2_with fail
  go_region
  go_wp2_with fail
  go_ret
  exact ⟨rfl, rfl⟩
theorem file_cells {W : World} {g k : Nat} {l : List File} {J : List Value} {t : TypeId} {x : File} (h : Bk W g (l.flatMap cFile ++ J) t) (hx : l[k]? = some x) :
    W.cell? ⟨g, k * 3, none⟩ = some (.string x.name) ∧ W.cell? ⟨g, k * 3 + 1, none⟩ = some (.string x.safe) ∧ W.cell? ⟨g, k * 3 + 2, none⟩ = some (.string x.tail) := by
  have key : ∀ j u, (cFile x)[j]? = some u → W.cell? ⟨g, k * 3 + j, none⟩ = some u := by
    intro j u hu
    have h0 : (l.flatMap cFile)[k * 3 + j]? = some u := flatMap_get (f := cFile) (s := 3) (fun y _ => rfl) hx hu
    rw [h.cell, List.getElem?_append_left (List.getElem?_eq_some_iff.1 h0).1, h0]
  exact ⟨key 0 _ rfl, key 1 _ rfl, key 2 _ rfl⟩
theorem splice1 (cs : List Value) (o : Nat) (v : Value) (r : List Value) (hl : o + (r.length + 1) ≤ cs.length) : splice (cs.set o v) (o + 1) r = splice cs o (v :: r) := by
  unfold splice
  have h1 : (cs.set o v).take (o + 1) = cs.take o ++ [v] := by
    rw [List.take_add_one, List.getElem?_set_self (by omega), List.take_set_of_le (by omega)]
    rfl
  rw [h1, List.drop_set_of_lt (by omega), List.length_cons, show o + (r.length + 1) = o + 1 + r.length from by omega]
  simp
/-- two cells of one file set anew -/
theorem set_file {l : List File} {J : List Value} {k : Nat} {x : File} (hx : l[k]? = some x) (s t : ByteArray) :
    (((l.flatMap cFile ++ J).set (k * 3 + 1) (.string s)).set (k * 3 + 2) (.string t)) = (l.set k ⟨x.name, s, t⟩).flatMap cFile ++ J := by
  have hk : k < l.length := (List.getElem?_eq_some_iff.1 hx).1
  have hlen : (l.flatMap cFile).length = l.length * 3 := flatMap_length (fun y _ => rfl)
  have hle : k * 3 + 3 ≤ (l.flatMap cFile ++ J).length := by rw [List.length_append, hlen]; omega
  have h0 : (l.flatMap cFile)[k * 3 + 0]? = some (.string x.name) := flatMap_get (f := cFile) (s := 3) (fun y _ => rfl) hx rfl
  have hself : (l.flatMap cFile ++ J).set (k * 3) (.string x.name) = l.flatMap cFile ++ J := by
    apply List.ext_getElem?
    intro i
    rw [List.getElem?_set]
    split
    · rename_i e
      subst e
      rw [if_pos (by omega), List.getElem?_append_left (by rw [hlen]; omega), ← Nat.add_zero (k * 3), h0]
    · rfl
  rw [← flatMap_set (f := cFile) (s := 3) (fun y _ => rfl) hk ⟨x.name, s, t⟩ rfl J]
  show _ = splice _ (k * 3) [Value.string x.name, Value.string s, Value.string t]
  rw [← splice1 _ _ _ _ (by simpa using hle), hself, ← splice1 _ _ _ _ (by simpa using hle), ← splice1 _ _ _ _ (by rw [List.length_set]; simpa using hle)]
  simp [splice]
def syncF (x : File) : File := ⟨x.name, x.safe ++ x.tail, ⟨#[]⟩⟩
def syncL (l : List File) (p : ByteArray) : List File := if goodD l && isK (l.map File.name) p then l.set (posK (l.map File.name) p) (syncF (fileAt l p)) else []
set_option maxHeartbeats 2000000 in
theorem dkChangeSync (v : Value) (l : List File) (p : ByteArray) (w : World) (h : Sl cFile 3 w v l) (hz : ∀ x ∈ l, x.sized) :
    Calls Tryd.prog 49 #[.agg #[v], .string p, .func (.func 51) #[] #[]] w (DkRes (syncL l p) (readE l p) w) := by
  obtain ⟨A, c, rfl, hc1, hc2⟩ := h.form
  have H := Lib.hid h
  have HG := Lib.hid (fun (W : World) (hs : Sl cFile 3 W (.slice A l.length c) l) => dkGood _ l W hs hz)
  unfold syncL readE
  cases hg : goodD l with
  | false =>
    rw [hg] at HG
    clear h hz hg
    simp only [Bool.false_and, Bool.false_eq_true, if_false]
    go_enter Tryd.func49, Tryd.ntmps49
    go_wp2_with
      (first | (go_at_call 28; refine (HG.out _ (H.out.below (by repeat (first | exact Below.refl _ _ | assumption | refine Below.drew ?_ | refine Below.drewN' ?_ _ | refine below_grow0 _ _ ?_ | refine below_alloc0 _ ?_ | refine Below.alloc ?_ (by first | omega | (simp; done) | (simp; omega)) _ | refine Below.setCell ?_ (by first | omega | (simp; done) | (simp; omega)) _ | refine Below.grow _ _ _ ?_ (by first | omega | (simp; done) | (simp; omega)))))).mono ?_; rintro e w1 ⟨rfl, hb⟩; obtain ⟨ext, d, rfl⟩ := Below.grown_eq _ hb; clear hb) | (go_at_call 44; refine (HF.out _ _ (H.out.below (by repeat (first | exact Below.refl _ _ | assumption | refine Below.drew ?_ | refine Below.drewN' ?_ _ | refine below_grow0 _ _ ?_ | refine below_alloc0 _ ?_ | refine Below.alloc ?_ (by first | omega | (simp; done) | (simp; omega)) _ | refine Below.setCell ?_ (by first | omega | (simp; done) | (simp; omega)) _ | refine Below.grow _ _ _ ?_ (by first | omega | (simp; done) | (simp; omega)))))).mono ?_; rintro e w1 ⟨rfl, hb⟩; obtain ⟨ext2, d2, rfl⟩ := Below.grown_eq _ hb; clear hb))
    refine bodyPost_ret (v := .tuple #[.agg #[.slice none 0 0], .int .i64 3]) (by simp [results, Tryd.results49, go_sem]) rfl ⟨none, 0, rfl, Ow.nil _ _ _ _ _, (by repeat (first | exact Below.refl _ _ | assumption | refine Below.drew ?_ | refine Below.drewN' ?_ _ | refine below_grow0 _ _ ?_ | refine below_alloc0 _ ?_ | refine Below.alloc ?_ (by first | omega | (simp; done) | (simp; omega)) _ | refine Below.setCell ?_ (by first | omega | (simp; done) | (simp; omega)) _ | refine Below.grow _ _ _ ?_ (by first | omega | (simp; done) | (simp; omega))))⟩
  | true =>
    rw [hg] at HG
    have hl16 := goodD_len hg
    have hfind := fun (W : World) (v : Value) (hs : Sl cFile 3 W v l) => dkFind v l p W hs (by omega)
    clear hg
    simp only [Bool.true_and, if_true]
    cases hk : isK (l.map File.name) p with
    | false =>
      rw [hk] at hfind
      have HF := Lib.hid hfind
      generalize posK (l.map File.name) p = q at *
      clear h hz hk hfind
      simp only [Bool.false_eq_true, if_false]
      go_enter Tryd.func49, Tryd.ntmps49
      go_wp2_with
        (first | (go_at_call 28; refine (HG.out _ (H.out.below (by repeat (first | exact Below.refl _ _ | assumption | refine Below.drew ?_ | refine Below.drewN' ?_ _ | refine below_grow0 _ _ ?_ | refine below_alloc0 _ ?_ | refine Below.alloc ?_ (by first | omega | (simp; done) | (simp; omega)) _ | refine Below.setCell ?_ (by first | omega | (simp; done) | (simp; omega)) _ | refine Below.grow _ _ _ ?_ (by first | omega | (simp; done) | (simp; omega)))))).mono ?_; rintro e w1 ⟨rfl, hb⟩; obtain ⟨ext, d, rfl⟩ := Below.grown_eq _ hb; clear hb) | (go_at_call 44; refine (HF.out _ _ (H.out.below (by repeat (first | exact Below.refl _ _ | assumption | refine Below.drew ?_ | refine Below.drewN' ?_ _ | refine below_grow0 _ _ ?_ | refine below_alloc0 _ ?_ | refine Below.alloc ?_ (by first | omega | (simp; done) | (simp; omega)) _ | refine Below.setCell ?_ (by first | omega | (simp; done) | (simp; omega)) _ | refine Below.grow _ _ _ ?_ (by first | omega | (simp; done) | (simp; omega)))))).mono ?_; rintro e w1 ⟨rfl, hb⟩; obtain ⟨ext2, d2, rfl⟩ := Below.grown_eq _ hb; clear hb))
      refine bodyPost_ret (v := .tuple #[.agg #[.slice none 0 0], .int .i64 7]) (by simp [results, Tryd.results49, go_sem]) rfl ⟨none, 0, rfl, Ow.nil _ _ _ _ _, (by repeat (first | exact Below.refl _ _ | assumption | refine Below.drew ?_ | refine Below.drewN' ?_ _ | refine below_grow0 _ _ ?_ | refine below_alloc0 _ ?_ | refine Below.alloc ?_ (by first | omega | (simp; done) | (simp; omega)) _ | refine Below.setCell ?_ (by first | omega | (simp; done) | (simp; omega)) _ | refine Below.grow _ _ _ ?_ (by first | omega | (simp; done) | (simp; omega))))⟩
    | true =>
      rw [hk] at hfind
      have HF := Lib.hid hfind
      have hq := isK_in_file hk
      have hx : l[posK (l.map File.name) p]? = some (fileAt l p) := by
        unfold fileAt
        rw [List.getD_eq_getElem?_getD, List.getElem?_eq_getElem hq]
        rfl
      obtain ⟨z0, z1, z2⟩ := hz _ (List.mem_of_getElem? hx)
      generalize fileAt l p = x at *
      generalize posK (l.map File.name) p = q at *
      have HX := Lib.hid hx
      clear h hz hk hfind hx
      simp only [if_true]
      go_enter Tryd.func49, Tryd.ntmps49
      go_wp2_with
        (first | (go_at_call 28; refine (HG.out _ (H.out.below (by repeat (first | exact Below.refl _ _ | assumption | refine Below.drew ?_ | refine Below.drewN' ?_ _ | refine below_grow0 _ _ ?_ | refine below_alloc0 _ ?_ | refine Below.alloc ?_ (by first | omega | (simp; done) | (simp; omega)) _ | refine Below.setCell ?_ (by first | omega | (simp; done) | (simp; omega)) _ | refine Below.grow _ _ _ ?_ (by first | omega | (simp; done) | (simp; omega)))))).mono ?_; rintro e w1 ⟨rfl, hb⟩; obtain ⟨ext, d, rfl⟩ := Below.grown_eq _ hb; clear hb) | (go_at_call 44; refine (HF.out _ _ (H.out.below (by repeat (first | exact Below.refl _ _ | assumption | refine Below.drew ?_ | refine Below.drewN' ?_ _ | refine below_grow0 _ _ ?_ | refine below_alloc0 _ ?_ | refine Below.alloc ?_ (by first | omega | (simp; done) | (simp; omega)) _ | refine Below.setCell ?_ (by first | omega | (simp; done) | (simp; omega)) _ | refine Below.grow _ _ _ ?_ (by first | omega | (simp; done) | (simp; omega)))))).mono ?_; rintro e w1 ⟨rfl, hb⟩; obtain ⟨ext2, d2, rfl⟩ := Below.grown_eq _ hb; clear hb))
      refine (dkCopied _ l _ (H.out.below (by repeat (first | exact Below.refl _ _ | assumption | refine Below.drew ?_ | refine Below.drewN' ?_ _ | refine below_grow0 _ _ ?_ | refine below_alloc0 _ ?_ | refine Below.alloc ?_ (by first | omega | (simp; done) | (simp; omega)) _ | refine Below.setCell ?_ (by first | omega | (simp; done) | (simp; omega)) _ | refine Below.grow _ _ _ ?_ (by first | omega | (simp; done) | (simp; omega))))) (by omega) (by simp [maxLen]; omega)).mono ?_
      rintro e w3 ⟨A3, c3, rfl, ho3, hb3⟩
      obtain ⟨ext3, d3, rfl⟩ := Below.grown_eq _ hb3
      obtain ⟨g3, J, rfl, hg3, hbk3, hcl, hlc, hcm, _⟩ := ho3.blk (by omega)
      have hbk4 : Bk (grow (grow (grow ((w.alloc (.cells #[.slice (some ⟨g3, 0, none⟩) l.length c3] 26)).alloc (.cells #[.slice none 0 0] 26)) ext d) ext2 d2) ext3 d3) g3 (l.flatMap cFile ++ J) 70 := hbk3.regrow (by simpa using hg3) (by simp)
      have hg4 : w.heap.size + 1 + 1 ≤ g3 := by simp at hg3; omega
      obtain ⟨r0, r1, r2⟩ := file_cells hbk4 HX.out
      have HBK := Lib.hid hbk4
      have HCL := Lib.hid hcl
      clear hb3 ho3 hbk3 hbk4 hg3 hcl
      go_wp2_with fail
      refine (dkSync1 g3 (q * 3) x _ r1 r2 (HBK.out.frozen _) (HBK.out.frozen _) z1 z2).mono ?_
      rintro e w4 ⟨rfl, rfl⟩
      have hb5 : Below ((w.alloc (.cells #[.slice (some ⟨g3, 0, none⟩) l.length c3] 26)).alloc (.cells #[.slice none 0 0] 26)).heap.size ((w.alloc (.cells #[.slice (some ⟨g3, 0, none⟩) l.length c3] 26)).alloc (.cells #[.slice none 0 0] 26)) ((((grow (grow (grow ((w.alloc (.cells #[.slice (some ⟨g3, 0, none⟩) l.length c3] 26)).alloc (.cells #[.slice none 0 0] 26)) ext d) ext2 d2) ext3 d3).setCell ⟨g3, q * 3 + 1, none⟩ (.string (x.safe ++ x.tail))).setCell ⟨g3, q * 3 + 2, none⟩ (.string ⟨#[]⟩)).drew) := Below.drew (Below.put (Below.put (by repeat (first | exact Below.refl _ _ | assumption | refine Below.drew ?_ | refine Below.drewN' ?_ _ | refine below_grow0 _ _ ?_ | refine below_alloc0 _ ?_ | refine Below.alloc ?_ (by first | omega | (simp; done) | (simp; omega)) _ | refine Below.setCell ?_ (by first | omega | (simp; done) | (simp; omega)) _ | refine Below.grow _ _ _ ?_ (by first | omega | (simp; done) | (simp; omega)))) (by simp; omega)) (by simp; omega))
      have hbk5 : Bk ((((grow (grow (grow ((w.alloc (.cells #[.slice (some ⟨g3, 0, none⟩) l.length c3] 26)).alloc (.cells #[.slice none 0 0] 26)) ext d) ext2 d2) ext3 d3).setCell ⟨g3, q * 3 + 1, none⟩ (.string (x.safe ++ x.tail))).setCell ⟨g3, q * 3 + 2, none⟩ (.string ⟨#[]⟩)).drew) g3 ((l.set q (syncF x)).flatMap cFile ++ J) 70 := by
        have := (HBK.out.put (q * 3 + 1) (.string (x.safe ++ x.tail))).put (q * 3 + 2) (.string ⟨#[]⟩)
        rw [set_file HX.out] at this
        exact this
      generalize ((((grow (grow (grow ((w.alloc (.cells #[.slice (some ⟨g3, 0, none⟩) l.length c3] 26)).alloc (.cells #[.slice none 0 0] 26)) ext d) ext2 d2) ext3 d3).setCell ⟨g3, q * 3 + 1, none⟩ (.string (x.safe ++ x.tail))).setCell ⟨g3, q * 3 + 2, none⟩ (.string ⟨#[]⟩)).drew) = w5 at hb5 hbk5 ⊢
      obtain ⟨ext5, d5, rfl⟩ := Below.grown_eq _ hb5
      have HBK5 := Lib.hid hbk5
      clear hb5 hbk5 HBK r0 r1 r2
      go_wp2_with fail
      have hlen : ((l.set q (syncF x)).flatMap cFile ++ J).length = c3 * 3 := by
        rw [← HCL.out, List.length_append, List.length_append, flatMap_length (f := cFile) (s := 3) (fun _ _ => rfl), flatMap_length (f := cFile) (s := 3) (fun _ _ => rfl), List.length_set]
      refine bodyPost_ret (v := .tuple #[.agg #[.slice (some ⟨g3, 0, none⟩) l.length c3], .int .i64 0]) (by simp [results, Tryd.results49, go_sem]) rfl ⟨some ⟨g3, 0, none⟩, c3, by rw [List.length_set], ?_, (by repeat (first | exact Below.refl _ _ | assumption | refine Below.drew ?_ | refine Below.drewN' ?_ _ | refine below_grow0 _ _ ?_ | refine below_alloc0 _ ?_ | refine Below.alloc ?_ (by first | omega | (simp; done) | (simp; omega)) _ | refine Below.setCell ?_ (by first | omega | (simp; done) | (simp; omega)) _ | refine Below.grow _ _ _ ?_ (by first | omega | (simp; done) | (simp; omega))))⟩
      exact Ow.of_blk (f := cFile) (s := 3) (B := w.heap.size) (fun _ _ => rfl) (by omega) (HBK5.out.regrow (by simp; omega) (by simp)) rfl hlen (by rw [List.length_set]; exact hlc) hcm
end Go.Proofs.YtkoemhdchoicaaaDoor
/- package disk: Sync. -/
namespace Go.Proofs.YtkoemhdchoicaaaDoor
open Go.RowKit Go.ChangeShapes Go.WideShapes Go.ChangeAt
set_option maxHeartbeats 1000000 in
theorem dkSync (v : Value) (l : List File) (p : ByteArray) (w : World) (h : Sl cFile 3 w v l) (hz : ∀ x ∈ l, x.sized) :
    Calls Tryd.prog 36 #[.agg #[v], .string p] w (DkRes (syncL l p) (readE l p) w) := by
  obtain ⟨A, c, rfl, hc1, hc2⟩ := h.form
  have H := Lib.hid h
  have HC := Lib.hid (fun (W : World) (hs : Sl cFile 3 W (.slice A l.length c) l) => dkChangeSync _ l p W hs hz)
  generalize syncL l p = L at *
  generalize readE l p = code at *
  clear h hz
  go_enter Tryd.func36, Tryd.ntmps36
  go_wp2_with (first | (go_at_call 49; refine (HC.out _ (H.out.below (by repeat (first | exact Below.refl _ _ | assumption | refine Below.drew ?_ | refine Below.drewN' ?_ _ | refine below_grow0 _ _ ?_ | refine below_alloc0 _ ?_ | refine Below.alloc ?_ (by first | omega | (simp; done) | (simp; omega)) _ | refine Below.setCell ?_ (by first | omega | (simp; done) | (simp; omega)) _ | refine Below.grow _ _ _ ?_ (by first | omega | (simp; done) | (simp; omega)))))).mono ?_; rintro e w1 ⟨A1, k1, rfl, hs1, hb1⟩; have HS1 := Lib.hid hs1; obtain ⟨ext, d, rfl⟩ := Below.grown_eq _ hb1; clear hs1 hb1))
  refine bodyPost_ret (v := .tuple #[.agg #[.slice A1 L.length k1], .int .i64 code]) (by simp [results, Tryd.results36, go_sem]) rfl ⟨A1, k1, rfl, ?_, (by repeat (first | exact Below.refl _ _ | assumption | refine Below.drew ?_ | refine Below.drewN' ?_ _ | refine below_grow0 _ _ ?_ | refine below_alloc0 _ ?_ | refine Below.alloc ?_ (by first | omega | (simp; done) | (simp; omega)) _ | refine Below.setCell ?_ (by first | omega | (simp; done) | (simp; omega)) _ | refine Below.grow _ _ _ ?_ (by first | omega | (simp; done) | (simp; omega))))⟩
  exact (HS1.out.regrow (Nat.le_refl _) (by simp)).mono (by simp; omega)
end Go.Proofs.YtkoemhdchoicaaaDoor

/- package disk: Cut. -/
namespace Go.Proofs.YtkoemhdchoicaaaDoor
open Go.RowKit Go.ChangeShapes Go.WideShapes Go.ChangeAt
def cutF (x : File) (n : Nat) : File := ⟨x.name, (x.safe ++ x.tail).extract 0 n, ⟨#[]⟩⟩
def cutL (l : List File) (p : ByteArray) (n : Int) : List File := if goodD l && isK (l.map File.name) p then (if 0 ≤ n ∧ n ≤ (((fileAt l p).safe ++ (fileAt l p).tail).size : Int) then l.set (posK (l.map File.name) p) (cutF (fileAt l p) n.toNat) else []) else []
def cutE (l : List File) (p : ByteArray) (n : Int) : Int := if goodD l then (if isK (l.map File.name) p then (if 0 ≤ n ∧ n ≤ (((fileAt l p).safe ++ (fileAt l p).tail).size : Int) then 0 else 3) else 7) else 3
set_option maxHeartbeats 2000000 in
theorem dkChangeCut (v : Value) (l : List File) (p : ByteArray) (bn : Nat) (n : Int) (w : World) (h : Sl cFile 3 w v l) (hz : ∀ x ∈ l, x.sized) (cn : w.cell? ⟨bn, 0, none⟩ = some (.int .i64 n)) (hbn : bn < w.heap.size) :
    Calls Tryd.prog 49 #[.agg #[v], .string p, .func (.func 50) #[] #[.pointer (some ⟨bn, 0, none⟩)]] w (DkRes (cutL l p n) (cutE l p n) w) := by
  obtain ⟨A, c, rfl, hc1, hc2⟩ := h.form
  have H := Lib.hid h
  have HG := Lib.hid (fun (W : World) (hs : Sl cFile 3 W (.slice A l.length c) l) => dkGood _ l W hs hz)
  unfold cutL cutE
  cases hg : goodD l with
  | false =>
    rw [hg] at HG
    clear h hz hg
    simp only [Bool.false_and, Bool.false_eq_true, if_false]
    go_enter Tryd.func49, Tryd.ntmps49
    go_wp2_with
      (first | (go_at_call 28; refine (HG.out _ (H.out.below (by repeat (first | exact Below.refl _ _ | assumption | refine Below.drew ?_ | refine Below.drewN' ?_ _ | refine below_grow0 _ _ ?_ | refine below_alloc0 _ ?_ | refine Below.alloc ?_ (by first | omega | (simp; done) | (simp; omega)) _ | refine Below.setCell ?_ (by first | omega | (simp; done) | (simp; omega)) _ | refine Below.grow _ _ _ ?_ (by first | omega | (simp; done) | (simp; omega)))))).mono ?_; rintro e w1 ⟨rfl, hb⟩; obtain ⟨ext, d, rfl⟩ := Below.grown_eq _ hb; clear hb) | (go_at_call 44; refine (HF.out _ _ (H.out.below (by repeat (first | exact Below.refl _ _ | assumption | refine Below.drew ?_ | refine Below.drewN' ?_ _ | refine below_grow0 _ _ ?_ | refine below_alloc0 _ ?_ | refine Below.alloc ?_ (by first | omega | (simp; done) | (simp; omega)) _ | refine Below.setCell ?_ (by first | omega | (simp; done) | (simp; omega)) _ | refine Below.grow _ _ _ ?_ (by first | omega | (simp; done) | (simp; omega)))))).mono ?_; rintro e w1 ⟨rfl, hb⟩; obtain ⟨ext2, d2, rfl⟩ := Below.grown_eq _ hb; clear hb))
    refine bodyPost_ret (v := .tuple #[.agg #[.slice none 0 0], .int .i64 3]) (by simp [results, Tryd.results49, go_sem]) rfl ⟨none, 0, rfl, Ow.nil _ _ _ _ _, (by repeat (first | exact Below.refl _ _ | assumption | refine Below.drew ?_ | refine Below.drewN' ?_ _ | refine below_grow0 _ _ ?_ | refine below_alloc0 _ ?_ | refine Below.alloc ?_ (by first | omega | (simp; done) | (simp; omega)) _ | refine Below.setCell ?_ (by first | omega | (simp; done) | (simp; omega)) _ | refine Below.grow _ _ _ ?_ (by first | omega | (simp; done) | (simp; omega))))⟩
  | true =>
    rw [hg] at HG
    have hl16 := goodD_len hg
    have hfind := fun (W : World) (v : Value) (hs : Sl cFile 3 W v l) => dkFind v l p W hs (by omega)
    clear hg
    simp only [Bool.true_and, if_true]
    cases hk : isK (l.map File.name) p with
    | false =>
      rw [hk] at hfind
      have HF := Lib.hid hfind
      generalize posK (l.map File.name) p = q at *
      clear h hz hk hfind
      simp only [Bool.false_eq_true, if_false]
      go_enter Tryd.func49, Tryd.ntmps49
      go_wp2_with
        (first | (go_at_call 28; refine (HG.out _ (H.out.below (by repeat (first | exact Below.refl _ _ | assumption | refine Below.drew ?_ | refine Below.drewN' ?_ _ | refine below_grow0 _ _ ?_ | refine below_alloc0 _ ?_ | refine Below.alloc ?_ (by first | omega | (simp; done) | (simp; omega)) _ | refine Below.setCell ?_ (by first | omega | (simp; done) | (simp; omega)) _ | refine Below.grow _ _ _ ?_ (by first | omega | (simp; done) | (simp; omega)))))).mono ?_; rintro e w1 ⟨rfl, hb⟩; obtain ⟨ext, d, rfl⟩ := Below.grown_eq _ hb; clear hb) | (go_at_call 44; refine (HF.out _ _ (H.out.below (by repeat (first | exact Below.refl _ _ | assumption | refine Below.drew ?_ | refine Below.drewN' ?_ _ | refine below_grow0 _ _ ?_ | refine below_alloc0 _ ?_ | refine Below.alloc ?_ (by first | omega | (simp; done) | (simp; omega)) _ | refine Below.setCell ?_ (by first | omega | (simp; done) | (simp; omega)) _ | refine Below.grow _ _ _ ?_ (by first | omega | (simp; done) | (simp; omega)))))).mono ?_; rintro e w1 ⟨rfl, hb⟩; obtain ⟨ext2, d2, rfl⟩ := Below.grown_eq _ hb; clear hb))
      refine bodyPost_ret (v := .tuple #[.agg #[.slice none 0 0], .int .i64 7]) (by simp [results, Tryd.results49, go_sem]) rfl ⟨none, 0, rfl, Ow.nil _ _ _ _ _, (by repeat (first | exact Below.refl _ _ | assumption | refine Below.drew ?_ | refine Below.drewN' ?_ _ | refine below_grow0 _ _ ?_ | refine below_alloc0 _ ?_ | refine Below.alloc ?_ (by first | omega | (simp; done) | (simp; omega)) _ | refine Below.setCell ?_ (by first | omega | (simp; done) | (simp; omega)) _ | refine Below.grow _ _ _ ?_ (by first | omega | (simp; done) | (simp; omega))))⟩
    | true =>
      rw [hk] at hfind
      have HF := Lib.hid hfind
      have hq := isK_in_file hk
      have hx : l[posK (l.map File.name) p]? = some (fileAt l p) := by
        unfold fileAt
        rw [List.getD_eq_getElem?_getD, List.getElem?_eq_getElem hq]
        rfl
      obtain ⟨z0, z1, z2⟩ := hz _ (List.mem_of_getElem? hx)
      generalize fileAt l p = x at *
      generalize posK (l.map File.name) p = q at *
      have HX := Lib.hid hx
      clear h hz hk hfind hx
      simp only [if_true]
      have hszx : (x.safe ++ x.tail).size = x.safe.size + x.tail.size := by simp
      by_cases hr : 0 ≤ n ∧ n ≤ ((x.safe ++ x.tail).size : Int)
      · simp only [if_pos hr]
        obtain ⟨m, rfl⟩ := Int.eq_ofNat_of_zero_le hr.1
        have HR : Hid (m ≤ (x.safe ++ x.tail).size) := Lib.hid (by have := hr.2; omega)
        clear hr hszx
        go_enter Tryd.func49, Tryd.ntmps49
        go_wp2_with
          (first | (go_at_call 28; refine (HG.out _ (H.out.below (by repeat (first | exact Below.refl _ _ | assumption | refine Below.drew ?_ | refine Below.drewN' ?_ _ | refine below_grow0 _ _ ?_ | refine below_alloc0 _ ?_ | refine Below.alloc ?_ (by first | omega | (simp; done) | (simp; omega)) _ | refine Below.setCell ?_ (by first | omega | (simp; done) | (simp; omega)) _ | refine Below.grow _ _ _ ?_ (by first | omega | (simp; done) | (simp; omega)))))).mono ?_; rintro e w1 ⟨rfl, hb⟩; obtain ⟨ext, d, rfl⟩ := Below.grown_eq _ hb; clear hb) | (go_at_call 44; refine (HF.out _ _ (H.out.below (by repeat (first | exact Below.refl _ _ | assumption | refine Below.drew ?_ | refine Below.drewN' ?_ _ | refine below_grow0 _ _ ?_ | refine below_alloc0 _ ?_ | refine Below.alloc ?_ (by first | omega | (simp; done) | (simp; omega)) _ | refine Below.setCell ?_ (by first | omega | (simp; done) | (simp; omega)) _ | refine Below.grow _ _ _ ?_ (by first | omega | (simp; done) | (simp; omega)))))).mono ?_; rintro e w1 ⟨rfl, hb⟩; obtain ⟨ext2, d2, rfl⟩ := Below.grown_eq _ hb; clear hb))
        refine (dkCopied _ l _ (H.out.below (by repeat (first | exact Below.refl _ _ | assumption | refine Below.drew ?_ | refine Below.drewN' ?_ _ | refine below_grow0 _ _ ?_ | refine below_alloc0 _ ?_ | refine Below.alloc ?_ (by first | omega | (simp; done) | (simp; omega)) _ | refine Below.setCell ?_ (by first | omega | (simp; done) | (simp; omega)) _ | refine Below.grow _ _ _ ?_ (by first | omega | (simp; done) | (simp; omega))))) (by omega) (by simp [maxLen]; omega)).mono ?_
        rintro e w3 ⟨A3, c3, rfl, ho3, hb3⟩
        obtain ⟨ext3, d3, rfl⟩ := Below.grown_eq _ hb3
        obtain ⟨g3, J, rfl, hg3, hbk3, hcl, hlc, hcm, _⟩ := ho3.blk (by omega)
        have hbk4 : Bk (grow (grow (grow ((w.alloc (.cells #[.slice (some ⟨g3, 0, none⟩) l.length c3] 26)).alloc (.cells #[.slice none 0 0] 26)) ext d) ext2 d2) ext3 d3) g3 (l.flatMap cFile ++ J) 70 := hbk3.regrow (by simpa using hg3) (by simp)
        have hg4 : w.heap.size + 1 + 1 ≤ g3 := by simp at hg3; omega
        obtain ⟨r0, r1, r2⟩ := file_cells hbk4 HX.out
        have HBK := Lib.hid hbk4
        have HCL := Lib.hid hcl
        clear hb3 ho3 hbk3 hbk4 hg3 hcl
        go_wp2_with fail
        refine (dkCut1_ok g3 (q * 3) bn m x _ r1 r2 (HBK.out.frozen _) (HBK.out.frozen _) ((show Below w.heap.size w _ from (by repeat (first | exact Below.refl _ _ | assumption | refine Below.drew ?_ | refine Below.drewN' ?_ _ | refine below_grow0 _ _ ?_ | refine below_alloc0 _ ?_ | refine Below.alloc ?_ (by first | omega | (simp; done) | (simp; omega)) _ | refine Below.setCell ?_ (by first | omega | (simp; done) | (simp; omega)) _ | refine Below.grow _ _ _ ?_ (by first | omega | (simp; done) | (simp; omega))))).cell (p := ⟨bn, 0, none⟩) hbn |>.trans cn) z1 z2 HR.out).mono ?_
        rintro e w4 ⟨rfl, rfl⟩
        have hb5 : Below ((w.alloc (.cells #[.slice (some ⟨g3, 0, none⟩) l.length c3] 26)).alloc (.cells #[.slice none 0 0] 26)).heap.size ((w.alloc (.cells #[.slice (some ⟨g3, 0, none⟩) l.length c3] 26)).alloc (.cells #[.slice none 0 0] 26)) ((((grow (grow (grow ((w.alloc (.cells #[.slice (some ⟨g3, 0, none⟩) l.length c3] 26)).alloc (.cells #[.slice none 0 0] 26)) ext d) ext2 d2) ext3 d3).setCell ⟨g3, q * 3 + 1, none⟩ (.string ((x.safe ++ x.tail).extract 0 m))).setCell ⟨g3, q * 3 + 2, none⟩ (.string ⟨#[]⟩)).drew) := Below.drew (Below.put (Below.put (by repeat (first | exact Below.refl _ _ | assumption | refine Below.drew ?_ | refine Below.drewN' ?_ _ | refine below_grow0 _ _ ?_ | refine below_alloc0 _ ?_ | refine Below.alloc ?_ (by first | omega | (simp; done) | (simp; omega)) _ | refine Below.setCell ?_ (by first | omega | (simp; done) | (simp; omega)) _ | refine Below.grow _ _ _ ?_ (by first | omega | (simp; done) | (simp; omega)))) (by simp; omega)) (by simp; omega))
        have hbk5 : Bk ((((grow (grow (grow ((w.alloc (.cells #[.slice (some ⟨g3, 0, none⟩) l.length c3] 26)).alloc (.cells #[.slice none 0 0] 26)) ext d) ext2 d2) ext3 d3).setCell ⟨g3, q * 3 + 1, none⟩ (.string ((x.safe ++ x.tail).extract 0 m))).setCell ⟨g3, q * 3 + 2, none⟩ (.string ⟨#[]⟩)).drew) g3 ((l.set q (cutF x m)).flatMap cFile ++ J) 70 := by
          have := (HBK.out.put (q * 3 + 1) (.string ((x.safe ++ x.tail).extract 0 m))).put (q * 3 + 2) (.string ⟨#[]⟩)
          rw [set_file HX.out] at this
          exact this
        generalize ((((grow (grow (grow ((w.alloc (.cells #[.slice (some ⟨g3, 0, none⟩) l.length c3] 26)).alloc (.cells #[.slice none 0 0] 26)) ext d) ext2 d2) ext3 d3).setCell ⟨g3, q * 3 + 1, none⟩ (.string ((x.safe ++ x.tail).extract 0 m))).setCell ⟨g3, q * 3 + 2, none⟩ (.string ⟨#[]⟩)).drew) = w5 at hb5 hbk5 ⊢
        obtain ⟨ext5, d5, rfl⟩ := Below.grown_eq _ hb5
        have HBK5 := Lib.hid hbk5
        clear hb5 hbk5 HBK r0 r1 r2
        go_wp2_with fail
        have hlen : ((l.set q (cutF x m)).flatMap cFile ++ J).length = c3 * 3 := by
          rw [← HCL.out, List.length_append, List.length_append, flatMap_length (f := cFile) (s := 3) (fun _ _ => rfl), flatMap_length (f := cFile) (s := 3) (fun _ _ => rfl), List.length_set]
        refine bodyPost_ret (v := .tuple #[.agg #[.slice (some ⟨g3, 0, none⟩) l.length c3], .int .i64 0]) (by simp [results, Tryd.results49, go_sem]) rfl ⟨some ⟨g3, 0, none⟩, c3, by rw [List.length_set], ?_, (by repeat (first | exact Below.refl _ _ | assumption | refine Below.drew ?_ | refine Below.drewN' ?_ _ | refine below_grow0 _ _ ?_ | refine below_alloc0 _ ?_ | refine Below.alloc ?_ (by first | omega | (simp; done) | (simp; omega)) _ | refine Below.setCell ?_ (by first | omega | (simp; done) | (simp; omega)) _ | refine Below.grow _ _ _ ?_ (by first | omega | (simp; done) | (simp; omega))))⟩
        exact Ow.of_blk (f := cFile) (s := 3) (B := w.heap.size) (fun _ _ => rfl) (by omega) (HBK5.out.regrow (by simp; omega) (by simp)) rfl hlen (by rw [List.length_set]; exact hlc) hcm
      · simp only [if_neg hr]
        have HR := Lib.hid (show n < 0 ∨ ((x.safe ++ x.tail).size : Int) < n by omega)
        clear hr hszx
        go_enter Tryd.func49, Tryd.ntmps49
        go_wp2_with
          (first | (go_at_call 28; refine (HG.out _ (H.out.below (by repeat (first | exact Below.refl _ _ | assumption | refine Below.drew ?_ | refine Below.drewN' ?_ _ | refine below_grow0 _ _ ?_ | refine below_alloc0 _ ?_ | refine Below.alloc ?_ (by first | omega | (simp; done) | (simp; omega)) _ | refine Below.setCell ?_ (by first | omega | (simp; done) | (simp; omega)) _ | refine Below.grow _ _ _ ?_ (by first | omega | (simp; done) | (simp; omega)))))).mono ?_; rintro e w1 ⟨rfl, hb⟩; obtain ⟨ext, d, rfl⟩ := Below.grown_eq _ hb; clear hb) | (go_at_call 44; refine (HF.out _ _ (H.out.below (by repeat (first | exact Below.refl _ _ | assumption | refine Below.drew ?_ | refine Below.drewN' ?_ _ | refine below_grow0 _ _ ?_ | refine below_alloc0 _ ?_ | refine Below.alloc ?_ (by first | omega | (simp; done) | (simp; omega)) _ | refine Below.setCell ?_ (by first | omega | (simp; done) | (simp; omega)) _ | refine Below.grow _ _ _ ?_ (by first | omega | (simp; done) | (simp; omega)))))).mono ?_; rintro e w1 ⟨rfl, hb⟩; obtain ⟨ext2, d2, rfl⟩ := Below.grown_eq _ hb; clear hb))
        refine (dkCopied _ l _ (H.out.below (by repeat (first | exact Below.refl _ _ | assumption | refine Below.drew ?_ | refine Below.drewN' ?_ _ | refine below_grow0 _ _ ?_ | refine below_alloc0 _ ?_ | refine Below.alloc ?_ (by first | omega | (simp; done) | (simp; omega)) _ | refine Below.setCell ?_ (by first | omega | (simp; done) | (simp; omega)) _ | refine Below.grow _ _ _ ?_ (by first | omega | (simp; done) | (simp; omega))))) (by omega) (by simp [maxLen]; omega)).mono ?_
        rintro e w3 ⟨A3, c3, rfl, ho3, hb3⟩
        obtain ⟨ext3, d3, rfl⟩ := Below.grown_eq _ hb3
        obtain ⟨g3, J, rfl, hg3, hbk3, hcl, hlc, hcm, _⟩ := ho3.blk (by omega)
        have hbk4 : Bk (grow (grow (grow ((w.alloc (.cells #[.slice (some ⟨g3, 0, none⟩) l.length c3] 26)).alloc (.cells #[.slice none 0 0] 26)) ext d) ext2 d2) ext3 d3) g3 (l.flatMap cFile ++ J) 70 := hbk3.regrow (by simpa using hg3) (by simp)
        have hg4 : w.heap.size + 1 + 1 ≤ g3 := by simp at hg3; omega
        obtain ⟨r0, r1, r2⟩ := file_cells hbk4 HX.out
        have HBK := Lib.hid hbk4
        have HCL := Lib.hid hcl
        clear hb3 ho3 hbk3 hbk4 hg3 hcl
        go_wp2_with fail
        refine (dkCut1_no g3 (q * 3) bn n x _ r1 r2 ((show Below w.heap.size w _ from (by repeat (first | exact Below.refl _ _ | assumption | refine Below.drew ?_ | refine Below.drewN' ?_ _ | refine below_grow0 _ _ ?_ | refine below_alloc0 _ ?_ | refine Below.alloc ?_ (by first | omega | (simp; done) | (simp; omega)) _ | refine Below.setCell ?_ (by first | omega | (simp; done) | (simp; omega)) _ | refine Below.grow _ _ _ ?_ (by first | omega | (simp; done) | (simp; omega))))).cell (p := ⟨bn, 0, none⟩) hbn |>.trans cn) z1 z2 HR.out).mono ?_
        rintro e w4 ⟨rfl, rfl⟩
        go_wp2_with fail
        refine bodyPost_ret (v := .tuple #[.agg #[.slice none 0 0], .int .i64 3]) (by simp [results, Tryd.results49, go_sem]) rfl ⟨none, 0, rfl, Ow.nil _ _ _ _ _, (by repeat (first | exact Below.refl _ _ | assumption | refine Below.drew ?_ | refine Below.drewN' ?_ _ | refine below_grow0 _ _ ?_ | refine below_alloc0 _ ?_ | refine Below.alloc ?_ (by first | omega | (simp; done) | (simp; omega)) _ | refine Below.setCell ?_ (by first | omega | (simp; done) | (simp; omega)) _ | refine Below.grow _ _ _ ?_ (by first | omega | (simp; done) | (simp; omega))))⟩
set_option maxHeartbeats 1000000 in
theorem dkCut (v : Value) (l : List File) (p : ByteArray) (n : Int) (w : World) (h : Sl cFile 3 w v l) (hz : ∀ x ∈ l, x.sized) :
    Calls Tryd.prog 35 #[.agg #[v], .string p, .int .i64 n] w (DkRes (cutL l p n) (cutE l p n) w) := by
  obtain ⟨A, c, rfl, hc1, hc2⟩ := h.form
  have H := Lib.hid h
  have HC := Lib.hid (fun (W : World) (bn : Nat) (hs : Sl cFile 3 W (.slice A l.length c) l) (cn : W.cell? ⟨bn, 0, none⟩ = some (.int .i64 n)) (hb : bn < W.heap.size) => dkChangeCut _ l p bn n W hs hz cn hb)
  generalize cutL l p n = L at *
  generalize cutE l p n = code at *
  clear h hz
  go_enter Tryd.func35, Tryd.ntmps35
  go_wp2_with (first | (go_at_call 49; refine (HC.out _ (w.heap.size + 1) (H.out.below (by repeat (first | exact Below.refl _ _ | assumption | refine Below.drew ?_ | refine Below.drewN' ?_ _ | refine below_grow0 _ _ ?_ | refine below_alloc0 _ ?_ | refine Below.alloc ?_ (by first | omega | (simp; done) | (simp; omega)) _ | refine Below.setCell ?_ (by first | omega | (simp; done) | (simp; omega)) _ | refine Below.grow _ _ _ ?_ (by first | omega | (simp; done) | (simp; omega))))) (by go_simp) (by simp)).mono ?_; rintro e w1 ⟨A1, k1, rfl, hs1, hb1⟩; have HS1 := Lib.hid hs1; obtain ⟨ext, d, rfl⟩ := Below.grown_eq _ hb1; clear hs1 hb1))
  refine bodyPost_ret (v := .tuple #[.agg #[.slice A1 L.length k1], .int .i64 code]) (by simp [results, Tryd.results35, go_sem]) rfl ⟨A1, k1, rfl, ?_, (by repeat (first | exact Below.refl _ _ | assumption | refine Below.drew ?_ | refine Below.drewN' ?_ _ | refine below_grow0 _ _ ?_ | refine below_alloc0 _ ?_ | refine Below.alloc ?_ (by first | omega | (simp; done) | (simp; omega)) _ | refine Below.setCell ?_ (by first | omega | (simp; done) | (simp; omega)) _ | refine Below.grow _ _ _ ?_ (by first | omega | (simp; done) | (simp; omega))))⟩
  exact (HS1.out.regrow (Nat.le_refl _) (by simp)).mono (by simp; omega)
end Go.Proofs.YtkoemhdchoicaaaDoor

/- package disk: Crash: under way. -/
namespace Go.Proofs.YtkoemhdchoicaaaDoor
open Go.RowKit Go.ChangeShapes Go.WideShapes Go.ChangeAt
def crashF (keep : Nat) (x : File) : File := ⟨x.name, x.safe ++ x.tail.extract 0 (min keep x.tail.size), ⟨#[]⟩⟩
def crashK (keep : Nat) (l : List File) (k : Nat) : List File := (l.take k).map (crashF keep) ++ l.drop k
theorem crashK_at {keep : Nat} {l : List File} {k : Nat} {x : File} (hx : l[k]? = some x) : (crashK keep l k)[k]? = some x ∧ (crashK keep l k).set k (crashF keep x) = crashK keep l (k + 1) := by
  have hk : k < l.length := (List.getElem?_eq_some_iff.1 hx).1
  have hl : ((l.take k).map (crashF keep)).length = k := by rw [List.length_map, List.length_take, Nat.min_eq_left (by omega)]
  have hd : l.drop k = x :: l.drop (k + 1) := by
    have : l[k] = x := (List.getElem?_eq_some_iff.1 hx).2
    rw [← this, List.getElem_cons_drop]
  unfold crashK
  constructor
  · rw [List.getElem?_append_right (by omega), hl, Nat.sub_self, hd]; rfl
  · rw [List.set_append_right _ _ (by omega), hl, Nat.sub_self, hd, List.take_add_one, hx]
    simp
theorem crashK_len (keep : Nat) (l : List File) (k : Nat) : (crashK keep l k).length = l.length := by unfold crashK; simp; omega
theorem crashK_all (keep : Nat) (l : List File) : crashK keep l l.length = l.map (crashF keep) := by unfold crashK; simp
def crashE (l : List File) (keep : Int) : Int := if goodD l then (if keep < 0 then 3 else 0) else 3
def crashL (l : List File) (keep : Int) : List File := if goodD l then (if keep < 0 then [] else l.map (crashF keep.toNat)) else []
set_option maxHeartbeats 2000000 in
theorem dkCrash (v : Value) (l : List File) (keep : Int) (w : World) (h : Sl cFile 3 w v l) (hz : ∀ x ∈ l, x.sized) :
    Calls Tryd.prog 17 #[.agg #[v], .int .i64 keep] w (DkRes (crashL l keep) (crashE l keep) w) := by
  obtain ⟨A, c, rfl, hc1, hc2⟩ := h.form
  have H := Lib.hid h
  have HG := Lib.hid (fun (W : World) (hs : Sl cFile 3 W (.slice A l.length c) l) => dkGood _ l W hs hz)
  have HZ := Lib.hid hz
  unfold crashL crashE
  cases hg : goodD l with
  | false =>
    rw [hg] at HG
    clear h hz hg
    simp only [Bool.false_eq_true, if_false]
    go_enter Tryd.func17, Tryd.ntmps17
    go_wp2_with
      (first | (go_at_call 28; refine (HG.out _ (H.out.below (by repeat (first | exact Below.refl _ _ | assumption | refine Below.drew ?_ | refine Below.drewN' ?_ _ | refine below_grow0 _ _ ?_ | refine below_alloc0 _ ?_ | refine Below.alloc ?_ (by first | omega | (simp; done) | (simp; omega)) _ | refine Below.setCell ?_ (by first | omega | (simp; done) | (simp; omega)) _ | refine Below.grow _ _ _ ?_ (by first | omega | (simp; done) | (simp; omega)))))).mono ?_; rintro e w1 ⟨rfl, hb⟩; obtain ⟨ext, d, rfl⟩ := Below.grown_eq _ hb; clear hb))
    refine bodyPost_ret (v := .tuple #[.agg #[.slice none 0 0], .int .i64 3]) (by simp [results, Tryd.results17, go_sem]) rfl ⟨none, 0, rfl, Ow.nil _ _ _ _ _, (by repeat (first | exact Below.refl _ _ | assumption | refine Below.drew ?_ | refine Below.drewN' ?_ _ | refine below_grow0 _ _ ?_ | refine below_alloc0 _ ?_ | refine Below.alloc ?_ (by first | omega | (simp; done) | (simp; omega)) _ | refine Below.setCell ?_ (by first | omega | (simp; done) | (simp; omega)) _ | refine Below.grow _ _ _ ?_ (by first | omega | (simp; done) | (simp; omega))))⟩
  | true =>
    rw [hg] at HG
    have hl16 := goodD_len hg
    clear h hz hg
    simp only [if_true]
    by_cases hk : keep < 0
    · simp only [if_pos hk]
      go_enter Tryd.func17, Tryd.ntmps17
      go_wp2_with
        (first | (go_at_call 28; refine (HG.out _ (H.out.below (by repeat (first | exact Below.refl _ _ | assumption | refine Below.drew ?_ | refine Below.drewN' ?_ _ | refine below_grow0 _ _ ?_ | refine below_alloc0 _ ?_ | refine Below.alloc ?_ (by first | omega | (simp; done) | (simp; omega)) _ | refine Below.setCell ?_ (by first | omega | (simp; done) | (simp; omega)) _ | refine Below.grow _ _ _ ?_ (by first | omega | (simp; done) | (simp; omega)))))).mono ?_; rintro e w1 ⟨rfl, hb⟩; obtain ⟨ext, d, rfl⟩ := Below.grown_eq _ hb; clear hb))
      refine bodyPost_ret (v := .tuple #[.agg #[.slice none 0 0], .int .i64 3]) (by simp [results, Tryd.results17, go_sem]) rfl ⟨none, 0, rfl, Ow.nil _ _ _ _ _, (by repeat (first | exact Below.refl _ _ | assumption | refine Below.drew ?_ | refine Below.drewN' ?_ _ | refine below_grow0 _ _ ?_ | refine below_alloc0 _ ?_ | refine Below.alloc ?_ (by first | omega | (simp; done) | (simp; omega)) _ | refine Below.setCell ?_ (by first | omega | (simp; done) | (simp; omega)) _ | refine Below.grow _ _ _ ?_ (by first | omega | (simp; done) | (simp; omega))))⟩
    · simp only [if_neg hk]
      obtain ⟨m, rfl⟩ := Int.eq_ofNat_of_zero_le (show 0 ≤ keep by omega)
      have hmn : (decide ((m : Int) < 0)) = false := by simp
      rw [Int.toNat_natCast]
      clear hk
      go_enter Tryd.func17, Tryd.ntmps17
      go_wp2_with
        (first | (go_at_call 28; refine (HG.out _ (H.out.below (by repeat (first | exact Below.refl _ _ | assumption | refine Below.drew ?_ | refine Below.drewN' ?_ _ | refine below_grow0 _ _ ?_ | refine below_alloc0 _ ?_ | refine Below.alloc ?_ (by first | omega | (simp; done) | (simp; omega)) _ | refine Below.setCell ?_ (by first | omega | (simp; done) | (simp; omega)) _ | refine Below.grow _ _ _ ?_ (by first | omega | (simp; done) | (simp; omega)))))).mono ?_; rintro e w1 ⟨rfl, hb⟩; obtain ⟨ext, d, rfl⟩ := Below.grown_eq _ hb; clear hb))
      refine (dkCopied _ l _ (H.out.below (by repeat (first | exact Below.refl _ _ | assumption | refine Below.drew ?_ | refine Below.drewN' ?_ _ | refine below_grow0 _ _ ?_ | refine below_alloc0 _ ?_ | refine Below.alloc ?_ (by first | omega | (simp; done) | (simp; omega)) _ | refine Below.setCell ?_ (by first | omega | (simp; done) | (simp; omega)) _ | refine Below.grow _ _ _ ?_ (by first | omega | (simp; done) | (simp; omega))))) (by omega) (by simp [maxLen]; omega)).mono ?_
      rintro e w3 ⟨A3, c3, rfl, ho3, hb3⟩
      obtain ⟨ext3, d3, rfl⟩ := Below.grown_eq _ hb3
      rcases Nat.eq_zero_or_pos l.length with h0 | h0
      · obtain rfl := List.eq_nil_of_length_eq_zero h0
        have HO3 := Lib.hid ho3
        clear hb3 ho3
        simp only [List.length_nil]
        go_wp2_with fail
        refine wp_loop_rounds 1 ?_
        rw [rounds_succ]
        go_wp2_with fail
        refine bodyPost_ret (v := .tuple #[.agg #[.slice A3 0 c3], .int .i64 0]) (by simp [results, Tryd.results17, go_sem]) rfl ⟨A3, c3, rfl, ?_, (by repeat (first | exact Below.refl _ _ | assumption | refine Below.drew ?_ | refine Below.drewN' ?_ _ | refine below_grow0 _ _ ?_ | refine below_alloc0 _ ?_ | refine Below.alloc ?_ (by first | omega | (simp; done) | (simp; omega)) _ | refine Below.setCell ?_ (by first | omega | (simp; done) | (simp; omega)) _ | refine Below.grow _ _ _ ?_ (by first | omega | (simp; done) | (simp; omega))))⟩
        exact (HO3.out.regrow (Nat.le_refl _) (by simp)).mono (by simp; omega)
      · obtain ⟨g3, J, rfl, hg3, hbk3, hcl, hlc, hcm, _⟩ := ho3.blk h0
        have hg4 : w.heap.size + 1 + 1 ≤ g3 := by simp at hg3; omega
        have HB3 := Lib.hid hbk3
        have HG3 := Lib.hid hg3
        have HCL := Lib.hid hcl
        clear hb3 ho3 hbk3 hg3 hcl
        go_wp2_with fail
        go_loopw [21] (fun i wr => ∃ (k : Nat) (ext : Array Obj) (d : Nat), k ≤ l.length ∧ i = .int .i64 k ∧ wr = grow ((w.alloc (.cells #[.slice (some ⟨g3, 0, none⟩) l.length c3] 26)).alloc (.cells #[.slice none 0 0] 26)) ext d ∧ Hid (Bk wr g3 ((crashK m l k).flatMap cFile ++ J) 70)) (fun i _ => l.length - (intOf i).toNat)
        case atStart => exact ⟨0, _, _, Nat.zero_le _, rfl, grown_of (by repeat (first | exact Below.refl _ _ | assumption | refine Below.drew ?_ | refine Below.drewN' ?_ _ | refine below_grow0 _ _ ?_ | refine below_alloc0 _ ?_ | refine Below.alloc ?_ (by first | omega | (simp; done) | (simp; omega)) _ | refine Below.setCell ?_ (by first | omega | (simp; done) | (simp; omega)) _ | refine Below.grow _ _ _ ?_ (by first | omega | (simp; done) | (simp; omega)))), Lib.hid (by simpa [crashK] using HB3.out.regrow HG3.out (by simp))⟩
        case round =>
          obtain ⟨k, ext5, d5, hk, rfl, rfl, hbk⟩ := hrel
          by_cases hlt : k < l.length
          · have hx : l[k]? = some (l[k]'hlt) := List.getElem?_eq_getElem _
            obtain ⟨z0, z1, z2⟩ := HZ.out _ (List.mem_of_getElem? hx)
            obtain ⟨hat, hset⟩ := crashK_at (keep := m) hx
            generalize l[k]'hlt = x at *
            have hbk1 : Bk (grow ((w.alloc (.cells #[.slice (some ⟨g3, 0, none⟩) l.length c3] 26)).alloc (.cells #[.slice none 0 0] 26)) ext5 (d5 + 1)) g3 ((crashK m l k).flatMap cFile ++ J) 70 := hbk.out
            obtain ⟨r0, r1, r2⟩ := file_cells hbk1 hat
            have f1 := hbk1.frozen (k * 3 + 1)
            have f2 := hbk1.frozen (k * 3 + 2)
            have HBK1 := Lib.hid hbk1
            clear hbk1
            have HAT := Lib.hid hat
            have HSET := Lib.hid hset
            clear hx hat hset
            go_wp2_with fail
            go_region
            have hb6 : Below ((w.alloc (.cells #[.slice (some ⟨g3, 0, none⟩) l.length c3] 26)).alloc (.cells #[.slice none 0 0] 26)).heap.size ((w.alloc (.cells #[.slice (some ⟨g3, 0, none⟩) l.length c3] 26)).alloc (.cells #[.slice none 0 0] 26)) (((grow ((w.alloc (.cells #[.slice (some ⟨g3, 0, none⟩) l.length c3] 26)).alloc (.cells #[.slice none 0 0] 26)) ext5 (d5 + 1)).setCell ⟨g3, k * 3 + 1, none⟩ (.string (x.safe ++ x.tail.extract 0 (min (m : Int) (x.tail.size : Int)).toNat))).setCell ⟨g3, k * 3 + 2, none⟩ (.string ⟨#[]⟩)) := Below.put (Below.put (by repeat (first | exact Below.refl _ _ | assumption | refine Below.drew ?_ | refine Below.drewN' ?_ _ | refine below_grow0 _ _ ?_ | refine below_alloc0 _ ?_ | refine Below.alloc ?_ (by first | omega | (simp; done) | (simp; omega)) _ | refine Below.setCell ?_ (by first | omega | (simp; done) | (simp; omega)) _ | refine Below.grow _ _ _ ?_ (by first | omega | (simp; done) | (simp; omega)))) (by simp; omega)) (by simp; omega)
            have hbk6 : Bk (((grow ((w.alloc (.cells #[.slice (some ⟨g3, 0, none⟩) l.length c3] 26)).alloc (.cells #[.slice none 0 0] 26)) ext5 (d5 + 1)).setCell ⟨g3, k * 3 + 1, none⟩ (.string (x.safe ++ x.tail.extract 0 (min (m : Int) (x.tail.size : Int)).toNat))).setCell ⟨g3, k * 3 + 2, none⟩ (.string ⟨#[]⟩)) g3 ((crashK m l (k + 1)).flatMap cFile ++ J) 70 := by
              have := (HBK1.out.put (k * 3 + 1) (.string (x.safe ++ x.tail.extract 0 (min (m : Int) (x.tail.size : Int)).toNat))).put (k * 3 + 2) (.string ⟨#[]⟩)
              rw [set_file HAT.out] at this
              rw [← HSET.out]
              unfold crashF
              rw [show (min (m : Int) (x.tail.size : Int)).toNat = min m x.tail.size from by omega] at this ⊢
              exact this
            generalize (((grow ((w.alloc (.cells #[.slice (some ⟨g3, 0, none⟩) l.length c3] 26)).alloc (.cells #[.slice none 0 0] 26)) ext5 (d5 + 1)).setCell ⟨g3, k * 3 + 1, none⟩ (.string (x.safe ++ x.tail.extract 0 (min (m : Int) (x.tail.size : Int)).toNat))).setCell ⟨g3, k * 3 + 2, none⟩ (.string ⟨#[]⟩)) = w6 at hb6 hbk6 ⊢
            obtain ⟨ext6, d6, rfl⟩ := Below.grown_eq _ hb6
            have HBK6 := Lib.hid hbk6
            clear hb6 hbk6 hbk HBK1 r0 r1 r2 f1 f2
            go_wp2_with fail
            go_roundw
            case rel => exact ⟨k + 1, _, _, by omega, by go_num, rfl, HBK6⟩
            case measure => simp [intOf]; omega
          · have hk' : k = l.length := by omega
            subst hk'
            have hbk' := hbk.out
            rw [crashK_all] at hbk'
            have HBK := Lib.hid hbk'
            clear hbk hbk'
            go_wp2_with fail
            have hlen : ((l.map (crashF m)).flatMap cFile ++ J).length = c3 * 3 := by
              rw [← HCL.out, List.length_append, List.length_append, flatMap_length (f := cFile) (s := 3) (fun _ _ => rfl), flatMap_length (f := cFile) (s := 3) (fun _ _ => rfl), List.length_map]
            refine bodyPost_ret (v := .tuple #[.agg #[.slice (some ⟨g3, 0, none⟩) l.length c3], .int .i64 0]) (by simp [results, Tryd.results17, go_sem]) rfl ⟨some ⟨g3, 0, none⟩, c3, by rw [List.length_map], ?_, (by repeat (first | exact Below.refl _ _ | assumption | refine Below.drew ?_ | refine Below.drewN' ?_ _ | refine below_grow0 _ _ ?_ | refine below_alloc0 _ ?_ | refine Below.alloc ?_ (by first | omega | (simp; done) | (simp; omega)) _ | refine Below.setCell ?_ (by first | omega | (simp; done) | (simp; omega)) _ | refine Below.grow _ _ _ ?_ (by first | omega | (simp; done) | (simp; omega))))⟩
            exact Ow.of_blk (f := cFile) (s := 3) (B := w.heap.size) (fun _ _ => rfl) (by omega) (HBK.out.regrow (by simp; omega) (by simp)) rfl hlen (by rw [List.length_map]; exact hlc) hcm
end Go.Proofs.YtkoemhdchoicaaaDoor

/- the laws' helpers on disks: copied, sameDisk, pick. -/
namespace Go.Proofs.YtkoemhdchoicaaaDoor
open Go.RowKit Go.ChangeShapes Go.WideShapes Go.ChangeAt
theorem retI {k : IntKind} {a b : Int} (h : a = b) : Ending.returned (.int k a) = Ending.returned (.int k b) := by rw [h]
theorem pick_is (k : Int) (n : Nat) (w : World) (h0 : 0 < n) (h1 : n ≤ 140737488355328) :
    Calls Tryd.prog 10 #[.int .i64 k, .int .i64 n] w fun e w' => ∃ f : Nat, f < n ∧ e = .returned (.int .i64 f) ∧ w = w' := by
  have ht1 : -(n : Int) < k.tmod n := by
    have := Int.tmod_lt_of_pos (-k) (show (0 : Int) < n by omega)
    rw [Int.neg_tmod] at this
    omega
  have ht2 : k.tmod n < (n : Int) := Int.tmod_lt_of_pos _ (by omega)
  generalize hq : k.tmod n = q at *
  by_cases hn : q < 0
  · go_enter Tryd.func10, Tryd.ntmps10
    go_wp2
    go_ret
    exact ⟨(q + n).toNat, by omega, retI (by omega), rfl⟩
  · go_enter Tryd.func10, Tryd.ntmps10
    go_wp2
    go_ret
    exact ⟨q.toNat, by omega, retI (by omega), rfl⟩
end Go.Proofs.YtkoemhdchoicaaaDoor

/- Files in order: plain laws of what is written, cut, removed and read. -/
namespace Go.Proofs.YtkoemhdchoicaaaDoor
open Go.RowKit Go.Lib
def ltF (x y : File) : Prop := cmpB x.name y.name < 0
theorem posF_of {l : List File} (hs : l.Pairwise ltF) (p : ByteArray) (k : Nat) (x : File) (hx : l[k]? = some x) : k < posK (l.map File.name) p ↔ cmpB x.name p < 0 := by
  have hk : k < l.length := (List.getElem?_eq_some_iff.1 hx).1
  have hlt : ∀ (k : Nat) (x : File), l[k]? = some x → ltK (l.map File.name) p k = decide (cmpB x.name p < 0) := fun k x h => ltK_of (g := File.name) h p
  obtain ⟨m, hm, h1, h2⟩ := border (ltK (l.map File.name) p) l.length (by
    intro i j hij hj h
    have hi := List.getElem?_eq_getElem (l := l) (i := i) (by omega)
    have hj2 := List.getElem?_eq_getElem (l := l) (i := j) hj
    rw [hlt j _ hj2] at h
    rw [hlt i _ hi]
    simp at h ⊢
    exact cb_trans _ _ _ (List.pairwise_iff_getElem.1 hs i j (by omega) hj hij) h)
  have hp : posK (l.map File.name) p = m := by
    unfold posK
    rw [List.length_map]
    exact bsr_sorted _ m l.length 0 l.length (by omega) (Nat.zero_le _) hm h1 h2
  rw [hp]
  constructor
  · intro h
    have := h1 k h
    rw [hlt k x hx] at this
    simpa using this
  · intro h
    rcases Nat.lt_or_ge k m with hlt2 | hge
    · exact hlt2
    · have := h2 k hge hk
      rw [hlt k x hx] at this
      simp at this
      omega
theorem atF_of {l : List File} (hs : l.Pairwise ltF) {k : Nat} {x : File} (hx : l[k]? = some x) : posK (l.map File.name) x.name = k ∧ isK (l.map File.name) x.name = true := by
  have h1 : ¬ k < posK (l.map File.name) x.name := by rw [posF_of hs x.name k x hx, cmpB_self]; omega
  have hk : k < l.length := (List.getElem?_eq_some_iff.1 hx).1
  have h2 : posK (l.map File.name) x.name = k := by
    rcases Nat.lt_or_ge (posK (l.map File.name) x.name) k with h | h
    · have hy := List.getElem?_eq_getElem (l := l) (i := posK (l.map File.name) x.name) (by omega)
      have h3 : cmpB l[posK (l.map File.name) x.name].name x.name < 0 := by
        have := List.pairwise_iff_getElem.1 hs _ k (by omega) hk h
        rw [(List.getElem?_eq_some_iff.1 hx).2] at this
        exact this
      rw [← posF_of hs x.name _ _ hy] at h3
      omega
    · omega
  exact ⟨h2, by rw [isK_in h2 hx, cmpB_self]; rfl⟩
theorem noneF_of {l : List File} (p : ByteArray) (h : ∀ x ∈ l, x.name ≠ p) : isK (l.map File.name) p = false := by
  rcases Nat.lt_or_ge (posK (l.map File.name) p) l.length with hlt | hge
  · have hy := List.getElem?_eq_getElem (l := l) (i := posK (l.map File.name) p) hlt
    rw [isK_in rfl hy]
    have := h _ (List.getElem_mem hlt)
    simp
    intro h0
    exact this (cmpB_zero h0)
  · exact isK_out rfl (by omega)
theorem beforeF_of {l : List File} (hs : l.Pairwise ltF) (p : ByteArray) : ∀ y ∈ l.take (posK (l.map File.name) p), cmpB y.name p < 0 := by
  intro y hy
  obtain ⟨k, hk⟩ := List.mem_iff_getElem?.1 hy
  rw [List.getElem?_take] at hk
  split at hk
  · exact (posF_of hs p k y hk).1 (by assumption)
  · cases hk
theorem behindF_of {l : List File} (hs : l.Pairwise ltF) (p : ByteArray) (h : isK (l.map File.name) p = false) : ∀ y ∈ l.drop (posK (l.map File.name) p), cmpB p y.name < 0 := by
  intro y hy
  obtain ⟨k, hk⟩ := List.mem_iff_getElem?.1 hy
  rw [List.getElem?_drop] at hk
  have h1 := mt (posF_of hs p _ y hk).2 (by omega)
  have h2 : cmpB y.name p ≠ 0 := by
    intro h0
    obtain rfl := cmpB_zero h0
    rw [(atF_of hs hk).2] at h
    cases h
  exact cb_swap' _ _ (by unfold cmpB at h1 h2; omega)
theorem isF_at {l : List File} {p : ByteArray} (h : isK (l.map File.name) p = true) : ∃ hq : posK (l.map File.name) p < l.length, (l[posK (l.map File.name) p]'hq).name = p := by
  have hq := isK_in_file h
  refine ⟨hq, ?_⟩
  rw [isK_in rfl (List.getElem?_eq_getElem hq)] at h
  exact cmpB_zero (by simpa using h)
theorem fileAt_is {l : List File} {p : ByteArray} (h : isK (l.map File.name) p = true) : (fileAt l p).name = p ∧ fileAt l p ∈ l := by
  obtain ⟨hq, hn⟩ := isF_at h
  have : fileAt l p = l[posK (l.map File.name) p] := by
    unfold fileAt
    rw [List.getD_eq_getElem?_getD, List.getElem?_eq_getElem hq]
    rfl
  rw [this]
  exact ⟨hn, List.getElem_mem hq⟩
theorem lookF_of {l : List File} (hs : l.Pairwise ltF) {y : File} (hy : y ∈ l) : isK (l.map File.name) y.name = true ∧ fileAt l y.name = y := by
  obtain ⟨k, hk⟩ := List.mem_iff_getElem?.1 hy
  obtain ⟨h1, h2⟩ := atF_of hs hk
  refine ⟨h2, ?_⟩
  unfold fileAt
  rw [h1, List.getD_eq_getElem?_getD, hk]
  rfl
/-- a file put where it stands, or would -/
def putL (l : List File) (x : File) : List File := if isK (l.map File.name) x.name then l.set (posK (l.map File.name) x.name) x else l.take (posK (l.map File.name) x.name) ++ x :: l.drop (posK (l.map File.name) x.name)
theorem setF_split {l : List File} {q : Nat} (hq : q < l.length) (x : File) : l.set q x = l.take q ++ x :: l.drop (q + 1) := by rw [List.set_eq_take_append_cons_drop, if_pos hq]
theorem putL_sorted {l : List File} (hpw : l.Pairwise ltF) (x : File) : (putL l x).Pairwise ltF := by
  unfold putL
  cases hk : isK (l.map File.name) x.name with
  | true =>
    obtain ⟨hq, he⟩ := isF_at hk
    rw [if_pos rfl, setF_split hq]
    have e : l = l.take (posK (l.map File.name) x.name) ++ l[posK (l.map File.name) x.name] :: l.drop (posK (l.map File.name) x.name + 1) := by rw [List.getElem_cons_drop, List.take_append_drop]
    generalize l[posK (l.map File.name) x.name] = y at e he
    generalize posK (l.map File.name) x.name = q at e
    generalize l.take q = a at e ⊢
    generalize l.drop (q + 1) = b at e ⊢
    rw [e] at hpw
    simp only [List.pairwise_append, List.pairwise_cons, List.mem_cons, forall_eq_or_imp] at hpw ⊢
    unfold ltF at hpw ⊢
    rw [← he]
    exact hpw
  | false =>
    rw [if_neg (by simp)]
    have e := List.take_append_drop (posK (l.map File.name) x.name) l
    have hb := beforeF_of hpw x.name
    have ha := behindF_of hpw x.name hk
    generalize posK (l.map File.name) x.name = q at e hb ha
    generalize l.take q = a at e hb ⊢
    generalize l.drop q = b at e ha ⊢
    rw [← e] at hpw
    simp only [List.pairwise_append, List.pairwise_cons, List.mem_cons, forall_eq_or_imp] at hpw ⊢
    unfold ltF at hpw ⊢
    exact ⟨hpw.1, ⟨ha, hpw.2.1⟩, fun y hy => ⟨hb y hy, hpw.2.2 y hy⟩⟩
theorem mem_putL {l : List File} (hpw : l.Pairwise ltF) (x y : File) : y ∈ putL l x ↔ y = x ∨ (y ∈ l ∧ y.name ≠ x.name) := by
  unfold putL
  cases hk : isK (l.map File.name) x.name with
  | true =>
    obtain ⟨hq, he⟩ := isF_at hk
    rw [if_pos rfl, setF_split hq]
    have e : l = l.take (posK (l.map File.name) x.name) ++ l[posK (l.map File.name) x.name] :: l.drop (posK (l.map File.name) x.name + 1) := by rw [List.getElem_cons_drop, List.take_append_drop]
    generalize l[posK (l.map File.name) x.name] = z at e he
    generalize posK (l.map File.name) x.name = q at e
    generalize l.take q = a at e ⊢
    generalize l.drop (q + 1) = b at e ⊢
    rw [e] at hpw
    simp only [List.pairwise_append, List.pairwise_cons, List.mem_cons, forall_eq_or_imp] at hpw
    unfold ltF at hpw
    rw [e]
    simp only [List.mem_append, List.mem_cons]
    constructor
    · rintro (h | h | h)
      · exact .inr ⟨.inl h, fun hp => by have := (hpw.2.2 y h).1; rw [hp, he, cmpB_self] at this; omega⟩
      · exact .inl h
      · exact .inr ⟨.inr (.inr h), fun hp => by have := hpw.2.1.1 y h; rw [hp, he, cmpB_self] at this; omega⟩
    · rintro (h | ⟨h | h | h, hp⟩)
      · exact .inr (.inl h)
      · exact .inl h
      · exact absurd (h ▸ he) hp
      · exact .inr (.inr h)
  | false =>
    rw [if_neg (by simp)]
    have hm : ∀ z, z ∈ l ↔ z ∈ l.take (posK (l.map File.name) x.name) ∨ z ∈ l.drop (posK (l.map File.name) x.name) := fun z => by rw [← List.mem_append, List.take_append_drop]
    have hn : y ∈ l → y.name ≠ x.name := by
      intro h hp
      obtain ⟨k, hk2⟩ := List.mem_iff_getElem?.1 h
      have := (atF_of hpw hk2).2
      rw [hp, hk] at this
      cases this
    simp only [List.mem_append, List.mem_cons]
    rw [hm]
    rw [hm] at hn
    constructor
    · rintro (h | h | h)
      · exact .inr ⟨.inl h, hn (.inl h)⟩
      · exact .inl h
      · exact .inr ⟨.inr h, hn (.inr h)⟩
    · rintro (h | ⟨h | h, _⟩)
      · exact .inr (.inl h)
      · exact .inl h
      · exact .inr (.inr h)
/-- the list without what stands at p -/
def offL (l : List File) (p : ByteArray) : List File := l.take (posK (l.map File.name) p) ++ l.drop (posK (l.map File.name) p + 1)
theorem offL_sorted {l : List File} (hpw : l.Pairwise ltF) (p : ByteArray) : (offL l p).Pairwise ltF := by
  refine List.Pairwise.sublist ?_ hpw
  unfold offL
  have h1 : (l.take (posK (l.map File.name) p) ++ l.drop (posK (l.map File.name) p)).Sublist l := by rw [List.take_append_drop]; exact List.Sublist.refl _
  refine List.Sublist.trans (List.Sublist.append (List.Sublist.refl _) ?_) h1
  rw [← List.drop_drop]
  exact List.drop_sublist _ _
theorem mem_offL {l : List File} (hpw : l.Pairwise ltF) {p : ByteArray} (hk : isK (l.map File.name) p = true) (y : File) : y ∈ offL l p ↔ (y ∈ l ∧ y.name ≠ p) := by
  obtain ⟨hq, he⟩ := isF_at hk
  unfold offL
  have e : l = l.take (posK (l.map File.name) p) ++ l[posK (l.map File.name) p] :: l.drop (posK (l.map File.name) p + 1) := by rw [List.getElem_cons_drop, List.take_append_drop]
  generalize l[posK (l.map File.name) p] = z at e he
  generalize posK (l.map File.name) p = q at e
  generalize l.take q = a at e ⊢
  generalize l.drop (q + 1) = b at e ⊢
  rw [e] at hpw
  simp only [List.pairwise_append, List.pairwise_cons, List.mem_cons, forall_eq_or_imp] at hpw
  unfold ltF at hpw
  rw [e]
  simp only [List.mem_append, List.mem_cons]
  constructor
  · rintro (h | h)
    · exact ⟨.inl h, fun hp => by have := (hpw.2.2 y h).1; rw [hp, he, cmpB_self] at this; omega⟩
    · exact ⟨.inr (.inr h), fun hp => by have := hpw.2.1.1 y h; rw [hp, he, cmpB_self] at this; omega⟩
  · rintro ⟨h | h | h, hp⟩
    · exact .inl h
    · exact absurd (h ▸ he) hp
    · exact .inr h
theorem goodD_iff (l : List File) : goodD l = true ↔ l.length ≤ 16 ∧ (∀ x ∈ l, okF x = true) ∧ l.Pairwise ltF := by
  unfold goodD
  rw [Bool.and_eq_true, List.all_eq_true, decide_eq_true_iff]
  refine and_congr Iff.rfl ?_
  constructor
  · intro h
    have hstep : ∀ k x, l[k]? = some x → okF x = true ∧ ∀ j y, k = j + 1 → l[j]? = some y → cmpB y.name x.name < 0 := by
      intro k x hx
      have h1 := h k (List.mem_range.2 (List.getElem?_eq_some_iff.1 hx).1)
      unfold stepF at h1
      rw [hx] at h1
      simp only [Bool.and_eq_true] at h1
      refine ⟨h1.1, fun j y hj hy => ?_⟩
      subst hj
      have h2 := h1.2
      simp only [hy] at h2
      simpa using h2
    refine ⟨fun x hx => ?_, ?_⟩
    · obtain ⟨k, hk⟩ := List.mem_iff_getElem?.1 hx
      exact (hstep k x hk).1
    · have hadj : ∀ d i x y, l[i]? = some x → l[i + d + 1]? = some y → cmpB x.name y.name < 0 := by
        intro d
        induction d with
        | zero => intro i x y hx hy; exact (hstep (i + 1) y hy).2 i x rfl hx
        | succ d ih =>
          intro i x y hx hy
          have hlt := (List.getElem?_eq_some_iff.1 hy).1
          have hz := List.getElem?_eq_getElem (l := l) (i := i + d + 1) (by omega)
          exact cb_trans _ _ _ (ih i x _ hx hz) ((hstep (i + d + 1 + 1) y hy).2 (i + d + 1) _ rfl hz)
      rw [List.pairwise_iff_getElem]
      intro i j hi hj hij
      exact hadj (j - i - 1) i _ _ (List.getElem?_eq_getElem hi) (by rw [show i + (j - i - 1) + 1 = j from by omega]; exact List.getElem?_eq_getElem hj)
  · rintro ⟨hok, hs⟩ i hi
    have hi2 := List.mem_range.1 hi
    have hx := List.getElem?_eq_getElem hi2
    unfold stepF
    simp only [hx, Bool.and_eq_true]
    refine ⟨hok _ (List.getElem_mem hi2), ?_⟩
    cases i with
    | zero => rfl
    | succ j =>
      have hy := List.getElem?_eq_getElem (l := l) (i := j) (by omega)
      simp only [hy]
      exact decide_eq_true (List.pairwise_iff_getElem.1 hs j (j + 1) (by omega) hi2 (by omega))
/-- what a read gives, by the files -/
theorem read_mem {l : List File} (hg : goodD l = true) {x : File} (hx : x ∈ l) : readE l x.name = 0 ∧ readS l x.name = x.safe ++ x.tail := by
  have := lookF_of ((goodD_iff l).1 hg).2.2 hx
  unfold readE readS
  rw [hg, this.1, this.2]
  exact ⟨rfl, rfl⟩
theorem read_none {l : List File} (hg : goodD l = true) {p : ByteArray} (h : ∀ x ∈ l, x.name ≠ p) : readE l p = 7 ∧ readS l p = ⟨#[]⟩ := by
  have := noneF_of p h
  unfold readE readS
  rw [hg, this]
  exact ⟨rfl, rfl⟩
/-- two good disks with the same files under p read alike at p -/
theorem read_alike {l m : List File} (hl : goodD l = true) (hm : goodD m = true) (p : ByteArray) (h : ∀ x : File, x.name = p → (x ∈ m ↔ x ∈ l)) : readE m p = readE l p ∧ readS m p = readS l p := by
  by_cases hx : ∃ x, x ∈ l ∧ x.name = p
  · obtain ⟨x, h1, rfl⟩ := hx
    have a := read_mem hl h1
    have b := read_mem hm ((h x rfl).2 h1)
    exact ⟨b.1.trans a.1.symm, b.2.trans a.2.symm⟩
  · have a := read_none hl (p := p) (fun x h1 h2 => hx ⟨x, h1, h2⟩)
    have b := read_none hm (p := p) (fun x h1 h2 => hx ⟨x, (h x h2).1 h1, h2⟩)
    exact ⟨b.1.trans a.1.symm, b.2.trans a.2.symm⟩
theorem putL_good {l : List File} (hl : goodD l = true) {x : File} (hx : okF x = true) (hn : isK (l.map File.name) x.name = true ∨ l.length < 16) : goodD (putL l x) = true := by
  obtain ⟨h1, h2, h3⟩ := (goodD_iff l).1 hl
  refine (goodD_iff _).2 ⟨?_, ?_, putL_sorted h3 x⟩
  · unfold putL
    split
    · rw [List.length_set]; exact h1
    · rename_i hk
      rcases hn with h | h
      · exact absurd h hk
      · simp
        omega
  · intro y hy
    rcases (mem_putL h3 x y).1 hy with rfl | ⟨h, _⟩
    · exact hx
    · exact h2 y h
theorem putL_reads {l : List File} (hl : goodD l = true) {x : File} (hx : goodD (putL l x) = true) : readE (putL l x) x.name = 0 ∧ readS (putL l x) x.name = x.safe ++ x.tail :=
  read_mem hx ((mem_putL ((goodD_iff l).1 hl).2.2 x x).2 (.inl rfl))
theorem putL_others {l : List File} (hl : goodD l = true) {x : File} (hx : goodD (putL l x) = true) {p : ByteArray} (hp : p ≠ x.name) : readE (putL l x) p = readE l p ∧ readS (putL l x) p = readS l p := by
  refine read_alike hl hx p fun y hy => ?_
  rw [mem_putL ((goodD_iff l).1 hl).2.2]
  constructor
  · rintro (rfl | h)
    · exact absurd hy.symm hp
    · exact h.1
  · intro h
    exact .inr ⟨h, by rw [hy]; exact hp⟩
theorem offL_good {l : List File} (hl : goodD l = true) {p : ByteArray} (hk : isK (l.map File.name) p = true) : goodD (offL l p) = true := by
  obtain ⟨h1, h2, h3⟩ := (goodD_iff l).1 hl
  refine (goodD_iff _).2 ⟨?_, ?_, offL_sorted h3 p⟩
  · unfold offL
    simp
    omega
  · intro y hy
    exact h2 y ((mem_offL h3 hk y).1 hy).1
theorem crash_good {l : List File} (hl : goodD l = true) (n : Nat) : goodD (l.map (crashF n)) = true := by
  obtain ⟨h1, h2, h3⟩ := (goodD_iff l).1 hl
  refine (goodD_iff _).2 ⟨by simpa using h1, ?_, ?_⟩
  · intro y hy
    obtain ⟨x, hx, rfl⟩ := List.mem_map.1 hy
    have := h2 x hx
    unfold okF at this ⊢
    rw [Bool.and_eq_true, decide_eq_true_iff] at this ⊢
    refine ⟨this.1, ?_⟩
    have := this.2
    show (x.safe ++ x.tail.extract 0 (min n x.tail.size)).size + 0 ≤ 1048576
    rw [ByteArray.size_append, ByteArray.size_extract]
    omega
  · rw [List.pairwise_map]
    exact h3
theorem crash_reads {l : List File} (hl : goodD l = true) (n : Nat) {x : File} (hx : x ∈ l) : readE (l.map (crashF n)) x.name = 0 ∧ readS (l.map (crashF n)) x.name = x.safe ++ x.tail.extract 0 (min n x.tail.size) := by
  have := read_mem (crash_good hl n) (List.mem_map.2 ⟨x, hx, rfl⟩)
  exact ⟨this.1, this.2.trans ByteArray.append_empty⟩
end Go.Proofs.YtkoemhdchoicaaaDoor
