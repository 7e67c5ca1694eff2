/- Lemmas for the statement: Bs, T3, Copy, Own, T4, Put, Clone, Client, Cache, Cache2, Caching, Order, Zxid, WGood, TreeM, PathD, TreeL. -/
import Derived.Laws.CopyOwn
import Derived.Lib.AppendZerosOnto
import Derived.Lib.AppendZeros
import Derived.Lib.Overlaps
import Derived.Laws.Externs
import Derived.Deep.RegionLaw
import Derived.Deep.RegionHeld3
import Derived.Laws.BitsAllLaws
import Derived.Laws.BitsLemmas
import Derived.Test.YteolglmifimnaaaDoorPt1
import Derived.Test.YteolglmifimnaaaDoorPt2
/- The search by halves, as a function on places; the comparing of bytes. -/
namespace Go.Proofs.YteolglmifimnaaaDoor
open Go.RowKit
def bsF (lt : Nat → Bool) : Nat → Nat → Nat → Nat
  | 0, i, _ => i
  | f + 1, i, j => if i < j then (if lt ((i + j) / 2) then bsF lt f ((i + j) / 2 + 1) j else bsF lt f i ((i + j) / 2)) else i
theorem bsF_fuel (lt : Nat → Bool) : ∀ (f g i j : Nat), j - i ≤ f → j - i ≤ g → bsF lt f i j = bsF lt g i j
  | 0, 0, i, j, _, _ => rfl
  | 0, g + 1, i, j, h, _ => by
    have : ¬ i < j := by omega
    simp [bsF, this]
  | f + 1, 0, i, j, _, h => by
    have : ¬ i < j := by omega
    simp [bsF, this]
  | f + 1, g + 1, i, j, h, h' => by
    simp only [bsF]
    split
    · split
      · exact bsF_fuel lt f g _ _ (by omega) (by omega)
      · exact bsF_fuel lt f g _ _ (by omega) (by omega)
    · rfl
/-- where the search ends that begins with i and j -/
def bsr (lt : Nat → Bool) (i j : Nat) : Nat := bsF lt (j - i) i j
theorem bsr_end (lt : Nat → Bool) (i j : Nat) (h : ¬ i < j) : bsr lt i j = i := by
  unfold bsr
  rw [show j - i = 0 from by omega]
  rfl
theorem bsr_up (lt : Nat → Bool) (i j : Nat) (h : i < j) (hl : lt ((i + j) / 2) = true) : bsr lt i j = bsr lt ((i + j) / 2 + 1) j := by
  unfold bsr
  obtain ⟨f, hf⟩ : ∃ f, j - i = f + 1 := ⟨j - i - 1, by omega⟩
  rw [hf]
  simp only [bsF, h, hl, if_true]
  exact bsF_fuel lt _ _ _ _ (by omega) (by omega)
theorem bsr_down (lt : Nat → Bool) (i j : Nat) (h : i < j) (hl : lt ((i + j) / 2) = false) : bsr lt i j = bsr lt i ((i + j) / 2) := by
  unfold bsr
  obtain ⟨f, hf⟩ : ∃ f, j - i = f + 1 := ⟨j - i - 1, by omega⟩
  rw [hf]
  simp only [bsF, h, hl, if_true, Bool.false_eq_true, if_false]
  exact bsF_fuel lt _ _ _ _ (by omega) (by omega)
theorem bsr_range (lt : Nat → Bool) : ∀ (f i j : Nat), j - i ≤ f → i ≤ j → i ≤ bsr lt i j ∧ bsr lt i j ≤ j
  | 0, i, j, h, hij => by rw [bsr_end lt i j (by omega)]; omega
  | f + 1, i, j, h, hij => by
    by_cases hlt : i < j
    · cases hl : lt ((i + j) / 2)
      · rw [bsr_down lt i j hlt hl]
        have := bsr_range lt f i ((i + j) / 2) (by omega) (by omega)
        omega
      · rw [bsr_up lt i j hlt hl]
        have := bsr_range lt f ((i + j) / 2 + 1) j (by omega) (by omega)
        omega
    · rw [bsr_end lt i j hlt]; omega
theorem bsr_le (lt : Nat → Bool) (n : Nat) : bsr lt 0 n ≤ n := (bsr_range lt n 0 n (by omega) (by omega)).2
/-- where what is less stands first, the search finds the border -/
theorem bsr_sorted (lt : Nat → Bool) (m : Nat) : ∀ (f i j : Nat), j - i ≤ f → i ≤ m → m ≤ j → (∀ k, k < m → lt k = true) → (∀ k, m ≤ k → k < j → lt k = false) → bsr lt i j = m
  | 0, i, j, h, h1, h2, _, _ => by rw [bsr_end lt i j (by omega)]; omega
  | f + 1, i, j, h, h1, h2, hl, hg => by
    by_cases hlt : i < j
    · cases hx : lt ((i + j) / 2)
      · rw [bsr_down lt i j hlt hx]
        have : m ≤ (i + j) / 2 := by
          rcases Nat.lt_or_ge ((i + j) / 2) m with h3 | h3
          · rw [hl _ h3] at hx; cases hx
          · exact h3
        exact bsr_sorted lt m f i _ (by omega) h1 this hl (fun k hk hk' => hg k hk (by omega))
      · rw [bsr_up lt i j hlt hx]
        have : (i + j) / 2 + 1 ≤ m := by
          rcases Nat.lt_or_ge ((i + j) / 2) m with h3 | h3
          · omega
          · rw [hg _ h3 (by omega)] at hx; cases hx
        exact bsr_sorted lt m f _ j (by omega) this h2 hl hg
    · rw [bsr_end lt i j hlt]; omega
end Go.Proofs.YteolglmifimnaaaDoor

namespace Go.Proofs.YteolglmifimnaaaDoor
open Go.RowKit
def bs3 (s : ByteArray) : List UInt8 := s.data.toList
def cmpB (a b : ByteArray) : Int := Lib.compareBytes a.data.toList b.data.toList
/-- is the k-th of these texts less? -/
def ltK (ks : List ByteArray) (p : ByteArray) (k : Nat) : Bool := decide (cmpB (ks.getD k ByteArray.empty) p < 0)
def posK (ks : List ByteArray) (p : ByteArray) : Nat := bsr (ltK ks p) 0 ks.length
def isK (ks : List ByteArray) (p : ByteArray) : Bool := decide (posK ks p < ks.length) && decide (cmpB (ks.getD (posK ks p) ByteArray.empty) p = 0)

theorem ltK_of {α : Type} {g : α → ByteArray} {l : List α} {k : Nat} {x : α} (h : l[k]? = some x) (p : ByteArray) : ltK (l.map g) p k = decide (cmpB (g x) p < 0) := by
  unfold ltK
  rw [List.getD_eq_getElem?_getD, List.getElem?_map, h]
  rfl
theorem isK_in {α : Type} {g : α → ByteArray} {l : List α} {p : ByteArray} {k : Nat} {x : α} (hp : posK (l.map g) p = k) (h : l[k]? = some x) : isK (l.map g) p = (cmpB (g x) p == 0) := by
  have hk : k < l.length := (List.getElem?_eq_some_iff.1 h).1
  unfold isK
  rw [hp, List.getD_eq_getElem?_getD, List.getElem?_map, h]
  simp [hk]
  rfl
theorem isK_out {α : Type} {g : α → ByteArray} {l : List α} {p : ByteArray} {k : Nat} (hp : posK (l.map g) p = k) (h : ¬ k < l.length) : isK (l.map g) p = false := by
  unfold isK
  rw [hp]
  simp
  omega
end Go.Proofs.YteolglmifimnaaaDoor

/- copy and append with room made, for elements of several cells: laws of no program; a row spliced. -/
namespace Go.Proofs.YteolglmifimnaaaDoor
open Go.RowKit
/-- a block known whole -/
def Bk (w : World) (g : Nat) (cs : List Value) (t : TypeId) : Prop := w.heap[g]? = some (.cells cs.toArray t (0, 0))
theorem Bk.lt {w : World} {g : Nat} {cs : List Value} {t : TypeId} (h : Bk w g cs t) : g < w.heap.size := (Array.getElem?_eq_some_iff.1 h).1
theorem Bk.cell {w : World} {g : Nat} {cs : List Value} {t : TypeId} (h : Bk w g cs t) (i : Nat) : w.cell? ⟨g, i, none⟩ = cs[i]? := by unfold Bk at h; simp [World.cell?, h]
theorem Bk.frozen {w : World} {g : Nat} {cs : List Value} {t : TypeId} (h : Bk w g cs t) (i : Nat) : w.frozen? ⟨g, i, none⟩ = false := by unfold Bk at h; simp [World.frozen?, h]
theorem Bk.grown {w w' : World} {g : Nat} {cs : List Value} {t : TypeId} {row : Option Nat} (h : Bk w g cs t) (hg : w.grownBy w' row) (hne : some g ≠ row) : Bk w' g cs t := (hg.block g h.lt hne).trans h
theorem Bk.below {w w' : World} {g : Nat} {cs : List Value} {t : TypeId} (h : Bk w g cs t) (hb : Below w.heap.size w w') : Bk w' g cs t := (hb.block g h.lt).trans h

theorem ins1 {α : Type} (A B J X : List α) (h : X.length ≤ J.length) : splice (splice (A ++ B ++ J) (A.length + X.length) B) A.length X = A ++ X ++ B ++ J.drop X.length := by
  unfold splice
  have e1 : ((A ++ B ++ J).take (A.length + X.length)).length = A.length + X.length := by simp; omega
  have e2 : (A ++ B ++ J).drop (A.length + X.length + B.length) = J.drop X.length := by
    rw [List.drop_append, List.drop_eq_nil_of_le (by simp <;> omega), List.nil_append]
    congr 1
    simp
    omega
  have e3 : (((A ++ B ++ J).take (A.length + X.length)) ++ (B ++ (A ++ B ++ J).drop (A.length + X.length + B.length))).take A.length = A := by
    rw [List.take_append_of_le_length (by rw [e1]; omega), List.take_take, Nat.min_eq_left (by omega), List.append_assoc, List.take_left]
  have e4 : (((A ++ B ++ J).take (A.length + X.length)) ++ (B ++ (A ++ B ++ J).drop (A.length + X.length + B.length))).drop (A.length + X.length) = B ++ (A ++ B ++ J).drop (A.length + X.length + B.length) := by
    rw [List.drop_append_of_le_length (by rw [e1]; omega), List.drop_eq_nil_of_le (by rw [e1]; omega), List.nil_append]
  rw [e3, e4, e2]
  simp
theorem ins2 {α : Type} (A Z B X : List α) : splice (splice (A ++ Z) A.length X) (A.length + X.length) B = A ++ X ++ B ++ Z.drop (X.length + B.length) := by
  unfold splice
  rw [List.take_left]
  have e1 : (A ++ Z).drop (A.length + X.length) = Z.drop X.length := by rw [List.drop_append, List.drop_eq_nil_of_le (by omega)]; simp
  rw [e1]
  have e2 : (A ++ (X ++ Z.drop X.length)).take (A.length + X.length) = A ++ X := by rw [← List.append_assoc, ← List.length_append, List.take_left]
  have e3 : (A ++ (X ++ Z.drop X.length)).drop (A.length + X.length + B.length) = Z.drop (X.length + B.length) := by
    rw [← List.append_assoc, ← List.length_append, ← List.drop_drop, List.drop_left, List.drop_drop]
  rw [e2, e3]
  simp
theorem splice_length {α : Type} (L : List α) (o : Nat) (cs : List α) (h : o + cs.length ≤ L.length) : (splice L o cs).length = L.length := length_splice L o cs h

section
variable {P : Program}
theorem run_copy_blk {w : World} {dT sT ty e : TypeId} {s g o dLen dCap : Nat} {a : Addr} {sLen sCap : Nat} {cur : List Value} {t : TypeId} {cs : List Value}
    (hu : P.underlying dT = some (.slice e)) (hs : (P.info? e).map (·.size) = some s) (hg : Bk w g cur t) (hn : cs.length = Nat.min sLen dLen * s)
    (hsrc : ∀ j v, cs[j]? = some v → w.cell? (a.add j) = some v) (hfit : o + cs.length ≤ cur.length) (h1 : ∀ v ∈ cs, v.oneCell' = true) :
    (Builtin.copy_ #[dT, sT] ty #[.slice (some ⟨g, o, none⟩) dLen dCap, .slice (some a) sLen sCap]).run P w =
      .ok (goInt (Nat.min sLen dLen)) (w.setRow g (splice cur o cs).toArray) := by
  have hl := run_firstCells_some (P := P) w s (Nat.min sLen dLen) a sLen sCap cs hn hsrc
  have hst := run_storeCells_at P g o t cs 0 cur.toArray w hg (by simpa using hfit) h1
  cases hq : P.info? e with
  | none => simp [hq] at hs
  | some i =>
    have hi : i.size = s := by simpa [hq] using hs
    simp only [Nat.min_def] at hl
    simp [Builtin.copy_, run_underlying hu, Builtin.lenOf, sizeOf, typeInfo, hq, hi, hl, hst, splice, Nat.min_def]
theorem grownCap_bounds (w : World) (need old : Nat) (e : TypeId) (h : need ≤ maxLen) : need ≤ grownCap w need old e ∧ grownCap w need old e ≤ maxLen := ⟨grownCap_ge _ _ _ _, grownCap_le_maxLen _ _ _ _ h⟩
/-- append of cnt noughts where they do not fit: a new row -/
theorem wpList_appz {w : World} {ops : Array Oper} {rest : List Oper} {o : Oper} {a : Act} {Q : Exit → Act → World → Prop} (hgd : o.guard = none) (sv x : Operand) (t tn : TypeId)
    (ho : o.op = .call { callee := .builtin .append, args := #[sv, x], argTypes := #[t, tn] }) {e : TypeId} {z : Value} {s bytes : Nat} (E : El P t e z s bytes) {kn : IntKind} (htn : P.underlying tn = some (.int kn))
    {g k c cnt : Nat} {cur : List Value} {et : TypeId} (hs : a.eval sv = .slice (some ⟨g, 0, none⟩) k c) (hx : a.eval x = .int .i64 (cnt : Int)) (hg : Bk w g cur et) (hk : k * s ≤ cur.length) (h0 : 0 < cnt) (hc : c < k + cnt)
    (h63 : k + cnt ≤ maxLen) (hbytes : (k + cnt) * bytes ≤ 140737488355328)
    (h : ∀ w1 (Z : List Value) (cap : Nat), Bk w1 w.heap.size (cur.take (k * s) ++ Z) e → Z.length = (cap - k) * s → k + cnt ≤ cap → cap ≤ maxLen → w.grownBy w1 none → w1.heap.size = w.heap.size + 1 →
      wpList P ops Q rest (a.put o.dst (.slice (some ⟨w.heap.size, 0, none⟩) (k + cnt) cap)) w1) : wpList P ops Q (o :: rest) a w := by
  obtain ⟨i, hi, hz, hsz, hby⟩ := info_of E.info
  have hcells : ∀ j v, (cur.take (k * s))[j]? = some v → w.drew.cell? ((⟨g, 0, none⟩ : Addr).add j) = some v := by
    intro j v hj
    have hadd : (⟨g, 0, none⟩ : Addr).add j = ⟨g, j, none⟩ := by unfold Addr.add; split <;> simp_all
    rw [List.getElem?_take] at hj
    split at hj
    · rw [hadd]
      show w.cell? _ = _
      rw [hg.cell, hj]
    · cases hj
  have hold := run_firstCells_some (P := P) w.drew i.size k ⟨g, 0, none⟩ k c (cur.take (k * s)) (by rw [List.length_take, hsz]; omega) hcells
  have hb1 : cnt * bytes ≤ 281474976710656 := by
    have : cnt * bytes ≤ (k + cnt) * bytes := Nat.mul_le_mul_right _ (by omega)
    omega
  have hr := Lib.run_append_grow_zeros (P := P) w t tn o.type e i z .i64 kn E.slice htn hi hz (some ⟨g, 0, none⟩) k c (cur.take (k * s)) hold cnt h0 (by rw [hsz]; exact E.pos) hc
    (by simp [maxLen] at h63; omega) (by rw [hby]; exact hb1) (by rw [hby]; exact growslice_fits hc hbytes)
  obtain ⟨hc1, hc2⟩ := grownCap_bounds w (k + cnt) c e h63
  refine Lib.wpList_append_run w hgd sv x t tn ho _ _ hs hx _ _ hr ?_
  refine h _ (Builtin.zeroCells z.cells cnt ++ Builtin.zeroCells z.cells (grownCap w (k + cnt) c e - (k + cnt))).toList _ ?_ ?_ hc1 hc2 ⟨rfl, rfl, rfl, by simp, fun j hj _ => heap_alloc_old w.drew _ hj⟩ (by simp)
  · have := heap_alloc_new w.drew (.cells ((cur.take (k * s)).toArray ++ Builtin.zeroCells z.cells cnt ++ Builtin.zeroCells z.cells (grownCap w (k + cnt) c e - (k + cnt))) e)
    unfold Bk
    rw [show ((cur.take (k * s) ++ (Builtin.zeroCells z.cells cnt ++ Builtin.zeroCells z.cells (grownCap w (k + cnt) c e - (k + cnt))).toList).toArray : Array Value) = (cur.take (k * s)).toArray ++ Builtin.zeroCells z.cells cnt ++ Builtin.zeroCells z.cells (grownCap w (k + cnt) c e - (k + cnt)) from by apply Array.ext'; simp]
    exact this
  · simp only [Array.toList_append, List.length_append, Array.length_toList, size_zeroCells, E.cells]
    rw [← Nat.add_mul]
    congr 1
    omega
theorem setRow_grown (w : World) (g : Nat) (cs : Array Value) : w.grownBy (w.setRow g cs) (some g) :=
  ⟨rfl, rfl, rfl, by simp [World.setRow], fun k hk hne => setRow_other w g k cs (fun h => hne (by rw [h]))⟩
theorem Bk.setRow {w : World} {g : Nat} {cur cs : List Value} {t : TypeId} (h : Bk w g cur t) : Bk (w.setRow g cs.toArray) g cs t := setRow_heap w g _ _ t _ h
theorem wp_cp {w : World} {o : Oper} {a : Act} {K : Act → World → Prop} {Q : Exit → Act → World → Prop} (d x : Operand) (dT sT : TypeId)
    (ho : o.op = .call { callee := .builtin .copy, args := #[d, x], argTypes := #[dT, sT] }) {e : TypeId} {z : Value} {s bytes : Nat} (E : El P dT e z s bytes) {g off dLen dCap : Nat} {ad : Addr} {sLen sCap : Nat} {cur : List Value} {t : TypeId} {cs : List Value}
    (hd : a.eval d = .slice (some ⟨g, off, none⟩) dLen dCap) (hx : a.eval x = .slice (some ad) sLen sCap) (hg : Bk w g cur t) (hn : cs.length = Nat.min sLen dLen * s)
    (hsrc : ∀ j v, cs[j]? = some v → w.cell? (ad.add j) = some v) (hfit : off + cs.length ≤ cur.length) (h1 : ∀ v ∈ cs, v.oneCell' = true)
    (h : ∀ w', Bk w' g (splice cur off cs) t → w.grownBy w' (some g) → w'.heap.size = w.heap.size → K (a.put o.dst (goInt (Nat.min sLen dLen))) w') : o.wp P a w K Q := by
  have hr := run_copy_blk (P := P) (ty := o.type) (sT := sT) (dCap := dCap) (sCap := sCap) E.slice (by obtain ⟨i, hi, _, hsz, _⟩ := info_of E.info; rw [hi, ← hsz]; rfl) hg hn hsrc hfit h1
  unfold Oper.wp execOp
  simp only [ho, resolve, invoke, builtin, Sem.run_bind, Sem.run_pure, Result.andThen_ok, List.map_toArray, List.map_cons, List.map_nil, hd, hx, hr]
  exact h _ hg.setRow (setRow_grown _ _ _) (by simp [World.setRow])
theorem wpList_cp {w : World} {ops : Array Oper} {rest : List Oper} {o : Oper} {a : Act} {Q : Exit → Act → World → Prop} (hgd : o.guard = none) (d x : Operand) (dT sT : TypeId)
    (ho : o.op = .call { callee := .builtin .copy, args := #[d, x], argTypes := #[dT, sT] }) {e : TypeId} {z : Value} {s bytes : Nat} (E : El P dT e z s bytes) {g off dLen dCap : Nat} {ad : Addr} {sLen sCap : Nat} {cur : List Value} {t : TypeId} {cs : List Value}
    (hd : a.eval d = .slice (some ⟨g, off, none⟩) dLen dCap) (hx : a.eval x = .slice (some ad) sLen sCap) (hg : Bk w g cur t) (hn : cs.length = Nat.min sLen dLen * s)
    (hsrc : ∀ j v, cs[j]? = some v → w.cell? (ad.add j) = some v) (hfit : off + cs.length ≤ cur.length) (h1 : ∀ v ∈ cs, v.oneCell' = true)
    (h : ∀ w', Bk w' g (splice cur off cs) t → w.grownBy w' (some g) → w'.heap.size = w.heap.size → wpList P ops Q rest (a.put o.dst (goInt (Nat.min sLen dLen))) w') : wpList P ops Q (o :: rest) a w :=
  wpList_plain hgd fun _ hK => wp_cp d x dT sT ho E hd hx hg hn hsrc hfit h1 fun w' h2 h3 h4 => hK _ _ (h w' h2 h3 h4)
theorem step_cp {w : World} {ops : Array Oper} {o : Oper} {a : Act} {K : Act → World → Prop} {Q : Exit → Act → World → Prop} {EE : Prop} (hgd : o.guard = none) (d x : Operand) (dT sT : TypeId)
    (ho : o.op = .call { callee := .builtin .copy, args := #[d, x], argTypes := #[dT, sT] }) {e : TypeId} {z : Value} {s bytes : Nat} (E : El P dT e z s bytes) {g off dLen dCap : Nat} {ad : Addr} {sLen sCap : Nat} {cur : List Value} {t : TypeId} {cs : List Value}
    (hd : a.eval d = .slice (some ⟨g, off, none⟩) dLen dCap) (hx : a.eval x = .slice (some ad) sLen sCap) (hg : Bk w g cur t) (hn : cs.length = Nat.min sLen dLen * s)
    (hsrc : ∀ j v, cs[j]? = some v → w.cell? (ad.add j) = some v) (hfit : off + cs.length ≤ cur.length) (h1 : ∀ v ∈ cs, v.oneCell' = true)
    (h : ∀ w', Bk w' g (splice cur off cs) t → w.grownBy w' (some g) → w'.heap.size = w.heap.size → K (a.put o.dst (goInt (Nat.min sLen dLen))) w') : if Region.wanted o (yielded ops a.tmps) = true then Oper.wp P o a w K Q else EE := by
  have hw : Region.wanted o (yielded ops a.tmps) = true := by simp [Region.wanted, hgd]
  rw [if_pos hw]
  exact wp_cp d x dT sT ho E hd hx hg hn hsrc hfit h1 h
/-- guards, for arms of a walk: the next operation is a copy -/
theorem wpList_atcp {ops : Array Oper} {rest : List Oper} {d : Option Tmp} {args : Array Operand} {ts : Array TypeId} {ty : TypeId} {pos : String} {af : Array Edge} {g : Option (Nat × Bool)} {a : Act} {w : World} {Q : Exit → Act → World → Prop}
    (h : wpList P ops Q (⟨d, .call { callee := .builtin .copy, args := args, argTypes := ts }, ty, pos, af, g⟩ :: rest) a w) : wpList P ops Q (⟨d, .call { callee := .builtin .copy, args := args, argTypes := ts }, ty, pos, af, g⟩ :: rest) a w := h
theorem Bk.shape {w : World} {g : Nat} {cs : List Value} {t : TypeId} (h : Bk w g cs t) : w.shape? g = some (t, cs.length) := by unfold Bk at h; simp [World.shape?, h]
/-- slices.overlaps of two slices in two blocks: no -/
theorem overlaps_no {F : FuncId} {fn : Func} {tS tB e : TypeId} {z : Value} {s bytes : Nat} (E : El P tS e z s bytes) (hf : P.funcs[F]? = some fn) (hname : (fn.name == "runtime.NumGoroutine") = false)
    (hb : fn.body.isNone = true) (hn : Extern.findNext fn = none) (he : Extern.find fn = some (Extern.SlicesOverlaps.overlaps #[tS, tS] #[tB])) {w : World} {g vb : Nat} {xs cur : List Value} {t t' : TypeId} (hv : Bk w vb xs t) (hg : Bk w g cur t') (hne : vb ≠ g) (h0 : cur.length ≠ 0)
    (off la ca lb cb : Nat) : (callFunc F #[.slice (some ⟨vb, 0, none⟩) la ca, .slice (some ⟨g, off, none⟩) lb cb]).run P w = .ok (.value (.bool false)) w := by
  rw [run_callFunc_extern hf hname hb hn he, Lib.run_overlaps_apart w tS tB e E.slice s (fun w => by obtain ⟨i, hi, _, hsz, _⟩ := info_of E.info; simp [sizeOf, typeInfo, hi, hsz]) ⟨vb, 0, none⟩ ⟨g, off, none⟩ la ca lb cb hne t t' _ _ hv.shape hg.shape h0 (hv.frozen 0) (hv.frozen _)]
  rfl
end
end Go.Proofs.YteolglmifimnaaaDoor

/- rows of the call's own: general lemmas (once part of T4). -/
namespace Go.Proofs.YteolglmifimnaaaDoor
open Go.RowKit
/-- what a call that writes into its own row leaves: a row of these elements -/
def Rowed {α : Type} (f : α → List Value) (s : Nat) (e : TypeId) (B n : Nat) (l : List α) (row : Option Nat) (w : World) (r : Ending) (w' : World) : Prop :=
  ∃ A c, r = .returned (.slice A n c) ∧ Ow f s e w' B (.slice A n c) l ∧ w.grownBy w' row ∧ ((Value.slice A n c).ownBlock = row ∨ (Value.slice A n c).ownBlock = some w.heap.size)

theorem Ow.is_slice {α : Type} {f : α → List Value} {s : Nat} {e : TypeId} {w : World} {B : Nat} {v : Value} {l : List α} {m : Nat} (h : Ow f s e w B v l) (hm : l.length = m) : ∃ A c, v = .slice A m c := by
  obtain ⟨A, c, h, _⟩ := h.form
  exact ⟨A, c, by rw [h, hm]⟩
/-- a one-element slice over a block that is known -/
theorem Sl.blk {α : Type} {f : α → List Value} {s : Nat} {w : World} {g : Nat} {x : α} {e : TypeId} (hs : (f x).length = s) (h : Bk w g (f x) e) : Sl f s w (.slice (some ⟨g, 0, none⟩) 1 1) [x] := by
  refine ⟨some ⟨g, 0, none⟩, 1, rfl, Nat.le_refl _, by simp [maxLen], by simpa using hs, fun _ => ⟨_, _, rfl, h.lt, fun i y hy j u hu => ?_⟩⟩
  cases i with
  | zero =>
    simp at hy
    subst hy
    rw [show 0 + 0 * s + j = j from by omega, h.cell]
    exact hu
  | succ i => simp at hy
theorem flatMap_split {α : Type} {f : α → List Value} {s : Nat} {l : List α} (hf : ∀ x ∈ l, (f x).length = s) (k : Nat) : (l.take k).flatMap f = (l.flatMap f).take (k * s) ∧ (l.drop k).flatMap f = (l.flatMap f).drop (k * s) := by
  induction l generalizing k with
  | nil => simp
  | cons y l ih =>
    have hy : (f y).length = s := hf y (by simp)
    cases k with
    | zero => simp
    | succ k =>
      have h := ih (fun z hz => hf z (by simp [hz])) k
      have e1 : (k + 1) * s = (f y).length + k * s := by rw [hy, Nat.succ_mul, Nat.add_comm]
      constructor
      · rw [List.take_succ_cons, List.flatMap_cons, h.1, List.flatMap_cons, e1, List.take_length_add_append]
      · rw [List.drop_succ_cons, h.2, List.flatMap_cons, e1, List.drop_length_add_append]
/-- an owned row, opened -/
theorem Ow.blk {α : Type} {f : α → List Value} {s : Nat} {e : TypeId} {w : World} {B n c : Nat} {A : Option Addr} {l : List α} (h : Ow f s e w B (.slice A n c) l) (h0 : 0 < n) :
    ∃ g J, A = some ⟨g, 0, none⟩ ∧ B ≤ g ∧ Bk w g (l.flatMap f ++ J) e ∧ (l.flatMap f ++ J).length = c * s ∧ n ≤ c ∧ c ≤ maxLen ∧ n = l.length := by
  obtain ⟨_, _, hf1, _⟩ := h.form
  injection hf1 with _ e2 _
  rcases h.1.2 with ⟨hn, _⟩ | ⟨g, cap, cur, hv, hB, hg, h1, h2, h3, h4⟩
  · injection hn with _ e3 _; omega
  · injection hv with v1 v2 v3
    subst v3
    refine ⟨g, cur.toList.drop (l.length * s), v1, hB, ?_, ?_, by omega, h2, e2⟩
    · rw [← h4, List.take_append_drop]
      unfold Bk
      simpa using hg
    · rw [← h4, List.take_append_drop]
      simpa using h3
theorem Ow.of_blk {α : Type} {f : α → List Value} {s : Nat} {e : TypeId} {w : World} {B g c : Nat} {l : List α} {cur J : List Value} (hf : ∀ x ∈ l, (f x).length = s) (hB : B ≤ g) (hb : Bk w g cur e) (hcur : cur = l.flatMap f ++ J) (hl : cur.length = c * s) (hn : l.length ≤ c) (hc : c ≤ maxLen) :
    Ow f s e w B (.slice (some ⟨g, 0, none⟩) l.length c) l := by
  refine ⟨⟨flatMap_length hf, .inr ⟨g, c, cur.toArray, rfl, hB, hb, hn, hc, by simpa using hl, ?_⟩⟩, hf⟩
  rw [← flatMap_length hf]
  simp only [hcur]
  rw [List.take_left]

end Go.Proofs.YteolglmifimnaaaDoor

namespace Go.Proofs.YteolglmifimnaaaDoor
open Go.RowKit
end Go.Proofs.YteolglmifimnaaaDoor

/- writing one element of a row of one's own; a row in a grown world. -/
namespace Go.Proofs.YteolglmifimnaaaDoor
open Go.RowKit
theorem Bk.put {w : World} {g : Nat} {cs : List Value} {t : TypeId} (h : Bk w g cs t) (j : Nat) (v : Value) : Bk (w.setCell ⟨g, j, none⟩ v) g (cs.set j v) t := by
  have hlt := h.lt
  unfold Bk at h ⊢
  unfold World.setCell
  simp only [Array.getElem?_modify, h]
  simp
theorem grownBy_setCell (w : World) (g j : Nat) (v : Value) : w.grownBy (w.setCell ⟨g, j, none⟩ v) (some g) := by
  refine ⟨rfl, rfl, rfl, by simp [World.setCell], fun k hk hne => ?_⟩
  unfold World.setCell
  simp only [Array.getElem?_modify]
  split
  · rename_i e; subst e; exact absurd rfl hne
  · rfl
theorem Bk.puts {g : Nat} {t : TypeId} : ∀ (vs : List Value) (o : Nat) {w : World} {cs : List Value}, Bk w g cs t → o + vs.length ≤ cs.length → Bk (w.setCells g o vs) g (splice cs o vs) t
  | [], o, w, cs, h, _ => by simpa [World.setCells, splice] using h
  | v :: r, o, w, cs, h, hl => by
    have := Bk.puts (t := t) r (o + 1) (h.put o v) (by simp at hl ⊢; omega)
    rw [World.setCells]
    have e : splice (cs.set o v) (o + 1) r = splice cs o (v :: r) := by
      simp only [List.length_cons] at hl
      unfold splice
      have h1 : (cs.set o v).take (o + 1) = cs.take o ++ [v] := by
        rw [List.take_add_one, List.getElem?_set_self (by omega), List.take_set_of_le (by omega)]
        rfl
      rw [h1, List.drop_set_of_lt (by omega), List.length_cons, show o + (r.length + 1) = o + 1 + r.length from by omega]
      simp
    rw [← e]
    exact this
theorem grownBy_setCells (g : Nat) : ∀ (vs : List Value) (o : Nat) (w : World), w.grownBy (w.setCells g o vs) (some g)
  | [], _, _ => World.grownBy.refl _ _
  | v :: r, o, w => (grownBy_setCell w g o v).trans (grownBy_setCells g r (o + 1) _)
theorem flatMap_set {α : Type} {f : α → List Value} {s : Nat} {l : List α} (hf : ∀ x ∈ l, (f x).length = s) {k : Nat} (hk : k < l.length) (x : α) (hx : (f x).length = s) (J : List Value) : splice (l.flatMap f ++ J) (k * s) (f x) = (l.set k x).flatMap f ++ J := by
  have e : l = l.take k ++ l[k] :: l.drop (k + 1) := by rw [List.getElem_cons_drop, List.take_append_drop]
  have hA : ((l.take k).flatMap f).length = k * s := by rw [flatMap_length (fun y hy => hf y (List.mem_of_mem_take hy)), List.length_take, Nat.min_eq_left (by omega)]
  have hm : (f l[k]).length = s := hf _ (List.getElem_mem _)
  have e2 : l.set k x = l.take k ++ x :: l.drop (k + 1) := by rw [List.set_eq_take_append_cons_drop, if_pos hk]
  rw [e2]
  have e3 : l.flatMap f = (l.take k).flatMap f ++ (f l[k] ++ (l.drop (k + 1)).flatMap f) := by
    conv => lhs; rw [e]
    rw [List.flatMap_append, List.flatMap_cons]
  rw [e3]
  unfold splice
  rw [List.append_assoc, ← hA, List.take_left, List.flatMap_append, List.flatMap_cons]
  have e4 : ((l.take k).flatMap f ++ (f l[k] ++ (l.drop (k + 1)).flatMap f ++ J)).drop (((l.take k).flatMap f).length + (f x).length) = (l.drop (k + 1)).flatMap f ++ J := by
    rw [List.append_assoc, ← List.drop_drop, List.drop_left, hx, ← hm, List.drop_left]
  rw [e4]
  simp
/-- a row of one's own, one element written -/
theorem Ow.put {α : Type} {f : α → List Value} {s : Nat} {e : TypeId} {w : World} {B n c g : Nat} {l : List α} {cur J : List Value} (hf : ∀ x ∈ l, (f x).length = s) (hb : Bk w g cur e) (hcur : cur = l.flatMap f ++ J) (hl : cur.length = c * s) (hB : B ≤ g) (hn : n = l.length) (hc : n ≤ c) (hcm : c ≤ maxLen)
    {k : Nat} (hk : k < l.length) (x : α) (hx : (f x).length = s) : Ow f s e (w.setCells g (k * s) (f x)) B (.slice (some ⟨g, 0, none⟩) n c) (l.set k x) := by
  have hks : k * s + (f x).length ≤ cur.length := by
    rw [hl, hx]
    calc k * s + s = (k + 1) * s := (Nat.succ_mul k s).symm
      _ ≤ c * s := Nat.mul_le_mul_right s (by omega)
  have h1 := hb.puts (f x) (k * s) hks
  rw [hcur, flatMap_set hf hk x hx J] at h1
  have hlen : (l.set k x).length = n := by rw [List.length_set, hn]
  rw [← hlen]
  refine ⟨⟨flatMap_length (fun y hy => ?_), .inr ⟨g, c, ((l.set k x).flatMap f ++ J).toArray, rfl, hB, h1, by omega, hcm, ?_, ?_⟩⟩, fun y hy => ?_⟩
  · rcases List.mem_or_eq_of_mem_set hy with h | rfl
    · exact hf y h
    · exact hx
  · have h2 := splice_length (l.flatMap f ++ J) (k * s) (f x) (by rw [← hcur]; exact hks)
    rw [flatMap_set hf hk x hx J, ← hcur] at h2
    simp only [List.size_toArray]
    rw [h2, hl]
  · rw [← flatMap_length (f := f) (s := s) (fun y hy => by rcases List.mem_or_eq_of_mem_set hy with h | rfl; exact hf y h; exact hx)]
    simp
  · rcases List.mem_or_eq_of_mem_set hy with h | rfl
    · exact hf y h
    · exact hx
theorem grown_after {W w w' : World} {row : Option Nat} (hb : Below W.heap.size W w) (hg : w.grownBy w' row) (hrow : ∀ k, row = some k → W.heap.size ≤ k) : ∃ ext d, w' = grow W ext d :=
  Below.grown_eq _ (hb.grown hg hb.size hrow)
theorem Ow.own_in {α : Type} {f : α → List Value} {s : Nat} {e : TypeId} {w : World} {B : Nat} {v : Value} {l : List α} (h : Ow f s e w B v l) {k : Nat} (hk : v.ownBlock = some k) : B ≤ k ∧ k < w.heap.size := by
  rcases h.1.2 with ⟨rfl, _⟩ | ⟨g, cap, cur, rfl, hB, hg, _⟩
  · simp [Value.ownBlock] at hk
  · obtain rfl : g = k := by simpa [Value.ownBlock] using hk
    exact ⟨hB, (Array.getElem?_eq_some_iff.1 hg).1⟩
theorem Bk.regrow {W W' : World} {ext : Array Obj} {d d' g : Nat} {cs : List Value} {t : TypeId} (h : Bk (grow W ext d) g cs t) (hg : W.heap.size ≤ g) (hs : W'.heap.size = W.heap.size) : Bk (grow W' ext d') g cs t := by
  unfold Bk grow at h ⊢
  simp only [Array.getElem?_append] at h ⊢
  rw [if_neg (by omega)] at h
  rw [if_neg (by omega), hs]
  exact h
/-- what the walk asks of the cells of one's own row, two layers deep -/
theorem Bk.cells2 {W : World} {ext : Array Obj} {d g n : Nat} {cs : List Value} {t : TypeId} (h : Bk (grow W ext d) g cs t) (hg : n ≤ g) (hn : W.heap.size = n) (j : Nat) (v : Value) (hv : cs[j]? = some v) :
    (∀ (W' : World) (d' : Nat) (e1 : Array Obj) (d1 : Nat), W'.heap.size = n → (grow (grow W' ext d') e1 d1).cell? ⟨g, j, none⟩ = some v) ∧ (∀ (W' : World) (d' : Nat) (e1 : Array Obj) (d1 : Nat), W'.heap.size = n → (grow (grow W' ext d') e1 d1).frozen? ⟨g, j, none⟩ = false) := by
  constructor
  · intro W' d' e1 d1 hs
    have h2 := (h.regrow (W' := W') (d' := d') (by omega) (by omega)).below (below_grow0 e1 d1 (Below.refl _ _))
    rw [h2.cell, hv]
  · intro W' d' e1 d1 hs
    have h2 := (h.regrow (W' := W') (d' := d') (by omega) (by omega)).below (below_grow0 e1 d1 (Below.refl _ _))
    exact h2.frozen _
/-- one's own row, its q-th element's cells laid open for a store -/
theorem Ow.open3 {α : Type} {f : α → List Value} {e : TypeId} {W : World} {ext : Array Obj} {d B N n c q : Nat} {A : Option Addr} {l : List α} (h : Ow f 3 e (grow W ext d) B (.slice A n c) l) (hB : N ≤ B) (hN : W.heap.size = N) (hq : q < l.length) :
    ∃ g J, A = some ⟨g, 0, none⟩ ∧ N ≤ g ∧ Bk (grow W ext d) g (l.flatMap f ++ J) e ∧ (l.flatMap f ++ J).length = c * 3 ∧ n ≤ c ∧ c ≤ maxLen ∧ n = l.length ∧ ∃ v0 v1 v2,
      (∀ (W' : World) (d' : Nat) (e1 : Array Obj) (d1 : Nat), W'.heap.size = N → (grow (grow W' ext d') e1 d1).cell? ⟨g, q * 3, none⟩ = some v0) ∧ (∀ (W' : World) (d' : Nat) (e1 : Array Obj) (d1 : Nat), W'.heap.size = N → (grow (grow W' ext d') e1 d1).frozen? ⟨g, q * 3, none⟩ = false) ∧
      (∀ (W' : World) (d' : Nat) (e1 : Array Obj) (d1 : Nat), W'.heap.size = N → (grow (grow W' ext d') e1 d1).cell? ⟨g, q * 3 + 1, none⟩ = some v1) ∧ (∀ (W' : World) (d' : Nat) (e1 : Array Obj) (d1 : Nat), W'.heap.size = N → (grow (grow W' ext d') e1 d1).frozen? ⟨g, q * 3 + 1, none⟩ = false) ∧
      (∀ (W' : World) (d' : Nat) (e1 : Array Obj) (d1 : Nat), W'.heap.size = N → (grow (grow W' ext d') e1 d1).cell? ⟨g, q * 3 + 2, none⟩ = some v2) ∧ (∀ (W' : World) (d' : Nat) (e1 : Array Obj) (d1 : Nat), W'.heap.size = N → (grow (grow W' ext d') e1 d1).frozen? ⟨g, q * 3 + 2, none⟩ = false) := by
  have hnl : n = l.length := by obtain ⟨_, _, h1, _⟩ := h.form; injection h1
  obtain ⟨g, J, rfl, hg, hb, hl, h1, h2, h3⟩ := h.blk (by omega)
  obtain ⟨x0, y0⟩ := hb.cells2 (n := N) (by omega) hN (q * 3) _ (List.getElem?_eq_getElem (by rw [hl]; omega))
  obtain ⟨x1, y1⟩ := hb.cells2 (n := N) (by omega) hN (q * 3 + 1) _ (List.getElem?_eq_getElem (by rw [hl]; omega))
  obtain ⟨x2, y2⟩ := hb.cells2 (n := N) (by omega) hN (q * 3 + 2) _ (List.getElem?_eq_getElem (by rw [hl]; omega))
  exact ⟨g, J, rfl, by omega, hb, hl, h1, h2, h3, _, _, _, x0, y0, x1, y1, x2, y2⟩
theorem Below.put {w w1 : World} {g j : Nat} {v : Value} (h : Below w.heap.size w w1) (hg : w.heap.size ≤ g) : Below w.heap.size w (w1.setCell ⟨g, j, none⟩ v) :=
  h.grown (grownBy_setCell w1 g j v) h.size (by rintro k ⟨⟩; exact hg)
theorem Ow.far {α : Type} {f : α → List Value} {s : Nat} {e : TypeId} {w : World} {B n c g g2 j : Nat} {l : List α} {v : Value} (h : Ow f s e w B (.slice (some ⟨g, 0, none⟩) n c) l) (hg : g ≠ g2) : Ow f s e (w.setCell ⟨g2, j, none⟩ v) B (.slice (some ⟨g, 0, none⟩) n c) l :=
  h.kept (grownBy_setCell w g2 j v) (.inr (by simpa [Value.ownBlock] using hg))
theorem Ow.put3 {α : Type} {f : α → List Value} {e : TypeId} {w : World} {B n c g : Nat} {l : List α} {J : List Value} {a0 a1 a2 : Value} {L : List α} (hf : ∀ x ∈ l, (f x).length = 3) (hb : Bk w g (l.flatMap f ++ J) e) (hl : (l.flatMap f ++ J).length = c * 3) (hB : B ≤ g) (hn : n = l.length) (hc : n ≤ c) (hcm : c ≤ maxLen)
    {k : Nat} (hk : k < l.length) (x : α) (hx : f x = [a0, a1, a2]) (hL : L = l.set k x) : Ow f 3 e (((w.setCell ⟨g, k * 3, none⟩ a0).setCell ⟨g, k * 3 + 1, none⟩ a1).setCell ⟨g, k * 3 + 2, none⟩ a2) B (.slice (some ⟨g, 0, none⟩) n c) L := by
  subst hL
  have h := Ow.put hf hb rfl hl hB hn hc hcm hk x (by rw [hx]; rfl)
  rw [hx] at h
  exact h
end Go.Proofs.YteolglmifimnaaaDoor

/- slices.Clone at the program's element types: a new slice of the call's own, with the same elements. -/
namespace Go.Proofs.YteolglmifimnaaaDoor
open Go.RowKit
set_option maxHeartbeats 400000 in
theorem cloneNode (v : Value) (l : List Node) (w : World) (h : Sl cNode 9 w v l) (hn : l.length * 88 ≤ 140737488355328) (hm : l.length ≤ maxLen) :
    Calls Tryd.prog 63 #[v] w (Owned cNode 9 40 l w) := by
  have qT : ∀ (w : World) (a : Option Addr) (n c n' c' : Nat), (binOp .eql 22 (.slice a n c) (.slice none n' c')).run Tryd.prog w = .ok (.bool a.isNone) w := fun w a n c n' c' => Lib.run_eql_slice_nil w _ _ a n c n' c' Tryd.underlying22
  obtain ⟨A, c, rfl, h1, h2⟩ := h.form
  cases A with
  | none =>
    obtain rfl := h.none_nil
    clear h
    go_enter Tryd.func63, Tryd.ntmps63
    go_wp2
    go_ret
    exact Owned.mk (Ow.nil _ _ _ _ _) (Below.refl _ _)
  | some a =>
    have H := Lib.hid h
    clear h
    go_enter Tryd.func63, Tryd.ntmps63
    go_wp2_with (at_builtin; refine wpList_app _ rfl (.tmp 5) (.tmp 6) _ rfl elNode rfl rfl (ow_lit0 _ _ _ _) (H.out.alloc _) cNode_one (by simpa using hm) (by simpa using hn) (by simp) ?_; intro v' w1 hown hg hat)
    go_ret
    exact Owned.mk hown (((Below.refl _ _).alloc (Nat.le_refl _) _).grown hg (by simp) (by intro k hk; simp [Value.ownBlock, Act.eval] at hk; omega))
set_option maxHeartbeats 400000 in
theorem cloneInts (v : Value) (l : List Int) (w : World) (h : Sl cInt 1 w v l) (hn : l.length * 8 ≤ 140737488355328) (hm : l.length ≤ maxLen) :
    Calls Tryd.prog 64 #[v] w (Owned cInt 1 3 l w) := by
  have qT : ∀ (w : World) (a : Option Addr) (n c n' c' : Nat), (binOp .eql 23 (.slice a n c) (.slice none n' c')).run Tryd.prog w = .ok (.bool a.isNone) w := fun w a n c n' c' => Lib.run_eql_slice_nil w _ _ a n c n' c' Tryd.underlying23
  obtain ⟨A, c, rfl, h1, h2⟩ := h.form
  cases A with
  | none =>
    obtain rfl := h.none_nil
    clear h
    go_enter Tryd.func64, Tryd.ntmps64
    go_wp2
    go_ret
    exact Owned.mk (Ow.nil _ _ _ _ _) (Below.refl _ _)
  | some a =>
    have H := Lib.hid h
    clear h
    go_enter Tryd.func64, Tryd.ntmps64
    go_wp2_with (at_builtin; refine wpList_app _ rfl (.tmp 5) (.tmp 6) _ rfl elInt rfl rfl (ow_lit0 _ _ _ _) (H.out.alloc _) cInt_one (by simpa using hm) (by simpa using hn) (by simp) ?_; intro v' w1 hown hg hat)
    go_ret
    exact Owned.mk hown (((Below.refl _ _).alloc (Nat.le_refl _) _).grown hg (by simp) (by intro k hk; simp [Value.ownBlock, Act.eval] at hk; omega))
end Go.Proofs.YteolglmifimnaaaDoor

/- Contracts of package client: New, copied, See, and the laws' 'starts'. -/
namespace Go.Proofs.YteolglmifimnaaaDoor
open Go.RowKit
/-- an end and an error's number -/
def ClIs2 (s n : Int) (l : List Entry) (c : Int) (w : World) (e : Ending) (w' : World) : Prop := ∃ A k, e = .returned (.tuple #[.agg #[.int .i64 s, .int .i64 n, .slice A l.length k], .int .i64 c]) ∧ Sl cEntry 3 w' (.slice A l.length k) l ∧ Below w.heap.size w w'
/- See: an end behind an answer that is not older -/
end Go.Proofs.YteolglmifimnaaaDoor

/- Contracts of package client: find, Look, Keep. -/
namespace Go.Proofs.YteolglmifimnaaaDoor
open Go.RowKit
def noEntry : Entry := ⟨ByteArray.empty, ByteArray.empty, false⟩
def lookE (l : List Entry) (p : ByteArray) : Entry := if isK (l.map Entry.path) p then l.getD (posK (l.map Entry.path) p) noEntry else noEntry
def stripE (e : Entry) : Entry := if e.there_ then e else { e with data := ByteArray.empty }
def keepL (l : List Entry) (e : Entry) : List Entry := if isK (l.map Entry.path) e.path then l.set (posK (l.map Entry.path) e.path) (stripE e) else l.take (posK (l.map Entry.path) e.path) ++ stripE e :: l.drop (posK (l.map Entry.path) e.path)
theorem isK_lt {l : List Entry} {p : ByteArray} (h : isK (l.map Entry.path) p = true) : posK (l.map Entry.path) p < l.length := by
  unfold isK at h
  simp at h
  exact h.1
end Go.Proofs.YteolglmifimnaaaDoor

/- client.Keep at an entry whose path is in the cache. -/
namespace Go.Proofs.YteolglmifimnaaaDoor
open Go.RowKit
end Go.Proofs.YteolglmifimnaaaDoor

/- The laws' 'caching': an end with entries. -/
namespace Go.Proofs.YteolglmifimnaaaDoor
open Go.RowKit
def cacheK (l : List Entry) (k : Nat) : List Entry := (l.take k).foldl keepL []
theorem keepL_length (l : List Entry) (x : Entry) : (keepL l x).length ≤ l.length + 1 := by
  unfold keepL
  split
  · simp
  · simp; omega
theorem cacheK_succ {l : List Entry} {k : Nat} {x : Entry} (h : l[k]? = some x) : cacheK l (k + 1) = keepL (cacheK l k) x := by
  unfold cacheK
  rw [List.take_add_one, h]
  simp
theorem cacheK_length (l : List Entry) (k : Nat) : (cacheK l k).length ≤ k := by
  induction k with
  | zero => simp [cacheK]
  | succ k ih =>
    cases h : l[k]? with
    | none =>
      have : cacheK l (k + 1) = cacheK l k := by unfold cacheK; rw [List.take_add_one, h]; simp
      rw [this]; omega
    | some x => rw [cacheK_succ h]; have := keepL_length (cacheK l k) x; omega
def cacheL (l : List Entry) : List Entry := cacheK l (Nat.min l.length 60)
end Go.Proofs.YteolglmifimnaaaDoor

/- The order of texts; a sorted list of entries, searched and kept: plain laws. -/
namespace Go.Proofs.YteolglmifimnaaaDoor
open Go.RowKit Go.Lib
theorem cb_zero : ∀ (a b : List UInt8), compareBytes a b = 0 → a = b
  | [], [], _ => rfl
  | [], _ :: _, h => by simp [compareBytes] at h
  | _ :: _, [], h => by simp [compareBytes] at h
  | a :: r, b :: q, h => by
    unfold compareBytes at h
    split at h
    · simp at h
    · split at h
      · simp at h
      · have : a = b := by
          rename_i h1 h2
          exact UInt8.toNat_inj.1 (by have := UInt8.not_lt.1 h1; have := UInt8.not_lt.1 h2; simp only [UInt8.le_iff_toNat_le] at *; omega)
        rw [this, cb_zero r q h]
theorem cb_self : ∀ (a : List UInt8), compareBytes a a = 0
  | [] => rfl
  | a :: r => by unfold compareBytes; rw [if_neg (by simp), if_neg (by simp)]; exact cb_self r
theorem cb_swap : ∀ (a b : List UInt8), compareBytes a b < 0 → 0 < compareBytes b a
  | [], [], h => by simp [compareBytes] at h
  | [], _ :: _, _ => by simp [compareBytes]
  | _ :: _, [], h => by simp [compareBytes] at h
  | a :: r, b :: q, h => by
    unfold compareBytes at h ⊢
    by_cases h1 : a < b
    · rw [if_neg (by simp only [UInt8.lt_iff_toNat_lt] at *; omega), if_pos h1]; decide
    · by_cases h2 : b < a
      · rw [if_neg h1, if_pos h2] at h; simp at h
      · rw [if_neg h1, if_neg h2] at h
        rw [if_neg h2, if_neg h1]
        exact cb_swap r q h
theorem cb_swap' : ∀ (a b : List UInt8), 0 < compareBytes a b → compareBytes b a < 0
  | [], [], h => by simp [compareBytes] at h
  | _ :: _, [], _ => by simp [compareBytes]
  | [], _ :: _, h => by simp [compareBytes] at h
  | a :: r, b :: q, h => by
    unfold compareBytes at h ⊢
    by_cases h2 : b < a
    · rw [if_pos h2]; decide
    · by_cases h1 : a < b
      · rw [if_pos h1] at h; simp at h
      · rw [if_neg h1, if_neg h2] at h
        rw [if_neg h2, if_neg h1]
        exact cb_swap' r q h
theorem cb_trans : ∀ (a b c : List UInt8), compareBytes a b < 0 → compareBytes b c < 0 → compareBytes a c < 0
  | [], [], _, h, _ => by simp [compareBytes] at h
  | [], _ :: _, [], _, h => by simp [compareBytes] at h
  | [], _ :: _, _ :: _, _, _ => by simp [compareBytes]
  | _ :: _, [], _, h, _ => by simp [compareBytes] at h
  | _ :: _, _ :: _, [], _, h => by simp [compareBytes] at h
  | a :: r, b :: q, c :: t, h, k => by
    unfold compareBytes at h k ⊢
    by_cases h1 : a < b
    · by_cases k1 : b < c
      · rw [if_pos (by simp only [UInt8.lt_iff_toNat_lt] at *; omega)]; decide
      · by_cases k2 : c < b
        · rw [if_neg k1, if_pos k2] at k; simp at k
        · rw [if_pos (by simp only [UInt8.lt_iff_toNat_lt] at *; omega)]; decide
    · by_cases h2 : b < a
      · rw [if_neg h1, if_pos h2] at h; simp at h
      · rw [if_neg h1, if_neg h2] at h
        by_cases k1 : b < c
        · rw [if_pos (by simp only [UInt8.lt_iff_toNat_lt] at *; omega)]; decide
        · by_cases k2 : c < b
          · rw [if_neg k1, if_pos k2] at k; simp at k
          · rw [if_neg k1, if_neg k2] at k
            rw [if_neg (by simp only [UInt8.lt_iff_toNat_lt] at *; omega), if_neg (by simp only [UInt8.lt_iff_toNat_lt] at *; omega)]
            exact cb_trans r q t h k
theorem cmpB_self (a : ByteArray) : cmpB a a = 0 := cb_self _
theorem cmpB_zero {a b : ByteArray} (h : cmpB a b = 0) : a = b := by
  have := cb_zero _ _ h
  exact ByteArray.ext (Array.ext' this)
/-- sorted strictly by path -/
def SortedE (l : List Entry) : Prop := ∀ (i j : Nat) (x y : Entry), i < j → l[i]? = some x → l[j]? = some y → cmpB x.path y.path < 0
theorem border (f : Nat → Bool) : ∀ n, (∀ i j, i < j → j < n → f j = true → f i = true) → ∃ m, m ≤ n ∧ (∀ k, k < m → f k = true) ∧ (∀ k, m ≤ k → k < n → f k = false)
  | 0, _ => ⟨0, Nat.le_refl _, fun k hk => by omega, fun k _ hk => by omega⟩
  | n + 1, h => by
    obtain ⟨m, hm, h1, h2⟩ := border f n (fun i j hij hj => h i j hij (by omega))
    have split : ∀ k, k < n + 1 → k < n ∨ k = n := fun k hk => by omega
    cases hf : f n with
    | true =>
      refine ⟨n + 1, Nat.le_refl _, fun k hk => ?_, fun k hk hk2 => by omega⟩
      rcases split k hk with hlt | rfl
      · exact h k n hlt (by omega) hf
      · exact hf
    | false =>
      refine ⟨m, by omega, h1, fun k hk hk2 => ?_⟩
      rcases split k hk2 with hlt | rfl
      · exact h2 k hk hlt
      · exact hf
/-- the place of p in a sorted list -/
theorem pos_of {l : List Entry} (hs : SortedE l) (p : ByteArray) (k : Nat) (x : Entry) (hx : l[k]? = some x) : k < posK (l.map Entry.path) p ↔ cmpB x.path p < 0 := by
  have hk : k < l.length := (List.getElem?_eq_some_iff.1 hx).1
  have hlt : ∀ (k : Nat) (x : Entry), l[k]? = some x → ltK (l.map Entry.path) p k = decide (cmpB x.path p < 0) := fun k x h => ltK_of (g := Entry.path) h p
  obtain ⟨m, hm, h1, h2⟩ := border (ltK (l.map Entry.path) p) l.length (by
    intro i j hij hj h
    have hi := List.getElem?_eq_getElem (l := l) (i := i) (by omega)
    have hj2 := List.getElem?_eq_getElem (l := l) (i := j) hj
    rw [hlt j _ hj2] at h
    rw [hlt i _ hi]
    simp at h ⊢
    exact cb_trans _ _ _ (hs i j _ _ hij hi hj2) h)
  have hp : posK (l.map Entry.path) p = m := by
    unfold posK
    rw [List.length_map]
    exact bsr_sorted _ m l.length 0 l.length (by omega) (Nat.zero_le _) hm h1 h2
  rw [hp]
  constructor
  · intro h
    have := h1 k h
    rw [hlt k x hx] at this
    simpa using this
  · intro h
    rcases Nat.lt_or_ge k m with hlt2 | hge
    · exact hlt2
    · have := h2 k hge hk
      rw [hlt k x hx] at this
      simp at this
      omega
theorem at_of {l : List Entry} (hs : SortedE l) {k : Nat} {x : Entry} (hx : l[k]? = some x) : posK (l.map Entry.path) x.path = k ∧ isK (l.map Entry.path) x.path = true := by
  have h1 : ¬ k < posK (l.map Entry.path) x.path := by rw [pos_of hs x.path k x hx, cmpB_self]; omega
  have hk : k < l.length := (List.getElem?_eq_some_iff.1 hx).1
  have h2 : posK (l.map Entry.path) x.path = k := by
    rcases Nat.lt_or_ge (posK (l.map Entry.path) x.path) k with h | h
    · have hy := List.getElem?_eq_getElem (l := l) (i := posK (l.map Entry.path) x.path) (by omega)
      have h3 := hs _ _ _ _ h hy hx
      rw [← pos_of hs x.path _ _ hy] at h3
      omega
    · omega
  exact ⟨h2, by rw [isK_in h2 hx, cmpB_self]; rfl⟩
theorem none_of {l : List Entry} (p : ByteArray) (h : ∀ (k : Nat) (x : Entry), l[k]? = some x → x.path ≠ p) : isK (l.map Entry.path) p = false := by
  rcases Nat.lt_or_ge (posK (l.map Entry.path) p) l.length with hlt | hge
  · have hy := List.getElem?_eq_getElem (l := l) (i := posK (l.map Entry.path) p) hlt
    rw [isK_in rfl hy]
    have := h _ _ hy
    simp
    intro h0
    exact this (cmpB_zero h0)
  · exact isK_out rfl (by omega)
def ltE (x y : Entry) : Prop := cmpB x.path y.path < 0
theorem sorted_pw {l : List Entry} : SortedE l ↔ l.Pairwise ltE := by
  rw [List.pairwise_iff_getElem]
  constructor
  · intro h i j hi hj hij
    exact h i j _ _ hij (List.getElem?_eq_getElem hi) (List.getElem?_eq_getElem hj)
  · intro h i j x y hij hx hy
    obtain ⟨hi, rfl⟩ := List.getElem?_eq_some_iff.1 hx
    obtain ⟨hj, rfl⟩ := List.getElem?_eq_some_iff.1 hy
    exact h i j hi hj hij
theorem strip_path (x : Entry) : (stripE x).path = x.path := by unfold stripE; split <;> rfl
theorem before_of {l : List Entry} (hs : SortedE l) (p : ByteArray) : ∀ y ∈ l.take (posK (l.map Entry.path) p), cmpB y.path p < 0 := by
  intro y hy
  obtain ⟨k, hk⟩ := List.mem_iff_getElem?.1 hy
  rw [List.getElem?_take] at hk
  split at hk
  · exact (pos_of hs p k y hk).1 (by assumption)
  · cases hk
theorem behind_of {l : List Entry} (hs : SortedE l) (p : ByteArray) (h : isK (l.map Entry.path) p = false) : ∀ y ∈ l.drop (posK (l.map Entry.path) p), cmpB p y.path < 0 := by
  intro y hy
  obtain ⟨k, hk⟩ := List.mem_iff_getElem?.1 hy
  rw [List.getElem?_drop] at hk
  have h1 := mt (pos_of hs p _ y hk).2 (by omega)
  have h2 : cmpB y.path p ≠ 0 := by
    intro h0
    obtain rfl := cmpB_zero h0
    rw [(at_of hs hk).2] at h
    cases h
  exact cb_swap' _ _ (by unfold cmpB at h1 h2; omega)
theorem set_split {l : List Entry} {q : Nat} (hq : q < l.length) (x : Entry) : l.set q x = l.take q ++ x :: l.drop (q + 1) := by rw [List.set_eq_take_append_cons_drop, if_pos hq]
theorem is_at {l : List Entry} {p : ByteArray} (h : isK (l.map Entry.path) p = true) : ∃ hq : posK (l.map Entry.path) p < l.length, (l[posK (l.map Entry.path) p]'hq).path = p := by
  have hq := isK_lt h
  refine ⟨hq, ?_⟩
  rw [isK_in rfl (List.getElem?_eq_getElem hq)] at h
  exact cmpB_zero (by simpa using h)
theorem keepL_sorted {l : List Entry} (hs : SortedE l) (x : Entry) : SortedE (keepL l x) := by
  have hpw := sorted_pw.1 hs
  rw [sorted_pw]
  unfold keepL
  cases hk : isK (l.map Entry.path) x.path with
  | true =>
    obtain ⟨hq, he⟩ := is_at hk
    rw [if_pos rfl, set_split hq]
    have e : l = l.take (posK (l.map Entry.path) x.path) ++ l[posK (l.map Entry.path) x.path] :: l.drop (posK (l.map Entry.path) x.path + 1) := by rw [List.getElem_cons_drop, List.take_append_drop]
    generalize l[posK (l.map Entry.path) x.path] = y at e he
    generalize posK (l.map Entry.path) x.path = q at e
    generalize l.take q = a at e ⊢
    generalize l.drop (q + 1) = b at e ⊢
    rw [e] at hpw
    simp only [List.pairwise_append, List.pairwise_cons, List.mem_cons, forall_eq_or_imp] at hpw ⊢
    unfold ltE at hpw ⊢
    rw [strip_path, ← he]
    exact hpw
  | false =>
    rw [if_neg (by simp)]
    have e := List.take_append_drop (posK (l.map Entry.path) x.path) l
    have hb := before_of hs x.path
    have ha := behind_of hs x.path hk
    generalize posK (l.map Entry.path) x.path = q at e hb ha
    generalize l.take q = a at e hb ⊢
    generalize l.drop q = b at e ha ⊢
    rw [← e] at hpw
    simp only [List.pairwise_append, List.pairwise_cons, List.mem_cons, forall_eq_or_imp] at hpw ⊢
    unfold ltE at hpw ⊢
    rw [strip_path]
    exact ⟨hpw.1, ⟨ha, hpw.2.1⟩, fun y hy => ⟨hb y hy, hpw.2.2 y hy⟩⟩
theorem mem_keepL {l : List Entry} (hs : SortedE l) (x y : Entry) : y ∈ keepL l x ↔ y = stripE x ∨ (y ∈ l ∧ y.path ≠ x.path) := by
  unfold keepL
  cases hk : isK (l.map Entry.path) x.path with
  | true =>
    obtain ⟨hq, he⟩ := is_at hk
    rw [if_pos rfl, set_split hq]
    have hpw := sorted_pw.1 hs
    have e : l = l.take (posK (l.map Entry.path) x.path) ++ l[posK (l.map Entry.path) x.path] :: l.drop (posK (l.map Entry.path) x.path + 1) := by rw [List.getElem_cons_drop, List.take_append_drop]
    generalize l[posK (l.map Entry.path) x.path] = z at e he
    generalize posK (l.map Entry.path) x.path = q at e
    generalize l.take q = a at e ⊢
    generalize l.drop (q + 1) = b at e ⊢
    rw [e] at hpw
    simp only [List.pairwise_append, List.pairwise_cons, List.mem_cons, forall_eq_or_imp] at hpw
    unfold ltE at hpw
    rw [e]
    simp only [List.mem_append, List.mem_cons]
    constructor
    · rintro (h | h | h)
      · exact .inr ⟨.inl h, fun hp => by have := (hpw.2.2 y h).1; rw [hp, he, cmpB_self] at this; omega⟩
      · exact .inl h
      · exact .inr ⟨.inr (.inr h), fun hp => by have := hpw.2.1.1 y h; rw [hp, he, cmpB_self] at this; omega⟩
    · rintro (h | ⟨h | h | h, hp⟩)
      · exact .inr (.inl h)
      · exact .inl h
      · exact absurd (h ▸ he) hp
      · exact .inr (.inr h)
  | false =>
    rw [if_neg (by simp)]
    have hm : ∀ z, z ∈ l ↔ z ∈ l.take (posK (l.map Entry.path) x.path) ∨ z ∈ l.drop (posK (l.map Entry.path) x.path) := fun z => by rw [← List.mem_append, List.take_append_drop]
    have hn : y ∈ l → y.path ≠ x.path := by
      intro h hp
      obtain ⟨k, hk2⟩ := List.mem_iff_getElem?.1 h
      have := (at_of hs hk2).2
      rw [hp, hk] at this
      cases this
    simp only [List.mem_append, List.mem_cons]
    rw [hm]
    rw [hm] at hn
    constructor
    · rintro (h | h | h)
      · exact .inr ⟨.inl h, hn (.inl h)⟩
      · exact .inl h
      · exact .inr ⟨.inr h, hn (.inr h)⟩
    · rintro (h | ⟨h | h, _⟩)
      · exact .inr (.inl h)
      · exact .inl h
      · exact .inr (.inr h)
theorem look_of {l : List Entry} (hs : SortedE l) {y : Entry} (hy : y ∈ l) : isK (l.map Entry.path) y.path = true ∧ lookE l y.path = y := by
  obtain ⟨k, hk⟩ := List.mem_iff_getElem?.1 hy
  obtain ⟨h1, h2⟩ := at_of hs hk
  refine ⟨h2, ?_⟩
  unfold lookE
  rw [h2, if_pos rfl, h1, List.getD_eq_getElem?_getD, hk]
  rfl
theorem look_none {l : List Entry} {p : ByteArray} (h : ∀ y ∈ l, y.path ≠ p) : isK (l.map Entry.path) p = false ∧ lookE l p = noEntry := by
  have h1 := none_of (l := l) p (fun k x hx => h x (List.mem_iff_getElem?.2 ⟨k, hx⟩))
  exact ⟨h1, by unfold lookE; rw [h1]; rfl⟩
theorem look_kept {l : List Entry} (hs : SortedE l) (x : Entry) : isK ((keepL l x).map Entry.path) x.path = true ∧ lookE (keepL l x) x.path = stripE x := by
  have := look_of (keepL_sorted hs x) ((mem_keepL hs x (stripE x)).2 (.inl rfl))
  rw [strip_path] at this
  exact this
theorem look_other {l : List Entry} (hs : SortedE l) (x : Entry) {p : ByteArray} (hp : p ≠ x.path) : isK ((keepL l x).map Entry.path) p = isK (l.map Entry.path) p ∧ lookE (keepL l x) p = lookE l p := by
  by_cases h : ∃ y, y ∈ l ∧ y.path = p
  · obtain ⟨y, hy, rfl⟩ := h
    have h1 := look_of hs hy
    have h2 := look_of (keepL_sorted hs x) ((mem_keepL hs x y).2 (.inr ⟨hy, hp⟩))
    exact ⟨h2.1.trans h1.1.symm, h2.2.trans h1.2.symm⟩
  · have h1 := look_none (l := l) (p := p) (fun y hy he => h ⟨y, hy, he⟩)
    have h2 := look_none (l := keepL l x) (p := p) (fun y hy he => by
      rcases (mem_keepL hs x y).1 hy with rfl | ⟨h3, _⟩
      · rw [strip_path] at he; exact hp he.symm
      · exact h ⟨y, h3, he⟩)
    exact ⟨h2.1.trans h1.1.symm, h2.2.trans h1.2.symm⟩
theorem cacheK_sorted (l : List Entry) : ∀ k, SortedE (cacheK l k)
  | 0 => by intro i j x y _ h; simp [cacheK] at h
  | k + 1 => by
    cases h : l[k]? with
    | none =>
      have : cacheK l (k + 1) = cacheK l k := by unfold cacheK; rw [List.take_add_one, h]; simp
      rw [this]; exact cacheK_sorted l k
    | some x => rw [cacheK_succ h]; exact keepL_sorted (cacheK_sorted l k) x
/-- the model's order of texts is that of strings.Compare -/
theorem less_of_cb : ∀ (a b : List UInt8), Op.bytesLess a b = decide (compareBytes a b < 0)
  | [], [] => rfl
  | _ :: _, [] => by simp [Op.bytesLess, compareBytes]
  | [], _ :: _ => by simp [Op.bytesLess, compareBytes]
  | a :: r, b :: q => by
    unfold Op.bytesLess compareBytes
    by_cases h1 : a < b
    · simp [h1]
    · by_cases h2 : b < a
      · have h3 : a ≠ b := by intro e; subst e; simp at h2
        simp [h1, h2, h3]
      · have h3 : a = b := UInt8.toNat_inj.1 (by simp only [UInt8.lt_iff_toNat_lt] at *; omega)
        subst h3
        simp [less_of_cb r q]
theorem less_of_cmp {a b : ByteArray} (h : cmpB a b < 0) : Op.bytesLess a.toList b.toList = true := by
  rw [ByteArray.toList_eq, ByteArray.toList_eq, less_of_cb]
  simpa [cmpB] using h
end Go.Proofs.YteolglmifimnaaaDoor

/- Contracts of package zxid (numbers alone), and of the laws' 'numbers'. -/
namespace Go.Proofs.YteolglmifimnaaaDoor
open Go.RowKit

theorem ret_int {k : IntKind} {a b : Int} (h : a = b) : Ending.returned (.int k a) = Ending.returned (.int k b) := by rw [h]
theorem ret_bool {a b : Bool} (h : a = b) : Ending.returned (.bool a) = Ending.returned (.bool b) := by rw [h]
theorem ret_ii {k k' : IntKind} {a b c d : Int} (h : a = b) (h' : c = d) : Ending.returned (.tuple #[.int k a, .int k' c]) = Ending.returned (.tuple #[.int k b, .int k' d]) := by rw [h, h']

theorem bv_nat (a : Nat) (ha : a < 9223372036854775808) : (BitVec.ofInt 64 (a : Int)).toNat = a := by
  rw [BitVec.ofInt_natCast, BitVec.toNat_ofNat]
  exact Nat.mod_eq_of_lt (by omega)
theorem bits_mask (a : Int) (h0 : 0 ≤ a) (h1 : a < 4611686018427387904) : bits .and .i64 a 2147483647 = a % 2147483648 := by
  obtain ⟨n, rfl⟩ := Int.eq_ofNat_of_zero_le h0
  have hx : n &&& 2147483647 = n % 2147483648 := Nat.and_two_pow_sub_one_eq_mod n 31
  show IntKind.i64.wrap ((BitVec.ofInt 64 (n : Int) &&& BitVec.ofInt 64 ((2147483647 : Nat) : Int)).toNat : Int) = _
  rw [BitVec.toNat_and, bv_nat n (by omega), bv_nat 2147483647 (by omega), hx, IntKind.wrap_i64]
  omega
theorem bits_join (a b : Int) (h0 : 0 ≤ a) (h1 : a ≤ 2147483647) (h2 : 0 ≤ b) (h3 : b ≤ 2147483647) : bits .or .i64 (a * 2147483648) b = a * 2147483648 + b := by
  obtain ⟨n, rfl⟩ := Int.eq_ofNat_of_zero_le h0
  obtain ⟨m, rfl⟩ := Int.eq_ofNat_of_zero_le h2
  have hx : n * 2147483648 ||| m = n * 2147483648 + m := by
    have := Nat.shiftLeft_add_eq_or_of_lt (b := m) (i := 31) (by omega) n
    rw [Nat.shiftLeft_eq] at this
    exact this.symm
  show IntKind.i64.wrap ((BitVec.ofInt 64 (((n * 2147483648 : Nat) : Int)) ||| BitVec.ofInt 64 (m : Int)).toNat : Int) = _
  rw [BitVec.toNat_or, bv_nat _ (by omega), bv_nat m (by omega), hx, IntKind.wrap_i64]
  omega

/-- a zxid -/
def Zx (a : Int) : Prop := 0 ≤ a ∧ a < 4611686018427387904
/-- an epoch, a count -/
def Half (a : Int) : Prop := 0 ≤ a ∧ a ≤ 2147483647

theorem zgood_yes (a : Int) (w : World) (h : Zx a) :
    Calls Tryd.prog 27 #[.int .i64 a] w fun e w' => e = .returned (.bool true) ∧ w = w' := by
  obtain ⟨ha, ha'⟩ := h
  go_enter Tryd.func27, Tryd.ntmps27
  go_wp2
  go_ret
  exact ⟨rfl, rfl⟩
theorem zgood_no (a : Int) (w : World) (h : ¬ Zx a) :
    Calls Tryd.prog 27 #[.int .i64 a] w fun e w' => e = .returned (.bool false) ∧ w = w' := by
  have ha : a < 0 ∨ (0 ≤ a ∧ ¬ a < 4611686018427387904) := by unfold Zx at h; omega
  clear h
  rcases ha with ha | ⟨h0, ha⟩
  · go_enter Tryd.func27, Tryd.ntmps27
    go_wp2
    go_ret
    exact ⟨rfl, rfl⟩
  · go_enter Tryd.func27, Tryd.ntmps27
    go_wp2
    go_ret
    exact ⟨ret_bool (by simp), rfl⟩
theorem zcount_ok (a : Int) (w : World) (h : Zx a) :
    Calls Tryd.prog 55 #[.int .i64 a] w fun e w' => e = .returned (.int .i64 (a % 2147483648)) ∧ w = w' := by
  have ha := h.1
  have ha' := h.2
  go_enter Tryd.func55, Tryd.ntmps55
  go_wp2_with (go_at_call 27; refine (zgood_yes _ _ h).mono ?_; rintro e w' ⟨rfl, rfl⟩)
  go_ret
  exact ⟨ret_int (bits_mask a ha ha'), rfl⟩
theorem zcount_no (a : Int) (w : World) (h : ¬ Zx a) :
    Calls Tryd.prog 55 #[.int .i64 a] w fun e w' => e = .returned (.int .i64 0) ∧ w = w' := by
  have H := Lib.hid h
  clear h
  go_enter Tryd.func55, Tryd.ntmps55
  go_wp2_with (go_at_call 27; refine (zgood_no _ _ H.out).mono ?_; rintro e w' ⟨rfl, rfl⟩)
  go_ret
  exact ⟨rfl, rfl⟩
theorem znext_ok (a : Int) (w : World) (h : Zx a) (hc : a % 2147483648 < 2147483647) :
    Calls Tryd.prog 33 #[.int .i64 a] w fun e w' => e = .returned (.tuple #[.int .i64 (a + 1), .int .i64 0]) ∧ w = w' := by
  have ha := h.1
  have ha' := h.2
  go_enter Tryd.func33, Tryd.ntmps33
  go_wp2_with (first | (go_at_call 27; refine (zgood_yes _ _ h).mono ?_; rintro e w' ⟨rfl, rfl⟩) | (go_at_call 55; refine (zcount_ok _ _ h).mono ?_; rintro e w' ⟨rfl, rfl⟩))
  go_ret2
  exact ⟨rfl, rfl⟩
theorem znext_full (a : Int) (w : World) (h : Zx a) (hc : ¬ a % 2147483648 < 2147483647) :
    Calls Tryd.prog 33 #[.int .i64 a] w fun e w' => e = .returned (.tuple #[.int .i64 0, .int .i64 6]) ∧ w = w' := by
  have ha := h.1
  have ha' := h.2
  go_enter Tryd.func33, Tryd.ntmps33
  go_wp2_with (first | (go_at_call 27; refine (zgood_yes _ _ h).mono ?_; rintro e w' ⟨rfl, rfl⟩) | (go_at_call 55; refine (zcount_ok _ _ h).mono ?_; rintro e w' ⟨rfl, rfl⟩))
  go_ret2
  exact ⟨rfl, rfl⟩
theorem znext_no (a : Int) (w : World) (h : ¬ Zx a) :
    Calls Tryd.prog 33 #[.int .i64 a] w fun e w' => e = .returned (.tuple #[.int .i64 0, .int .i64 3]) ∧ w = w' := by
  have H := Lib.hid h
  clear h
  go_enter Tryd.func33, Tryd.ntmps33
  go_wp2_with (go_at_call 27; refine (zgood_no _ _ H.out).mono ?_; rintro e w' ⟨rfl, rfl⟩)
  go_ret2
  exact ⟨rfl, rfl⟩
end Go.Proofs.YteolglmifimnaaaDoor

/- wire.Good: what is wrong with a transaction. -/
namespace Go.Proofs.YteolglmifimnaaaDoor
open Go.RowKit Go.ChangeShapes Go.WideShapes Go.ChangeAt
def goodT (t : Txn) : Int :=
  if t.op < 1 ∨ 5 < t.op then 4
  else if ¬ (0 ≤ t.zxid ∧ t.zxid < 4611686018427387904) ∨ t.session < 1 ∨ 2147483647 < t.session ∨ t.version < 0 ∨ 2147483647 < t.version ∨ t.owner < 0 ∨ 2147483647 < t.owner then 3
  else if 256 < (t.data.size : Int) then 1
  else if t.op ≤ 2 ∧ (t.path.toList ≠ [] ∨ t.data.toList ≠ [] ∨ t.version ≠ 0 ∨ t.owner ≠ 0) then 2
  else if 3 ≤ t.op ∧ (goodP t.path = false ∨ (t.path.toList = [47] ∧ t.op ≠ 5)) then 2
  else if (t.op = 4 ∧ (t.data.toList ≠ [] ∨ t.version ≠ 0 ∨ t.owner ≠ 0)) ∨ (t.op = 3 ∧ t.version ≠ 0) ∨ (t.op = 5 ∧ t.owner ≠ 0) then 2
  else 0
set_option maxHeartbeats 1000000 in
theorem tgood_1 (z o s v ow : Int) (p d : ByteArray) (w : World) (h : o < 1 ∨ 5 < o) :
    Calls Tryd.prog 31 #[.agg #[.int .i64 z, .int .i64 o, .int .i64 s, .string p, .string d, .int .i64 v, .int .i64 ow]] w fun e w' => e = .returned (.int .i64 4) ∧ Below w.heap.size w w' := by
  rcases h with h | h
  · have h1 : decide (o < 1) = true := decide_eq_true h
    clear h
    go_enter Tryd.func31, Tryd.ntmps31
    go_wp2_with fail
    go_ret
    exact ⟨rfl, (by repeat (first | exact Below.refl _ _ | assumption | refine Below.drew ?_ | refine Below.drewN' ?_ _ | refine below_grow0 _ _ ?_ | refine below_alloc0 _ ?_ | refine Below.alloc ?_ (by first | omega | (simp; done) | (simp; omega)) _ | refine Below.setCell ?_ (by first | omega | (simp; done) | (simp; omega)) _ | refine Below.grow _ _ _ ?_ (by first | omega | (simp; done) | (simp; omega))))⟩
  · have h1 : decide (o < 1) = false := decide_eq_false (by omega)
    have h2 : decide (5 < o) = true := decide_eq_true h
    clear h
    go_enter Tryd.func31, Tryd.ntmps31
    go_wp2_with fail
    go_ret
    exact ⟨rfl, (by repeat (first | exact Below.refl _ _ | assumption | refine Below.drew ?_ | refine Below.drewN' ?_ _ | refine below_grow0 _ _ ?_ | refine below_alloc0 _ ?_ | refine Below.alloc ?_ (by first | omega | (simp; done) | (simp; omega)) _ | refine Below.setCell ?_ (by first | omega | (simp; done) | (simp; omega)) _ | refine Below.grow _ _ _ ?_ (by first | omega | (simp; done) | (simp; omega))))⟩
set_option maxHeartbeats 2000000 in
theorem tgood_2 (z o s v ow : Int) (p d : ByteArray) (w : World) (h1 : decide (o < 1) = false) (h2 : decide (5 < o) = false) (h : ¬ Zx z ∨ s < 1 ∨ 2147483647 < s ∨ v < 0 ∨ 2147483647 < v ∨ ow < 0 ∨ 2147483647 < ow) :
    Calls Tryd.prog 31 #[.agg #[.int .i64 z, .int .i64 o, .int .i64 s, .string p, .string d, .int .i64 v, .int .i64 ow]] w fun e w' => e = .returned (.int .i64 3) ∧ Below w.heap.size w w' := by
  by_cases hz : Zx z
  · have h' : s < 1 ∨ 2147483647 < s ∨ v < 0 ∨ 2147483647 < v ∨ ow < 0 ∨ 2147483647 < ow := by
      rcases h with h | h
      · exact absurd hz h
      · exact h
    have hd : (decide (s < 1) || (decide (2147483647 < s) || (decide (v < 0) || (decide (2147483647 < v) || (decide (ow < 0) || decide (2147483647 < ow)))))) = true := by simpa using h'
    clear h h'
    cases e1 : decide (s < 1) <;> cases e2 : decide (2147483647 < s) <;> cases e3 : decide (v < 0) <;> cases e4 : decide (2147483647 < v) <;> cases e5 : decide (ow < 0) <;> cases e6 : decide (2147483647 < ow)
    all_goals first | (rw [e1, e2, e3, e4, e5, e6] at hd; exact absurd hd (by decide)) | (exfalso; simp at e1 e2 e3 e4 e5 e6; omega) | skip
    all_goals clear hd
    all_goals go_enter Tryd.func31, Tryd.ntmps31
    all_goals go_wp2_with (go_at_call 27; refine (zgood_yes z _ hz).mono ?_; rintro e w1 ⟨rfl, rfl⟩; skip)
    all_goals go_ret
    all_goals exact ⟨rfl, (by repeat (first | exact Below.refl _ _ | assumption | refine Below.drew ?_ | refine Below.drewN' ?_ _ | refine below_grow0 _ _ ?_ | refine below_alloc0 _ ?_ | refine Below.alloc ?_ (by first | omega | (simp; done) | (simp; omega)) _ | refine Below.setCell ?_ (by first | omega | (simp; done) | (simp; omega)) _ | refine Below.grow _ _ _ ?_ (by first | omega | (simp; done) | (simp; omega))))⟩
  · clear h
    go_enter Tryd.func31, Tryd.ntmps31
    go_wp2_with (go_at_call 27; refine (zgood_no z _ hz).mono ?_; rintro e w1 ⟨rfl, rfl⟩; skip)
    go_ret
    exact ⟨rfl, (by repeat (first | exact Below.refl _ _ | assumption | refine Below.drew ?_ | refine Below.drewN' ?_ _ | refine below_grow0 _ _ ?_ | refine below_alloc0 _ ?_ | refine Below.alloc ?_ (by first | omega | (simp; done) | (simp; omega)) _ | refine Below.setCell ?_ (by first | omega | (simp; done) | (simp; omega)) _ | refine Below.grow _ _ _ ?_ (by first | omega | (simp; done) | (simp; omega))))⟩
set_option maxHeartbeats 1000000 in
theorem tgood_3 (z o s v ow : Int) (p d : ByteArray) (w : World) (h1 : decide (o < 1) = false) (h2 : decide (5 < o) = false) (hz : Zx z) (h3 : decide (s < 1) = false) (h4 : decide (2147483647 < s) = false) (h5 : decide (v < 0) = false) (h6 : decide (2147483647 < v) = false) (h7 : decide (ow < 0) = false) (h8 : decide (2147483647 < ow) = false) (h9 : decide (256 < (d.size : Int)) = true) :
    Calls Tryd.prog 31 #[.agg #[.int .i64 z, .int .i64 o, .int .i64 s, .string p, .string d, .int .i64 v, .int .i64 ow]] w fun e w' => e = .returned (.int .i64 1) ∧ Below w.heap.size w w' := by
  go_enter Tryd.func31, Tryd.ntmps31
  go_wp2_with (go_at_call 27; refine (zgood_yes z _ hz).mono ?_; rintro e w1 ⟨rfl, rfl⟩; skip)
  go_ret
  exact ⟨rfl, (by repeat (first | exact Below.refl _ _ | assumption | refine Below.drew ?_ | refine Below.drewN' ?_ _ | refine below_grow0 _ _ ?_ | refine below_alloc0 _ ?_ | refine Below.alloc ?_ (by first | omega | (simp; done) | (simp; omega)) _ | refine Below.setCell ?_ (by first | omega | (simp; done) | (simp; omega)) _ | refine Below.grow _ _ _ ?_ (by first | omega | (simp; done) | (simp; omega))))⟩
theorem goodT_low (z o s v ow : Int) (p d : ByteArray) (h1 : decide (o < 1) = false) (_h2 : decide (5 < o) = false) (hz : Zx z) (h3 : decide (s < 1) = false) (h4 : decide (2147483647 < s) = false) (h5 : decide (v < 0) = false) (h6 : decide (2147483647 < v) = false) (h7 : decide (ow < 0) = false) (h8 : decide (2147483647 < ow) = false) (h9 : decide (256 < (d.size : Int)) = false)
    (h10 : o ≤ 2) : goodT ⟨z, o, s, p, d, v, ow⟩ = if p.toList = [] ∧ d.toList = [] ∧ v = 0 ∧ ow = 0 then 0 else 2 := by
  simp at h1 h3 h4 h5 h6 h7 h8 h9
  unfold Zx at hz
  unfold goodT
  dsimp only
  rw [if_neg (by omega), if_neg (by omega), if_neg (by omega)]
  by_cases hh : p.toList = [] ∧ d.toList = [] ∧ v = 0 ∧ ow = 0
  · rw [if_pos hh, if_neg (by simp [hh.1, hh.2.1, hh.2.2.1, hh.2.2.2]), if_neg (by omega), if_neg (by omega)]
  · have hx : p.toList ≠ [] ∨ d.toList ≠ [] ∨ v ≠ 0 ∨ ow ≠ 0 := by
      by_cases a : p.toList = []
      · by_cases b : d.toList = []
        · have : ¬ (v = 0 ∧ ow = 0) := fun e => hh ⟨a, b, e⟩
          exact .inr (.inr (by omega))
        · exact .inr (.inl b)
      · exact .inl a
    rw [if_neg hh, if_pos ⟨h10, hx⟩]
theorem goodT_high (z o s v ow : Int) (p d : ByteArray) (h2 : decide (5 < o) = false) (hz : Zx z) (h3 : decide (s < 1) = false) (h4 : decide (2147483647 < s) = false) (h5 : decide (v < 0) = false) (h6 : decide (2147483647 < v) = false) (h7 : decide (ow < 0) = false) (h8 : decide (2147483647 < ow) = false) (h9 : decide (256 < (d.size : Int)) = false)
    (h10 : 3 ≤ o) : goodT ⟨z, o, s, p, d, v, ow⟩ = if goodP p = false ∨ (p.toList = [47] ∧ o ≠ 5) then 2
      else if (o = 4 ∧ (d.toList ≠ [] ∨ v ≠ 0 ∨ ow ≠ 0)) ∨ (o = 3 ∧ v ≠ 0) ∨ (o = 5 ∧ ow ≠ 0) then 2 else 0 := by
  simp at h2 h3 h4 h5 h6 h7 h8 h9
  unfold Zx at hz
  unfold goodT
  dsimp only
  rw [if_neg (by omega), if_neg (by omega), if_neg (by omega), if_neg (by omega)]
  by_cases hh : goodP p = false ∨ (p.toList = [47] ∧ o ≠ 5)
  · rw [if_pos ⟨h10, hh⟩, if_pos hh]
  · rw [if_neg (fun e => hh e.2), if_neg hh]
set_option maxHeartbeats 4000000 in
theorem tgood_4 (z o s v ow : Int) (p d : ByteArray) (w : World) (h1 : decide (o < 1) = false) (h2 : decide (5 < o) = false) (hz : Zx z) (h3 : decide (s < 1) = false) (h4 : decide (2147483647 < s) = false) (h5 : decide (v < 0) = false) (h6 : decide (2147483647 < v) = false) (h7 : decide (ow < 0) = false) (h8 : decide (2147483647 < ow) = false) (h9 : decide (256 < (d.size : Int)) = false)
    (h10 : decide (o ≤ 2) = true) (h11 : decide (3 ≤ o) = false) (h12 : (o == 4) = false) (h13 : (o == 3) = false) (h14 : (o == 5) = false) :
    Calls Tryd.prog 31 #[.agg #[.int .i64 z, .int .i64 o, .int .i64 s, .string p, .string d, .int .i64 v, .int .i64 ow]] w fun e w' => e = .returned (.int .i64 (if p.toList = [] ∧ d.toList = [] ∧ v = 0 ∧ ow = 0 then 0 else 2)) ∧ Below w.heap.size w w' := by
  go_enter Tryd.func31, Tryd.ntmps31
  go_wp2_with (go_at_call 27; refine (zgood_yes z _ hz).mono ?_; rintro e w1 ⟨rfl, rfl⟩; skip)
  all_goals go_ret
  all_goals refine ⟨?_, (by repeat (first | exact Below.refl _ _ | assumption | refine Below.drew ?_ | refine Below.drewN' ?_ _ | refine below_grow0 _ _ ?_ | refine below_alloc0 _ ?_ | refine Below.alloc ?_ (by first | omega | (simp; done) | (simp; omega)) _ | refine Below.setCell ?_ (by first | omega | (simp; done) | (simp; omega)) _ | refine Below.grow _ _ _ ?_ (by first | omega | (simp; done) | (simp; omega))))⟩
  all_goals (refine congrArg (fun x => Ending.returned (Value.int IntKind.i64 x)) ?_)
  all_goals simp_all
set_option maxHeartbeats 4000000 in
theorem tgood_5 (z o s v ow : Int) (p d : ByteArray) (w : World) (h1 : decide (o < 1) = false) (h2 : decide (5 < o) = false) (hz : Zx z) (h3 : decide (s < 1) = false) (h4 : decide (2147483647 < s) = false) (h5 : decide (v < 0) = false) (h6 : decide (2147483647 < v) = false) (h7 : decide (ow < 0) = false) (h8 : decide (2147483647 < ow) = false) (h9 : decide (256 < (d.size : Int)) = false)
    (h10 : decide (o ≤ 2) = false) (h11 : decide (3 ≤ o) = true) (hp : p.size ≤ 9223372036854775807) (hg : goodP p = false) :
    Calls Tryd.prog 31 #[.agg #[.int .i64 z, .int .i64 o, .int .i64 s, .string p, .string d, .int .i64 v, .int .i64 ow]] w fun e w' => e = .returned (.int .i64 2) ∧ Below w.heap.size w w' := by
  have HG := fun w => good_any p w hp
  rw [hg] at HG
  clear hg
  go_enter Tryd.func31, Tryd.ntmps31
  go_wp2_with first | (go_at_call 27; refine (zgood_yes z _ hz).mono ?_; rintro e w1 ⟨rfl, rfl⟩; skip) | (go_at_call 37; refine (HG _).mono ?_; rintro e w1 ⟨rfl, hb1⟩; obtain ⟨ext1, d1, rfl⟩ := Below.grown_eq _ hb1)
  go_ret
  exact ⟨rfl, (by repeat (first | exact Below.refl _ _ | assumption | refine Below.drew ?_ | refine Below.drewN' ?_ _ | refine below_grow0 _ _ ?_ | refine below_alloc0 _ ?_ | refine Below.alloc ?_ (by first | omega | (simp; done) | (simp; omega)) _ | refine Below.setCell ?_ (by first | omega | (simp; done) | (simp; omega)) _ | refine Below.grow _ _ _ ?_ (by first | omega | (simp; done) | (simp; omega))))⟩
set_option maxHeartbeats 4000000 in
theorem tgood_6 (z o s v ow : Int) (p d : ByteArray) (w : World) (hz : Zx z) (h3 : decide (s < 1) = false) (h4 : decide (2147483647 < s) = false) (h5 : decide (v < 0) = false) (h6 : decide (2147483647 < v) = false) (h7 : decide (ow < 0) = false) (h8 : decide (2147483647 < ow) = false) (h9 : decide (256 < (d.size : Int)) = false)
    (hp : p.size ≤ 9223372036854775807) (hg : goodP p = true) (ho : o = 3 ∨ o = 4 ∨ o = 5) :
    Calls Tryd.prog 31 #[.agg #[.int .i64 z, .int .i64 o, .int .i64 s, .string p, .string d, .int .i64 v, .int .i64 ow]] w fun e w' => e = .returned (.int .i64 (if (p.toList = [47] ∧ o ≠ 5) then 2
      else if (o = 4 ∧ (d.toList ≠ [] ∨ v ≠ 0 ∨ ow ≠ 0)) ∨ (o = 3 ∧ v ≠ 0) ∨ (o = 5 ∧ ow ≠ 0) then 2 else 0)) ∧ Below w.heap.size w w' := by
  have HG := fun w => good_any p w hp
  rw [hg] at HG
  clear hg
  rcases ho with rfl | rfl | rfl
  all_goals go_enter Tryd.func31, Tryd.ntmps31
  all_goals go_wp2_with first | (go_at_call 27; refine (zgood_yes z _ hz).mono ?_; rintro e w1 ⟨rfl, rfl⟩; skip) | (go_at_call 37; refine (HG _).mono ?_; rintro e w1 ⟨rfl, hb1⟩; obtain ⟨ext1, d1, rfl⟩ := Below.grown_eq _ hb1)
  all_goals go_ret
  all_goals refine ⟨?_, (by repeat (first | exact Below.refl _ _ | assumption | refine Below.drew ?_ | refine Below.drewN' ?_ _ | refine below_grow0 _ _ ?_ | refine below_alloc0 _ ?_ | refine Below.alloc ?_ (by first | omega | (simp; done) | (simp; omega)) _ | refine Below.setCell ?_ (by first | omega | (simp; done) | (simp; omega)) _ | refine Below.grow _ _ _ ?_ (by first | omega | (simp; done) | (simp; omega))))⟩
  all_goals (refine congrArg (fun x => Ending.returned (Value.int IntKind.i64 x)) ?_)
  all_goals simp_all
/-- wire.Good, at every transaction -/
theorem tgood_any (t : Txn) (w : World) (hp : t.path.size ≤ 9223372036854775807) :
    Calls Tryd.prog 31 #[.agg #[.int .i64 t.zxid, .int .i64 t.op, .int .i64 t.session, .string t.path, .string t.data, .int .i64 t.version, .int .i64 t.owner]] w fun e w' => e = .returned (.int .i64 (goodT t)) ∧ Below w.heap.size w w' := by
  obtain ⟨z, o, s, p, d, v, ow⟩ := t
  dsimp only at *
  by_cases a1 : o < 1 ∨ 5 < o
  · rw [show goodT ⟨z, o, s, p, d, v, ow⟩ = 4 from if_pos a1]
    exact tgood_1 z o s v ow p d w a1
  have h1 : decide (o < 1) = false := decide_eq_false (fun e => a1 (.inl e))
  have h2 : decide (5 < o) = false := decide_eq_false (fun e => a1 (.inr e))
  by_cases a2 : ¬ (0 ≤ z ∧ z < 4611686018427387904) ∨ s < 1 ∨ 2147483647 < s ∨ v < 0 ∨ 2147483647 < v ∨ ow < 0 ∨ 2147483647 < ow
  · rw [show goodT ⟨z, o, s, p, d, v, ow⟩ = 3 from (if_neg a1).trans (if_pos a2)]
    exact tgood_2 z o s v ow p d w h1 h2 a2
  have hz : Zx z := by unfold Zx; omega
  have h3 : decide (s < 1) = false := decide_eq_false (by omega)
  have h4 : decide (2147483647 < s) = false := decide_eq_false (by omega)
  have h5 : decide (v < 0) = false := decide_eq_false (by omega)
  have h6 : decide (2147483647 < v) = false := decide_eq_false (by omega)
  have h7 : decide (ow < 0) = false := decide_eq_false (by omega)
  have h8 : decide (2147483647 < ow) = false := decide_eq_false (by omega)
  by_cases a3 : 256 < (d.size : Int)
  · rw [show goodT ⟨z, o, s, p, d, v, ow⟩ = 1 from (if_neg a1).trans ((if_neg a2).trans (if_pos a3))]
    exact tgood_3 z o s v ow p d w h1 h2 hz h3 h4 h5 h6 h7 h8 (decide_eq_true a3)
  have h9 : decide (256 < (d.size : Int)) = false := decide_eq_false a3
  by_cases a4 : o ≤ 2
  · rw [goodT_low z o s v ow p d h1 h2 hz h3 h4 h5 h6 h7 h8 h9 a4]
    exact tgood_4 z o s v ow p d w h1 h2 hz h3 h4 h5 h6 h7 h8 h9 (decide_eq_true a4) (decide_eq_false (by omega)) (beq_eq_false_iff_ne.2 (by omega)) (beq_eq_false_iff_ne.2 (by omega)) (beq_eq_false_iff_ne.2 (by omega))
  · rw [goodT_high z o s v ow p d h2 hz h3 h4 h5 h6 h7 h8 h9 (by omega)]
    cases hg : goodP p with
    | false =>
      rw [if_pos (.inl rfl)]
      exact tgood_5 z o s v ow p d w h1 h2 hz h3 h4 h5 h6 h7 h8 h9 (decide_eq_false a4) (decide_eq_true (by omega)) hp hg
    | true =>
      have := tgood_6 z o s v ow p d w hz h3 h4 h5 h6 h7 h8 h9 hp hg (by omega)
      simpa using this
end Go.Proofs.YteolglmifimnaaaDoor

/- The tree: what its functions compute, in plain words. -/
namespace Go.Proofs.YteolglmifimnaaaDoor
open Go.RowKit
/-! numbers in order, searched by halves -/
def ltI (l : List Int) (s : Int) (k : Nat) : Bool := match l[k]? with | some x => decide (x < s) | none => false
def posI (l : List Int) (s : Int) : Nat := bsr (ltI l s) 0 l.length
def isI (l : List Int) (s : Int) : Bool := decide (l[posI l s]? = some s)
theorem ltI_of {l : List Int} {k : Nat} {x : Int} (h : l[k]? = some x) (s : Int) : ltI l s k = decide (x < s) := by unfold ltI; rw [h]
theorem isI_in {l : List Int} {s : Int} {k : Nat} {x : Int} (hp : posI l s = k) (h : l[k]? = some x) : isI l s = decide (x = s) := by
  unfold isI
  rw [hp, h]
  simp
theorem isI_out {l : List Int} {s : Int} {k : Nat} (hp : posI l s = k) (h : ¬ k < l.length) : isI l s = false := by
  unfold isI
  rw [hp, List.getElem?_eq_none (by omega)]
  simp
theorem posI_le (l : List Int) (s : Int) : posI l s ≤ l.length := bsr_le _ _
theorem posK_le' (l : List ByteArray) (s : ByteArray) : posK l s ≤ l.length := bsr_le _ _
/-! the tree -/
structure Tr where
  zxid : Int
  nodes : List Node
  sess : List Int
abbrev noNode : Node := ⟨⟨#[]⟩, ⟨#[]⟩, 0, 0, 0, 0, 0, 0, 0⟩
abbrev rootN : Node := ⟨⟨#[47]⟩, ⟨#[]⟩, 0, 0, 0, 0, 0, 0, 0⟩
def posN (l : List Node) (p : ByteArray) : Nat := posK (l.map Node.path) p
def hasN (l : List Node) (p : ByteArray) : Bool := isK (l.map Node.path) p
def getN (l : List Node) (p : ByteArray) : Node := if hasN l p then l.getD (posN l p) noNode else noNode
def getE (l : List Node) (p : ByteArray) : Int := if hasN l p then 0 else 7
def kidB (p : ByteArray) (n : Node) : Bool := decide ((splitR n.path).2.2 = 0) && decide ((splitR n.path).1 = p)
def kidsL (l : List Node) (p : ByteArray) : List ByteArray := (l.filter (kidB p)).map (fun n => (splitR n.path).2.1)
/-- a child more or less -/
def bump (n : Node) (more z : Int) : Node := { n with kids := n.kids + more, cversion := n.cversion + 1, pzxid := z }
def kidN (l : List Node) (d : ByteArray) (more z : Int) : List Node := if hasN l d then l.set (posN l d) (bump (l.getD (posN l d) noNode) more z) else l
abbrev parent (p : ByteArray) : ByteArray := (splitR p).1
def insN (l : List Node) (x : Node) : List Node := l.take (posN l x.path) ++ x :: l.drop (posN l x.path)
def delN (l : List Node) (p : ByteArray) : List Node := l.take (posN l p) ++ l.drop (posN l p + 1)
def nodeOf (x : Txn) : Node := ⟨x.path, x.data, x.zxid, x.zxid, x.zxid, 0, 0, x.owner, 0⟩
def makeN (l : List Node) (x : Txn) : List Node := kidN (insN l (nodeOf x)) (parent x.path) 1 x.zxid
def goneN (l : List Node) (p : ByteArray) (z : Int) : List Node := kidN (delN l p) (parent p) (-1) z
def setN (l : List Node) (x : Txn) : List Node := l.set (posN l x.path) { l.getD (posN l x.path) noNode with data := x.data, version := x.version, mzxid := x.zxid }
def makeV (p : ByteArray) : List Event := [⟨1, p⟩, ⟨4, parent p⟩]
def goneV (p : ByteArray) : List Event := [⟨2, p⟩, ⟨4, parent p⟩]
def ownedL (l : List Node) (s : Int) : List ByteArray := (l.filter (fun n => decide (n.owner = s))).map Node.path
def closeN (l : List Node) (s z : Int) : List Node := (ownedL l s).foldl (fun l p => goneN l p z) l
def closeV (l : List Node) (s : Int) : List Event := (ownedL l s).flatMap goneV
/-! is it good -/
def okS (l : List Int) (i : Nat) : Bool := match l[i]? with
  | none => true
  | some s => decide (1 ≤ s) && (decide (s ≤ 2147483647) && (match i with | 0 => true | j + 1 => match l[j]? with | some y => decide (y < s) | none => true))
def statB (z : Int) (n : Node) : Bool := decide (0 ≤ n.version ∧ n.version ≤ 2147483647 ∧ 0 ≤ n.cversion ∧ n.cversion ≤ 2147483647 ∧ 0 ≤ n.czxid ∧ n.czxid ≤ n.mzxid ∧ n.czxid ≤ n.pzxid ∧ n.mzxid ≤ z ∧ n.pzxid ≤ z)
def ownB (ss : List Int) (n : Node) : Bool := decide (n.owner = 0) || (isI ss n.owner && decide (n.kids = 0))
def upB (l : List Node) (n : Node) : Bool := decide ((splitR n.path).2.2 ≠ 0) || hasN l (parent n.path)
def lessB (l : List Node) (i : Nat) (n : Node) : Bool := match i with | 0 => true | j + 1 => match l[j]? with | some y => decide (cmpB y.path n.path < 0) | none => true
def okN (t : Tr) (i : Nat) : Bool := match t.nodes[i]? with
  | none => true
  | some n => goodP n.path && (decide (n.data.size ≤ 256) && (lessB t.nodes i n && (statB t.zxid n && (ownB t.sess n && upB t.nodes n))))
def headB (t : Tr) : Bool := decide (t.nodes.length ≤ 400) && (decide (0 ≤ t.zxid ∧ t.zxid < 4611686018427387904) && (match t.nodes with | [] => false | n :: _ => decide (n.path = slash) && decide (n.owner = 0)))
def goodTree (t : Tr) : Bool := headB t && ((List.range t.sess.length).all (okS t.sess) && ((List.range t.nodes.length).all (okN t) && t.nodes.all (fun n => decide (n.kids = ((t.nodes.countP (kidB n.path) : Nat) : Int)))))
/-! a transaction -/
def lacksE (t : Tr) (x : Txn) : Int := if hasN t.nodes x.path then 8 else if hasN t.nodes (parent x.path) then (if (getN t.nodes (parent x.path)).owner ≠ 0 then 11 else if x.owner ≠ 0 ∧ x.owner ≠ x.session then 12 else if 400 ≤ t.nodes.length then 6 else 0) else 7
def wrongE (t : Tr) (x : Txn) : Int :=
  if goodTree t = false then 3
  else if goodT x ≠ 0 then goodT x
  else if x.zxid ≤ t.zxid then 13
  else if x.op = 1 then (if isI t.sess x.session then 8 else 0)
  else if isI t.sess x.session = false then 12
  else if x.op = 3 then lacksE t x
  else if x.op = 4 then (if hasN t.nodes x.path then (if 0 < (getN t.nodes x.path).kids then 10 else 0) else 7)
  else if x.op = 5 then (if hasN t.nodes x.path then (if x.version ≠ (getN t.nodes x.path).version + 1 then 9 else 0) else 7)
  else 0
def insS (l : List Int) (s : Int) : List Int := l.take (posI l s) ++ s :: l.drop (posI l s)
def delS (l : List Int) (s : Int) : List Int := l.take (posI l s) ++ l.drop (posI l s + 1)
def doN (t : Tr) (x : Txn) : List Node := if x.op = 2 then closeN t.nodes x.session x.zxid else if x.op = 3 then makeN t.nodes x else if x.op = 4 then goneN t.nodes x.path x.zxid else if x.op = 5 then setN t.nodes x else t.nodes
def doS (t : Tr) (x : Txn) : List Int := if x.op = 1 then insS t.sess x.session else if x.op = 2 then delS t.sess x.session else t.sess
def doV (t : Tr) (x : Txn) : List Event := if x.op = 2 then closeV t.nodes x.session else if x.op = 3 then makeV x.path else if x.op = 4 then goneV x.path else if x.op = 5 then [⟨3, x.path⟩] else []
def fullB (l : List Node) : Bool := l.any (fun n => decide (2147483647 < n.cversion))
def applyE (t : Tr) (x : Txn) : Int := if wrongE t x = 0 then (if fullB (doN t x) then 6 else 0) else wrongE t x
def noTr : Tr := ⟨0, [], []⟩
def applyT (t : Tr) (x : Txn) : Tr := if applyE t x = 0 then ⟨x.zxid, doN t x, doS t x⟩ else noTr
def applyV (t : Tr) (x : Txn) : List Event := if applyE t x = 0 then doV t x else []
abbrev newTr : Tr := ⟨0, [rootN], []⟩
end Go.Proofs.YteolglmifimnaaaDoor

/- What Join gives: plain laws. -/
namespace Go.Proofs.YteolglmifimnaaaDoor
open Go.RowKit
theorem join_parts {d n : ByteArray} (h : (joinR d n).2 = 0) : goodP d = true ∧ named (bs n) = true ∧ (joinT d n).size ≤ 200 ∧ joinR d n = (joinT d n, 0) := by
  unfold joinR at h ⊢
  cases h1 : goodP d with
  | false => rw [h1] at h; simp at h
  | true =>
    cases h2 : named (bs n) with
    | false => rw [h1, h2] at h; simp at h
    | true =>
      rw [h1, h2] at h
      by_cases h3 : 200 < (joinT d n).size
      · simp [h3] at h
      · exact ⟨rfl, rfl, by omega, by simp [h3]⟩
theorem joinR_not {d n : ByteArray} (h : (joinR d n).2 ≠ 0) : (joinR d n).1 = ⟨#[]⟩ := by
  unfold joinR at h ⊢
  split
  · split
    · rfl
    · rename_i h1 h2; rw [if_pos h1, if_neg h2] at h; simp at h
  · rfl
theorem count_none {l : List UInt8} (h : (47 : UInt8) ∉ l) : Lib.countByte l 47 = 0 := by
  unfold Lib.countByte
  exact List.count_eq_zero.2 h
theorem join_all {d n : ByteArray} (h : (joinR d n).2 = 0) : goodP (joinT d n) = true ∧ splitR (joinT d n) = (d, n, 0) ∧ depthR (joinT d n) = ((depthR d).1 + 1, 0) ∧ (depthR d).2 = 0 ∧ underB (joinT d n) d = true ∧ underB d (joinT d n) = false := by
  obtain ⟨h1, h2, h3, _⟩ := join_parts h
  obtain ⟨hn, hn1, hn2⟩ := named_no h2
  have key : goodP (joinT d n) = true ∧ splitR (joinT d n) = (d, n, 0) ∧ depthR (joinT d n) = ((depthR d).1 + 1, 0) ∧ (depthR d).2 = 0 ∧ underB (joinT d n) d = true := by
    by_cases hd : d = slash
    · subst hd
      have hb : bs (joinT slash n) = 47 :: bs n := by
        unfold joinT
        rw [if_pos rfl, bs_append, slash_bs]
        rfl
      have hsz := size_bs (joinT slash n)
      generalize joinT slash n = s at *
      have hp := pre_of_bs hb
      have hg : goodP s = true := by
        rw [goodP_L, hb, goodL_root (bs n) hn (by rw [← hb, length_bs]; exact h3), h2]
        simp
      have hne : s ≠ slash := by
        intro e
        rw [e, slash_bs] at hb
        injection hb with _ hb
        rw [← hb] at hn1
        simp at hn1
      have hk : lastP s = 0 := lastP_of (d := []) (n := bs n) hb hn hp
      have hn3 : s.extract 1 s.size = n := by
        apply bs_inj
        rw [bs_extract, List.take_of_length_le (by rw [length_bs]; exact Nat.le_refl _), hb]
        rfl
      refine ⟨hg, ?_, ?_, ?_, ?_⟩
      · unfold splitR
        rw [if_pos hg, if_neg hne, if_pos hk, hn3]
      · unfold depthR
        rw [if_pos hg, if_neg hne, if_pos good_slash, if_pos rfl]
        show (((Lib.countByte (bs s) 47 : Nat) : Int), (0 : Int)) = _
        have := count_none hn
        unfold Lib.countByte at this ⊢
        rw [hb, List.count_cons_self, this]
        rfl
      · unfold depthR
        rw [if_pos good_slash, if_pos rfl]
      · unfold underB
        rw [hg, good_slash, decide_eq_true hne, decide_eq_true rfl]
        rfl
    · have hb : bs (joinT d n) = bs d ++ 47 :: bs n := by
        unfold joinT
        rw [if_neg hd, bs_append, bs_append, slash_bs]
        simp
      generalize joinT d n = s at *
      obtain ⟨r, hr⟩ := bs_pre (goodP_pre h1 hd).1
      have hds : 47 :: r ≠ [47] := by
        intro e
        exact hd (bs_inj (by rw [hr, e]; rfl))
      have hb2 : bs s = 47 :: (r ++ 47 :: bs n) := by rw [hb, hr]; rfl
      have hp := pre_of_bs hb2
      have hg : goodP s = true := by
        have h4 := goodL_deep 47 r (bs n) hds hn (by rw [show 47 :: r ++ 47 :: bs n = bs s from hb2.symm, length_bs]; exact h3)
        rw [goodP_L, hb2]
        rw [goodP_L, hr] at h1
        rw [h1, h2] at h4
        exact h4
      have hk : lastP s = (bs d).length := lastP_of hb hn hp
      have hne : s ≠ slash := by
        intro e
        rw [e, slash_bs] at hb2
        injection hb2 with _ hb2
        simp at hb2
      have hk0 : lastP s ≠ 0 := by rw [hk, hr]; simp
      have hd3 : s.extract 0 (lastP s) = d := by
        apply bs_inj
        rw [bs_extract, hk, hb]
        simp
      have hn3 : s.extract (lastP s + 1) s.size = n := by
        apply bs_inj
        rw [bs_extract, List.take_of_length_le (by rw [length_bs]; exact Nat.le_refl _), hk, hb]
        rw [List.drop_append, List.drop_of_length_le (by omega), show (bs d).length + 1 - (bs d).length = 1 from by omega]
        rfl
      refine ⟨hg, ?_, ?_, ?_, ?_⟩
      · unfold splitR
        rw [if_pos hg, if_neg hne, if_neg hk0, hd3, hn3]
      · unfold depthR
        rw [if_pos hg, if_neg hne, if_pos h1, if_neg hd]
        show (((Lib.countByte (bs s) 47 : Nat) : Int), (0 : Int)) = (((Lib.countByte (bs d) 47 : Nat) : Int) + 1, 0)
        have := count_none hn
        unfold Lib.countByte at this ⊢
        rw [hb, List.count_append, List.count_cons_self, this]
        rfl
      · unfold depthR
        rw [if_pos h1, if_neg hd]
      · unfold underB
        have hsd : s ≠ d := by
          intro e
          have := congrArg List.length hb
          rw [e] at this
          simp at this
        have hpp : Lib.hasPrefix s.data.toList (d ++ slash).data.toList = true := by
          show Lib.hasPrefix (bs s) (bs (d ++ slash)) = true
          refine List.isPrefixOf_iff_prefix.2 ⟨bs n, ?_⟩
          rw [bs_append, slash_bs, hb]
          simp
        rw [hg, h1, decide_eq_true hsd, hpp]
        simp
  obtain ⟨k1, k2, k3, k4, k5⟩ := key
  refine ⟨k1, k2, k3, k4, k5, ?_⟩
  cases hu : underB d (joinT d n) with
  | false => rfl
  | true => exact (under_both k5 hu).elim
end Go.Proofs.YteolglmifimnaaaDoor

/- Trees: plain laws of nodes that stand in order. -/
namespace Go.Proofs.YteolglmifimnaaaDoor
open Go.RowKit
def toE (n : Node) : Entry := ⟨n.path, n.data, true⟩
theorem map_toE (l : List Node) : (l.map toE).map Entry.path = l.map Node.path := by rw [List.map_map]; rfl
def ltN (x y : Node) : Prop := cmpB x.path y.path < 0
def SortedN (l : List Node) : Prop := l.Pairwise ltN
theorem ltN_trans {a b c : Node} (h : ltN a b) (k : ltN b c) : ltN a c := cb_trans _ _ _ h k
theorem ltN_ne {a b : Node} (h : ltN a b) : a.path ≠ b.path := by
  intro e
  unfold ltN at h
  rw [e, cmpB_self] at h
  omega
theorem sortedE_of {l : List Node} (h : SortedN l) : SortedE (l.map toE) := by
  rw [sorted_pw, List.pairwise_map]
  exact h
theorem posN_E (l : List Node) (p : ByteArray) : posN l p = posK ((l.map toE).map Entry.path) p := by unfold posN; rw [map_toE]
theorem hasN_E (l : List Node) (p : ByteArray) : hasN l p = isK ((l.map toE).map Entry.path) p := by unfold hasN; rw [map_toE]
theorem posN_lt {l : List Node} (hs : SortedN l) (p : ByteArray) {k : Nat} {x : Node} (hx : l[k]? = some x) : k < posN l p ↔ cmpB x.path p < 0 := by
  rw [posN_E]
  exact pos_of (sortedE_of hs) p k (toE x) (by rw [List.getElem?_map, hx]; rfl)
theorem at_ofN {l : List Node} (hs : SortedN l) {k : Nat} {x : Node} (hx : l[k]? = some x) : posN l x.path = k ∧ hasN l x.path = true := by
  rw [posN_E, hasN_E]
  exact at_of (sortedE_of hs) (x := toE x) (by rw [List.getElem?_map, hx]; rfl)
theorem none_ofN {l : List Node} {p : ByteArray} (h : ∀ x ∈ l, x.path ≠ p) : hasN l p = false := by
  rw [hasN_E]
  refine none_of p (fun k x hx => ?_)
  rw [List.getElem?_map, Option.map_eq_some_iff] at hx
  obtain ⟨y, hy, rfl⟩ := hx
  exact h y (List.mem_of_getElem? hy)
theorem has_at {l : List Node} {p : ByteArray} (h : hasN l p = true) : ∃ x, l[posN l p]? = some x ∧ x.path = p := by
  rw [hasN_E] at h
  obtain ⟨hq, he⟩ := is_at h
  have h1 := List.getElem?_eq_getElem hq
  generalize (l.map toE)[posK ((l.map toE).map Entry.path) p]'hq = e at h1 he
  rw [← posN_E, List.getElem?_map, Option.map_eq_some_iff] at h1
  obtain ⟨y, hy, rfl⟩ := h1
  exact ⟨y, hy, he⟩
theorem has_iff {l : List Node} (hs : SortedN l) {p : ByteArray} : hasN l p = true ↔ ∃ x ∈ l, x.path = p := by
  constructor
  · intro h
    obtain ⟨x, hx, he⟩ := has_at h
    exact ⟨x, List.mem_of_getElem? hx, he⟩
  · rintro ⟨x, hx, rfl⟩
    obtain ⟨k, hk⟩ := List.mem_iff_getElem?.1 hx
    exact (at_ofN hs hk).2
theorem has_no {l : List Node} (hs : SortedN l) {p : ByteArray} : hasN l p = false ↔ ∀ x ∈ l, x.path ≠ p := by
  constructor
  · intro h x hx he
    rw [(has_iff hs).2 ⟨x, hx, he⟩] at h
    cases h
  · exact none_ofN
theorem get_ofN {l : List Node} (hs : SortedN l) {x : Node} (hx : x ∈ l) : hasN l x.path = true ∧ getN l x.path = x := by
  obtain ⟨k, hk⟩ := List.mem_iff_getElem?.1 hx
  obtain ⟨h1, h2⟩ := at_ofN hs hk
  refine ⟨h2, ?_⟩
  unfold getN
  rw [h2, if_pos rfl, h1, List.getD_eq_getElem?_getD, hk]
  rfl
theorem get_noN {l : List Node} {p : ByteArray} (h : hasN l p = false) : getN l p = noNode := by unfold getN; rw [h]; rfl
theorem get_mem {l : List Node} {p : ByteArray} (h : hasN l p = true) : getN l p ∈ l ∧ (getN l p).path = p := by
  obtain ⟨x, hx, he⟩ := has_at h
  have hg : getN l p = x := by
    unfold getN
    rw [if_pos h, List.getD_eq_getElem?_getD, hx]
    rfl
  rw [hg]
  exact ⟨List.mem_of_getElem? hx, he⟩
theorem uniqN {l : List Node} (hs : SortedN l) {x y : Node} (hx : x ∈ l) (hy : y ∈ l) (h : x.path = y.path) : x = y := by rw [← (get_ofN hs hx).2, ← (get_ofN hs hy).2, h]
theorem map_same {l : List Node} {f : Node → Node} (h : ∀ x ∈ l, f x = x) : l.map f = l := by
  induction l with
  | nil => rfl
  | cons a r ih => rw [List.map_cons, h a (by simp), ih (fun x hx => h x (by simp [hx]))]
theorem set_map {l : List Node} (hs : SortedN l) {k : Nat} {x u : Node} (hx : l[k]? = some x) (g : Node → Node) (hgx : g x = u) (hg : ∀ y ∈ l, y.path ≠ x.path → g y = y) : l.set k u = l.map g := by
  apply List.ext_getElem?
  intro i
  rw [List.getElem?_set, List.getElem?_map]
  have hk := (List.getElem?_eq_some_iff.1 hx).1
  by_cases hki : k = i
  · subst hki
    rw [if_pos rfl, if_pos hk, hx, ← hgx]
    rfl
  · rw [if_neg hki]
    cases hy : l[i]? with
    | none => rfl
    | some y =>
      have hne : y.path ≠ x.path := by
        intro e
        have h1 := (at_ofN hs hy).1
        have h2 := (at_ofN hs hx).1
        rw [e] at h1
        omega
      rw [Option.map_some, hg y (List.mem_of_getElem? hy) hne]
def bumpAt (d : ByteArray) (more z : Int) (n : Node) : Node := if n.path = d then bump n more z else n
theorem kidN_map {l : List Node} (hs : SortedN l) (d : ByteArray) (more z : Int) : kidN l d more z = l.map (bumpAt d more z) := by
  unfold kidN
  cases h : hasN l d with
  | false =>
    rw [if_neg (by simp), map_same]
    intro x hx
    unfold bumpAt
    rw [if_neg ((has_no hs).1 h x hx)]
  | true =>
    obtain ⟨x, hx, he⟩ := has_at h
    rw [if_pos rfl, List.getD_eq_getElem?_getD, hx]
    refine set_map hs hx _ ?_ ?_
    · unfold bumpAt
      rw [if_pos he]
      rfl
    · intro y hy hne
      unfold bumpAt
      rw [if_neg (by rw [← he]; exact hne)]
def putAt (x : Txn) (n : Node) : Node := if n.path = x.path then { n with data := x.data, version := x.version, mzxid := x.zxid } else n
theorem setN_map {l : List Node} (hs : SortedN l) {x : Txn} (h : hasN l x.path = true) : setN l x = l.map (putAt x) := by
  obtain ⟨n, hn, he⟩ := has_at h
  unfold setN
  rw [List.getD_eq_getElem?_getD, hn]
  refine set_map hs hn _ ?_ ?_
  · unfold putAt
    rw [if_pos he]
    rfl
  · intro y hy hne
    unfold putAt
    rw [if_neg (by rw [← he]; exact hne)]
theorem cut_get {α : Type} {l : List α} {k : Nat} {x : α} (h : l[k]? = some x) : l = l.take k ++ x :: l.drop (k + 1) := by
  obtain ⟨h1, h2⟩ := List.getElem?_eq_some_iff.1 h
  rw [← h2, List.getElem_cons_drop, List.take_append_drop]
theorem filter_same {α : Type} {l : List α} {f : α → Bool} (h : ∀ x ∈ l, f x = true) : l.filter f = l := List.filter_eq_self.2 h
theorem delN_filter {l : List Node} (hs : SortedN l) {p : ByteArray} (h : hasN l p = true) : delN l p = l.filter (fun n => decide (n.path ≠ p)) := by
  obtain ⟨x, hx, he⟩ := has_at h
  unfold delN
  have hc := cut_get hx
  generalize posN l p = k at hc
  generalize l.take k = a at hc ⊢
  generalize l.drop (k + 1) = b at hc ⊢
  subst hc
  unfold SortedN at hs
  rw [List.pairwise_append, List.pairwise_cons] at hs
  rw [List.filter_append, List.filter_cons_of_neg (by simp [he]), filter_same, filter_same]
  · intro y hy
    have := hs.2.1.1 y hy
    have := ltN_ne this
    simp
    rw [← he]
    exact fun e => this e.symm
  · intro y hy
    have := ltN_ne (hs.2.2 y hy x (by simp))
    simp
    rw [← he]
    exact this
theorem insN_parts {l : List Node} (hs : SortedN l) {x : Node} (h : hasN l x.path = false) : ∃ a b, l = a ++ b ∧ insN l x = a ++ x :: b ∧ SortedN (a ++ x :: b) := by
  refine ⟨l.take (posN l x.path), l.drop (posN l x.path), (List.take_append_drop _ _).symm, rfl, ?_⟩
  have hE := sortedE_of hs
  have hb := before_of hE x.path
  have ha := behind_of hE x.path (by rw [← hasN_E]; exact h)
  rw [← posN_E] at hb ha
  have e := List.take_append_drop (posN l x.path) l
  generalize posN l x.path = q at *
  rw [← List.map_take] at hb
  rw [← List.map_drop] at ha
  generalize l.take q = a at *
  generalize l.drop q = b at *
  unfold SortedN at *
  rw [← e] at hs
  rw [List.pairwise_append] at hs ⊢
  rw [List.pairwise_cons]
  refine ⟨hs.1, ⟨fun y hy => ha (toE y) (List.mem_map_of_mem hy), hs.2.1⟩, fun y hy u hu => ?_⟩
  have hyx : ltN y x := hb (toE y) (List.mem_map_of_mem hy)
  rcases List.mem_cons.1 hu with rfl | hu
  · exact hyx
  · exact hs.2.2 y hy u hu
theorem sorted_map {l : List Node} (hs : SortedN l) {f : Node → Node} (hf : ∀ x, (f x).path = x.path) : SortedN (l.map f) := by
  unfold SortedN at *
  rw [List.pairwise_map]
  refine hs.imp (fun h => ?_)
  unfold ltN at *
  rw [hf, hf]
  exact h
theorem sorted_filter {l : List Node} (hs : SortedN l) (f : Node → Bool) : SortedN (l.filter f) := List.Pairwise.filter f hs
theorem countP_map' {l : List Node} {f : Node → Node} (hf : ∀ x, (f x).path = x.path) (q : ByteArray) : (l.map f).countP (kidB q) = l.countP (kidB q) := by
  rw [List.countP_map]
  congr 1
  funext x
  simp only [Function.comp, kidB, hf]
theorem bumpAt_path (d : ByteArray) (more z : Int) (x : Node) : (bumpAt d more z x).path = x.path := by unfold bumpAt; split <;> rfl
theorem putAt_path (x : Txn) (n : Node) : (putAt x n).path = n.path := by unfold putAt; split <;> rfl
theorem pw_of_adj {α : Type} {R : α → α → Prop} (tr : ∀ a b c, R a b → R b c → R a c) : ∀ l : List α, (∀ i x y, l[i]? = some x → l[i + 1]? = some y → R x y) → l.Pairwise R
  | [], _ => .nil
  | [a], _ => List.pairwise_singleton R a
  | a :: b :: r, h => by
    have ih := pw_of_adj tr (b :: r) (fun i x y hx hy => h (i + 1) x y hx hy)
    have h0 := h 0 a b rfl rfl
    rw [List.pairwise_cons]
    refine ⟨fun y hy => ?_, ih⟩
    rcases List.mem_cons.1 hy with rfl | hy
    · exact h0
    · exact tr a b y h0 ((List.pairwise_cons.1 ih).1 y hy)
theorem adj_of_pw {α : Type} {R : α → α → Prop} {l : List α} (h : l.Pairwise R) {i j : Nat} {x y : α} (hij : i < j) (hx : l[i]? = some x) (hy : l[j]? = some y) : R x y := by
  obtain ⟨hi, rfl⟩ := List.getElem?_eq_some_iff.1 hx
  obtain ⟨hj, rfl⟩ := List.getElem?_eq_some_iff.1 hy
  exact List.pairwise_iff_getElem.1 h i j hi hj hij
/-! numbers in order -/
theorem posI_lt {l : List Int} (hs : l.Pairwise (· < ·)) (s : Int) {k : Nat} {x : Int} (hx : l[k]? = some x) : k < posI l s ↔ x < s := by
  have hk : k < l.length := (List.getElem?_eq_some_iff.1 hx).1
  obtain ⟨m, hm, h1, h2⟩ := border (ltI l s) l.length (by
    intro i j hij hj h
    have hi := List.getElem?_eq_getElem (l := l) (i := i) (by omega)
    have hj2 := List.getElem?_eq_getElem (l := l) (i := j) hj
    rw [ltI_of hj2] at h
    rw [ltI_of hi]
    have := adj_of_pw hs hij hi hj2
    simp at h ⊢
    omega)
  have hp : posI l s = m := by
    unfold posI
    exact bsr_sorted _ m l.length 0 l.length (by omega) (Nat.zero_le _) hm h1 h2
  rw [hp]
  constructor
  · intro h
    have := h1 k h
    rw [ltI_of hx] at this
    simpa using this
  · intro h
    rcases Nat.lt_or_ge k m with hlt2 | hge
    · exact hlt2
    · have := h2 k hge hk
      rw [ltI_of hx] at this
      simp at this
      omega
theorem isI_iff {l : List Int} (hs : l.Pairwise (· < ·)) {s : Int} : isI l s = true ↔ s ∈ l := by
  unfold isI
  rw [decide_eq_true_iff]
  constructor
  · exact List.mem_of_getElem?
  · intro h
    obtain ⟨k, hk⟩ := List.mem_iff_getElem?.1 h
    have h1 : ¬ k < posI l s := by rw [posI_lt hs s hk]; omega
    have h2 : posI l s = k := by
      rcases Nat.lt_or_ge (posI l s) k with h | h
      · have hkl := (List.getElem?_eq_some_iff.1 hk).1
        have hy := List.getElem?_eq_getElem (l := l) (i := posI l s) (by omega)
        have h3 := adj_of_pw hs h hy hk
        rw [← posI_lt hs s hy] at h3
        omega
      · omega
    rw [h2]
    exact hk
theorem isI_no {l : List Int} (hs : l.Pairwise (· < ·)) {s : Int} : isI l s = false ↔ s ∉ l := by
  rw [← isI_iff hs]
  cases isI l s <;> simp
theorem insS_spec {l : List Int} (hs : l.Pairwise (· < ·)) {s : Int} (h : s ∉ l) : (insS l s).Pairwise (· < ·) ∧ (∀ x, x ∈ insS l s ↔ x = s ∨ x ∈ l) ∧ (insS l s).length = l.length + 1 := by
  have hb : ∀ y ∈ l.take (posI l s), y < s := by
    intro y hy
    obtain ⟨k, hk⟩ := List.mem_iff_getElem?.1 hy
    rw [List.getElem?_take] at hk
    split at hk
    · exact (posI_lt hs s hk).1 (by assumption)
    · cases hk
  have ha : ∀ y ∈ l.drop (posI l s), s < y := by
    intro y hy
    have hne : y ≠ s := fun e => h (e ▸ List.mem_of_mem_drop hy)
    obtain ⟨k, hk⟩ := List.mem_iff_getElem?.1 hy
    rw [List.getElem?_drop] at hk
    have h1 := mt (posI_lt hs s hk).2 (by omega)
    omega
  have e := List.take_append_drop (posI l s) l
  have hle := posI_le l s
  unfold insS
  generalize posI l s = q at *
  have hlen : (l.take q).length = q := by rw [List.length_take]; omega
  have hlen2 : (l.drop q).length = l.length - q := by rw [List.length_drop]
  generalize l.take q = a at *
  generalize l.drop q = b at *
  rw [← e] at hs
  rw [List.pairwise_append] at hs
  refine ⟨?_, ?_, ?_⟩
  · rw [List.pairwise_append, List.pairwise_cons]
    refine ⟨hs.1, ⟨ha, hs.2.1⟩, fun y hy u hu => ?_⟩
    rcases List.mem_cons.1 hu with rfl | hu
    · exact hb y hy
    · exact hs.2.2 y hy u hu
  · intro x
    rw [← e]
    simp only [List.mem_append, List.mem_cons]
    constructor
    · rintro (h | h | h)
      · exact .inr (.inl h)
      · exact .inl h
      · exact .inr (.inr h)
    · rintro (h | h | h)
      · exact .inr (.inl h)
      · exact .inl h
      · exact .inr (.inr h)
  · rw [List.length_append, List.length_cons]
    omega
theorem delS_spec {l : List Int} (hs : l.Pairwise (· < ·)) {s : Int} (h : s ∈ l) : (delS l s).Pairwise (· < ·) ∧ (∀ x, x ∈ delS l s ↔ x ∈ l ∧ x ≠ s) ∧ (delS l s).length + 1 = l.length := by
  have hx : l[posI l s]? = some s := by
    have := (isI_iff hs).2 h
    unfold isI at this
    simpa using this
  have hc := cut_get hx
  have hq := (List.getElem?_eq_some_iff.1 hx).1
  unfold delS
  generalize posI l s = q at *
  have hlen : (l.take q).length = q := by rw [List.length_take]; omega
  have hlen2 : (l.drop (q + 1)).length = l.length - (q + 1) := by rw [List.length_drop]
  generalize l.take q = a at *
  generalize l.drop (q + 1) = b at *
  have hs2 := hs
  rw [hc, List.pairwise_append, List.pairwise_cons] at hs
  refine ⟨?_, ?_, ?_⟩
  · rw [List.pairwise_append]
    exact ⟨hs.1, hs.2.1.2, fun y hy u hu => hs.2.2 y hy u (by simp [hu])⟩
  · intro x
    rw [hc]
    simp only [List.mem_append, List.mem_cons]
    constructor
    · rintro (h | h)
      · exact ⟨.inl h, by have := hs.2.2 x h s (by simp); omega⟩
      · exact ⟨.inr (.inr h), by have := hs.2.1.1 x h; omega⟩
    · rintro ⟨h | h | h, hn⟩
      · exact .inl h
      · exact absurd h hn
      · exact .inr h
  · rw [List.length_append]
    omega
end Go.Proofs.YteolglmifimnaaaDoor
