/- Lemmas for the statement: Deep, TreeArg. -/
import Derived.ChangeOld
import Derived.Test.YtfoglgeiipafeaaDoorPt1
import Derived.Test.YtfoglgeiipafeaaDoorPt2
import Derived.Test.YtfoglgeiipafeaaDoorPt3
import Derived.Test.YtfoglgeiipafeaaDoorPt4
import Derived.Test.YtfoglgeiipafeaaDoorPt5
import Derived.Test.YtfoglgeiipafeaaDoorPt6
/- Arguments that hold slices in structs, or slices of slices: what a reading says of them, down to the leaves. No program is in sight but by variable. -/
namespace Go.Proofs.YtfoglgeiipafeaaDoor
open Go.RowKit Go.ChangeShapes Go.WideShapes Go.Deep
set_option linter.unusedVariables false
/-- cells of a type, down to 'n' levels -/
def Deep (P : Program) (w : World) : Nat → TypeId → List Value → Prop
  | 0, _, _ => True
  | n + 1, t, cs => match P.underlying t with
    | some .bool => ∃ b, cs = [.bool b]
    | some (.int k) => ∃ m, cs = [.int k m] ∧ (Lit.int k m).wf = true
    | some .string => ∃ s : ByteArray, cs = [.string s] ∧ s.size ≤ reachBytes
    | some (.struct fs) => cs.length = P.cellsOf t ∧ ∀ (i : Nat) (f : Field), fs[i]? = some f → Deep P w n f.type ((cs.drop f.offset).take (P.cellsOf f.type))
    | some (.slice e) => ∃ v xs, cs = [v] ∧ (0 < P.cellsOf e → Row w (P.cellsOf e) v xs) ∧ xs.length * P.bytesOf e ≤ reachBytes ∧ ∀ x ∈ xs, Deep P w n e x
    | _ => True
section
variable {H : Type} {enc : TypeId × Value → H} {P : Program} {w : World} {spare : Nat → Bool} {held : Bool}
theorem weightsAll_mem {e : TypeId} : ∀ {l : List (DataW H)} {d : DataW H}, d ∈ l → ∀ m ∈ d.weights P e, m ∈ DataW.weightsAll P e l
  | x :: l, d, h, m, hm => by
    simp only [DataW.weightsAll, List.mem_append]
    rcases List.mem_cons.1 h with rfl | h
    · exact .inl hm
    · exact .inr (weightsAll_mem h m hm)
/-- a row of cells, element by element -/
theorem row_of_cells {e : TypeId} {a : Addr} {len cap : Nat} {Q : List Value → Prop} (h0 : 0 < P.cellsOf e) (hl : len ≤ cap) (hm : cap ≤ maxLen) (ha : 0 < len → a.block < w.heap.size)
    (hex : ∀ i, i < len → ∃ cs', w.cells? 0 (a.add (i * P.cellsOf e)) (P.cellsOf e) = some cs' ∧ Q cs') :
    ∃ xs : List (List Value), xs.length = len ∧ Row w (P.cellsOf e) (.slice (some a) len cap) xs ∧ ∀ x ∈ xs, Q x := by
  have hch : ∃ g : Nat → List Value, ∀ i, i < len → w.cells? 0 (a.add (i * P.cellsOf e)) (P.cellsOf e) = some (g i) ∧ Q (g i) :=
    ⟨fun i => if h : i < len then Classical.choose (hex i h) else [], fun i hil => by simp only [hil, dif_pos]; exact Classical.choose_spec (hex i hil)⟩
  obtain ⟨g, hg⟩ := hch
  have hg1 : ∀ i, i < len → (g i).length = P.cellsOf e ∧ ∀ j u, (g i)[j]? = some u → w.cell? (a.add (i * P.cellsOf e + j)) = some u := by
    intro i hi
    obtain ⟨_, hcl, hat⟩ := World.cells?_some (hg i hi).1
    refine ⟨hcl, fun j u hu => ?_⟩
    have hj : j < P.cellsOf e := by have := (List.getElem?_eq_some_iff.1 hu).1; omega
    rw [← Go.Deep.add_add, hat j hj, hu]
  refine ⟨(List.range len).map g, by simp, ⟨some a, cap, by simp, by simpa using hl, hm, ?_, ?_⟩, ?_⟩
  · intro x hx
    simp at hx
    obtain ⟨i, hil, rfl⟩ := hx
    exact (hg1 i hil).1
  · intro hpos
    simp at hpos
    have h00 : ∃ u, w.cell? a = some u := by
      obtain ⟨h01, h02⟩ := hg1 0 hpos
      have hu : (g 0)[0]? = some ((g 0)[0]'(by omega)) := List.getElem?_eq_getElem _
      exact ⟨_, by simpa [add_zero'] using h02 0 _ hu⟩
    obtain ⟨u0, hu0⟩ := h00
    have hsp := spot_none hu0
    refine ⟨a.block, a.off, by rw [← hsp], ha hpos, ?_⟩
    intro i x hx j u hu
    have hil : i < len := by have := (List.getElem?_eq_some_iff.1 hx).1; simpa using this
    simp [hil] at hx
    subst hx
    have := (hg1 i hil).2 j u hu
    rw [hsp] at this
    have hadd : (⟨a.block, a.off, none⟩ : Addr).add (i * P.cellsOf e + j) = ⟨a.block, a.off + i * P.cellsOf e + j, none⟩ := by
      unfold Addr.add
      split
      · rename_i h0'; rw [Nat.add_assoc, h0']; rfl
      · rw [Nat.add_assoc]
    rwa [hadd] at this
  · intro x hx
    simp at hx
    obtain ⟨i, hil, rfl⟩ := hx
    exact (hg i hil).2
theorem deep_trod : ∀ (n : Nat) {t : TypeId} {fuel : Nat} {cs : List Value} {d : DataW H} {pl : List MemPlace}, DataW.trod enc P w 0 spare held fuel t cs = some (d, pl) →
    (∀ m ∈ d.weights P t, m ≤ reachBytes) → Deep P w n t cs
  | 0, _, _, _, _, _, _, _ => trivial
  | n + 1, t, fuel, cs, d, pl, hx, hw => by
    unfold Deep
    split
    · rename_i hu
      obtain ⟨b, rfl, _⟩ := DataW.trod_bool hu hx
      exact ⟨b, rfl⟩
    · rename_i k hu
      obtain ⟨m, rfl, _, hm⟩ := DataW.trod_int hu hx
      exact ⟨m, rfl, hm⟩
    · rename_i hu
      obtain ⟨s, rfl, hd, hm⟩ := DataW.trod_string hu hx
      injection hd with hd _
      subst hd
      exact ⟨s, rfl, by simpa [DataW.weights] using hw⟩
    · rename_i fs hu
      obtain ⟨xs, m, _, hd, hlen, hxl, hf⟩ := DataW.trod_struct hu hx
      injection hd with hd _
      subst hd
      refine ⟨hlen, fun i f hif => ?_⟩
      have hi : i < xs.length := by have := (Array.getElem?_eq_some_iff.1 hif).1; omega
      have hy : xs[i]? = some xs[i] := List.getElem?_eq_getElem hi
      have h1 := hf i f hif
      rw [hy] at h1
      refine deep_trod n (d := xs[i].1) (pl := xs[i].2) h1 fun m hm => hw m ?_
      simp only [DataW.weights, hu]
      exact DataW.weights_mem_each (j := i) (t := f.type) (d := xs[i].1) (by simp [hif]) (by simp [hy]) m hm
    · rename_i e hu
      rcases Go.Deep.open_slice hu hx with ⟨rfl, hx'⟩ | ⟨a, len, cap, m, fu, D, Pl, rfl, _, hl, hm, hmm, hx', hi⟩
      · exact ⟨_, [], rfl, fun _ => Row.nil _ _, by simp, by simp⟩
      · injection hx' with hd hpl
        subst hd
        have hml : len ≤ m := by rw [hmm]; split <;> omega
        have hwt : (len + (m - len)) * P.bytesOf e ≤ reachBytes := hw _ (by simp [DataW.weights, hu])
        have hwt' : len * P.bytesOf e ≤ reachBytes := Nat.le_trans (Nat.mul_le_mul_right _ (Nat.le_add_right _ _)) hwt
        have hel : ∀ i, i < len → ∃ cs', w.cells? 0 (a.add (i * P.cellsOf e)) (P.cellsOf e) = some cs' ∧ Deep P w n e cs' := by
          intro i hil
          obtain ⟨cs', hc', ht'⟩ := hi i (by omega)
          refine ⟨cs', hc', deep_trod n ht' fun q hq => hw q ?_⟩
          simp only [DataW.weights, hu]
          refine List.mem_cons_of_mem _ (List.mem_append.2 (.inl ?_))
          exact weightsAll_mem (List.mem_map.2 ⟨i, List.mem_range.2 hil, rfl⟩) q hq
        by_cases h0 : 0 < P.cellsOf e
        · have hb : 0 < len → a.block < w.heap.size := by
            intro hpos
            have hp : MemPlace.cell a.block a.off ∈ pl := by
              rw [hpl]
              refine List.mem_append.2 (.inl ?_)
              have hpos' : 0 < m * P.cellsOf e := Nat.mul_pos (by omega) h0
              simp only [MemPlace.row, List.mem_map, List.mem_range]
              exact ⟨0, hpos', by simp⟩
            exact DataW.trod_lt _ _ _ _ hx _ hp
          obtain ⟨xs, hxs, hrow, hall⟩ := row_of_cells h0 hl hm hb hel
          exact ⟨_, xs, rfl, fun _ => hrow, by rw [hxs]; exact hwt', hall⟩
        · exact ⟨_, [], rfl, fun h => absurd h h0, by simp, by simp⟩
    · trivial
/-- an argument -/
theorem open_deep {t : TypeId} {v : Value} {d : DataW H} {p : List MemPlace} (n : Nat) (h : DataW.Trod enc P w 0 spare held t v d p) (hw : ∀ m ∈ d.weights P t, m ≤ reachBytes) : Deep P w n t v.cells.toList := by
  obtain ⟨fuel, hf⟩ := h
  exact deep_trod n hf hw
theorem sized_arg {ts : List TypeId} {ds : List (DataW H)} (h : (DataW.weightsEach P ts ds).all (· ≤ reachBytes) = true) (j : Nat) {t : TypeId} {d : DataW H} (ht : ts[j]? = some t) (hd : ds[j]? = some d) :
    ∀ m ∈ d.weights P t, m ≤ reachBytes := fun m hm => by
  have := List.all_eq_true.1 h _ (DataW.weights_mem_each ht hd m hm)
  simpa using this
end
section
variable {P : Program} {w : World} {n : Nat} {t : TypeId} {cs : List Value}
theorem deep_int {k : IntKind} (hu : P.underlying t = some (.int k)) (h : Deep P w (n + 1) t cs) : ∃ m, cs = [.int k m] ∧ (Lit.int k m).wf = true := by unfold Deep at h; rw [hu] at h; exact h
theorem deep_bool (hu : P.underlying t = some .bool) (h : Deep P w (n + 1) t cs) : ∃ b, cs = [.bool b] := by unfold Deep at h; rw [hu] at h; exact h
theorem deep_string (hu : P.underlying t = some .string) (h : Deep P w (n + 1) t cs) : ∃ s : ByteArray, cs = [.string s] ∧ s.size ≤ reachBytes := by unfold Deep at h; rw [hu] at h; exact h
theorem deep_struct {fs : Array Field} (hu : P.underlying t = some (.struct fs)) (h : Deep P w (n + 1) t cs) : cs.length = P.cellsOf t ∧ ∀ (i : Nat) (f : Field), fs[i]? = some f → Deep P w n f.type ((cs.drop f.offset).take (P.cellsOf f.type)) := by unfold Deep at h; rw [hu] at h; exact h
theorem deep_slice {e : TypeId} (hu : P.underlying t = some (.slice e)) (h : Deep P w (n + 1) t cs) : ∃ v xs, cs = [v] ∧ (0 < P.cellsOf e → Row w (P.cellsOf e) v xs) ∧ xs.length * P.bytesOf e ≤ reachBytes ∧ ∀ x ∈ xs, Deep P w n e x := by unfold Deep at h; rw [hu] at h; exact h
end
theorem deep_at {P : Program} {w : World} {n : Nat} {cs : List Value} {fs : Array Field} (hf : ∀ (i : Nat) (f : Field), fs[i]? = some f → Deep P w n f.type ((cs.drop f.offset).take (P.cellsOf f.type))) (i : Nat) (t : TypeId) (off c : Nat)
    (ht : (fs[i]?).map (fun f => (f.type, f.offset)) = some (t, off)) (hc : P.cellsOf t = c) : Deep P w n t ((cs.drop off).take c) := by
  simp only [Option.map_eq_some_iff, Prod.mk.injEq] at ht
  obtain ⟨f, h0, rfl, rfl⟩ := ht
  subst hc
  exact hf i f h0
/-- what is flat fits its kinds -/
theorem deep_fits {P : Program} {w : World} : ∀ (n : Nat) {t : TypeId} {ks : List Kd} {cs : List Value}, flat P n t = some ks → Deep P w n t cs → Fits ks cs
  | 0, _, _, _, h, _ => by simp [flat] at h
  | n + 1, t, ks, cs, h, hd => by
    unfold flat at h
    split at h
    · rename_i hu
      obtain ⟨b, rfl⟩ := deep_bool hu hd
      split at h
      · simp at h; subst h; exact ⟨⟨b, rfl⟩, trivial⟩
      · simp at h
    · rename_i k hu
      obtain ⟨m, rfl, hm⟩ := deep_int hu hd
      split at h
      · simp at h; subst h; exact ⟨⟨m, rfl, hm⟩, trivial⟩
      · simp at h
    · rename_i hu
      obtain ⟨m, rfl, hm⟩ := deep_string hu hd
      split at h
      · simp at h; subst h; exact ⟨⟨m, rfl, Nat.le_trans hm (by decide)⟩, trivial⟩
      · simp at h
    · rename_i fs hu
      obtain ⟨hlen, hf⟩ := deep_struct hu hd
      split at h
      · rename_i ls hls
        split at h
        · rename_i hc
          simp only [Option.some.injEq] at h
          subst h
          have key : ∀ (l : List Field) (k off : Nat) (qs : List Kd), (∀ i f, l[i]? = some f → fs[k + i]? = some f) → flatAll (flat P n) off l = some qs → off + qs.length = cs.length → Fits qs (cs.drop off) := by
            intro l
            induction l with
            | nil =>
              intro k off qs _ hq ho
              simp [flatAll] at hq
              subst hq
              simp at ho
              rw [List.drop_eq_nil_of_le (by omega)]
              trivial
            | cons f l ih =>
              intro k off qs hi hq ho
              simp only [flatAll] at hq
              split at hq
              · rename_i rs hr
                split at hq
                · rename_i hoff
                  simp only [Option.map_eq_some_iff] at hq
                  obtain ⟨ts, hts, rfl⟩ := hq
                  have hcf := flat_length n hr
                  have h0 := hi 0 f rfl
                  rw [Nat.add_zero] at h0
                  have hfk := hf k f h0
                  rw [hoff, hcf] at hfk
                  have hfit := deep_fits n hr hfk
                  have hrest := ih (k + 1) (off + rs.length) ts (fun i g hg => by have := hi (i + 1) g (by simpa using hg); rwa [show k + 1 + i = k + (i + 1) from by omega]) hts (by simp at ho; omega)
                  have hsplit : cs.drop off = (cs.drop off).take rs.length ++ cs.drop (off + rs.length) := by
                    rw [← List.drop_drop, List.take_append_drop]
                  rw [hsplit]
                  exact hfit.append hrest
                · simp at hq
              · simp at hq
          simpa using key fs.toList 0 0 ls (fun i f hi => by simpa using hi) hls (by simp [hlen, hc])
        · simp at h
      · simp at h
    · simp at h
/-- a slice of flat elements within -/
theorem deep_flats {P : Program} {w : World} {n : Nat} {t e : TypeId} {cs : List Value} {ks : List Kd} (hu : P.underlying t = some (.slice e)) (hk : flat P n e = some ks) (h0 : 0 < ks.length) (h : Deep P w (n + 1) t cs) :
    ∃ v xs, cs = [v] ∧ Row w ks.length v xs ∧ xs.length * P.bytesOf e ≤ reachBytes ∧ ∀ x ∈ xs, Fits ks x := by
  obtain ⟨v, xs, rfl, hr, hb, hx⟩ := deep_slice hu h
  rw [flat_length n hk] at hr
  exact ⟨v, xs, rfl, hr h0, hb, fun x hxm => deep_fits n hk (hx x hxm)⟩
end Go.Proofs.YtfoglgeiipafeaaDoor

/- A tree that comes from outside, opened. -/
namespace Go.Proofs.YtfoglgeiipafeaaDoor
open Go.RowKit Go.ChangeShapes Go.WideShapes Go.ChangeAt
set_option maxRecDepth 100000 in
theorem open_tree {w : World} {n : Nat} {cs : List Value} (h : Deep Tryd.prog w (n + 10) 25 cs) : ∃ (z : Int) (v v2 : Value) (l : List Node) (ss : List Int), cs = [.int .i64 z, v, v2] ∧ Sl cNode 9 w v l ∧ Sl cInt 1 w v2 ss ∧ (∀ n ∈ l, n.path.size ≤ 9223372036854775807) ∧ l.length * 88 ≤ 140737488355328 ∧ ss.length * 8 ≤ 140737488351232 := by
  obtain ⟨hl, hf⟩ := deep_struct Tryd.underlying25 h
  rw [show Tryd.prog.cellsOf 25 = 3 from by kernel_rfl] at hl
  obtain ⟨c0, c1, c2, rfl⟩ : ∃ a b c, cs = [a, b, c] := by
    rcases cs with _ | ⟨a, _ | ⟨b, _ | ⟨c, _ | ⟨d, cs⟩⟩⟩⟩ <;> simp at hl
    exact ⟨a, b, c, rfl⟩
  obtain ⟨z, e0, _⟩ := deep_int Tryd.underlying3 (deep_at hf 0 3 0 1 rfl (by kernel_rfl))
  obtain ⟨v, xs, e1, hr, hb, hx⟩ := deep_flats (ks := [.s, .s, .i .i64, .i .i64, .i .i64, .i .i64, .i .i64, .i .i64, .i .i64]) Tryd.underlying22 (by kernel_rfl) (by decide) (deep_at hf 1 22 1 1 rfl (by kernel_rfl))
  obtain ⟨v2, xs2, e2, hr2, hb2, hx2⟩ := deep_flats (ks := [.i .i64]) Tryd.underlying23 (by kernel_rfl) (by decide) (deep_at hf 2 23 2 1 rfl (by kernel_rfl))
  simp only [List.drop_zero, List.drop_succ_cons, List.take_succ_cons, List.take_zero, List.cons.injEq, and_true] at e0 e1 e2
  subst e0 e1 e2
  rw [show Tryd.prog.bytesOf 45 = 88 from by kernel_rfl] at hb
  rw [show Tryd.prog.bytesOf 3 = 8 from by kernel_rfl] at hb2
  obtain ⟨l, rfl, hz⟩ := typed (fun x hxm => fitsNode (hx x hxm))
  obtain ⟨ss, rfl, _⟩ := typed (fun x hxm => fits_int (hx2 x hxm))
  simp only [List.length_map, reachBytes] at hb hb2
  exact ⟨z, c1, c2, l, ss, rfl, hr, hr2, fun n hn => Nat.le_trans (hz n hn).1 (by decide), by omega, by omega⟩
end Go.Proofs.YtfoglgeiipafeaaDoor
