/- Lemmas for the statement: Recover, OrdE, Take, SameLog, LogOf, Laid, Logs, Keep, Dec, Zread, Zplain, Zep, StoreA, TreeNew, Boot, Deep, DiskArg, WalKeeps, TornL. -/
import Derived.OrdersHeld
import Derived.Deep.RegionHeld
import Derived.Deep.RegionHeld3
import Derived.Deep.Cut
import Derived.Deep.DeepCutAuto
import Derived.Lib.ItoaNum
import Derived.Lib.SmallJoins
import Derived.ChangeOld
import Derived.Test.YtchgpijfebilbaaGreatDoorCards
import Derived.Test.YtchgpijfebilbaaGreatDoorTie
import Derived.Lay
import Derived.LaidMore
import Derived.SevenTiedAt
import Derived.Test.YtchgpijfebilbaaGreatDoorPt1
import Derived.Test.YtchgpijfebilbaaGreatDoorPt2
import Derived.Test.YtchgpijfebilbaaGreatDoorPt3
import Derived.Test.YtchgpijfebilbaaGreatDoorPt4
import Derived.Test.YtchgpijfebilbaaGreatDoorPt5
/- wal.Recover. -/
namespace Go.Proofs.YtchgpijfebilbaaGreatDoor
open Go.RowKit Go.ChangeShapes Go.WideShapes Go.ChangeAt
def RecRes (f : List File) (w : World) (e : Ending) (w' : World) : Prop := ∃ A c L B k f' code, e = .returned (.tuple #[.slice A (List.length (α := Txn) L) c, .agg #[.slice B (List.length (α := File) f') k], .int .i64 code]) ∧ RecIs f L f' code ∧ Ow cTxn 7 53 w' w.heap.size (.slice A L.length c) L ∧ Ow cFile 3 151 w' w.heap.size (.slice B f'.length k) f' ∧ Below w.heap.size w w'
theorem readS_size {f : List File} {p : ByteArray} (h : readE f p = 0) : (readS f p).size ≤ 1048576 := by
  obtain ⟨h1, h2⟩ := readE_0 h
  unfold readS
  rw [h1, h2]
  have := (goodD_sized h1 _ (fileAt_is h2).2).2
  simp only [Bool.and_true, if_true, ByteArray.size_append]
  omega
set_option maxHeartbeats 2000000 in
theorem recover_any (v : Value) (f : List File) (w : World) (h : Sl cFile 3 w v f) (hz : ∀ x ∈ f, x.sized) :
    Calls Tryz.prog 34 #[.agg #[v]] w (RecRes f w) := by
  obtain ⟨A, c, rfl, hc1, hc2⟩ := h.form
  have H := Lib.hid h
  have HR := Lib.hid (fun (W : World) (v : Value) (h : Sl cFile 3 W v f) => dkRead v f logN W h hz)
  by_cases h7 : readE f logN = 7
  · rw [h7] at HR
    have HW := Lib.hid (fun (W : World) (v : Value) (h : Sl cFile 3 W v f) => dkWrite v f logN noB W h hz (by decide) (by decide))
    have HI := Lib.hid (show RecIs f [] (writeL f logN noB) (writeE f logN noB) from .inl ⟨h7, rfl, rfl, rfl⟩)
    have HN := Lib.hid (fun h : writeE f logN noB ≠ 0 => write_not h)
    generalize readS f logN = rs at *
    generalize writeL f logN noB = a at *
    generalize writeE f logN noB = ae at *
    clear h hz h7
    by_cases hae : ae = 0
    · subst hae
      clear HN
      go_enter Tryz.func34, Tryz.ntmps34
      go_wp2_with (first | (go_at_call 63; refine (HR.out _ _ (H.out.below (by repeat (first | exact bA .. | assumption | refine bB ?_ | refine bC ?_ _ | refine bD _ _ ?_ | refine bE _ ?_ | refine bG ?_ (by first | omega | (simp; done) | (simp; omega)) _ | refine Below.setCell ?_ (by first | omega | (simp; done) | (simp; omega)) _ | refine Below.grow _ _ _ ?_ (by first | omega | (simp; done) | (simp; omega)))))).mono ?_; rintro e w1 ⟨rfl, hb1⟩; obtain ⟨ext1, d1, rfl⟩ := Below.grown_eq _ hb1; clear hb1 HR) | (go_at_call 66; refine (HW.out _ _ (H.out.below (by repeat (first | exact bA .. | assumption | refine bB ?_ | refine bC ?_ _ | refine bD _ _ ?_ | refine bE _ ?_ | refine bG ?_ (by first | omega | (simp; done) | (simp; omega)) _ | refine Below.setCell ?_ (by first | omega | (simp; done) | (simp; omega)) _ | refine Below.grow _ _ _ ?_ (by first | omega | (simp; done) | (simp; omega)))))).mono ?_; rintro e w1 ⟨A1, k1, rfl, ho1, hb2⟩; obtain ⟨ext2, d2, rfl⟩ := Below.grown_eq _ hb2; have HO1 := Lib.hid ho1; clear ho1 hb2 HW))
      go_region
      go_wp2_with fail
      refine bodyPost_ret (v := .tuple #[.slice none ([] : List Txn).length 0, .agg #[.slice A1 a.length k1], .int .i64 0]) (by simp [results, Tryz.results34, go_sem]) rfl ⟨none, 0, ([] : List Txn), A1, k1, a, 0, rfl, HI.out, Ow.nil _ _ _ _ _, (HO1.out.regrow (Nat.le_refl _) (by simp)).mono (by simp; omega), (by repeat (first | exact bA .. | assumption | refine bB ?_ | refine bC ?_ _ | refine bD _ _ ?_ | refine bE _ ?_ | refine bG ?_ (by first | omega | (simp; done) | (simp; omega)) _ | refine Below.setCell ?_ (by first | omega | (simp; done) | (simp; omega)) _ | refine Below.grow _ _ _ ?_ (by first | omega | (simp; done) | (simp; omega))))⟩
    · have hne : (ae != 0) = true := bne_iff_ne.2 hae
      have ha := HN.out hae
      subst ha
      clear HN hae
      go_enter Tryz.func34, Tryz.ntmps34
      go_wp2_with (first | (go_at_call 63; refine (HR.out _ _ (H.out.below (by repeat (first | exact bA .. | assumption | refine bB ?_ | refine bC ?_ _ | refine bD _ _ ?_ | refine bE _ ?_ | refine bG ?_ (by first | omega | (simp; done) | (simp; omega)) _ | refine Below.setCell ?_ (by first | omega | (simp; done) | (simp; omega)) _ | refine Below.grow _ _ _ ?_ (by first | omega | (simp; done) | (simp; omega)))))).mono ?_; rintro e w1 ⟨rfl, hb1⟩; obtain ⟨ext1, d1, rfl⟩ := Below.grown_eq _ hb1; clear hb1 HR) | (go_at_call 66; refine (HW.out _ _ (H.out.below (by repeat (first | exact bA .. | assumption | refine bB ?_ | refine bC ?_ _ | refine bD _ _ ?_ | refine bE _ ?_ | refine bG ?_ (by first | omega | (simp; done) | (simp; omega)) _ | refine Below.setCell ?_ (by first | omega | (simp; done) | (simp; omega)) _ | refine Below.grow _ _ _ ?_ (by first | omega | (simp; done) | (simp; omega)))))).mono ?_; rintro e w1 ⟨A1, k1, rfl, ho1, hb2⟩; obtain ⟨ext2, d2, rfl⟩ := Below.grown_eq _ hb2; have HO1 := Lib.hid ho1; clear ho1 hb2 HW))
      refine bodyPost_ret (v := .tuple #[.slice none ([] : List Txn).length 0, .agg #[.slice none ([] : List File).length 0], .int .i64 ae]) (by simp [results, Tryz.results34, go_sem]) rfl ⟨none, 0, ([] : List Txn), none, 0, ([] : List File), ae, rfl, HI.out, Ow.nil _ _ _ _ _, Ow.nil _ _ _ _ _, (by repeat (first | exact bA .. | assumption | refine bB ?_ | refine bC ?_ _ | refine bD _ _ ?_ | refine bE _ ?_ | refine bG ?_ (by first | omega | (simp; done) | (simp; omega)) _ | refine Below.setCell ?_ (by first | omega | (simp; done) | (simp; omega)) _ | refine Below.grow _ _ _ ?_ (by first | omega | (simp; done) | (simp; omega))))⟩
  · by_cases h0 : readE f logN = 0
    · have HI := Lib.hid (fun (n : Nat) L (hs : ScanIs (bs (readS f logN)) L n) => show RecIs f L (cutL f logN n) 0 from .inr (.inr ⟨h0, rfl, n, hs, rfl⟩))
      have hsz := readS_size h0
      have HCI := Lib.hid (fun (n : Nat) (hn : n ≤ (bs (readS f logN)).length) => cut_is h0 (n := n) (by rw [length_bs] at hn; exact hn))
      rw [h0] at HR
      generalize readS f logN = rs at *
      have HSC := Lib.hid (fun W => scan_any rs W hsz)
      clear h h7 h0
      go_enter Tryz.func34, Tryz.ntmps34
      go_wp2_with (first | (go_at_call 63; refine (HR.out _ _ (H.out.below (by repeat (first | exact bA .. | assumption | refine bB ?_ | refine bC ?_ _ | refine bD _ _ ?_ | refine bE _ ?_ | refine bG ?_ (by first | omega | (simp; done) | (simp; omega)) _ | refine Below.setCell ?_ (by first | omega | (simp; done) | (simp; omega)) _ | refine Below.grow _ _ _ ?_ (by first | omega | (simp; done) | (simp; omega)))))).mono ?_; rintro e w1 ⟨rfl, hb1⟩; obtain ⟨ext1, d1, rfl⟩ := Below.grown_eq _ hb1; clear hb1 HR) | (go_at_call 67; refine (HSC.out _).mono ?_; rintro e w1 ⟨A2, c2, L, n, rfl, hsc, ho2, hb2⟩; obtain ⟨ext2, d2, rfl⟩ := Below.grown_eq _ hb2; have HO2 := Lib.hid ho2; have HIS := Lib.hid hsc; have HC := Lib.hid (fun (W : World) (v : Value) (h : Sl cFile 3 W v f) => dkCut v f logN (n : Int) W h hz); rw [HCI.out n (scan_le hsc).1] at HC; generalize hcl : cutL f logN (n : Int) = b at *; clear ho2 hb2 HSC hsc) | (go_at_call 68; refine (HC.out _ _ (H.out.below (by repeat (first | exact bA .. | assumption | refine bB ?_ | refine bC ?_ _ | refine bD _ _ ?_ | refine bE _ ?_ | refine bG ?_ (by first | omega | (simp; done) | (simp; omega)) _ | refine Below.setCell ?_ (by first | omega | (simp; done) | (simp; omega)) _ | refine Below.grow _ _ _ ?_ (by first | omega | (simp; done) | (simp; omega)))))).mono ?_; rintro e w1 ⟨A3, k3, rfl, ho3, hb3⟩; obtain ⟨ext3, d3, rfl⟩ := Below.grown_eq _ hb3; have HO3 := Lib.hid ho3; clear ho3 hb3 HC))
      go_region
      go_wp2_with fail
      refine bodyPost_ret (v := .tuple #[.slice A2 L.length c2, .agg #[.slice A3 b.length k3], .int .i64 0]) (by simp [results, Tryz.results34, go_sem]) rfl ⟨A2, c2, L, A3, k3, b, 0, rfl, (by rw [← hcl]; exact HI.out n L HIS.out), (Ow.below (w := grow (grow ((w.alloc (.cells #[.slice A3 b.length k3] 28)).alloc (.cells #[.slice A3 b.length k3] 28)) ext1 d1) ext2 d2) (HO2.out.regrow (Nat.le_refl _) (by simp)) (by repeat (first | exact bA .. | assumption | refine bB ?_ | refine bC ?_ _ | refine bD _ _ ?_ | refine bE _ ?_ | refine bG ?_ (by first | omega | (simp; done) | (simp; omega)) _ | refine Below.setCell ?_ (by first | omega | (simp; done) | (simp; omega)) _ | refine Below.grow _ _ _ ?_ (by first | omega | (simp; done) | (simp; omega))))).mono (by simp; omega), (HO3.out.regrow (Nat.le_refl _) (by simp)).mono (by simp; omega), (by repeat (first | exact bA .. | assumption | refine bB ?_ | refine bC ?_ _ | refine bD _ _ ?_ | refine bE _ ?_ | refine bG ?_ (by first | omega | (simp; done) | (simp; omega)) _ | refine Below.setCell ?_ (by first | omega | (simp; done) | (simp; omega)) _ | refine Below.grow _ _ _ ?_ (by first | omega | (simp; done) | (simp; omega))))⟩
    · have hne : (readE f logN != 0) = true := bne_iff_ne.2 h0
      have hne7 : (readE f logN == 7) = false := beq_eq_false_iff_ne.2 h7
      have HI := Lib.hid (show RecIs f [] [] (readE f logN) from .inr (.inl ⟨h7, h0, rfl, rfl, rfl⟩))
      generalize readS f logN = rs at *
      generalize readE f logN = re at *
      clear h hz h7 h0
      go_enter Tryz.func34, Tryz.ntmps34
      go_wp2_with (first | (go_at_call 63; refine (HR.out _ _ (H.out.below (by repeat (first | exact bA .. | assumption | refine bB ?_ | refine bC ?_ _ | refine bD _ _ ?_ | refine bE _ ?_ | refine bG ?_ (by first | omega | (simp; done) | (simp; omega)) _ | refine Below.setCell ?_ (by first | omega | (simp; done) | (simp; omega)) _ | refine Below.grow _ _ _ ?_ (by first | omega | (simp; done) | (simp; omega)))))).mono ?_; rintro e w1 ⟨rfl, hb1⟩; obtain ⟨ext1, d1, rfl⟩ := Below.grown_eq _ hb1; clear hb1 HR))
      refine bodyPost_ret (v := .tuple #[.slice none ([] : List Txn).length 0, .agg #[.slice none ([] : List File).length 0], .int .i64 re]) (by simp [results, Tryz.results34, go_sem]) rfl ⟨none, 0, ([] : List Txn), none, 0, ([] : List File), re, rfl, HI.out, Ow.nil _ _ _ _ _, Ow.nil _ _ _ _ _, (by repeat (first | exact bA .. | assumption | refine bB ?_ | refine bC ?_ _ | refine bD _ _ ?_ | refine bE _ ?_ | refine bG ?_ (by first | omega | (simp; done) | (simp; omega)) _ | refine Below.setCell ?_ (by first | omega | (simp; done) | (simp; omega)) _ | refine Below.grow _ _ _ ?_ (by first | omega | (simp; done) | (simp; omega))))⟩
end Go.Proofs.YtchgpijfebilbaaGreatDoor

/- Regions that draw their order: loads are taken first under a condition that only the region's last stores may break. -/
namespace Go.Proofs.YtchgpijfebilbaaGreatDoor
open Go.RowKit
theorem below_d1 (B : Nat) (w : World) (e : Array Obj) (d d' : Nat) : Below B (grow w.drew e d) (grow w e d') := ⟨rfl, rfl, rfl, Nat.le_refl _, fun _ _ => rfl⟩
theorem below_d2 (B : Nat) (w : World) (e e1 : Array Obj) (d d' d1 d1' : Nat) : Below B (grow (grow w e d).drew e1 d1) (grow (grow w e d') e1 d1') := ⟨rfl, rfl, rfl, Nat.le_refl _, fun _ _ => rfl⟩
theorem below_d3 (B : Nat) (w : World) (e : Array Obj) (d d' : Nat) : Below B (grow w e d) (grow w e d') := ⟨rfl, rfl, rfl, Nat.le_refl _, fun _ _ => rfl⟩
theorem below_d4 (B : Nat) (w : World) (e e1 : Array Obj) (d d' d1 d1' : Nat) : Below B (grow (grow w e d) e1 d1) (grow (grow w e d') e1 d1') := ⟨rfl, rfl, rfl, Nat.le_refl _, fun _ _ => rfl⟩
theorem below_d5 (B : Nat) (w : World) : Below B w.drew w := ⟨rfl, rfl, rfl, Nat.le_refl _, fun _ _ => rfl⟩
@[go_sem] theorem grow_drewN' (w : World) (n : Nat) (e : Array Obj) (d : Nat) : grow (w.drewN n) e d = grow w e d := rfl
@[go_sem] theorem grow_drew' (w : World) (e : Array Obj) (d : Nat) : grow w.drew e d = grow w e d := rfl
@[go_sem] theorem setCell_drewN' (w : World) (n : Nat) (a : Addr) (v : Value) : (w.drewN n).setCell a v = (w.setCell a v).drewN n := rfl
section
variable {P : Program} {ops : Array Oper} {Q : Exit → Act → World → Prop} {md : Region.Mode} {S : World → Prop} {brk : Nat → Bool}
def clean (ops : Array Oper) (brk : Nat → Bool) (listed : Array Bool) : Bool := (List.range ops.size).all fun k => !(brk k && listed.getD k true)
def wpE (P : Program) (md : Region.Mode) (ops : Array Oper) (Q : Exit → Act → World → Prop) (S : World → Prop) (brk : Nat → Bool) : Nat → Array Bool → Act → World → Prop
  | 0, listed, a, w => Region.ready md ops listed = [] ∧ Q .normal a w
  | fuel + 1, listed, a, w =>
    (Region.ready md ops listed = [] → Q .normal a w) ∧
    ∀ i ∈ Region.ready md ops listed, wpOp P ops Q i (fun a' w' => (clean ops brk (listed.setIfInBounds i true) = true → S w') ∧ wpE P md ops Q S brk fuel (listed.setIfInBounds i true) a' w') a w
theorem wpAny_of_E : ∀ (fuel : Nat) (listed : Array Bool) (a : Act) (w : World), wpE P md ops Q S brk fuel listed a w → wpAny P md ops Q fuel listed a w
  | 0, _, _, _, h => h
  | fuel + 1, _, _, _, h => ⟨h.1, fun i hi => wpOp_mono (fun a' w' h' => wpAny_of_E fuel _ a' w' h'.2) (h.2 i hi)⟩
theorem clean_of {listed : Array Bool} {j : Nat} (h : clean ops brk (listed.setIfInBounds j true) = true) : clean ops brk listed = true := by
  unfold clean at *
  rw [List.all_eq_true] at *
  intro k hk
  have h1 := h k hk
  by_cases hjk : j = k
  · subst hjk
    simp only [Bool.not_eq_true', Bool.and_eq_false_iff] at h1 ⊢
    rcases h1 with h1 | h1
    · exact .inl h1
    · rcases Nat.lt_or_ge j listed.size with h2 | h2
      · simp [h2] at h1
      · exact .inr (by simp [Array.getD_eq_getD_getElem?] at h1)
  · rw [getD_set_ne true hjk] at h1
    exact h1
theorem clean_set {listed : Array Bool} {j : Nat} (h : clean ops brk listed = true) (hj : brk j = false) : clean ops brk (listed.setIfInBounds j true) = true := by
  unfold clean at *
  rw [List.all_eq_true] at *
  intro k hk
  have h1 := h k hk
  by_cases hjk : j = k
  · subst hjk
    simp [hj]
  · rw [getD_set_ne true hjk]
    exact h1
def waits (md : Region.Mode) (ops : Array Oper) (brk : Nat → Bool) (i : Nat) : Bool :=
  (List.range ops.size).all fun j => !brk j || (match ops[j]? with | some o => o.after.any fun e => Region.binds md e && e.on == i | none => true)
theorem waits_spec {i j : Nat} {oj : Oper} (h : waits md ops brk i = true) (hj : ops[j]? = some oj) (hb : brk j = true) : ∃ e ∈ oj.after, Region.binds md e = true ∧ e.on = i := by
  have hlt : j < ops.size := (Array.getElem?_eq_some_iff.1 hj).1
  have h1 := List.all_eq_true.1 h j (List.mem_range.2 hlt)
  rw [hb, hj] at h1
  simp only [Bool.not_true, Bool.false_or] at h1
  obtain ⟨k, hk, he⟩ := Array.any_eq_true.1 h1
  simp only [Bool.and_eq_true, beq_iff_eq] at he
  exact ⟨_, Array.getElem_mem hk, he.1, he.2⟩
theorem not_waits {i j : Nat} {listed : Array Bool} (hr : i ∈ Region.ready md ops listed) (hj : j ∈ Region.ready md ops listed) : listed.getD j true = false ∧ ∃ oj, ops[j]? = some oj ∧ ∀ e ∈ oj.after, Region.binds md e = true → e.on ≠ i := by
  obtain ⟨hjun, oj, hoj, hall⟩ := mem_ready.1 hj
  refine ⟨hjun, oj, hoj, fun e he hb heq => ?_⟩
  have h1 := hall e he hb
  have h0 := (mem_ready.1 hr).1
  rw [heq] at h1
  rcases Nat.lt_or_ge i listed.size with h' | h'
  · simp [h'] at h0 h1; rw [h0] at h1; cases h1
  · simp [Array.getElem?_eq_none h'] at h1
theorem wpE_first {i : Nat} {oi : Oper} {v : Value} (hi : ops[i]? = some oi) (hsel : ∀ (j : Nat) (o : Oper) cs b, ops[j]? = some o → o.op ≠ .select cs b)
    (hQ : ∀ c a w, Q (.panic c) (a.put oi.dst v) w → Q (.panic c) a w) (hwt : waits md ops brk i = true) (hbi : brk i = false) :
    ∀ (fuel : Nat) (listed : Array Bool) (a : Act) (w : World),
      (∀ j oj, ops[j]? = some oj → j ≠ i → listed.getD j true = false → (∀ e ∈ oj.after, Region.binds md e = true → e.on ≠ i) → oi.apart ops oj = true) →
      i ∈ Region.ready md ops listed → YieldsIf P ops S oi v a → clean ops brk listed = true → S w →
      wpE P md ops Q S brk fuel (listed.setIfInBounds i true) (a.put oi.dst v) w → wpE P md ops Q S brk (fuel + 1) listed a w := by
  intro fuel
  induction fuel with
  | zero =>
    intro listed a w _ hr hy hc hS H
    refine ⟨fun h => (by rw [h] at hr; cases hr), fun j hj => ?_⟩
    by_cases hji : j = i
    · subst hji; exact hy.wpOp hi hS ⟨fun _ => hS, H⟩
    · have := ready_mono hj hji
      rw [H.1] at this
      cases this
  | succ fuel ih =>
    intro listed a w hfree hr hy hc hS H
    refine ⟨fun h => (by rw [h] at hr; cases hr), fun j hj => ?_⟩
    by_cases hji : j = i
    · subst hji; exact hy.wpOp hi hS ⟨fun _ => hS, H⟩
    · have h1 := H.2 j (ready_mono hj hji)
      obtain ⟨hjun, oj, hoj, hnot⟩ := not_waits hr hj
      have hbj : brk j = false := by
        cases hb : brk j with
        | false => rfl
        | true =>
          obtain ⟨e, he, h2, h3⟩ := waits_spec hwt hoj hb
          exact absurd h3 (hnot e he h2)
      have h2 := wpOp_putIf hoj (hfree j oj hoj hji hjun hnot) (fun cs b => hsel i oi cs b hi) (fun cs b => hsel j oj cs b hoj) hQ hy h1
      have hfree' : ∀ k ok, ops[k]? = some ok → k ≠ i → (listed.setIfInBounds j true).getD k true = false →
          (∀ e ∈ ok.after, Region.binds md e = true → e.on ≠ i) → oi.apart ops ok = true := fun k ok hk hki hun hno => by
        refine hfree k ok hk hki ?_ hno
        by_cases hjk : j = k
        · subst hjk; exact hjun
        · rw [getD_set_ne true hjk] at hun; exact hun
      have hcj := clean_set hc hbj
      have hcij := clean_set (clean_set hc hbi) hbj
      refine wpOp_mono (fun a' w' h3 => ⟨fun _ => h3.2.1 hcij, ih (listed.setIfInBounds j true) a' w' hfree' (ready_mono hr (Ne.symm hji)) h3.1 hcj (h3.2.1 hcij) ?_⟩) h2
      rw [Array.setIfInBounds_comm _ _ hji]
      exact h3.2.2
theorem wpE_firstP {i : Nat} {oi : Oper} {v : Value} (hi : ops[i]? = some oi) (hsel : ∀ (j : Nat) (o : Oper) cs b, ops[j]? = some o → o.op ≠ .select cs b)
    (hQ : ∀ c a w, Q (.panic c) (a.put oi.dst v) w → Q (.panic c) a w) (hbi : brk i = false) :
    ∀ (fuel : Nat) (listed : Array Bool) (a : Act) (w : World),
      (∀ j oj, ops[j]? = some oj → j ≠ i → listed.getD j true = false → (∀ e ∈ oj.after, Region.binds md e = true → e.on ≠ i) → oi.apart ops oj = true) →
      i ∈ Region.ready md ops listed → YieldsIf P ops (fun _ => True) oi v a → (clean ops brk listed = true → S w) →
      wpE P md ops Q S brk fuel (listed.setIfInBounds i true) (a.put oi.dst v) w → wpE P md ops Q S brk (fuel + 1) listed a w := by
  intro fuel
  induction fuel with
  | zero =>
    intro listed a w _ hr hy hS H
    refine ⟨fun h => (by rw [h] at hr; cases hr), fun j hj => ?_⟩
    by_cases hji : j = i
    · subst hji; exact hy.wpOp hi trivial ⟨fun hc => hS (clean_of hc), H⟩
    · have := ready_mono hj hji
      rw [H.1] at this
      cases this
  | succ fuel ih =>
    intro listed a w hfree hr hy hS H
    refine ⟨fun h => (by rw [h] at hr; cases hr), fun j hj => ?_⟩
    by_cases hji : j = i
    · subst hji; exact hy.wpOp hi trivial ⟨fun hc => hS (clean_of hc), H⟩
    · have h1 := H.2 j (ready_mono hj hji)
      obtain ⟨hjun, oj, hoj, hnot⟩ := not_waits hr hj
      have h2 := wpOp_putIf hoj (hfree j oj hoj hji hjun hnot) (fun cs b => hsel i oi cs b hi) (fun cs b => hsel j oj cs b hoj) hQ hy h1
      have hfree' : ∀ k ok, ops[k]? = some ok → k ≠ i → (listed.setIfInBounds j true).getD k true = false →
          (∀ e ∈ ok.after, Region.binds md e = true → e.on ≠ i) → oi.apart ops ok = true := fun k ok hk hki hun hno => by
        refine hfree k ok hk hki ?_ hno
        by_cases hjk : j = k
        · subst hjk; exact hjun
        · rw [getD_set_ne true hjk] at hun; exact hun
      have hcc : clean ops brk (listed.setIfInBounds j true) = true → clean ops brk ((listed.setIfInBounds i true).setIfInBounds j true) = true := fun hc => by
        rw [Array.setIfInBounds_comm _ _ (Ne.symm hji)]
        exact clean_set hc hbi
      refine wpOp_mono (fun a' w' h3 => ⟨fun hc => h3.2.1 (hcc hc), ih (listed.setIfInBounds j true) a' w' hfree' (ready_mono hr (Ne.symm hji)) h3.1 (fun hc => h3.2.1 (hcc hc)) ?_⟩) h2
      rw [Array.setIfInBounds_comm _ _ hji]
      exact h3.2.2
theorem wpE_take {i : Nat} {oi : Oper} {v : Value} {fuel : Nat} {listed : Array Bool} {a : Act} {w : World} (hi : ops[i]? = some oi)
    (hs : Region.noSelect ops = true) (hf : Region.free md ops listed i = true) (hr : (Region.ready md ops listed).contains i = true)
    (hwt : waits md ops brk i = true) (hc : clean ops brk listed = true) (hbi : brk i = false)
    (hQ : ∀ c a w, Q (.panic c) (a.put oi.dst v) w → Q (.panic c) a w) (hy : YieldsIf P ops S oi v a) (hS : S w)
    (h : wpE P md ops Q S brk fuel (listed.setIfInBounds i true) (a.put oi.dst v) w) : wpE P md ops Q S brk (fuel + 1) listed a w :=
  wpE_first hi (Region.noSelect_spec hs) hQ hwt hbi fuel listed a w (Region.free_spec hi hf) (by simpa using hr) hy hc hS h
theorem wpE_takeP {i : Nat} {oi : Oper} {v : Value} {fuel : Nat} {listed : Array Bool} {a : Act} {w : World} (hi : ops[i]? = some oi)
    (hs : Region.noSelect ops = true) (hf : Region.free md ops listed i = true) (hr : (Region.ready md ops listed).contains i = true) (hbi : brk i = false)
    (hQ : ∀ c a w, Q (.panic c) (a.put oi.dst v) w → Q (.panic c) a w) (hy : YieldsIf P ops (fun _ => True) oi v a) (hS : S w)
    (h : wpE P md ops Q S brk fuel (listed.setIfInBounds i true) (a.put oi.dst v) w) : wpE P md ops Q S brk (fuel + 1) listed a w :=
  wpE_firstP hi (Region.noSelect_spec hs) hQ hbi fuel listed a w (Region.free_spec hi hf) (by simpa using hr) hy (fun _ => hS) h
theorem wpE_takeQ {i : Nat} {oi : Oper} {v : Value} {fuel : Nat} {listed : Array Bool} {a : Act} {w : World} (hi : ops[i]? = some oi)
    (hs : Region.noSelect ops = true) (hf : Region.free md ops listed i = true) (hr : (Region.ready md ops listed).contains i = true) (hbi : brk i = false)
    (hQ : ∀ c a w, Q (.panic c) (a.put oi.dst v) w → Q (.panic c) a w) (hy : YieldsIf P ops (fun _ => True) oi v a) (hc : clean ops brk listed = false)
    (h : wpE P md ops Q S brk fuel (listed.setIfInBounds i true) (a.put oi.dst v) w) : wpE P md ops Q S brk (fuel + 1) listed a w :=
  wpE_firstP hi (Region.noSelect_spec hs) hQ hbi fuel listed a w (Region.free_spec hi hf) (by simpa using hr) hy (fun hc2 => by rw [hc] at hc2; cases hc2) h
def AllE (P : Program) (md : Region.Mode) (ops : Array Oper) (Q : Exit → Act → World → Prop) (S : World → Prop) (brk : Nat → Bool) (fuel : Nat) (listed : Array Bool) (a : Act) (w : World) (rs : List Nat) : Prop :=
  ∀ i ∈ rs, wpOp P ops Q i (fun a' w' => (clean ops brk (listed.setIfInBounds i true) = true → S w') ∧ wpE P md ops Q S brk fuel (listed.setIfInBounds i true) a' w') a w
theorem AllE.nil {fuel : Nat} {listed : Array Bool} {a : Act} {w : World} : AllE P md ops Q S brk fuel listed a w [] := fun _ h => by cases h
theorem AllE.cons {fuel : Nat} {listed : Array Bool} {a : Act} {w : World} {i : Nat} {o : Oper} {rs : List Nat} (ho : ops[i]? = some o)
    (h : ∀ K' : Act → World → Prop, Shut (∀ a w, S w → (S w → wpE P md ops Q S brk fuel (listed.setIfInBounds i true) a w) → K' a w) → if Region.wanted o (yielded ops a.tmps) = true then Oper.wp P o a w K' Q else K' (a.put o.dst undef) w)
    (hs : AllE P md ops Q S brk fuel listed a w rs) : AllE P md ops Q S brk fuel listed a w (i :: rs) := fun j hj => by
  rcases List.mem_cons.1 hj with rfl | hj
  · exact wpOp_step ho (fun K' hK => h K' (fun a w hS hW => hK a w ⟨fun _ => hS, hW hS⟩))
  · exact hs j hj
theorem AllE.last {fuel : Nat} {listed : Array Bool} {a : Act} {w : World} {i : Nat} {o : Oper} {rs : List Nat} (ho : ops[i]? = some o) (hb : clean ops brk (listed.setIfInBounds i true) = false)
    (h : ∀ K' : Act → World → Prop, Shut (∀ a w, wpE P md ops Q S brk fuel (listed.setIfInBounds i true) a w → K' a w) → if Region.wanted o (yielded ops a.tmps) = true then Oper.wp P o a w K' Q else K' (a.put o.dst undef) w)
    (hs : AllE P md ops Q S brk fuel listed a w rs) : AllE P md ops Q S brk fuel listed a w (i :: rs) := fun j hj => by
  rcases List.mem_cons.1 hj with rfl | hj
  · exact wpOp_step ho (fun K' hK => h K' (fun a w hW => hK a w ⟨fun hf => (by rw [hb] at hf; cases hf), hW⟩))
  · exact hs j hj
theorem wpE_ready {rs : List Nat} {fuel : Nat} {listed : Array Bool} {a : Act} {w : World} (hr : Region.ready md ops listed = rs) (hne : rs ≠ [])
    (h : AllE P md ops Q S brk fuel listed a w rs) : wpE P md ops Q S brk (fuel + 1) listed a w := ⟨fun h0 => absurd (hr ▸ h0) hne, by rw [hr]; exact h⟩
theorem wpE_done {listed : Array Bool} {a : Act} {w : World} (hr : Region.ready md ops listed = []) (h : Q .normal a w) :
    ∀ fuel, wpE P md ops Q S brk fuel listed a w
  | 0 => ⟨hr, h⟩
  | _ + 1 => ⟨fun _ => h, by rw [hr]; simp⟩
theorem wp_region_W {id : Nat} {a : Act} {w : World} (hm : P.follows .mixedOrders = true) (h : ∀ W, Hid (W = w.drew) → wpAny P .any ops Q ops.size (Array.replicate ops.size false) a W) : (Code.region id ops true).wp P Q a w :=
  wp_region_any hm (h _ (Lib.hid rfl))
theorem wpAny_S {a : Act} {W : World} (S : World → Prop) (brk : Nat → Bool) (hS : S W) (h : S W → wpE P .any ops Q S brk ops.size (Array.replicate ops.size false) a W) : wpAny P .any ops Q ops.size (Array.replicate ops.size false) a W :=
  wpAny_of_E _ _ _ _ (h hS)
end
section
variable {P : Program} {w : World} {ops : Array Oper} {o : Oper} {a : Act} {K : Act → World → Prop} {Q : Exit → Act → World → Prop} {EE : Prop}
theorem stepE_app (hw : Region.wanted o (yielded ops a.tmps) = true) (sv x : Operand) (t : TypeId)
    (ho : o.op = .call { callee := .builtin .append, args := #[sv, x], argTypes := #[t, t] })
    {α : Type} {f : α → List Value} {s : Nat} {e : TypeId} {z : Value} {bytes : Nat} (E : El P t e z s bytes) {B : Nat} {v xv : Value} {l m : List α}
    (hs : a.eval sv = v) (hx : a.eval x = xv) (hown : Ow f s e w B v l) (hsrc : Sl f s w xv m) (h1 : ∀ x, ∀ u ∈ f x, u.oneCell' = true)
    (h63 : l.length + m.length ≤ maxLen) (hbytes : (l.length + m.length) * bytes ≤ 140737488355328) (hbase : B ≤ w.heap.size)
    (h : ∀ v' w', Ow f s e w' B v' (l ++ m) → w.grownBy w' v.ownBlock → (v'.ownBlock = v.ownBlock ∨ v'.ownBlock = some w.heap.size) → K (a.put o.dst v') w') : if Region.wanted o (yielded ops a.tmps) = true then Oper.wp P o a w K Q else EE := by
  rw [if_pos hw]
  exact wp_app w sv x t ho E hs hx hown hsrc h1 h63 hbytes hbase h
theorem stepE_mk (hw : Region.wanted o (yielded ops a.tmps) = true) (x y : Operand) (t : TypeId) (ho : o.op = Op.makeSlice t x y)
    {α : Type} {f : α → List Value} {s : Nat} {e : TypeId} {z : Value} {bytes : Nat} (E : El P t e z s bytes) {B n : Nat} {C : Int} (hx : a.eval x = .int .i64 0) (hy : a.eval y = .int .i64 C) (hC : C = (n : Int))
    (hbytes : n * bytes ≤ 140737488355328) (hn : n ≤ maxLen) (hbase : B ≤ w.heap.size)
    (h : ∀ w', Ow f s e w' B (.slice (some ⟨w.heap.size, 0, none⟩) 0 n) [] → w.grownBy w' none → K (a.put o.dst (.slice (some ⟨w.heap.size, 0, none⟩) 0 n)) w') : if Region.wanted o (yielded ops a.tmps) = true then Oper.wp P o a w K Q else EE := by
  rw [if_pos hw]
  obtain ⟨i, hi, hz⟩ := Option.map_eq_some_iff.1 E.info
  simp only [Prod.mk.injEq] at hz
  obtain ⟨z1, z2, z3⟩ := hz
  obtain ⟨w', hrun, r1, r2⟩ := run_make_own (P := P) w B t e i z s E.slice hi z1 z2 .i64 .i64 n (by rw [z3, Nat.mul_comm]; omega) hn hbase
  subst hC
  unfold Oper.wp
  simp [execOp, ho, hx, hy, hrun, Result.andThen]
  exact h w' ⟨r1, by simp⟩ r2
end
theorem Ow.one_at {α : Type} (f : α → List Value) (s : Nat) (w : World) (x : α) (e : TypeId) (hs : (f x).length = s) (cs : Array Value) (hcs : cs.toList = f x) {n B : Nat} (hn : n = w.heap.size) (hB : B ≤ w.heap.size) : Ow f s e (w.alloc (.cells cs e)) B (.slice (some ⟨n, 0, none⟩) 1 1) [x] := by
  subst hn
  refine ⟨?_, by simpa using hs⟩
  have := World.ownsRow_lit (e := e) (size := s) w cs 1 hB (by simp [maxLen]) (by rw [← Array.length_toList, hcs, hs, Nat.one_mul])
  rw [hcs] at this
  simpa using this
theorem build_one {α : Type} {K : Act → World → Prop} {A : Act} {Wc : World} {cs : Array Value} {e : TypeId} {n : Nat} (hn : n = Wc.heap.size) (B : Nat) (hB : B ≤ Wc.heap.size) (f : α → List Value) (s : Nat) (x : α) (hs : (f x).length = s) (hcs : cs.toList = f x)
    (h : ∀ w', Ow f s e w' B (.slice (some ⟨n, 0, none⟩) 1 1) [x] → Below Wc.heap.size Wc w' → K A w') : K A (Wc.alloc (.cells cs e)) :=
  h _ (Ow.one_at f s Wc x e hs cs hcs hn hB) ((Below.refl _ _).alloc (Nat.le_refl _) _)
theorem Ow.lt {α : Type} {f : α → List Value} {s : Nat} {e : TypeId} {w : World} {B : Nat} {v : Value} {l : List α} (h : Ow f s e w B v l) : ∀ g, v.ownBlock = some g → g < w.heap.size := by
  intro q hq
  obtain ⟨A, c, rfl, _, _, _, h4⟩ := h.form
  cases A with
  | none => cases hq
  | some a =>
    obtain ⟨g, rfl, _, hg⟩ := h4 _ rfl
    have e1 : g = q := by simpa [Value.ownBlock] using hq
    omega
theorem Ow.apart {α : Type} {f : α → List Value} {s : Nat} {e : TypeId} {w : World} {B : Nat} {v x : Value} {l : List α} (h : Ow f s e w B v l) {g : Nat} (hx : x.ownBlock = some g) (hg : w.heap.size ≤ g) : v.ownBlock ≠ x.ownBlock := by
  intro h1
  have := h.lt g (h1.trans hx)
  omega
theorem Ow.moved {α : Type} {f : α → List Value} {s : Nat} {e : TypeId} {W W' w' : World} {ext : Array Obj} {d d' B : Nat} {v : Value} {l : List α} (h : Ow f s e (grow W ext d) B v l) (hB : W.heap.size ≤ B) (hb : Below (grow W' ext d').heap.size (grow W' ext d') w') (hs : W'.heap.size = W.heap.size) : Ow f s e w' B v l :=
  (h.regrow hB hs).below hb
theorem gen_w {P : Program} {c : Code} {Q : Exit → Act → World → Prop} {a : Act} {w : World} (h : ∀ W, Hid (W = w) → c.wp P Q a W) : c.wp P Q a w := h w (Lib.hid rfl)
theorem grown_on {W w1 w2 : World} {r : Option Nat} (hb : Below W.heap.size W w1) (hg : w1.grownBy w2 r) (hr : ∀ g, r = some g → W.heap.size ≤ g) : ∃ ext d, w2 = grow W ext d := by
  obtain ⟨h1, h2, h3, h4, h5⟩ := hb
  obtain ⟨g1, g2, g3, g4, g5⟩ := hg
  refine Below.grown_eq W ⟨g1.trans h1, g2.trans h2, g3.trans h3, Nat.le_trans h4 g4, fun k hk => ?_⟩
  rw [g5 k (by omega) ?_, h5 k hk]
  cases r with
  | none => simp
  | some g => have := hr g rfl; simp; omega
theorem Ow.above {α : Type} {f : α → List Value} {s : Nat} {e : TypeId} {w : World} {B : Nat} {v : Value} {l : List α} (h : Ow f s e w B v l) : ∀ g, v.ownBlock = some g → B ≤ g := by
  intro q hq
  obtain ⟨A, c, rfl, _, _, _, h4⟩ := h.form
  cases A with
  | none => cases hq
  | some a =>
    obtain ⟨g, rfl, hB, _⟩ := h4 _ rfl
    have e1 : g = q := by simpa [Value.ownBlock] using hq
    omega
abbrev bJ := @below_d1
abbrev bK := @below_d2
abbrev bL := @below_d3
abbrev bM := @below_d4
abbrev bN := @below_d5
end Go.Proofs.YtchgpijfebilbaaGreatDoor

/- store.Take. -/
namespace Go.Proofs.YtchgpijfebilbaaGreatDoor
open Go.RowKit Go.ChangeShapes Go.WideShapes Go.ChangeAt
def takeE (s : Srv) (x : Txn) (safe : Bool) : Int := if x.zxid ≤ lastZ s.log then 13 else appE s.disk x safe
def takeS (s : Srv) (x : Txn) (safe : Bool) : Srv := if takeE s x safe = 0 then { s with disk := appL s.disk x safe, log := s.log ++ [x] } else noSrv
set_option maxRecDepth 100000 in
set_option maxHeartbeats 2000000 in
theorem storeTake (p : Nat → Prop) (s : Srv) (v : SrvV) (x : Txn) (safe : Bool) (w : World) (h : SrvIn p w s v) (hp : ∀ q, p q → q < w.heap.size) (hz : ∀ f ∈ s.disk, f.sized) (hn : (s.log.length + 1) * 72 ≤ 140737488355328) (hx : x.path.size ≤ 9223372036854775807) :
    Calls Tryz.prog 16 #[vSrv s v, vTxn x, .bool safe] w (SrvRes p (takeS s x safe) (takeE s x safe) w) := by
  have HP := Lib.hid hp
  obtain ⟨up, disk, id, ep, log, dn, tz, nodes, sess, wat⟩ := s
  obtain ⟨da, dc, la, lc, na, nc, sa, sc, wa, wc⟩ := v
  obtain ⟨hD, hG, hN, hS, hW⟩ := h
  simp only at hD hG hN hS hW hz hn
  have HD := Lib.hid hD
  have HG := Lib.hid hG
  have HG1 : Hid (Sl cTxn 7 w (.slice la log.length lc) log) := Lib.hid hG.1
  have HN := Lib.hid hN
  have HS := Lib.hid hS
  have HW := Lib.hid hW
  have HL := Lib.hid (fun (W : World) (h : Sl cTxn 7 W (.slice la log.length lc) log) => walLast (.slice la log.length lc) log W h)
  have HA := Lib.hid (fun (W : World) (h : Sl cFile 3 W (.slice da disk.length dc) disk) => walAppend (.slice da disk.length dc) disk x safe W h hz hx)
  clear hD hG hN hS hW hp hz hx
  unfold takeS takeE
  simp only
  by_cases hle : x.zxid ≤ lastZ log
  · rw [if_pos hle]
    have hd : decide (x.zxid ≤ lastZ log) = true := decide_eq_true hle
    generalize lastZ log = z at *
    clear hle HA
    obtain ⟨xz, xo, xs, xp, xd, xv, xw⟩ := x
    simp only [if_neg (show ¬ (13 : Int) = 0 by decide)]
    go_enter Tryz.func16, Tryz.ntmps16
    go_wp2_with fail
    go_quiet (first | (go_at_call 35; with_reducible refine Calls.quiet_of_same ((HL.out _ ?_).mono fun e w' h => ⟨h.1, h.2.symm⟩); exact ((((HG1.out.alloc _).alloc _).alloc _).drewN _)))
    go_wp2_with fail
    refine bodyPost_ret (v := .tuple #[vSrv noSrv noSrvV, .int .i64 13]) (by simp [results, Tryz.results16, go_sem]) rfl ⟨noSrvV, rfl, noSrv_in _ _, (by repeat (first | with_reducible (first | exact bA .. | assumption | exact bJ .. | exact bK .. | exact bL .. | exact bM .. | exact bN .. | refine bB ?_ | refine bC ?_ _ | refine bD _ _ ?_ | refine bE _ ?_ | refine bF ?_ ?_ _ | refine bG ?_ ?_ _ | refine bH _ _ _ ?_ ?_) | omega | (simp; done) | (simp; omega)))⟩
  · rw [if_neg hle]
    have hd : decide (x.zxid ≤ lastZ log) = false := decide_eq_false hle
    generalize lastZ log = z at *
    clear hle
    by_cases h0 : appE disk x safe = 0
    · rw [if_pos h0, h0]
      rw [h0] at HA
      generalize appL disk x safe = a at *
      have HN1 := Lib.hid hn
      clear h0 hn
      obtain ⟨xz, xo, xs, xp, xd, xv, xw⟩ := x
      go_enter Tryz.func16, Tryz.ntmps16
      go_wp2_with fail
      go_quiet (first | (go_at_call 35; with_reducible refine Calls.quiet_of_same ((HL.out _ ?_).mono fun e w' h => ⟨h.1, h.2.symm⟩); exact ((((HG1.out.alloc _).alloc _).alloc _).drewN _)))
      go_upto_region 7 with ((go_at_call 36; refine (HA.out _ (HD.out.1.below (by repeat (first | with_reducible (first | exact bA .. | assumption | exact bJ .. | exact bK .. | exact bL .. | exact bM .. | exact bN .. | refine bB ?_ | refine bC ?_ _ | refine bD _ _ ?_ | refine bE _ ?_ | refine bF ?_ ?_ _ | refine bG ?_ ?_ _ | refine bH _ _ _ ?_ ?_) | omega | (simp; done) | (simp; omega))))).mono ?_; rintro e w1 ⟨A1, k1, rfl, ho1, hb1⟩; obtain ⟨ext1, d1, rfl⟩ := Below.grown_eq _ hb1; have HO1 := Lib.hid ho1; clear ho1 hb1))
      refine wp_region_noPanic ?_
      refine wp_region_W (by kernel_rfl) (fun W hW => ?_)
      have cl0 : W.cell? ⟨w.heap.size, 4, none⟩ = some (.slice la log.length lc) := by rw [hW.out]; go_simp
      have cl1 : W.cell? ⟨w.heap.size + 1, 0, none⟩ = some (.int .i64 xz) := by rw [hW.out]; go_simp
      have cl2 : W.cell? ⟨w.heap.size + 1, 1, none⟩ = some (.int .i64 xo) := by rw [hW.out]; go_simp
      have cl3 : W.cell? ⟨w.heap.size + 1, 2, none⟩ = some (.int .i64 xs) := by rw [hW.out]; go_simp
      have cl4 : W.cell? ⟨w.heap.size + 1, 3, none⟩ = some (.string xp) := by rw [hW.out]; go_simp
      have cl5 : W.cell? ⟨w.heap.size + 1, 4, none⟩ = some (.string xd) := by rw [hW.out]; go_simp
      have cl6 : W.cell? ⟨w.heap.size + 1, 5, none⟩ = some (.int .i64 xv) := by rw [hW.out]; go_simp
      have cl7 : W.cell? ⟨w.heap.size + 1, 6, none⟩ = some (.int .i64 xw) := by rw [hW.out]; go_simp
      have fz0 : W.frozen? ⟨w.heap.size, 4, none⟩ = false := by rw [hW.out]; go_simp
      have SL : Hid (Sl cTxn 7 W (.slice la log.length lc) log) := Lib.hid (HG1.out.below (by rw [hW.out]; exact (by repeat (first | with_reducible (first | exact bA .. | assumption | exact bJ .. | exact bK .. | exact bL .. | exact bM .. | exact bN .. | refine bB ?_ | refine bC ?_ _ | refine bD _ _ ?_ | refine bE _ ?_ | refine bF ?_ ?_ _ | refine bG ?_ ?_ _ | refine bH _ _ _ ?_ ?_) | omega | (simp; done) | (simp; omega)))))
      refine wpAny_S (fun w' => w'.cell? ⟨w.heap.size, 4, none⟩ = some (.slice la log.length lc) ∧ w'.cell? ⟨w.heap.size + 1, 0, none⟩ = some (.int .i64 xz) ∧ w'.cell? ⟨w.heap.size + 1, 1, none⟩ = some (.int .i64 xo) ∧ w'.cell? ⟨w.heap.size + 1, 2, none⟩ = some (.int .i64 xs) ∧ w'.cell? ⟨w.heap.size + 1, 3, none⟩ = some (.string xp) ∧ w'.cell? ⟨w.heap.size + 1, 4, none⟩ = some (.string xd) ∧ w'.cell? ⟨w.heap.size + 1, 5, none⟩ = some (.int .i64 xv) ∧ w'.cell? ⟨w.heap.size + 1, 6, none⟩ = some (.int .i64 xw)) (fun i => i == 15) (by (try dsimp only); (refine ⟨?_, ?_, ?_, ?_, ?_, ?_, ?_, ?_⟩ <;> go_simp)) (fun hHeld => ?_)
      (refine wpE_takeP (i := 0) (v := ?gV1_1) (by simp only [zD]; rfl) (by kernel_rfl) (by kernel_rfl) (by kernel_rfl) (by rfl) (fun _ _ _ h => h) (Or.inl ⟨by rfl, ?gY1_1⟩) (by assumption) ?gR1_1; case gY1_1 => (intro w hSw; (try dsimp only at hSw); go_simp <;> with_reducible rfl))
      try simp only [Act.put, zA, zB, zC]
      (refine wpE_takeP (i := 1) (v := ?gV1_2) (by simp only [zD]; rfl) (by kernel_rfl) (by kernel_rfl) (by kernel_rfl) (by rfl) (fun _ _ _ h => h) (Or.inl ⟨by rfl, ?gY1_2⟩) (by assumption) ?gR1_2; case gY1_2 => (intro w hSw; (try dsimp only at hSw); go_simp <;> with_reducible rfl))
      try simp only [Act.put, zA, zB, zC]
      (refine wpE_take (i := 2) (v := ?gV1_3) (by simp only [zD]; rfl) (by kernel_rfl) (by kernel_rfl) (by kernel_rfl) (by kernel_rfl) (by kernel_rfl) (by rfl) (fun _ _ _ h => h) (Or.inl ⟨by rfl, ?gY1_3⟩) (by assumption) ?gR1_3; case gY1_3 => (intro w hSw; (try dsimp only at hSw); go_simp <;> with_reducible rfl))
      try simp only [Act.put, zA, zB, zC]
      (refine wpE_takeP (i := 3) (v := ?gV1_4) (by simp only [zD]; rfl) (by kernel_rfl) (by kernel_rfl) (by kernel_rfl) (by rfl) (fun _ _ _ h => h) (Or.inl ⟨by rfl, ?gY1_4⟩) (by assumption) ?gR1_4; case gY1_4 => (intro w hSw; (try dsimp only at hSw); go_simp <;> with_reducible rfl))
      try simp only [Act.put, zA, zB, zC]
      (refine wpE_takeP (i := 4) (v := ?gV1_5) (by simp only [zD]; rfl) (by kernel_rfl) (by kernel_rfl) (by kernel_rfl) (by rfl) (fun _ _ _ h => h) (Or.inl ⟨by rfl, ?gY1_5⟩) (by assumption) ?gR1_5; case gY1_5 => (intro w hSw; (try dsimp only at hSw); go_simp <;> with_reducible rfl))
      try simp only [Act.put, zA, zB, zC]
      (refine wpE_takeP (i := 6) (v := ?gV1_6) (by simp only [zD]; rfl) (by kernel_rfl) (by kernel_rfl) (by kernel_rfl) (by rfl) (fun _ _ _ h => h) (Or.inl ⟨by rfl, ?gY1_6⟩) (by assumption) ?gR1_6; case gY1_6 => (intro w hSw; (try dsimp only at hSw); go_simp <;> with_reducible rfl))
      try simp only [Act.put, zA, zB, zC]
      (refine wpE_takeP (i := 7) (v := ?gV1_7) (by simp only [zD]; rfl) (by kernel_rfl) (by kernel_rfl) (by kernel_rfl) (by rfl) (fun _ _ _ h => h) (Or.inl ⟨by rfl, ?gY1_7⟩) (by assumption) ?gR1_7; case gY1_7 => (intro w hSw; (try dsimp only at hSw); go_simp <;> with_reducible rfl))
      try simp only [Act.put, zA, zB, zC]
      (refine wpE_take (i := 8) (v := ?gV1_8) (by simp only [zD]; rfl) (by kernel_rfl) (by kernel_rfl) (by kernel_rfl) (by kernel_rfl) (by kernel_rfl) (by rfl) (fun _ _ _ h => h) (Or.inl ⟨by rfl, ?gY1_8⟩) (by assumption) ?gR1_8; case gY1_8 => (intro w hSw; (try dsimp only at hSw); go_simp <;> with_reducible rfl))
      try simp only [Act.put, zA, zB, zC]
      (refine wpE_take (i := 10) (v := ?gV1_9) (by simp only [zD]; rfl) (by kernel_rfl) (by kernel_rfl) (by kernel_rfl) (by kernel_rfl) (by kernel_rfl) (by rfl) (fun _ _ _ h => h) (Or.inl ⟨by rfl, ?gY1_9⟩) (by assumption) ?gR1_9; case gY1_9 => (intro w hSw; (try dsimp only at hSw); go_simp <;> with_reducible rfl))
      try simp only [Act.put, zA, zB, zC]
      refine wpE_ready (rs := [5, 11]) (by kernel_rfl) (by simp) ?_
      refine AllE.cons (by simp only [zD]; rfl) (fun K hK => ?gO1_10) ?gL1_10
      case gO1_10 =>
        (refine stepE_mk (by rfl) (.const (.int .i64 0)) (.tmp 36) _ rfl elTxn (f := cTxn) (B := W.heap.size) (n := log.length + 1) rfl rfl (by have := HN1.out; unfold IntKind.wrap; simp [IntKind.signed, IntKind.bits]; omega) HN1.out (by have := HN1.out; simp [maxLen]; omega) (by simp <;> omega) ?_; intro w1 hown hg; (first | (have HNE := Lib.hid (HB.out.apart (x := .slice (some ⟨_, 0, none⟩) 0 (log.length + 1)) rfl (Nat.le_refl _)); replace HB := Lib.hid (HB.out.kept hg (.inr (by simp [Value.ownBlock])))) | skip); obtain ⟨ext2, d2, rfl⟩ := grown_on (W := W) (by repeat (first | with_reducible (first | exact bA .. | assumption | exact bJ .. | exact bK .. | exact bL .. | exact bM .. | exact bN .. | refine bB ?_ | refine bC ?_ _ | refine bD _ _ ?_ | refine bE _ ?_ | refine bF ?_ ?_ _ | refine bG ?_ ?_ _ | refine bH _ _ _ ?_ ?_) | omega | (simp; done) | (simp; omega))) hg (by simp); have HM := Lib.hid hown; clear hown hg)
        refine hK.out _ _ ?gT1_10 (fun hHeld => ?_)
        case gT1_10 => ((try dsimp only); (refine ⟨?_, ?_, ?_, ?_, ?_, ?_, ?_, ?_⟩ <;> go_simp))
        clear hK K
        try simp only [Act.put, zA, zB, zC]
        refine wpE_ready (rs := [9, 11]) (by kernel_rfl) (by simp) ?_
        refine AllE.cons (by simp only [zD]; rfl) (fun K hK => ?gO1_11) ?gL1_11
        case gO1_11 =>
          (refine stepE_app (by rfl) (.tmp 37) (.tmp 40) _ rfl elTxn (B := W.heap.size) (v := .slice (some ⟨_, 0, none⟩) 0 (log.length + 1)) (l := []) (m := log) rfl rfl (HM.out.below (by repeat (first | with_reducible (first | exact bA .. | assumption | exact bJ .. | exact bK .. | exact bL .. | exact bM .. | exact bN .. | refine bB ?_ | refine bC ?_ _ | refine bD _ _ ?_ | refine bE _ ?_ | refine bF ?_ ?_ _ | refine bG ?_ ?_ _ | refine bH _ _ _ ?_ ?_) | omega | (simp; done) | (simp; omega)))) (SL.out.below (by repeat (first | with_reducible (first | exact bA .. | assumption | exact bJ .. | exact bK .. | exact bL .. | exact bM .. | exact bN .. | refine bB ?_ | refine bC ?_ _ | refine bD _ _ ?_ | refine bE _ ?_ | refine bF ?_ ?_ _ | refine bG ?_ ?_ _ | refine bH _ _ _ ?_ ?_) | omega | (simp; done) | (simp; omega)))) cTxn_one (by have := HN1.out; simp [maxLen]; omega) (by have := HN1.out; simp; omega) (by simp <;> omega) ?_; intro v2 w2 hown2 hg2 _; rw [List.nil_append] at hown2; obtain ⟨A2, c2, rfl, _⟩ := hown2.form; (first | replace HB := Lib.hid (HB.out.kept hg2 (.inr (by simpa using HNE.out))) | skip); obtain ⟨ext3, d3, rfl⟩ := grown_on (W := W) (by repeat (first | with_reducible (first | exact bA .. | assumption | exact bJ .. | exact bK .. | exact bL .. | exact bM .. | exact bN .. | refine bB ?_ | refine bC ?_ _ | refine bD _ _ ?_ | refine bE _ ?_ | refine bF ?_ ?_ _ | refine bG ?_ ?_ _ | refine bH _ _ _ ?_ ?_) | omega | (simp; done) | (simp; omega))) hg2 HM.out.above; have HA1 := Lib.hid hown2; clear hown2 hg2)
          refine hK.out _ _ ?gT1_11 (fun hHeld => ?_)
          case gT1_11 => ((try dsimp only); (refine ⟨?_, ?_, ?_, ?_, ?_, ?_, ?_, ?_⟩ <;> go_simp))
          clear hK K
          try simp only [Act.put, zA, zB, zC]
          refine wpE_ready (rs := [11]) (by kernel_rfl) (by simp) ?_
          refine AllE.cons (by simp only [zD]; rfl) (fun K hK => ?_) AllE.nil
          go_simp
          ((first | refine build_one (n := W.heap.size + ext3.size) (by first | rfl | (simp; done)) W.heap.size (by simp) cTxn 7 ⟨xz, xo, xs, xp, xd, xv, xw⟩ rfl rfl (fun w' hB hbB => ?_) | refine build_one (n := W.heap.size + ext2.size) (by first | rfl | (simp; done)) W.heap.size (by simp) cTxn 7 ⟨xz, xo, xs, xp, xd, xv, xw⟩ rfl rfl (fun w' hB hbB => ?_) | refine build_one (n := W.heap.size) (by first | rfl | (simp; done)) W.heap.size (by simp) cTxn 7 ⟨xz, xo, xs, xp, xd, xv, xw⟩ rfl rfl (fun w' hB hbB => ?_)); have HB := Lib.hid hB; (first | (have HNE := Lib.hid (Ne.symm (HM.out.apart (x := .slice (some ⟨W.heap.size + ext2.size, 0, none⟩) 1 1) rfl (by simp)))) | skip); (first | replace HM := Lib.hid (HM.out.below hbB) | skip); (first | replace HA1 := Lib.hid (HA1.out.below hbB) | skip); obtain ⟨ext4, d4, rfl⟩ := Below.grown_eq W (Below.own (by repeat (first | with_reducible (first | exact bA .. | assumption | exact bJ .. | exact bK .. | exact bL .. | exact bM .. | exact bN .. | refine bB ?_ | refine bC ?_ _ | refine bD _ _ ?_ | refine bE _ ?_ | refine bF ?_ ?_ _ | refine bG ?_ ?_ _ | refine bH _ _ _ ?_ ?_) | omega | (simp; done) | (simp; omega))) hbB); clear hbB hB)
          refine hK.out _ _ ?gT1_12 (fun hHeld => ?_)
          case gT1_12 => ((try dsimp only); (refine ⟨?_, ?_, ?_, ?_, ?_, ?_, ?_, ?_⟩ <;> go_simp))
          clear hK K
          try simp only [Act.put, zA, zB, zC]
          refine wpE_ready (rs := [12]) (by kernel_rfl) (by simp) ?_
          refine AllE.cons (by simp only [zD]; rfl) (fun K hK => ?_) AllE.nil
          (refine stepE_app (by rfl) (.tmp 41) (.tmp 43) _ rfl elTxn (B := W.heap.size) (v := .slice A2 log.length c2) (l := log) (m := [⟨xz, xo, xs, xp, xd, xv, xw⟩]) rfl rfl HA1.out HB.out.sl cTxn_one (by have := HN1.out; simp [maxLen]; omega) (by have := HN1.out; simp; omega) (by simp <;> omega) ?_; intro v5 w5 hown5 hg5 _; obtain ⟨A5, c5, rfl, _⟩ := hown5.form; obtain ⟨ext5, d5, rfl⟩ := grown_on (W := W) (by repeat (first | with_reducible (first | exact bA .. | assumption | exact bJ .. | exact bK .. | exact bL .. | exact bM .. | exact bN .. | refine bB ?_ | refine bC ?_ _ | refine bD _ _ ?_ | refine bE _ ?_ | refine bF ?_ ?_ _ | refine bG ?_ ?_ _ | refine bH _ _ _ ?_ ?_) | omega | (simp; done) | (simp; omega))) hg5 HA1.out.above; have HA2 := Lib.hid hown5; clear hown5 hg5)
          refine hK.out _ _ ?gT1_13 (fun hHeld => ?_)
          case gT1_13 => ((try dsimp only); (refine ⟨?_, ?_, ?_, ?_, ?_, ?_, ?_, ?_⟩ <;> go_simp))
          clear hK K
          try simp only [Act.put, zA, zB, zC]
          (refine wpE_takeP (i := 13) (v := ?gV1_14) (by simp only [zD]; rfl) (by kernel_rfl) (by kernel_rfl) (by kernel_rfl) (by rfl) (fun _ _ _ h => h) (Or.inl ⟨by rfl, ?gY1_14⟩) (by assumption) ?gR1_14; case gY1_14 => (intro w hSw; (try dsimp only at hSw); go_simp <;> with_reducible rfl))
          try simp only [Act.put, zA, zB, zC]
          (refine wpE_takeP (i := 14) (v := ?gV1_15) (by simp only [zD]; rfl) (by kernel_rfl) (by kernel_rfl) (by kernel_rfl) (by rfl) (fun _ _ _ h => h) (Or.inl ⟨by rfl, ?gY1_15⟩) (by assumption) ?gR1_15; case gY1_15 => (intro w hSw; (try dsimp only at hSw); go_simp <;> with_reducible rfl))
          try simp only [Act.put, zA, zB, zC]
          refine wpE_ready (rs := [15]) (by kernel_rfl) (by simp) ?_
          refine AllE.last (by simp only [zD]; rfl) (by kernel_rfl) (fun K hK => ?_) AllE.nil
          go_simp
          refine hK.out _ _ ?_
          clear hK K
          try simp only [Act.put, zA, zB, zC]
          refine wpE_done (by kernel_rfl) ?_ _
          refine NoPanic.normal ?_
          have hWW := hW.out
          subst hWW
          go_wp2_with fail
          refine bodyPost_ret (v := .tuple #[vSrv ⟨up, a, id, ep, log ++ [⟨xz, xo, xs, xp, xd, xv, xw⟩], dn, tz, nodes, sess, wat⟩ ⟨A1, k1, A5, c5, na, nc, sa, sc, wa, wc⟩, .int .i64 0]) (by simp [results, Tryz.results16, go_sem]) rfl ⟨⟨A1, k1, A5, c5, na, nc, sa, sc, wa, wc⟩, rfl, ⟨?_, ?_, HN.out.below (by repeat (first | with_reducible (first | exact bA .. | assumption | exact bJ .. | exact bK .. | exact bL .. | exact bM .. | exact bN .. | refine bB ?_ | refine bC ?_ _ | refine bD _ _ ?_ | refine bE _ ?_ | refine bF ?_ ?_ _ | refine bG ?_ ?_ _ | refine bH _ _ _ ?_ ?_) | omega | (simp; done) | (simp; omega))), HS.out.below (by repeat (first | with_reducible (first | exact bA .. | assumption | exact bJ .. | exact bK .. | exact bL .. | exact bM .. | exact bN .. | refine bB ?_ | refine bC ?_ _ | refine bD _ _ ?_ | refine bE _ ?_ | refine bF ?_ ?_ _ | refine bG ?_ ?_ _ | refine bH _ _ _ ?_ ?_) | omega | (simp; done) | (simp; omega))), HW.out.below (by repeat (first | with_reducible (first | exact bA .. | assumption | exact bJ .. | exact bK .. | exact bL .. | exact bM .. | exact bN .. | refine bB ?_ | refine bC ?_ _ | refine bD _ _ ?_ | refine bE _ ?_ | refine bF ?_ ?_ _ | refine bG ?_ ?_ _ | refine bH _ _ _ ?_ ?_) | omega | (simp; done) | (simp; omega)))⟩, (by repeat (first | with_reducible (first | exact bA .. | assumption | exact bJ .. | exact bK .. | exact bL .. | exact bM .. | exact bN .. | refine bB ?_ | refine bC ?_ _ | refine bD _ _ ?_ | refine bE _ ?_ | refine bF ?_ ?_ _ | refine bG ?_ ?_ _ | refine bH _ _ _ ?_ ?_) | omega | (simp; done) | (simp; omega)))⟩
          · refine Ow.sla (Ow.moved (W' := ?hw1_16) (d' := ?hd1_16) HO1.out (Nat.le_refl _) ?hb1_16 ?hz1_16) (fun q hq => Nat.lt_of_lt_of_le (HP.out q hq) (by simp; omega))
            case hb1_16 => exact (by repeat (first | with_reducible (first | exact bA .. | assumption | exact bJ .. | exact bK .. | exact bL .. | exact bM .. | exact bN .. | refine bB ?_ | refine bC ?_ _ | refine bD _ _ ?_ | refine bE _ ?_ | refine bF ?_ ?_ _ | refine bG ?_ ?_ _ | refine bH _ _ _ ?_ ?_) | omega | (simp; done) | (simp; omega)))
            case hz1_16 => simp
          · refine Ow.sla (Ow.moved (W' := ?hv1_16) (d' := ?he1_16) HA2.out (Nat.le_refl _) ?hc1_16 ?hy1_16) (fun q hq => Nat.lt_of_lt_of_le (HP.out q hq) (by simp; omega))
            case hc1_16 => exact (by repeat (first | with_reducible (first | exact bA .. | assumption | exact bJ .. | exact bK .. | exact bL .. | exact bM .. | exact bN .. | refine bB ?_ | refine bC ?_ _ | refine bD _ _ ?_ | refine bE _ ?_ | refine bF ?_ ?_ _ | refine bG ?_ ?_ _ | refine bH _ _ _ ?_ ?_) | omega | (simp; done) | (simp; omega)))
            case hy1_16 => simp
        refine AllE.cons (by simp only [zD]; rfl) (fun K hK => ?gO1_17) ?gL1_17
        case gO1_17 =>
          go_simp
          ((first | refine build_one (n := W.heap.size + ext3.size) (by first | rfl | (simp; done)) W.heap.size (by simp) cTxn 7 ⟨xz, xo, xs, xp, xd, xv, xw⟩ rfl rfl (fun w' hB hbB => ?_) | refine build_one (n := W.heap.size + ext2.size) (by first | rfl | (simp; done)) W.heap.size (by simp) cTxn 7 ⟨xz, xo, xs, xp, xd, xv, xw⟩ rfl rfl (fun w' hB hbB => ?_) | refine build_one (n := W.heap.size) (by first | rfl | (simp; done)) W.heap.size (by simp) cTxn 7 ⟨xz, xo, xs, xp, xd, xv, xw⟩ rfl rfl (fun w' hB hbB => ?_)); have HB := Lib.hid hB; (first | (have HNE := Lib.hid (Ne.symm (HM.out.apart (x := .slice (some ⟨W.heap.size + ext2.size, 0, none⟩) 1 1) rfl (by simp)))) | skip); (first | replace HM := Lib.hid (HM.out.below hbB) | skip); (first | replace HA1 := Lib.hid (HA1.out.below hbB) | skip); obtain ⟨ext4, d4, rfl⟩ := Below.grown_eq W (Below.own (by repeat (first | with_reducible (first | exact bA .. | assumption | exact bJ .. | exact bK .. | exact bL .. | exact bM .. | exact bN .. | refine bB ?_ | refine bC ?_ _ | refine bD _ _ ?_ | refine bE _ ?_ | refine bF ?_ ?_ _ | refine bG ?_ ?_ _ | refine bH _ _ _ ?_ ?_) | omega | (simp; done) | (simp; omega))) hbB); clear hbB hB)
          refine hK.out _ _ ?gT1_17 (fun hHeld => ?_)
          case gT1_17 => ((try dsimp only); (refine ⟨?_, ?_, ?_, ?_, ?_, ?_, ?_, ?_⟩ <;> go_simp))
          clear hK K
          try simp only [Act.put, zA, zB, zC]
          refine wpE_ready (rs := [9]) (by kernel_rfl) (by simp) ?_
          refine AllE.cons (by simp only [zD]; rfl) (fun K hK => ?_) AllE.nil
          (refine stepE_app (by rfl) (.tmp 37) (.tmp 40) _ rfl elTxn (B := W.heap.size) (v := .slice (some ⟨_, 0, none⟩) 0 (log.length + 1)) (l := []) (m := log) rfl rfl (HM.out.below (by repeat (first | with_reducible (first | exact bA .. | assumption | exact bJ .. | exact bK .. | exact bL .. | exact bM .. | exact bN .. | refine bB ?_ | refine bC ?_ _ | refine bD _ _ ?_ | refine bE _ ?_ | refine bF ?_ ?_ _ | refine bG ?_ ?_ _ | refine bH _ _ _ ?_ ?_) | omega | (simp; done) | (simp; omega)))) (SL.out.below (by repeat (first | with_reducible (first | exact bA .. | assumption | exact bJ .. | exact bK .. | exact bL .. | exact bM .. | exact bN .. | refine bB ?_ | refine bC ?_ _ | refine bD _ _ ?_ | refine bE _ ?_ | refine bF ?_ ?_ _ | refine bG ?_ ?_ _ | refine bH _ _ _ ?_ ?_) | omega | (simp; done) | (simp; omega)))) cTxn_one (by have := HN1.out; simp [maxLen]; omega) (by have := HN1.out; simp; omega) (by simp <;> omega) ?_; intro v2 w2 hown2 hg2 _; rw [List.nil_append] at hown2; obtain ⟨A2, c2, rfl, _⟩ := hown2.form; (first | replace HB := Lib.hid (HB.out.kept hg2 (.inr (by simpa using HNE.out))) | skip); obtain ⟨ext3, d3, rfl⟩ := grown_on (W := W) (by repeat (first | with_reducible (first | exact bA .. | assumption | exact bJ .. | exact bK .. | exact bL .. | exact bM .. | exact bN .. | refine bB ?_ | refine bC ?_ _ | refine bD _ _ ?_ | refine bE _ ?_ | refine bF ?_ ?_ _ | refine bG ?_ ?_ _ | refine bH _ _ _ ?_ ?_) | omega | (simp; done) | (simp; omega))) hg2 HM.out.above; have HA1 := Lib.hid hown2; clear hown2 hg2)
          refine hK.out _ _ ?gT1_18 (fun hHeld => ?_)
          case gT1_18 => ((try dsimp only); (refine ⟨?_, ?_, ?_, ?_, ?_, ?_, ?_, ?_⟩ <;> go_simp))
          clear hK K
          try simp only [Act.put, zA, zB, zC]
          refine wpE_ready (rs := [12]) (by kernel_rfl) (by simp) ?_
          refine AllE.cons (by simp only [zD]; rfl) (fun K hK => ?_) AllE.nil
          (refine stepE_app (by rfl) (.tmp 41) (.tmp 43) _ rfl elTxn (B := W.heap.size) (v := .slice A2 log.length c2) (l := log) (m := [⟨xz, xo, xs, xp, xd, xv, xw⟩]) rfl rfl HA1.out HB.out.sl cTxn_one (by have := HN1.out; simp [maxLen]; omega) (by have := HN1.out; simp; omega) (by simp <;> omega) ?_; intro v5 w5 hown5 hg5 _; obtain ⟨A5, c5, rfl, _⟩ := hown5.form; obtain ⟨ext5, d5, rfl⟩ := grown_on (W := W) (by repeat (first | with_reducible (first | exact bA .. | assumption | exact bJ .. | exact bK .. | exact bL .. | exact bM .. | exact bN .. | refine bB ?_ | refine bC ?_ _ | refine bD _ _ ?_ | refine bE _ ?_ | refine bF ?_ ?_ _ | refine bG ?_ ?_ _ | refine bH _ _ _ ?_ ?_) | omega | (simp; done) | (simp; omega))) hg5 HA1.out.above; have HA2 := Lib.hid hown5; clear hown5 hg5)
          refine hK.out _ _ ?gT1_19 (fun hHeld => ?_)
          case gT1_19 => ((try dsimp only); (refine ⟨?_, ?_, ?_, ?_, ?_, ?_, ?_, ?_⟩ <;> go_simp))
          clear hK K
          try simp only [Act.put, zA, zB, zC]
          (refine wpE_takeP (i := 13) (v := ?gV1_20) (by simp only [zD]; rfl) (by kernel_rfl) (by kernel_rfl) (by kernel_rfl) (by rfl) (fun _ _ _ h => h) (Or.inl ⟨by rfl, ?gY1_20⟩) (by assumption) ?gR1_20; case gY1_20 => (intro w hSw; (try dsimp only at hSw); go_simp <;> with_reducible rfl))
          try simp only [Act.put, zA, zB, zC]
          (refine wpE_takeP (i := 14) (v := ?gV1_21) (by simp only [zD]; rfl) (by kernel_rfl) (by kernel_rfl) (by kernel_rfl) (by rfl) (fun _ _ _ h => h) (Or.inl ⟨by rfl, ?gY1_21⟩) (by assumption) ?gR1_21; case gY1_21 => (intro w hSw; (try dsimp only at hSw); go_simp <;> with_reducible rfl))
          try simp only [Act.put, zA, zB, zC]
          refine wpE_ready (rs := [15]) (by kernel_rfl) (by simp) ?_
          refine AllE.last (by simp only [zD]; rfl) (by kernel_rfl) (fun K hK => ?_) AllE.nil
          go_simp
          refine hK.out _ _ ?_
          clear hK K
          try simp only [Act.put, zA, zB, zC]
          refine wpE_done (by kernel_rfl) ?_ _
          refine NoPanic.normal ?_
          have hWW := hW.out
          subst hWW
          go_wp2_with fail
          refine bodyPost_ret (v := .tuple #[vSrv ⟨up, a, id, ep, log ++ [⟨xz, xo, xs, xp, xd, xv, xw⟩], dn, tz, nodes, sess, wat⟩ ⟨A1, k1, A5, c5, na, nc, sa, sc, wa, wc⟩, .int .i64 0]) (by simp [results, Tryz.results16, go_sem]) rfl ⟨⟨A1, k1, A5, c5, na, nc, sa, sc, wa, wc⟩, rfl, ⟨?_, ?_, HN.out.below (by repeat (first | with_reducible (first | exact bA .. | assumption | exact bJ .. | exact bK .. | exact bL .. | exact bM .. | exact bN .. | refine bB ?_ | refine bC ?_ _ | refine bD _ _ ?_ | refine bE _ ?_ | refine bF ?_ ?_ _ | refine bG ?_ ?_ _ | refine bH _ _ _ ?_ ?_) | omega | (simp; done) | (simp; omega))), HS.out.below (by repeat (first | with_reducible (first | exact bA .. | assumption | exact bJ .. | exact bK .. | exact bL .. | exact bM .. | exact bN .. | refine bB ?_ | refine bC ?_ _ | refine bD _ _ ?_ | refine bE _ ?_ | refine bF ?_ ?_ _ | refine bG ?_ ?_ _ | refine bH _ _ _ ?_ ?_) | omega | (simp; done) | (simp; omega))), HW.out.below (by repeat (first | with_reducible (first | exact bA .. | assumption | exact bJ .. | exact bK .. | exact bL .. | exact bM .. | exact bN .. | refine bB ?_ | refine bC ?_ _ | refine bD _ _ ?_ | refine bE _ ?_ | refine bF ?_ ?_ _ | refine bG ?_ ?_ _ | refine bH _ _ _ ?_ ?_) | omega | (simp; done) | (simp; omega)))⟩, (by repeat (first | with_reducible (first | exact bA .. | assumption | exact bJ .. | exact bK .. | exact bL .. | exact bM .. | exact bN .. | refine bB ?_ | refine bC ?_ _ | refine bD _ _ ?_ | refine bE _ ?_ | refine bF ?_ ?_ _ | refine bG ?_ ?_ _ | refine bH _ _ _ ?_ ?_) | omega | (simp; done) | (simp; omega)))⟩
          · refine Ow.sla (Ow.moved (W' := ?hw1_22) (d' := ?hd1_22) HO1.out (Nat.le_refl _) ?hb1_22 ?hz1_22) (fun q hq => Nat.lt_of_lt_of_le (HP.out q hq) (by simp; omega))
            case hb1_22 => exact (by repeat (first | with_reducible (first | exact bA .. | assumption | exact bJ .. | exact bK .. | exact bL .. | exact bM .. | exact bN .. | refine bB ?_ | refine bC ?_ _ | refine bD _ _ ?_ | refine bE _ ?_ | refine bF ?_ ?_ _ | refine bG ?_ ?_ _ | refine bH _ _ _ ?_ ?_) | omega | (simp; done) | (simp; omega)))
            case hz1_22 => simp
          · refine Ow.sla (Ow.moved (W' := ?hv1_22) (d' := ?he1_22) HA2.out (Nat.le_refl _) ?hc1_22 ?hy1_22) (fun q hq => Nat.lt_of_lt_of_le (HP.out q hq) (by simp; omega))
            case hc1_22 => exact (by repeat (first | with_reducible (first | exact bA .. | assumption | exact bJ .. | exact bK .. | exact bL .. | exact bM .. | exact bN .. | refine bB ?_ | refine bC ?_ _ | refine bD _ _ ?_ | refine bE _ ?_ | refine bF ?_ ?_ _ | refine bG ?_ ?_ _ | refine bH _ _ _ ?_ ?_) | omega | (simp; done) | (simp; omega)))
            case hy1_22 => simp
        exact AllE.nil
      refine AllE.cons (by simp only [zD]; rfl) (fun K hK => ?gO1_23) ?gL1_23
      case gO1_23 =>
        go_simp
        ((first | refine build_one (n := W.heap.size + ext3.size) (by first | rfl | (simp; done)) W.heap.size (by simp) cTxn 7 ⟨xz, xo, xs, xp, xd, xv, xw⟩ rfl rfl (fun w' hB hbB => ?_) | refine build_one (n := W.heap.size + ext2.size) (by first | rfl | (simp; done)) W.heap.size (by simp) cTxn 7 ⟨xz, xo, xs, xp, xd, xv, xw⟩ rfl rfl (fun w' hB hbB => ?_) | refine build_one (n := W.heap.size) (by first | rfl | (simp; done)) W.heap.size (by simp) cTxn 7 ⟨xz, xo, xs, xp, xd, xv, xw⟩ rfl rfl (fun w' hB hbB => ?_)); have HB := Lib.hid hB; (first | (have HNE := Lib.hid (Ne.symm (HM.out.apart (x := .slice (some ⟨W.heap.size + ext2.size, 0, none⟩) 1 1) rfl (by simp)))) | skip); (first | replace HM := Lib.hid (HM.out.below hbB) | skip); (first | replace HA1 := Lib.hid (HA1.out.below hbB) | skip); obtain ⟨ext4, d4, rfl⟩ := Below.grown_eq W (Below.own (by repeat (first | with_reducible (first | exact bA .. | assumption | exact bJ .. | exact bK .. | exact bL .. | exact bM .. | exact bN .. | refine bB ?_ | refine bC ?_ _ | refine bD _ _ ?_ | refine bE _ ?_ | refine bF ?_ ?_ _ | refine bG ?_ ?_ _ | refine bH _ _ _ ?_ ?_) | omega | (simp; done) | (simp; omega))) hbB); clear hbB hB)
        refine hK.out _ _ ?gT1_23 (fun hHeld => ?_)
        case gT1_23 => ((try dsimp only); (refine ⟨?_, ?_, ?_, ?_, ?_, ?_, ?_, ?_⟩ <;> go_simp))
        clear hK K
        try simp only [Act.put, zA, zB, zC]
        refine wpE_ready (rs := [5]) (by kernel_rfl) (by simp) ?_
        refine AllE.cons (by simp only [zD]; rfl) (fun K hK => ?_) AllE.nil
        (refine stepE_mk (by rfl) (.const (.int .i64 0)) (.tmp 36) _ rfl elTxn (f := cTxn) (B := W.heap.size) (n := log.length + 1) rfl rfl (by have := HN1.out; unfold IntKind.wrap; simp [IntKind.signed, IntKind.bits]; omega) HN1.out (by have := HN1.out; simp [maxLen]; omega) (by simp <;> omega) ?_; intro w1 hown hg; (first | (have HNE := Lib.hid (HB.out.apart (x := .slice (some ⟨_, 0, none⟩) 0 (log.length + 1)) rfl (Nat.le_refl _)); replace HB := Lib.hid (HB.out.kept hg (.inr (by simp [Value.ownBlock])))) | skip); obtain ⟨ext2, d2, rfl⟩ := grown_on (W := W) (by repeat (first | with_reducible (first | exact bA .. | assumption | exact bJ .. | exact bK .. | exact bL .. | exact bM .. | exact bN .. | refine bB ?_ | refine bC ?_ _ | refine bD _ _ ?_ | refine bE _ ?_ | refine bF ?_ ?_ _ | refine bG ?_ ?_ _ | refine bH _ _ _ ?_ ?_) | omega | (simp; done) | (simp; omega))) hg (by simp); have HM := Lib.hid hown; clear hown hg)
        refine hK.out _ _ ?gT1_24 (fun hHeld => ?_)
        case gT1_24 => ((try dsimp only); (refine ⟨?_, ?_, ?_, ?_, ?_, ?_, ?_, ?_⟩ <;> go_simp))
        clear hK K
        try simp only [Act.put, zA, zB, zC]
        refine wpE_ready (rs := [9]) (by kernel_rfl) (by simp) ?_
        refine AllE.cons (by simp only [zD]; rfl) (fun K hK => ?_) AllE.nil
        (refine stepE_app (by rfl) (.tmp 37) (.tmp 40) _ rfl elTxn (B := W.heap.size) (v := .slice (some ⟨_, 0, none⟩) 0 (log.length + 1)) (l := []) (m := log) rfl rfl (HM.out.below (by repeat (first | with_reducible (first | exact bA .. | assumption | exact bJ .. | exact bK .. | exact bL .. | exact bM .. | exact bN .. | refine bB ?_ | refine bC ?_ _ | refine bD _ _ ?_ | refine bE _ ?_ | refine bF ?_ ?_ _ | refine bG ?_ ?_ _ | refine bH _ _ _ ?_ ?_) | omega | (simp; done) | (simp; omega)))) (SL.out.below (by repeat (first | with_reducible (first | exact bA .. | assumption | exact bJ .. | exact bK .. | exact bL .. | exact bM .. | exact bN .. | refine bB ?_ | refine bC ?_ _ | refine bD _ _ ?_ | refine bE _ ?_ | refine bF ?_ ?_ _ | refine bG ?_ ?_ _ | refine bH _ _ _ ?_ ?_) | omega | (simp; done) | (simp; omega)))) cTxn_one (by have := HN1.out; simp [maxLen]; omega) (by have := HN1.out; simp; omega) (by simp <;> omega) ?_; intro v2 w2 hown2 hg2 _; rw [List.nil_append] at hown2; obtain ⟨A2, c2, rfl, _⟩ := hown2.form; (first | replace HB := Lib.hid (HB.out.kept hg2 (.inr (by simpa using HNE.out))) | skip); obtain ⟨ext3, d3, rfl⟩ := grown_on (W := W) (by repeat (first | with_reducible (first | exact bA .. | assumption | exact bJ .. | exact bK .. | exact bL .. | exact bM .. | exact bN .. | refine bB ?_ | refine bC ?_ _ | refine bD _ _ ?_ | refine bE _ ?_ | refine bF ?_ ?_ _ | refine bG ?_ ?_ _ | refine bH _ _ _ ?_ ?_) | omega | (simp; done) | (simp; omega))) hg2 HM.out.above; have HA1 := Lib.hid hown2; clear hown2 hg2)
        refine hK.out _ _ ?gT1_25 (fun hHeld => ?_)
        case gT1_25 => ((try dsimp only); (refine ⟨?_, ?_, ?_, ?_, ?_, ?_, ?_, ?_⟩ <;> go_simp))
        clear hK K
        try simp only [Act.put, zA, zB, zC]
        refine wpE_ready (rs := [12]) (by kernel_rfl) (by simp) ?_
        refine AllE.cons (by simp only [zD]; rfl) (fun K hK => ?_) AllE.nil
        (refine stepE_app (by rfl) (.tmp 41) (.tmp 43) _ rfl elTxn (B := W.heap.size) (v := .slice A2 log.length c2) (l := log) (m := [⟨xz, xo, xs, xp, xd, xv, xw⟩]) rfl rfl HA1.out HB.out.sl cTxn_one (by have := HN1.out; simp [maxLen]; omega) (by have := HN1.out; simp; omega) (by simp <;> omega) ?_; intro v5 w5 hown5 hg5 _; obtain ⟨A5, c5, rfl, _⟩ := hown5.form; obtain ⟨ext5, d5, rfl⟩ := grown_on (W := W) (by repeat (first | with_reducible (first | exact bA .. | assumption | exact bJ .. | exact bK .. | exact bL .. | exact bM .. | exact bN .. | refine bB ?_ | refine bC ?_ _ | refine bD _ _ ?_ | refine bE _ ?_ | refine bF ?_ ?_ _ | refine bG ?_ ?_ _ | refine bH _ _ _ ?_ ?_) | omega | (simp; done) | (simp; omega))) hg5 HA1.out.above; have HA2 := Lib.hid hown5; clear hown5 hg5)
        refine hK.out _ _ ?gT1_26 (fun hHeld => ?_)
        case gT1_26 => ((try dsimp only); (refine ⟨?_, ?_, ?_, ?_, ?_, ?_, ?_, ?_⟩ <;> go_simp))
        clear hK K
        try simp only [Act.put, zA, zB, zC]
        (refine wpE_takeP (i := 13) (v := ?gV1_27) (by simp only [zD]; rfl) (by kernel_rfl) (by kernel_rfl) (by kernel_rfl) (by rfl) (fun _ _ _ h => h) (Or.inl ⟨by rfl, ?gY1_27⟩) (by assumption) ?gR1_27; case gY1_27 => (intro w hSw; (try dsimp only at hSw); go_simp <;> with_reducible rfl))
        try simp only [Act.put, zA, zB, zC]
        (refine wpE_takeP (i := 14) (v := ?gV1_28) (by simp only [zD]; rfl) (by kernel_rfl) (by kernel_rfl) (by kernel_rfl) (by rfl) (fun _ _ _ h => h) (Or.inl ⟨by rfl, ?gY1_28⟩) (by assumption) ?gR1_28; case gY1_28 => (intro w hSw; (try dsimp only at hSw); go_simp <;> with_reducible rfl))
        try simp only [Act.put, zA, zB, zC]
        refine wpE_ready (rs := [15]) (by kernel_rfl) (by simp) ?_
        refine AllE.last (by simp only [zD]; rfl) (by kernel_rfl) (fun K hK => ?_) AllE.nil
        go_simp
        refine hK.out _ _ ?_
        clear hK K
        try simp only [Act.put, zA, zB, zC]
        refine wpE_done (by kernel_rfl) ?_ _
        refine NoPanic.normal ?_
        have hWW := hW.out
        subst hWW
        go_wp2_with fail
        refine bodyPost_ret (v := .tuple #[vSrv ⟨up, a, id, ep, log ++ [⟨xz, xo, xs, xp, xd, xv, xw⟩], dn, tz, nodes, sess, wat⟩ ⟨A1, k1, A5, c5, na, nc, sa, sc, wa, wc⟩, .int .i64 0]) (by simp [results, Tryz.results16, go_sem]) rfl ⟨⟨A1, k1, A5, c5, na, nc, sa, sc, wa, wc⟩, rfl, ⟨?_, ?_, HN.out.below (by repeat (first | with_reducible (first | exact bA .. | assumption | exact bJ .. | exact bK .. | exact bL .. | exact bM .. | exact bN .. | refine bB ?_ | refine bC ?_ _ | refine bD _ _ ?_ | refine bE _ ?_ | refine bF ?_ ?_ _ | refine bG ?_ ?_ _ | refine bH _ _ _ ?_ ?_) | omega | (simp; done) | (simp; omega))), HS.out.below (by repeat (first | with_reducible (first | exact bA .. | assumption | exact bJ .. | exact bK .. | exact bL .. | exact bM .. | exact bN .. | refine bB ?_ | refine bC ?_ _ | refine bD _ _ ?_ | refine bE _ ?_ | refine bF ?_ ?_ _ | refine bG ?_ ?_ _ | refine bH _ _ _ ?_ ?_) | omega | (simp; done) | (simp; omega))), HW.out.below (by repeat (first | with_reducible (first | exact bA .. | assumption | exact bJ .. | exact bK .. | exact bL .. | exact bM .. | exact bN .. | refine bB ?_ | refine bC ?_ _ | refine bD _ _ ?_ | refine bE _ ?_ | refine bF ?_ ?_ _ | refine bG ?_ ?_ _ | refine bH _ _ _ ?_ ?_) | omega | (simp; done) | (simp; omega)))⟩, (by repeat (first | with_reducible (first | exact bA .. | assumption | exact bJ .. | exact bK .. | exact bL .. | exact bM .. | exact bN .. | refine bB ?_ | refine bC ?_ _ | refine bD _ _ ?_ | refine bE _ ?_ | refine bF ?_ ?_ _ | refine bG ?_ ?_ _ | refine bH _ _ _ ?_ ?_) | omega | (simp; done) | (simp; omega)))⟩
        · refine Ow.sla (Ow.moved (W' := ?hw1_29) (d' := ?hd1_29) HO1.out (Nat.le_refl _) ?hb1_29 ?hz1_29) (fun q hq => Nat.lt_of_lt_of_le (HP.out q hq) (by simp; omega))
          case hb1_29 => exact (by repeat (first | with_reducible (first | exact bA .. | assumption | exact bJ .. | exact bK .. | exact bL .. | exact bM .. | exact bN .. | refine bB ?_ | refine bC ?_ _ | refine bD _ _ ?_ | refine bE _ ?_ | refine bF ?_ ?_ _ | refine bG ?_ ?_ _ | refine bH _ _ _ ?_ ?_) | omega | (simp; done) | (simp; omega)))
          case hz1_29 => simp
        · refine Ow.sla (Ow.moved (W' := ?hv1_29) (d' := ?he1_29) HA2.out (Nat.le_refl _) ?hc1_29 ?hy1_29) (fun q hq => Nat.lt_of_lt_of_le (HP.out q hq) (by simp; omega))
          case hc1_29 => exact (by repeat (first | with_reducible (first | exact bA .. | assumption | exact bJ .. | exact bK .. | exact bL .. | exact bM .. | exact bN .. | refine bB ?_ | refine bC ?_ _ | refine bD _ _ ?_ | refine bE _ ?_ | refine bF ?_ ?_ _ | refine bG ?_ ?_ _ | refine bH _ _ _ ?_ ?_) | omega | (simp; done) | (simp; omega)))
          case hy1_29 => simp
      exact AllE.nil
    · have hne : (appE disk x safe != 0) = true := bne_iff_ne.2 h0
      rw [if_neg h0]
      generalize appL disk x safe = a at *
      generalize appE disk x safe = ae at *
      clear h0
      obtain ⟨xz, xo, xs, xp, xd, xv, xw⟩ := x
      go_enter Tryz.func16, Tryz.ntmps16
      go_wp2_with fail
      go_quiet (first | (go_at_call 35; with_reducible refine Calls.quiet_of_same ((HL.out _ ?_).mono fun e w' h => ⟨h.1, h.2.symm⟩); exact ((((HG1.out.alloc _).alloc _).alloc _).drewN _)))
      go_wp2_with ((go_at_call 36; refine (HA.out _ (HD.out.1.below (by repeat (first | with_reducible (first | exact bA .. | assumption | exact bJ .. | exact bK .. | exact bL .. | exact bM .. | exact bN .. | refine bB ?_ | refine bC ?_ _ | refine bD _ _ ?_ | refine bE _ ?_ | refine bF ?_ ?_ _ | refine bG ?_ ?_ _ | refine bH _ _ _ ?_ ?_) | omega | (simp; done) | (simp; omega))))).mono ?_; rintro e w1 ⟨A1, k1, rfl, ho1, hb1⟩; obtain ⟨ext1, d1, rfl⟩ := Below.grown_eq _ hb1; have HO1 := Lib.hid ho1; clear ho1 hb1))
      refine bodyPost_ret (v := .tuple #[vSrv noSrv noSrvV, .int .i64 ae]) (by simp [results, Tryz.results16, go_sem]) rfl ⟨noSrvV, rfl, noSrv_in _ _, (by repeat (first | with_reducible (first | exact bA .. | assumption | exact bJ .. | exact bK .. | exact bL .. | exact bM .. | exact bN .. | refine bB ?_ | refine bC ?_ _ | refine bD _ _ ?_ | refine bE _ ?_ | refine bF ?_ ?_ _ | refine bG ?_ ?_ _ | refine bH _ _ _ ?_ ?_) | omega | (simp; done) | (simp; omega)))⟩
end Go.Proofs.YtchgpijfebilbaaGreatDoor

/- the laws' sameLog. -/
namespace Go.Proofs.YtchgpijfebilbaaGreatDoor
open Go.RowKit Go.ChangeShapes Go.WideShapes Go.ChangeAt
end Go.Proofs.YtchgpijfebilbaaGreatDoor

/- the laws' logOf: a list that can stand in a log. -/
namespace Go.Proofs.YtchgpijfebilbaaGreatDoor
open Go.RowKit Go.ChangeShapes Go.WideShapes Go.ChangeAt
end Go.Proofs.YtchgpijfebilbaaGreatDoor

/- the laws' laid and logs: a disk with a log on it. -/
namespace Go.Proofs.YtchgpijfebilbaaGreatDoor
open Go.RowKit Go.ChangeShapes Go.WideShapes Go.ChangeAt
theorem logOk_take {l : List Txn} (h : LogOk l) (k : Nat) : LogOk (l.take k) := ⟨fun t ht => h.1 t (List.mem_of_mem_take ht), h.2.sublist (List.take_sublist k l)⟩
theorem recs_small {l : List Txn} (h : LogOk l) (hn : l.length ≤ 41) : (recs l).length ≤ 42271 := by
  have := (recs_len h.1).1
  omega
theorem good_path {t : Txn} (h : goodT t = 0) : t.path.size ≤ 9223372036854775807 := by
  have h2 := body_small t h
  rw [bodyL_length] at h2
  simp only [length_bs] at h2
  omega
end Go.Proofs.YtchgpijfebilbaaGreatDoor

/- Recover at a log's disk; logs; crashes of a log's disk. -/
namespace Go.Proofs.YtchgpijfebilbaaGreatDoor
open Go.RowKit Go.ChangeShapes Go.WideShapes Go.ChangeAt
abbrev logF (m : List Txn) : List File := [⟨logN, bS (recs m), noB⟩]
end Go.Proofs.YtchgpijfebilbaaGreatDoor

/- wal.Keep. -/
namespace Go.Proofs.YtchgpijfebilbaaGreatDoor
open Go.RowKit Go.ChangeShapes Go.WideShapes Go.ChangeAt
end Go.Proofs.YtchgpijfebilbaaGreatDoor

/- Decimal numerals, written and read: plain laws. -/
namespace Go.Proofs.YtchgpijfebilbaaGreatDoor
open Go.RowKit
end Go.Proofs.YtchgpijfebilbaaGreatDoor

/- strings.Cut at a dot; zxid.Read, zxid.Text. -/
namespace Go.Proofs.YtchgpijfebilbaaGreatDoor
open Go.RowKit
def cutR (s : ByteArray) : ByteArray × ByteArray × Bool := if Lib.indexByte s.data.toList 46 < 0 then (s, ⟨#[]⟩, false) else (s.extract 0 (Lib.indexByte s.data.toList 46).toNat, s.extract ((Lib.indexByte s.data.toList 46).toNat + 1) s.size, true)
set_option maxHeartbeats 1000000 in
theorem scut_any (s : ByteArray) (w : World) (hs : s.size ≤ 4611686018427387904) :
    Calls Tryz.prog 102 #[.string s, .string ⟨#[46]⟩] w fun e w' => e = .returned (.tuple #[.string (cutR s).1, .string (cutR s).2.1, .bool (cutR s).2.2]) ∧ Below w.heap.size w w' := by
  have HI := Lib.hid (fun (W : World) => Tryz.stringslite_Index_one s 46 W)
  have hge := Lib.indexByte_ge s.data.toList 46
  unfold cutR
  rcases Int.lt_or_le (Lib.indexByte s.data.toList 46) 0 with hi | hi
  · simp only [if_pos hi]
    have hi1 : Lib.indexByte s.data.toList 46 = -1 := by omega
    rw [hi1] at HI
    clear hi hge hi1
    go_enter Tryz.func102, Tryz.ntmps102
    go_wp2_with (go_at_call 112; refine (HI.out _).mono ?_; rintro e w1 ⟨rfl, rfl⟩; skip)
    refine bodyPost_ret (v := .tuple #[.string s, .string ⟨#[]⟩, .bool false]) (by simp [results, Tryz.results102, go_sem]) rfl ⟨rfl, (by repeat (first | exact bA .. | assumption | refine bB ?_ | refine bC ?_ _ | refine bD _ _ ?_ | refine bE _ ?_ | refine bG ?_ (by first | omega | (simp; done) | (simp; omega)) _ | refine Below.setCell ?_ (by first | omega | (simp; done) | (simp; omega)) _ | refine Below.grow _ _ _ ?_ (by first | omega | (simp; done) | (simp; omega))))⟩
  · simp only [if_neg (Int.not_lt.2 hi)]
    obtain ⟨o, ho⟩ := Int.eq_ofNat_of_zero_le hi
    have hlt : o < s.size := by
      have := (Lib.indexByte_some ho).1
      have h2 := (List.getElem?_eq_some_iff.1 this).1
      simpa using h2
    rw [ho] at HI ⊢
    have hgi : (decide ((o : Int) ≥ 0)) = true := decide_eq_true (by omega)
    clear hi hge ho
    rw [Int.toNat_natCast]
    go_enter Tryz.func102, Tryz.ntmps102
    go_wp2_with (go_at_call 112; refine (HI.out _).mono ?_; rintro e w1 ⟨rfl, rfl⟩; skip)
    go_region
    go_wp2_with fail
    refine bodyPost_ret (v := .tuple #[.string (s.extract 0 o), .string (s.extract (o + 1) s.size), .bool true]) (by simp [results, Tryz.results102, go_sem]) rfl ⟨rfl, (by repeat (first | exact bA .. | assumption | refine bB ?_ | refine bC ?_ _ | refine bD _ _ ?_ | refine bE _ ?_ | refine bG ?_ (by first | omega | (simp; done) | (simp; omega)) _ | refine Below.setCell ?_ (by first | omega | (simp; done) | (simp; omega)) _ | refine Below.grow _ _ _ ?_ (by first | omega | (simp; done) | (simp; omega))))⟩
theorem cutR_size (s : ByteArray) : (cutR s).1.size ≤ s.size ∧ (cutR s).2.1.size ≤ s.size := by
  unfold cutR
  split
  · exact ⟨Nat.le_refl _, Nat.zero_le _⟩
  · simp only [ByteArray.size_extract]
    omega
theorem cut_any (s : ByteArray) (w : World) (hs : s.size ≤ 4611686018427387904) :
    Calls Tryz.prog 83 #[.string s, .string ⟨#[46]⟩] w fun e w' => e = .returned (.tuple #[.string (cutR s).1, .string (cutR s).2.1, .bool (cutR s).2.2]) ∧ Below w.heap.size w w' := by
  have HC := Lib.hid (fun (W : World) => scut_any s W hs)
  generalize cutR s = r at *
  go_enter Tryz.func83, Tryz.ntmps83
  go_wp2_with (go_at_call 102; refine (HC.out _).mono ?_; rintro e w1 ⟨rfl, hb⟩; obtain ⟨ext1, d1, rfl⟩ := Below.grown_eq _ hb; clear hb)
  refine bodyPost_ret (v := .tuple #[.string r.1, .string r.2.1, .bool r.2.2]) (by simp [results, Tryz.results83, go_sem]) rfl ⟨rfl, (by repeat (first | exact bA .. | assumption | refine bB ?_ | refine bC ?_ _ | refine bD _ _ ?_ | refine bE _ ?_ | refine bG ?_ (by first | omega | (simp; done) | (simp; omega)) _ | refine Below.setCell ?_ (by first | omega | (simp; done) | (simp; omega)) _ | refine Below.grow _ _ _ ?_ (by first | omega | (simp; done) | (simp; omega))))⟩
instance (a : Int) : Decidable (Half a) := by unfold Half; exact inferInstance
def makeR (a b : Int) : Int × Int := if Half a ∧ Half b then (a * 2147483648 + b, 0) else (0, 3)
theorem zmake_any (a b : Int) (w : World) :
    Calls Tryz.prog 85 #[.int .i64 a, .int .i64 b] w fun e w' => e = .returned (.tuple #[.int .i64 (makeR a b).1, .int .i64 (makeR a b).2]) ∧ w = w' := by
  unfold makeR
  by_cases h : Half a ∧ Half b
  · rw [if_pos h]; exact zmake_ok a b w h.1 h.2
  · rw [if_neg h]; exact zmake_no a b w h
def readR (s : ByteArray) : Int × Int := if (cutR s).2.2 && (smallOk (bs (cutR s).1) && smallOk (bs (cutR s).2.1)) then makeR (smallV (bs (cutR s).1)) (smallV (bs (cutR s).2.1)) else (0, 2)
set_option maxHeartbeats 1000000 in
theorem read_any (s : ByteArray) (w : World) (hs : s.size ≤ 4611686018427387904) :
    Calls Tryz.prog 64 #[.string s] w fun e w' => e = .returned (.tuple #[.int .i64 (readR s).1, .int .i64 (readR s).2]) ∧ Below w.heap.size w w' := by
  have hz := cutR_size s
  have HC := Lib.hid (fun (W : World) => cut_any s W hs)
  have HA := Lib.hid (fun (W : World) => small_any (cutR s).1 W (by omega))
  have HB := Lib.hid (fun (W : World) => small_any (cutR s).2.1 W (by omega))
  have HM := Lib.hid (fun (W : World) => zmake_any (smallV (bs (cutR s).1)) (smallV (bs (cutR s).2.1)) W)
  unfold readR
  generalize makeR (smallV (bs (cutR s).1)) (smallV (bs (cutR s).2.1)) = mk at *
  generalize smallV (bs (cutR s).1) = va at *
  generalize smallV (bs (cutR s).2.1) = vb at *
  generalize smallOk (bs (cutR s).1) = oa at *
  generalize smallOk (bs (cutR s).2.1) = ob at *
  generalize cutR s = r at *
  obtain ⟨ra, rb, rok⟩ := r
  simp only at *
  clear hz
  cases rok with
  | false =>
    simp only [Bool.false_and, Bool.false_eq_true, if_false]
    go_enter Tryz.func64, Tryz.ntmps64
    go_wp2_with
      (first | (go_at_call 83; refine (HC.out _).mono ?_; rintro e w1 ⟨rfl, hb⟩; obtain ⟨ext1, d1, rfl⟩ := Below.grown_eq w (Below.own (by repeat (first | exact bA .. | assumption | refine bB ?_ | refine bC ?_ _ | refine bD _ _ ?_ | refine bE _ ?_ | refine bG ?_ (by first | omega | (simp; done) | (simp; omega)) _ | refine Below.setCell ?_ (by first | omega | (simp; done) | (simp; omega)) _ | refine Below.grow _ _ _ ?_ (by first | omega | (simp; done) | (simp; omega)))) hb); clear hb HC) | (go_at_call 84; refine (HA.out _).mono ?_; rintro e w1 ⟨rfl, hb⟩; obtain ⟨ext1, d1, rfl⟩ := Below.grown_eq w (Below.own (by repeat (first | exact bA .. | assumption | refine bB ?_ | refine bC ?_ _ | refine bD _ _ ?_ | refine bE _ ?_ | refine bG ?_ (by first | omega | (simp; done) | (simp; omega)) _ | refine Below.setCell ?_ (by first | omega | (simp; done) | (simp; omega)) _ | refine Below.grow _ _ _ ?_ (by first | omega | (simp; done) | (simp; omega)))) hb); clear hb HA) | (go_at_call 84; refine (HB.out _).mono ?_; rintro e w1 ⟨rfl, hb⟩; obtain ⟨ext1, d1, rfl⟩ := Below.grown_eq w (Below.own (by repeat (first | exact bA .. | assumption | refine bB ?_ | refine bC ?_ _ | refine bD _ _ ?_ | refine bE _ ?_ | refine bG ?_ (by first | omega | (simp; done) | (simp; omega)) _ | refine Below.setCell ?_ (by first | omega | (simp; done) | (simp; omega)) _ | refine Below.grow _ _ _ ?_ (by first | omega | (simp; done) | (simp; omega)))) hb); clear hb HB) | (go_at_call 85; refine (HM.out _).mono ?_; rintro e w1 ⟨rfl, rfl⟩; skip))
    go_ret2
    exact ⟨rfl, (by repeat (first | exact bA .. | assumption | refine bB ?_ | refine bC ?_ _ | refine bD _ _ ?_ | refine bE _ ?_ | refine bG ?_ (by first | omega | (simp; done) | (simp; omega)) _ | refine Below.setCell ?_ (by first | omega | (simp; done) | (simp; omega)) _ | refine Below.grow _ _ _ ?_ (by first | omega | (simp; done) | (simp; omega))))⟩
  | true =>
    cases oa with
    | false =>
      simp only [Bool.false_and, Bool.and_false, Bool.false_eq_true, if_false]
      go_enter Tryz.func64, Tryz.ntmps64
      go_wp2_with
        (first | (go_at_call 83; refine (HC.out _).mono ?_; rintro e w1 ⟨rfl, hb⟩; obtain ⟨ext1, d1, rfl⟩ := Below.grown_eq w (Below.own (by repeat (first | exact bA .. | assumption | refine bB ?_ | refine bC ?_ _ | refine bD _ _ ?_ | refine bE _ ?_ | refine bG ?_ (by first | omega | (simp; done) | (simp; omega)) _ | refine Below.setCell ?_ (by first | omega | (simp; done) | (simp; omega)) _ | refine Below.grow _ _ _ ?_ (by first | omega | (simp; done) | (simp; omega)))) hb); clear hb HC) | (go_at_call 84; refine (HA.out _).mono ?_; rintro e w1 ⟨rfl, hb⟩; obtain ⟨ext1, d1, rfl⟩ := Below.grown_eq w (Below.own (by repeat (first | exact bA .. | assumption | refine bB ?_ | refine bC ?_ _ | refine bD _ _ ?_ | refine bE _ ?_ | refine bG ?_ (by first | omega | (simp; done) | (simp; omega)) _ | refine Below.setCell ?_ (by first | omega | (simp; done) | (simp; omega)) _ | refine Below.grow _ _ _ ?_ (by first | omega | (simp; done) | (simp; omega)))) hb); clear hb HA) | (go_at_call 84; refine (HB.out _).mono ?_; rintro e w1 ⟨rfl, hb⟩; obtain ⟨ext1, d1, rfl⟩ := Below.grown_eq w (Below.own (by repeat (first | exact bA .. | assumption | refine bB ?_ | refine bC ?_ _ | refine bD _ _ ?_ | refine bE _ ?_ | refine bG ?_ (by first | omega | (simp; done) | (simp; omega)) _ | refine Below.setCell ?_ (by first | omega | (simp; done) | (simp; omega)) _ | refine Below.grow _ _ _ ?_ (by first | omega | (simp; done) | (simp; omega)))) hb); clear hb HB) | (go_at_call 85; refine (HM.out _).mono ?_; rintro e w1 ⟨rfl, rfl⟩; skip))
      go_ret2
      exact ⟨rfl, (by repeat (first | exact bA .. | assumption | refine bB ?_ | refine bC ?_ _ | refine bD _ _ ?_ | refine bE _ ?_ | refine bG ?_ (by first | omega | (simp; done) | (simp; omega)) _ | refine Below.setCell ?_ (by first | omega | (simp; done) | (simp; omega)) _ | refine Below.grow _ _ _ ?_ (by first | omega | (simp; done) | (simp; omega))))⟩
    | true =>
      cases ob with
      | false =>
        simp only [Bool.and_false, Bool.false_eq_true, if_false]
        go_enter Tryz.func64, Tryz.ntmps64
        go_wp2_with
          (first | (go_at_call 83; refine (HC.out _).mono ?_; rintro e w1 ⟨rfl, hb⟩; obtain ⟨ext1, d1, rfl⟩ := Below.grown_eq w (Below.own (by repeat (first | exact bA .. | assumption | refine bB ?_ | refine bC ?_ _ | refine bD _ _ ?_ | refine bE _ ?_ | refine bG ?_ (by first | omega | (simp; done) | (simp; omega)) _ | refine Below.setCell ?_ (by first | omega | (simp; done) | (simp; omega)) _ | refine Below.grow _ _ _ ?_ (by first | omega | (simp; done) | (simp; omega)))) hb); clear hb HC) | (go_at_call 84; refine (HA.out _).mono ?_; rintro e w1 ⟨rfl, hb⟩; obtain ⟨ext1, d1, rfl⟩ := Below.grown_eq w (Below.own (by repeat (first | exact bA .. | assumption | refine bB ?_ | refine bC ?_ _ | refine bD _ _ ?_ | refine bE _ ?_ | refine bG ?_ (by first | omega | (simp; done) | (simp; omega)) _ | refine Below.setCell ?_ (by first | omega | (simp; done) | (simp; omega)) _ | refine Below.grow _ _ _ ?_ (by first | omega | (simp; done) | (simp; omega)))) hb); clear hb HA) | (go_at_call 84; refine (HB.out _).mono ?_; rintro e w1 ⟨rfl, hb⟩; obtain ⟨ext1, d1, rfl⟩ := Below.grown_eq w (Below.own (by repeat (first | exact bA .. | assumption | refine bB ?_ | refine bC ?_ _ | refine bD _ _ ?_ | refine bE _ ?_ | refine bG ?_ (by first | omega | (simp; done) | (simp; omega)) _ | refine Below.setCell ?_ (by first | omega | (simp; done) | (simp; omega)) _ | refine Below.grow _ _ _ ?_ (by first | omega | (simp; done) | (simp; omega)))) hb); clear hb HB) | (go_at_call 85; refine (HM.out _).mono ?_; rintro e w1 ⟨rfl, rfl⟩; skip))
        go_ret2
        exact ⟨rfl, (by repeat (first | exact bA .. | assumption | refine bB ?_ | refine bC ?_ _ | refine bD _ _ ?_ | refine bE _ ?_ | refine bG ?_ (by first | omega | (simp; done) | (simp; omega)) _ | refine Below.setCell ?_ (by first | omega | (simp; done) | (simp; omega)) _ | refine Below.grow _ _ _ ?_ (by first | omega | (simp; done) | (simp; omega))))⟩
      | true =>
        simp only [Bool.and_self, if_true]
        go_enter Tryz.func64, Tryz.ntmps64
        go_wp2_with
          (first | (go_at_call 83; refine (HC.out _).mono ?_; rintro e w1 ⟨rfl, hb⟩; obtain ⟨ext1, d1, rfl⟩ := Below.grown_eq w (Below.own (by repeat (first | exact bA .. | assumption | refine bB ?_ | refine bC ?_ _ | refine bD _ _ ?_ | refine bE _ ?_ | refine bG ?_ (by first | omega | (simp; done) | (simp; omega)) _ | refine Below.setCell ?_ (by first | omega | (simp; done) | (simp; omega)) _ | refine Below.grow _ _ _ ?_ (by first | omega | (simp; done) | (simp; omega)))) hb); clear hb HC) | (go_at_call 84; refine (HA.out _).mono ?_; rintro e w1 ⟨rfl, hb⟩; obtain ⟨ext1, d1, rfl⟩ := Below.grown_eq w (Below.own (by repeat (first | exact bA .. | assumption | refine bB ?_ | refine bC ?_ _ | refine bD _ _ ?_ | refine bE _ ?_ | refine bG ?_ (by first | omega | (simp; done) | (simp; omega)) _ | refine Below.setCell ?_ (by first | omega | (simp; done) | (simp; omega)) _ | refine Below.grow _ _ _ ?_ (by first | omega | (simp; done) | (simp; omega)))) hb); clear hb HA) | (go_at_call 84; refine (HB.out _).mono ?_; rintro e w1 ⟨rfl, hb⟩; obtain ⟨ext1, d1, rfl⟩ := Below.grown_eq w (Below.own (by repeat (first | exact bA .. | assumption | refine bB ?_ | refine bC ?_ _ | refine bD _ _ ?_ | refine bE _ ?_ | refine bG ?_ (by first | omega | (simp; done) | (simp; omega)) _ | refine Below.setCell ?_ (by first | omega | (simp; done) | (simp; omega)) _ | refine Below.grow _ _ _ ?_ (by first | omega | (simp; done) | (simp; omega)))) hb); clear hb HB) | (go_at_call 85; refine (HM.out _).mono ?_; rintro e w1 ⟨rfl, rfl⟩; skip))
        go_ret2
        exact ⟨rfl, (by repeat (first | exact bA .. | assumption | refine bB ?_ | refine bC ?_ _ | refine bD _ _ ?_ | refine bE _ ?_ | refine bG ?_ (by first | omega | (simp; done) | (simp; omega)) _ | refine Below.setCell ?_ (by first | omega | (simp; done) | (simp; omega)) _ | refine Below.grow _ _ _ ?_ (by first | omega | (simp; done) | (simp; omega))))⟩
end Go.Proofs.YtchgpijfebilbaaGreatDoor

/- A zxid from its text, and back: plain laws. -/
namespace Go.Proofs.YtchgpijfebilbaaGreatDoor
open Go.RowKit
end Go.Proofs.YtchgpijfebilbaaGreatDoor

/- zxid.Epoch, whatever the number. -/
namespace Go.Proofs.YtchgpijfebilbaaGreatDoor
open Go.RowKit Go.ChangeShapes Go.WideShapes Go.ChangeAt
def epochZ (a : Int) : Int := if 0 ≤ a ∧ a < 4611686018427387904 then a / 2147483648 else 0
theorem zepoch_any (a : Int) (w : World) :
    Calls Tryz.prog 65 #[.int .i64 a] w fun e w' => e = .returned (.int .i64 (epochZ a)) ∧ w = w' := by
  unfold epochZ
  by_cases h : 0 ≤ a ∧ a < 4611686018427387904
  · rw [if_pos h]; exact zepoch_ok a w h
  · rw [if_neg h]; exact zepoch_no a w h
end Go.Proofs.YtchgpijfebilbaaGreatDoor

/- store.Epoch, tree.New. -/
namespace Go.Proofs.YtchgpijfebilbaaGreatDoor
open Go.RowKit Go.ChangeShapes Go.WideShapes Go.ChangeAt
abbrev epN : ByteArray := ⟨#[101, 112, 111, 99, 104]⟩
def epochF (f : List File) : Int := if readE f epN = 0 then (if (readR (readS f epN)).2 = 0 then epochZ (readR (readS f epN)).1 else 0) else 0
set_option maxHeartbeats 1000000 in
theorem storeEpoch (v : Value) (f : List File) (w : World) (h : Sl cFile 3 w v f) (hz : ∀ x ∈ f, x.sized) :
    Calls Tryz.prog 33 #[.agg #[v]] w fun e w' => e = .returned (.int .i64 (epochF f)) ∧ Below w.heap.size w w' := by
  obtain ⟨A, c, rfl, hc1, hc2⟩ := h.form
  have H := Lib.hid h
  have HR := Lib.hid (fun (W : World) (v : Value) (h : Sl cFile 3 W v f) => dkRead v f epN W h hz)
  unfold epochF
  by_cases h0 : readE f epN = 0
  · have hs := readS_size h0
    rw [if_pos h0]
    rw [h0] at HR
    generalize readS f epN = s at *
    have HZ := Lib.hid (fun (W : World) => read_any s W (by omega))
    have HEP := Lib.hid (fun (W : World) => zepoch_any (readR s).1 W)
    clear h hz h0
    by_cases h1 : (readR s).2 = 0
    · rw [if_pos h1]
      rw [h1] at HZ
      generalize (readR s).1 = z at *
      generalize epochZ z = ep at *
      clear h1
      go_enter Tryz.func33, Tryz.ntmps33
      go_wp2_with (first | (go_at_call 63; refine (HR.out _ _ (H.out.below (by repeat (first | exact bA .. | assumption | refine bB ?_ | refine bC ?_ _ | refine bD _ _ ?_ | refine bE _ ?_ | refine bG ?_ (by first | omega | (simp; done) | (simp; omega)) _ | refine Below.setCell ?_ (by first | omega | (simp; done) | (simp; omega)) _ | refine Below.grow _ _ _ ?_ (by first | omega | (simp; done) | (simp; omega)))))).mono ?_; rintro e w1 ⟨rfl, hb1⟩; obtain ⟨ext1, d1, rfl⟩ := Below.grown_eq _ hb1; clear hb1) | (go_at_call 64; refine (HZ.out _).mono ?_; rintro e w2 ⟨rfl, hb2⟩; obtain ⟨ext2, d2, rfl⟩ := Below.grown_eq _ hb2; clear hb2) | (go_at_call 65; refine (HEP.out _).mono ?_; rintro e w3 ⟨rfl, rfl⟩; skip))
      go_ret
      exact ⟨rfl, (by repeat (first | exact bA .. | assumption | refine bB ?_ | refine bC ?_ _ | refine bD _ _ ?_ | refine bE _ ?_ | refine bG ?_ (by first | omega | (simp; done) | (simp; omega)) _ | refine Below.setCell ?_ (by first | omega | (simp; done) | (simp; omega)) _ | refine Below.grow _ _ _ ?_ (by first | omega | (simp; done) | (simp; omega))))⟩
    · have hne : ((readR s).2 != 0) = true := bne_iff_ne.2 h1
      rw [if_neg h1]
      generalize (readR s).1 = z at *
      generalize (readR s).2 = q at *
      clear h1
      go_enter Tryz.func33, Tryz.ntmps33
      go_wp2_with (first | (go_at_call 63; refine (HR.out _ _ (H.out.below (by repeat (first | exact bA .. | assumption | refine bB ?_ | refine bC ?_ _ | refine bD _ _ ?_ | refine bE _ ?_ | refine bG ?_ (by first | omega | (simp; done) | (simp; omega)) _ | refine Below.setCell ?_ (by first | omega | (simp; done) | (simp; omega)) _ | refine Below.grow _ _ _ ?_ (by first | omega | (simp; done) | (simp; omega)))))).mono ?_; rintro e w1 ⟨rfl, hb1⟩; obtain ⟨ext1, d1, rfl⟩ := Below.grown_eq _ hb1; clear hb1) | (go_at_call 64; refine (HZ.out _).mono ?_; rintro e w2 ⟨rfl, hb2⟩; obtain ⟨ext2, d2, rfl⟩ := Below.grown_eq _ hb2; clear hb2))
      go_ret
      exact ⟨rfl, (by repeat (first | exact bA .. | assumption | refine bB ?_ | refine bC ?_ _ | refine bD _ _ ?_ | refine bE _ ?_ | refine bG ?_ (by first | omega | (simp; done) | (simp; omega)) _ | refine Below.setCell ?_ (by first | omega | (simp; done) | (simp; omega)) _ | refine Below.grow _ _ _ ?_ (by first | omega | (simp; done) | (simp; omega))))⟩
  · have hne : (readE f epN != 0) = true := bne_iff_ne.2 h0
    rw [if_neg h0]
    generalize readE f epN = q at *
    generalize readS f epN = s at *
    clear h hz h0
    go_enter Tryz.func33, Tryz.ntmps33
    go_wp2_with ((go_at_call 63; refine (HR.out _ _ (H.out.below (by repeat (first | exact bA .. | assumption | refine bB ?_ | refine bC ?_ _ | refine bD _ _ ?_ | refine bE _ ?_ | refine bG ?_ (by first | omega | (simp; done) | (simp; omega)) _ | refine Below.setCell ?_ (by first | omega | (simp; done) | (simp; omega)) _ | refine Below.grow _ _ _ ?_ (by first | omega | (simp; done) | (simp; omega)))))).mono ?_; rintro e w1 ⟨rfl, hb1⟩; obtain ⟨ext1, d1, rfl⟩ := Below.grown_eq _ hb1; clear hb1))
    go_ret
    exact ⟨rfl, (by repeat (first | exact bA .. | assumption | refine bB ?_ | refine bC ?_ _ | refine bD _ _ ?_ | refine bE _ ?_ | refine bG ?_ (by first | omega | (simp; done) | (simp; omega)) _ | refine Below.setCell ?_ (by first | omega | (simp; done) | (simp; omega)) _ | refine Below.grow _ _ _ ?_ (by first | omega | (simp; done) | (simp; omega))))⟩
end Go.Proofs.YtchgpijfebilbaaGreatDoor

/- tree.New. -/
namespace Go.Proofs.YtchgpijfebilbaaGreatDoor
open Go.RowKit Go.ChangeShapes Go.WideShapes Go.ChangeAt
def NewRes (w : World) (e : Ending) (w' : World) : Prop := ∃ A c, e = .returned (.agg #[.int .i64 0, .slice A 1 c, .slice none 0 0]) ∧ Ow cNode 9 68 w' w.heap.size (.slice A 1 c) [rootN] ∧ Below w.heap.size w w'
theorem treeNew (w : World) : Calls Tryz.prog 12 #[] w (NewRes w) := by
  go_enter Tryz.func12, Tryz.ntmps12
  go_wp2_with fail
  refine bodyPost_ret (v := .agg #[.int .i64 0, .slice (some ⟨w.heap.size + 1, 0, none⟩) 1 1, .slice none 0 0]) (by simp [results, Tryz.results12, go_sem]) rfl ⟨some ⟨w.heap.size + 1, 0, none⟩, 1, rfl, ?_, (by repeat (first | exact bA .. | assumption | refine bB ?_ | refine bC ?_ _ | refine bD _ _ ?_ | refine bE _ ?_ | refine bG ?_ (by first | omega | (simp; done) | (simp; omega)) _ | refine Below.setCell ?_ (by first | omega | (simp; done) | (simp; omega)) _ | refine Below.grow _ _ _ ?_ (by first | omega | (simp; done) | (simp; omega))))⟩
  exact Ow.one_at cNode 9 _ rootN _ rfl _ rfl (by simp) (by simp)
end Go.Proofs.YtchgpijfebilbaaGreatDoor

/- store.Boot, store.Crash. -/
namespace Go.Proofs.YtchgpijfebilbaaGreatDoor
open Go.RowKit Go.ChangeShapes Go.WideShapes Go.ChangeAt
def BootIs (id : Int) (f : List File) (s : Srv) (c : Int) : Prop := ∃ L f', RecIs f L f' c ∧ ((c = 0 ∧ s = ⟨true, f', id, epochF f, L, 0, 0, [rootN], [], []⟩) ∨ (c ≠ 0 ∧ s = noSrv))
def BootRes (p : Nat → Prop) (id : Int) (f : List File) (w : World) (e : Ending) (w' : World) : Prop := ∃ s c, BootIs id f s c ∧ SrvRes p s c w e w'
set_option maxRecDepth 100000 in
set_option maxHeartbeats 2000000 in
theorem storeBoot (p : Nat → Prop) (id : Int) (v : Value) (f : List File) (w : World) (h : Sl cFile 3 w v f) (hp : ∀ q, p q → q < w.heap.size) (hz : ∀ x ∈ f, x.sized) (h0 : 0 ≤ id) (h3 : id < 3) :
    Calls Tryz.prog 15 #[.int .i64 id, .agg #[v]] w (BootRes p id f w) := by
  obtain ⟨A, c, rfl, hc1, hc2⟩ := h.form
  have H := Lib.hid h
  have HP := Lib.hid hp
  have HE := Lib.hid (fun (W : World) (h : Sl cFile 3 W (.slice A f.length c) f) => storeEpoch _ f W h hz)
  have HR := Lib.hid (fun (W : World) (h : Sl cFile 3 W (.slice A f.length c) f) => recover_any _ f W h hz)
  have HB := Lib.hid (fun (L : List Txn) (f' : List File) (c : Int) (hr : RecIs f L f' c) (hc : c = 0) => show BootIs id f ⟨true, f', id, epochF f, L, 0, 0, [rootN], [], []⟩ c from ⟨L, f', hr, .inl ⟨hc, rfl⟩⟩)
  have HB2 := Lib.hid (fun (L : List Txn) (f' : List File) (c : Int) (hr : RecIs f L f' c) (hc : c ≠ 0) => show BootIs id f noSrv c from ⟨L, f', hr, .inr ⟨hc, rfl⟩⟩)
  generalize epochF f = ep at *
  have hd1 : decide (id < 0) = false := decide_eq_false (by omega)
  have hd2 : decide (3 ≤ id) = false := decide_eq_false (by omega)
  clear h hz hp
  go_enter Tryz.func15, Tryz.ntmps15
  go_upto_region 5 with (first | (go_at_call 33; refine (HE.out _ (H.out.below (by repeat (first | with_reducible (first | exact bA .. | assumption | exact bJ .. | exact bK .. | exact bL .. | exact bM .. | exact bN .. | refine bB ?_ | refine bC ?_ _ | refine bD _ _ ?_ | refine bE _ ?_ | refine bF ?_ ?_ _ | refine bG ?_ ?_ _ | refine bH _ _ _ ?_ ?_) | omega | (simp; done) | (simp; omega))))).mono ?_; rintro e w1 ⟨rfl, hb1⟩; obtain ⟨ext1, d1, rfl⟩ := Below.grown_eq _ hb1; clear hb1) | (go_at_call 34; refine (HR.out _ (H.out.below (by repeat (first | with_reducible (first | exact bA .. | assumption | exact bJ .. | exact bK .. | exact bL .. | exact bM .. | exact bN .. | refine bB ?_ | refine bC ?_ _ | refine bD _ _ ?_ | refine bE _ ?_ | refine bF ?_ ?_ _ | refine bG ?_ ?_ _ | refine bH _ _ _ ?_ ?_) | omega | (simp; done) | (simp; omega))))).mono ?_; rintro e w1 ⟨A2, c2, L, B, k, d, code, rfl, hr, ho2, ho3, hb2⟩; obtain ⟨ext2, d2, rfl⟩ := Below.grown_eq _ hb2; have HO2 := Lib.hid ho2; have HO3 := Lib.hid ho3; have HI := Lib.hid hr; clear ho2 ho3 hb2 hr HR))
  by_cases hc : code = 0
  · subst hc
    have HF := Lib.hid (HB.out L d 0 HI.out rfl)
    clear HB HB2 HI
    go_wp2_with fail
    refine wp_region_noPanic ?_
    refine wp_region_W (by kernel_rfl) (fun W hW => ?_)
    have cl0 : W.cell? ⟨w.heap.size, 0, none⟩ = some (.slice B d.length k) := by rw [hW.out]; go_simp
    refine wpAny_S (fun w' => w'.cell? ⟨w.heap.size, 0, none⟩ = some (.slice B d.length k)) (fun i => i == 7) (by (try dsimp only); go_simp) (fun hHeld => ?_)
    (refine wpE_take (i := 0) (v := ?gV1_1) (by simp only [zD]; rfl) (by kernel_rfl) (by kernel_rfl) (by kernel_rfl) (by kernel_rfl) (by kernel_rfl) (by rfl) (fun _ _ _ h => h) (Or.inl ⟨by rfl, ?gY1_1⟩) (by assumption) ?gR1_1; case gY1_1 => (intro w hSw; (try dsimp only at hSw); go_simp <;> with_reducible rfl))
    try simp only [Act.put, zA, zB, zC]
    (refine wpE_takeP (i := 1) (v := ?gV1_2) (by simp only [zD]; rfl) (by kernel_rfl) (by kernel_rfl) (by kernel_rfl) (by rfl) (fun _ _ _ h => h) (Or.inl ⟨by rfl, ?gY1_2⟩) (by assumption) ?gR1_2; case gY1_2 => (intro w hSw; (try dsimp only at hSw); go_simp <;> with_reducible rfl))
    try simp only [Act.put, zA, zB, zC]
    (refine wpE_takeP (i := 2) (v := ?gV1_3) (by simp only [zD]; rfl) (by kernel_rfl) (by kernel_rfl) (by kernel_rfl) (by rfl) (fun _ _ _ h => h) (Or.inl ⟨by rfl, ?gY1_3⟩) (by assumption) ?gR1_3; case gY1_3 => (intro w hSw; (try dsimp only at hSw); go_simp <;> with_reducible rfl))
    try simp only [Act.put, zA, zB, zC]
    (refine wpE_takeP (i := 3) (v := ?gV1_4) (by simp only [zD]; rfl) (by kernel_rfl) (by kernel_rfl) (by kernel_rfl) (by rfl) (fun _ _ _ h => h) (Or.inl ⟨by rfl, ?gY1_4⟩) (by assumption) ?gR1_4; case gY1_4 => (intro w hSw; (try dsimp only at hSw); go_simp <;> with_reducible rfl))
    try simp only [Act.put, zA, zB, zC]
    (refine wpE_takeP (i := 4) (v := ?gV1_5) (by simp only [zD]; rfl) (by kernel_rfl) (by kernel_rfl) (by kernel_rfl) (by rfl) (fun _ _ _ h => h) (Or.inl ⟨by rfl, ?gY1_5⟩) (by assumption) ?gR1_5; case gY1_5 => (intro w hSw; (try dsimp only at hSw); go_simp <;> with_reducible rfl))
    try simp only [Act.put, zA, zB, zC]
    refine wpE_ready (rs := [5]) (by kernel_rfl) (by simp) ?_
    refine AllE.cons (by simp only [zD]; rfl) (fun K hK => ?_) AllE.nil
    go_simp
    (go_at_call 12; refine (treeNew _).mono ?_; rintro e w3 ⟨A3, c3, rfl, ho4, hb3⟩; obtain ⟨ext3, d3, rfl⟩ := Below.grown_eq W (Below.own (by repeat (first | with_reducible (first | exact bA .. | assumption | exact bJ .. | exact bK .. | exact bL .. | exact bM .. | exact bN .. | refine bB ?_ | refine bC ?_ _ | refine bD _ _ ?_ | refine bE _ ?_ | refine bF ?_ ?_ _ | refine bG ?_ ?_ _ | refine bH _ _ _ ?_ ?_) | omega | (simp; done) | (simp; omega))) hb3); have HO4 := Lib.hid ho4; clear ho4 hb3; have hWW := hW.out; subst hWW)
    refine hK.out _ _ ?gT1_6 (fun hHeld => ?_)
    case gT1_6 => ((try dsimp only); go_simp)
    clear hK K
    try simp only [Act.put, zA, zB, zC]
    (refine wpE_takeP (i := 6) (v := ?gV1_7) (by simp only [zD]; rfl) (by kernel_rfl) (by kernel_rfl) (by kernel_rfl) (by rfl) (fun _ _ _ h => h) (Or.inl ⟨by rfl, ?gY1_7⟩) (by assumption) ?gR1_7; case gY1_7 => (intro w hSw; (try dsimp only at hSw); go_simp <;> with_reducible rfl))
    try simp only [Act.put, zA, zB, zC]
    refine wpE_ready (rs := [7]) (by kernel_rfl) (by simp) ?_
    refine AllE.last (by simp only [zD]; rfl) (by kernel_rfl) (fun K hK => ?_) AllE.nil
    go_simp
    refine hK.out _ _ ?_
    clear hK K
    try simp only [Act.put, zA, zB, zC]
    (refine wpE_takeQ (i := 8) (v := ?gV1_9) (by simp only [zD]; rfl) (by kernel_rfl) (by kernel_rfl) (by kernel_rfl) (by rfl) (fun _ _ _ h => h) (Or.inl ⟨by rfl, ?gY1_9⟩) (by kernel_rfl) ?gR1_9; case gY1_9 => (intro w hSw; (try dsimp only at hSw); go_simp <;> with_reducible rfl))
    try simp only [Act.put, zA, zB, zC]
    refine wpE_done (by kernel_rfl) ?_ _
    refine NoPanic.normal ?_
    go_wp2_with fail
    refine bodyPost_ret (v := .tuple #[vSrv ⟨true, d, id, ep, L, 0, 0, [rootN], [], []⟩ ⟨B, k, A2, c2, A3, c3, none, 0, none, 0⟩, .int .i64 0]) (by simp [results, Tryz.results15, go_sem]) rfl ⟨⟨true, d, id, ep, L, 0, 0, [rootN], [], []⟩, 0, HF.out, ⟨B, k, A2, c2, A3, c3, none, 0, none, 0⟩, rfl, ⟨?_, ?_, ?_, SlA.nil _ _ _ _, SlA.nil _ _ _ _⟩, (by repeat (first | with_reducible (first | exact bA .. | assumption | exact bJ .. | exact bK .. | exact bL .. | exact bM .. | exact bN .. | refine bB ?_ | refine bC ?_ _ | refine bD _ _ ?_ | refine bE _ ?_ | refine bF ?_ ?_ _ | refine bG ?_ ?_ _ | refine bH _ _ _ ?_ ?_) | omega | (simp; done) | (simp; omega)))⟩
    · refine Ow.sla (Ow.moved (W' := ?w1) (d' := ?x1) HO3.out (Nat.le_refl _) ?b1 ?z1) (fun q hq => Nat.lt_of_lt_of_le (HP.out q hq) (by simp; omega))
      case b1 => exact (by repeat (first | with_reducible (first | exact bA .. | assumption | exact bJ .. | exact bK .. | exact bL .. | exact bM .. | exact bN .. | refine bB ?_ | refine bC ?_ _ | refine bD _ _ ?_ | refine bE _ ?_ | refine bF ?_ ?_ _ | refine bG ?_ ?_ _ | refine bH _ _ _ ?_ ?_) | omega | (simp; done) | (simp; omega)))
      case z1 => simp
    · refine Ow.sla (Ow.moved (W' := ?w2) (d' := ?x2) HO2.out (Nat.le_refl _) ?b2 ?z2) (fun q hq => Nat.lt_of_lt_of_le (HP.out q hq) (by simp; omega))
      case b2 => exact (by repeat (first | with_reducible (first | exact bA .. | assumption | exact bJ .. | exact bK .. | exact bL .. | exact bM .. | exact bN .. | refine bB ?_ | refine bC ?_ _ | refine bD _ _ ?_ | refine bE _ ?_ | refine bF ?_ ?_ _ | refine bG ?_ ?_ _ | refine bH _ _ _ ?_ ?_) | omega | (simp; done) | (simp; omega)))
      case z2 => simp
    · refine Ow.sla (Ow.moved (W' := ?w3) (d' := ?x3) HO4.out (Nat.le_refl _) ?b3 ?z3) (fun q hq => Nat.lt_of_lt_of_le (HP.out q hq) (by simp; omega))
      case b3 => exact (by repeat (first | with_reducible (first | exact bA .. | assumption | exact bJ .. | exact bK .. | exact bL .. | exact bM .. | exact bN .. | refine bB ?_ | refine bC ?_ _ | refine bD _ _ ?_ | refine bE _ ?_ | refine bF ?_ ?_ _ | refine bG ?_ ?_ _ | refine bH _ _ _ ?_ ?_) | omega | (simp; done) | (simp; omega)))
      case z3 => simp
  · have hne : (code != 0) = true := bne_iff_ne.2 hc
    have HF := Lib.hid (HB2.out L d code HI.out hc)
    clear HB HB2 HI hc
    go_wp2_with fail
    refine bodyPost_ret (v := .tuple #[vSrv noSrv noSrvV, .int .i64 code]) (by simp [results, Tryz.results15, go_sem]) rfl ⟨noSrv, code, HF.out, noSrvV, rfl, noSrv_in _ _, (by repeat (first | with_reducible (first | exact bA .. | assumption | exact bJ .. | exact bK .. | exact bL .. | exact bM .. | exact bN .. | refine bB ?_ | refine bC ?_ _ | refine bD _ _ ?_ | refine bE _ ?_ | refine bF ?_ ?_ _ | refine bG ?_ ?_ _ | refine bH _ _ _ ?_ ?_) | omega | (simp; done) | (simp; omega)))⟩
end Go.Proofs.YtchgpijfebilbaaGreatDoor

/- Arguments that hold slices in structs, or slices of slices: what a reading says of them, down to the leaves. No program is in sight but by variable. -/
namespace Go.Proofs.YtchgpijfebilbaaGreatDoor
open Go.RowKit Go.ChangeShapes Go.WideShapes Go.Deep
set_option linter.unusedVariables false
def Deep (P : Program) (w : World) : Nat → TypeId → List Value → Prop
  | 0, _, _ => True
  | n + 1, t, cs => match P.underlying t with
    | some .bool => ∃ b, cs = [.bool b]
    | some (.int k) => ∃ m, cs = [.int k m] ∧ (Lit.int k m).wf = true
    | some .string => ∃ s : ByteArray, cs = [.string s] ∧ s.size ≤ reachBytes
    | some (.struct fs) => cs.length = P.cellsOf t ∧ ∀ (i : Nat) (f : Field), fs[i]? = some f → Deep P w n f.type ((cs.drop f.offset).take (P.cellsOf f.type))
    | some (.slice e) => ∃ v xs, cs = [v] ∧ (0 < P.cellsOf e → Row w (P.cellsOf e) v xs) ∧ xs.length * P.bytesOf e ≤ reachBytes ∧ ∀ x ∈ xs, Deep P w n e x
    | _ => True
section
variable {H : Type} {enc : TypeId × Value → H} {P : Program} {w : World} {spare : Nat → Bool} {held : Bool}
theorem weightsAll_mem {e : TypeId} : ∀ {l : List (DataW H)} {d : DataW H}, d ∈ l → ∀ m ∈ d.weights P e, m ∈ DataW.weightsAll P e l
  | x :: l, d, h, m, hm => by
    simp only [DataW.weightsAll, List.mem_append]
    rcases List.mem_cons.1 h with rfl | h
    · exact .inl hm
    · exact .inr (weightsAll_mem h m hm)
theorem row_of_cells {e : TypeId} {a : Addr} {len cap : Nat} {Q : List Value → Prop} (h0 : 0 < P.cellsOf e) (hl : len ≤ cap) (hm : cap ≤ maxLen) (ha : 0 < len → a.block < w.heap.size)
    (hex : ∀ i, i < len → ∃ cs', w.cells? 0 (a.add (i * P.cellsOf e)) (P.cellsOf e) = some cs' ∧ Q cs') :
    ∃ xs : List (List Value), xs.length = len ∧ Row w (P.cellsOf e) (.slice (some a) len cap) xs ∧ ∀ x ∈ xs, Q x := by
  have hch : ∃ g : Nat → List Value, ∀ i, i < len → w.cells? 0 (a.add (i * P.cellsOf e)) (P.cellsOf e) = some (g i) ∧ Q (g i) :=
    ⟨fun i => if h : i < len then Classical.choose (hex i h) else [], fun i hil => by simp only [hil, dif_pos]; exact Classical.choose_spec (hex i hil)⟩
  obtain ⟨g, hg⟩ := hch
  have hg1 : ∀ i, i < len → (g i).length = P.cellsOf e ∧ ∀ j u, (g i)[j]? = some u → w.cell? (a.add (i * P.cellsOf e + j)) = some u := by
    intro i hi
    obtain ⟨_, hcl, hat⟩ := World.cells?_some (hg i hi).1
    refine ⟨hcl, fun j u hu => ?_⟩
    have hj : j < P.cellsOf e := by have := (List.getElem?_eq_some_iff.1 hu).1; omega
    rw [← Go.Deep.add_add, hat j hj, hu]
  refine ⟨(List.range len).map g, by simp, ⟨some a, cap, by simp, by simpa using hl, hm, ?_, ?_⟩, ?_⟩
  · intro x hx
    simp at hx
    obtain ⟨i, hil, rfl⟩ := hx
    exact (hg1 i hil).1
  · intro hpos
    simp at hpos
    have h00 : ∃ u, w.cell? a = some u := by
      obtain ⟨h01, h02⟩ := hg1 0 hpos
      have hu : (g 0)[0]? = some ((g 0)[0]'(by omega)) := List.getElem?_eq_getElem _
      exact ⟨_, by simpa [add_zero'] using h02 0 _ hu⟩
    obtain ⟨u0, hu0⟩ := h00
    have hsp := spot_none hu0
    refine ⟨a.block, a.off, by rw [← hsp], ha hpos, ?_⟩
    intro i x hx j u hu
    have hil : i < len := by have := (List.getElem?_eq_some_iff.1 hx).1; simpa using this
    simp [hil] at hx
    subst hx
    have := (hg1 i hil).2 j u hu
    rw [hsp] at this
    have hadd : (⟨a.block, a.off, none⟩ : Addr).add (i * P.cellsOf e + j) = ⟨a.block, a.off + i * P.cellsOf e + j, none⟩ := by
      unfold Addr.add
      split
      · rename_i h0'; rw [Nat.add_assoc, h0']; rfl
      · rw [Nat.add_assoc]
    rwa [hadd] at this
  · intro x hx
    simp at hx
    obtain ⟨i, hil, rfl⟩ := hx
    exact (hg i hil).2
theorem deep_trod : ∀ (n : Nat) {t : TypeId} {fuel : Nat} {cs : List Value} {d : DataW H} {pl : List MemPlace}, DataW.trod enc P w 0 spare held fuel t cs = some (d, pl) →
    (∀ m ∈ d.weights P t, m ≤ reachBytes) → Deep P w n t cs
  | 0, _, _, _, _, _, _, _ => trivial
  | n + 1, t, fuel, cs, d, pl, hx, hw => by
    unfold Deep
    split
    · rename_i hu
      obtain ⟨b, rfl, _⟩ := DataW.trod_bool hu hx
      exact ⟨b, rfl⟩
    · rename_i k hu
      obtain ⟨m, rfl, _, hm⟩ := DataW.trod_int hu hx
      exact ⟨m, rfl, hm⟩
    · rename_i hu
      obtain ⟨s, rfl, hd, hm⟩ := DataW.trod_string hu hx
      injection hd with hd _
      subst hd
      exact ⟨s, rfl, by simpa [DataW.weights] using hw⟩
    · rename_i fs hu
      obtain ⟨xs, m, _, hd, hlen, hxl, hf⟩ := DataW.trod_struct hu hx
      injection hd with hd _
      subst hd
      refine ⟨hlen, fun i f hif => ?_⟩
      have hi : i < xs.length := by have := (Array.getElem?_eq_some_iff.1 hif).1; omega
      have hy : xs[i]? = some xs[i] := List.getElem?_eq_getElem hi
      have h1 := hf i f hif
      rw [hy] at h1
      refine deep_trod n (d := xs[i].1) (pl := xs[i].2) h1 fun m hm => hw m ?_
      simp only [DataW.weights, hu]
      exact DataW.weights_mem_each (j := i) (t := f.type) (d := xs[i].1) (by simp [hif]) (by simp [hy]) m hm
    · rename_i e hu
      rcases Go.Deep.open_slice hu hx with ⟨rfl, hx'⟩ | ⟨a, len, cap, m, fu, D, Pl, rfl, _, hl, hm, hmm, hx', hi⟩
      · exact ⟨_, [], rfl, fun _ => Row.nil _ _, by simp, by simp⟩
      · injection hx' with hd hpl
        subst hd
        have hml : len ≤ m := by rw [hmm]; split <;> omega
        have hwt : (len + (m - len)) * P.bytesOf e ≤ reachBytes := hw _ (by simp [DataW.weights, hu])
        have hwt' : len * P.bytesOf e ≤ reachBytes := Nat.le_trans (Nat.mul_le_mul_right _ (Nat.le_add_right _ _)) hwt
        have hel : ∀ i, i < len → ∃ cs', w.cells? 0 (a.add (i * P.cellsOf e)) (P.cellsOf e) = some cs' ∧ Deep P w n e cs' := by
          intro i hil
          obtain ⟨cs', hc', ht'⟩ := hi i (by omega)
          refine ⟨cs', hc', deep_trod n ht' fun q hq => hw q ?_⟩
          simp only [DataW.weights, hu]
          refine List.mem_cons_of_mem _ (List.mem_append.2 (.inl ?_))
          exact weightsAll_mem (List.mem_map.2 ⟨i, List.mem_range.2 hil, rfl⟩) q hq
        by_cases h0 : 0 < P.cellsOf e
        · have hb : 0 < len → a.block < w.heap.size := by
            intro hpos
            have hp : MemPlace.cell a.block a.off ∈ pl := by
              rw [hpl]
              refine List.mem_append.2 (.inl ?_)
              have hpos' : 0 < m * P.cellsOf e := Nat.mul_pos (by omega) h0
              simp only [MemPlace.row, List.mem_map, List.mem_range]
              exact ⟨0, hpos', by simp⟩
            exact DataW.trod_lt _ _ _ _ hx _ hp
          obtain ⟨xs, hxs, hrow, hall⟩ := row_of_cells h0 hl hm hb hel
          exact ⟨_, xs, rfl, fun _ => hrow, by rw [hxs]; exact hwt', hall⟩
        · exact ⟨_, [], rfl, fun h => absurd h h0, by simp, by simp⟩
    · trivial
theorem open_deep {t : TypeId} {v : Value} {d : DataW H} {p : List MemPlace} (n : Nat) (h : DataW.Trod enc P w 0 spare held t v d p) (hw : ∀ m ∈ d.weights P t, m ≤ reachBytes) : Deep P w n t v.cells.toList := by
  obtain ⟨fuel, hf⟩ := h
  exact deep_trod n hf hw
theorem sized_arg {ts : List TypeId} {ds : List (DataW H)} (h : (DataW.weightsEach P ts ds).all (· ≤ reachBytes) = true) (j : Nat) {t : TypeId} {d : DataW H} (ht : ts[j]? = some t) (hd : ds[j]? = some d) :
    ∀ m ∈ d.weights P t, m ≤ reachBytes := fun m hm => by
  have := List.all_eq_true.1 h _ (DataW.weights_mem_each ht hd m hm)
  simpa using this
end
section
variable {P : Program} {w : World} {n : Nat} {t : TypeId} {cs : List Value}
theorem deep_int {k : IntKind} (hu : P.underlying t = some (.int k)) (h : Deep P w (n + 1) t cs) : ∃ m, cs = [.int k m] ∧ (Lit.int k m).wf = true := by unfold Deep at h; rw [hu] at h; exact h
theorem deep_string (hu : P.underlying t = some .string) (h : Deep P w (n + 1) t cs) : ∃ s : ByteArray, cs = [.string s] ∧ s.size ≤ reachBytes := by unfold Deep at h; rw [hu] at h; exact h
theorem deep_struct {fs : Array Field} (hu : P.underlying t = some (.struct fs)) (h : Deep P w (n + 1) t cs) : cs.length = P.cellsOf t ∧ ∀ (i : Nat) (f : Field), fs[i]? = some f → Deep P w n f.type ((cs.drop f.offset).take (P.cellsOf f.type)) := by unfold Deep at h; rw [hu] at h; exact h
theorem deep_slice {e : TypeId} (hu : P.underlying t = some (.slice e)) (h : Deep P w (n + 1) t cs) : ∃ v xs, cs = [v] ∧ (0 < P.cellsOf e → Row w (P.cellsOf e) v xs) ∧ xs.length * P.bytesOf e ≤ reachBytes ∧ ∀ x ∈ xs, Deep P w n e x := by unfold Deep at h; rw [hu] at h; exact h
end
theorem deep_at {P : Program} {w : World} {n : Nat} {cs : List Value} {fs : Array Field} (hf : ∀ (i : Nat) (f : Field), fs[i]? = some f → Deep P w n f.type ((cs.drop f.offset).take (P.cellsOf f.type))) (i : Nat) (t : TypeId) (off c : Nat)
    (ht : (fs[i]?).map (fun f => (f.type, f.offset)) = some (t, off)) (hc : P.cellsOf t = c) : Deep P w n t ((cs.drop off).take c) := by
  simp only [Option.map_eq_some_iff, Prod.mk.injEq] at ht
  obtain ⟨f, h0, rfl, rfl⟩ := ht
  subst hc
  exact hf i f h0
end Go.Proofs.YtchgpijfebilbaaGreatDoor

/- A disk that comes from outside, opened. -/
namespace Go.Proofs.YtchgpijfebilbaaGreatDoor
open Go.RowKit Go.ChangeShapes Go.WideShapes Go.ChangeAt
end Go.Proofs.YtchgpijfebilbaaGreatDoor

/- The law WalKeeps is true for every input; no conditions. -/
namespace Go.Proofs.YtchgpijfebilbaaGreatDoor
open Go.RowKit Go.ChangeShapes Go.WideShapes Go.ChangeAt
theorem logF_sized (l : List Txn) (h : (recs l).length ≤ 42271) : ∀ x ∈ logF l, x.sized := by
  intro x hx
  rw [List.mem_singleton.1 hx]
  refine ⟨(by decide : logN.size ≤ _), ?_, (by decide : noB.size ≤ _)⟩
  show (bS (recs l)).size ≤ _
  rw [bS_size]
  omega
namespace walKeeps
theorem own : ownKnob Tryz.prog.godebug = none := by kernel_rfl
theorem laidOut : laidOutB Tryz.prog = true := by kernel_rfl
end walKeeps
end Go.Proofs.YtchgpijfebilbaaGreatDoor

/- Plain laws for a log whose last transaction was not made safe. -/
namespace Go.Proofs.YtchgpijfebilbaaGreatDoor
open Go.RowKit Go.ChangeShapes Go.WideShapes Go.ChangeAt
theorem Sl.pre2 {α : Type} {f : α → List Value} {s : Nat} {w : World} {A : Option Addr} {n c : Nat} {l m : List α} (h : Sl f s w (.slice A n c) m) (hp : l <+: m) : Sl f s w (.slice A l.length c) l := by
  obtain ⟨t, rfl⟩ := hp
  obtain ⟨A', c', he, h1, h2, h3, h4⟩ := h
  injection he with e1 e2 e3
  subst e1; subst e3
  refine ⟨A, c, by simp, by simp at h1 ⊢; omega, h2, fun x hx => h3 x (by rw [List.map_append]; exact List.mem_append_left _ hx), fun hpos => ?_⟩
  obtain ⟨b, off, r1, r2, r3⟩ := h4 (by simp at hpos ⊢; omega)
  refine ⟨b, off, r1, r2, fun i x hx j u hu => r3 i x ?_ j u hu⟩
  rw [List.map_append, List.getElem?_append_left (List.getElem?_eq_some_iff.1 hx).1, hx]
theorem noB_add (s : ByteArray) : noB ++ s = s := by
  apply bs_inj
  rw [bs_append]
  rfl
theorem one_write {S T s : ByteArray} (h : S.size + T.size + s.size ≤ 1048576) : writeE [⟨logN, S, T⟩] logN s = 0 ∧ writeL [⟨logN, S, T⟩] logN s = [⟨logN, S, T ++ s⟩] := by
  have hg := one_good (S := S) (T := T) (by omega)
  have e : writeE [⟨logN, S, T⟩] logN s = 0 := by
    unfold writeE
    rw [hg, named_log, if_pos rfl, if_pos rfl, (one_at S T).1, if_pos rfl, (one_at S T).2.1, if_pos]
    exact h
  obtain ⟨_, h2, _⟩ := write_ok e
  refine ⟨e, ?_⟩
  rw [h2, put_one]
  have ho : fileOr [⟨logN, S, T⟩] logN = ⟨logN, S, T⟩ := by
    unfold fileOr
    rw [(one_at S T).1, if_pos rfl, (one_at S T).2.1]
  rw [ho]
theorem logF_D (l : List Txn) (t : Txn) : logF (l ++ [t]) = logD (l ++ [t]) := by
  unfold logD
  rw [if_neg (by simp)]
theorem app_F {m : List Txn} {t : Txn} (ht : goodT t = 0) (h : (recs (m ++ [t])).length ≤ 1048576) : appL (logF m) t true = logD (m ++ [t]) ∧ appE (logF m) t true = 0 := by
  have he : encR t = bS (recT t) := if_pos ht
  rw [recs_app, recs_one, List.length_append] at h
  have hz : (bS (recs m)).size + (noB ++ bS (recT t)).size ≤ 1048576 := by
    rw [noB_add, bS_size, bS_size]; exact h
  have hw := one_write (S := bS (recs m)) (T := noB) (s := bS (recT t)) (by rw [bS_size (recs m), bS_size (recT t)]; show _ + 0 + _ ≤ _; omega)
  unfold appL appE
  rw [if_pos ht, if_pos ht, he, hw.1, hw.2, if_pos ⟨rfl, rfl⟩, if_pos ⟨rfl, rfl⟩, one_sync hz, (one_read hz).1]
  refine ⟨?_, rfl⟩
  unfold logD
  rw [if_neg (by simp), recs_snoc, noB_add]
end Go.Proofs.YtchgpijfebilbaaGreatDoor
