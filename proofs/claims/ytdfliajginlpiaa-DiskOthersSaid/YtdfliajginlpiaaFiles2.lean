/- What the disk's operations leave, as files put, taken off and read; and the laws' 'stores'. -/
import Derived.Test.YtdfliajginlpiaaFiles
import Derived.Test.YtdfliajginlpiaaDisk7
namespace Go.Proofs.Ytdfliajginlpiaa
open Go.RowKit Go.ChangeShapes Go.WideShapes Go.ChangeAt
theorem goodD_sized {l : List File} (h : goodD l = true) : ∀ x ∈ l, x.sized ∧ x.safe.size + x.tail.size ≤ 1048576 := by
  intro x hx
  have := ((goodD_iff l).1 h).2.1 x hx
  unfold okF named at this
  simp only [Bool.and_eq_true, decide_eq_true_iff] at this
  obtain ⟨⟨⟨_, _⟩, h1⟩, h2⟩ := this
  have h3 : (bs x.name).length = x.name.size := rfl
  refine ⟨⟨?_, ?_, ?_⟩, h2⟩ <;> omega
def noFile (p : ByteArray) : File := ⟨p, ⟨#[]⟩, ⟨#[]⟩⟩
def fileOr (l : List File) (p : ByteArray) : File := if isK (l.map File.name) p then fileAt l p else noFile p
theorem fileOr_name (l : List File) (p : ByteArray) : (fileOr l p).name = p := by
  unfold fileOr
  split
  · exact (fileAt_is (by assumption)).1
  · rfl
theorem readS_or {l : List File} (h : goodD l = true) (p : ByteArray) : readS l p = (fileOr l p).safe ++ (fileOr l p).tail := by
  unfold readS fileOr
  rw [h, Bool.true_and]
  split
  · rfl
  · exact ByteArray.append_empty.symm
theorem write_not {l : List File} {p s : ByteArray} (h : writeE l p s ≠ 0) : writeL l p s = [] := by
  unfold writeE at h
  unfold writeL
  by_cases h1 : goodD l = true
  · by_cases h2 : named (bs p) = true
    · by_cases h3 : isK (l.map File.name) p = true
      · by_cases h4 : (fileAt l p).safe.size + (fileAt l p).tail.size + s.size ≤ 1048576
        · simp [h1, h2, h3, h4] at h
        · simp [h1, h2, h3, h4]
      · by_cases h4 : 16 ≤ l.length
        · simp [h1, h2, h3, h4]
        · by_cases h5 : s.size ≤ 1048576
          · simp [h1, h2, h3, h4, h5] at h
          · simp [h1, h2, h3, h4, h5]
    · simp [h1, h2]
  · simp [h1]
theorem write_ok {l : List File} {p s : ByteArray} (h : writeE l p s = 0) : goodD l = true ∧ writeL l p s = putL l ⟨p, (fileOr l p).safe, (fileOr l p).tail ++ s⟩ ∧ goodD (writeL l p s) = true := by
  have key : goodD l = true ∧ writeL l p s = putL l ⟨p, (fileOr l p).safe, (fileOr l p).tail ++ s⟩ ∧ named (bs p) = true ∧ (fileOr l p).safe.size + ((fileOr l p).tail ++ s).size ≤ 1048576 ∧ (isK (l.map File.name) p = true ∨ l.length < 16) := by
    unfold writeE at h
    unfold writeL putL fileOr
    rw [ByteArray.size_append]
    by_cases h1 : goodD l = true
    · by_cases h2 : named (bs p) = true
      · by_cases h3 : isK (l.map File.name) p = true
        · by_cases h4 : (fileAt l p).safe.size + (fileAt l p).tail.size + s.size ≤ 1048576
          · simp only [if_pos h1, if_pos h2, if_pos h3, if_pos h4]
            exact ⟨h1, by rw [(fileAt_is h3).1], h2, by omega, .inl h3⟩
          · simp [h1, h2, h3, h4] at h
        · by_cases h4 : 16 ≤ l.length
          · simp [h1, h2, h3, h4] at h
          · by_cases h5 : s.size ≤ 1048576
            · simp only [if_pos h1, if_pos h2, if_neg h3, if_neg h4, if_pos h5]
              exact ⟨h1, by rw [show (noFile p).tail ++ s = s from ByteArray.empty_append]; rfl, h2, by show 0 + (0 + s.size) ≤ _; omega, .inr (by omega)⟩
            · simp [h1, h2, h3, h4, h5] at h
      · simp [h1, h2] at h
    · simp [h1] at h
  obtain ⟨h1, h2, h3, h4, h5⟩ := key
  refine ⟨h1, h2, ?_⟩
  rw [h2]
  refine putL_good h1 ?_ h5
  unfold okF
  rw [h3, Bool.true_and]
  exact decide_eq_true h4
theorem readE_0 {l : List File} {p : ByteArray} (h : readE l p = 0) : goodD l = true ∧ isK (l.map File.name) p = true := by
  unfold readE at h
  by_cases h1 : goodD l = true
  · by_cases h2 : isK (l.map File.name) p = true
    · exact ⟨h1, h2⟩
    · simp [h1, h2] at h
  · simp [h1] at h
theorem readE_in {l : List File} {p : ByteArray} (h1 : goodD l = true) (h2 : isK (l.map File.name) p = true) : readE l p = 0 := by
  unfold readE
  rw [h1, h2]
  rfl
theorem sync_ok {l : List File} {p : ByteArray} (h : readE l p = 0) : syncL l p = putL l ⟨p, (fileAt l p).safe ++ (fileAt l p).tail, ⟨#[]⟩⟩ ∧ goodD (syncL l p) = true := by
  obtain ⟨h1, h2⟩ := readE_0 h
  have e : syncL l p = putL l ⟨p, (fileAt l p).safe ++ (fileAt l p).tail, ⟨#[]⟩⟩ := by
    unfold syncL putL syncF
    simp only [h1, h2, Bool.and_self, if_true]
    rw [(fileAt_is h2).1]
  refine ⟨e, ?_⟩
  rw [e]
  refine putL_good h1 ?_ (.inl h2)
  have h3 := ((goodD_iff l).1 h1).2.1 _ (fileAt_is h2).2
  unfold okF at h3 ⊢
  rw [(fileAt_is h2).1] at h3
  rw [Bool.and_eq_true, decide_eq_true_iff] at h3 ⊢
  refine ⟨h3.1, ?_⟩
  have := h3.2
  show ((fileAt l p).safe ++ (fileAt l p).tail).size + 0 ≤ 1048576
  rw [ByteArray.size_append]
  omega
theorem sync_not {l : List File} {p : ByteArray} (h : readE l p ≠ 0) : syncL l p = [] := by
  unfold readE at h
  unfold syncL
  by_cases h1 : goodD l = true
  · by_cases h2 : isK (l.map File.name) p = true
    · simp [h1, h2] at h
    · simp [h1, h2]
  · simp [h1]
theorem cut_ok {l : List File} {p : ByteArray} {n : Int} (h : cutE l p n = 0) : readE l p = 0 ∧ 0 ≤ n ∧ n ≤ ((readS l p).size : Int) ∧ cutL l p n = putL l ⟨p, (readS l p).extract 0 n.toNat, ⟨#[]⟩⟩ ∧ goodD (cutL l p n) = true := by
  have key : goodD l = true ∧ isK (l.map File.name) p = true ∧ (0 ≤ n ∧ n ≤ (((fileAt l p).safe ++ (fileAt l p).tail).size : Int)) := by
    unfold cutE at h
    by_cases h1 : goodD l = true
    · by_cases h2 : isK (l.map File.name) p = true
      · by_cases h3 : 0 ≤ n ∧ n ≤ (((fileAt l p).safe ++ (fileAt l p).tail).size : Int)
        · exact ⟨h1, h2, h3⟩
        · rw [if_pos h1, if_pos h2, if_neg h3] at h; simp at h
      · simp [h1, h2] at h
    · simp [h1] at h
  obtain ⟨h1, h2, h3⟩ := key
  have hr : readS l p = (fileAt l p).safe ++ (fileAt l p).tail := by
    rw [readS_or h1]; unfold fileOr; rw [if_pos h2]
  have e : cutL l p n = putL l ⟨p, (readS l p).extract 0 n.toNat, ⟨#[]⟩⟩ := by
    unfold cutL putL cutF
    rw [hr]
    simp only [h1, h2, Bool.and_self, if_true]
    rw [if_pos h3, (fileAt_is h2).1]
  refine ⟨readE_in h1 h2, h3.1, by rw [hr]; exact h3.2, e, ?_⟩
  rw [e]
  refine putL_good h1 ?_ (.inl h2)
  have h4 := ((goodD_iff l).1 h1).2.1 _ (fileAt_is h2).2
  unfold okF at h4 ⊢
  rw [(fileAt_is h2).1] at h4
  rw [Bool.and_eq_true, decide_eq_true_iff] at h4 ⊢
  refine ⟨h4.1, ?_⟩
  have := h4.2
  show ((readS l p).extract 0 n.toNat).size + 0 ≤ 1048576
  rw [hr, ByteArray.size_extract, ByteArray.size_append]
  omega
theorem remove_ok {l : List File} {p : ByteArray} (h : readE l p = 0) : removeL l p = offL l p ∧ goodD (removeL l p) = true ∧ (removeL l p).length + 1 = l.length := by
  obtain ⟨h1, h2⟩ := readE_0 h
  have e : removeL l p = offL l p := by
    unfold removeL offL
    rw [h1, h2]
    rfl
  refine ⟨e, by rw [e]; exact offL_good h1 h2, ?_⟩
  have := isK_in_file h2
  rw [e]
  unfold offL
  simp
  omega
theorem crash_ok {l : List File} {keep : Int} (h : crashE l keep = 0) : goodD l = true ∧ 0 ≤ keep ∧ crashL l keep = l.map (crashF keep.toNat) := by
  unfold crashE at h
  by_cases h1 : goodD l = true
  · by_cases h2 : keep < 0
    · simp [h1, h2] at h
    · refine ⟨h1, by omega, ?_⟩
      unfold crashL
      rw [if_pos h1, if_neg h2]
  · simp [h1] at h
theorem crash_not {l : List File} {keep : Int} (h : crashE l keep ≠ 0) : crashL l keep = [] := by
  unfold crashE at h
  unfold crashL
  by_cases h1 : goodD l = true
  · by_cases h2 : keep < 0
    · simp [h1, h2]
    · simp [h1, h2] at h
  · simp [h1]
theorem crash_is {l : List File} (h1 : goodD l = true) (n : Nat) : crashE l n = 0 ∧ crashL l n = l.map (crashF n) := by
  unfold crashE crashL
  have h2 : ¬ (n : Int) < 0 := by omega
  rw [if_pos h1, if_pos h1, if_neg h2, if_neg h2]
  exact ⟨rfl, rfl⟩
theorem crash_twice (l : List File) (n m : Nat) : (l.map (crashF n)).map (crashF m) = l.map (crashF n) := by
  rw [List.map_map]
  congr 1
  funext x
  show File.mk _ _ _ = File.mk _ _ _
  congr 1
  have h : ∀ k, ByteArray.extract ⟨#[]⟩ 0 k = ByteArray.empty := fun k => ByteArray.ext (by simp)
  show (x.safe ++ x.tail.extract 0 (min n x.tail.size)) ++ ByteArray.extract ⟨#[]⟩ 0 _ = _
  rw [h, ByteArray.append_empty]
theorem stores1 : writeE [] ⟨#[97]⟩ ⟨#[98, 99]⟩ = 0 ∧ writeL [] ⟨#[97]⟩ ⟨#[98, 99]⟩ = [⟨⟨#[97]⟩, ⟨#[]⟩, ⟨#[98, 99]⟩⟩] := by
  constructor <;> kernel_rfl
theorem stores2 : readE [⟨⟨#[97]⟩, ⟨#[]⟩, ⟨#[98, 99]⟩⟩] ⟨#[97]⟩ = 0 ∧ readS [⟨⟨#[97]⟩, ⟨#[]⟩, ⟨#[98, 99]⟩⟩] ⟨#[97]⟩ = ⟨#[98, 99]⟩ := by
  constructor <;> kernel_rfl
set_option maxHeartbeats 400000 in
theorem stores_is (w : World) :
    Calls Try.prog 15 #[] w fun e w' => e = .returned (.bool true) ∧ Below w.heap.size w w' := by
  have HW := Lib.hid (fun (W : World) => by
    have h := dkWrite (.slice none 0 0) [] ⟨#[97]⟩ ⟨#[98, 99]⟩ W (Sl.nil _ _ _) (by simp) (by decide) (by decide)
    rw [stores1.1, stores1.2] at h
    exact h)
  have HR := Lib.hid (fun (W : World) (v : Value) (hs : Sl cFile 3 W v [⟨⟨#[97]⟩, ⟨#[]⟩, ⟨#[98, 99]⟩⟩]) => by
    have h := dkRead v _ ⟨#[97]⟩ W hs (by simp [File.sized]; decide)
    rw [stores2.1, stores2.2] at h
    exact h)
  go_enter Try.func15, Try.ntmps15
  go_wp2_with (first | (go_at_call 18; refine (HW.out _).mono ?_; rintro e w1 ⟨A1, k1, rfl, ho1, hb1⟩; obtain ⟨ext1, d1, rfl⟩ := Below.grown_eq w (Below.own (by repeat (first | exact Below.refl _ _ | assumption | refine Below.drew ?_ | refine Below.drewN' ?_ _ | refine below_grow0 _ _ ?_ | refine below_alloc0 _ ?_ | refine Below.alloc ?_ (by first | omega | (simp; done) | (simp; omega)) _ | refine Below.setCell ?_ (by first | omega | (simp; done) | (simp; omega)) _ | refine Below.grow _ _ _ ?_ (by first | omega | (simp; done) | (simp; omega)))) hb1); have HO1 := Lib.hid ho1.sl; clear ho1 hb1) | (go_at_call 19; refine (HR.out _ _ (HO1.out.below (by repeat (first | exact Below.refl _ _ | assumption | refine Below.drew ?_ | refine Below.drewN' ?_ _ | refine below_grow0 _ _ ?_ | refine below_alloc0 _ ?_ | refine Below.alloc ?_ (by first | omega | (simp; done) | (simp; omega)) _ | refine Below.setCell ?_ (by first | omega | (simp; done) | (simp; omega)) _ | refine Below.grow _ _ _ ?_ (by first | omega | (simp; done) | (simp; omega)))))).mono ?_; rintro e w1 ⟨rfl, hb2⟩; obtain ⟨ext2, d2, rfl⟩ := Below.grown_eq w (Below.own (by repeat (first | exact Below.refl _ _ | assumption | refine Below.drew ?_ | refine Below.drewN' ?_ _ | refine below_grow0 _ _ ?_ | refine below_alloc0 _ ?_ | refine Below.alloc ?_ (by first | omega | (simp; done) | (simp; omega)) _ | refine Below.setCell ?_ (by first | omega | (simp; done) | (simp; omega)) _ | refine Below.grow _ _ _ ?_ (by first | omega | (simp; done) | (simp; omega)))) hb2); clear hb2))
  go_ret
  exact ⟨rfl, (by repeat (first | exact Below.refl _ _ | assumption | refine Below.drew ?_ | refine Below.drewN' ?_ _ | refine below_grow0 _ _ ?_ | refine below_alloc0 _ ?_ | refine Below.alloc ?_ (by first | omega | (simp; done) | (simp; omega)) _ | refine Below.setCell ?_ (by first | omega | (simp; done) | (simp; omega)) _ | refine Below.grow _ _ _ ?_ (by first | omega | (simp; done) | (simp; omega))))⟩
end Go.Proofs.Ytdfliajginlpiaa
