/- The law DiskOthers is true for every input; no conditions. -/
import Derived.Test.YtdfliajginlpiaaDiskArg
namespace Go.Proofs.Ytdfliajginlpiaa
open Go.RowKit Go.ChangeShapes Go.WideShapes Go.ChangeAt
theorem bytes_inj' {a b : ByteArray} (e : a.toList = b.toList) : a = b := by
  rw [ByteArray.toList_eq, ByteArray.toList_eq] at e
  exact ByteArray.ext (Array.toList_inj.mp e)
set_option maxHeartbeats 1000000 in
theorem diskOthers_same (v : Value) (l : List File) (p s : ByteArray) (n : Int) (w : World) (h : Sl cFile 3 w v l) :
    Calls Try.prog 7 #[.agg #[v], .string p, .string p, .string s, .int .i64 n] w fun e w' => e = .returned (.bool true) ∧ Below w.heap.size w w' := by
  obtain ⟨A, c, rfl, hc1, hc2⟩ := h.form
  have HS := Lib.hid stores_is
  clear h
  go_enter Try.func7, Try.ntmps7
  go_wp2_with (first | (go_at_call 15; refine (HS.out _).mono ?_; rintro e w1 ⟨rfl, hb4⟩; obtain ⟨ext4, d4, rfl⟩ := Below.grown_eq _ hb4; clear hb4))
  go_ret
  exact ⟨rfl, (by repeat (first | exact Below.refl _ _ | assumption | refine Below.drew ?_ | refine Below.drewN' ?_ _ | refine below_grow0 _ _ ?_ | refine below_alloc0 _ ?_ | refine Below.alloc ?_ (by first | omega | (simp; done) | (simp; omega)) _ | refine Below.setCell ?_ (by first | omega | (simp; done) | (simp; omega)) _ | refine Below.grow _ _ _ ?_ (by first | omega | (simp; done) | (simp; omega))))⟩
/-- what an operation on another file leaves, where it went well -/
def Kept (l R : List File) (o : ByteArray) (code : Int) : Prop := code = 0 → goodD R = true ∧ readE R o = readE l o ∧ readS R o = readS l o
theorem kept_write {l : List File} {p o s : ByteArray} (hne : o ≠ p) : Kept l (writeL l p s) o (writeE l p s) := by
  intro h
  obtain ⟨g1, g2, g3⟩ := write_ok h
  have h2 := putL_others g1 (x := ⟨p, (fileOr l p).safe, (fileOr l p).tail ++ s⟩) (by rw [← g2]; exact g3) (p := o) hne
  rw [← g2] at h2
  exact ⟨g3, h2⟩
theorem kept_sync {l : List File} {p o : ByteArray} (hne : o ≠ p) : Kept l (syncL l p) o (readE l p) := by
  intro h
  obtain ⟨g2, g3⟩ := sync_ok h
  have h2 := putL_others (readE_0 h).1 (x := ⟨p, (fileAt l p).safe ++ (fileAt l p).tail, ⟨#[]⟩⟩) (by rw [← g2]; exact g3) (p := o) hne
  rw [← g2] at h2
  exact ⟨g3, h2⟩
theorem kept_cut {l : List File} {p o : ByteArray} {n : Int} (hne : o ≠ p) : Kept l (cutL l p n) o (cutE l p n) := by
  intro h
  obtain ⟨g1, _, _, g2, g3⟩ := cut_ok h
  have h2 := putL_others (readE_0 g1).1 (x := ⟨p, (readS l p).extract 0 n.toNat, ⟨#[]⟩⟩) (by rw [← g2]; exact g3) (p := o) hne
  rw [← g2] at h2
  exact ⟨g3, h2⟩
theorem kept_remove {l : List File} {p o : ByteArray} (hne : o ≠ p) : Kept l (removeL l p) o (readE l p) := by
  intro h
  obtain ⟨g1, g2⟩ := readE_0 h
  obtain ⟨r1, r2, _⟩ := remove_ok h
  refine ⟨r2, ?_⟩
  refine read_alike g1 r2 o fun x hx => ?_
  rw [r1, mem_offL ((goodD_iff l).1 g1).2.2 g2]
  constructor
  · exact fun h => h.1
  · exact fun h => ⟨h, by rw [hx]; exact hne⟩
theorem kept_calls {l R : List File} {o : ByteArray} {code : Int} (h : Kept l R o code) (h0 : code = 0) : ∀ (W : World) (v : Value), Sl cFile 3 W v R →
    (Calls Try.prog 19 #[.agg #[v], .string o] W fun e w' => e = .returned (.tuple #[.string (readS l o), .int .i64 (readE l o)]) ∧ Below W.heap.size W w') ∧
    (∀ v2, Sl cFile 3 W v2 R → Calls Try.prog 21 #[.agg #[v2]] W fun e w' => e = .returned (.bool true) ∧ Below W.heap.size W w') := by
  obtain ⟨g1, g2, g3⟩ := h h0
  intro W v hs
  refine ⟨?_, fun v2 hs2 => ?_⟩
  · have h1 := dkRead v R o W hs (fun x hx => (goodD_sized g1 x hx).1)
    rw [g2, g3] at h1
    exact h1
  · have h1 := dkGood v2 R W hs2 (fun x hx => (goodD_sized g1 x hx).1)
    rw [g1] at h1
    exact h1
@[go_sem] theorem idx4_0 (a b c d : Int) (W : World) : Sem.run Try.prog (Instr.index 58 (.agg #[.int .i64 a, .int .i64 b, .int .i64 c, .int .i64 d]) (.int .i64 0)) W = Result.ok (Value.int .i64 a) W := by kernel_rfl
@[go_sem] theorem idx4_1 (a b c d : Int) (W : World) : Sem.run Try.prog (Instr.index 58 (.agg #[.int .i64 a, .int .i64 b, .int .i64 c, .int .i64 d]) (.int .i64 1)) W = Result.ok (Value.int .i64 b) W := by kernel_rfl
@[go_sem] theorem idx4_2 (a b c d : Int) (W : World) : Sem.run Try.prog (Instr.index 58 (.agg #[.int .i64 a, .int .i64 b, .int .i64 c, .int .i64 d]) (.int .i64 2)) W = Result.ok (Value.int .i64 c) W := by kernel_rfl
@[go_sem] theorem idx4_3 (a b c d : Int) (W : World) : Sem.run Try.prog (Instr.index 58 (.agg #[.int .i64 a, .int .i64 b, .int .i64 c, .int .i64 d]) (.int .i64 3)) W = Result.ok (Value.int .i64 d) W := by kernel_rfl
set_option maxHeartbeats 4000000 in
theorem diskOthers_ok (v : Value) (l : List File) (p o s : ByteArray) (n : Int) (w : World) (h : Sl cFile 3 w v l) (hz : ∀ x ∈ l, x.sized) (hp : p.size ≤ 9223372036854775807) (hs : s.size ≤ 140737488355328) :
    Calls Try.prog 7 #[.agg #[v], .string p, .string o, .string s, .int .i64 n] w fun e w' => e = .returned (.bool true) ∧ Below w.heap.size w w' := by
  by_cases hpo : p = o
  · subst hpo
    exact diskOthers_same v l p s n w h
  have hne : (p.toList == o.toList) = false := beq_eq_false_iff_ne.2 (fun h => hpo (bytes_inj' h))
  obtain ⟨A, c, rfl, hc1, hc2⟩ := h.form
  have H := Lib.hid h
  have HS := Lib.hid stores_is
  have HR0 := Lib.hid (fun (W : World) (v : Value) (h : Sl cFile 3 W v l) => dkRead v l o W h hz)
  have HW := Lib.hid (fun (W : World) (v : Value) (h : Sl cFile 3 W v l) => dkWrite v l p s W h hz hp hs)
  have HY := Lib.hid (fun (W : World) (v : Value) (h : Sl cFile 3 W v l) => dkSync v l p W h hz)
  have HC := Lib.hid (fun (W : World) (v : Value) (h : Sl cFile 3 W v l) => dkCut v l p n W h hz)
  have HX := Lib.hid (fun (W : World) (v : Value) (h : Sl cFile 3 W v l) => dkRemove v l p W h hz)
  have K1 := Lib.hid (kept_calls (kept_write (l := l) (p := p) (o := o) (s := s) (fun h => hpo h.symm)))
  have K2 := Lib.hid (kept_calls (kept_sync (l := l) (p := p) (o := o) (fun h => hpo h.symm)))
  have K3 := Lib.hid (kept_calls (kept_cut (l := l) (p := p) (o := o) (n := n) (fun h => hpo h.symm)))
  have K4 := Lib.hid (kept_calls (kept_remove (l := l) (p := p) (o := o) (fun h => hpo h.symm)))
  generalize readS l o = was at *
  generalize readE l o = code0 at *
  generalize writeL l p s = R1 at *
  generalize writeE l p s = e1 at *
  generalize syncL l p = R2 at *
  generalize cutL l p n = R3 at *
  generalize cutE l p n = e3 at *
  generalize removeL l p = R4 at *
  generalize readE l p = e2 at *
  clear h hz hpo
  go_enter Try.func7, Try.ntmps7
  go_wp2_with
    (first | (go_at_call 15; refine (HS.out _).mono ?_; rintro e w1 ⟨rfl, hb4⟩; obtain ⟨ext4, d4, rfl⟩ := Below.grown_eq _ hb4; clear hb4) | (go_at_call 19; refine (HR0.out _ _ (H.out.below (by repeat (first | exact Below.refl _ _ | assumption | refine Below.drew ?_ | refine Below.drewN' ?_ _ | refine below_grow0 _ _ ?_ | refine below_alloc0 _ ?_ | refine Below.alloc ?_ (by first | omega | (simp; done) | (simp; omega)) _ | refine Below.setCell ?_ (by first | omega | (simp; done) | (simp; omega)) _ | refine Below.grow _ _ _ ?_ (by first | omega | (simp; done) | (simp; omega)))))).mono ?_; rintro e w1 ⟨rfl, hb1⟩; obtain ⟨ext5, d5, rfl⟩ := Below.grown_eq _ hb1; clear hb1) | (go_at_call 18; refine (HW.out _ _ (H.out.below (by repeat (first | exact Below.refl _ _ | assumption | refine Below.drew ?_ | refine Below.drewN' ?_ _ | refine below_grow0 _ _ ?_ | refine below_alloc0 _ ?_ | refine Below.alloc ?_ (by first | omega | (simp; done) | (simp; omega)) _ | refine Below.setCell ?_ (by first | omega | (simp; done) | (simp; omega)) _ | refine Below.grow _ _ _ ?_ (by first | omega | (simp; done) | (simp; omega)))))).mono ?_; rintro e w1 ⟨A1, k1, rfl, ho1, hb1⟩; obtain ⟨ext6, d6, rfl⟩ := Below.grown_eq _ hb1; have HO1 := Lib.hid ho1.sl; clear ho1 hb1) | (go_at_call 20; refine (HY.out _ _ (H.out.below (by repeat (first | exact Below.refl _ _ | assumption | refine Below.drew ?_ | refine Below.drewN' ?_ _ | refine below_grow0 _ _ ?_ | refine below_alloc0 _ ?_ | refine Below.alloc ?_ (by first | omega | (simp; done) | (simp; omega)) _ | refine Below.setCell ?_ (by first | omega | (simp; done) | (simp; omega)) _ | refine Below.grow _ _ _ ?_ (by first | omega | (simp; done) | (simp; omega)))))).mono ?_; rintro e w1 ⟨A2, k2, rfl, ho1, hb1⟩; obtain ⟨ext7, d7, rfl⟩ := Below.grown_eq _ hb1; have HO2 := Lib.hid ho1.sl; clear ho1 hb1) | (go_at_call 22; refine (HC.out _ _ (H.out.below (by repeat (first | exact Below.refl _ _ | assumption | refine Below.drew ?_ | refine Below.drewN' ?_ _ | refine below_grow0 _ _ ?_ | refine below_alloc0 _ ?_ | refine Below.alloc ?_ (by first | omega | (simp; done) | (simp; omega)) _ | refine Below.setCell ?_ (by first | omega | (simp; done) | (simp; omega)) _ | refine Below.grow _ _ _ ?_ (by first | omega | (simp; done) | (simp; omega)))))).mono ?_; rintro e w1 ⟨A3, k3, rfl, ho1, hb1⟩; obtain ⟨ext8, d8, rfl⟩ := Below.grown_eq _ hb1; have HO3 := Lib.hid ho1.sl; clear ho1 hb1))
  have j1 : ((grow ((grow ((grow (grow (grow (w.alloc (.cells #[.slice A l.length c] 40)) ext4 d4) ext5 d5) ext6 d6).alloc (.cells #[.slice A1 R1.length k1] 40)) ext7 d7).alloc (.cells #[.slice A2 R2.length k2] 40)) ext8 d8).alloc (.cells #[.slice A3 R3.length k3] 40)).cell? ⟨w.heap.size + 1 + ext4.size + ext5.size + ext6.size, 0, none⟩ = some (.slice A1 R1.length k1) := by go_simp
  have j2 : ((grow ((grow ((grow (grow (grow (w.alloc (.cells #[.slice A l.length c] 40)) ext4 d4) ext5 d5) ext6 d6).alloc (.cells #[.slice A1 R1.length k1] 40)) ext7 d7).alloc (.cells #[.slice A2 R2.length k2] 40)) ext8 d8).alloc (.cells #[.slice A3 R3.length k3] 40)).cell? ⟨w.heap.size + 1 + ext4.size + ext5.size + ext6.size + 1 + ext7.size, 0, none⟩ = some (.slice A2 R2.length k2) := by go_simp
  have j3 : ((grow ((grow ((grow (grow (grow (w.alloc (.cells #[.slice A l.length c] 40)) ext4 d4) ext5 d5) ext6 d6).alloc (.cells #[.slice A1 R1.length k1] 40)) ext7 d7).alloc (.cells #[.slice A2 R2.length k2] 40)) ext8 d8).alloc (.cells #[.slice A3 R3.length k3] 40)).cell? ⟨w.heap.size + 1 + ext4.size + ext5.size + ext6.size + 1 + ext7.size + 1 + ext8.size, 0, none⟩ = some (.slice A3 R3.length k3) := by go_simp
  have HB0 := Lib.hid (show Below w.heap.size w ((grow ((grow ((grow (grow (grow (w.alloc (.cells #[.slice A l.length c] 40)) ext4 d4) ext5 d5) ext6 d6).alloc (.cells #[.slice A1 R1.length k1] 40)) ext7 d7).alloc (.cells #[.slice A2 R2.length k2] 40)) ext8 d8).alloc (.cells #[.slice A3 R3.length k3] 40)) from (by repeat (first | exact Below.refl _ _ | assumption | refine Below.drew ?_ | refine Below.drewN' ?_ _ | refine below_grow0 _ _ ?_ | refine below_alloc0 _ ?_ | refine Below.alloc ?_ (by first | omega | (simp; done) | (simp; omega)) _ | refine Below.setCell ?_ (by first | omega | (simp; done) | (simp; omega)) _ | refine Below.grow _ _ _ ?_ (by first | omega | (simp; done) | (simp; omega)))))
  have H0 := Lib.hid (show Sl cFile 3 ((grow ((grow ((grow (grow (grow (w.alloc (.cells #[.slice A l.length c] 40)) ext4 d4) ext5 d5) ext6 d6).alloc (.cells #[.slice A1 R1.length k1] 40)) ext7 d7).alloc (.cells #[.slice A2 R2.length k2] 40)) ext8 d8).alloc (.cells #[.slice A3 R3.length k3] 40)) (.slice A l.length c) l from H.out.below (by repeat (first | exact Below.refl _ _ | assumption | refine Below.drew ?_ | refine Below.drewN' ?_ _ | refine below_grow0 _ _ ?_ | refine below_alloc0 _ ?_ | refine Below.alloc ?_ (by first | omega | (simp; done) | (simp; omega)) _ | refine Below.setCell ?_ (by first | omega | (simp; done) | (simp; omega)) _ | refine Below.grow _ _ _ ?_ (by first | omega | (simp; done) | (simp; omega)))))
  have H1 := Lib.hid (show Sl cFile 3 ((grow ((grow ((grow (grow (grow (w.alloc (.cells #[.slice A l.length c] 40)) ext4 d4) ext5 d5) ext6 d6).alloc (.cells #[.slice A1 R1.length k1] 40)) ext7 d7).alloc (.cells #[.slice A2 R2.length k2] 40)) ext8 d8).alloc (.cells #[.slice A3 R3.length k3] 40)) (.slice A1 R1.length k1) R1 from HO1.out.below (by repeat (first | exact Below.refl _ _ | assumption | refine Below.drew ?_ | refine Below.drewN' ?_ _ | refine below_grow0 _ _ ?_ | refine below_alloc0 _ ?_ | refine Below.alloc ?_ (by first | omega | (simp; done) | (simp; omega)) _ | refine Below.setCell ?_ (by first | omega | (simp; done) | (simp; omega)) _ | refine Below.grow _ _ _ ?_ (by first | omega | (simp; done) | (simp; omega)))))
  have H2 := Lib.hid (show Sl cFile 3 ((grow ((grow ((grow (grow (grow (w.alloc (.cells #[.slice A l.length c] 40)) ext4 d4) ext5 d5) ext6 d6).alloc (.cells #[.slice A1 R1.length k1] 40)) ext7 d7).alloc (.cells #[.slice A2 R2.length k2] 40)) ext8 d8).alloc (.cells #[.slice A3 R3.length k3] 40)) (.slice A2 R2.length k2) R2 from HO2.out.below (by repeat (first | exact Below.refl _ _ | assumption | refine Below.drew ?_ | refine Below.drewN' ?_ _ | refine below_grow0 _ _ ?_ | refine below_alloc0 _ ?_ | refine Below.alloc ?_ (by first | omega | (simp; done) | (simp; omega)) _ | refine Below.setCell ?_ (by first | omega | (simp; done) | (simp; omega)) _ | refine Below.grow _ _ _ ?_ (by first | omega | (simp; done) | (simp; omega)))))
  have H3 := Lib.hid (show Sl cFile 3 ((grow ((grow ((grow (grow (grow (w.alloc (.cells #[.slice A l.length c] 40)) ext4 d4) ext5 d5) ext6 d6).alloc (.cells #[.slice A1 R1.length k1] 40)) ext7 d7).alloc (.cells #[.slice A2 R2.length k2] 40)) ext8 d8).alloc (.cells #[.slice A3 R3.length k3] 40)) (.slice A3 R3.length k3) R3 from HO3.out.below (by repeat (first | exact Below.refl _ _ | assumption | refine Below.drew ?_ | refine Below.drewN' ?_ _ | refine below_grow0 _ _ ?_ | refine below_alloc0 _ ?_ | refine Below.alloc ?_ (by first | omega | (simp; done) | (simp; omega)) _ | refine Below.setCell ?_ (by first | omega | (simp; done) | (simp; omega)) _ | refine Below.grow _ _ _ ?_ (by first | omega | (simp; done) | (simp; omega)))))
  generalize ((grow ((grow ((grow (grow (grow (w.alloc (.cells #[.slice A l.length c] 40)) ext4 d4) ext5 d5) ext6 d6).alloc (.cells #[.slice A1 R1.length k1] 40)) ext7 d7).alloc (.cells #[.slice A2 R2.length k2] 40)) ext8 d8).alloc (.cells #[.slice A3 R3.length k3] 40)) = W0 at *
  generalize w.heap.size + 1 + ext4.size + ext5.size + ext6.size + 1 + ext7.size + 1 + ext8.size = bC at *
  generalize w.heap.size + 1 + ext4.size + ext5.size + ext6.size + 1 + ext7.size = bB at *
  generalize w.heap.size + 1 + ext4.size + ext5.size + ext6.size = bA at *
  clear H HO1 HO2 HO3
  refine (HX.out _ _ H0.out).mono ?_
  rintro e w1 ⟨A4, k4, rfl, ho1, hb1⟩
  obtain ⟨ext9, d9, rfl⟩ := Below.grown_eq _ hb1
  have H4 := Lib.hid ho1.sl
  clear ho1 hb1 HX H0
  go_wp2_with fail
  have q0 : (((grow W0 ext9 d9).alloc (.cells #[.slice A4 R4.length k4] 40)).alloc (.cells #[.slice A1 R1.length k1, .slice A2 R2.length k2, .slice A3 R3.length k3, .slice A4 R4.length k4] 40)).cell? ⟨W0.heap.size + ext9.size + 1, 0, none⟩ = some (.slice A1 R1.length k1) := by go_simp
  have q1 : (((grow W0 ext9 d9).alloc (.cells #[.slice A4 R4.length k4] 40)).alloc (.cells #[.slice A1 R1.length k1, .slice A2 R2.length k2, .slice A3 R3.length k3, .slice A4 R4.length k4] 40)).cell? ⟨W0.heap.size + ext9.size + 1, 1, none⟩ = some (.slice A2 R2.length k2) := by go_simp
  have q2 : (((grow W0 ext9 d9).alloc (.cells #[.slice A4 R4.length k4] 40)).alloc (.cells #[.slice A1 R1.length k1, .slice A2 R2.length k2, .slice A3 R3.length k3, .slice A4 R4.length k4] 40)).cell? ⟨W0.heap.size + ext9.size + 1, 2, none⟩ = some (.slice A3 R3.length k3) := by go_simp
  have q3 : (((grow W0 ext9 d9).alloc (.cells #[.slice A4 R4.length k4] 40)).alloc (.cells #[.slice A1 R1.length k1, .slice A2 R2.length k2, .slice A3 R3.length k3, .slice A4 R4.length k4] 40)).cell? ⟨W0.heap.size + ext9.size + 1, 3, none⟩ = some (.slice A4 R4.length k4) := by go_simp
  have HB1 := Lib.hid (show Below w.heap.size w (((grow W0 ext9 d9).alloc (.cells #[.slice A4 R4.length k4] 40)).alloc (.cells #[.slice A1 R1.length k1, .slice A2 R2.length k2, .slice A3 R3.length k3, .slice A4 R4.length k4] 40)) from by have := HB0.out; exact (by repeat (first | exact Below.refl _ _ | assumption | refine Below.drew ?_ | refine Below.drewN' ?_ _ | refine below_grow0 _ _ ?_ | refine below_alloc0 _ ?_ | refine Below.alloc ?_ (by first | omega | (simp; done) | (simp; omega)) _ | refine Below.setCell ?_ (by first | omega | (simp; done) | (simp; omega)) _ | refine Below.grow _ _ _ ?_ (by first | omega | (simp; done) | (simp; omega)))))
  have G1 := Lib.hid (show Sl cFile 3 (((grow W0 ext9 d9).alloc (.cells #[.slice A4 R4.length k4] 40)).alloc (.cells #[.slice A1 R1.length k1, .slice A2 R2.length k2, .slice A3 R3.length k3, .slice A4 R4.length k4] 40)) (.slice A1 R1.length k1) R1 from H1.out.below (by repeat (first | exact Below.refl _ _ | assumption | refine Below.drew ?_ | refine Below.drewN' ?_ _ | refine below_grow0 _ _ ?_ | refine below_alloc0 _ ?_ | refine Below.alloc ?_ (by first | omega | (simp; done) | (simp; omega)) _ | refine Below.setCell ?_ (by first | omega | (simp; done) | (simp; omega)) _ | refine Below.grow _ _ _ ?_ (by first | omega | (simp; done) | (simp; omega)))))
  have G2 := Lib.hid (show Sl cFile 3 (((grow W0 ext9 d9).alloc (.cells #[.slice A4 R4.length k4] 40)).alloc (.cells #[.slice A1 R1.length k1, .slice A2 R2.length k2, .slice A3 R3.length k3, .slice A4 R4.length k4] 40)) (.slice A2 R2.length k2) R2 from H2.out.below (by repeat (first | exact Below.refl _ _ | assumption | refine Below.drew ?_ | refine Below.drewN' ?_ _ | refine below_grow0 _ _ ?_ | refine below_alloc0 _ ?_ | refine Below.alloc ?_ (by first | omega | (simp; done) | (simp; omega)) _ | refine Below.setCell ?_ (by first | omega | (simp; done) | (simp; omega)) _ | refine Below.grow _ _ _ ?_ (by first | omega | (simp; done) | (simp; omega)))))
  have G3 := Lib.hid (show Sl cFile 3 (((grow W0 ext9 d9).alloc (.cells #[.slice A4 R4.length k4] 40)).alloc (.cells #[.slice A1 R1.length k1, .slice A2 R2.length k2, .slice A3 R3.length k3, .slice A4 R4.length k4] 40)) (.slice A3 R3.length k3) R3 from H3.out.below (by repeat (first | exact Below.refl _ _ | assumption | refine Below.drew ?_ | refine Below.drewN' ?_ _ | refine below_grow0 _ _ ?_ | refine below_alloc0 _ ?_ | refine Below.alloc ?_ (by first | omega | (simp; done) | (simp; omega)) _ | refine Below.setCell ?_ (by first | omega | (simp; done) | (simp; omega)) _ | refine Below.grow _ _ _ ?_ (by first | omega | (simp; done) | (simp; omega)))))
  have G4 := Lib.hid (show Sl cFile 3 (((grow W0 ext9 d9).alloc (.cells #[.slice A4 R4.length k4] 40)).alloc (.cells #[.slice A1 R1.length k1, .slice A2 R2.length k2, .slice A3 R3.length k3, .slice A4 R4.length k4] 40)) (.slice A4 R4.length k4) R4 from H4.out.below (by repeat (first | exact Below.refl _ _ | assumption | refine Below.drew ?_ | refine Below.drewN' ?_ _ | refine below_grow0 _ _ ?_ | refine below_alloc0 _ ?_ | refine Below.alloc ?_ (by first | omega | (simp; done) | (simp; omega)) _ | refine Below.setCell ?_ (by first | omega | (simp; done) | (simp; omega)) _ | refine Below.grow _ _ _ ?_ (by first | omega | (simp; done) | (simp; omega)))))
  clear H1 H2 H3 H4 HB0 j1 j2 j3
  generalize (((grow W0 ext9 d9).alloc (.cells #[.slice A4 R4.length k4] 40)).alloc (.cells #[.slice A1 R1.length k1, .slice A2 R2.length k2, .slice A3 R3.length k3, .slice A4 R4.length k4] 40)) = V0 at *
  generalize W0.heap.size + ext9.size + 1 = bR at *
  go_loopw [71] (fun i wr => ∃ (k : Nat) (ext : Array Obj) (d : Nat), k ≤ 4 ∧ i = .int .i64 k ∧ wr = grow V0 ext d) (fun i _ => 4 - (intOf i).toNat)
  case atStart => exact ⟨0, _, _, by omega, rfl, grown_of (by repeat (first | exact Below.refl _ _ | assumption | refine Below.drew ?_ | refine Below.drewN' ?_ _ | refine below_grow0 _ _ ?_ | refine below_alloc0 _ ?_ | refine Below.alloc ?_ (by first | omega | (simp; done) | (simp; omega)) _ | refine Below.setCell ?_ (by first | omega | (simp; done) | (simp; omega)) _ | refine Below.grow _ _ _ ?_ (by first | omega | (simp; done) | (simp; omega))))⟩
  case round =>
    obtain ⟨k, ext, d, hk, rfl, rfl⟩ := hrel
    rcases (show k = 0 ∨ k = 1 ∨ k = 2 ∨ k = 3 ∨ k = 4 by omega) with rfl | rfl | rfl | rfl | rfl
    · by_cases hc : e1 = 0
      · have hc' : (e1 != 0) = false := by rw [hc]; rfl
        have HK := Lib.hid (K1.out hc)
        clear hc
        go_wp2_with (first | (go_at_call 19; refine ((HK.out _ _ (G1.out.below (by repeat (first | exact Below.refl _ _ | assumption | refine Below.drew ?_ | refine Below.drewN' ?_ _ | refine below_grow0 _ _ ?_ | refine below_alloc0 _ ?_ | refine Below.alloc ?_ (by first | omega | (simp; done) | (simp; omega)) _ | refine Below.setCell ?_ (by first | omega | (simp; done) | (simp; omega)) _ | refine Below.grow _ _ _ ?_ (by first | omega | (simp; done) | (simp; omega)))))).1).mono ?_; rintro e w1 ⟨rfl, hb1⟩; obtain ⟨ext1, d1, rfl⟩ := Below.grown_eq _ hb1; clear hb1) | (go_at_call 21; refine ((HK.out _ _ (G1.out.below (by repeat (first | exact Below.refl _ _ | assumption | refine Below.drew ?_ | refine Below.drewN' ?_ _ | refine below_grow0 _ _ ?_ | refine below_alloc0 _ ?_ | refine Below.alloc ?_ (by first | omega | (simp; done) | (simp; omega)) _ | refine Below.setCell ?_ (by first | omega | (simp; done) | (simp; omega)) _ | refine Below.grow _ _ _ ?_ (by first | omega | (simp; done) | (simp; omega)))))).2 _ (G1.out.below (by repeat (first | exact Below.refl _ _ | assumption | refine Below.drew ?_ | refine Below.drewN' ?_ _ | refine below_grow0 _ _ ?_ | refine below_alloc0 _ ?_ | refine Below.alloc ?_ (by first | omega | (simp; done) | (simp; omega)) _ | refine Below.setCell ?_ (by first | omega | (simp; done) | (simp; omega)) _ | refine Below.grow _ _ _ ?_ (by first | omega | (simp; done) | (simp; omega)))))).mono ?_; rintro e w1 ⟨rfl, hb1⟩; obtain ⟨ext2, d2, rfl⟩ := Below.grown_eq _ hb1; clear hb1))
        go_roundw
        case rel => exact ⟨1, _, _, by omega, by go_num, grown_of (by repeat (first | exact Below.refl _ _ | assumption | refine Below.drew ?_ | refine Below.drewN' ?_ _ | refine below_grow0 _ _ ?_ | refine below_alloc0 _ ?_ | refine Below.alloc ?_ (by first | omega | (simp; done) | (simp; omega)) _ | refine Below.setCell ?_ (by first | omega | (simp; done) | (simp; omega)) _ | refine Below.grow _ _ _ ?_ (by first | omega | (simp; done) | (simp; omega))))⟩
        case measure => simp [intOf] <;> omega
      · have hc' : (e1 != 0) = true := by simpa using hc
        clear hc
        go_wp2_with fail
        go_roundw
        case rel => exact ⟨1, _, _, by omega, by go_num, grown_of (by repeat (first | exact Below.refl _ _ | assumption | refine Below.drew ?_ | refine Below.drewN' ?_ _ | refine below_grow0 _ _ ?_ | refine below_alloc0 _ ?_ | refine Below.alloc ?_ (by first | omega | (simp; done) | (simp; omega)) _ | refine Below.setCell ?_ (by first | omega | (simp; done) | (simp; omega)) _ | refine Below.grow _ _ _ ?_ (by first | omega | (simp; done) | (simp; omega))))⟩
        case measure => simp [intOf] <;> omega
    · by_cases hc : e2 = 0
      · have hc' : (e2 != 0) = false := by rw [hc]; rfl
        have HK := Lib.hid (K2.out hc)
        clear hc
        go_wp2_with (first | (go_at_call 19; refine ((HK.out _ _ (G2.out.below (by repeat (first | exact Below.refl _ _ | assumption | refine Below.drew ?_ | refine Below.drewN' ?_ _ | refine below_grow0 _ _ ?_ | refine below_alloc0 _ ?_ | refine Below.alloc ?_ (by first | omega | (simp; done) | (simp; omega)) _ | refine Below.setCell ?_ (by first | omega | (simp; done) | (simp; omega)) _ | refine Below.grow _ _ _ ?_ (by first | omega | (simp; done) | (simp; omega)))))).1).mono ?_; rintro e w1 ⟨rfl, hb1⟩; obtain ⟨ext1, d1, rfl⟩ := Below.grown_eq _ hb1; clear hb1) | (go_at_call 21; refine ((HK.out _ _ (G2.out.below (by repeat (first | exact Below.refl _ _ | assumption | refine Below.drew ?_ | refine Below.drewN' ?_ _ | refine below_grow0 _ _ ?_ | refine below_alloc0 _ ?_ | refine Below.alloc ?_ (by first | omega | (simp; done) | (simp; omega)) _ | refine Below.setCell ?_ (by first | omega | (simp; done) | (simp; omega)) _ | refine Below.grow _ _ _ ?_ (by first | omega | (simp; done) | (simp; omega)))))).2 _ (G2.out.below (by repeat (first | exact Below.refl _ _ | assumption | refine Below.drew ?_ | refine Below.drewN' ?_ _ | refine below_grow0 _ _ ?_ | refine below_alloc0 _ ?_ | refine Below.alloc ?_ (by first | omega | (simp; done) | (simp; omega)) _ | refine Below.setCell ?_ (by first | omega | (simp; done) | (simp; omega)) _ | refine Below.grow _ _ _ ?_ (by first | omega | (simp; done) | (simp; omega)))))).mono ?_; rintro e w1 ⟨rfl, hb1⟩; obtain ⟨ext2, d2, rfl⟩ := Below.grown_eq _ hb1; clear hb1))
        go_roundw
        case rel => exact ⟨2, _, _, by omega, by go_num, grown_of (by repeat (first | exact Below.refl _ _ | assumption | refine Below.drew ?_ | refine Below.drewN' ?_ _ | refine below_grow0 _ _ ?_ | refine below_alloc0 _ ?_ | refine Below.alloc ?_ (by first | omega | (simp; done) | (simp; omega)) _ | refine Below.setCell ?_ (by first | omega | (simp; done) | (simp; omega)) _ | refine Below.grow _ _ _ ?_ (by first | omega | (simp; done) | (simp; omega))))⟩
        case measure => simp [intOf] <;> omega
      · have hc' : (e2 != 0) = true := by simpa using hc
        clear hc
        go_wp2_with fail
        go_roundw
        case rel => exact ⟨2, _, _, by omega, by go_num, grown_of (by repeat (first | exact Below.refl _ _ | assumption | refine Below.drew ?_ | refine Below.drewN' ?_ _ | refine below_grow0 _ _ ?_ | refine below_alloc0 _ ?_ | refine Below.alloc ?_ (by first | omega | (simp; done) | (simp; omega)) _ | refine Below.setCell ?_ (by first | omega | (simp; done) | (simp; omega)) _ | refine Below.grow _ _ _ ?_ (by first | omega | (simp; done) | (simp; omega))))⟩
        case measure => simp [intOf] <;> omega
    · by_cases hc : e3 = 0
      · have hc' : (e3 != 0) = false := by rw [hc]; rfl
        have HK := Lib.hid (K3.out hc)
        clear hc
        go_wp2_with (first | (go_at_call 19; refine ((HK.out _ _ (G3.out.below (by repeat (first | exact Below.refl _ _ | assumption | refine Below.drew ?_ | refine Below.drewN' ?_ _ | refine below_grow0 _ _ ?_ | refine below_alloc0 _ ?_ | refine Below.alloc ?_ (by first | omega | (simp; done) | (simp; omega)) _ | refine Below.setCell ?_ (by first | omega | (simp; done) | (simp; omega)) _ | refine Below.grow _ _ _ ?_ (by first | omega | (simp; done) | (simp; omega)))))).1).mono ?_; rintro e w1 ⟨rfl, hb1⟩; obtain ⟨ext1, d1, rfl⟩ := Below.grown_eq _ hb1; clear hb1) | (go_at_call 21; refine ((HK.out _ _ (G3.out.below (by repeat (first | exact Below.refl _ _ | assumption | refine Below.drew ?_ | refine Below.drewN' ?_ _ | refine below_grow0 _ _ ?_ | refine below_alloc0 _ ?_ | refine Below.alloc ?_ (by first | omega | (simp; done) | (simp; omega)) _ | refine Below.setCell ?_ (by first | omega | (simp; done) | (simp; omega)) _ | refine Below.grow _ _ _ ?_ (by first | omega | (simp; done) | (simp; omega)))))).2 _ (G3.out.below (by repeat (first | exact Below.refl _ _ | assumption | refine Below.drew ?_ | refine Below.drewN' ?_ _ | refine below_grow0 _ _ ?_ | refine below_alloc0 _ ?_ | refine Below.alloc ?_ (by first | omega | (simp; done) | (simp; omega)) _ | refine Below.setCell ?_ (by first | omega | (simp; done) | (simp; omega)) _ | refine Below.grow _ _ _ ?_ (by first | omega | (simp; done) | (simp; omega)))))).mono ?_; rintro e w1 ⟨rfl, hb1⟩; obtain ⟨ext2, d2, rfl⟩ := Below.grown_eq _ hb1; clear hb1))
        go_roundw
        case rel => exact ⟨3, _, _, by omega, by go_num, grown_of (by repeat (first | exact Below.refl _ _ | assumption | refine Below.drew ?_ | refine Below.drewN' ?_ _ | refine below_grow0 _ _ ?_ | refine below_alloc0 _ ?_ | refine Below.alloc ?_ (by first | omega | (simp; done) | (simp; omega)) _ | refine Below.setCell ?_ (by first | omega | (simp; done) | (simp; omega)) _ | refine Below.grow _ _ _ ?_ (by first | omega | (simp; done) | (simp; omega))))⟩
        case measure => simp [intOf] <;> omega
      · have hc' : (e3 != 0) = true := by simpa using hc
        clear hc
        go_wp2_with fail
        go_roundw
        case rel => exact ⟨3, _, _, by omega, by go_num, grown_of (by repeat (first | exact Below.refl _ _ | assumption | refine Below.drew ?_ | refine Below.drewN' ?_ _ | refine below_grow0 _ _ ?_ | refine below_alloc0 _ ?_ | refine Below.alloc ?_ (by first | omega | (simp; done) | (simp; omega)) _ | refine Below.setCell ?_ (by first | omega | (simp; done) | (simp; omega)) _ | refine Below.grow _ _ _ ?_ (by first | omega | (simp; done) | (simp; omega))))⟩
        case measure => simp [intOf] <;> omega
    · by_cases hc : e2 = 0
      · have hc' : (e2 != 0) = false := by rw [hc]; rfl
        have HK := Lib.hid (K4.out hc)
        clear hc
        go_wp2_with (first | (go_at_call 19; refine ((HK.out _ _ (G4.out.below (by repeat (first | exact Below.refl _ _ | assumption | refine Below.drew ?_ | refine Below.drewN' ?_ _ | refine below_grow0 _ _ ?_ | refine below_alloc0 _ ?_ | refine Below.alloc ?_ (by first | omega | (simp; done) | (simp; omega)) _ | refine Below.setCell ?_ (by first | omega | (simp; done) | (simp; omega)) _ | refine Below.grow _ _ _ ?_ (by first | omega | (simp; done) | (simp; omega)))))).1).mono ?_; rintro e w1 ⟨rfl, hb1⟩; obtain ⟨ext1, d1, rfl⟩ := Below.grown_eq _ hb1; clear hb1) | (go_at_call 21; refine ((HK.out _ _ (G4.out.below (by repeat (first | exact Below.refl _ _ | assumption | refine Below.drew ?_ | refine Below.drewN' ?_ _ | refine below_grow0 _ _ ?_ | refine below_alloc0 _ ?_ | refine Below.alloc ?_ (by first | omega | (simp; done) | (simp; omega)) _ | refine Below.setCell ?_ (by first | omega | (simp; done) | (simp; omega)) _ | refine Below.grow _ _ _ ?_ (by first | omega | (simp; done) | (simp; omega)))))).2 _ (G4.out.below (by repeat (first | exact Below.refl _ _ | assumption | refine Below.drew ?_ | refine Below.drewN' ?_ _ | refine below_grow0 _ _ ?_ | refine below_alloc0 _ ?_ | refine Below.alloc ?_ (by first | omega | (simp; done) | (simp; omega)) _ | refine Below.setCell ?_ (by first | omega | (simp; done) | (simp; omega)) _ | refine Below.grow _ _ _ ?_ (by first | omega | (simp; done) | (simp; omega)))))).mono ?_; rintro e w1 ⟨rfl, hb1⟩; obtain ⟨ext2, d2, rfl⟩ := Below.grown_eq _ hb1; clear hb1))
        go_roundw
        case rel => exact ⟨4, _, _, by omega, by go_num, grown_of (by repeat (first | exact Below.refl _ _ | assumption | refine Below.drew ?_ | refine Below.drewN' ?_ _ | refine below_grow0 _ _ ?_ | refine below_alloc0 _ ?_ | refine Below.alloc ?_ (by first | omega | (simp; done) | (simp; omega)) _ | refine Below.setCell ?_ (by first | omega | (simp; done) | (simp; omega)) _ | refine Below.grow _ _ _ ?_ (by first | omega | (simp; done) | (simp; omega))))⟩
        case measure => simp [intOf] <;> omega
      · have hc' : (e2 != 0) = true := by simpa using hc
        clear hc
        go_wp2_with fail
        go_roundw
        case rel => exact ⟨4, _, _, by omega, by go_num, grown_of (by repeat (first | exact Below.refl _ _ | assumption | refine Below.drew ?_ | refine Below.drewN' ?_ _ | refine below_grow0 _ _ ?_ | refine below_alloc0 _ ?_ | refine Below.alloc ?_ (by first | omega | (simp; done) | (simp; omega)) _ | refine Below.setCell ?_ (by first | omega | (simp; done) | (simp; omega)) _ | refine Below.grow _ _ _ ?_ (by first | omega | (simp; done) | (simp; omega))))⟩
        case measure => simp [intOf] <;> omega
    · go_wp2_with fail
      go_ret
      exact ⟨rfl, (by repeat (first | exact Below.refl _ _ | assumption | refine Below.drew ?_ | refine Below.drewN' ?_ _ | refine below_grow0 _ _ ?_ | refine below_alloc0 _ ?_ | refine Below.alloc ?_ (by first | omega | (simp; done) | (simp; omega)) _ | refine Below.setCell ?_ (by first | omega | (simp; done) | (simp; omega)) _ | refine Below.grow _ _ _ ?_ (by first | omega | (simp; done) | (simp; omega))))⟩
namespace diskOthers
theorem own : ownKnob Try.prog.godebug = none := by kernel_rfl
theorem laidOut : laidOutB Try.prog = true := by kernel_rfl
set_option maxRecDepth 100000 in
set_option maxHeartbeats 1000000 in
theorem lifted (os : Os) (started : os.Started) (H : Type) (enc : TypeId × Value → H) :
    ReturnsInHanded {} Try.checked os 7 .any (Rows.diskOthersSpec.pre6 enc Try.prog Try.f7 Rows.diskOthersRow.domain false) (Rows.diskOthersSpec.post enc Try.prog Try.f7 false true false false) := by
  refine returnsInHanded_of_change_sized (C := Try.checked) own started (by kernel_rfl) Try.func7
    (ChangeSpec.witness6 (enc := enc) (C := Try.checked) false ⟨#[], #[.agg #[.slice none 0 0], .string ByteArray.empty, .string ByteArray.empty, .string ByteArray.empty, .int .i64 0], []⟩ 8 (by kernel_rfl) (by kernel_rfl) (by kernel_rfl) (by kernel_rfl)) ?_
  intro W base args ds gs before hval0 hW0 _ hsz0 _
  have hval : ∀ (j : Nat) t v, Try.f7.params[j]? = some t → args[j]? = some v → Value.okWide Try.prog W .any base t v := hval0
  have hW : DataW.Whole enc Try.prog Try.f7.params.toList Rows.diskOthersSpec.vars false W args.toList ds gs before := hW0
  have hlt : ∀ p ∈ before, p.block < W.heap.size := fun p hp => hW.lt p hp
  have hW1 := hW
  obtain ⟨p, q, hA0, hV, rfl, hfz, hnd⟩ := hW1
  have hA : DataW.TrodAll enc Try.prog W 0 (fun _ => true) true Try.f7.params.toList args.toList ds p := hA0
  obtain ⟨rfl, rfl⟩ := trodVars_none hV
  rw [Try.params7] at hA hval
  obtain ⟨v0, vs0, d0, ds0, p0, q0, hargs, rfl, rfl, h0, r0⟩ := trodAll_cons hA
  obtain ⟨v1, vs1, d1, ds1, p1, q1, rfl, rfl, rfl, h1, r1⟩ := trodAll_cons r0
  obtain ⟨v2, vs2, d2, ds2, p2, q2, rfl, rfl, rfl, h2, r2⟩ := trodAll_cons r1
  obtain ⟨v3, vs3, d3, ds3, p3, q3, rfl, rfl, rfl, h3, r3⟩ := trodAll_cons r2
  obtain ⟨v4, vs4, d4, ds4, p4, q4, rfl, rfl, rfl, h4, r4⟩ := trodAll_cons r3
  obtain ⟨rfl, rfl, rfl⟩ := trodAll_nil r4
  obtain rfl : args = #[v0, v1, v2, v3, v4] := by cases args; simp_all
  have hsz : (DataW.weightsEach Try.prog [40, 9, 9, 9, 3] [d0, d1, d2, d3, d4]).all (· ≤ reachBytes) = true := hsz0
  have close : ∀ e W', (e = Ending.returned (.bool true) ∧ Below W.heap.size W W') → ∃ v, e = .returned v ∧ Rows.diskOthersSpec.post enc Try.prog Try.f7 false true false false W #[v0, v1, v2, v3, v4] v W' :=
    fun e W' ⟨he, hb⟩ => ⟨_, he, law_post laidOut (of_decide_eq_true (by kernel_rfl)) rfl rfl Try.underlying4 hW rfl hb⟩
  clear hA0 hsz0 hval0 hW0 hA hV hW hfz hnd
  obtain ⟨a1, rfl, hd1, _, wf1⟩ := Go.ChangeMaps.open_string Try.underlying9 (hval 1 9 v1 rfl rfl) h1
  have rb1 : a1.size ≤ 140737488351232 := by subst hd1; have := sized_string hsz (j := 1) rfl rfl; simpa [reachBytes] using this
  obtain ⟨a2, rfl, hd2, _, wf2⟩ := Go.ChangeMaps.open_string Try.underlying9 (hval 2 9 v2 rfl rfl) h2
  have rb2 : a2.size ≤ 140737488351232 := by subst hd2; have := sized_string hsz (j := 2) rfl rfl; simpa [reachBytes] using this
  obtain ⟨a3, rfl, hd3, _, wf3⟩ := Go.ChangeMaps.open_string Try.underlying9 (hval 3 9 v3 rfl rfl) h3
  have rb3 : a3.size ≤ 140737488351232 := by subst hd3; have := sized_string hsz (j := 3) rfl rfl; simpa [reachBytes] using this
  obtain ⟨a4, rfl, hd4, _, wf4⟩ := open_int Try.underlying3 (hval 4 3 v4 rfl rfl) h4
  obtain ⟨cs, rfl, _⟩ := okWide_struct Try.underlying40 (hval 0 _ v0 rfl rfl)
  obtain ⟨v, l, hp, hin, hz, _⟩ := open_disk (n := 0) (open_deep 10 h0 (sized_arg hsz 0 rfl rfl))
  obtain rfl : cs = #[v] := by simpa [Value.cells] using congrArg List.toArray hp
  exact (diskOthers_ok v l a1 a2 a3 a4 W hin hz (by omega) (by omega)).mono close
theorem proved : Rows.DiskOthersSaid :=
  OpenClaim.holds_of_wide 7 Try.f7 rfl rfl rfl rfl rfl rfl rfl ⟨rfl, rfl, rfl, rfl, rfl⟩ rfl rfl rfl rfl rfl (by kernel_rfl) Try.func7 (by kernel_rfl)
    (of_decide_eq_true (by kernel_rfl)) (by unfold Func.isWrapper; first | (rw [if_pos (by decide +kernel)]; kernel_rfl) | (rw [if_neg (by decide +kernel)]; exact ⟨rfl, rfl⟩))
    (fun os started H enc _ => lifted os started H enc)
end diskOthers
end Go.Proofs.Ytdfliajginlpiaa
