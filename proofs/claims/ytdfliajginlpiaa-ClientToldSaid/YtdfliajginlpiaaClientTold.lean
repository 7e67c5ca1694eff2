/- The law ClientTold is true for every input; no conditions. -/
import Derived.Test.YtdfliajginlpiaaTell2
import Derived.Test.YtdfliajginlpiaaDeep
namespace Go.Proofs.Ytdfliajginlpiaa
open Go.RowKit Go.ChangeShapes Go.WideShapes Go.ChangeAt
theorem step_app {P : Program} {w : World} {ops : Array Oper} {o : Oper} {a : Act} {K : Act → World → Prop} {Q : Exit → Act → World → Prop} {EE : Prop} (hgd : o.guard = none) (sv x : Operand) (t : TypeId)
    (ho : o.op = .call { callee := .builtin .append, args := #[sv, x], argTypes := #[t, t] })
    {α : Type} {f : α → List Value} {s : Nat} {e : TypeId} {z : Value} {bytes : Nat} (E : El P t e z s bytes) {B : Nat} {v xv : Value} {l m : List α}
    (hs : a.eval sv = v) (hx : a.eval x = xv) (hown : Ow f s e w B v l) (hsrc : Sl f s w xv m) (h1 : ∀ x, ∀ u ∈ f x, u.oneCell' = true)
    (h63 : l.length + m.length ≤ maxLen) (hbytes : (l.length + m.length) * bytes ≤ 140737488355328) (hbase : B ≤ w.heap.size)
    (h : ∀ v' w', Ow f s e w' B v' (l ++ m) → w.grownBy w' v.ownBlock → (v'.ownBlock = v.ownBlock ∨ v'.ownBlock = some w.heap.size) → K (a.put o.dst v') w') : if Region.wanted o (yielded ops a.tmps) = true then Oper.wp P o a w K Q else EE := by
  have hw : Region.wanted o (yielded ops a.tmps) = true := by simp [Region.wanted, hgd]
  rw [if_pos hw]
  exact wp_app w sv x t ho E hs hx hown hsrc h1 h63 hbytes hbase h
theorem bytes_inj {a b : ByteArray} (e : a.toList = b.toList) : a = b := by
  rw [ByteArray.toList_eq, ByteArray.toList_eq] at e
  exact ByteArray.ext (Array.toList_inj.mp e)
set_option maxHeartbeats 4000000 in
theorem clientTold_ok (v v2 : Value) (l : List Entry) (ns : List Note) (p : ByteArray) (w : World) (h : Sl cEntry 3 w v l) (h2 : Sl cNote 3 w v2 ns) (hm : ns.length * 32 ≤ 140737488355328) :
    Calls Try.prog 3 #[v, v2, .string p] w fun e w' => e = .returned (.bool true) ∧ Below w.heap.size w w' := by
  obtain ⟨A, c, rfl, hc1, hc2⟩ := h.form
  obtain ⟨A2, c2, rfl, hc3, hc4⟩ := h2.form
  have H := Lib.hid h
  have H2 := Lib.hid h2
  clear h h2
  have hcl : (cacheL l).length ≤ 60 := by have := cacheK_length l (Nat.min l.length 60); have h2 : Nat.min l.length 60 ≤ 60 := Nat.min_le_right _ _; unfold cacheL; omega
  have HS : Hid (SortedE (cacheL l)) := Lib.hid (cacheK_sorted l (Nat.min l.length 60))
  have HCA := Lib.hid (fun (w' : World) (hs : Sl cEntry 3 w' (.slice A l.length c) l) => caching_is 3 _ l w' hs)
  generalize cacheL l = C at hcl HS HCA
  have hkl := tellL_len 3 C ns
  have HTO := Lib.hid (fun (h : toldB 3 ns p) => look_told HS.out h)
  have HUN := Lib.hid (fun (h : ¬ toldB 3 ns p) => look_untold HS.out h)
  have HT := Lib.hid (fun (W : World) (v v2 : Value) (h : Sl cEntry 3 W v C) (h2 : Sl cNote 3 W v2 ns) => clTell 3 0 v v2 C ns W h h2 (by omega) (by omega))
  generalize tellL 3 C ns = D at *
  go_enter Try.func3, Try.ntmps3
  go_wp2_with (first | (go_at_call 9; refine (HCA.out _ H.out).mono ?_; rintro e w1 ⟨A1, c1, rfl, ho1, hb1⟩; obtain ⟨ext1, d1, rfl⟩ := Below.grown_eq _ hb1; have HO1 := Lib.hid ho1; clear ho1 hb1) | (go_at_call 10; refine (clLook _ _ _ C _ _ ((HO1.out.alloc _).sl) (by omega)).mono ?_; rintro e w2 ⟨rfl, hb2⟩; obtain ⟨ext2, d2, rfl⟩ := Below.grown_eq _ hb2; clear hb2))
  have HC := Lib.hid (fun (W' : World) (hb : Below ((grow w ext1 d1).alloc (.cells #[.int .i64 3, .int .i64 0, .slice A1 C.length c1] 25)).heap.size ((grow w ext1 d1).alloc (.cells #[.int .i64 3, .int .i64 0, .slice A1 C.length c1] 25)) W') => show W'.cell? ⟨w.heap.size + ext1.size, 0, none⟩ = some (.int .i64 3) ∧ W'.cell? ⟨w.heap.size + ext1.size, 1, none⟩ = some (.int .i64 0) ∧ W'.cell? ⟨w.heap.size + ext1.size, 2, none⟩ = some (.slice A1 C.length c1) from
    ⟨(hb.cell (p := ⟨_, 0, none⟩) (by simp)).trans (by go_simp), (hb.cell (p := ⟨_, 1, none⟩) (by simp)).trans (by go_simp), (hb.cell (p := ⟨_, 2, none⟩) (by simp)).trans (by go_simp)⟩)
  have HW := Lib.hid (fun (W' : World) (hb : Below ((grow ((grow w ext1 d1).alloc (.cells #[.int .i64 3, .int .i64 0, .slice A1 C.length c1] 25)) ext2 d2).alloc (.cells #[.string (lookE C p).path, .string (lookE C p).data, .bool (lookE C p).there_] 28)).heap.size ((grow ((grow w ext1 d1).alloc (.cells #[.int .i64 3, .int .i64 0, .slice A1 C.length c1] 25)) ext2 d2).alloc (.cells #[.string (lookE C p).path, .string (lookE C p).data, .bool (lookE C p).there_] 28)) W') => show W'.cell? ⟨w.heap.size + ext1.size + 1 + ext2.size, 0, none⟩ = some (.string (lookE C p).path) ∧ W'.cell? ⟨w.heap.size + ext1.size + 1 + ext2.size, 1, none⟩ = some (.string (lookE C p).data) ∧ W'.cell? ⟨w.heap.size + ext1.size + 1 + ext2.size, 2, none⟩ = some (.bool (lookE C p).there_) from
    ⟨(hb.cell (p := ⟨_, 0, none⟩) (by simp)).trans (by go_simp), (hb.cell (p := ⟨_, 1, none⟩) (by simp)).trans (by go_simp), (hb.cell (p := ⟨_, 2, none⟩) (by simp)).trans (by go_simp)⟩)
  go_region_held3 (fun w' => w'.cell? ⟨w.heap.size + ext1.size, 0, none⟩ = some (.int .i64 3) ∧ w'.cell? ⟨w.heap.size + ext1.size, 1, none⟩ = some (.int .i64 0) ∧ w'.cell? ⟨w.heap.size + ext1.size, 2, none⟩ = some (.slice A1 C.length c1)) (refine ⟨?_, ?_, ?_⟩ <;> go_simp) (first | (refine step_app rfl (.const (.slice none 0 0)) (.tmp 26) _ rfl elNote (B := 0) (m := ns) (by simp [Act.eval]) (by simp [Act.eval]) (Ow.nil _ _ _ _ _) (H2.out.below (by repeat (first | exact Below.refl _ _ | assumption | refine Below.drew ?_ | refine Below.drewN' ?_ _ | refine below_grow0 _ _ ?_ | refine below_alloc0 _ ?_ | refine Below.alloc ?_ (by first | omega | (simp; done) | (simp; omega)) _ | refine Below.setCell ?_ (by first | omega | (simp; done) | (simp; omega)) _ | refine Below.grow _ _ _ ?_ (by first | omega | (simp; done) | (simp; omega))))) cNote_one (by simp [maxLen]; omega) (by simp; omega) (Nat.zero_le _) ?_; intro v4 w4 hown4 hg4 _; rw [List.nil_append] at hown4; obtain ⟨A4, c4, rfl, _⟩ := hown4.form; have HN4 := Lib.hid hown4.sl; obtain ⟨ext4, d4, rfl⟩ := Below.grown_eq _ (Below.of_grown hg4); clear hown4 hg4) | (go_at_call 11; (with_reducible refine (HT.out (World.alloc (grow _ ext4 d4) _) _ _ (by exact (HO1.out.below (by repeat (first | exact Below.refl _ _ | assumption | refine Below.drew ?_ | refine Below.drewN' ?_ _ | refine below_grow0 _ _ ?_ | refine below_alloc0 _ ?_ | refine Below.alloc ?_ (by first | omega | (simp; done) | (simp; omega)) _ | refine Below.setCell ?_ (by first | omega | (simp; done) | (simp; omega)) _ | refine Below.grow _ _ _ ?_ (by first | omega | (simp; done) | (simp; omega))))).sl) (by exact HN4.out.below (by repeat (first | exact Below.refl _ _ | assumption | refine Below.drew ?_ | refine Below.drewN' ?_ _ | refine below_grow0 _ _ ?_ | refine below_alloc0 _ ?_ | refine Below.alloc ?_ (by first | omega | (simp; done) | (simp; omega)) _ | refine Below.setCell ?_ (by first | omega | (simp; done) | (simp; omega)) _ | refine Below.grow _ _ _ ?_ (by first | omega | (simp; done) | (simp; omega)))))).mono ?_); rintro e w5 ⟨A5, c5, rfl, ho5, hb5⟩; obtain ⟨fc0, fc1, fc2⟩ := HC.out w5 (Below.own (by repeat (first | exact Below.refl _ _ | assumption | refine Below.drew ?_ | refine Below.drewN' ?_ _ | refine below_grow0 _ _ ?_ | refine below_alloc0 _ ?_ | refine Below.alloc ?_ (by first | omega | (simp; done) | (simp; omega)) _ | refine Below.setCell ?_ (by first | omega | (simp; done) | (simp; omega)) _ | refine Below.grow _ _ _ ?_ (by first | omega | (simp; done) | (simp; omega)))) hb5); obtain ⟨fw0, fw1, fw2⟩ := HW.out w5 (Below.own (by repeat (first | exact Below.refl _ _ | assumption | refine Below.drew ?_ | refine Below.drewN' ?_ _ | refine below_grow0 _ _ ?_ | refine below_alloc0 _ ?_ | refine Below.alloc ?_ (by first | omega | (simp; done) | (simp; omega)) _ | refine Below.setCell ?_ (by first | omega | (simp; done) | (simp; omega)) _ | refine Below.grow _ _ _ ?_ (by first | omega | (simp; done) | (simp; omega)))) hb5); have fd0 := (hb5.cell (p := ⟨w.heap.size + ext1.size + 1 + ext2.size + 1 + ext4.size, 0, none⟩) (by simp <;> omega)).trans (show _ = some (.int .i64 0) by go_simp); have fd1 := (hb5.cell (p := ⟨w.heap.size + ext1.size + 1 + ext2.size + 1 + ext4.size, 1, none⟩) (by simp <;> omega)).trans (show _ = some (.int .i64 0) by go_simp); have fd2 := (hb5.cell (p := ⟨w.heap.size + ext1.size + 1 + ext2.size + 1 + ext4.size, 2, none⟩) (by simp <;> omega)).trans (show _ = some (.slice none 0 0) by go_simp); have fz0 := (World.frozen?_of_block (a := ⟨w.heap.size + ext1.size + 1 + ext2.size + 1 + ext4.size, 0, none⟩) (hb5.block (w.heap.size + ext1.size + 1 + ext2.size + 1 + ext4.size) (by simp <;> omega))).trans (show _ = false by go_simp); have fz1 := (World.frozen?_of_block (a := ⟨w.heap.size + ext1.size + 1 + ext2.size + 1 + ext4.size, 1, none⟩) (hb5.block (w.heap.size + ext1.size + 1 + ext2.size + 1 + ext4.size) (by simp <;> omega))).trans (show _ = false by go_simp); have fz2 := (World.frozen?_of_block (a := ⟨w.heap.size + ext1.size + 1 + ext2.size + 1 + ext4.size, 2, none⟩) (hb5.block (w.heap.size + ext1.size + 1 + ext2.size + 1 + ext4.size) (by simp <;> omega))).trans (show _ = false by go_simp); have HO5 := Lib.hid ho5; have HB5 := Lib.hid hb5; clear ho5 hb5) | (go_at_call 11; (with_reducible refine (HT.out (grow (World.drew (World.alloc (World.alloc _ _) _)) ext4 d4) _ _ (by exact (HO1.out.below (by repeat (first | exact Below.refl _ _ | assumption | refine Below.drew ?_ | refine Below.drewN' ?_ _ | refine below_grow0 _ _ ?_ | refine below_alloc0 _ ?_ | refine Below.alloc ?_ (by first | omega | (simp; done) | (simp; omega)) _ | refine Below.setCell ?_ (by first | omega | (simp; done) | (simp; omega)) _ | refine Below.grow _ _ _ ?_ (by first | omega | (simp; done) | (simp; omega))))).sl) (by exact HN4.out.below (by repeat (first | exact Below.refl _ _ | assumption | refine Below.drew ?_ | refine Below.drewN' ?_ _ | refine below_grow0 _ _ ?_ | refine below_alloc0 _ ?_ | refine Below.alloc ?_ (by first | omega | (simp; done) | (simp; omega)) _ | refine Below.setCell ?_ (by first | omega | (simp; done) | (simp; omega)) _ | refine Below.grow _ _ _ ?_ (by first | omega | (simp; done) | (simp; omega)))))).mono ?_); rintro e w5 ⟨A5, c5, rfl, ho5, hb5⟩; obtain ⟨fc0, fc1, fc2⟩ := HC.out w5 (Below.own (by repeat (first | exact Below.refl _ _ | assumption | refine Below.drew ?_ | refine Below.drewN' ?_ _ | refine below_grow0 _ _ ?_ | refine below_alloc0 _ ?_ | refine Below.alloc ?_ (by first | omega | (simp; done) | (simp; omega)) _ | refine Below.setCell ?_ (by first | omega | (simp; done) | (simp; omega)) _ | refine Below.grow _ _ _ ?_ (by first | omega | (simp; done) | (simp; omega)))) hb5); obtain ⟨fw0, fw1, fw2⟩ := HW.out w5 (Below.own (by repeat (first | exact Below.refl _ _ | assumption | refine Below.drew ?_ | refine Below.drewN' ?_ _ | refine below_grow0 _ _ ?_ | refine below_alloc0 _ ?_ | refine Below.alloc ?_ (by first | omega | (simp; done) | (simp; omega)) _ | refine Below.setCell ?_ (by first | omega | (simp; done) | (simp; omega)) _ | refine Below.grow _ _ _ ?_ (by first | omega | (simp; done) | (simp; omega)))) hb5); have fd0 := (hb5.cell (p := ⟨w.heap.size + ext1.size + 1 + ext2.size + 1, 0, none⟩) (by simp <;> omega)).trans (show _ = some (.int .i64 0) by go_simp); have fd1 := (hb5.cell (p := ⟨w.heap.size + ext1.size + 1 + ext2.size + 1, 1, none⟩) (by simp <;> omega)).trans (show _ = some (.int .i64 0) by go_simp); have fd2 := (hb5.cell (p := ⟨w.heap.size + ext1.size + 1 + ext2.size + 1, 2, none⟩) (by simp <;> omega)).trans (show _ = some (.slice none 0 0) by go_simp); have fz0 := (World.frozen?_of_block (a := ⟨w.heap.size + ext1.size + 1 + ext2.size + 1, 0, none⟩) (hb5.block (w.heap.size + ext1.size + 1 + ext2.size + 1) (by simp <;> omega))).trans (show _ = false by go_simp); have fz1 := (World.frozen?_of_block (a := ⟨w.heap.size + ext1.size + 1 + ext2.size + 1, 1, none⟩) (hb5.block (w.heap.size + ext1.size + 1 + ext2.size + 1) (by simp <;> omega))).trans (show _ = false by go_simp); have fz2 := (World.frozen?_of_block (a := ⟨w.heap.size + ext1.size + 1 + ext2.size + 1, 2, none⟩) (hb5.block (w.heap.size + ext1.size + 1 + ext2.size + 1) (by simp <;> omega))).trans (show _ = false by go_simp); have HO5 := Lib.hid ho5; have HB5 := Lib.hid hb5; clear ho5 hb5) | (go_at_call 11; (with_reducible refine (HT.out (grow (World.drew _) ext4 d4) _ _ (by exact (HO1.out.below (by repeat (first | exact Below.refl _ _ | assumption | refine Below.drew ?_ | refine Below.drewN' ?_ _ | refine below_grow0 _ _ ?_ | refine below_alloc0 _ ?_ | refine Below.alloc ?_ (by first | omega | (simp; done) | (simp; omega)) _ | refine Below.setCell ?_ (by first | omega | (simp; done) | (simp; omega)) _ | refine Below.grow _ _ _ ?_ (by first | omega | (simp; done) | (simp; omega))))).sl) (by exact HN4.out.below (by repeat (first | exact Below.refl _ _ | assumption | refine Below.drew ?_ | refine Below.drewN' ?_ _ | refine below_grow0 _ _ ?_ | refine below_alloc0 _ ?_ | refine Below.alloc ?_ (by first | omega | (simp; done) | (simp; omega)) _ | refine Below.setCell ?_ (by first | omega | (simp; done) | (simp; omega)) _ | refine Below.grow _ _ _ ?_ (by first | omega | (simp; done) | (simp; omega)))))).mono ?_); rintro e w5 ⟨A5, c5, rfl, ho5, hb5⟩; obtain ⟨fc0, fc1, fc2⟩ := HC.out w5 (Below.own (by repeat (first | exact Below.refl _ _ | assumption | refine Below.drew ?_ | refine Below.drewN' ?_ _ | refine below_grow0 _ _ ?_ | refine below_alloc0 _ ?_ | refine Below.alloc ?_ (by first | omega | (simp; done) | (simp; omega)) _ | refine Below.setCell ?_ (by first | omega | (simp; done) | (simp; omega)) _ | refine Below.grow _ _ _ ?_ (by first | omega | (simp; done) | (simp; omega)))) hb5); obtain ⟨fw0, fw1, fw2⟩ := HW.out w5 (Below.own (by repeat (first | exact Below.refl _ _ | assumption | refine Below.drew ?_ | refine Below.drewN' ?_ _ | refine below_grow0 _ _ ?_ | refine below_alloc0 _ ?_ | refine Below.alloc ?_ (by first | omega | (simp; done) | (simp; omega)) _ | refine Below.setCell ?_ (by first | omega | (simp; done) | (simp; omega)) _ | refine Below.grow _ _ _ ?_ (by first | omega | (simp; done) | (simp; omega)))) hb5); have HO5 := Lib.hid ho5; have HB5 := Lib.hid hb5; clear ho5 hb5))
  · skip
    have hb05 : Below w.heap.size w w5 := Below.own (by repeat (first | exact Below.refl _ _ | assumption | refine Below.drew ?_ | refine Below.drewN' ?_ _ | refine below_grow0 _ _ ?_ | refine below_alloc0 _ ?_ | refine Below.alloc ?_ (by first | omega | (simp; done) | (simp; omega)) _ | refine Below.setCell ?_ (by first | omega | (simp; done) | (simp; omega)) _ | refine Below.grow _ _ _ ?_ (by first | omega | (simp; done) | (simp; omega)))) HB5.out
    have hb6 : Below w.heap.size w (w5.alloc (.cells #[.int .i64 3, .int .i64 0, .slice A5 D.length c5] 25)) := hb05.alloc hb05.size _
    have HSC : Hid (Sl cEntry 3 (w5.alloc (.cells #[.int .i64 3, .int .i64 0, .slice A5 D.length c5] 25)) (.slice A1 C.length c1) C) := Lib.hid ((HO1.out.below (show Below (grow w ext1 d1).heap.size (grow w ext1 d1) w5 from Below.own (by repeat (first | exact Below.refl _ _ | assumption | refine Below.drew ?_ | refine Below.drewN' ?_ _ | refine below_grow0 _ _ ?_ | refine below_alloc0 _ ?_ | refine Below.alloc ?_ (by first | omega | (simp; done) | (simp; omega)) _ | refine Below.setCell ?_ (by first | omega | (simp; done) | (simp; omega)) _ | refine Below.grow _ _ _ ?_ (by first | omega | (simp; done) | (simp; omega)))) HB5.out)).sl.alloc _)
    have HSD : Hid (Sl cEntry 3 (w5.alloc (.cells #[.int .i64 3, .int .i64 0, .slice A5 D.length c5] 25)) (.slice A5 D.length c5) D) := Lib.hid (HO5.out.sl.alloc _)
    have gd0 : (w5.alloc (.cells #[.int .i64 3, .int .i64 0, .slice A5 D.length c5] 25)).cell? ⟨w5.heap.size, 0, none⟩ = some (.int .i64 3) := by go_simp
    have gd1 : (w5.alloc (.cells #[.int .i64 3, .int .i64 0, .slice A5 D.length c5] 25)).cell? ⟨w5.heap.size, 1, none⟩ = some (.int .i64 0) := by go_simp
    have gd2 : (w5.alloc (.cells #[.int .i64 3, .int .i64 0, .slice A5 D.length c5] 25)).cell? ⟨w5.heap.size, 2, none⟩ = some (.slice A5 D.length c5) := by go_simp
    have gc0 : (w5.alloc (.cells #[.int .i64 3, .int .i64 0, .slice A5 D.length c5] 25)).cell? ⟨w.heap.size + ext1.size, 0, none⟩ = some (.int .i64 3) := by go_simp
    have gc1 : (w5.alloc (.cells #[.int .i64 3, .int .i64 0, .slice A5 D.length c5] 25)).cell? ⟨w.heap.size + ext1.size, 1, none⟩ = some (.int .i64 0) := by go_simp
    have gc2 : (w5.alloc (.cells #[.int .i64 3, .int .i64 0, .slice A5 D.length c5] 25)).cell? ⟨w.heap.size + ext1.size, 2, none⟩ = some (.slice A1 C.length c1) := by go_simp
    have gw0 : (w5.alloc (.cells #[.int .i64 3, .int .i64 0, .slice A5 D.length c5] 25)).cell? ⟨w.heap.size + ext1.size + 1 + ext2.size, 0, none⟩ = some (.string (lookE C p).path) := by go_simp
    have gw1 : (w5.alloc (.cells #[.int .i64 3, .int .i64 0, .slice A5 D.length c5] 25)).cell? ⟨w.heap.size + ext1.size + 1 + ext2.size, 1, none⟩ = some (.string (lookE C p).data) := by go_simp
    have gw2 : (w5.alloc (.cells #[.int .i64 3, .int .i64 0, .slice A5 D.length c5] 25)).cell? ⟨w.heap.size + ext1.size + 1 + ext2.size, 2, none⟩ = some (.bool (lookE C p).there_) := by go_simp
    clear fc0 fc1 fc2 fw0 fw1 fw2 hb05 HO5 HB5 HN4
    generalize (w5.alloc (.cells #[.int .i64 3, .int .i64 0, .slice A5 D.length c5] 25)) = w6 at *
    generalize w5.heap.size = bd at *
    generalize w.heap.size + ext1.size + 1 + ext2.size = bw at *
    generalize w.heap.size + ext1.size = bc at *
    clear HC HW
    go_wp2_with fail
    refine (clLook _ _ _ D _ _ HSD.out (by omega)).mono ?_
    rintro e w7 ⟨rfl, hb7⟩
    have kc0 := (hb7.cell (p := ⟨bc, 0, none⟩) (World.block_lt_of_cell? w6 _ gc0)).trans gc0
    have kc1 := (hb7.cell (p := ⟨bc, 1, none⟩) (World.block_lt_of_cell? w6 _ gc1)).trans gc1
    have kc2 := (hb7.cell (p := ⟨bc, 2, none⟩) (World.block_lt_of_cell? w6 _ gc2)).trans gc2
    have kw0 := (hb7.cell (p := ⟨bw, 0, none⟩) (World.block_lt_of_cell? w6 _ gw0)).trans gw0
    have kw1 := (hb7.cell (p := ⟨bw, 1, none⟩) (World.block_lt_of_cell? w6 _ gw1)).trans gw1
    have kw2 := (hb7.cell (p := ⟨bw, 2, none⟩) (World.block_lt_of_cell? w6 _ gw2)).trans gw2
    have hb70 : Below w.heap.size w w7 := Below.own hb6 hb7
    have HSC7 := Lib.hid (HSC.out.below hb7)
    clear gc0 gc1 gc2 gw0 gw1 gw2 gd0 gd1 gd2 hb6 hb7 HSC HSD
    go_wp2_with fail
    refine (clLook _ _ _ C _ _ (HSC7.out.alloc _) (by omega)).mono ?_
    rintro e w8 ⟨rfl, hb8⟩
    have m0 := (hb8.cell (p := ⟨w7.heap.size, 0, none⟩) (by simp)).trans (show _ = some (.string (lookE D p).path) by go_simp)
    have m1 := (hb8.cell (p := ⟨w7.heap.size, 1, none⟩) (by simp)).trans (show _ = some (.string (lookE D p).data) by go_simp)
    have m2 := (hb8.cell (p := ⟨w7.heap.size, 2, none⟩) (by simp)).trans (show _ = some (.bool (lookE D p).there_) by go_simp)
    have hbw7 : bw < w7.heap.size := World.block_lt_of_cell? w7 _ kw0
    have q0 := (hb8.cell (p := ⟨bw, 0, none⟩) (by simp; omega)).trans (show _ = some (.string (lookE C p).path) by go_simp)
    have q1 := (hb8.cell (p := ⟨bw, 1, none⟩) (by simp; omega)).trans (show _ = some (.string (lookE C p).data) by go_simp)
    have q2 := (hb8.cell (p := ⟨bw, 2, none⟩) (by simp; omega)).trans (show _ = some (.bool (lookE C p).there_) by go_simp)
    have hb80 : Below w.heap.size w w8 := Below.own (hb70.alloc hb70.size _) hb8
    have HB8 := Lib.hid hb80
    generalize w7.heap.size = bn at *
    clear kc0 kc1 kc2 kw0 kw1 kw2 hb70 hb8 hb80 HSC7 hbw7
    go_wp2_with fail
    go_loopw [15, 16] (fun t i wr => ∃ (k : Nat) (b : Bool), k ≤ ns.length ∧ i = .int .i64 k ∧ t = .bool b ∧ wr = w8.alloc (.cells #[.string (lookE C p).path, .string (lookE C p).data, .bool (lookE C p).there_] 28) ∧ Hid ((b = true → toldB 3 ns p) ∧ ∀ (j : Nat) (x : Note), j < k → ns[j]? = some x → hitsB 3 x = true → x.path = p → b = true)) (fun _ i _ => ns.length - (intOf i).toNat)
    case atStart => exact ⟨0, false, Nat.zero_le _, rfl, rfl, rfl, Lib.hid ⟨by simp, fun j x hj => absurd hj (by omega)⟩⟩
    case round =>
      obtain ⟨k, b, hk, rfl, rfl, rfl, hb⟩ := hrel
      by_cases hlt : k < ns.length
      · have hx : ns[k]? = some (ns[k]'hlt) := List.getElem?_eq_getElem _
        obtain ⟨bx, ox, rfl, hbx, x0, x1, x2⟩ := (H2.out.below HB8.out).Note_at hx
        generalize ns[k]'hlt = x at *
        have HX := Lib.hid hx
        clear hx
        have HNO := Lib.hid (fun (h : hitsB 3 x = true → x.path = p → False) (hb0 : b = false) => show (b = true → toldB 3 ns p) ∧ ∀ (j : Nat) (y : Note), j < k + 1 → ns[j]? = some y → hitsB 3 y = true → y.path = p → b = true from ⟨hb.out.1, fun j y hj hy h1 h2 => by
          rcases Nat.lt_or_ge j k with h' | h'
          · exact hb.out.2 j y h' hy h1 h2
          · obtain rfl : j = k := by omega
            rw [HX.out] at hy
            cases hy
            exact (h h1 h2).elim⟩)
        cases b with
        | true =>
          go_wp2_with fail
          go_roundw
          case rel => exact ⟨k + 1, true, by omega, by go_num, (by first | rfl | (simp [*]; done)), (by first | rfl | trivial), Lib.hid ⟨hb.out.1, fun _ _ _ _ _ _ => rfl⟩⟩
          case measure => simp [intOf]; omega
        | false =>
          by_cases hs : x.session = 3
          · by_cases h4 : x.kind = 4
            · have HN1 := Lib.hid (HNO.out (fun h => by simp [hitsB, h4] at h) rfl)
              go_wp2_with fail
              go_roundw
              case rel => exact ⟨k + 1, false, by omega, by go_num, (by first | rfl | (simp [*]; done)), (by first | rfl | trivial), HN1⟩
              case measure => simp [intOf]; omega
            · by_cases hp : x.path = p
              · have HT1 := Lib.hid (show toldB 3 ns p from ⟨x, List.mem_of_getElem? HX.out, by simp [hitsB, hs, h4], hp⟩)
                go_wp2_with fail
                go_roundw
                case rel => exact ⟨k + 1, true, by omega, by go_num, (by first | rfl | (simp [*]; done)), (by first | rfl | trivial), Lib.hid ⟨fun _ => HT1.out, fun _ _ _ _ _ _ => rfl⟩⟩
                case measure => simp [intOf]; omega
              · have HN1 := Lib.hid (HNO.out (fun _ h => hp h) rfl)
                have hpt : ¬ x.path.toList = p.toList := fun e => hp (bytes_inj e)
                go_wp2_with fail
                go_roundw
                case rel => exact ⟨k + 1, false, by omega, by go_num, (by first | rfl | (simp [*]; done)), (by first | rfl | trivial), HN1⟩
                case measure => simp [intOf]; omega
          · have HN1 := Lib.hid (HNO.out (fun h => by simp [hitsB, hs] at h) rfl)
            go_wp2_with fail
            go_roundw
            case rel => exact ⟨k + 1, false, by omega, by go_num, (by first | rfl | (simp [*]; done)), (by first | rfl | trivial), HN1⟩
            case measure => simp [intOf]; omega
      · have HF := Lib.hid (show (b = true ∧ toldB 3 ns p) ∨ (b = false ∧ ¬ toldB 3 ns p) from by
          cases b with
          | true => exact .inl ⟨rfl, hb.out.1 rfl⟩
          | false =>
            refine .inr ⟨rfl, ?_⟩
            rintro ⟨x, hx, h1, h2⟩
            obtain ⟨j, hj⟩ := List.getElem?_of_mem hx
            have := hb.out.2 j x (by have := (List.getElem?_eq_some_iff.1 hj).1; omega) hj h1 h2
            cases this)
        rcases HF.out with ⟨rfl, ht⟩ | ⟨rfl, ht⟩
        · obtain ⟨e1, e2⟩ := HTO.out ht
          rw [show noEntry = ⟨⟨#[]⟩, ⟨#[]⟩, false⟩ from rfl] at e2
          simp only [e1, e2] at m0 m1 m2 ⊢
          clear ht e1 e2
          go_wp2_with (first | (go_at_call 12; refine (starts_any _).mono ?_; rintro e w9 ⟨rfl, hb9⟩; obtain ⟨ext9, d9, rfl⟩ := Below.grown_eq _ hb9; clear hb9))
          all_goals
            have hb88 := HB8.out
            exact bodyPost_ret (v := .bool true) (by simp [results, Try.results3, go_sem]) rfl ⟨rfl, (by repeat (first | exact Below.refl _ _ | assumption | refine Below.drew ?_ | refine Below.drewN' ?_ _ | refine below_grow0 _ _ ?_ | refine below_alloc0 _ ?_ | refine Below.alloc ?_ (by first | omega | (simp; done) | (simp; omega)) _ | refine Below.setCell ?_ (by first | omega | (simp; done) | (simp; omega)) _ | refine Below.grow _ _ _ ?_ (by first | omega | (simp; done) | (simp; omega))))⟩
        · obtain ⟨e1, e2⟩ := HUN.out ht
          simp only [e1, e2] at m0 m1 m2 ⊢
          clear ht e1 e2
          go_wp2_with (first | (go_at_call 12; refine (starts_any _).mono ?_; rintro e w9 ⟨rfl, hb9⟩; obtain ⟨ext9, d9, rfl⟩ := Below.grown_eq _ hb9; clear hb9))
          all_goals
            have hb88 := HB8.out
            exact bodyPost_ret (v := .bool true) (by simp [results, Try.results3, go_sem]) rfl ⟨rfl, (by repeat (first | exact Below.refl _ _ | assumption | refine Below.drew ?_ | refine Below.drewN' ?_ _ | refine below_grow0 _ _ ?_ | refine below_alloc0 _ ?_ | refine Below.alloc ?_ (by first | omega | (simp; done) | (simp; omega)) _ | refine Below.setCell ?_ (by first | omega | (simp; done) | (simp; omega)) _ | refine Below.grow _ _ _ ?_ (by first | omega | (simp; done) | (simp; omega))))⟩
  · skip
    have hg6 : w5.grownBy (w5.setCells (w.heap.size + ext1.size + 1 + ext2.size + 1 + ext4.size) 0 [.int .i64 3, .int .i64 0, .slice A5 D.length c5]) (some (w.heap.size + ext1.size + 1 + ext2.size + 1 + ext4.size)) := grownBy_setCells _ _ _ _
    have gd0 : (w5.setCells (w.heap.size + ext1.size + 1 + ext2.size + 1 + ext4.size) 0 [.int .i64 3, .int .i64 0, .slice A5 D.length c5]).cell? ⟨w.heap.size + ext1.size + 1 + ext2.size + 1 + ext4.size, 0, none⟩ = some (.int .i64 3) := by simp [World.setCells, go_sem, fd0, fd1, fd2]
    have gd1 : (w5.setCells (w.heap.size + ext1.size + 1 + ext2.size + 1 + ext4.size) 0 [.int .i64 3, .int .i64 0, .slice A5 D.length c5]).cell? ⟨w.heap.size + ext1.size + 1 + ext2.size + 1 + ext4.size, 1, none⟩ = some (.int .i64 0) := by simp [World.setCells, go_sem, fd0, fd1, fd2]
    have gd2 : (w5.setCells (w.heap.size + ext1.size + 1 + ext2.size + 1 + ext4.size) 0 [.int .i64 3, .int .i64 0, .slice A5 D.length c5]).cell? ⟨w.heap.size + ext1.size + 1 + ext2.size + 1 + ext4.size, 2, none⟩ = some (.slice A5 D.length c5) := by simp [World.setCells, go_sem, fd0, fd1, fd2]
    have hc5 : w.heap.size + ext1.size < w5.heap.size := World.block_lt_of_cell? w5 _ fc0
    have hw5 : w.heap.size + ext1.size + 1 + ext2.size < w5.heap.size := World.block_lt_of_cell? w5 _ fw0
    have gc0 := (World.cell?_of_block (a := ⟨w.heap.size + ext1.size, 0, none⟩) (hg6.block (w.heap.size + ext1.size) hc5 (by intro e; injection e with e; omega))).trans fc0
    have gc1 := (World.cell?_of_block (a := ⟨w.heap.size + ext1.size, 1, none⟩) (hg6.block (w.heap.size + ext1.size) hc5 (by intro e; injection e with e; omega))).trans fc1
    have gc2 := (World.cell?_of_block (a := ⟨w.heap.size + ext1.size, 2, none⟩) (hg6.block (w.heap.size + ext1.size) hc5 (by intro e; injection e with e; omega))).trans fc2
    have gw0 := (World.cell?_of_block (a := ⟨w.heap.size + ext1.size + 1 + ext2.size, 0, none⟩) (hg6.block (w.heap.size + ext1.size + 1 + ext2.size) hw5 (by intro e; injection e with e; omega))).trans fw0
    have gw1 := (World.cell?_of_block (a := ⟨w.heap.size + ext1.size + 1 + ext2.size, 1, none⟩) (hg6.block (w.heap.size + ext1.size + 1 + ext2.size) hw5 (by intro e; injection e with e; omega))).trans fw1
    have gw2 := (World.cell?_of_block (a := ⟨w.heap.size + ext1.size + 1 + ext2.size, 2, none⟩) (hg6.block (w.heap.size + ext1.size + 1 + ext2.size) hw5 (by intro e; injection e with e; omega))).trans fw2
    have hb05 : Below w.heap.size w w5 := Below.own (by repeat (first | exact Below.refl _ _ | assumption | refine Below.drew ?_ | refine Below.drewN' ?_ _ | refine below_grow0 _ _ ?_ | refine below_alloc0 _ ?_ | refine Below.alloc ?_ (by first | omega | (simp; done) | (simp; omega)) _ | refine Below.setCell ?_ (by first | omega | (simp; done) | (simp; omega)) _ | refine Below.grow _ _ _ ?_ (by first | omega | (simp; done) | (simp; omega)))) HB5.out
    have hb6 : Below w.heap.size w (w5.setCells (w.heap.size + ext1.size + 1 + ext2.size + 1 + ext4.size) 0 [.int .i64 3, .int .i64 0, .slice A5 D.length c5]) := hb05.grown hg6 hb05.size (by rintro k ⟨⟩; omega)
    have HSC : Hid (Sl cEntry 3 (w5.setCells (w.heap.size + ext1.size + 1 + ext2.size + 1 + ext4.size) 0 [.int .i64 3, .int .i64 0, .slice A5 D.length c5]) (.slice A1 C.length c1) C) := Lib.hid ((HO1.out.below (show Below (grow w ext1 d1).heap.size (grow w ext1 d1) w5 from Below.own (by repeat (first | exact Below.refl _ _ | assumption | refine Below.drew ?_ | refine Below.drewN' ?_ _ | refine below_grow0 _ _ ?_ | refine below_alloc0 _ ?_ | refine Below.alloc ?_ (by first | omega | (simp; done) | (simp; omega)) _ | refine Below.setCell ?_ (by first | omega | (simp; done) | (simp; omega)) _ | refine Below.grow _ _ _ ?_ (by first | omega | (simp; done) | (simp; omega)))) HB5.out)).kept hg6 (.inr (by intro e; have := (Ow.own_in HO1.out e).2; simp at this; omega))).sl
    have HSD : Hid (Sl cEntry 3 (w5.setCells (w.heap.size + ext1.size + 1 + ext2.size + 1 + ext4.size) 0 [.int .i64 3, .int .i64 0, .slice A5 D.length c5]) (.slice A5 D.length c5) D) := Lib.hid (HO5.out.kept hg6 (.inr (by intro e; have := (Ow.own_in HO5.out e).1; simp at this; omega))).sl
    rw [show ((w5.setCell ⟨w.heap.size + ext1.size + 1 + ext2.size + 1 + ext4.size, 0, none⟩ (.int .i64 3)).setCell ⟨w.heap.size + ext1.size + 1 + ext2.size + 1 + ext4.size, 1, none⟩ (.int .i64 0)).setCell ⟨w.heap.size + ext1.size + 1 + ext2.size + 1 + ext4.size, 2, none⟩ (.slice A5 D.length c5) = (w5.setCells (w.heap.size + ext1.size + 1 + ext2.size + 1 + ext4.size) 0 [.int .i64 3, .int .i64 0, .slice A5 D.length c5]) from rfl]
    clear hg6 fd0 fd1 fd2 fz0 fz1 fz2 fc0 fc1 fc2 fw0 fw1 fw2 hc5 hw5 hb05 HO5 HB5 HN4
    generalize (w5.setCells (w.heap.size + ext1.size + 1 + ext2.size + 1 + ext4.size) 0 [.int .i64 3, .int .i64 0, .slice A5 D.length c5]) = w6 at *
    generalize w.heap.size + ext1.size + 1 + ext2.size + 1 + ext4.size = bd at *
    generalize w.heap.size + ext1.size + 1 + ext2.size = bw at *
    generalize w.heap.size + ext1.size = bc at *
    clear HC HW
    go_wp2_with fail
    refine (clLook _ _ _ D _ _ HSD.out (by omega)).mono ?_
    rintro e w7 ⟨rfl, hb7⟩
    have kc0 := (hb7.cell (p := ⟨bc, 0, none⟩) (World.block_lt_of_cell? w6 _ gc0)).trans gc0
    have kc1 := (hb7.cell (p := ⟨bc, 1, none⟩) (World.block_lt_of_cell? w6 _ gc1)).trans gc1
    have kc2 := (hb7.cell (p := ⟨bc, 2, none⟩) (World.block_lt_of_cell? w6 _ gc2)).trans gc2
    have kw0 := (hb7.cell (p := ⟨bw, 0, none⟩) (World.block_lt_of_cell? w6 _ gw0)).trans gw0
    have kw1 := (hb7.cell (p := ⟨bw, 1, none⟩) (World.block_lt_of_cell? w6 _ gw1)).trans gw1
    have kw2 := (hb7.cell (p := ⟨bw, 2, none⟩) (World.block_lt_of_cell? w6 _ gw2)).trans gw2
    have hb70 : Below w.heap.size w w7 := Below.own hb6 hb7
    have HSC7 := Lib.hid (HSC.out.below hb7)
    clear gc0 gc1 gc2 gw0 gw1 gw2 gd0 gd1 gd2 hb6 hb7 HSC HSD
    go_wp2_with fail
    refine (clLook _ _ _ C _ _ (HSC7.out.alloc _) (by omega)).mono ?_
    rintro e w8 ⟨rfl, hb8⟩
    have m0 := (hb8.cell (p := ⟨w7.heap.size, 0, none⟩) (by simp)).trans (show _ = some (.string (lookE D p).path) by go_simp)
    have m1 := (hb8.cell (p := ⟨w7.heap.size, 1, none⟩) (by simp)).trans (show _ = some (.string (lookE D p).data) by go_simp)
    have m2 := (hb8.cell (p := ⟨w7.heap.size, 2, none⟩) (by simp)).trans (show _ = some (.bool (lookE D p).there_) by go_simp)
    have hbw7 : bw < w7.heap.size := World.block_lt_of_cell? w7 _ kw0
    have q0 := (hb8.cell (p := ⟨bw, 0, none⟩) (by simp; omega)).trans (show _ = some (.string (lookE C p).path) by go_simp)
    have q1 := (hb8.cell (p := ⟨bw, 1, none⟩) (by simp; omega)).trans (show _ = some (.string (lookE C p).data) by go_simp)
    have q2 := (hb8.cell (p := ⟨bw, 2, none⟩) (by simp; omega)).trans (show _ = some (.bool (lookE C p).there_) by go_simp)
    have hb80 : Below w.heap.size w w8 := Below.own (hb70.alloc hb70.size _) hb8
    have HB8 := Lib.hid hb80
    generalize w7.heap.size = bn at *
    clear kc0 kc1 kc2 kw0 kw1 kw2 hb70 hb8 hb80 HSC7 hbw7
    go_wp2_with fail
    go_loopw [15, 16] (fun t i wr => ∃ (k : Nat) (b : Bool), k ≤ ns.length ∧ i = .int .i64 k ∧ t = .bool b ∧ wr = w8.alloc (.cells #[.string (lookE C p).path, .string (lookE C p).data, .bool (lookE C p).there_] 28) ∧ Hid ((b = true → toldB 3 ns p) ∧ ∀ (j : Nat) (x : Note), j < k → ns[j]? = some x → hitsB 3 x = true → x.path = p → b = true)) (fun _ i _ => ns.length - (intOf i).toNat)
    case atStart => exact ⟨0, false, Nat.zero_le _, rfl, rfl, rfl, Lib.hid ⟨by simp, fun j x hj => absurd hj (by omega)⟩⟩
    case round =>
      obtain ⟨k, b, hk, rfl, rfl, rfl, hb⟩ := hrel
      by_cases hlt : k < ns.length
      · have hx : ns[k]? = some (ns[k]'hlt) := List.getElem?_eq_getElem _
        obtain ⟨bx, ox, rfl, hbx, x0, x1, x2⟩ := (H2.out.below HB8.out).Note_at hx
        generalize ns[k]'hlt = x at *
        have HX := Lib.hid hx
        clear hx
        have HNO := Lib.hid (fun (h : hitsB 3 x = true → x.path = p → False) (hb0 : b = false) => show (b = true → toldB 3 ns p) ∧ ∀ (j : Nat) (y : Note), j < k + 1 → ns[j]? = some y → hitsB 3 y = true → y.path = p → b = true from ⟨hb.out.1, fun j y hj hy h1 h2 => by
          rcases Nat.lt_or_ge j k with h' | h'
          · exact hb.out.2 j y h' hy h1 h2
          · obtain rfl : j = k := by omega
            rw [HX.out] at hy
            cases hy
            exact (h h1 h2).elim⟩)
        cases b with
        | true =>
          go_wp2_with fail
          go_roundw
          case rel => exact ⟨k + 1, true, by omega, by go_num, (by first | rfl | (simp [*]; done)), (by first | rfl | trivial), Lib.hid ⟨hb.out.1, fun _ _ _ _ _ _ => rfl⟩⟩
          case measure => simp [intOf]; omega
        | false =>
          by_cases hs : x.session = 3
          · by_cases h4 : x.kind = 4
            · have HN1 := Lib.hid (HNO.out (fun h => by simp [hitsB, h4] at h) rfl)
              go_wp2_with fail
              go_roundw
              case rel => exact ⟨k + 1, false, by omega, by go_num, (by first | rfl | (simp [*]; done)), (by first | rfl | trivial), HN1⟩
              case measure => simp [intOf]; omega
            · by_cases hp : x.path = p
              · have HT1 := Lib.hid (show toldB 3 ns p from ⟨x, List.mem_of_getElem? HX.out, by simp [hitsB, hs, h4], hp⟩)
                go_wp2_with fail
                go_roundw
                case rel => exact ⟨k + 1, true, by omega, by go_num, (by first | rfl | (simp [*]; done)), (by first | rfl | trivial), Lib.hid ⟨fun _ => HT1.out, fun _ _ _ _ _ _ => rfl⟩⟩
                case measure => simp [intOf]; omega
              · have HN1 := Lib.hid (HNO.out (fun _ h => hp h) rfl)
                have hpt : ¬ x.path.toList = p.toList := fun e => hp (bytes_inj e)
                go_wp2_with fail
                go_roundw
                case rel => exact ⟨k + 1, false, by omega, by go_num, (by first | rfl | (simp [*]; done)), (by first | rfl | trivial), HN1⟩
                case measure => simp [intOf]; omega
          · have HN1 := Lib.hid (HNO.out (fun h => by simp [hitsB, hs] at h) rfl)
            go_wp2_with fail
            go_roundw
            case rel => exact ⟨k + 1, false, by omega, by go_num, (by first | rfl | (simp [*]; done)), (by first | rfl | trivial), HN1⟩
            case measure => simp [intOf]; omega
      · have HF := Lib.hid (show (b = true ∧ toldB 3 ns p) ∨ (b = false ∧ ¬ toldB 3 ns p) from by
          cases b with
          | true => exact .inl ⟨rfl, hb.out.1 rfl⟩
          | false =>
            refine .inr ⟨rfl, ?_⟩
            rintro ⟨x, hx, h1, h2⟩
            obtain ⟨j, hj⟩ := List.getElem?_of_mem hx
            have := hb.out.2 j x (by have := (List.getElem?_eq_some_iff.1 hj).1; omega) hj h1 h2
            cases this)
        rcases HF.out with ⟨rfl, ht⟩ | ⟨rfl, ht⟩
        · obtain ⟨e1, e2⟩ := HTO.out ht
          rw [show noEntry = ⟨⟨#[]⟩, ⟨#[]⟩, false⟩ from rfl] at e2
          simp only [e1, e2] at m0 m1 m2 ⊢
          clear ht e1 e2
          go_wp2_with (first | (go_at_call 12; refine (starts_any _).mono ?_; rintro e w9 ⟨rfl, hb9⟩; obtain ⟨ext9, d9, rfl⟩ := Below.grown_eq _ hb9; clear hb9))
          all_goals
            have hb88 := HB8.out
            exact bodyPost_ret (v := .bool true) (by simp [results, Try.results3, go_sem]) rfl ⟨rfl, (by repeat (first | exact Below.refl _ _ | assumption | refine Below.drew ?_ | refine Below.drewN' ?_ _ | refine below_grow0 _ _ ?_ | refine below_alloc0 _ ?_ | refine Below.alloc ?_ (by first | omega | (simp; done) | (simp; omega)) _ | refine Below.setCell ?_ (by first | omega | (simp; done) | (simp; omega)) _ | refine Below.grow _ _ _ ?_ (by first | omega | (simp; done) | (simp; omega))))⟩
        · obtain ⟨e1, e2⟩ := HUN.out ht
          simp only [e1, e2] at m0 m1 m2 ⊢
          clear ht e1 e2
          go_wp2_with (first | (go_at_call 12; refine (starts_any _).mono ?_; rintro e w9 ⟨rfl, hb9⟩; obtain ⟨ext9, d9, rfl⟩ := Below.grown_eq _ hb9; clear hb9))
          all_goals
            have hb88 := HB8.out
            exact bodyPost_ret (v := .bool true) (by simp [results, Try.results3, go_sem]) rfl ⟨rfl, (by repeat (first | exact Below.refl _ _ | assumption | refine Below.drew ?_ | refine Below.drewN' ?_ _ | refine below_grow0 _ _ ?_ | refine below_alloc0 _ ?_ | refine Below.alloc ?_ (by first | omega | (simp; done) | (simp; omega)) _ | refine Below.setCell ?_ (by first | omega | (simp; done) | (simp; omega)) _ | refine Below.grow _ _ _ ?_ (by first | omega | (simp; done) | (simp; omega))))⟩
  · skip
    have hg6 : w5.grownBy (w5.setCells (w.heap.size + ext1.size + 1 + ext2.size + 1) 0 [.int .i64 3, .int .i64 0, .slice A5 D.length c5]) (some (w.heap.size + ext1.size + 1 + ext2.size + 1)) := grownBy_setCells _ _ _ _
    have gd0 : (w5.setCells (w.heap.size + ext1.size + 1 + ext2.size + 1) 0 [.int .i64 3, .int .i64 0, .slice A5 D.length c5]).cell? ⟨w.heap.size + ext1.size + 1 + ext2.size + 1, 0, none⟩ = some (.int .i64 3) := by simp [World.setCells, go_sem, fd0, fd1, fd2]
    have gd1 : (w5.setCells (w.heap.size + ext1.size + 1 + ext2.size + 1) 0 [.int .i64 3, .int .i64 0, .slice A5 D.length c5]).cell? ⟨w.heap.size + ext1.size + 1 + ext2.size + 1, 1, none⟩ = some (.int .i64 0) := by simp [World.setCells, go_sem, fd0, fd1, fd2]
    have gd2 : (w5.setCells (w.heap.size + ext1.size + 1 + ext2.size + 1) 0 [.int .i64 3, .int .i64 0, .slice A5 D.length c5]).cell? ⟨w.heap.size + ext1.size + 1 + ext2.size + 1, 2, none⟩ = some (.slice A5 D.length c5) := by simp [World.setCells, go_sem, fd0, fd1, fd2]
    have hc5 : w.heap.size + ext1.size < w5.heap.size := World.block_lt_of_cell? w5 _ fc0
    have hw5 : w.heap.size + ext1.size + 1 + ext2.size < w5.heap.size := World.block_lt_of_cell? w5 _ fw0
    have gc0 := (World.cell?_of_block (a := ⟨w.heap.size + ext1.size, 0, none⟩) (hg6.block (w.heap.size + ext1.size) hc5 (by intro e; injection e with e; omega))).trans fc0
    have gc1 := (World.cell?_of_block (a := ⟨w.heap.size + ext1.size, 1, none⟩) (hg6.block (w.heap.size + ext1.size) hc5 (by intro e; injection e with e; omega))).trans fc1
    have gc2 := (World.cell?_of_block (a := ⟨w.heap.size + ext1.size, 2, none⟩) (hg6.block (w.heap.size + ext1.size) hc5 (by intro e; injection e with e; omega))).trans fc2
    have gw0 := (World.cell?_of_block (a := ⟨w.heap.size + ext1.size + 1 + ext2.size, 0, none⟩) (hg6.block (w.heap.size + ext1.size + 1 + ext2.size) hw5 (by intro e; injection e with e; omega))).trans fw0
    have gw1 := (World.cell?_of_block (a := ⟨w.heap.size + ext1.size + 1 + ext2.size, 1, none⟩) (hg6.block (w.heap.size + ext1.size + 1 + ext2.size) hw5 (by intro e; injection e with e; omega))).trans fw1
    have gw2 := (World.cell?_of_block (a := ⟨w.heap.size + ext1.size + 1 + ext2.size, 2, none⟩) (hg6.block (w.heap.size + ext1.size + 1 + ext2.size) hw5 (by intro e; injection e with e; omega))).trans fw2
    have hb05 : Below w.heap.size w w5 := Below.own (by repeat (first | exact Below.refl _ _ | assumption | refine Below.drew ?_ | refine Below.drewN' ?_ _ | refine below_grow0 _ _ ?_ | refine below_alloc0 _ ?_ | refine Below.alloc ?_ (by first | omega | (simp; done) | (simp; omega)) _ | refine Below.setCell ?_ (by first | omega | (simp; done) | (simp; omega)) _ | refine Below.grow _ _ _ ?_ (by first | omega | (simp; done) | (simp; omega)))) HB5.out
    have hb6 : Below w.heap.size w (w5.setCells (w.heap.size + ext1.size + 1 + ext2.size + 1) 0 [.int .i64 3, .int .i64 0, .slice A5 D.length c5]) := hb05.grown hg6 hb05.size (by rintro k ⟨⟩; omega)
    have HSC : Hid (Sl cEntry 3 (w5.setCells (w.heap.size + ext1.size + 1 + ext2.size + 1) 0 [.int .i64 3, .int .i64 0, .slice A5 D.length c5]) (.slice A1 C.length c1) C) := Lib.hid ((HO1.out.below (show Below (grow w ext1 d1).heap.size (grow w ext1 d1) w5 from Below.own (by repeat (first | exact Below.refl _ _ | assumption | refine Below.drew ?_ | refine Below.drewN' ?_ _ | refine below_grow0 _ _ ?_ | refine below_alloc0 _ ?_ | refine Below.alloc ?_ (by first | omega | (simp; done) | (simp; omega)) _ | refine Below.setCell ?_ (by first | omega | (simp; done) | (simp; omega)) _ | refine Below.grow _ _ _ ?_ (by first | omega | (simp; done) | (simp; omega)))) HB5.out)).kept hg6 (.inr (by intro e; have := (Ow.own_in HO1.out e).2; simp at this; omega))).sl
    have HSD : Hid (Sl cEntry 3 (w5.setCells (w.heap.size + ext1.size + 1 + ext2.size + 1) 0 [.int .i64 3, .int .i64 0, .slice A5 D.length c5]) (.slice A5 D.length c5) D) := Lib.hid (HO5.out.kept hg6 (.inr (by intro e; have := (Ow.own_in HO5.out e).1; simp at this; omega))).sl
    rw [show ((w5.setCell ⟨w.heap.size + ext1.size + 1 + ext2.size + 1, 0, none⟩ (.int .i64 3)).setCell ⟨w.heap.size + ext1.size + 1 + ext2.size + 1, 1, none⟩ (.int .i64 0)).setCell ⟨w.heap.size + ext1.size + 1 + ext2.size + 1, 2, none⟩ (.slice A5 D.length c5) = (w5.setCells (w.heap.size + ext1.size + 1 + ext2.size + 1) 0 [.int .i64 3, .int .i64 0, .slice A5 D.length c5]) from rfl]
    clear hg6 fd0 fd1 fd2 fz0 fz1 fz2 fc0 fc1 fc2 fw0 fw1 fw2 hc5 hw5 hb05 HO5 HB5 HN4
    generalize (w5.setCells (w.heap.size + ext1.size + 1 + ext2.size + 1) 0 [.int .i64 3, .int .i64 0, .slice A5 D.length c5]) = w6 at *
    generalize w.heap.size + ext1.size + 1 + ext2.size + 1 = bd at *
    generalize w.heap.size + ext1.size + 1 + ext2.size = bw at *
    generalize w.heap.size + ext1.size = bc at *
    clear HC HW
    go_wp2_with fail
    refine (clLook _ _ _ D _ _ HSD.out (by omega)).mono ?_
    rintro e w7 ⟨rfl, hb7⟩
    have kc0 := (hb7.cell (p := ⟨bc, 0, none⟩) (World.block_lt_of_cell? w6 _ gc0)).trans gc0
    have kc1 := (hb7.cell (p := ⟨bc, 1, none⟩) (World.block_lt_of_cell? w6 _ gc1)).trans gc1
    have kc2 := (hb7.cell (p := ⟨bc, 2, none⟩) (World.block_lt_of_cell? w6 _ gc2)).trans gc2
    have kw0 := (hb7.cell (p := ⟨bw, 0, none⟩) (World.block_lt_of_cell? w6 _ gw0)).trans gw0
    have kw1 := (hb7.cell (p := ⟨bw, 1, none⟩) (World.block_lt_of_cell? w6 _ gw1)).trans gw1
    have kw2 := (hb7.cell (p := ⟨bw, 2, none⟩) (World.block_lt_of_cell? w6 _ gw2)).trans gw2
    have hb70 : Below w.heap.size w w7 := Below.own hb6 hb7
    have HSC7 := Lib.hid (HSC.out.below hb7)
    clear gc0 gc1 gc2 gw0 gw1 gw2 gd0 gd1 gd2 hb6 hb7 HSC HSD
    go_wp2_with fail
    refine (clLook _ _ _ C _ _ (HSC7.out.alloc _) (by omega)).mono ?_
    rintro e w8 ⟨rfl, hb8⟩
    have m0 := (hb8.cell (p := ⟨w7.heap.size, 0, none⟩) (by simp)).trans (show _ = some (.string (lookE D p).path) by go_simp)
    have m1 := (hb8.cell (p := ⟨w7.heap.size, 1, none⟩) (by simp)).trans (show _ = some (.string (lookE D p).data) by go_simp)
    have m2 := (hb8.cell (p := ⟨w7.heap.size, 2, none⟩) (by simp)).trans (show _ = some (.bool (lookE D p).there_) by go_simp)
    have hbw7 : bw < w7.heap.size := World.block_lt_of_cell? w7 _ kw0
    have q0 := (hb8.cell (p := ⟨bw, 0, none⟩) (by simp; omega)).trans (show _ = some (.string (lookE C p).path) by go_simp)
    have q1 := (hb8.cell (p := ⟨bw, 1, none⟩) (by simp; omega)).trans (show _ = some (.string (lookE C p).data) by go_simp)
    have q2 := (hb8.cell (p := ⟨bw, 2, none⟩) (by simp; omega)).trans (show _ = some (.bool (lookE C p).there_) by go_simp)
    have hb80 : Below w.heap.size w w8 := Below.own (hb70.alloc hb70.size _) hb8
    have HB8 := Lib.hid hb80
    generalize w7.heap.size = bn at *
    clear kc0 kc1 kc2 kw0 kw1 kw2 hb70 hb8 hb80 HSC7 hbw7
    go_wp2_with fail
    go_loopw [15, 16] (fun t i wr => ∃ (k : Nat) (b : Bool), k ≤ ns.length ∧ i = .int .i64 k ∧ t = .bool b ∧ wr = w8.alloc (.cells #[.string (lookE C p).path, .string (lookE C p).data, .bool (lookE C p).there_] 28) ∧ Hid ((b = true → toldB 3 ns p) ∧ ∀ (j : Nat) (x : Note), j < k → ns[j]? = some x → hitsB 3 x = true → x.path = p → b = true)) (fun _ i _ => ns.length - (intOf i).toNat)
    case atStart => exact ⟨0, false, Nat.zero_le _, rfl, rfl, rfl, Lib.hid ⟨by simp, fun j x hj => absurd hj (by omega)⟩⟩
    case round =>
      obtain ⟨k, b, hk, rfl, rfl, rfl, hb⟩ := hrel
      by_cases hlt : k < ns.length
      · have hx : ns[k]? = some (ns[k]'hlt) := List.getElem?_eq_getElem _
        obtain ⟨bx, ox, rfl, hbx, x0, x1, x2⟩ := (H2.out.below HB8.out).Note_at hx
        generalize ns[k]'hlt = x at *
        have HX := Lib.hid hx
        clear hx
        have HNO := Lib.hid (fun (h : hitsB 3 x = true → x.path = p → False) (hb0 : b = false) => show (b = true → toldB 3 ns p) ∧ ∀ (j : Nat) (y : Note), j < k + 1 → ns[j]? = some y → hitsB 3 y = true → y.path = p → b = true from ⟨hb.out.1, fun j y hj hy h1 h2 => by
          rcases Nat.lt_or_ge j k with h' | h'
          · exact hb.out.2 j y h' hy h1 h2
          · obtain rfl : j = k := by omega
            rw [HX.out] at hy
            cases hy
            exact (h h1 h2).elim⟩)
        cases b with
        | true =>
          go_wp2_with fail
          go_roundw
          case rel => exact ⟨k + 1, true, by omega, by go_num, (by first | rfl | (simp [*]; done)), (by first | rfl | trivial), Lib.hid ⟨hb.out.1, fun _ _ _ _ _ _ => rfl⟩⟩
          case measure => simp [intOf]; omega
        | false =>
          by_cases hs : x.session = 3
          · by_cases h4 : x.kind = 4
            · have HN1 := Lib.hid (HNO.out (fun h => by simp [hitsB, h4] at h) rfl)
              go_wp2_with fail
              go_roundw
              case rel => exact ⟨k + 1, false, by omega, by go_num, (by first | rfl | (simp [*]; done)), (by first | rfl | trivial), HN1⟩
              case measure => simp [intOf]; omega
            · by_cases hp : x.path = p
              · have HT1 := Lib.hid (show toldB 3 ns p from ⟨x, List.mem_of_getElem? HX.out, by simp [hitsB, hs, h4], hp⟩)
                go_wp2_with fail
                go_roundw
                case rel => exact ⟨k + 1, true, by omega, by go_num, (by first | rfl | (simp [*]; done)), (by first | rfl | trivial), Lib.hid ⟨fun _ => HT1.out, fun _ _ _ _ _ _ => rfl⟩⟩
                case measure => simp [intOf]; omega
              · have HN1 := Lib.hid (HNO.out (fun _ h => hp h) rfl)
                have hpt : ¬ x.path.toList = p.toList := fun e => hp (bytes_inj e)
                go_wp2_with fail
                go_roundw
                case rel => exact ⟨k + 1, false, by omega, by go_num, (by first | rfl | (simp [*]; done)), (by first | rfl | trivial), HN1⟩
                case measure => simp [intOf]; omega
          · have HN1 := Lib.hid (HNO.out (fun h => by simp [hitsB, hs] at h) rfl)
            go_wp2_with fail
            go_roundw
            case rel => exact ⟨k + 1, false, by omega, by go_num, (by first | rfl | (simp [*]; done)), (by first | rfl | trivial), HN1⟩
            case measure => simp [intOf]; omega
      · have HF := Lib.hid (show (b = true ∧ toldB 3 ns p) ∨ (b = false ∧ ¬ toldB 3 ns p) from by
          cases b with
          | true => exact .inl ⟨rfl, hb.out.1 rfl⟩
          | false =>
            refine .inr ⟨rfl, ?_⟩
            rintro ⟨x, hx, h1, h2⟩
            obtain ⟨j, hj⟩ := List.getElem?_of_mem hx
            have := hb.out.2 j x (by have := (List.getElem?_eq_some_iff.1 hj).1; omega) hj h1 h2
            cases this)
        rcases HF.out with ⟨rfl, ht⟩ | ⟨rfl, ht⟩
        · obtain ⟨e1, e2⟩ := HTO.out ht
          rw [show noEntry = ⟨⟨#[]⟩, ⟨#[]⟩, false⟩ from rfl] at e2
          simp only [e1, e2] at m0 m1 m2 ⊢
          clear ht e1 e2
          go_wp2_with (first | (go_at_call 12; refine (starts_any _).mono ?_; rintro e w9 ⟨rfl, hb9⟩; obtain ⟨ext9, d9, rfl⟩ := Below.grown_eq _ hb9; clear hb9))
          all_goals
            have hb88 := HB8.out
            exact bodyPost_ret (v := .bool true) (by simp [results, Try.results3, go_sem]) rfl ⟨rfl, (by repeat (first | exact Below.refl _ _ | assumption | refine Below.drew ?_ | refine Below.drewN' ?_ _ | refine below_grow0 _ _ ?_ | refine below_alloc0 _ ?_ | refine Below.alloc ?_ (by first | omega | (simp; done) | (simp; omega)) _ | refine Below.setCell ?_ (by first | omega | (simp; done) | (simp; omega)) _ | refine Below.grow _ _ _ ?_ (by first | omega | (simp; done) | (simp; omega))))⟩
        · obtain ⟨e1, e2⟩ := HUN.out ht
          simp only [e1, e2] at m0 m1 m2 ⊢
          clear ht e1 e2
          go_wp2_with (first | (go_at_call 12; refine (starts_any _).mono ?_; rintro e w9 ⟨rfl, hb9⟩; obtain ⟨ext9, d9, rfl⟩ := Below.grown_eq _ hb9; clear hb9))
          all_goals
            have hb88 := HB8.out
            exact bodyPost_ret (v := .bool true) (by simp [results, Try.results3, go_sem]) rfl ⟨rfl, (by repeat (first | exact Below.refl _ _ | assumption | refine Below.drew ?_ | refine Below.drewN' ?_ _ | refine below_grow0 _ _ ?_ | refine below_alloc0 _ ?_ | refine Below.alloc ?_ (by first | omega | (simp; done) | (simp; omega)) _ | refine Below.setCell ?_ (by first | omega | (simp; done) | (simp; omega)) _ | refine Below.grow _ _ _ ?_ (by first | omega | (simp; done) | (simp; omega))))⟩
namespace clientTold
theorem own : ownKnob Try.prog.godebug = none := by kernel_rfl
theorem laidOut : laidOutB Try.prog = true := by kernel_rfl
set_option maxRecDepth 100000 in
set_option maxHeartbeats 1000000 in
theorem lifted (os : Os) (started : os.Started) (H : Type) (enc : TypeId × Value → H) :
    ReturnsInHanded {} Try.checked os 3 .any (Rows.clientToldSpec.pre6 enc Try.prog Try.f3 Rows.clientToldRow.domain false) (Rows.clientToldSpec.post enc Try.prog Try.f3 false true false false) := by
  refine returnsInHanded_of_change_sized (C := Try.checked) own started (by kernel_rfl) Try.func3
    (ChangeSpec.witness6 (enc := enc) (C := Try.checked) false ⟨#[], #[.slice none 0 0, .slice none 0 0, .string ByteArray.empty], []⟩ 8 (by kernel_rfl) (by kernel_rfl) (by kernel_rfl) (by kernel_rfl)) ?_
  intro W base args ds gs before hval0 hW0 _ hsz0 _
  have hval : ∀ (j : Nat) t v, Try.f3.params[j]? = some t → args[j]? = some v → Value.okWide Try.prog W .any base t v := hval0
  have hW : DataW.Whole enc Try.prog Try.f3.params.toList Rows.clientToldSpec.vars false W args.toList ds gs before := hW0
  have hlt : ∀ p ∈ before, p.block < W.heap.size := fun p hp => hW.lt p hp
  have hW1 := hW
  obtain ⟨p, q, hA0, hV, rfl, hfz, hnd⟩ := hW1
  have hA : DataW.TrodAll enc Try.prog W 0 (fun _ => true) true Try.f3.params.toList args.toList ds p := hA0
  obtain ⟨rfl, rfl⟩ := trodVars_none hV
  rw [Try.params3] at hA hval
  obtain ⟨v0, vs0, d0, ds0, p0, q0, hargs, rfl, rfl, h0, r0⟩ := trodAll_cons hA
  obtain ⟨v1, vs1, d1, ds1, p1, q1, rfl, rfl, rfl, h1, r1⟩ := trodAll_cons r0
  obtain ⟨v2, vs2, d2, ds2, p2, q2, rfl, rfl, rfl, h2, r2⟩ := trodAll_cons r1
  obtain ⟨rfl, rfl, rfl⟩ := trodAll_nil r2
  obtain rfl : args = #[v0, v1, v2] := by cases args; simp_all
  have hsz : (DataW.weightsEach Try.prog [22, 23, 9] [d0, d1, d2]).all (· ≤ reachBytes) = true := hsz0
  have close : ∀ e W', (e = Ending.returned (.bool true) ∧ Below W.heap.size W W') → ∃ v, e = .returned v ∧ Rows.clientToldSpec.post enc Try.prog Try.f3 false true false false W #[v0, v1, v2] v W' :=
    fun e W' ⟨he, hb⟩ => ⟨_, he, law_post laidOut (of_decide_eq_true (by kernel_rfl)) rfl rfl Try.underlying4 hW rfl hb⟩
  clear hA0 hsz0 hval0 hW0 hA hV hW hfz hnd
  obtain ⟨xs0, hr0, hf0, els0, sp0, he0⟩ := open_rows (ks := [.s, .s, .b]) 9 Try.underlying22 (by kernel_rfl) (hval 0 22 v0 rfl rfl) h0 (fun x hx => hlt x (by simp [hx])) (by decide)
  have rb0 : xs0.length * 40 ≤ 140737488351232 := by
    rcases he0 with ⟨_, rfl⟩ | ⟨hd, hl⟩
    · simp
    · rw [hd] at hsz
      have := sized_slice hsz (j := 0) rfl rfl Try.underlying22
      rw [show Try.prog.bytesOf 28 = 40 from by kernel_rfl] at this
      simp only [reachBytes] at this
      rw [hl] at this
      exact Nat.le_trans (Nat.mul_le_mul_right _ (Nat.le_add_right _ _)) this
  obtain ⟨a2, rfl, hd2, _, wf2⟩ := Go.ChangeMaps.open_string Try.underlying9 (hval 2 9 v2 rfl rfl) h2
  have rb2 : a2.size ≤ 140737488351232 := by subst hd2; have := sized_string hsz (j := 2) rfl rfl; simpa [reachBytes] using this
  obtain ⟨l, rfl, _⟩ := typed (fun x hx => fitsEntry (hf0 x hx))
  have hs : Sl cEntry 3 W v0 l := hr0
  obtain ⟨A, len, cap, rfl⟩ := okWide_slice Try.underlying23 (hval 1 _ v1 rfl rfl)
  obtain ⟨v, xs, hv, hr, hb, hx⟩ := deep_flats (ks := [.i .i64, .i .i64, .s]) Try.underlying23 (by kernel_rfl) (by decide) (open_deep 11 h1 (sized_arg hsz 1 rfl rfl))
  rw [show Try.prog.bytesOf 35 = 32 from by kernel_rfl] at hb
  obtain rfl : Value.slice A len cap = v := by simpa [Value.cells] using hv
  obtain ⟨ns, rfl, _⟩ := typed (fun x hxm => fitsNote (hx x hxm))
  have hs2 : Sl cNote 3 W (.slice A len cap) ns := hr
  exact (clientTold_ok v0 _ l ns a2 W hs hs2 (Nat.le_trans (by simpa [reachBytes] using hb) (by decide))).mono close
theorem proved : Rows.ClientToldSaid :=
  OpenClaim.holds_of_wide 3 Try.f3 rfl rfl rfl rfl rfl rfl rfl ⟨rfl, rfl, rfl, rfl, rfl⟩ rfl rfl rfl rfl rfl (by kernel_rfl) Try.func3 (by kernel_rfl)
    (of_decide_eq_true (by kernel_rfl)) (by unfold Func.isWrapper; first | (rw [if_pos (by decide +kernel)]; kernel_rfl) | (rw [if_neg (by decide +kernel)]; exact ⟨rfl, rfl⟩))
    (fun os started H enc _ => lifted os started H enc)
end clientTold
end Go.Proofs.Ytdfliajginlpiaa
