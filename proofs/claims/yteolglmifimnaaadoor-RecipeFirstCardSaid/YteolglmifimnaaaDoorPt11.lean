/- Lemmas for the statement: RecH, FenceF. -/
import Derived.Test.YteolglmifimnaaaDoorPt1
import Derived.Test.YteolglmifimnaaaDoorPt2
import Derived.Test.YteolglmifimnaaaDoorPt3
import Derived.Test.YteolglmifimnaaaDoorPt4
import Derived.Test.YteolglmifimnaaaDoorPt5
import Derived.Test.YteolglmifimnaaaDoorPt6
import Derived.Test.YteolglmifimnaaaDoorPt7
import Derived.Test.YteolglmifimnaaaDoorPt8
import Derived.Test.YteolglmifimnaaaDoorPt9
import Derived.Test.YteolglmifimnaaaDoorPt10
/- package recipe: Holder, Before, Ready. -/
namespace Go.Proofs.YteolglmifimnaaaDoor
open Go.RowKit Go.ChangeShapes Go.WideShapes Go.ChangeAt
def holdO (t : Tr) (dir : ByteArray) : List ByteArray → Int × Int
  | [] => (0, 0)
  | s :: _ => ((getN t.nodes (joinR dir s).1).owner, (getN t.nodes (joinR dir s).1).czxid)
def holdE (t : Tr) (dir name : ByteArray) : Int := if lineE t dir name = 0 then (match lineL t dir name with | [] => 0 | s :: _ => getE t.nodes (joinR dir s).1) else lineE t dir name
def HoldRes (t : Tr) (dir name : ByteArray) (w : World) (e : Ending) (w' : World) : Prop :=
  e = .returned (.tuple #[.int .i64 (if holdE t dir name = 0 then (holdO t dir (lineL t dir name)).1 else 0), .int .i64 (if holdE t dir name = 0 then (holdO t dir (lineL t dir name)).2 else 0), .int .i64 (holdE t dir name)]) ∧ Below w.heap.size w w'
set_option maxHeartbeats 2000000 in
theorem trHolder (z : Int) (v v2 : Value) (l : List Node) (ss : List Int) (dir name : ByteArray) (w : World) (h : Sl cNode 9 w v l) (h2 : Sl cInt 1 w v2 ss) (hn : l.length * 16 ≤ 140737488355328) (hz : ∀ n ∈ l, n.path.size ≤ 200) (hnm : name.size ≤ 9223372036854775807) (hd : dir.size ≤ 9223372036854775807) :
    Calls Tryd.prog 17 #[.agg #[.int .i64 z, v, v2], .string dir, .string name] w (HoldRes ⟨z, l, ss⟩ dir name w) := by
  obtain ⟨A, c, rfl, h1, h1b⟩ := h.form
  obtain ⟨A2, c2, rfl, h3, h3b⟩ := h2.form
  have HV := Lib.hid h
  have HS := Lib.hid h2
  clear h h2
  have HLN := Lib.hid (fun (W : World) (h : Sl cNode 9 W (.slice A l.length c) l) (h2 : Sl cInt 1 W (.slice A2 ss.length c2) ss) => trLine z (.slice A l.length c) (.slice A2 ss.length c2) l ss dir name W h h2 hn hz hnm)
  unfold LineRes at HLN
  unfold HoldRes holdE
  have HLZ := Lib.hid (fun s (hs : s ∈ lineL ⟨z, l, ss⟩ dir name) => kid_size (line_kids hs).1)
  by_cases hE : lineE ⟨z, l, ss⟩ dir name = 0
  · rw [if_pos hE]
    rw [hE] at HLN
    cases hL : lineL ⟨z, l, ss⟩ dir name with
    | nil =>
      rw [hL] at HLN
      simp only [holdO, if_true]
      clear hE hL HLZ
      go_enter Tryd.func17, Tryd.ntmps17
      go_wp2_with (go_at_call 15; (with_reducible refine (HLN.out _ (HV.out.below (by repeat (first | with_reducible exact Below.refl _ _ | with_reducible assumption | with_reducible exact below_d1 _ _ _ _ _ | with_reducible exact below_d2 _ _ _ _ _ _ _ _ | with_reducible exact below_d3 _ _ _ _ _ | with_reducible exact below_d4 _ _ _ _ _ _ _ _ | with_reducible exact below_d5 _ _ | with_reducible refine Below.drew ?_ | with_reducible refine Below.drewN' ?_ _ | with_reducible refine below_grow0 _ _ ?_ | with_reducible refine below_alloc0 _ ?_ | with_reducible refine Below.setCell ?_ ?_ _ | with_reducible refine Below.alloc ?_ ?_ _ | with_reducible refine Below.grow _ _ _ ?_ ?_ | omega | (simp; done) | (simp; omega)))) (HS.out.below (by repeat (first | with_reducible exact Below.refl _ _ | with_reducible assumption | with_reducible exact below_d1 _ _ _ _ _ | with_reducible exact below_d2 _ _ _ _ _ _ _ _ | with_reducible exact below_d3 _ _ _ _ _ | with_reducible exact below_d4 _ _ _ _ _ _ _ _ | with_reducible exact below_d5 _ _ | with_reducible refine Below.drew ?_ | with_reducible refine Below.drewN' ?_ _ | with_reducible refine below_grow0 _ _ ?_ | with_reducible refine below_alloc0 _ ?_ | with_reducible refine Below.setCell ?_ ?_ _ | with_reducible refine Below.alloc ?_ ?_ _ | with_reducible refine Below.grow _ _ _ ?_ ?_ | omega | (simp; done) | (simp; omega))))).mono ?_); rintro e w3 ⟨A5, c5, rfl, hk3, hb3⟩; have HLS := Lib.hid hk3.sl; obtain ⟨ext3, d3, rfl⟩ := Below.grown_eq _ hb3; clear hb3 hk3)
      refine bodyPost_ret (v := .tuple #[.int .i64 0, .int .i64 0, .int .i64 0]) (by simp [results, Tryd.results17, go_sem]) rfl ⟨rfl, (by repeat (first | with_reducible exact Below.refl _ _ | with_reducible assumption | with_reducible exact below_d1 _ _ _ _ _ | with_reducible exact below_d2 _ _ _ _ _ _ _ _ | with_reducible exact below_d3 _ _ _ _ _ | with_reducible exact below_d4 _ _ _ _ _ _ _ _ | with_reducible exact below_d5 _ _ | with_reducible refine Below.drew ?_ | with_reducible refine Below.drewN' ?_ _ | with_reducible refine below_grow0 _ _ ?_ | with_reducible refine below_alloc0 _ ?_ | with_reducible refine Below.setCell ?_ ?_ _ | with_reducible refine Below.alloc ?_ ?_ _ | with_reducible refine Below.grow _ _ _ ?_ ?_ | omega | (simp; done) | (simp; omega)))⟩
    | cons s r =>
      rw [hL] at HLN HLZ
      have hsz := HLZ.out s (by simp)
      have HJN := Lib.hid (fun (W : World) => join_any dir s W hd (by omega))
      have HGT := Lib.hid (fun (W : World) (h : Sl cNode 9 W (.slice A l.length c) l) => trGet z (.slice A l.length c) A2 ss.length c2 l (joinR dir s).1 W h (by omega))
      simp only [holdO]
      clear hE hL HLZ
      by_cases hg : getE l (joinR dir s).1 = 0
      · simp only [if_pos hg]
        rw [hg] at HGT
        rw [hg]
        clear hg
        generalize joinR dir s = jr at *
        obtain ⟨j1, j2⟩ := jr
        simp only at HJN HGT ⊢
        generalize getN l j1 = n at *
        obtain ⟨np, nd, n1, n2, n3, n4, n5, n6, n7⟩ := n
        simp only at HGT ⊢
        go_enter Tryd.func17, Tryd.ntmps17
        go_upto_region 4 with (go_at_call 15; (with_reducible refine (HLN.out _ (HV.out.below (by repeat (first | with_reducible exact Below.refl _ _ | with_reducible assumption | with_reducible exact below_d1 _ _ _ _ _ | with_reducible exact below_d2 _ _ _ _ _ _ _ _ | with_reducible exact below_d3 _ _ _ _ _ | with_reducible exact below_d4 _ _ _ _ _ _ _ _ | with_reducible exact below_d5 _ _ | with_reducible refine Below.drew ?_ | with_reducible refine Below.drewN' ?_ _ | with_reducible refine below_grow0 _ _ ?_ | with_reducible refine below_alloc0 _ ?_ | with_reducible refine Below.setCell ?_ ?_ _ | with_reducible refine Below.alloc ?_ ?_ _ | with_reducible refine Below.grow _ _ _ ?_ ?_ | omega | (simp; done) | (simp; omega)))) (HS.out.below (by repeat (first | with_reducible exact Below.refl _ _ | with_reducible assumption | with_reducible exact below_d1 _ _ _ _ _ | with_reducible exact below_d2 _ _ _ _ _ _ _ _ | with_reducible exact below_d3 _ _ _ _ _ | with_reducible exact below_d4 _ _ _ _ _ _ _ _ | with_reducible exact below_d5 _ _ | with_reducible refine Below.drew ?_ | with_reducible refine Below.drewN' ?_ _ | with_reducible refine below_grow0 _ _ ?_ | with_reducible refine below_alloc0 _ ?_ | with_reducible refine Below.setCell ?_ ?_ _ | with_reducible refine Below.alloc ?_ ?_ _ | with_reducible refine Below.grow _ _ _ ?_ ?_ | omega | (simp; done) | (simp; omega))))).mono ?_); rintro e w3 ⟨A5, c5, rfl, hk3, hb3⟩; have HLS := Lib.hid hk3.sl; obtain ⟨ext3, d3, rfl⟩ := Below.grown_eq _ hb3; clear hb3 hk3)
        obtain ⟨bk, off, rfl, hbk, c0⟩ := HLS.out.str_at (i := 0) (x := s) rfl
        simp only [Nat.add_zero] at c0
        go_upto_region 8 with (first | (go_at_call 18; refine (HJN.out _).mono ?_; rintro e w1 ⟨rfl, hb⟩; obtain ⟨ext4, d4, rfl⟩ := Below.grown_eq _ hb; clear hb) | (go_at_call 19; refine (HGT.out _ (HV.out.below (by repeat (first | with_reducible exact Below.refl _ _ | with_reducible assumption | with_reducible exact below_d1 _ _ _ _ _ | with_reducible exact below_d2 _ _ _ _ _ _ _ _ | with_reducible exact below_d3 _ _ _ _ _ | with_reducible exact below_d4 _ _ _ _ _ _ _ _ | with_reducible exact below_d5 _ _ | with_reducible refine Below.drew ?_ | with_reducible refine Below.drewN' ?_ _ | with_reducible refine below_grow0 _ _ ?_ | with_reducible refine below_alloc0 _ ?_ | with_reducible refine Below.setCell ?_ ?_ _ | with_reducible refine Below.alloc ?_ ?_ _ | with_reducible refine Below.grow _ _ _ ?_ ?_ | omega | (simp; done) | (simp; omega))))).mono ?_; rintro e w1 ⟨rfl, hb⟩; obtain ⟨ext5, d5, rfl⟩ := Below.grown_eq _ hb; clear hb))
        refine wp_region_grow (by kernel_rfl) (by kernel_rfl) ?_
        try simp only [List.append]
        repeat' (first | go_big_quiet_skip | (go_big_quiet_want; go_big_quiet_op; first | go_big_quiet_on | (apply Exists.intro; refine ⟨fun _ => ?hqg1, ?hqg2⟩; (case hqg1 => fail); go_big_quiet_on)))
        all_goals refine wpQuiet_nil ?_
        all_goals rintro _ ⟨⟨extq, dq⟩, rfl⟩
        all_goals dsimp only
        go_wp2_with fail
        refine bodyPost_ret (v := .tuple #[.int .i64 n6, .int .i64 n1, .int .i64 0]) (by simp [results, Tryd.results17, go_sem]) rfl ⟨rfl, (by repeat (first | with_reducible exact Below.refl _ _ | with_reducible assumption | with_reducible exact below_d1 _ _ _ _ _ | with_reducible exact below_d2 _ _ _ _ _ _ _ _ | with_reducible exact below_d3 _ _ _ _ _ | with_reducible exact below_d4 _ _ _ _ _ _ _ _ | with_reducible exact below_d5 _ _ | with_reducible refine Below.drew ?_ | with_reducible refine Below.drewN' ?_ _ | with_reducible refine below_grow0 _ _ ?_ | with_reducible refine below_alloc0 _ ?_ | with_reducible refine Below.setCell ?_ ?_ _ | with_reducible refine Below.alloc ?_ ?_ _ | with_reducible refine Below.grow _ _ _ ?_ ?_ | omega | (simp; done) | (simp; omega)))⟩
      · simp only [if_neg hg]
        generalize joinR dir s = jr at *
        obtain ⟨j1, j2⟩ := jr
        simp only at HJN HGT hg ⊢
        generalize getN l j1 = n at *
        obtain ⟨np, nd, n1, n2, n3, n4, n5, n6, n7⟩ := n
        generalize getE l j1 = ge at *
        have q1 : (ge == 0) = false := beq_eq_false_iff_ne.2 hg
        have q2 : (ge != 0) = true := bne_iff_ne.2 hg
        clear hg
        go_enter Tryd.func17, Tryd.ntmps17
        go_upto_region 4 with (go_at_call 15; (with_reducible refine (HLN.out _ (HV.out.below (by repeat (first | with_reducible exact Below.refl _ _ | with_reducible assumption | with_reducible exact below_d1 _ _ _ _ _ | with_reducible exact below_d2 _ _ _ _ _ _ _ _ | with_reducible exact below_d3 _ _ _ _ _ | with_reducible exact below_d4 _ _ _ _ _ _ _ _ | with_reducible exact below_d5 _ _ | with_reducible refine Below.drew ?_ | with_reducible refine Below.drewN' ?_ _ | with_reducible refine below_grow0 _ _ ?_ | with_reducible refine below_alloc0 _ ?_ | with_reducible refine Below.setCell ?_ ?_ _ | with_reducible refine Below.alloc ?_ ?_ _ | with_reducible refine Below.grow _ _ _ ?_ ?_ | omega | (simp; done) | (simp; omega)))) (HS.out.below (by repeat (first | with_reducible exact Below.refl _ _ | with_reducible assumption | with_reducible exact below_d1 _ _ _ _ _ | with_reducible exact below_d2 _ _ _ _ _ _ _ _ | with_reducible exact below_d3 _ _ _ _ _ | with_reducible exact below_d4 _ _ _ _ _ _ _ _ | with_reducible exact below_d5 _ _ | with_reducible refine Below.drew ?_ | with_reducible refine Below.drewN' ?_ _ | with_reducible refine below_grow0 _ _ ?_ | with_reducible refine below_alloc0 _ ?_ | with_reducible refine Below.setCell ?_ ?_ _ | with_reducible refine Below.alloc ?_ ?_ _ | with_reducible refine Below.grow _ _ _ ?_ ?_ | omega | (simp; done) | (simp; omega))))).mono ?_); rintro e w3 ⟨A5, c5, rfl, hk3, hb3⟩; have HLS := Lib.hid hk3.sl; obtain ⟨ext3, d3, rfl⟩ := Below.grown_eq _ hb3; clear hb3 hk3)
        obtain ⟨bk, off, rfl, hbk, c0⟩ := HLS.out.str_at (i := 0) (x := s) rfl
        simp only [Nat.add_zero] at c0
        go_wp2_with (first | (go_at_call 18; refine (HJN.out _).mono ?_; rintro e w1 ⟨rfl, hb⟩; obtain ⟨ext4, d4, rfl⟩ := Below.grown_eq _ hb; clear hb) | (go_at_call 19; refine (HGT.out _ (HV.out.below (by repeat (first | with_reducible exact Below.refl _ _ | with_reducible assumption | with_reducible exact below_d1 _ _ _ _ _ | with_reducible exact below_d2 _ _ _ _ _ _ _ _ | with_reducible exact below_d3 _ _ _ _ _ | with_reducible exact below_d4 _ _ _ _ _ _ _ _ | with_reducible exact below_d5 _ _ | with_reducible refine Below.drew ?_ | with_reducible refine Below.drewN' ?_ _ | with_reducible refine below_grow0 _ _ ?_ | with_reducible refine below_alloc0 _ ?_ | with_reducible refine Below.setCell ?_ ?_ _ | with_reducible refine Below.alloc ?_ ?_ _ | with_reducible refine Below.grow _ _ _ ?_ ?_ | omega | (simp; done) | (simp; omega))))).mono ?_; rintro e w1 ⟨rfl, hb⟩; obtain ⟨ext5, d5, rfl⟩ := Below.grown_eq _ hb; clear hb))
        refine bodyPost_ret (v := .tuple #[.int .i64 0, .int .i64 0, .int .i64 ge]) (by simp [results, Tryd.results17, go_sem]) rfl ⟨rfl, (by repeat (first | with_reducible exact Below.refl _ _ | with_reducible assumption | with_reducible exact below_d1 _ _ _ _ _ | with_reducible exact below_d2 _ _ _ _ _ _ _ _ | with_reducible exact below_d3 _ _ _ _ _ | with_reducible exact below_d4 _ _ _ _ _ _ _ _ | with_reducible exact below_d5 _ _ | with_reducible refine Below.drew ?_ | with_reducible refine Below.drewN' ?_ _ | with_reducible refine below_grow0 _ _ ?_ | with_reducible refine below_alloc0 _ ?_ | with_reducible refine Below.setCell ?_ ?_ _ | with_reducible refine Below.alloc ?_ ?_ _ | with_reducible refine Below.grow _ _ _ ?_ ?_ | omega | (simp; done) | (simp; omega)))⟩
  · have hL : lineL ⟨z, l, ss⟩ dir name = [] := by unfold lineL; rw [if_neg hE]
    rw [if_neg hE]
    rw [hL] at HLN ⊢
    have hE2 := hE
    generalize lineE ⟨z, l, ss⟩ dir name = E at *
    have q1 : (E == 0) = false := beq_eq_false_iff_ne.2 hE
    have q2 : (E != 0) = true := bne_iff_ne.2 hE
    simp only [if_neg hE]
    clear hE hL HLZ hE2
    go_enter Tryd.func17, Tryd.ntmps17
    go_wp2_with (go_at_call 15; (with_reducible refine (HLN.out _ (HV.out.below (by repeat (first | with_reducible exact Below.refl _ _ | with_reducible assumption | with_reducible exact below_d1 _ _ _ _ _ | with_reducible exact below_d2 _ _ _ _ _ _ _ _ | with_reducible exact below_d3 _ _ _ _ _ | with_reducible exact below_d4 _ _ _ _ _ _ _ _ | with_reducible exact below_d5 _ _ | with_reducible refine Below.drew ?_ | with_reducible refine Below.drewN' ?_ _ | with_reducible refine below_grow0 _ _ ?_ | with_reducible refine below_alloc0 _ ?_ | with_reducible refine Below.setCell ?_ ?_ _ | with_reducible refine Below.alloc ?_ ?_ _ | with_reducible refine Below.grow _ _ _ ?_ ?_ | omega | (simp; done) | (simp; omega)))) (HS.out.below (by repeat (first | with_reducible exact Below.refl _ _ | with_reducible assumption | with_reducible exact below_d1 _ _ _ _ _ | with_reducible exact below_d2 _ _ _ _ _ _ _ _ | with_reducible exact below_d3 _ _ _ _ _ | with_reducible exact below_d4 _ _ _ _ _ _ _ _ | with_reducible exact below_d5 _ _ | with_reducible refine Below.drew ?_ | with_reducible refine Below.drewN' ?_ _ | with_reducible refine below_grow0 _ _ ?_ | with_reducible refine below_alloc0 _ ?_ | with_reducible refine Below.setCell ?_ ?_ _ | with_reducible refine Below.alloc ?_ ?_ _ | with_reducible refine Below.grow _ _ _ ?_ ?_ | omega | (simp; done) | (simp; omega))))).mono ?_); rintro e w3 ⟨A5, c5, rfl, hk3, hb3⟩; have HLS := Lib.hid hk3.sl; obtain ⟨ext3, d3, rfl⟩ := Below.grown_eq _ hb3; clear hb3 hk3)
    refine bodyPost_ret (v := .tuple #[.int .i64 0, .int .i64 0, .int .i64 E]) (by simp [results, Tryd.results17, go_sem]) rfl ⟨rfl, (by repeat (first | with_reducible exact Below.refl _ _ | with_reducible assumption | with_reducible exact below_d1 _ _ _ _ _ | with_reducible exact below_d2 _ _ _ _ _ _ _ _ | with_reducible exact below_d3 _ _ _ _ _ | with_reducible exact below_d4 _ _ _ _ _ _ _ _ | with_reducible exact below_d5 _ _ | with_reducible refine Below.drew ?_ | with_reducible refine Below.drewN' ?_ _ | with_reducible refine below_grow0 _ _ ?_ | with_reducible refine below_alloc0 _ ?_ | with_reducible refine Below.setCell ?_ ?_ _ | with_reducible refine Below.alloc ?_ ?_ _ | with_reducible refine Below.grow _ _ _ ?_ ?_ | omega | (simp; done) | (simp; omega)))⟩
set_option maxHeartbeats 2000000 in
theorem trBefore (z : Int) (v v2 : Value) (l : List Node) (ss : List Int) (dir name st : ByteArray) (w : World) (h : Sl cNode 9 w v l) (h2 : Sl cInt 1 w v2 ss) (hn : l.length * 16 ≤ 140737488355328) (hz : ∀ n ∈ l, n.path.size ≤ 200) (hnm : name.size ≤ 9223372036854775807)
    (hE : lineE ⟨z, l, ss⟩ dir name = 0) {i : Nat} (hi : idxV (lineL ⟨z, l, ss⟩ dir name) st = (i : Nat)) (hil : i < (lineL ⟨z, l, ss⟩ dir name).length) :
    Calls Tryd.prog 20 #[.agg #[.int .i64 z, v, v2], .string dir, .string name, .string st] w fun e w' => e = .returned (.tuple #[.string (if 0 < i then (lineL ⟨z, l, ss⟩ dir name).getD (i - 1) ⟨#[]⟩ else ⟨#[]⟩), .bool (decide (0 < i))]) ∧ Below w.heap.size w w' := by
  obtain ⟨A, c, rfl, h1, h1b⟩ := h.form
  obtain ⟨A2, c2, rfl, h3, h3b⟩ := h2.form
  have HV := Lib.hid h
  have HS := Lib.hid h2
  clear h h2
  have HLN := Lib.hid (fun (W : World) (h : Sl cNode 9 W (.slice A l.length c) l) (h2 : Sl cInt 1 W (.slice A2 ss.length c2) ss) => trLine z (.slice A l.length c) (.slice A2 ss.length c2) l ss dir name W h h2 hn hz hnm)
  unfold LineRes at HLN
  rw [hE] at HLN
  have hll := Nat.le_trans (line_le ⟨z, l, ss⟩ dir name) (kidsL_le l dir)
  generalize lineL ⟨z, l, ss⟩ dir name = L at *
  have HIX := Lib.hid (fun (W : World) (v : Value) (h : Sl cStr 1 W v L) => idxStr v L st W h (by omega))
  rw [hi] at HIX
  clear hi hE
  by_cases h0 : 0 < i
  · obtain ⟨j, rfl⟩ : ∃ j, i = j + 1 := ⟨i - 1, by omega⟩
    have hx : L[j]? = some (L[j]'(by omega)) := List.getElem?_eq_getElem _
    rw [if_pos h0, decide_eq_true h0, List.getD_eq_getElem?_getD, Nat.add_sub_cancel, hx]
    have hl1 : decide (((j + 1 : Nat) : Int) < 1) = false := decide_eq_false (by omega)
    have hlj : j < L.length := by omega
    have HX := Lib.hid hx
    clear hx
    simp only [Option.getD_some]
    generalize L[j]'(by omega) = g at *
    go_enter Tryd.func20, Tryd.ntmps20
    go_upto_region 2 with (go_at_call 15; (with_reducible refine (HLN.out _ (HV.out.below (by repeat (first | with_reducible exact Below.refl _ _ | with_reducible assumption | with_reducible exact below_d1 _ _ _ _ _ | with_reducible exact below_d2 _ _ _ _ _ _ _ _ | with_reducible exact below_d3 _ _ _ _ _ | with_reducible exact below_d4 _ _ _ _ _ _ _ _ | with_reducible exact below_d5 _ _ | with_reducible refine Below.drew ?_ | with_reducible refine Below.drewN' ?_ _ | with_reducible refine below_grow0 _ _ ?_ | with_reducible refine below_alloc0 _ ?_ | with_reducible refine Below.setCell ?_ ?_ _ | with_reducible refine Below.alloc ?_ ?_ _ | with_reducible refine Below.grow _ _ _ ?_ ?_ | omega | (simp; done) | (simp; omega)))) (HS.out.below (by repeat (first | with_reducible exact Below.refl _ _ | with_reducible assumption | with_reducible exact below_d1 _ _ _ _ _ | with_reducible exact below_d2 _ _ _ _ _ _ _ _ | with_reducible exact below_d3 _ _ _ _ _ | with_reducible exact below_d4 _ _ _ _ _ _ _ _ | with_reducible exact below_d5 _ _ | with_reducible refine Below.drew ?_ | with_reducible refine Below.drewN' ?_ _ | with_reducible refine below_grow0 _ _ ?_ | with_reducible refine below_alloc0 _ ?_ | with_reducible refine Below.setCell ?_ ?_ _ | with_reducible refine Below.alloc ?_ ?_ _ | with_reducible refine Below.grow _ _ _ ?_ ?_ | omega | (simp; done) | (simp; omega))))).mono ?_); rintro e w3 ⟨A5, c5, rfl, hk3, hb3⟩; have HLS := Lib.hid hk3.sl; obtain ⟨ext3, d3, rfl⟩ := Below.grown_eq _ hb3; clear hb3 hk3)
    obtain ⟨bk, off, rfl, hbk, c0⟩ := HLS.out.str_at HX.out
    go_wp2_with (go_at_call 41; refine (HIX.out _ _ HLS.out).mono ?_; rintro e w1 ⟨rfl, hw⟩; obtain rfl := hw.symm; clear hw)
    refine bodyPost_ret (v := .tuple #[.string g, .bool true]) (by simp [results, Tryd.results20, go_sem]) rfl ⟨rfl, (by repeat (first | with_reducible exact Below.refl _ _ | with_reducible assumption | with_reducible exact below_d1 _ _ _ _ _ | with_reducible exact below_d2 _ _ _ _ _ _ _ _ | with_reducible exact below_d3 _ _ _ _ _ | with_reducible exact below_d4 _ _ _ _ _ _ _ _ | with_reducible exact below_d5 _ _ | with_reducible refine Below.drew ?_ | with_reducible refine Below.drewN' ?_ _ | with_reducible refine below_grow0 _ _ ?_ | with_reducible refine below_alloc0 _ ?_ | with_reducible refine Below.setCell ?_ ?_ _ | with_reducible refine Below.alloc ?_ ?_ _ | with_reducible refine Below.grow _ _ _ ?_ ?_ | omega | (simp; done) | (simp; omega)))⟩
  · obtain rfl : i = 0 := by omega
    rw [if_neg h0, decide_eq_false h0]
    clear h0
    go_enter Tryd.func20, Tryd.ntmps20
    go_wp2_with (first | (go_at_call 15; (with_reducible refine (HLN.out _ (HV.out.below (by repeat (first | with_reducible exact Below.refl _ _ | with_reducible assumption | with_reducible exact below_d1 _ _ _ _ _ | with_reducible exact below_d2 _ _ _ _ _ _ _ _ | with_reducible exact below_d3 _ _ _ _ _ | with_reducible exact below_d4 _ _ _ _ _ _ _ _ | with_reducible exact below_d5 _ _ | with_reducible refine Below.drew ?_ | with_reducible refine Below.drewN' ?_ _ | with_reducible refine below_grow0 _ _ ?_ | with_reducible refine below_alloc0 _ ?_ | with_reducible refine Below.setCell ?_ ?_ _ | with_reducible refine Below.alloc ?_ ?_ _ | with_reducible refine Below.grow _ _ _ ?_ ?_ | omega | (simp; done) | (simp; omega)))) (HS.out.below (by repeat (first | with_reducible exact Below.refl _ _ | with_reducible assumption | with_reducible exact below_d1 _ _ _ _ _ | with_reducible exact below_d2 _ _ _ _ _ _ _ _ | with_reducible exact below_d3 _ _ _ _ _ | with_reducible exact below_d4 _ _ _ _ _ _ _ _ | with_reducible exact below_d5 _ _ | with_reducible refine Below.drew ?_ | with_reducible refine Below.drewN' ?_ _ | with_reducible refine below_grow0 _ _ ?_ | with_reducible refine below_alloc0 _ ?_ | with_reducible refine Below.setCell ?_ ?_ _ | with_reducible refine Below.alloc ?_ ?_ _ | with_reducible refine Below.grow _ _ _ ?_ ?_ | omega | (simp; done) | (simp; omega))))).mono ?_); rintro e w3 ⟨A5, c5, rfl, hk3, hb3⟩; have HLS := Lib.hid hk3.sl; obtain ⟨ext3, d3, rfl⟩ := Below.grown_eq _ hb3; clear hb3 hk3) | (go_at_call 41; refine (HIX.out _ _ HLS.out).mono ?_; rintro e w1 ⟨rfl, hw⟩; obtain rfl := hw.symm; clear hw))
    refine bodyPost_ret (v := .tuple #[.string ⟨#[]⟩, .bool false]) (by simp [results, Tryd.results20, go_sem]) rfl ⟨rfl, (by repeat (first | with_reducible exact Below.refl _ _ | with_reducible assumption | with_reducible exact below_d1 _ _ _ _ _ | with_reducible exact below_d2 _ _ _ _ _ _ _ _ | with_reducible exact below_d3 _ _ _ _ _ | with_reducible exact below_d4 _ _ _ _ _ _ _ _ | with_reducible exact below_d5 _ _ | with_reducible refine Below.drew ?_ | with_reducible refine Below.drewN' ?_ _ | with_reducible refine below_grow0 _ _ ?_ | with_reducible refine below_alloc0 _ ?_ | with_reducible refine Below.setCell ?_ ?_ _ | with_reducible refine Below.alloc ?_ ?_ _ | with_reducible refine Below.grow _ _ _ ?_ ?_ | omega | (simp; done) | (simp; omega)))⟩
set_option maxHeartbeats 2000000 in
theorem trReady (z : Int) (v v2 : Value) (l : List Node) (ss : List Int) (dir : ByteArray) (many : Int) (w : World) (h : Sl cNode 9 w v l) (h2 : Sl cInt 1 w v2 ss) (hn : l.length * 16 ≤ 140737488355328) (hz : ∀ n ∈ l, n.path.size ≤ 200) (hm : 0 ≤ many ∧ many ≤ 64) (hd : hasN l dir = true) :
    Calls Tryd.prog 21 #[.agg #[.int .i64 z, v, v2], .string dir, .int .i64 many] w fun e w' => e = .returned (.tuple #[.bool (decide (many ≤ ((kidsL l dir).length : Int))), .int .i64 0]) ∧ Below w.heap.size w w' := by
  obtain ⟨A, c, rfl, h1, h1b⟩ := h.form
  obtain ⟨A2, c2, rfl, h3, h3b⟩ := h2.form
  have HV := Lib.hid h
  clear h h2
  have HKD := Lib.hid (fun (W : World) (h : Sl cNode 9 W (.slice A l.length c) l) => trKids z (.slice A l.length c) A2 ss.length c2 l dir W h (by omega) (fun n hn => Nat.le_trans (hz n hn) (by decide)))
  unfold KidsRes kidsR getE at HKD
  rw [hd, if_pos rfl, if_pos rfl] at HKD
  generalize kidsL l dir = K at *
  have e1 : decide (many < 0) = false := decide_eq_false (by omega)
  have e2 : decide (64 < many) = false := decide_eq_false (by omega)
  clear hd
  go_enter Tryd.func21, Tryd.ntmps21
  go_wp2_with (go_at_call 26; (with_reducible refine (HKD.out _ (HV.out.below (by repeat (first | with_reducible exact Below.refl _ _ | with_reducible assumption | with_reducible exact below_d1 _ _ _ _ _ | with_reducible exact below_d2 _ _ _ _ _ _ _ _ | with_reducible exact below_d3 _ _ _ _ _ | with_reducible exact below_d4 _ _ _ _ _ _ _ _ | with_reducible exact below_d5 _ _ | with_reducible refine Below.drew ?_ | with_reducible refine Below.drewN' ?_ _ | with_reducible refine below_grow0 _ _ ?_ | with_reducible refine below_alloc0 _ ?_ | with_reducible refine Below.setCell ?_ ?_ _ | with_reducible refine Below.alloc ?_ ?_ _ | with_reducible refine Below.grow _ _ _ ?_ ?_ | omega | (simp; done) | (simp; omega))))).mono ?_); rintro e w3 ⟨A5, c5, rfl, hk3, hb3⟩; obtain ⟨ext3, d3, rfl⟩ := Below.grown_eq _ hb3; clear hb3 hk3)
  refine bodyPost_ret (v := .tuple #[.bool (decide (many ≤ (K.length : Int))), .int .i64 0]) (by simp [results, Tryd.results21, go_sem]) rfl ⟨rfl, (by repeat (first | with_reducible exact Below.refl _ _ | with_reducible assumption | with_reducible exact below_d1 _ _ _ _ _ | with_reducible exact below_d2 _ _ _ _ _ _ _ _ | with_reducible exact below_d3 _ _ _ _ _ | with_reducible exact below_d4 _ _ _ _ _ _ _ _ | with_reducible exact below_d5 _ _ | with_reducible refine Below.drew ?_ | with_reducible refine Below.drewN' ?_ _ | with_reducible refine below_grow0 _ _ ?_ | with_reducible refine below_alloc0 _ ?_ | with_reducible refine Below.setCell ?_ ?_ _ | with_reducible refine Below.alloc ?_ ?_ _ | with_reducible refine Below.grow _ _ _ ?_ ?_ | omega | (simp; done) | (simp; omega)))⟩
end Go.Proofs.YteolglmifimnaaaDoor

/- recipe.Fence, and whether recipe answers at all. -/
namespace Go.Proofs.YteolglmifimnaaaDoor
open Go.ChangeShapes Go.WideShapes Go.ChangeAt Go.RowKit
theorem fence_less (a b : Int) (w : World) (h : b < a) :
    Calls Tryd.prog 36 #[.int .i64 a, .int .i64 b] w fun e w' => e = .returned (.tuple #[.int .i64 a, .bool false]) ∧ w = w' := by
  go_enter Tryd.func36, Tryd.ntmps36
  go_wp2
  go_ret2
  exact ⟨rfl, rfl⟩
theorem fence_not (a b : Int) (w : World) (h : ¬ b < a) :
    Calls Tryd.prog 36 #[.int .i64 a, .int .i64 b] w fun e w' => e = .returned (.tuple #[.int .i64 b, .bool true]) ∧ w = w' := by
  go_enter Tryd.func36, Tryd.ntmps36
  go_wp2
  go_ret2
  exact ⟨rfl, rfl⟩
theorem fences_is (w : World) :
    Calls Tryd.prog 14 #[] w fun e w' => e = .returned (.bool true) ∧ w = w' := by
  go_enter Tryd.func14, Tryd.ntmps14
  go_wp2_with (go_at_call 36; refine (fence_not _ _ _ (by omega)).mono ?_; rintro e w' ⟨rfl, rfl⟩)
  go_ret
  exact ⟨rfl, rfl⟩

end Go.Proofs.YteolglmifimnaaaDoor
