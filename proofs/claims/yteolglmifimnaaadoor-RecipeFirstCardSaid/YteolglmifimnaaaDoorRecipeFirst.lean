/- The law RecipeFirst is true for every input; no conditions. -/
import Derived.Test.YteolglmifimnaaaDoorCards
import Derived.Test.YteolglmifimnaaaDoorTie
import Derived.Lay
import Derived.LaidMore
import Derived.SevenTiedAt
import Derived.Test.YteolglmifimnaaaDoorPt1
import Derived.Test.YteolglmifimnaaaDoorPt2
import Derived.Test.YteolglmifimnaaaDoorPt3
import Derived.Test.YteolglmifimnaaaDoorPt4
import Derived.Test.YteolglmifimnaaaDoorPt5
import Derived.Test.YteolglmifimnaaaDoorPt6
import Derived.Test.YteolglmifimnaaaDoorPt7
import Derived.Test.YteolglmifimnaaaDoorPt8
import Derived.Test.YteolglmifimnaaaDoorPt9
import Derived.Test.YteolglmifimnaaaDoorPt10
import Derived.Test.YteolglmifimnaaaDoorPt11
namespace Go.Proofs.YteolglmifimnaaaDoor
open Go.RowKit Go.ChangeShapes Go.WideShapes Go.ChangeAt
theorem holdE_no {t : Tr} {dir name : ByteArray} (h : lineE t dir name ≠ 0) : lineL t dir name = [] ∧ holdE t dir name = lineE t dir name := by
  constructor
  · unfold lineL; rw [if_neg h]
  · unfold holdE; rw [if_neg h]
set_option maxRecDepth 100000 in
set_option maxHeartbeats 4000000 in
theorem recipeFirst_ok (z : Int) (v v2 : Value) (l : List Node) (ss : List Int) (dir name : ByteArray) (w : World) (h : Sl cNode 9 w v l) (h2 : Sl cInt 1 w v2 ss) (hn : l.length * 88 ≤ 140737488355328) (hn2 : ss.length * 8 ≤ 140737488351232) (hz : ∀ n ∈ l, n.path.size ≤ 9223372036854775807) (hd : dir.size ≤ 9223372036854775807) (hnm : name.size ≤ 9223372036854775807) :
    Calls Tryd.prog 3 #[.agg #[.int .i64 z, v, v2], .string dir, .string name] w fun e w' => e = .returned (.bool true) ∧ Below w.heap.size w w' := by
  obtain ⟨A, c, rfl, h1, h1b⟩ := h.form
  obtain ⟨A2, c2, rfl, h3, h3b⟩ := h2.form
  have HV := Lib.hid h
  have HS := Lib.hid h2
  clear h h2
  have HG := Lib.hid (fun (W : World) (h : Sl cNode 9 W (.slice A l.length c) l) (h2 : Sl cInt 1 W (.slice A2 ss.length c2) ss) => trGood z (.slice A l.length c) (.slice A2 ss.length c2) l ss W h h2 (by omega) hz)
  have HFN := Lib.hid (fun (W : World) => fences_is W)
  cases hg : goodTree ⟨z, l, ss⟩ with
  | false =>
    rw [hg] at HG
    clear hg
    go_enter Tryd.func3, Tryd.ntmps3
    go_wp2_with (first | (go_at_call 13; refine (HG.out _ (HV.out.below (by repeat (first | with_reducible exact Below.refl _ _ | with_reducible assumption | with_reducible exact below_d1 _ _ _ _ _ | with_reducible exact below_d2 _ _ _ _ _ _ _ _ | with_reducible exact below_d3 _ _ _ _ _ | with_reducible exact below_d4 _ _ _ _ _ _ _ _ | with_reducible exact below_d5 _ _ | with_reducible refine Below.drew ?_ | with_reducible refine Below.drewN' ?_ _ | with_reducible refine below_grow0 _ _ ?_ | with_reducible refine below_alloc0 _ ?_ | with_reducible refine Below.setCell ?_ ?_ _ | with_reducible refine Below.alloc ?_ ?_ _ | with_reducible refine Below.grow _ _ _ ?_ ?_ | omega | (simp; done) | (simp; omega)))) (HS.out.below (by repeat (first | with_reducible exact Below.refl _ _ | with_reducible assumption | with_reducible exact below_d1 _ _ _ _ _ | with_reducible exact below_d2 _ _ _ _ _ _ _ _ | with_reducible exact below_d3 _ _ _ _ _ | with_reducible exact below_d4 _ _ _ _ _ _ _ _ | with_reducible exact below_d5 _ _ | with_reducible refine Below.drew ?_ | with_reducible refine Below.drewN' ?_ _ | with_reducible refine below_grow0 _ _ ?_ | with_reducible refine below_alloc0 _ ?_ | with_reducible refine Below.setCell ?_ ?_ _ | with_reducible refine Below.alloc ?_ ?_ _ | with_reducible refine Below.grow _ _ _ ?_ ?_ | omega | (simp; done) | (simp; omega))))).mono ?_; rintro e w1 ⟨rfl, hb⟩; obtain ⟨ext0, d0, rfl⟩ := Below.grown_eq _ hb; clear hb) | (go_at_call 14; refine (HFN.out _).mono ?_; rintro e w1 ⟨rfl, rfl⟩; skip))
    go_ret
    exact ⟨rfl, (by repeat (first | with_reducible exact Below.refl _ _ | with_reducible assumption | with_reducible exact below_d1 _ _ _ _ _ | with_reducible exact below_d2 _ _ _ _ _ _ _ _ | with_reducible exact below_d3 _ _ _ _ _ | with_reducible exact below_d4 _ _ _ _ _ _ _ _ | with_reducible exact below_d5 _ _ | with_reducible refine Below.drew ?_ | with_reducible refine Below.drewN' ?_ _ | with_reducible refine below_grow0 _ _ ?_ | with_reducible refine below_alloc0 _ ?_ | with_reducible refine Below.setCell ?_ ?_ _ | with_reducible refine Below.alloc ?_ ?_ _ | with_reducible refine Below.grow _ _ _ ?_ ?_ | omega | (simp; done) | (simp; omega)))⟩
  | true =>
    rw [hg] at HG
    have g := (good_parts hg).1
    have hzz : ∀ n ∈ l, n.path.size ≤ 200 := fun n hn => (goodP_size (g.path n hn).1).2
    have HOW := Lib.hid (fun (W : World) (h : Sl cNode 9 W (.slice A l.length c) l) (h2 : Sl cInt 1 W (.slice A2 ss.length c2) ss) => lawOwn z (.slice A l.length c) (.slice A2 ss.length c2) l ss W h h2 hn (by omega))
    have HLN := Lib.hid (fun (W : World) (v v2 : Value) (h : Sl cNode 9 W v l) (h2 : Sl cInt 1 W v2 ss) => trLine z v v2 l ss dir name W h h2 (by omega) hzz hnm)
    have HHD := Lib.hid (fun (W : World) (v v2 : Value) (h : Sl cNode 9 W v l) (h2 : Sl cInt 1 W v2 ss) => trHolder z v v2 l ss dir name W h h2 (by omega) hzz hnm hd)
    unfold LineRes at HLN
    unfold HoldRes at HHD
    by_cases hE : lineE ⟨z, l, ss⟩ dir name = 0
    · cases hL : lineL ⟨z, l, ss⟩ dir name with
      | nil =>
        have e2 : holdE ⟨z, l, ss⟩ dir name = 0 := by unfold holdE; rw [if_pos hE, hL]
        rw [hE, hL] at HLN
        rw [e2, hL] at HHD
        simp only [if_true, holdO] at HHD
        clear hE e2 g hg hL
        go_enter Tryd.func3, Tryd.ntmps3
        go_wp2_with (first | (go_at_call 13; refine (HG.out _ (HV.out.below (by repeat (first | with_reducible exact Below.refl _ _ | with_reducible assumption | with_reducible exact below_d1 _ _ _ _ _ | with_reducible exact below_d2 _ _ _ _ _ _ _ _ | with_reducible exact below_d3 _ _ _ _ _ | with_reducible exact below_d4 _ _ _ _ _ _ _ _ | with_reducible exact below_d5 _ _ | with_reducible refine Below.drew ?_ | with_reducible refine Below.drewN' ?_ _ | with_reducible refine below_grow0 _ _ ?_ | with_reducible refine below_alloc0 _ ?_ | with_reducible refine Below.setCell ?_ ?_ _ | with_reducible refine Below.alloc ?_ ?_ _ | with_reducible refine Below.grow _ _ _ ?_ ?_ | omega | (simp; done) | (simp; omega)))) (HS.out.below (by repeat (first | with_reducible exact Below.refl _ _ | with_reducible assumption | with_reducible exact below_d1 _ _ _ _ _ | with_reducible exact below_d2 _ _ _ _ _ _ _ _ | with_reducible exact below_d3 _ _ _ _ _ | with_reducible exact below_d4 _ _ _ _ _ _ _ _ | with_reducible exact below_d5 _ _ | with_reducible refine Below.drew ?_ | with_reducible refine Below.drewN' ?_ _ | with_reducible refine below_grow0 _ _ ?_ | with_reducible refine below_alloc0 _ ?_ | with_reducible refine Below.setCell ?_ ?_ _ | with_reducible refine Below.alloc ?_ ?_ _ | with_reducible refine Below.grow _ _ _ ?_ ?_ | omega | (simp; done) | (simp; omega))))).mono ?_; rintro e w1 ⟨rfl, hb⟩; obtain ⟨ext0, d0, rfl⟩ := Below.grown_eq _ hb; clear hb HG) | (go_at_call 14; refine (HFN.out _).mono ?_; rintro e w1 ⟨rfl, rfl⟩; clear HFN) | (go_at_call 16; (with_reducible refine (HOW.out _ (HV.out.below (by repeat (first | with_reducible exact Below.refl _ _ | with_reducible assumption | with_reducible exact below_d1 _ _ _ _ _ | with_reducible exact below_d2 _ _ _ _ _ _ _ _ | with_reducible exact below_d3 _ _ _ _ _ | with_reducible exact below_d4 _ _ _ _ _ _ _ _ | with_reducible exact below_d5 _ _ | with_reducible refine Below.drew ?_ | with_reducible refine Below.drewN' ?_ _ | with_reducible refine below_grow0 _ _ ?_ | with_reducible refine below_alloc0 _ ?_ | with_reducible refine Below.setCell ?_ ?_ _ | with_reducible refine Below.alloc ?_ ?_ _ | with_reducible refine Below.grow _ _ _ ?_ ?_ | omega | (simp; done) | (simp; omega)))) (HS.out.below (by repeat (first | with_reducible exact Below.refl _ _ | with_reducible assumption | with_reducible exact below_d1 _ _ _ _ _ | with_reducible exact below_d2 _ _ _ _ _ _ _ _ | with_reducible exact below_d3 _ _ _ _ _ | with_reducible exact below_d4 _ _ _ _ _ _ _ _ | with_reducible exact below_d5 _ _ | with_reducible refine Below.drew ?_ | with_reducible refine Below.drewN' ?_ _ | with_reducible refine below_grow0 _ _ ?_ | with_reducible refine below_alloc0 _ ?_ | with_reducible refine Below.setCell ?_ ?_ _ | with_reducible refine Below.alloc ?_ ?_ _ | with_reducible refine Below.grow _ _ _ ?_ ?_ | omega | (simp; done) | (simp; omega))))).mono ?_); rintro e w1 ⟨A5, c5, A6, c6, rfl, ho1, ho2, hb1⟩; obtain ⟨ext1, d1, rfl⟩ := Below.grown_eq _ hb1; have HO1 := Lib.hid ho1.sl; have HO2 := Lib.hid ho2.sl; clear ho1 ho2 hb1) | (go_at_call 15; (with_reducible refine (HLN.out _ _ _ (HO1.out.below (by repeat (first | with_reducible exact Below.refl _ _ | with_reducible assumption | with_reducible exact below_d1 _ _ _ _ _ | with_reducible exact below_d2 _ _ _ _ _ _ _ _ | with_reducible exact below_d3 _ _ _ _ _ | with_reducible exact below_d4 _ _ _ _ _ _ _ _ | with_reducible exact below_d5 _ _ | with_reducible refine Below.drew ?_ | with_reducible refine Below.drewN' ?_ _ | with_reducible refine below_grow0 _ _ ?_ | with_reducible refine below_alloc0 _ ?_ | with_reducible refine Below.setCell ?_ ?_ _ | with_reducible refine Below.alloc ?_ ?_ _ | with_reducible refine Below.grow _ _ _ ?_ ?_ | omega | (simp; done) | (simp; omega)))) (HO2.out.below (by repeat (first | with_reducible exact Below.refl _ _ | with_reducible assumption | with_reducible exact below_d1 _ _ _ _ _ | with_reducible exact below_d2 _ _ _ _ _ _ _ _ | with_reducible exact below_d3 _ _ _ _ _ | with_reducible exact below_d4 _ _ _ _ _ _ _ _ | with_reducible exact below_d5 _ _ | with_reducible refine Below.drew ?_ | with_reducible refine Below.drewN' ?_ _ | with_reducible refine below_grow0 _ _ ?_ | with_reducible refine below_alloc0 _ ?_ | with_reducible refine Below.setCell ?_ ?_ _ | with_reducible refine Below.alloc ?_ ?_ _ | with_reducible refine Below.grow _ _ _ ?_ ?_ | omega | (simp; done) | (simp; omega))))).mono ?_); rintro e w3 ⟨A7, c7, rfl, hk3, hb3⟩; obtain ⟨ext3, d3, rfl⟩ := Below.grown_eq _ hb3; clear hb3 hk3) | (go_at_call 17; refine (HHD.out _ _ _ (HO1.out.below (by repeat (first | with_reducible exact Below.refl _ _ | with_reducible assumption | with_reducible exact below_d1 _ _ _ _ _ | with_reducible exact below_d2 _ _ _ _ _ _ _ _ | with_reducible exact below_d3 _ _ _ _ _ | with_reducible exact below_d4 _ _ _ _ _ _ _ _ | with_reducible exact below_d5 _ _ | with_reducible refine Below.drew ?_ | with_reducible refine Below.drewN' ?_ _ | with_reducible refine below_grow0 _ _ ?_ | with_reducible refine below_alloc0 _ ?_ | with_reducible refine Below.setCell ?_ ?_ _ | with_reducible refine Below.alloc ?_ ?_ _ | with_reducible refine Below.grow _ _ _ ?_ ?_ | omega | (simp; done) | (simp; omega)))) (HO2.out.below (by repeat (first | with_reducible exact Below.refl _ _ | with_reducible assumption | with_reducible exact below_d1 _ _ _ _ _ | with_reducible exact below_d2 _ _ _ _ _ _ _ _ | with_reducible exact below_d3 _ _ _ _ _ | with_reducible exact below_d4 _ _ _ _ _ _ _ _ | with_reducible exact below_d5 _ _ | with_reducible refine Below.drew ?_ | with_reducible refine Below.drewN' ?_ _ | with_reducible refine below_grow0 _ _ ?_ | with_reducible refine below_alloc0 _ ?_ | with_reducible refine Below.setCell ?_ ?_ _ | with_reducible refine Below.alloc ?_ ?_ _ | with_reducible refine Below.grow _ _ _ ?_ ?_ | omega | (simp; done) | (simp; omega))))).mono ?_; rintro e w1 ⟨rfl, hb⟩; obtain ⟨ext4, d4, rfl⟩ := Below.grown_eq _ hb; clear hb))
        go_ret
        exact ⟨rfl, (by repeat (first | with_reducible exact Below.refl _ _ | with_reducible assumption | with_reducible exact below_d1 _ _ _ _ _ | with_reducible exact below_d2 _ _ _ _ _ _ _ _ | with_reducible exact below_d3 _ _ _ _ _ | with_reducible exact below_d4 _ _ _ _ _ _ _ _ | with_reducible exact below_d5 _ _ | with_reducible refine Below.drew ?_ | with_reducible refine Below.drewN' ?_ _ | with_reducible refine below_grow0 _ _ ?_ | with_reducible refine below_alloc0 _ ?_ | with_reducible refine Below.setCell ?_ ?_ _ | with_reducible refine Below.alloc ?_ ?_ _ | with_reducible refine Below.grow _ _ _ ?_ ?_ | omega | (simp; done) | (simp; omega)))⟩
      | cons s r =>
        have hsm : s ∈ lineL ⟨z, l, ss⟩ dir name := by rw [hL]; simp
        obtain ⟨n, hnl, hj, hhas, hget⟩ := kid_node g (line_kids hsm).1
        have hge : getE l (joinR dir s).1 = 0 := by rw [hj]; unfold getE; rw [if_pos hhas]
        have e2 : holdE ⟨z, l, ss⟩ dir name = 0 := by unfold holdE; rw [if_pos hE, hL]; exact hge
        have hhe : hasN l dir = true := by
          unfold lineE at hE
          by_cases hh : hasN l dir = true
          · exact hh
          · rw [if_neg hh] at hE
            exact absurd hE (by decide)
        have hsorted := line_sorted g dir name
        have hkle := line_le ⟨z, l, ss⟩ dir name
        have hsz := kid_size (line_kids hsm).1
        have HJN := Lib.hid (fun (W : World) => join_any dir s W hd (by omega))
        rw [hj] at HJN
        have HGT := Lib.hid (fun (W : World) (h : Sl cNode 9 W (.slice A l.length c) l) => trGet z (.slice A l.length c) A2 ss.length c2 l n.path W h (by omega))
        unfold getE at HGT
        rw [hhas, hget, if_pos rfl] at HGT
        rw [e2] at HHD
        simp only [if_true] at HHD
        rw [hL] at HHD
        simp only [holdO] at HHD
        rw [hj, hget] at HHD
        have HBF := Lib.hid (fun (W : World) (v v2 : Value) (h : Sl cNode 9 W v l) (h2 : Sl cInt 1 W v2 ss) (i : Nat) (st : ByteArray) (hi : idxV (lineL ⟨z, l, ss⟩ dir name) st = (i : Nat)) (hil : i < (lineL ⟨z, l, ss⟩ dir name).length) => trBefore z v v2 l ss dir name st W h h2 (by omega) hzz hnm hE hi hil)
        have HRD := Lib.hid (fun (W : World) (v v2 : Value) (h : Sl cNode 9 W v l) (h2 : Sl cInt 1 W v2 ss) (many : Int) (hm : 0 ≤ many ∧ many ≤ 64) => trReady z v v2 l ss dir many W h h2 (by omega) hzz hm hhe)
        have hL0 : (lineL ⟨z, l, ss⟩ dir name)[0]? = some s := by rw [hL]; rfl
        rw [hE] at HLN
        simp only at hkle
        have hll := kidsL_le l dir
        clear hsm hnl hge e2 hhe hL hj hhas hget hE g hg
        generalize lineL ⟨z, l, ss⟩ dir name = L at *
        generalize (kidsL l dir).length = KN at *
        obtain ⟨np, nd, n1, n2, n3, n4, n5, n6, n7⟩ := n
        simp only at HJN HGT HHD
        have HSO := Lib.hid hsorted
        have HL0 := Lib.hid hL0
        have hlpos : 0 < L.length := (List.getElem?_eq_some_iff.1 hL0).1
        have hlb : (((L.length : Nat) : Int) == 0) = false := beq_eq_false_iff_ne.2 (by omega)
        clear hsorted hL0
        go_enter Tryd.func3, Tryd.ntmps3
        go_upto_region 7 with (first | (go_at_call 13; refine (HG.out _ (HV.out.below (by repeat (first | with_reducible exact Below.refl _ _ | with_reducible assumption | with_reducible exact below_d1 _ _ _ _ _ | with_reducible exact below_d2 _ _ _ _ _ _ _ _ | with_reducible exact below_d3 _ _ _ _ _ | with_reducible exact below_d4 _ _ _ _ _ _ _ _ | with_reducible exact below_d5 _ _ | with_reducible refine Below.drew ?_ | with_reducible refine Below.drewN' ?_ _ | with_reducible refine below_grow0 _ _ ?_ | with_reducible refine below_alloc0 _ ?_ | with_reducible refine Below.setCell ?_ ?_ _ | with_reducible refine Below.alloc ?_ ?_ _ | with_reducible refine Below.grow _ _ _ ?_ ?_ | omega | (simp; done) | (simp; omega)))) (HS.out.below (by repeat (first | with_reducible exact Below.refl _ _ | with_reducible assumption | with_reducible exact below_d1 _ _ _ _ _ | with_reducible exact below_d2 _ _ _ _ _ _ _ _ | with_reducible exact below_d3 _ _ _ _ _ | with_reducible exact below_d4 _ _ _ _ _ _ _ _ | with_reducible exact below_d5 _ _ | with_reducible refine Below.drew ?_ | with_reducible refine Below.drewN' ?_ _ | with_reducible refine below_grow0 _ _ ?_ | with_reducible refine below_alloc0 _ ?_ | with_reducible refine Below.setCell ?_ ?_ _ | with_reducible refine Below.alloc ?_ ?_ _ | with_reducible refine Below.grow _ _ _ ?_ ?_ | omega | (simp; done) | (simp; omega))))).mono ?_; rintro e w1 ⟨rfl, hb⟩; obtain ⟨ext0, d0, rfl⟩ := Below.grown_eq _ hb; clear hb HG) | (go_at_call 14; refine (HFN.out _).mono ?_; rintro e w1 ⟨rfl, rfl⟩; clear HFN) | (go_at_call 16; (with_reducible refine (HOW.out _ (HV.out.below (by repeat (first | with_reducible exact Below.refl _ _ | with_reducible assumption | with_reducible exact below_d1 _ _ _ _ _ | with_reducible exact below_d2 _ _ _ _ _ _ _ _ | with_reducible exact below_d3 _ _ _ _ _ | with_reducible exact below_d4 _ _ _ _ _ _ _ _ | with_reducible exact below_d5 _ _ | with_reducible refine Below.drew ?_ | with_reducible refine Below.drewN' ?_ _ | with_reducible refine below_grow0 _ _ ?_ | with_reducible refine below_alloc0 _ ?_ | with_reducible refine Below.setCell ?_ ?_ _ | with_reducible refine Below.alloc ?_ ?_ _ | with_reducible refine Below.grow _ _ _ ?_ ?_ | omega | (simp; done) | (simp; omega)))) (HS.out.below (by repeat (first | with_reducible exact Below.refl _ _ | with_reducible assumption | with_reducible exact below_d1 _ _ _ _ _ | with_reducible exact below_d2 _ _ _ _ _ _ _ _ | with_reducible exact below_d3 _ _ _ _ _ | with_reducible exact below_d4 _ _ _ _ _ _ _ _ | with_reducible exact below_d5 _ _ | with_reducible refine Below.drew ?_ | with_reducible refine Below.drewN' ?_ _ | with_reducible refine below_grow0 _ _ ?_ | with_reducible refine below_alloc0 _ ?_ | with_reducible refine Below.setCell ?_ ?_ _ | with_reducible refine Below.alloc ?_ ?_ _ | with_reducible refine Below.grow _ _ _ ?_ ?_ | omega | (simp; done) | (simp; omega))))).mono ?_); rintro e w1 ⟨A5, c5, A6, c6, rfl, ho1, ho2, hb1⟩; obtain ⟨ext1, d1, rfl⟩ := Below.grown_eq _ hb1; have HO1 := Lib.hid ho1.sl; have HO2 := Lib.hid ho2.sl; clear ho1 ho2 hb1) | (go_at_call 15; (with_reducible refine (HLN.out _ _ _ (HO1.out.below (by repeat (first | with_reducible exact Below.refl _ _ | with_reducible assumption | with_reducible exact below_d1 _ _ _ _ _ | with_reducible exact below_d2 _ _ _ _ _ _ _ _ | with_reducible exact below_d3 _ _ _ _ _ | with_reducible exact below_d4 _ _ _ _ _ _ _ _ | with_reducible exact below_d5 _ _ | with_reducible refine Below.drew ?_ | with_reducible refine Below.drewN' ?_ _ | with_reducible refine below_grow0 _ _ ?_ | with_reducible refine below_alloc0 _ ?_ | with_reducible refine Below.setCell ?_ ?_ _ | with_reducible refine Below.alloc ?_ ?_ _ | with_reducible refine Below.grow _ _ _ ?_ ?_ | omega | (simp; done) | (simp; omega)))) (HO2.out.below (by repeat (first | with_reducible exact Below.refl _ _ | with_reducible assumption | with_reducible exact below_d1 _ _ _ _ _ | with_reducible exact below_d2 _ _ _ _ _ _ _ _ | with_reducible exact below_d3 _ _ _ _ _ | with_reducible exact below_d4 _ _ _ _ _ _ _ _ | with_reducible exact below_d5 _ _ | with_reducible refine Below.drew ?_ | with_reducible refine Below.drewN' ?_ _ | with_reducible refine below_grow0 _ _ ?_ | with_reducible refine below_alloc0 _ ?_ | with_reducible refine Below.setCell ?_ ?_ _ | with_reducible refine Below.alloc ?_ ?_ _ | with_reducible refine Below.grow _ _ _ ?_ ?_ | omega | (simp; done) | (simp; omega))))).mono ?_); rintro e w3 ⟨A7, c7, rfl, hk3, hb3⟩; obtain ⟨ext3, d3, rfl⟩ := Below.grown_eq _ hb3; have HLS := Lib.hid hk3.sl; clear hb3 hk3) | (go_at_call 17; refine (HHD.out _ _ _ (HO1.out.below (by repeat (first | with_reducible exact Below.refl _ _ | with_reducible assumption | with_reducible exact below_d1 _ _ _ _ _ | with_reducible exact below_d2 _ _ _ _ _ _ _ _ | with_reducible exact below_d3 _ _ _ _ _ | with_reducible exact below_d4 _ _ _ _ _ _ _ _ | with_reducible exact below_d5 _ _ | with_reducible refine Below.drew ?_ | with_reducible refine Below.drewN' ?_ _ | with_reducible refine below_grow0 _ _ ?_ | with_reducible refine below_alloc0 _ ?_ | with_reducible refine Below.setCell ?_ ?_ _ | with_reducible refine Below.alloc ?_ ?_ _ | with_reducible refine Below.grow _ _ _ ?_ ?_ | omega | (simp; done) | (simp; omega)))) (HO2.out.below (by repeat (first | with_reducible exact Below.refl _ _ | with_reducible assumption | with_reducible exact below_d1 _ _ _ _ _ | with_reducible exact below_d2 _ _ _ _ _ _ _ _ | with_reducible exact below_d3 _ _ _ _ _ | with_reducible exact below_d4 _ _ _ _ _ _ _ _ | with_reducible exact below_d5 _ _ | with_reducible refine Below.drew ?_ | with_reducible refine Below.drewN' ?_ _ | with_reducible refine below_grow0 _ _ ?_ | with_reducible refine below_alloc0 _ ?_ | with_reducible refine Below.setCell ?_ ?_ _ | with_reducible refine Below.alloc ?_ ?_ _ | with_reducible refine Below.grow _ _ _ ?_ ?_ | omega | (simp; done) | (simp; omega))))).mono ?_; rintro e w1 ⟨rfl, hb⟩; obtain ⟨ext4, d4, rfl⟩ := Below.grown_eq _ hb; clear hb))
        refine gen_w (fun wa hwa => ?_)
        have hbwa : Below w.heap.size w wa := by rw [hwa.out]; exact (by repeat (first | with_reducible exact Below.refl _ _ | with_reducible assumption | with_reducible exact below_d1 _ _ _ _ _ | with_reducible exact below_d2 _ _ _ _ _ _ _ _ | with_reducible exact below_d3 _ _ _ _ _ | with_reducible exact below_d4 _ _ _ _ _ _ _ _ | with_reducible exact below_d5 _ _ | with_reducible refine Below.drew ?_ | with_reducible refine Below.drewN' ?_ _ | with_reducible refine below_grow0 _ _ ?_ | with_reducible refine below_alloc0 _ ?_ | with_reducible refine Below.setCell ?_ ?_ _ | with_reducible refine Below.alloc ?_ ?_ _ | with_reducible refine Below.grow _ _ _ ?_ ?_ | omega | (simp; done) | (simp; omega)))
        have hwa1 : w.heap.size < wa.heap.size := by rw [hwa.out]; simp <;> omega
        have j0 : wa.cell? ⟨w.heap.size, 0, none⟩ = some (.int .i64 z) := by rw [hwa.out]; go_simp
        have j1 : wa.cell? ⟨w.heap.size, 1, none⟩ = some (.slice A l.length c) := by rw [hwa.out]; go_simp
        have j2 : wa.cell? ⟨w.heap.size, 2, none⟩ = some (.slice A2 ss.length c2) := by rw [hwa.out]; go_simp
        have HLA := Lib.hid (HLS.out.below (w' := wa) (by rw [hwa.out]; exact (by repeat (first | with_reducible exact Below.refl _ _ | with_reducible assumption | with_reducible exact below_d1 _ _ _ _ _ | with_reducible exact below_d2 _ _ _ _ _ _ _ _ | with_reducible exact below_d3 _ _ _ _ _ | with_reducible exact below_d4 _ _ _ _ _ _ _ _ | with_reducible exact below_d5 _ _ | with_reducible refine Below.drew ?_ | with_reducible refine Below.drewN' ?_ _ | with_reducible refine below_grow0 _ _ ?_ | with_reducible refine below_alloc0 _ ?_ | with_reducible refine Below.setCell ?_ ?_ _ | with_reducible refine Below.alloc ?_ ?_ _ | with_reducible refine Below.grow _ _ _ ?_ ?_ | omega | (simp; done) | (simp; omega)))))
        obtain ⟨bk, off, rfl, hbk, c0⟩ := HLA.out.str_at HL0.out
        simp only [Nat.add_zero] at c0
        clear hwa HLS
        go_upto_region 11 with (first | (go_at_call 18; refine (HJN.out _).mono ?_; rintro e w1 ⟨rfl, hb⟩; obtain ⟨ext4, d4, rfl⟩ := Below.grown_eq _ hb; clear hb) | (go_at_call 19; refine (HGT.out _ (HV.out.below (by repeat (first | with_reducible exact Below.refl _ _ | with_reducible assumption | with_reducible exact below_d1 _ _ _ _ _ | with_reducible exact below_d2 _ _ _ _ _ _ _ _ | with_reducible exact below_d3 _ _ _ _ _ | with_reducible exact below_d4 _ _ _ _ _ _ _ _ | with_reducible exact below_d5 _ _ | with_reducible refine Below.drew ?_ | with_reducible refine Below.drewN' ?_ _ | with_reducible refine below_grow0 _ _ ?_ | with_reducible refine below_alloc0 _ ?_ | with_reducible refine Below.setCell ?_ ?_ _ | with_reducible refine Below.alloc ?_ ?_ _ | with_reducible refine Below.grow _ _ _ ?_ ?_ | omega | (simp; done) | (simp; omega))))).mono ?_; rintro e w1 ⟨rfl, hb⟩; obtain ⟨ext5, d5, rfl⟩ := Below.grown_eq _ hb; clear hb))
        refine gen_w (fun wb hwb => ?_)
        have hbb : Below wa.heap.size wa wb := by rw [hwb.out]; exact (by repeat (first | with_reducible exact Below.refl _ _ | with_reducible assumption | with_reducible exact below_d1 _ _ _ _ _ | with_reducible exact below_d2 _ _ _ _ _ _ _ _ | with_reducible exact below_d3 _ _ _ _ _ | with_reducible exact below_d4 _ _ _ _ _ _ _ _ | with_reducible exact below_d5 _ _ | with_reducible refine Below.drew ?_ | with_reducible refine Below.drewN' ?_ _ | with_reducible refine below_grow0 _ _ ?_ | with_reducible refine below_alloc0 _ ?_ | with_reducible refine Below.setCell ?_ ?_ _ | with_reducible refine Below.alloc ?_ ?_ _ | with_reducible refine Below.grow _ _ _ ?_ ?_ | omega | (simp; done) | (simp; omega)))
        have hbwb : Below w.heap.size w wb := Below.own hbwa hbb
        have hwb1 : w.heap.size < wb.heap.size := Nat.lt_of_lt_of_le hwa1 hbb.size
        have j0' := keep2 hbb j0
        have j1' := keep2 hbb j1
        have j2' := keep2 hbb j2
        have HLB := Lib.hid (HLA.out.below hbb)
        clear hwb HLA HJN HGT HL0 j0 j1 j2 c0 hbk
        go_wp2_with fail
        go_loopw [16] (fun i wr => ∃ (k : Nat), k ≤ L.length ∧ i = .int .i64 k ∧ Below wb.heap.size wb wr) (fun i _ => L.length - (intOf i).toNat)
        case atStart => exact ⟨0, Nat.zero_le _, rfl, (by repeat (first | with_reducible exact Below.refl _ _ | with_reducible assumption | with_reducible exact below_d1 _ _ _ _ _ | with_reducible exact below_d2 _ _ _ _ _ _ _ _ | with_reducible exact below_d3 _ _ _ _ _ | with_reducible exact below_d4 _ _ _ _ _ _ _ _ | with_reducible exact below_d5 _ _ | with_reducible refine Below.drew ?_ | with_reducible refine Below.drewN' ?_ _ | with_reducible refine below_grow0 _ _ ?_ | with_reducible refine below_alloc0 _ ?_ | with_reducible refine Below.setCell ?_ ?_ _ | with_reducible refine Below.alloc ?_ ?_ _ | with_reducible refine Below.grow _ _ _ ?_ ?_ | omega | (simp; done) | (simp; omega)))⟩
        case round =>
          obtain ⟨k, hk, rfl, hbr⟩ := hrel
          have j0 := keep2 hbr j0'
          have j1 := keep2 hbr j1'
          have j2 := keep2 hbr j2'
          have hwr : w.heap.size < wr.heap.size := Nat.lt_of_lt_of_le hwb1 hbr.size
          have hbwr : Below w.heap.size w wr := Below.own hbwb hbr
          clear j0' j1' j2'
          by_cases hlt : k < L.length
          · have hx : L[k]? = some (L[k]'hlt) := List.getElem?_eq_getElem _
            have hfk := first_sorted HSO.out hx
            obtain ⟨bk9, off9, e9, hbk, c0⟩ := (HLB.out.below hbr).str_at hx
            obtain ⟨rfl, rfl⟩ : bk = bk9 ∧ off = off9 := by injection e9 with e9; injection e9 with e9 e8; exact ⟨e9, e8⟩
            have hlx := (List.getElem?_eq_some_iff.1 hx).2
            have HXK := Lib.hid hx
            generalize L[k]'hlt = gs at *
            have HIX := Lib.hid (show idxV L gs = (k : Nat) by unfold idxV; rw [hfk, if_pos hlt])
            have HBK := Lib.hid (fun (W : World) (v v2 : Value) (h : Sl cNode 9 W v l) (h2 : Sl cInt 1 W v2 ss) => HBF.out W v v2 h h2 k gs HIX.out hlt)
            obtain ⟨sb, hsb⟩ : ∃ sb : ByteArray, sb = if 0 < k then L.getD (k - 1) ⟨#[]⟩ else ⟨#[]⟩ := ⟨_, rfl⟩
            obtain ⟨bb, hbb⟩ : ∃ bb : Bool, bb = decide (0 < k) := ⟨_, rfl⟩
            rw [← hsb, ← hbb] at HBK
            have HSB := Lib.hid hsb
            have HBB := Lib.hid hbb
            clear hx hfk e9 hlx hsb hbb
            go_upto_region 14 with fail
            go_cut [17, 18] from 104 to 146 (fun s17 s18 wx => s17 = .string sb ∧ s18 = .bool bb ∧ Below wr.heap.size wr wx)
            case first =>
              refine wp_region_noPanic ?_
              refine wp_region_W (by kernel_rfl) (fun W hW => ?_)
              have cl0 : W.cell? ⟨w.heap.size, 0, none⟩ = some (.int .i64 z) := by rw [hW.out]; go_simp
              have cl1 : W.cell? ⟨w.heap.size, 1, none⟩ = some (.slice A l.length c) := by rw [hW.out]; go_simp
              have cl2 : W.cell? ⟨w.heap.size, 2, none⟩ = some (.slice A2 ss.length c2) := by rw [hW.out]; go_simp
              have cl3 : W.cell? ⟨bk, off + k, none⟩ = some (.string gs) := by rw [hW.out]; go_simp
              have HVW := Lib.hid (HV.out.below (w' := W) (by rw [hW.out]; exact hbwr.drew))
              have HSW := Lib.hid (HS.out.below (w' := W) (by rw [hW.out]; exact hbwr.drew))
              have hWs : w.heap.size < W.heap.size := by rw [hW.out]; simp <;> omega
              have hWk : bk < W.heap.size := by rw [hW.out]; simp <;> omega
              have hW1W : Below wr.heap.size wr W := by rw [hW.out]; exact (by repeat (first | with_reducible exact Below.refl _ _ | with_reducible assumption | with_reducible exact below_d1 _ _ _ _ _ | with_reducible exact below_d2 _ _ _ _ _ _ _ _ | with_reducible exact below_d3 _ _ _ _ _ | with_reducible exact below_d4 _ _ _ _ _ _ _ _ | with_reducible exact below_d5 _ _ | with_reducible refine Below.drew ?_ | with_reducible refine Below.drewN' ?_ _ | with_reducible refine below_grow0 _ _ ?_ | with_reducible refine below_alloc0 _ ?_ | with_reducible refine Below.setCell ?_ ?_ _ | with_reducible refine Below.alloc ?_ ?_ _ | with_reducible refine Below.grow _ _ _ ?_ ?_ | omega | (simp; done) | (simp; omega)))
              have hWs1 : W.heap.size = wr.heap.size := by rw [hW.out]; simp
              refine wpAny_S (fun w' => w'.cell? ⟨w.heap.size, 0, none⟩ = some (.int .i64 z) ∧ w'.cell? ⟨w.heap.size, 1, none⟩ = some (.slice A l.length c) ∧ w'.cell? ⟨w.heap.size, 2, none⟩ = some (.slice A2 ss.length c2) ∧ w'.cell? ⟨bk, off + k, none⟩ = some (.string gs)) (fun i => false) (by (try dsimp only); (refine ⟨?_, ?_, ?_, ?_⟩ <;> go_simp)) (fun hHeld => ?_)
              (refine wpE_take (i := 0) (v := ?gV1_1) (by simp only [List.getElem?_toArray]; rfl) (by kernel_rfl) (by kernel_rfl) (by kernel_rfl) (by kernel_rfl) (by kernel_rfl) (by rfl) (fun _ _ _ h => h) (Or.inl ⟨by rfl, ?gY1_1⟩) (by assumption) ?gR1_1; case gY1_1 => (intro w hSw; (try dsimp only at hSw); go_simp <;> with_reducible rfl))
              try simp only [Act.put, List.setIfInBounds_toArray, List.set_cons_zero, List.set_cons_succ]
              (refine wpE_takeP (i := 2) (v := ?gV1_2) (by simp only [List.getElem?_toArray]; rfl) (by kernel_rfl) (by kernel_rfl) (by kernel_rfl) (by rfl) (fun _ _ _ h => h) (Or.inl ⟨by rfl, ?gY1_2⟩) (by assumption) ?gR1_2; case gY1_2 => (intro w hSw; (try dsimp only at hSw); go_simp <;> with_reducible rfl))
              try simp only [Act.put, List.setIfInBounds_toArray, List.set_cons_zero, List.set_cons_succ]
              (refine wpE_takeP (i := 3) (v := ?gV1_3) (by simp only [List.getElem?_toArray]; rfl) (by kernel_rfl) (by kernel_rfl) (by kernel_rfl) (by rfl) (fun _ _ _ h => h) (Or.inl ⟨by rfl, ?gY1_3⟩) (by assumption) ?gR1_3; case gY1_3 => (intro w hSw; (try dsimp only at hSw); go_simp <;> with_reducible rfl))
              try simp only [Act.put, List.setIfInBounds_toArray, List.set_cons_zero, List.set_cons_succ]
              (refine wpE_takeP (i := 4) (v := ?gV1_4) (by simp only [List.getElem?_toArray]; rfl) (by kernel_rfl) (by kernel_rfl) (by kernel_rfl) (by rfl) (fun _ _ _ h => h) (Or.inl ⟨by rfl, ?gY1_4⟩) (by assumption) ?gR1_4; case gY1_4 => (intro w hSw; (try dsimp only at hSw); go_simp <;> with_reducible rfl))
              try simp only [Act.put, List.setIfInBounds_toArray, List.set_cons_zero, List.set_cons_succ]
              (refine wpE_takeP (i := 5) (v := ?gV1_5) (by simp only [List.getElem?_toArray]; rfl) (by kernel_rfl) (by kernel_rfl) (by kernel_rfl) (by rfl) (fun _ _ _ h => h) (Or.inl ⟨by rfl, ?gY1_5⟩) (by assumption) ?gR1_5; case gY1_5 => (intro w hSw; (try dsimp only at hSw); go_simp <;> with_reducible rfl))
              try simp only [Act.put, List.setIfInBounds_toArray, List.set_cons_zero, List.set_cons_succ]
              (refine wpE_takeP (i := 6) (v := ?gV1_6) (by simp only [List.getElem?_toArray]; rfl) (by kernel_rfl) (by kernel_rfl) (by kernel_rfl) (by rfl) (fun _ _ _ h => h) (Or.inl ⟨by rfl, ?gY1_6⟩) (by assumption) ?gR1_6; case gY1_6 => (intro w hSw; (try dsimp only at hSw); go_simp <;> with_reducible rfl))
              try simp only [Act.put, List.setIfInBounds_toArray, List.set_cons_zero, List.set_cons_succ]
              (refine wpE_take (i := 7) (v := ?gV1_7) (by simp only [List.getElem?_toArray]; rfl) (by kernel_rfl) (by kernel_rfl) (by kernel_rfl) (by kernel_rfl) (by kernel_rfl) (by rfl) (fun _ _ _ h => h) (Or.inl ⟨by rfl, ?gY1_7⟩) (by assumption) ?gR1_7; case gY1_7 => (intro w hSw; (try dsimp only at hSw); go_simp <;> with_reducible rfl))
              try simp only [Act.put, List.setIfInBounds_toArray, List.set_cons_zero, List.set_cons_succ]
              refine wpE_ready (rs := [1]) (by kernel_rfl) (by simp) ?_
              refine AllE.cons (by simp only [List.getElem?_toArray]; rfl) (fun K hK => ?_) AllE.nil
              go_simp
              (go_at_call 16; (with_reducible refine (HOW.out _ (HVW.out.below (by repeat (first | with_reducible exact Below.refl _ _ | with_reducible assumption | with_reducible exact below_d1 _ _ _ _ _ | with_reducible exact below_d2 _ _ _ _ _ _ _ _ | with_reducible exact below_d3 _ _ _ _ _ | with_reducible exact below_d4 _ _ _ _ _ _ _ _ | with_reducible exact below_d5 _ _ | with_reducible refine Below.drew ?_ | with_reducible refine Below.drewN' ?_ _ | with_reducible refine below_grow0 _ _ ?_ | with_reducible refine below_alloc0 _ ?_ | with_reducible refine Below.setCell ?_ ?_ _ | with_reducible refine Below.alloc ?_ ?_ _ | with_reducible refine Below.grow _ _ _ ?_ ?_ | omega | (simp; done) | (simp; omega)))) (HSW.out.below (by repeat (first | with_reducible exact Below.refl _ _ | with_reducible assumption | with_reducible exact below_d1 _ _ _ _ _ | with_reducible exact below_d2 _ _ _ _ _ _ _ _ | with_reducible exact below_d3 _ _ _ _ _ | with_reducible exact below_d4 _ _ _ _ _ _ _ _ | with_reducible exact below_d5 _ _ | with_reducible refine Below.drew ?_ | with_reducible refine Below.drewN' ?_ _ | with_reducible refine below_grow0 _ _ ?_ | with_reducible refine below_alloc0 _ ?_ | with_reducible refine Below.setCell ?_ ?_ _ | with_reducible refine Below.alloc ?_ ?_ _ | with_reducible refine Below.grow _ _ _ ?_ ?_ | omega | (simp; done) | (simp; omega))))).mono ?_); rintro e w1 ⟨A5, c5, A6, c6, rfl, ho1, ho2, hb1⟩; obtain ⟨ext1, d1, rfl⟩ := Below.grown_eq _ hb1; have HO1 := Lib.hid ho1.sl; have HO2 := Lib.hid ho2.sl; clear ho1 ho2 hb1)
              refine hK.out _ _ ?gT1_8 (fun hHeld => ?_)
              case gT1_8 => ((try dsimp only); (refine ⟨?_, ?_, ?_, ?_⟩ <;> go_simp))
              clear hK K
              skip
              refine wpE_ready (rs := [8]) (by kernel_rfl) (by simp) ?_
              refine AllE.cons (by simp only [List.getElem?_toArray]; rfl) (fun K hK => ?_) AllE.nil
              go_simp
              (go_at_call 20; (with_reducible refine (HBK.out _ _ _ (HO1.out.below (by repeat (first | with_reducible exact Below.refl _ _ | with_reducible assumption | with_reducible exact below_d1 _ _ _ _ _ | with_reducible exact below_d2 _ _ _ _ _ _ _ _ | with_reducible exact below_d3 _ _ _ _ _ | with_reducible exact below_d4 _ _ _ _ _ _ _ _ | with_reducible exact below_d5 _ _ | with_reducible refine Below.drew ?_ | with_reducible refine Below.drewN' ?_ _ | with_reducible refine below_grow0 _ _ ?_ | with_reducible refine below_alloc0 _ ?_ | with_reducible refine Below.setCell ?_ ?_ _ | with_reducible refine Below.alloc ?_ ?_ _ | with_reducible refine Below.grow _ _ _ ?_ ?_ | omega | (simp; done) | (simp; omega)))) (HO2.out.below (by repeat (first | with_reducible exact Below.refl _ _ | with_reducible assumption | with_reducible exact below_d1 _ _ _ _ _ | with_reducible exact below_d2 _ _ _ _ _ _ _ _ | with_reducible exact below_d3 _ _ _ _ _ | with_reducible exact below_d4 _ _ _ _ _ _ _ _ | with_reducible exact below_d5 _ _ | with_reducible refine Below.drew ?_ | with_reducible refine Below.drewN' ?_ _ | with_reducible refine below_grow0 _ _ ?_ | with_reducible refine below_alloc0 _ ?_ | with_reducible refine Below.setCell ?_ ?_ _ | with_reducible refine Below.alloc ?_ ?_ _ | with_reducible refine Below.grow _ _ _ ?_ ?_ | omega | (simp; done) | (simp; omega))))).mono ?_); rintro e w3 ⟨rfl, hb3⟩; obtain ⟨ext3, d3, rfl⟩ := Below.grown_eq _ hb3; clear hb3)
              refine hK.out _ _ ?gT1_9 (fun hHeld => ?_)
              case gT1_9 => ((try dsimp only); (refine ⟨?_, ?_, ?_, ?_⟩ <;> go_simp))
              clear hK K
              try simp only [Act.put, List.setIfInBounds_toArray, List.set_cons_zero, List.set_cons_succ]
              (refine wpE_takeP (i := 9) (v := ?gV1_10) (by simp only [List.getElem?_toArray]; rfl) (by kernel_rfl) (by kernel_rfl) (by kernel_rfl) (by rfl) (fun _ _ _ h => h) (Or.inl ⟨by rfl, ?gY1_10⟩) (by assumption) ?gR1_10; case gY1_10 => (intro w hSw; (try dsimp only at hSw); go_simp <;> with_reducible rfl))
              try simp only [Act.put, List.setIfInBounds_toArray, List.set_cons_zero, List.set_cons_succ]
              (refine wpE_takeP (i := 10) (v := ?gV1_11) (by simp only [List.getElem?_toArray]; rfl) (by kernel_rfl) (by kernel_rfl) (by kernel_rfl) (by rfl) (fun _ _ _ h => h) (Or.inl ⟨by rfl, ?gY1_11⟩) (by assumption) ?gR1_11; case gY1_11 => (intro w hSw; (try dsimp only at hSw); go_simp <;> with_reducible rfl))
              try simp only [Act.put, List.setIfInBounds_toArray, List.set_cons_zero, List.set_cons_succ]
              (refine wpE_takeP (i := 11) (v := ?gV1_12) (by simp only [List.getElem?_toArray]; rfl) (by kernel_rfl) (by kernel_rfl) (by kernel_rfl) (by rfl) (fun _ _ _ h => h) (Or.inl ⟨by rfl, ?gY1_12⟩) (by assumption) ?gR1_12; case gY1_12 => (intro w hSw; (try dsimp only at hSw); go_simp <;> with_reducible rfl))
              try simp only [Act.put, List.setIfInBounds_toArray, List.set_cons_zero, List.set_cons_succ]
              (refine wpE_takeP (i := 12) (v := ?gV1_13) (by simp only [List.getElem?_toArray]; rfl) (by kernel_rfl) (by kernel_rfl) (by kernel_rfl) (by rfl) (fun _ _ _ h => h) (Or.inl ⟨by rfl, ?gY1_13⟩) (by assumption) ?gR1_13; case gY1_13 => (intro w hSw; (try dsimp only at hSw); go_simp <;> with_reducible rfl))
              try simp only [Act.put, List.setIfInBounds_toArray, List.set_cons_zero, List.set_cons_succ]
              (refine wpE_takeP (i := 13) (v := ?gV1_14) (by simp only [List.getElem?_toArray]; rfl) (by kernel_rfl) (by kernel_rfl) (by kernel_rfl) (by rfl) (fun _ _ _ h => h) (Or.inl ⟨by rfl, ?gY1_14⟩) (by assumption) ?gR1_14; case gY1_14 => (intro w hSw; (try dsimp only at hSw); go_simp <;> with_reducible rfl))
              try simp only [Act.put, List.setIfInBounds_toArray, List.set_cons_zero, List.set_cons_succ]
              refine wpE_done (by kernel_rfl) ?_ _
              refine NoPanic.normal ?_
              go_wp2_with fail
              go_meet
              exact ⟨rfl, rfl, Below.own hW1W (by repeat (first | with_reducible exact Below.refl _ _ | with_reducible assumption | with_reducible exact below_d1 _ _ _ _ _ | with_reducible exact below_d2 _ _ _ _ _ _ _ _ | with_reducible exact below_d3 _ _ _ _ _ | with_reducible exact below_d4 _ _ _ _ _ _ _ _ | with_reducible exact below_d5 _ _ | with_reducible refine Below.drew ?_ | with_reducible refine Below.drewN' ?_ _ | with_reducible refine below_grow0 _ _ ?_ | with_reducible refine below_alloc0 _ ?_ | with_reducible refine Below.setCell ?_ ?_ _ | with_reducible refine Below.alloc ?_ ?_ _ | with_reducible refine Below.grow _ _ _ ?_ ?_ | omega | (simp; done) | (simp; omega)))⟩
            case rest =>
              obtain ⟨wx, rfl⟩ : ∃ wx : World, wx = wc := ⟨_, rfl⟩
              obtain ⟨rfl, rfl, hbx⟩ := hcut
              have c0' := keep2 hbx c0
              have hbkx : bk < wx.heap.size := Nat.lt_of_lt_of_le hbk hbx.size
              have hbwx : Below wb.heap.size wb wx := hbr.trans (hbx.mono hbr.size)
              by_cases h0 : 0 < k
              · obtain ⟨j, rfl⟩ : ∃ j, k = j + 1 := ⟨k - 1, by omega⟩
                have hxj : L[j]? = some (L[j]'(by omega)) := List.getElem?_eq_getElem _
                obtain ⟨bk9, off9, e9, _, b0⟩ := (HLB.out.below hbwx).str_at hxj
                obtain ⟨rfl, rfl⟩ : bk = bk9 ∧ off = off9 := by injection e9 with e9; injection e9 with e9 e8; exact ⟨e9, e8⟩
                have hcm := List.pairwise_iff_getElem.1 HSO.out j (j + 1) (by omega) hlt (by omega)
                rw [(List.getElem?_eq_some_iff.1 HXK.out).2] at hcm
                have hls := less_of_cmp hcm
                have hb1 := HBB.out
                have hs1 := HSB.out
                rw [decide_eq_true h0] at hb1
                rw [if_pos h0, List.getD_eq_getElem?_getD, Nat.add_sub_cancel, hxj] at hs1
                simp only [Option.getD_some] at hs1
                subst hb1
                have hjl : j < L.length := by omega
                clear hxj e9 hcm
                generalize L[j]'(by omega) = ps at *
                subst hs1
                clear h0 j0 j1 j2
                go_wp2_with fail
                go_roundw
                case rel => exact ⟨j + 1 + 1, by omega, by go_num, hbwx⟩
                case measure => simp [intOf]; omega
              · obtain rfl : k = 0 := by omega
                have hb1 := HBB.out
                have hs1 := HSB.out
                rw [decide_eq_false h0] at hb1
                rw [if_neg h0] at hs1
                subst hb1 hs1
                clear h0 j0 j1 j2
                go_wp2_with fail
                go_roundw
                case rel => exact ⟨1, by omega, by go_num, hbwx⟩
                case measure => simp [intOf]; omega
          · have hkl : k = L.length := by omega
            subst hkl
            have hdm : ∀ m : Int, m ≤ (L.length : Int) → decide (m ≤ (KN : Int)) = true := fun m hm => decide_eq_true (by omega)
            have HDM := Lib.hid hdm
            clear hdm
            have HRM := Lib.hid (fun (W : World) (v v2 : Value) (h : Sl cNode 9 W v l) (h2 : Sl cInt 1 W v2 ss) => HRD.out W v v2 h h2 (min (L.length : Int) 64) (by omega))
            rw [HDM.out (min (L.length : Int) 64) (by omega)] at HRM
            go_wp2_with (first | (go_at_call 16; (with_reducible refine (HOW.out _ (HV.out.below (by repeat (first | with_reducible exact Below.refl _ _ | with_reducible assumption | with_reducible exact below_d1 _ _ _ _ _ | with_reducible exact below_d2 _ _ _ _ _ _ _ _ | with_reducible exact below_d3 _ _ _ _ _ | with_reducible exact below_d4 _ _ _ _ _ _ _ _ | with_reducible exact below_d5 _ _ | with_reducible refine Below.drew ?_ | with_reducible refine Below.drewN' ?_ _ | with_reducible refine below_grow0 _ _ ?_ | with_reducible refine below_alloc0 _ ?_ | with_reducible refine Below.setCell ?_ ?_ _ | with_reducible refine Below.alloc ?_ ?_ _ | with_reducible refine Below.grow _ _ _ ?_ ?_ | omega | (simp; done) | (simp; omega)))) (HS.out.below (by repeat (first | with_reducible exact Below.refl _ _ | with_reducible assumption | with_reducible exact below_d1 _ _ _ _ _ | with_reducible exact below_d2 _ _ _ _ _ _ _ _ | with_reducible exact below_d3 _ _ _ _ _ | with_reducible exact below_d4 _ _ _ _ _ _ _ _ | with_reducible exact below_d5 _ _ | with_reducible refine Below.drew ?_ | with_reducible refine Below.drewN' ?_ _ | with_reducible refine below_grow0 _ _ ?_ | with_reducible refine below_alloc0 _ ?_ | with_reducible refine Below.setCell ?_ ?_ _ | with_reducible refine Below.alloc ?_ ?_ _ | with_reducible refine Below.grow _ _ _ ?_ ?_ | omega | (simp; done) | (simp; omega))))).mono ?_); rintro e w1 ⟨A5, c5, A6, c6, rfl, ho1, ho2, hb1⟩; obtain ⟨ext1, d1, rfl⟩ := Below.grown_eq _ hb1; have HO1 := Lib.hid ho1.sl; have HO2 := Lib.hid ho2.sl; clear ho1 ho2 hb1) | (go_at_call 21; refine (HRM.out _ _ _ (HO1.out.below (by repeat (first | with_reducible exact Below.refl _ _ | with_reducible assumption | with_reducible exact below_d1 _ _ _ _ _ | with_reducible exact below_d2 _ _ _ _ _ _ _ _ | with_reducible exact below_d3 _ _ _ _ _ | with_reducible exact below_d4 _ _ _ _ _ _ _ _ | with_reducible exact below_d5 _ _ | with_reducible refine Below.drew ?_ | with_reducible refine Below.drewN' ?_ _ | with_reducible refine below_grow0 _ _ ?_ | with_reducible refine below_alloc0 _ ?_ | with_reducible refine Below.setCell ?_ ?_ _ | with_reducible refine Below.alloc ?_ ?_ _ | with_reducible refine Below.grow _ _ _ ?_ ?_ | omega | (simp; done) | (simp; omega)))) (HO2.out.below (by repeat (first | with_reducible exact Below.refl _ _ | with_reducible assumption | with_reducible exact below_d1 _ _ _ _ _ | with_reducible exact below_d2 _ _ _ _ _ _ _ _ | with_reducible exact below_d3 _ _ _ _ _ | with_reducible exact below_d4 _ _ _ _ _ _ _ _ | with_reducible exact below_d5 _ _ | with_reducible refine Below.drew ?_ | with_reducible refine Below.drewN' ?_ _ | with_reducible refine below_grow0 _ _ ?_ | with_reducible refine below_alloc0 _ ?_ | with_reducible refine Below.setCell ?_ ?_ _ | with_reducible refine Below.alloc ?_ ?_ _ | with_reducible refine Below.grow _ _ _ ?_ ?_ | omega | (simp; done) | (simp; omega))))).mono ?_; rintro e w1 ⟨rfl, hb⟩; obtain ⟨ext2, d2, rfl⟩ := Below.grown_eq _ hb; clear hb))
            go_ret
            exact ⟨rfl, (by repeat (first | with_reducible exact Below.refl _ _ | with_reducible assumption | with_reducible exact below_d1 _ _ _ _ _ | with_reducible exact below_d2 _ _ _ _ _ _ _ _ | with_reducible exact below_d3 _ _ _ _ _ | with_reducible exact below_d4 _ _ _ _ _ _ _ _ | with_reducible exact below_d5 _ _ | with_reducible refine Below.drew ?_ | with_reducible refine Below.drewN' ?_ _ | with_reducible refine below_grow0 _ _ ?_ | with_reducible refine below_alloc0 _ ?_ | with_reducible refine Below.setCell ?_ ?_ _ | with_reducible refine Below.alloc ?_ ?_ _ | with_reducible refine Below.grow _ _ _ ?_ ?_ | omega | (simp; done) | (simp; omega)))⟩
    · obtain ⟨e1, e2⟩ := holdE_no hE
      rw [e1] at HLN
      rw [e2] at HHD
      simp only [if_neg hE] at HHD
      generalize lineE ⟨z, l, ss⟩ dir name = E at *
      have q1 : (E == 0) = false := beq_eq_false_iff_ne.2 hE
      have q2 : (E != 0) = true := bne_iff_ne.2 hE
      clear hE e1 e2 g hg
      go_enter Tryd.func3, Tryd.ntmps3
      go_wp2_with (first | (go_at_call 13; refine (HG.out _ (HV.out.below (by repeat (first | with_reducible exact Below.refl _ _ | with_reducible assumption | with_reducible exact below_d1 _ _ _ _ _ | with_reducible exact below_d2 _ _ _ _ _ _ _ _ | with_reducible exact below_d3 _ _ _ _ _ | with_reducible exact below_d4 _ _ _ _ _ _ _ _ | with_reducible exact below_d5 _ _ | with_reducible refine Below.drew ?_ | with_reducible refine Below.drewN' ?_ _ | with_reducible refine below_grow0 _ _ ?_ | with_reducible refine below_alloc0 _ ?_ | with_reducible refine Below.setCell ?_ ?_ _ | with_reducible refine Below.alloc ?_ ?_ _ | with_reducible refine Below.grow _ _ _ ?_ ?_ | omega | (simp; done) | (simp; omega)))) (HS.out.below (by repeat (first | with_reducible exact Below.refl _ _ | with_reducible assumption | with_reducible exact below_d1 _ _ _ _ _ | with_reducible exact below_d2 _ _ _ _ _ _ _ _ | with_reducible exact below_d3 _ _ _ _ _ | with_reducible exact below_d4 _ _ _ _ _ _ _ _ | with_reducible exact below_d5 _ _ | with_reducible refine Below.drew ?_ | with_reducible refine Below.drewN' ?_ _ | with_reducible refine below_grow0 _ _ ?_ | with_reducible refine below_alloc0 _ ?_ | with_reducible refine Below.setCell ?_ ?_ _ | with_reducible refine Below.alloc ?_ ?_ _ | with_reducible refine Below.grow _ _ _ ?_ ?_ | omega | (simp; done) | (simp; omega))))).mono ?_; rintro e w1 ⟨rfl, hb⟩; obtain ⟨ext0, d0, rfl⟩ := Below.grown_eq _ hb; clear hb HG) | (go_at_call 14; refine (HFN.out _).mono ?_; rintro e w1 ⟨rfl, rfl⟩; clear HFN) | (go_at_call 16; (with_reducible refine (HOW.out _ (HV.out.below (by repeat (first | with_reducible exact Below.refl _ _ | with_reducible assumption | with_reducible exact below_d1 _ _ _ _ _ | with_reducible exact below_d2 _ _ _ _ _ _ _ _ | with_reducible exact below_d3 _ _ _ _ _ | with_reducible exact below_d4 _ _ _ _ _ _ _ _ | with_reducible exact below_d5 _ _ | with_reducible refine Below.drew ?_ | with_reducible refine Below.drewN' ?_ _ | with_reducible refine below_grow0 _ _ ?_ | with_reducible refine below_alloc0 _ ?_ | with_reducible refine Below.setCell ?_ ?_ _ | with_reducible refine Below.alloc ?_ ?_ _ | with_reducible refine Below.grow _ _ _ ?_ ?_ | omega | (simp; done) | (simp; omega)))) (HS.out.below (by repeat (first | with_reducible exact Below.refl _ _ | with_reducible assumption | with_reducible exact below_d1 _ _ _ _ _ | with_reducible exact below_d2 _ _ _ _ _ _ _ _ | with_reducible exact below_d3 _ _ _ _ _ | with_reducible exact below_d4 _ _ _ _ _ _ _ _ | with_reducible exact below_d5 _ _ | with_reducible refine Below.drew ?_ | with_reducible refine Below.drewN' ?_ _ | with_reducible refine below_grow0 _ _ ?_ | with_reducible refine below_alloc0 _ ?_ | with_reducible refine Below.setCell ?_ ?_ _ | with_reducible refine Below.alloc ?_ ?_ _ | with_reducible refine Below.grow _ _ _ ?_ ?_ | omega | (simp; done) | (simp; omega))))).mono ?_); rintro e w1 ⟨A5, c5, A6, c6, rfl, ho1, ho2, hb1⟩; obtain ⟨ext1, d1, rfl⟩ := Below.grown_eq _ hb1; have HO1 := Lib.hid ho1.sl; have HO2 := Lib.hid ho2.sl; clear ho1 ho2 hb1) | (go_at_call 15; (with_reducible refine (HLN.out _ _ _ (HO1.out.below (by repeat (first | with_reducible exact Below.refl _ _ | with_reducible assumption | with_reducible exact below_d1 _ _ _ _ _ | with_reducible exact below_d2 _ _ _ _ _ _ _ _ | with_reducible exact below_d3 _ _ _ _ _ | with_reducible exact below_d4 _ _ _ _ _ _ _ _ | with_reducible exact below_d5 _ _ | with_reducible refine Below.drew ?_ | with_reducible refine Below.drewN' ?_ _ | with_reducible refine below_grow0 _ _ ?_ | with_reducible refine below_alloc0 _ ?_ | with_reducible refine Below.setCell ?_ ?_ _ | with_reducible refine Below.alloc ?_ ?_ _ | with_reducible refine Below.grow _ _ _ ?_ ?_ | omega | (simp; done) | (simp; omega)))) (HO2.out.below (by repeat (first | with_reducible exact Below.refl _ _ | with_reducible assumption | with_reducible exact below_d1 _ _ _ _ _ | with_reducible exact below_d2 _ _ _ _ _ _ _ _ | with_reducible exact below_d3 _ _ _ _ _ | with_reducible exact below_d4 _ _ _ _ _ _ _ _ | with_reducible exact below_d5 _ _ | with_reducible refine Below.drew ?_ | with_reducible refine Below.drewN' ?_ _ | with_reducible refine below_grow0 _ _ ?_ | with_reducible refine below_alloc0 _ ?_ | with_reducible refine Below.setCell ?_ ?_ _ | with_reducible refine Below.alloc ?_ ?_ _ | with_reducible refine Below.grow _ _ _ ?_ ?_ | omega | (simp; done) | (simp; omega))))).mono ?_); rintro e w3 ⟨A7, c7, rfl, hk3, hb3⟩; obtain ⟨ext3, d3, rfl⟩ := Below.grown_eq _ hb3; clear hb3 hk3) | (go_at_call 17; refine (HHD.out _ _ _ (HO1.out.below (by repeat (first | with_reducible exact Below.refl _ _ | with_reducible assumption | with_reducible exact below_d1 _ _ _ _ _ | with_reducible exact below_d2 _ _ _ _ _ _ _ _ | with_reducible exact below_d3 _ _ _ _ _ | with_reducible exact below_d4 _ _ _ _ _ _ _ _ | with_reducible exact below_d5 _ _ | with_reducible refine Below.drew ?_ | with_reducible refine Below.drewN' ?_ _ | with_reducible refine below_grow0 _ _ ?_ | with_reducible refine below_alloc0 _ ?_ | with_reducible refine Below.setCell ?_ ?_ _ | with_reducible refine Below.alloc ?_ ?_ _ | with_reducible refine Below.grow _ _ _ ?_ ?_ | omega | (simp; done) | (simp; omega)))) (HO2.out.below (by repeat (first | with_reducible exact Below.refl _ _ | with_reducible assumption | with_reducible exact below_d1 _ _ _ _ _ | with_reducible exact below_d2 _ _ _ _ _ _ _ _ | with_reducible exact below_d3 _ _ _ _ _ | with_reducible exact below_d4 _ _ _ _ _ _ _ _ | with_reducible exact below_d5 _ _ | with_reducible refine Below.drew ?_ | with_reducible refine Below.drewN' ?_ _ | with_reducible refine below_grow0 _ _ ?_ | with_reducible refine below_alloc0 _ ?_ | with_reducible refine Below.setCell ?_ ?_ _ | with_reducible refine Below.alloc ?_ ?_ _ | with_reducible refine Below.grow _ _ _ ?_ ?_ | omega | (simp; done) | (simp; omega))))).mono ?_; rintro e w1 ⟨rfl, hb⟩; obtain ⟨ext4, d4, rfl⟩ := Below.grown_eq _ hb; clear hb))
      go_ret
      exact ⟨rfl, (by repeat (first | with_reducible exact Below.refl _ _ | with_reducible assumption | with_reducible exact below_d1 _ _ _ _ _ | with_reducible exact below_d2 _ _ _ _ _ _ _ _ | with_reducible exact below_d3 _ _ _ _ _ | with_reducible exact below_d4 _ _ _ _ _ _ _ _ | with_reducible exact below_d5 _ _ | with_reducible refine Below.drew ?_ | with_reducible refine Below.drewN' ?_ _ | with_reducible refine below_grow0 _ _ ?_ | with_reducible refine below_alloc0 _ ?_ | with_reducible refine Below.setCell ?_ ?_ _ | with_reducible refine Below.alloc ?_ ?_ _ | with_reducible refine Below.grow _ _ _ ?_ ?_ | omega | (simp; done) | (simp; omega)))⟩

namespace recipeFirst
theorem own : ownKnob Tryd.prog.godebug = none := by kernel_rfl
theorem laidOut : laidOutB Tryd.prog = true := by kernel_rfl
set_option maxRecDepth 100000 in
set_option maxHeartbeats 1000000 in
theorem lifted (os : Os) (started : os.Started) (H : Type) (enc : TypeId × Value → H) :
    ReturnsInHanded {} Tryd.checked os 3 .any (fun w args => (Rows.recipeFirstSpec.pre enc Tryd.prog Tryd.f3 Rows.recipeFirstRow.domain false w args ∧ laidMetH Tryd.prog Rows.recipeFirstRow.laid w) ∧ sizedMet enc Tryd.prog Tryd.f3 (OpenSpec.ofChange Rows.recipeFirstSpec) false w args) (Rows.recipeFirstSpec.post enc Tryd.prog Tryd.f3 false true false false) := by
  refine returnsInHanded_of_change_and (C := Tryd.checked) (X := fun w _ => laidMetH Tryd.prog Rows.recipeFirstRow.laid w) (fun _ _ _ hh h => h.of_heap hh) own started (by kernel_rfl) Tryd.func3
    (ChangeSpec.witness_shaped (enc := enc) (C := Tryd.checked) (os := os) (X := fun w _ => laidMetH Tryd.prog Rows.recipeFirstRow.laid w) false (World.laidAll Tryd.prog os Rows.recipeFirstRow.laid) #[.agg #[.int .i64 0,.slice none 0 0,.slice none 0 0], .string ByteArray.empty, .string ByteArray.empty] 8 (World.laidAll_os _ _ _)
      (World.shaped_of_ZipB (by kernel_rfl) (by kernel_rfl)) (by kernel_rfl) (by kernel_rfl) (by kernel_rfl)
      (by rw [MakeChecks.laidMetH_plain _ _ _ (by kernel_rfl)]; exact laidMet_laidAll _ (by kernel_rfl) (by kernel_rfl))) ?_
  intro W base args ds gs before hval0 hW0 _ hsz0 hL _
  have hval : ∀ (j : Nat) t v, Tryd.f3.params[j]? = some t → args[j]? = some v → Value.okWide Tryd.prog W .any base t v := hval0
  have hW : DataW.Whole enc Tryd.prog Tryd.f3.params.toList Rows.recipeFirstSpec.vars false W args.toList ds gs before := hW0
  have hlt : ∀ p ∈ before, p.block < W.heap.size := fun p hp => hW.lt p hp
  have hW1 := hW
  obtain ⟨p, q, hA0, hV, rfl, hfz, hnd⟩ := hW1
  have hA : DataW.TrodAll enc Tryd.prog W 0 (fun _ => true) true Tryd.f3.params.toList args.toList ds p := hA0
  obtain ⟨rfl, rfl⟩ := trodVars_none hV
  rw [Tryd.params3] at hA hval
  obtain ⟨v0, vs0, d0, ds0, p0, q0, hargs, rfl, rfl, h0, r0⟩ := trodAll_cons hA
  obtain ⟨v1, vs1, d1, ds1, p1, q1, rfl, rfl, rfl, h1, r1⟩ := trodAll_cons r0
  obtain ⟨v2, vs2, d2, ds2, p2, q2, rfl, rfl, rfl, h2, r2⟩ := trodAll_cons r1
  obtain ⟨rfl, rfl, rfl⟩ := trodAll_nil r2
  obtain rfl : args = #[v0, v1, v2] := by cases args; simp_all
  have hsz : (DataW.weightsEach Tryd.prog [25, 9, 9] [d0, d1, d2]).all (· ≤ reachBytes) = true := hsz0
  have close : ∀ e W', (e = Ending.returned (.bool true) ∧ Below W.heap.size W W') → ∃ v, e = .returned v ∧ Rows.recipeFirstSpec.post enc Tryd.prog Tryd.f3 false true false false W #[v0, v1, v2] v W' :=
    fun e W' ⟨he, hb⟩ => ⟨_, he, law_post laidOut (of_decide_eq_true (by kernel_rfl)) rfl rfl Tryd.underlying4 hW rfl hb⟩
  clear hA0 hsz0 hval0 hW0 hA hV hW hfz hnd
  obtain ⟨a1, rfl, hd1, _, wf1⟩ := Go.ChangeMaps.open_string Tryd.underlying9 (hval 1 9 v1 rfl rfl) h1
  have rb1 : a1.size ≤ 140737488351232 := by subst hd1; have := sized_string hsz (j := 1) rfl rfl; simpa [reachBytes] using this
  obtain ⟨a2, rfl, hd2, _, wf2⟩ := Go.ChangeMaps.open_string Tryd.underlying9 (hval 2 9 v2 rfl rfl) h2
  have rb2 : a2.size ≤ 140737488351232 := by subst hd2; have := sized_string hsz (j := 2) rfl rfl; simpa [reachBytes] using this
  obtain ⟨cs, rfl, _⟩ := okWide_struct Tryd.underlying25 (hval 0 _ v0 rfl rfl)
  obtain ⟨z, v, vs, l, ss, hp, hN, hS, hz, hn, hn2⟩ := open_tree (n := 0) (open_deep 10 h0 (sized_arg hsz 0 rfl rfl))
  obtain rfl : cs = #[.int .i64 z, v, vs] := by simpa [Value.cells] using congrArg List.toArray hp
  exact (recipeFirst_ok z v vs l ss a1 a2 W hN hS hn hn2 hz (by omega) (by omega)).mono close
theorem proved : Rows.RecipeFirstSaid :=
  OpenClaim.holds_of_wide 3 Tryd.f3 rfl rfl rfl rfl rfl rfl rfl ⟨rfl, rfl, rfl, rfl, rfl⟩ rfl rfl rfl rfl rfl (by kernel_rfl) Tryd.func3 (by kernel_rfl)
    (of_decide_eq_true (by kernel_rfl)) (by unfold Func.isWrapper; first | (rw [if_pos (by decide +kernel)]; kernel_rfl) | (rw [if_neg (by decide +kernel)]; exact ⟨rfl, rfl⟩))
    (fun os started H enc _ => lifted os started H enc)
theorem card : Rows.RecipeFirstCardSaid :=
  Claim7.holds_tied_plain_at .later [] Rows.recipeFirstCard.laidKinds true Rows.recipeFirstCard.stood.harness false
    proved (fun _ h => by cases h) (by kernel_rfl) (fun _ h => by cases h) recipeFirst_row_tie rfl ⟨rfl, rfl⟩ (by kernel_rfl) rfl
    (fun f fn hf hfn => by
      obtain rfl : f = 3 := Option.some.inj ((show Tryd.prog.funcNamed "aviary/aviarykeep.RecipeFirst" = some 3 by kernel_rfl).symm.trans hf) |>.symm
      obtain rfl : fn = Tryd.f3 := (Option.some.inj (Tryd.func3.symm.trans hfn)).symm
      exact ⟨by kernel_rfl, fun j t ht => by
        rw [Tryd.params3] at ht
        have hm : t ∈ [25, 9, 9] := by simpa using Array.mem_of_getElem? ht
        have hall : ([25, 9, 9].all fun u => !Tryd.prog.wantsStandIn u) = true := by kernel_rfl
        exact (show Tryd.prog.wantsStandIn t = false by simpa using List.all_eq_true.1 hall t hm)⟩)
    (by kernel_rfl)
end recipeFirst
end Go.Proofs.YteolglmifimnaaaDoor
