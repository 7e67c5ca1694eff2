/- The law TreeCloses is true for every input; no conditions. -/
import Derived.Test.YteolglmifimnaaaDoorCards
import Derived.Test.YteolglmifimnaaaDoorTie
import Derived.Lay
import Derived.LaidMore
import Derived.SevenTiedAt
import Derived.Test.YteolglmifimnaaaDoorPt1
import Derived.Test.YteolglmifimnaaaDoorPt2
import Derived.Test.YteolglmifimnaaaDoorPt3
import Derived.Test.YteolglmifimnaaaDoorPt4
import Derived.Test.YteolglmifimnaaaDoorPt5
import Derived.Test.YteolglmifimnaaaDoorPt6
import Derived.Test.YteolglmifimnaaaDoorPt7
import Derived.Test.YteolglmifimnaaaDoorPt8
import Derived.Test.YteolglmifimnaaaDoorPt9
namespace Go.Proofs.YteolglmifimnaaaDoor
open Go.RowKit Go.ChangeShapes Go.WideShapes Go.ChangeAt
set_option maxRecDepth 100000 in
set_option maxHeartbeats 4000000 in
theorem treeCloses_ok (z : Int) (v v2 : Value) (l : List Node) (ss : List Int) (s zx : Int) (w : World) (h : Sl cNode 9 w v l) (h2 : Sl cInt 1 w v2 ss) (hn : l.length * 88 ≤ 140737488355328) (hn2 : ss.length * 8 ≤ 140737488351232) (hz : ∀ n ∈ l, n.path.size ≤ 9223372036854775807) :
    Calls Tryd.prog 6 #[.agg #[.int .i64 z, v, v2], .int .i64 s, .int .i64 zx] w fun e w' => e = .returned (.bool true) ∧ Below w.heap.size w w' := by
  obtain ⟨A, c, rfl, h1, h1b⟩ := h.form
  obtain ⟨A2, c2, rfl, h3, h3b⟩ := h2.form
  have HV := Lib.hid h
  have HS := Lib.hid h2
  obtain ⟨x, hx⟩ : ∃ x : Txn, x = ⟨zx, 2, s, ⟨#[]⟩, ⟨#[]⟩, 0, 0⟩ := ⟨_, rfl⟩
  have HAP := Lib.hid (fun (W : World) (v v2 : Value) (h : Sl cNode 9 W v l) (h2 : Sl cInt 1 W v2 ss) => trApply z v v2 l ss x W h h2 hn (by omega) hz (by rw [hx]; exact Nat.zero_le _))
  have HOW := Lib.hid (fun (W : World) (h : Sl cNode 9 W (.slice A l.length c) l) (h2 : Sl cInt 1 W (.slice A2 ss.length c2) ss) => lawOwn z (.slice A l.length c) (.slice A2 ss.length c2) l ss W h h2 hn (by omega))
  have HGR := Lib.hid (fun (W : World) => grows_is W)
  unfold ApplyRes at HAP
  obtain ⟨T, hT⟩ : ∃ T, T = applyT ⟨z, l, ss⟩ x := ⟨_, rfl⟩
  obtain ⟨V, hV⟩ : ∃ V, V = applyV ⟨z, l, ss⟩ x := ⟨_, rfl⟩
  obtain ⟨E, hE⟩ : ∃ E, E = applyE ⟨z, l, ss⟩ x := ⟨_, rfl⟩
  rw [← hT, ← hV, ← hE] at HAP
  have HSP := Lib.hid (fun (h0 : E = 0) => close_spec (x := x) (by rw [hx]) (hE.symm.trans h0))
  rw [← hT, ← hV] at HSP
  subst hx
  simp only at HSP HAP
  clear h h2 hT hV hE
  go_enter Tryd.func6, Tryd.ntmps6
  go_upto_region 2 with (first | (go_at_call 16; (with_reducible refine (HOW.out _ (HV.out.below (by repeat (first | with_reducible exact Below.refl _ _ | with_reducible assumption | with_reducible exact below_d1 _ _ _ _ _ | with_reducible exact below_d2 _ _ _ _ _ _ _ _ | with_reducible exact below_d3 _ _ _ _ _ | with_reducible exact below_d4 _ _ _ _ _ _ _ _ | with_reducible exact below_d5 _ _ | with_reducible refine Below.drew ?_ | with_reducible refine Below.drewN' ?_ _ | with_reducible refine below_grow0 _ _ ?_ | with_reducible refine below_alloc0 _ ?_ | with_reducible refine Below.setCell ?_ ?_ _ | with_reducible refine Below.alloc ?_ ?_ _ | with_reducible refine Below.grow _ _ _ ?_ ?_ | omega | (simp; done) | (simp; omega)))) (HS.out.below (by repeat (first | with_reducible exact Below.refl _ _ | with_reducible assumption | with_reducible exact below_d1 _ _ _ _ _ | with_reducible exact below_d2 _ _ _ _ _ _ _ _ | with_reducible exact below_d3 _ _ _ _ _ | with_reducible exact below_d4 _ _ _ _ _ _ _ _ | with_reducible exact below_d5 _ _ | with_reducible refine Below.drew ?_ | with_reducible refine Below.drewN' ?_ _ | with_reducible refine below_grow0 _ _ ?_ | with_reducible refine below_alloc0 _ ?_ | with_reducible refine Below.setCell ?_ ?_ _ | with_reducible refine Below.alloc ?_ ?_ _ | with_reducible refine Below.grow _ _ _ ?_ ?_ | omega | (simp; done) | (simp; omega))))).mono ?_); rintro e w1 ⟨A5, c5, A6, c6, rfl, ho1, ho2, hb1⟩; obtain ⟨ext1, d1, rfl⟩ := Below.grown_eq _ hb1; have HO1 := Lib.hid ho1.sl; have HO2 := Lib.hid ho2.sl; clear ho1 ho2 hb1) | (go_at_call 23; (with_reducible refine (HAP.out _ _ _ (HO1.out.below (by repeat (first | with_reducible exact Below.refl _ _ | with_reducible assumption | with_reducible exact below_d1 _ _ _ _ _ | with_reducible exact below_d2 _ _ _ _ _ _ _ _ | with_reducible exact below_d3 _ _ _ _ _ | with_reducible exact below_d4 _ _ _ _ _ _ _ _ | with_reducible exact below_d5 _ _ | with_reducible refine Below.drew ?_ | with_reducible refine Below.drewN' ?_ _ | with_reducible refine below_grow0 _ _ ?_ | with_reducible refine below_alloc0 _ ?_ | with_reducible refine Below.setCell ?_ ?_ _ | with_reducible refine Below.alloc ?_ ?_ _ | with_reducible refine Below.grow _ _ _ ?_ ?_ | omega | (simp; done) | (simp; omega)))) (HO2.out.below (by repeat (first | with_reducible exact Below.refl _ _ | with_reducible assumption | with_reducible exact below_d1 _ _ _ _ _ | with_reducible exact below_d2 _ _ _ _ _ _ _ _ | with_reducible exact below_d3 _ _ _ _ _ | with_reducible exact below_d4 _ _ _ _ _ _ _ _ | with_reducible exact below_d5 _ _ | with_reducible refine Below.drew ?_ | with_reducible refine Below.drewN' ?_ _ | with_reducible refine below_grow0 _ _ ?_ | with_reducible refine below_alloc0 _ ?_ | with_reducible refine Below.setCell ?_ ?_ _ | with_reducible refine Below.alloc ?_ ?_ _ | with_reducible refine Below.grow _ _ _ ?_ ?_ | omega | (simp; done) | (simp; omega))))).mono ?_); rintro e w3 ⟨nv, sv, vv, rfl, hn3, hs3, hv3, hb3⟩; obtain ⟨A7, c7, rfl, _⟩ := hn3.form; obtain ⟨A8, c8, rfl, _⟩ := hs3.form; obtain ⟨A9, c9, rfl, _⟩ := hv3.form; have HN3 := Lib.hid hn3.sl; have HS3 := Lib.hid hs3.sl; have HV3 := Lib.hid hv3.sl; obtain ⟨ext3, d3, rfl⟩ := Below.grown_eq _ hb3; clear hn3 hs3 hv3 hb3))
  refine gen_w (fun wa hwa => ?_)
  have hbwa : Below w.heap.size w wa := by rw [hwa.out]; exact (by repeat (first | with_reducible exact Below.refl _ _ | with_reducible assumption | with_reducible exact below_d1 _ _ _ _ _ | with_reducible exact below_d2 _ _ _ _ _ _ _ _ | with_reducible exact below_d3 _ _ _ _ _ | with_reducible exact below_d4 _ _ _ _ _ _ _ _ | with_reducible exact below_d5 _ _ | with_reducible refine Below.drew ?_ | with_reducible refine Below.drewN' ?_ _ | with_reducible refine below_grow0 _ _ ?_ | with_reducible refine below_alloc0 _ ?_ | with_reducible refine Below.setCell ?_ ?_ _ | with_reducible refine Below.alloc ?_ ?_ _ | with_reducible refine Below.grow _ _ _ ?_ ?_ | omega | (simp; done) | (simp; omega)))
  have j0 : wa.cell? ⟨w.heap.size, 0, none⟩ = some (.int .i64 z) := by rw [hwa.out]; go_simp
  have j1 : wa.cell? ⟨w.heap.size, 1, none⟩ = some (.slice A l.length c) := by rw [hwa.out]; go_simp
  have j2 : wa.cell? ⟨w.heap.size, 2, none⟩ = some (.slice A2 ss.length c2) := by rw [hwa.out]; go_simp
  have t0 : wa.cell? ⟨w.heap.size + 1 + ext1.size + ext3.size, 0, none⟩ = some (.int .i64 T.zxid) := by rw [hwa.out]; exact newCell (by simp) rfl
  have t1 : wa.cell? ⟨w.heap.size + 1 + ext1.size + ext3.size, 1, none⟩ = some (.slice A7 T.nodes.length c7) := by rw [hwa.out]; exact newCell (by simp) rfl
  have t2 : wa.cell? ⟨w.heap.size + 1 + ext1.size + ext3.size, 2, none⟩ = some (.slice A8 T.sess.length c8) := by rw [hwa.out]; exact newCell (by simp) rfl
  have hb2 : w.heap.size + 1 + ext1.size + ext3.size < wa.heap.size := by rw [hwa.out]; simp <;> omega
  have hbne : w.heap.size < w.heap.size + 1 + ext1.size + ext3.size := by omega
  have HN := Lib.hid (HN3.out.below (w' := wa) (by rw [hwa.out]; exact (by repeat (first | with_reducible exact Below.refl _ _ | with_reducible assumption | with_reducible exact below_d1 _ _ _ _ _ | with_reducible exact below_d2 _ _ _ _ _ _ _ _ | with_reducible exact below_d3 _ _ _ _ _ | with_reducible exact below_d4 _ _ _ _ _ _ _ _ | with_reducible exact below_d5 _ _ | with_reducible refine Below.drew ?_ | with_reducible refine Below.drewN' ?_ _ | with_reducible refine below_grow0 _ _ ?_ | with_reducible refine below_alloc0 _ ?_ | with_reducible refine Below.setCell ?_ ?_ _ | with_reducible refine Below.alloc ?_ ?_ _ | with_reducible refine Below.grow _ _ _ ?_ ?_ | omega | (simp; done) | (simp; omega)))))
  have HM := Lib.hid (HS3.out.below (w' := wa) (by rw [hwa.out]; exact (by repeat (first | with_reducible exact Below.refl _ _ | with_reducible assumption | with_reducible exact below_d1 _ _ _ _ _ | with_reducible exact below_d2 _ _ _ _ _ _ _ _ | with_reducible exact below_d3 _ _ _ _ _ | with_reducible exact below_d4 _ _ _ _ _ _ _ _ | with_reducible exact below_d5 _ _ | with_reducible refine Below.drew ?_ | with_reducible refine Below.drewN' ?_ _ | with_reducible refine below_grow0 _ _ ?_ | with_reducible refine below_alloc0 _ ?_ | with_reducible refine Below.setCell ?_ ?_ _ | with_reducible refine Below.alloc ?_ ?_ _ | with_reducible refine Below.grow _ _ _ ?_ ?_ | omega | (simp; done) | (simp; omega)))))
  have hwa1 : w.heap.size < wa.heap.size := by omega
  clear hwa HN3 HS3 HV3 HO1 HO2 HAP HOW
  generalize w.heap.size + 1 + ext1.size + ext3.size = b at *
  by_cases hE : E = 0
  · obtain ⟨p1, p2, p3, p4, p5, p6⟩ := HSP.out hE
    subst hE
    clear HSP
    rw [owned_count] at p3 p4
    have HP1 := Lib.hid p1
    have HP2 := Lib.hid p2
    have hn4 : T.nodes.length ≤ l.length := by omega
    obtain ⟨cnt, hcnt⟩ : ∃ cnt, cnt = l.countP (fun n => decide (n.owner = s)) := ⟨_, rfl⟩
    rw [← hcnt] at p3 p4
    have HCN := Lib.hid hcnt
    have HOP := Lib.hid (fun (W : World) (h : Sl cInt 1 W (.slice A8 T.sess.length c8) T.sess) => trOpen T.zxid (.slice A8 T.sess.length c8) A7 T.nodes.length c7 T.sess s W h (by omega))
    rw [p5] at HOP
    clear p1 p2 p5 hcnt
    go_wp2_with ((go_at_call 22; refine (HGR.out _).mono ?_; rintro e w1 ⟨rfl, hb⟩; obtain ⟨ext0, d0, rfl⟩ := Below.grown_eq _ hb; clear hb))
    go_loopw [10, 11] (fun g i wr => ∃ (k : Nat), k ≤ l.length ∧ i = .int .i64 k ∧ g = .int .i64 ((l.take k).countP (fun n => decide (n.owner = s)) : Nat) ∧ Below wa.heap.size wa wr) (fun _ i _ => l.length - (intOf i).toNat)
    case atStart => exact ⟨0, Nat.zero_le _, rfl, rfl, (by repeat (first | with_reducible exact Below.refl _ _ | with_reducible assumption | with_reducible exact below_d1 _ _ _ _ _ | with_reducible exact below_d2 _ _ _ _ _ _ _ _ | with_reducible exact below_d3 _ _ _ _ _ | with_reducible exact below_d4 _ _ _ _ _ _ _ _ | with_reducible exact below_d5 _ _ | with_reducible refine Below.drew ?_ | with_reducible refine Below.drewN' ?_ _ | with_reducible refine below_grow0 _ _ ?_ | with_reducible refine below_alloc0 _ ?_ | with_reducible refine Below.setCell ?_ ?_ _ | with_reducible refine Below.alloc ?_ ?_ _ | with_reducible refine Below.grow _ _ _ ?_ ?_ | omega | (simp; done) | (simp; omega)))⟩
    case round =>
      obtain ⟨k, hk, rfl, rfl, hbr⟩ := hrel
      have j1' := keep2 hbr j1
      have j2' := keep2 hbr j2
      have t0' := keep2 hbr t0
      have t1' := keep2 hbr t1
      have t2' := keep2 hbr t2
      have hwr : w.heap.size < wr.heap.size := Nat.lt_of_lt_of_le hwa1 hbr.size
      have hbr2 : b < wr.heap.size := Nat.lt_of_lt_of_le hb2 hbr.size
      have hbwr : Below w.heap.size w wr := Below.own hbwa hbr
      clear j0 j1 j2 t0 t1 t2
      by_cases hlt : k < l.length
      · have hx : l[k]? = some (l[k]'hlt) := List.getElem?_eq_getElem _
        have hct := count_take hx s
        have q1 := HP1.out _ (List.mem_of_getElem? hx)
        have q2 := HP2.out _ (List.mem_of_getElem? hx)
        obtain ⟨bk, off, rfl, hbk, c0, c1, c2', c3, c4, c5, c6, c7', c8'⟩ := (HV.out.below hbwr).Node_at hx
        have hcl : (l.take k).countP (fun n => decide (n.owner = s)) ≤ k := Nat.le_trans List.countP_le_length (by rw [List.length_take]; omega)
        have HGT := Lib.hid (fun (W : World) (h : Sl cNode 9 W (.slice A7 T.nodes.length c7) T.nodes) => trGet T.zxid (.slice A7 T.nodes.length c7) A8 T.sess.length c8 T.nodes (l[k]'hlt).path W h (by omega))
        generalize l[k]'hlt = g at *
        obtain ⟨gp, gd, g1, g2, g3, g4, g5, g6, g7⟩ := g
        simp only at *
        have HQ1 := Lib.hid q1
        have HQ2 := Lib.hid q2
        have HCT := Lib.hid hct
        unfold getE at HGT
        clear q1 q2 hct hx
        obtain ⟨N, hN⟩ : ∃ N, N = getN T.nodes gp := ⟨_, rfl⟩
        obtain ⟨K, hK⟩ : ∃ K, K = hasN T.nodes gp := ⟨_, rfl⟩
        rw [← hN, ← hK] at HGT HQ2
        rw [← hK] at HQ1
        obtain ⟨ge, hge⟩ : ∃ ge : Int, ge = if K = true then 0 else 7 := ⟨_, rfl⟩
        rw [← hge] at HGT
        have HGE := Lib.hid hge
        obtain ⟨np, nd, n1, n2, n3, n4, n5, n6, n7⟩ := N
        simp only at HQ2
        clear hN hK hge
        go_upto_region 8 with fail
        go_cut [12, 13] from 31 to 100 (fun s12 s13 wx => ∃ b12, s12 = .pointer (some ⟨b12, 0, none⟩) ∧ s13 = .int .i64 ge ∧ Below wr.heap.size wr wx ∧ wr.heap.size ≤ b12 ∧ b12 < wx.heap.size ∧ wx.cell? ⟨b12, 1, none⟩ = some (.string nd) ∧ wx.cell? ⟨b12, 5, none⟩ = some (.int .i64 n4) ∧ wx.cell? ⟨b12, 7, none⟩ = some (.int .i64 n6))
        case first =>
          refine wp_region_noPanic ?_
          refine wp_region_W (by kernel_rfl) (fun W hW => ?_)
          have cl0 : W.cell? ⟨b, 0, none⟩ = some (.int .i64 T.zxid) := by rw [hW.out]; go_simp
          have cl1 : W.cell? ⟨b, 1, none⟩ = some (.slice A7 T.nodes.length c7) := by rw [hW.out]; go_simp
          have cl2 : W.cell? ⟨b, 2, none⟩ = some (.slice A8 T.sess.length c8) := by rw [hW.out]; go_simp
          have cl3 : W.cell? ⟨w.heap.size, 1, none⟩ = some (.slice (some ⟨bk, off, none⟩) l.length c) := by rw [hW.out]; go_simp
          have cl4 : W.cell? ⟨bk, off + k * 9, none⟩ = some (.string gp) := by rw [hW.out]; go_simp
          have HNW := Lib.hid (HN.out.below (w' := W) (by rw [hW.out]; exact hbr.drew))
          have hWs : w.heap.size < W.heap.size := by rw [hW.out]; simp <;> omega
          have hWs2 : b < W.heap.size := by rw [hW.out]; simp <;> omega
          have hWs3 : bk < W.heap.size := by rw [hW.out]; simp <;> omega
          have hW1W : Below wr.heap.size wr W := by rw [hW.out]; exact (by repeat (first | with_reducible exact Below.refl _ _ | with_reducible assumption | with_reducible exact below_d1 _ _ _ _ _ | with_reducible exact below_d2 _ _ _ _ _ _ _ _ | with_reducible exact below_d3 _ _ _ _ _ | with_reducible exact below_d4 _ _ _ _ _ _ _ _ | with_reducible exact below_d5 _ _ | with_reducible refine Below.drew ?_ | with_reducible refine Below.drewN' ?_ _ | with_reducible refine below_grow0 _ _ ?_ | with_reducible refine below_alloc0 _ ?_ | with_reducible refine Below.setCell ?_ ?_ _ | with_reducible refine Below.alloc ?_ ?_ _ | with_reducible refine Below.grow _ _ _ ?_ ?_ | omega | (simp; done) | (simp; omega)))
          have hWs1 : W.heap.size = wr.heap.size := by rw [hW.out]; simp
          refine wpAny_S (fun w' => w'.cell? ⟨b, 0, none⟩ = some (.int .i64 T.zxid) ∧ w'.cell? ⟨b, 1, none⟩ = some (.slice A7 T.nodes.length c7) ∧ w'.cell? ⟨b, 2, none⟩ = some (.slice A8 T.sess.length c8) ∧ w'.cell? ⟨w.heap.size, 1, none⟩ = some (.slice (some ⟨bk, off, none⟩) l.length c) ∧ w'.cell? ⟨bk, off + k * 9, none⟩ = some (.string gp)) (fun i => false) (by (try dsimp only); (refine ⟨?_, ?_, ?_, ?_, ?_⟩ <;> go_simp)) (fun hHeld => ?_)
          (refine wpE_take (i := 0) (v := ?gV1_1) (by simp only [List.getElem?_toArray]; rfl) (by kernel_rfl) (by kernel_rfl) (by kernel_rfl) (by kernel_rfl) (by kernel_rfl) (by rfl) (fun _ _ _ h => h) (Or.inl ⟨by rfl, ?gY1_1⟩) (by assumption) ?gR1_1; case gY1_1 => (intro w hSw; (try dsimp only at hSw); go_simp <;> with_reducible rfl))
          try simp only [Act.put, List.setIfInBounds_toArray, List.set_cons_zero, List.set_cons_succ]
          (refine wpE_takeP (i := 1) (v := ?gV1_2) (by simp only [List.getElem?_toArray]; rfl) (by kernel_rfl) (by kernel_rfl) (by kernel_rfl) (by rfl) (fun _ _ _ h => h) (Or.inl ⟨by rfl, ?gY1_2⟩) (by assumption) ?gR1_2; case gY1_2 => (intro w hSw; (try dsimp only at hSw); go_simp <;> with_reducible rfl))
          try simp only [Act.put, List.setIfInBounds_toArray, List.set_cons_zero, List.set_cons_succ]
          (refine wpE_take (i := 2) (v := ?gV1_3) (by simp only [List.getElem?_toArray]; rfl) (by kernel_rfl) (by kernel_rfl) (by kernel_rfl) (by kernel_rfl) (by kernel_rfl) (by rfl) (fun _ _ _ h => h) (Or.inl ⟨by rfl, ?gY1_3⟩) (by assumption) ?gR1_3; case gY1_3 => (intro w hSw; (try dsimp only at hSw); go_simp <;> with_reducible rfl))
          try simp only [Act.put, List.setIfInBounds_toArray, List.set_cons_zero, List.set_cons_succ]
          (refine wpE_takeP (i := 3) (v := ?gV1_4) (by simp only [List.getElem?_toArray]; rfl) (by kernel_rfl) (by kernel_rfl) (by kernel_rfl) (by rfl) (fun _ _ _ h => h) (Or.inl ⟨by rfl, ?gY1_4⟩) (by assumption) ?gR1_4; case gY1_4 => (intro w hSw; (try dsimp only at hSw); go_simp <;> with_reducible rfl))
          try simp only [Act.put, List.setIfInBounds_toArray, List.set_cons_zero, List.set_cons_succ]
          (refine wpE_takeP (i := 4) (v := ?gV1_5) (by simp only [List.getElem?_toArray]; rfl) (by kernel_rfl) (by kernel_rfl) (by kernel_rfl) (by rfl) (fun _ _ _ h => h) (Or.inl ⟨by rfl, ?gY1_5⟩) (by assumption) ?gR1_5; case gY1_5 => (intro w hSw; (try dsimp only at hSw); go_simp <;> with_reducible rfl))
          try simp only [Act.put, List.setIfInBounds_toArray, List.set_cons_zero, List.set_cons_succ]
          (refine wpE_takeP (i := 5) (v := ?gV1_6) (by simp only [List.getElem?_toArray]; rfl) (by kernel_rfl) (by kernel_rfl) (by kernel_rfl) (by rfl) (fun _ _ _ h => h) (Or.inl ⟨by rfl, ?gY1_6⟩) (by assumption) ?gR1_6; case gY1_6 => (intro w hSw; (try dsimp only at hSw); go_simp <;> with_reducible rfl))
          try simp only [Act.put, List.setIfInBounds_toArray, List.set_cons_zero, List.set_cons_succ]
          (refine wpE_take (i := 6) (v := ?gV1_7) (by simp only [List.getElem?_toArray]; rfl) (by kernel_rfl) (by kernel_rfl) (by kernel_rfl) (by kernel_rfl) (by kernel_rfl) (by rfl) (fun _ _ _ h => h) (Or.inl ⟨by rfl, ?gY1_7⟩) (by assumption) ?gR1_7; case gY1_7 => (intro w hSw; (try dsimp only at hSw); go_simp <;> with_reducible rfl))
          try simp only [Act.put, List.setIfInBounds_toArray, List.set_cons_zero, List.set_cons_succ]
          refine wpE_ready (rs := [7, 11]) (by kernel_rfl) (by simp) ?_
          refine AllE.cons (by simp only [List.getElem?_toArray]; rfl) (fun K hK => ?gO1_8) ?gL1_8
          case gO1_8 =>
            go_simp
            (go_at_call 19; (with_reducible refine (HGT.out _ (HNW.out.below (by repeat (first | with_reducible exact Below.refl _ _ | with_reducible assumption | with_reducible exact below_d1 _ _ _ _ _ | with_reducible exact below_d2 _ _ _ _ _ _ _ _ | with_reducible exact below_d3 _ _ _ _ _ | with_reducible exact below_d4 _ _ _ _ _ _ _ _ | with_reducible exact below_d5 _ _ | with_reducible refine Below.drew ?_ | with_reducible refine Below.drewN' ?_ _ | with_reducible refine below_grow0 _ _ ?_ | with_reducible refine below_alloc0 _ ?_ | with_reducible refine Below.setCell ?_ ?_ _ | with_reducible refine Below.alloc ?_ ?_ _ | with_reducible refine Below.grow _ _ _ ?_ ?_ | omega | (simp; done) | (simp; omega))))).mono ?_); rintro e w3 ⟨rfl, hb3⟩; obtain ⟨ext3, d3, rfl⟩ := Below.grown_eq _ hb3; clear hb3)
            refine hK.out _ _ ?gT1_8 (fun hHeld => ?_)
            case gT1_8 => ((try dsimp only); (refine ⟨?_, ?_, ?_, ?_, ?_⟩ <;> go_simp))
            clear hK K
            try simp only [Act.put, List.setIfInBounds_toArray, List.set_cons_zero, List.set_cons_succ]
            (refine wpE_takeP (i := 8) (v := ?gV1_9) (by simp only [List.getElem?_toArray]; rfl) (by kernel_rfl) (by kernel_rfl) (by kernel_rfl) (by rfl) (fun _ _ _ h => h) (Or.inl ⟨by rfl, ?gY1_9⟩) (by assumption) ?gR1_9; case gY1_9 => (intro w hSw; (try dsimp only at hSw); go_simp <;> with_reducible rfl))
            try simp only [Act.put, List.setIfInBounds_toArray, List.set_cons_zero, List.set_cons_succ]
            (refine wpE_takeP (i := 9) (v := ?gV1_10) (by simp only [List.getElem?_toArray]; rfl) (by kernel_rfl) (by kernel_rfl) (by kernel_rfl) (by rfl) (fun _ _ _ h => h) (Or.inl ⟨by rfl, ?gY1_10⟩) (by assumption) ?gR1_10; case gY1_10 => (intro w hSw; (try dsimp only at hSw); go_simp <;> with_reducible rfl))
            try simp only [Act.put, List.setIfInBounds_toArray, List.set_cons_zero, List.set_cons_succ]
            (refine wpE_takeP (i := 10) (v := ?gV1_11) (by simp only [List.getElem?_toArray]; rfl) (by kernel_rfl) (by kernel_rfl) (by kernel_rfl) (by rfl) (fun _ _ _ h => h) (Or.inl ⟨by rfl, ?gY1_11⟩) (by assumption) ?gR1_11; case gY1_11 => (intro w hSw; (try dsimp only at hSw); go_simp <;> with_reducible rfl))
            try simp only [Act.put, List.setIfInBounds_toArray, List.set_cons_zero, List.set_cons_succ]
            refine wpE_ready (rs := [11]) (by kernel_rfl) (by simp) ?_
            refine AllE.cons (by simp only [List.getElem?_toArray]; rfl) (fun K hK => ?_) AllE.nil
            go_simp
            refine hK.out _ _ ?gT1_12 (fun hHeld => ?_)
            case gT1_12 => ((try dsimp only); (refine ⟨?_, ?_, ?_, ?_, ?_⟩ <;> go_simp))
            clear hK K
            try simp only [Act.put, List.setIfInBounds_toArray, List.set_cons_zero, List.set_cons_succ]
            refine wpE_ready (rs := [12]) (by kernel_rfl) (by simp) ?_
            refine AllE.cons (by simp only [List.getElem?_toArray]; rfl) (fun K hK => ?_) AllE.nil
            go_simp
            refine hK.out _ _ ?gT1_13 (fun hHeld => ?_)
            case gT1_13 => ((try dsimp only); (refine ⟨?_, ?_, ?_, ?_, ?_⟩ <;> go_simp))
            clear hK K
            try simp only [Act.put, List.setIfInBounds_toArray, List.set_cons_zero, List.set_cons_succ]
            (refine wpE_takeP (i := 13) (v := ?gV1_14) (by simp only [List.getElem?_toArray]; rfl) (by kernel_rfl) (by kernel_rfl) (by kernel_rfl) (by rfl) (fun _ _ _ h => h) (Or.inl ⟨by rfl, ?gY1_14⟩) (by assumption) ?gR1_14; case gY1_14 => (intro w hSw; (try dsimp only at hSw); go_simp <;> with_reducible rfl))
            try simp only [Act.put, List.setIfInBounds_toArray, List.set_cons_zero, List.set_cons_succ]
            refine wpE_done (by kernel_rfl) ?_ _
            refine NoPanic.normal ?_
            go_wp2_with fail
            go_meet
            refine ⟨_, rfl, rfl, ?_, ?_, ?_, ?_, ?_, ?_⟩
            · exact Below.own hW1W (by repeat (first | with_reducible exact Below.refl _ _ | with_reducible assumption | with_reducible exact below_d1 _ _ _ _ _ | with_reducible exact below_d2 _ _ _ _ _ _ _ _ | with_reducible exact below_d3 _ _ _ _ _ | with_reducible exact below_d4 _ _ _ _ _ _ _ _ | with_reducible exact below_d5 _ _ | with_reducible refine Below.drew ?_ | with_reducible refine Below.drewN' ?_ _ | with_reducible refine below_grow0 _ _ ?_ | with_reducible refine below_alloc0 _ ?_ | with_reducible refine Below.setCell ?_ ?_ _ | with_reducible refine Below.alloc ?_ ?_ _ | with_reducible refine Below.grow _ _ _ ?_ ?_ | omega | (simp; done) | (simp; omega)))
            · first | omega | (simp <;> omega)
            · first | omega | (simp <;> omega)
            · first | exact newCell (by simp [hWs1]) rfl | exact grow_at (newCell (by simp [hWs1]) rfl)
            · first | exact newCell (by simp [hWs1]) rfl | exact grow_at (newCell (by simp [hWs1]) rfl)
            · first | exact newCell (by simp [hWs1]) rfl | exact grow_at (newCell (by simp [hWs1]) rfl)
          refine AllE.cons (by simp only [List.getElem?_toArray]; rfl) (fun K hK => ?gO1_15) ?gL1_15
          case gO1_15 =>
            go_simp
            refine hK.out _ _ ?gT1_15 (fun hHeld => ?_)
            case gT1_15 => ((try dsimp only); (refine ⟨?_, ?_, ?_, ?_, ?_⟩ <;> go_simp))
            clear hK K
            try simp only [Act.put, List.setIfInBounds_toArray, List.set_cons_zero, List.set_cons_succ]
            refine wpE_ready (rs := [7]) (by kernel_rfl) (by simp) ?_
            refine AllE.cons (by simp only [List.getElem?_toArray]; rfl) (fun K hK => ?_) AllE.nil
            go_simp
            (go_at_call 19; (with_reducible refine (HGT.out _ (HNW.out.below (by repeat (first | with_reducible exact Below.refl _ _ | with_reducible assumption | with_reducible exact below_d1 _ _ _ _ _ | with_reducible exact below_d2 _ _ _ _ _ _ _ _ | with_reducible exact below_d3 _ _ _ _ _ | with_reducible exact below_d4 _ _ _ _ _ _ _ _ | with_reducible exact below_d5 _ _ | with_reducible refine Below.drew ?_ | with_reducible refine Below.drewN' ?_ _ | with_reducible refine below_grow0 _ _ ?_ | with_reducible refine below_alloc0 _ ?_ | with_reducible refine Below.setCell ?_ ?_ _ | with_reducible refine Below.alloc ?_ ?_ _ | with_reducible refine Below.grow _ _ _ ?_ ?_ | omega | (simp; done) | (simp; omega))))).mono ?_); rintro e w3 ⟨rfl, hb3⟩; obtain ⟨ext3, d3, rfl⟩ := Below.grown_eq _ hb3; clear hb3)
            refine hK.out _ _ ?gT1_16 (fun hHeld => ?_)
            case gT1_16 => ((try dsimp only); (refine ⟨?_, ?_, ?_, ?_, ?_⟩ <;> go_simp))
            clear hK K
            try simp only [Act.put, List.setIfInBounds_toArray, List.set_cons_zero, List.set_cons_succ]
            (refine wpE_takeP (i := 8) (v := ?gV1_17) (by simp only [List.getElem?_toArray]; rfl) (by kernel_rfl) (by kernel_rfl) (by kernel_rfl) (by rfl) (fun _ _ _ h => h) (Or.inl ⟨by rfl, ?gY1_17⟩) (by assumption) ?gR1_17; case gY1_17 => (intro w hSw; (try dsimp only at hSw); go_simp <;> with_reducible rfl))
            try simp only [Act.put, List.setIfInBounds_toArray, List.set_cons_zero, List.set_cons_succ]
            (refine wpE_takeP (i := 9) (v := ?gV1_18) (by simp only [List.getElem?_toArray]; rfl) (by kernel_rfl) (by kernel_rfl) (by kernel_rfl) (by rfl) (fun _ _ _ h => h) (Or.inl ⟨by rfl, ?gY1_18⟩) (by assumption) ?gR1_18; case gY1_18 => (intro w hSw; (try dsimp only at hSw); go_simp <;> with_reducible rfl))
            try simp only [Act.put, List.setIfInBounds_toArray, List.set_cons_zero, List.set_cons_succ]
            (refine wpE_takeP (i := 10) (v := ?gV1_19) (by simp only [List.getElem?_toArray]; rfl) (by kernel_rfl) (by kernel_rfl) (by kernel_rfl) (by rfl) (fun _ _ _ h => h) (Or.inl ⟨by rfl, ?gY1_19⟩) (by assumption) ?gR1_19; case gY1_19 => (intro w hSw; (try dsimp only at hSw); go_simp <;> with_reducible rfl))
            try simp only [Act.put, List.setIfInBounds_toArray, List.set_cons_zero, List.set_cons_succ]
            refine wpE_ready (rs := [12]) (by kernel_rfl) (by simp) ?_
            refine AllE.cons (by simp only [List.getElem?_toArray]; rfl) (fun K hK => ?_) AllE.nil
            go_simp
            refine hK.out _ _ ?gT1_20 (fun hHeld => ?_)
            case gT1_20 => ((try dsimp only); (refine ⟨?_, ?_, ?_, ?_, ?_⟩ <;> go_simp))
            clear hK K
            try simp only [Act.put, List.setIfInBounds_toArray, List.set_cons_zero, List.set_cons_succ]
            (refine wpE_takeP (i := 13) (v := ?gV1_21) (by simp only [List.getElem?_toArray]; rfl) (by kernel_rfl) (by kernel_rfl) (by kernel_rfl) (by rfl) (fun _ _ _ h => h) (Or.inl ⟨by rfl, ?gY1_21⟩) (by assumption) ?gR1_21; case gY1_21 => (intro w hSw; (try dsimp only at hSw); go_simp <;> with_reducible rfl))
            try simp only [Act.put, List.setIfInBounds_toArray, List.set_cons_zero, List.set_cons_succ]
            refine wpE_done (by kernel_rfl) ?_ _
            refine NoPanic.normal ?_
            go_wp2_with fail
            go_meet
            refine ⟨_, rfl, rfl, ?_, ?_, ?_, ?_, ?_, ?_⟩
            · exact Below.own hW1W (by repeat (first | with_reducible exact Below.refl _ _ | with_reducible assumption | with_reducible exact below_d1 _ _ _ _ _ | with_reducible exact below_d2 _ _ _ _ _ _ _ _ | with_reducible exact below_d3 _ _ _ _ _ | with_reducible exact below_d4 _ _ _ _ _ _ _ _ | with_reducible exact below_d5 _ _ | with_reducible refine Below.drew ?_ | with_reducible refine Below.drewN' ?_ _ | with_reducible refine below_grow0 _ _ ?_ | with_reducible refine below_alloc0 _ ?_ | with_reducible refine Below.setCell ?_ ?_ _ | with_reducible refine Below.alloc ?_ ?_ _ | with_reducible refine Below.grow _ _ _ ?_ ?_ | omega | (simp; done) | (simp; omega)))
            · first | omega | (simp <;> omega)
            · first | omega | (simp <;> omega)
            · first | exact newCell (by simp [hWs1]) rfl | exact grow_at (newCell (by simp [hWs1]) rfl)
            · first | exact newCell (by simp [hWs1]) rfl | exact grow_at (newCell (by simp [hWs1]) rfl)
            · first | exact newCell (by simp [hWs1]) rfl | exact grow_at (newCell (by simp [hWs1]) rfl)
          exact AllE.nil
        case rest =>
          obtain ⟨b12, rfl, rfl, hbx, hbl, hbs, m1, m5, m7⟩ := hcut
          have HKC := Lib.hid (fun (h : K = false) => (HGE.out.trans (by rw [h]; rfl) : ge = 7))
          have HKT := Lib.hid (fun (h : K = true) => (HGE.out.trans (by rw [h]; rfl) : ge = 0))
          refine gen_k (fun wx hwx => ?_)
          have hbx2 : Below wr.heap.size wr wx := by rw [hwx.out]; exact hbx
          have u1 : wx.cell? ⟨b12, 1, none⟩ = some (.string nd) := by rw [hwx.out]; exact m1
          have u5 : wx.cell? ⟨b12, 5, none⟩ = some (.int .i64 n4) := by rw [hwx.out]; exact m5
          have u7 : wx.cell? ⟨b12, 7, none⟩ = some (.int .i64 n6) := by rw [hwx.out]; exact m7
          have j1'' := keep2 hbx2 j1'
          have d1 := keep2 hbx2 c1
          have d5 := keep2 hbx2 c5
          have d7 := keep2 hbx2 c7'
          have hwx1 : w.heap.size < wx.heap.size := Nat.lt_of_lt_of_le hwr hbx2.size
          have hbwx : Below wa.heap.size wa wx := hbr.trans (hbx2.mono hbr.size)
          clear hwx hbx m1 m5 m7 c0 c1 c2' c3 c4 c5 c6 c7' c8' HGT hbs
          by_cases ho : g6 = s
          · subst ho
            have hge := HKC.out (HQ1.out rfl)
            subst hge
            have HC2 := Lib.hid (show (l.take (k + 1)).countP (fun n => decide (n.owner = g6)) = (l.take k).countP (fun n => decide (n.owner = g6)) + 1 by rw [HCT.out, if_pos rfl])
            clear HCT HKC HKT HGE HQ1 HQ2
            go_wp2_with fail
            go_roundw
            case rel => exact ⟨k + 1, by omega, by go_num, by rw [HC2.out]; go_num, (by repeat (first | with_reducible exact Below.refl _ _ | with_reducible assumption | with_reducible exact below_d1 _ _ _ _ _ | with_reducible exact below_d2 _ _ _ _ _ _ _ _ | with_reducible exact below_d3 _ _ _ _ _ | with_reducible exact below_d4 _ _ _ _ _ _ _ _ | with_reducible exact below_d5 _ _ | with_reducible refine Below.drew ?_ | with_reducible refine Below.drewN' ?_ _ | with_reducible refine below_grow0 _ _ ?_ | with_reducible refine below_alloc0 _ ?_ | with_reducible refine Below.setCell ?_ ?_ _ | with_reducible refine Below.alloc ?_ ?_ _ | with_reducible refine Below.grow _ _ _ ?_ ?_ | omega | (simp; done) | (simp; omega)))⟩
            case measure => simp [intOf]; omega
          · obtain ⟨k1, k2, k3, k4⟩ := HQ2.out ho
            have hge := HKT.out k1
            subst hge
            subst k2
            subst k3
            subst k4
            have HC2 := Lib.hid (show (l.take (k + 1)).countP (fun n => decide (n.owner = s)) = (l.take k).countP (fun n => decide (n.owner = s)) by rw [HCT.out, if_neg ho]; rfl)
            have hno : (n6 == s) = false := beq_eq_false_iff_ne.2 ho
            clear HCT HKC HKT HGE HQ1 HQ2
            go_upto_region 13 with fail
            refine wp_region_grow (by kernel_rfl) (by kernel_rfl) ?_
            try simp only [List.append]
            repeat' (first | go_big_quiet_skip | (go_big_quiet_want; go_big_quiet_op; first | go_big_quiet_on | (apply Exists.intro; refine ⟨fun _ => ?hqg1, ?hqg2⟩; (case hqg1 => fail); go_big_quiet_on)))
            all_goals refine wpQuiet_nil ?_
            all_goals rintro _ ⟨⟨extq, dq⟩, rfl⟩
            all_goals dsimp only
            go_wp2_with fail
            go_roundw
            case rel => exact ⟨k + 1, by omega, by go_num, by rw [HC2.out], (by repeat (first | with_reducible exact Below.refl _ _ | with_reducible assumption | with_reducible exact below_d1 _ _ _ _ _ | with_reducible exact below_d2 _ _ _ _ _ _ _ _ | with_reducible exact below_d3 _ _ _ _ _ | with_reducible exact below_d4 _ _ _ _ _ _ _ _ | with_reducible exact below_d5 _ _ | with_reducible refine Below.drew ?_ | with_reducible refine Below.drewN' ?_ _ | with_reducible refine below_grow0 _ _ ?_ | with_reducible refine below_alloc0 _ ?_ | with_reducible refine Below.setCell ?_ ?_ _ | with_reducible refine Below.alloc ?_ ?_ _ | with_reducible refine Below.grow _ _ _ ?_ ?_ | omega | (simp; done) | (simp; omega)))⟩
            case measure => simp [intOf]; omega
      · have hkl : k = l.length := by omega
        subst hkl
        rw [List.take_length, ← HCN.out]
        have HM2 := Lib.hid (HM.out.below hbr)
        go_wp2_with ((go_at_call 24; refine (HOP.out _ (HM2.out.below (by repeat (first | with_reducible exact Below.refl _ _ | with_reducible assumption | with_reducible exact below_d1 _ _ _ _ _ | with_reducible exact below_d2 _ _ _ _ _ _ _ _ | with_reducible exact below_d3 _ _ _ _ _ | with_reducible exact below_d4 _ _ _ _ _ _ _ _ | with_reducible exact below_d5 _ _ | with_reducible refine Below.drew ?_ | with_reducible refine Below.drewN' ?_ _ | with_reducible refine below_grow0 _ _ ?_ | with_reducible refine below_alloc0 _ ?_ | with_reducible refine Below.setCell ?_ ?_ _ | with_reducible refine Below.alloc ?_ ?_ _ | with_reducible refine Below.grow _ _ _ ?_ ?_ | omega | (simp; done) | (simp; omega))))).mono ?_; rintro e w1 ⟨rfl, hb⟩; obtain ⟨ext5, d5, rfl⟩ := Below.grown_eq _ hb; clear hb))
        go_ret
        exact ⟨show Ending.returned (Value.bool (((ss.length : Int) - (T.sess.length : Int)) == 1)) = Ending.returned (Value.bool true) from congrArg (fun q => Ending.returned (Value.bool q)) (beq_iff_eq.2 (by omega)), (by repeat (first | with_reducible exact Below.refl _ _ | with_reducible assumption | with_reducible exact below_d1 _ _ _ _ _ | with_reducible exact below_d2 _ _ _ _ _ _ _ _ | with_reducible exact below_d3 _ _ _ _ _ | with_reducible exact below_d4 _ _ _ _ _ _ _ _ | with_reducible exact below_d5 _ _ | with_reducible refine Below.drew ?_ | with_reducible refine Below.drewN' ?_ _ | with_reducible refine below_grow0 _ _ ?_ | with_reducible refine below_alloc0 _ ?_ | with_reducible refine Below.setCell ?_ ?_ _ | with_reducible refine Below.alloc ?_ ?_ _ | with_reducible refine Below.grow _ _ _ ?_ ?_ | omega | (simp; done) | (simp; omega)))⟩
  · have q1 : (E == 0) = false := beq_eq_false_iff_ne.2 hE
    have q2 : (E != 0) = true := bne_iff_ne.2 hE
    clear HSP hE
    go_wp2_with ((go_at_call 22; refine (HGR.out _).mono ?_; rintro e w1 ⟨rfl, hb⟩; obtain ⟨ext0, d0, rfl⟩ := Below.grown_eq _ hb; clear hb))
    go_ret
    exact ⟨rfl, (by repeat (first | with_reducible exact Below.refl _ _ | with_reducible assumption | with_reducible exact below_d1 _ _ _ _ _ | with_reducible exact below_d2 _ _ _ _ _ _ _ _ | with_reducible exact below_d3 _ _ _ _ _ | with_reducible exact below_d4 _ _ _ _ _ _ _ _ | with_reducible exact below_d5 _ _ | with_reducible refine Below.drew ?_ | with_reducible refine Below.drewN' ?_ _ | with_reducible refine below_grow0 _ _ ?_ | with_reducible refine below_alloc0 _ ?_ | with_reducible refine Below.setCell ?_ ?_ _ | with_reducible refine Below.alloc ?_ ?_ _ | with_reducible refine Below.grow _ _ _ ?_ ?_ | omega | (simp; done) | (simp; omega)))⟩

namespace treeCloses
theorem own : ownKnob Tryd.prog.godebug = none := by kernel_rfl
theorem laidOut : laidOutB Tryd.prog = true := by kernel_rfl
set_option maxRecDepth 100000 in
set_option maxHeartbeats 1000000 in
theorem lifted (os : Os) (started : os.Started) (H : Type) (enc : TypeId × Value → H) :
    ReturnsInHanded {} Tryd.checked os 6 .any (fun w args => (Rows.treeClosesSpec.pre enc Tryd.prog Tryd.f6 Rows.treeClosesRow.domain false w args ∧ laidMetH Tryd.prog Rows.treeClosesRow.laid w) ∧ sizedMet enc Tryd.prog Tryd.f6 (OpenSpec.ofChange Rows.treeClosesSpec) false w args) (Rows.treeClosesSpec.post enc Tryd.prog Tryd.f6 false true false false) := by
  refine returnsInHanded_of_change_and (C := Tryd.checked) (X := fun w _ => laidMetH Tryd.prog Rows.treeClosesRow.laid w) (fun _ _ _ hh h => h.of_heap hh) own started (by kernel_rfl) Tryd.func6
    (ChangeSpec.witness_shaped (enc := enc) (C := Tryd.checked) (os := os) (X := fun w _ => laidMetH Tryd.prog Rows.treeClosesRow.laid w) false (World.laidAll Tryd.prog os Rows.treeClosesRow.laid) #[.agg #[.int .i64 0,.slice none 0 0,.slice none 0 0], .int .i64 0, .int .i64 0] 8 (World.laidAll_os _ _ _)
      (World.shaped_of_ZipB (by kernel_rfl) (by kernel_rfl)) (by kernel_rfl) (by kernel_rfl) (by kernel_rfl)
      (by rw [MakeChecks.laidMetH_plain _ _ _ (by kernel_rfl)]; exact laidMet_laidAll _ (by kernel_rfl) (by kernel_rfl))) ?_
  intro W base args ds gs before hval0 hW0 _ hsz0 hL _
  have hval : ∀ (j : Nat) t v, Tryd.f6.params[j]? = some t → args[j]? = some v → Value.okWide Tryd.prog W .any base t v := hval0
  have hW : DataW.Whole enc Tryd.prog Tryd.f6.params.toList Rows.treeClosesSpec.vars false W args.toList ds gs before := hW0
  have hlt : ∀ p ∈ before, p.block < W.heap.size := fun p hp => hW.lt p hp
  have hW1 := hW
  obtain ⟨p, q, hA0, hV, rfl, hfz, hnd⟩ := hW1
  have hA : DataW.TrodAll enc Tryd.prog W 0 (fun _ => true) true Tryd.f6.params.toList args.toList ds p := hA0
  obtain ⟨rfl, rfl⟩ := trodVars_none hV
  rw [Tryd.params6] at hA hval
  obtain ⟨v0, vs0, d0, ds0, p0, q0, hargs, rfl, rfl, h0, r0⟩ := trodAll_cons hA
  obtain ⟨v1, vs1, d1, ds1, p1, q1, rfl, rfl, rfl, h1, r1⟩ := trodAll_cons r0
  obtain ⟨v2, vs2, d2, ds2, p2, q2, rfl, rfl, rfl, h2, r2⟩ := trodAll_cons r1
  obtain ⟨rfl, rfl, rfl⟩ := trodAll_nil r2
  obtain rfl : args = #[v0, v1, v2] := by cases args; simp_all
  have hsz : (DataW.weightsEach Tryd.prog [25, 3, 3] [d0, d1, d2]).all (· ≤ reachBytes) = true := hsz0
  have close : ∀ e W', (e = Ending.returned (.bool true) ∧ Below W.heap.size W W') → ∃ v, e = .returned v ∧ Rows.treeClosesSpec.post enc Tryd.prog Tryd.f6 false true false false W #[v0, v1, v2] v W' :=
    fun e W' ⟨he, hb⟩ => ⟨_, he, law_post laidOut (of_decide_eq_true (by kernel_rfl)) rfl rfl Tryd.underlying4 hW rfl hb⟩
  clear hA0 hsz0 hval0 hW0 hA hV hW hfz hnd
  obtain ⟨a1, rfl, hd1, _, wf1⟩ := open_int Tryd.underlying3 (hval 1 3 v1 rfl rfl) h1
  obtain ⟨a2, rfl, hd2, _, wf2⟩ := open_int Tryd.underlying3 (hval 2 3 v2 rfl rfl) h2
  obtain ⟨cs, rfl, _⟩ := okWide_struct Tryd.underlying25 (hval 0 _ v0 rfl rfl)
  obtain ⟨z, v, v2, l, ss, hp, hN, hS, hz, hn, hn2⟩ := open_tree (n := 0) (open_deep 10 h0 (sized_arg hsz 0 rfl rfl))
  obtain rfl : cs = #[.int .i64 z, v, v2] := by simpa [Value.cells] using congrArg List.toArray hp
  exact (treeCloses_ok z v v2 l ss a1 a2 W hN hS hn hn2 hz).mono close
theorem proved : Rows.TreeClosesSaid :=
  OpenClaim.holds_of_wide 6 Tryd.f6 rfl rfl rfl rfl rfl rfl rfl ⟨rfl, rfl, rfl, rfl, rfl⟩ rfl rfl rfl rfl rfl (by kernel_rfl) Tryd.func6 (by kernel_rfl)
    (of_decide_eq_true (by kernel_rfl)) (by unfold Func.isWrapper; first | (rw [if_pos (by decide +kernel)]; kernel_rfl) | (rw [if_neg (by decide +kernel)]; exact ⟨rfl, rfl⟩))
    (fun os started H enc _ => lifted os started H enc)
theorem card : Rows.TreeClosesCardSaid :=
  Claim7.holds_tied_plain_at .later [] Rows.treeClosesCard.laidKinds true Rows.treeClosesCard.stood.harness false
    proved (fun _ h => by cases h) (by kernel_rfl) (fun _ h => by cases h) treeCloses_row_tie rfl ⟨rfl, rfl⟩ (by kernel_rfl) rfl
    (fun f fn hf hfn => by
      obtain rfl : f = 6 := Option.some.inj ((show Tryd.prog.funcNamed "aviary/aviarykeep.TreeCloses" = some 6 by kernel_rfl).symm.trans hf) |>.symm
      obtain rfl : fn = Tryd.f6 := (Option.some.inj (Tryd.func6.symm.trans hfn)).symm
      exact ⟨by kernel_rfl, fun j t ht => by
        rw [Tryd.params6] at ht
        have hm : t ∈ [25, 3, 3] := by simpa using Array.mem_of_getElem? ht
        have hall : ([25, 3, 3].all fun u => !Tryd.prog.wantsStandIn u) = true := by kernel_rfl
        exact (show Tryd.prog.wantsStandIn t = false by simpa using List.all_eq_true.1 hall t hm)⟩)
    (by kernel_rfl)
end treeCloses
end Go.Proofs.YteolglmifimnaaaDoor
