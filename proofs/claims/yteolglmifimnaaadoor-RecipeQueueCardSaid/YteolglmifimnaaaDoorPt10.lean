/- Lemmas for the statement: Apply5, Apply, LawTree, Grows, Deep, TreeArg, LawCut. -/
import Derived.ChangeOld
import Derived.Deep.DeepCutAuto
import Derived.Test.YteolglmifimnaaaDoorPt1
import Derived.Test.YteolglmifimnaaaDoorPt2
import Derived.Test.YteolglmifimnaaaDoorPt3
import Derived.Test.YteolglmifimnaaaDoorPt4
import Derived.Test.YteolglmifimnaaaDoorPt5
import Derived.Test.YteolglmifimnaaaDoorPt6
import Derived.Test.YteolglmifimnaaaDoorPt7
import Derived.Test.YteolglmifimnaaaDoorPt8
import Derived.Test.YteolglmifimnaaaDoorPt9
/- package tree: Apply, at a setting. -/
namespace Go.Proofs.YteolglmifimnaaaDoor
open Go.RowKit Go.ChangeShapes Go.WideShapes Go.ChangeAt
set_option maxRecDepth 100000 in
set_option maxHeartbeats 10000000 in
theorem trApply_5 (z : Int) (v v2 : Value) (l : List Node) (ss : List Int) (x : Txn) (w : World) (h : Sl cNode 9 w v l) (h2 : Sl cInt 1 w v2 ss) (hn : l.length * 88 ≤ 140737488355328) (hn2 : (ss.length + 1) * 8 ≤ 140737488355328) (hz : ∀ n ∈ l, n.path.size ≤ 9223372036854775807) (hp : x.path.size ≤ 9223372036854775807)
    (hw : wrongE ⟨z, l, ss⟩ x = 0) (hop : x.op = 5) : Calls Tryd.prog 23 #[.agg #[.int .i64 z, v, v2], txnV x] w (ApplyRes ⟨z, l, ss⟩ x w) := by
  obtain ⟨A, c, rfl, h1, h1b⟩ := h.form
  obtain ⟨A2, c2, rfl, h3, h3b⟩ := h2.form
  have HV := Lib.hid h
  have HS := Lib.hid h2
  have HWR := Lib.hid (fun (W : World) (h : Sl cNode 9 W (.slice A l.length c) l) (h2 : Sl cInt 1 W (.slice A2 ss.length c2) ss) => trWrong z (.slice A l.length c) (.slice A2 ss.length c2) l ss x W h h2 (by omega) (by omega) hz hp)
  rw [hw] at HWR
  have HCP := Lib.hid (fun (W : World) (h : Sl cNode 9 W (.slice A l.length c) l) (h2 : Sl cInt 1 W (.slice A2 ss.length c2) ss) => trCopied ⟨z, l, ss⟩ (.slice A l.length c) (.slice A2 ss.length c2) W h h2 hn (by simp only; omega))
  obtain ⟨hgt, hgx, hzx, wi1, wi2, wi3, wi4, wi5⟩ := wrong_inv hw
  obtain ⟨hgw, hgf⟩ := good_parts hgt
  have HGW := Lib.hid hgw
  have HGF := Lib.hid (full_no.1 hgf)
  have hl4 : l.length ≤ 400 := hgw.len
  have HLEN := Lib.hid (apply_goodW hw).len
  have HYES := Lib.hid (fun (W w' : World) (b : Nat) (L : List Node) (S : List Int) (V : List Event) (nv sv vv : Value) (B : Nat) (hf : fullB L = false) (hL : doN ⟨z, l, ss⟩ x = L) (hS : doS ⟨z, l, ss⟩ x = S) (hV : doV ⟨z, l, ss⟩ x = V) (h : Hand W B b ⟨x.zxid, L, S⟩ V nv sv vv) (hB : w.heap.size ≤ B) (hn : Ow cNode 9 40 w' B nv L) (hs : Ow cInt 1 3 w' B sv S) (hv : Ow cEvent 2 55 w' B vv V) (hb : Below w.heap.size w w') => applyRes_yes hw hf hL hS hV h hB hn hs hv hb)
  have HNO := Lib.hid (fun (w' : World) (hf : fullB (doN ⟨z, l, ss⟩ x) = true) (hb : Below w.heap.size w w') => applyRes_no (full_err hw hf) (by decide) hb)
  clear h h2 hgt hgw hgf
  obtain ⟨xz, xo, xs, xp, xd, xv, xw⟩ := x
  simp only at *
  subst hop
  have HWI := Lib.hid (wi5 rfl).1
  clear wi1 wi2 wi3 wi4 wi5
  go_enter Tryd.func23, Tryd.ntmps23
  go_upto_region 5 with (first | (go_at_call 43; refine (HWR.out _ (HV.out.below (by repeat (first | with_reducible exact Below.refl _ _ | with_reducible assumption | with_reducible exact below_d1 _ _ _ _ _ | with_reducible exact below_d2 _ _ _ _ _ _ _ _ | with_reducible exact below_d3 _ _ _ _ _ | with_reducible exact below_d4 _ _ _ _ _ _ _ _ | with_reducible exact below_d5 _ _ | with_reducible refine Below.drew ?_ | with_reducible refine Below.drewN' ?_ _ | with_reducible refine below_grow0 _ _ ?_ | with_reducible refine below_alloc0 _ ?_ | with_reducible refine Below.setCell ?_ ?_ _ | with_reducible refine Below.alloc ?_ ?_ _ | with_reducible refine Below.grow _ _ _ ?_ ?_ | omega | (simp; done) | (simp; omega)))) (HS.out.below (by repeat (first | with_reducible exact Below.refl _ _ | with_reducible assumption | with_reducible exact below_d1 _ _ _ _ _ | with_reducible exact below_d2 _ _ _ _ _ _ _ _ | with_reducible exact below_d3 _ _ _ _ _ | with_reducible exact below_d4 _ _ _ _ _ _ _ _ | with_reducible exact below_d5 _ _ | with_reducible refine Below.drew ?_ | with_reducible refine Below.drewN' ?_ _ | with_reducible refine below_grow0 _ _ ?_ | with_reducible refine below_alloc0 _ ?_ | with_reducible refine Below.setCell ?_ ?_ _ | with_reducible refine Below.alloc ?_ ?_ _ | with_reducible refine Below.grow _ _ _ ?_ ?_ | omega | (simp; done) | (simp; omega))))).mono ?_; rintro e w1 ⟨rfl, hb⟩; obtain ⟨ext1, d1, rfl⟩ := Below.grown_eq _ hb; clear hb) | (go_at_call 44; refine (HCP.out _ (HV.out.below (by repeat (first | with_reducible exact Below.refl _ _ | with_reducible assumption | with_reducible exact below_d1 _ _ _ _ _ | with_reducible exact below_d2 _ _ _ _ _ _ _ _ | with_reducible exact below_d3 _ _ _ _ _ | with_reducible exact below_d4 _ _ _ _ _ _ _ _ | with_reducible exact below_d5 _ _ | with_reducible refine Below.drew ?_ | with_reducible refine Below.drewN' ?_ _ | with_reducible refine below_grow0 _ _ ?_ | with_reducible refine below_alloc0 _ ?_ | with_reducible refine Below.setCell ?_ ?_ _ | with_reducible refine Below.alloc ?_ ?_ _ | with_reducible refine Below.grow _ _ _ ?_ ?_ | omega | (simp; done) | (simp; omega)))) (HS.out.below (by repeat (first | with_reducible exact Below.refl _ _ | with_reducible assumption | with_reducible exact below_d1 _ _ _ _ _ | with_reducible exact below_d2 _ _ _ _ _ _ _ _ | with_reducible exact below_d3 _ _ _ _ _ | with_reducible exact below_d4 _ _ _ _ _ _ _ _ | with_reducible exact below_d5 _ _ | with_reducible refine Below.drew ?_ | with_reducible refine Below.drewN' ?_ _ | with_reducible refine below_grow0 _ _ ?_ | with_reducible refine below_alloc0 _ ?_ | with_reducible refine Below.setCell ?_ ?_ _ | with_reducible refine Below.alloc ?_ ?_ _ | with_reducible refine Below.grow _ _ _ ?_ ?_ | omega | (simp; done) | (simp; omega))))).mono ?_; rintro e w2 hT; obtain ⟨X0, hX0, A5, c5, A6, c6, rfl, ho5, ho6, hb⟩ := packW (P := fun X => TrIs ⟨z, l, ss⟩ X e w2) hT; have HO5 := Lib.hid ho5; have HO6 := Lib.hid ho6; clear ho5 ho6 hT; have HB2 := Lib.hid hb; clear hb))
  have hwX : Below w.heap.size w X0 := by rw [hX0.out]; exact (by repeat (first | with_reducible exact Below.refl _ _ | with_reducible assumption | with_reducible exact below_d1 _ _ _ _ _ | with_reducible exact below_d2 _ _ _ _ _ _ _ _ | with_reducible exact below_d3 _ _ _ _ _ | with_reducible exact below_d4 _ _ _ _ _ _ _ _ | with_reducible exact below_d5 _ _ | with_reducible refine Below.drew ?_ | with_reducible refine Below.drewN' ?_ _ | with_reducible refine below_grow0 _ _ ?_ | with_reducible refine below_alloc0 _ ?_ | with_reducible refine Below.setCell ?_ ?_ _ | with_reducible refine Below.alloc ?_ ?_ _ | with_reducible refine Below.grow _ _ _ ?_ ?_ | omega | (simp; done) | (simp; omega)))
  have hXs : w.heap.size + 1 + 1 < X0.heap.size := by rw [hX0.out]; simp; omega
  have q21 : X0.cell? ⟨w.heap.size, 1, none⟩ = some (.slice A l.length c) := by rw [hX0.out]; go_simp
  have q30 : X0.cell? ⟨w.heap.size + 1, 0, none⟩ = some (.int .i64 xz) := by rw [hX0.out]; go_simp
  have q31 : X0.cell? ⟨w.heap.size + 1, 1, none⟩ = some (.int .i64 5) := by rw [hX0.out]; go_simp
  have q32 : X0.cell? ⟨w.heap.size + 1, 2, none⟩ = some (.int .i64 xs) := by rw [hX0.out]; go_simp
  have q33 : X0.cell? ⟨w.heap.size + 1, 3, none⟩ = some (.string xp) := by rw [hX0.out]; go_simp
  have q34 : X0.cell? ⟨w.heap.size + 1, 4, none⟩ = some (.string xd) := by rw [hX0.out]; go_simp
  have q35 : X0.cell? ⟨w.heap.size + 1, 5, none⟩ = some (.int .i64 xv) := by rw [hX0.out]; go_simp
  have q36 : X0.cell? ⟨w.heap.size + 1, 6, none⟩ = some (.int .i64 xw) := by rw [hX0.out]; go_simp
  have q40 : X0.cell? ⟨w.heap.size + 1 + 1, 0, none⟩ = some (.int .i64 0) := by rw [hX0.out]; go_simp
  have q41 : X0.cell? ⟨w.heap.size + 1 + 1, 1, none⟩ = some (.slice none 0 0) := by rw [hX0.out]; go_simp
  have q42 : X0.cell? ⟨w.heap.size + 1 + 1, 2, none⟩ = some (.slice none 0 0) := by rw [hX0.out]; go_simp
  have r40 : X0.frozen? ⟨w.heap.size + 1 + 1, 0, none⟩ = false := by rw [hX0.out]; go_simp
  have r41 : X0.frozen? ⟨w.heap.size + 1 + 1, 1, none⟩ = false := by rw [hX0.out]; go_simp
  have r42 : X0.frozen? ⟨w.heap.size + 1 + 1, 2, none⟩ = false := by rw [hX0.out]; go_simp
  refine gen_w (fun W1 hW1 => ?_)
  have hb1 : Below X0.heap.size X0 W1 := by rw [hW1.out]; exact below_alloc0 _ HB2.out
  have H1 := Lib.hid (show Hand W1 X0.heap.size w2.heap.size ⟨z, l, ss⟩ [] (.slice A5 l.length c5) (.slice A6 ss.length c6) (.slice none 0 0) by
    rw [hW1.out]
    exact ⟨Bk.new w2 _ _ rfl, HO5.out.alloc _, HO6.out.alloc _, Ow.nil _ _ _ _ _, own_lt HO5.out (Nat.le_refl _), own_lt HO6.out (Nat.le_refl _), (by simp [Value.ownBlock]), own_types HO5.out HO6.out (by decide), (fun _ _ => by simp [Value.ownBlock]), (fun _ _ => by simp [Value.ownBlock]), HB2.out.size⟩)
  clear hW1 HO5 HO6 HB2 hX0 HWR HCP
  generalize w2.heap.size = b at *
  clear w2
  obtain ⟨b0, b1, b2, b3, bf1, bf2, bf3, bf0, blt⟩ := H1.out.cells
  have y0 := (hb1.cell (p := ⟨w.heap.size + 1, 0, none⟩) (by simp only; omega)).trans q30
  go_upto_region 6 with fail
  refine gen_w (fun W3 hW3 => ?_)
  have hb3 : Below X0.heap.size X0 W3 := by rw [hW3.out]; exact Below.set_up hb1 H1.out.base
  have H3 := Lib.hid (show Hand W3 X0.heap.size b ⟨xz, l, ss⟩ [] _ _ _ from hW3.out ▸ H1.out.number)
  clear hW3 H1 hb1 y0 b0 b1 b2 b3 bf1 bf2 bf3 bf0 blt
  have y0 := (hb3.cell (p := ⟨w.heap.size + 1, 0, none⟩) (by simp only; omega)).trans q30
  have y1 := (hb3.cell (p := ⟨w.heap.size + 1, 1, none⟩) (by simp only; omega)).trans q31
  have y2 := (hb3.cell (p := ⟨w.heap.size + 1, 2, none⟩) (by simp only; omega)).trans q32
  have y3 := (hb3.cell (p := ⟨w.heap.size + 1, 3, none⟩) (by simp only; omega)).trans q33
  have y4 := (hb3.cell (p := ⟨w.heap.size + 1, 4, none⟩) (by simp only; omega)).trans q34
  have y5 := (hb3.cell (p := ⟨w.heap.size + 1, 5, none⟩) (by simp only; omega)).trans q35
  have y6 := (hb3.cell (p := ⟨w.heap.size + 1, 6, none⟩) (by simp only; omega)).trans q36
  have hBW : X0.heap.size ≤ W3.heap.size := hb3.size
  have hk := HWI.out
  try simp only at hk
  have HFD := Lib.hid (fun (W : World) (h : Sl cNode 9 W (.slice A5 l.length c5) l) => trFind xz (.slice A5 l.length c5) A6 ss.length c6 l xp W h (by omega))
  rw [hk] at HFD
  have hql := hasN_lt hk
  have hx := getN_at hk
  have hset : setN l ⟨xz, 5, xs, xp, xd, xv, xw⟩ = l.set (posN l xp) { getN l xp with data := xd, version := xv, mzxid := xz } := by
    unfold setN
    rw [List.getD_eq_getElem?_getD, hx]
    rfl
  obtain ⟨L1, hL1⟩ : ∃ L1, L1 = setN l ⟨xz, 5, xs, xp, xd, xv, xw⟩ := ⟨_, rfl⟩
  rw [← hL1] at hset
  have HL1 := Lib.hid hL1
  clear hL1 hk HWI
  generalize getN l xp = g at *
  generalize posN l xp = q at *
  obtain ⟨gp, gd, g1, g2, g3, g4, g5, go, gk⟩ := g
  simp only at hset
  obtain ⟨b0, b1, b2, b3, bf1, bf2, bf3, bf0, blt⟩ := H3.out.cells
  go_upto_region 24 with fail
  refine wp_region_grow (by kernel_rfl) (by kernel_rfl) ?_
  try simp only [List.append]
  repeat' (first | go_big_quiet_skip | (go_big_quiet_want; go_big_quiet_op; first | go_big_quiet_on | (apply Exists.intro; refine ⟨fun _ => ?hqg1, ?hqg2⟩; (case hqg1 => (go_at_call 38; refine Calls.grow_of (HFD.out _ (H3.out.nodes.sl.below (by repeat (first | with_reducible exact Below.refl _ _ | with_reducible assumption | with_reducible exact below_d1 _ _ _ _ _ | with_reducible exact below_d2 _ _ _ _ _ _ _ _ | with_reducible exact below_d3 _ _ _ _ _ | with_reducible exact below_d4 _ _ _ _ _ _ _ _ | with_reducible exact below_d5 _ _ | with_reducible refine Below.drew ?_ | with_reducible refine Below.drewN' ?_ _ | with_reducible refine below_grow0 _ _ ?_ | with_reducible refine below_alloc0 _ ?_ | with_reducible refine Below.setCell ?_ ?_ _ | with_reducible refine Below.alloc ?_ ?_ _ | with_reducible refine Below.grow _ _ _ ?_ ?_ | omega | (simp; done) | (simp; omega))))))); go_big_quiet_on)))
  all_goals refine wpQuiet_nil ?_
  all_goals rintro _ ⟨⟨extq, dq⟩, rfl⟩
  all_goals dsimp only
  go_upto_region 25 with fail
  refine gen_w (fun W4 hW4 => ?_)
  have hbW : Below W3.heap.size W3 W4 := by rw [hW4.out]; exact (by repeat (first | with_reducible exact Below.refl _ _ | with_reducible assumption | with_reducible exact below_d1 _ _ _ _ _ | with_reducible exact below_d2 _ _ _ _ _ _ _ _ | with_reducible exact below_d3 _ _ _ _ _ | with_reducible exact below_d4 _ _ _ _ _ _ _ _ | with_reducible exact below_d5 _ _ | with_reducible refine Below.drew ?_ | with_reducible refine Below.drewN' ?_ _ | with_reducible refine below_grow0 _ _ ?_ | with_reducible refine below_alloc0 _ ?_ | with_reducible refine Below.setCell ?_ ?_ _ | with_reducible refine Below.alloc ?_ ?_ _ | with_reducible refine Below.grow _ _ _ ?_ ?_ | omega | (simp; done) | (simp; omega)))
  have hb4 : Below X0.heap.size X0 W4 := hb3.trans (hbW.mono hBW)
  have H4 := Lib.hid (H3.out.below hbW)
  clear hW4 hbW H3 hb3 hBW b0 b1 b2 b3 bf1 bf2 bf3 bf0 blt y0 y1 y2 y3 y4 y5 y6 HFD
  obtain ⟨b0, b1, b2, b3, bf1, bf2, bf3, bf0, blt⟩ := H4.out.cells
  obtain ⟨gb, J, rfl, hBg, _, _, hnc, _, _⟩ := H4.out.nodes.blk (by omega)
  have hgb : gb ≠ b := fun e => H4.out.nb (by rw [e]; rfl)
  have hqc : q < c5 := by omega
  have y4 := (hb4.cell (p := ⟨w.heap.size + 1, 4, none⟩) (by simp only; omega)).trans q34
  obtain ⟨e1, e1f⟩ := H4.out.nodes.at_cell (j := 1) (o := q * 9 + 1) hx rfl (by omega)
  refine wp_region_noPanic ?_
  refine wp_region_W (by kernel_rfl) (fun W hW => ?_)
  have cl0 : W.cell? ⟨b, 1, none⟩ = some (.slice (some ⟨gb, 0, none⟩) l.length c5) := by rw [hW.out]; go_simp
  have cl1 : W.cell? ⟨w.heap.size + 1, 4, none⟩ = some (.string xd) := by rw [hW.out]; go_simp
  have ge1 : W.cell? ⟨gb, q * 9 + 1, none⟩ = some (.string gd) := by rw [hW.out]; go_simp
  have ge1f : W.frozen? ⟨gb, q * 9 + 1, none⟩ = false := by rw [hW.out]; go_simp
  refine wpAny_S (fun w' => w'.cell? ⟨b, 1, none⟩ = some (.slice (some ⟨gb, 0, none⟩) l.length c5) ∧ w'.cell? ⟨w.heap.size + 1, 4, none⟩ = some (.string xd)) (fun i => i == 10) (by (try dsimp only); (refine ⟨?_, ?_⟩ <;> go_simp)) (fun hHeld => ?_)
  (refine wpE_takeP (i := 0) (v := ?gV1_1) (by simp only [List.getElem?_toArray]; rfl) (by kernel_rfl) (by kernel_rfl) (by kernel_rfl) (by rfl) (fun _ _ _ h => h) (Or.inl ⟨by rfl, ?gY1_1⟩) (by assumption) ?gR1_1; case gY1_1 => (intro w hSw; (try dsimp only at hSw); go_simp <;> with_reducible rfl))
  try simp only [Act.put, List.setIfInBounds_toArray, List.set_cons_zero, List.set_cons_succ]
  (refine wpE_takeP (i := 1) (v := ?gV1_2) (by simp only [List.getElem?_toArray]; rfl) (by kernel_rfl) (by kernel_rfl) (by kernel_rfl) (by rfl) (fun _ _ _ h => h) (Or.inl ⟨by rfl, ?gY1_2⟩) (by assumption) ?gR1_2; case gY1_2 => (intro w hSw; (try dsimp only at hSw); go_simp <;> with_reducible rfl))
  try simp only [Act.put, List.setIfInBounds_toArray, List.set_cons_zero, List.set_cons_succ]
  (refine wpE_takeP (i := 2) (v := ?gV1_3) (by simp only [List.getElem?_toArray]; rfl) (by kernel_rfl) (by kernel_rfl) (by kernel_rfl) (by rfl) (fun _ _ _ h => h) (Or.inl ⟨by rfl, ?gY1_3⟩) (by assumption) ?gR1_3; case gY1_3 => (intro w hSw; (try dsimp only at hSw); go_simp <;> with_reducible rfl))
  try simp only [Act.put, List.setIfInBounds_toArray, List.set_cons_zero, List.set_cons_succ]
  (refine wpE_takeP (i := 3) (v := ?gV1_4) (by simp only [List.getElem?_toArray]; rfl) (by kernel_rfl) (by kernel_rfl) (by kernel_rfl) (by rfl) (fun _ _ _ h => h) (Or.inl ⟨by rfl, ?gY1_4⟩) (by assumption) ?gR1_4; case gY1_4 => (intro w hSw; (try dsimp only at hSw); go_simp <;> with_reducible rfl))
  try simp only [Act.put, List.setIfInBounds_toArray, List.set_cons_zero, List.set_cons_succ]
  (refine wpE_take (i := 4) (v := ?gV1_5) (by simp only [List.getElem?_toArray]; rfl) (by kernel_rfl) (by kernel_rfl) (by kernel_rfl) (by kernel_rfl) (by kernel_rfl) (by rfl) (fun _ _ _ h => h) (Or.inl ⟨by rfl, ?gY1_5⟩) (by assumption) ?gR1_5; case gY1_5 => (intro w hSw; (try dsimp only at hSw); go_simp <;> with_reducible rfl))
  try simp only [Act.put, List.setIfInBounds_toArray, List.set_cons_zero, List.set_cons_succ]
  (refine wpE_takeP (i := 5) (v := ?gV1_6) (by simp only [List.getElem?_toArray]; rfl) (by kernel_rfl) (by kernel_rfl) (by kernel_rfl) (by rfl) (fun _ _ _ h => h) (Or.inl ⟨by rfl, ?gY1_6⟩) (by assumption) ?gR1_6; case gY1_6 => (intro w hSw; (try dsimp only at hSw); go_simp <;> with_reducible rfl))
  try simp only [Act.put, List.setIfInBounds_toArray, List.set_cons_zero, List.set_cons_succ]
  (refine wpE_takeP (i := 6) (v := ?gV1_7) (by simp only [List.getElem?_toArray]; rfl) (by kernel_rfl) (by kernel_rfl) (by kernel_rfl) (by rfl) (fun _ _ _ h => h) (Or.inl ⟨by rfl, ?gY1_7⟩) (by assumption) ?gR1_7; case gY1_7 => (intro w hSw; (try dsimp only at hSw); go_simp <;> with_reducible rfl))
  try simp only [Act.put, List.setIfInBounds_toArray, List.set_cons_zero, List.set_cons_succ]
  (refine wpE_take (i := 7) (v := ?gV1_8) (by simp only [List.getElem?_toArray]; rfl) (by kernel_rfl) (by kernel_rfl) (by kernel_rfl) (by kernel_rfl) (by kernel_rfl) (by rfl) (fun _ _ _ h => h) (Or.inl ⟨by rfl, ?gY1_8⟩) (by assumption) ?gR1_8; case gY1_8 => (intro w hSw; (try dsimp only at hSw); go_simp <;> with_reducible rfl))
  try simp only [Act.put, List.setIfInBounds_toArray, List.set_cons_zero, List.set_cons_succ]
  (refine wpE_takeP (i := 8) (v := ?gV1_9) (by simp only [List.getElem?_toArray]; rfl) (by kernel_rfl) (by kernel_rfl) (by kernel_rfl) (by rfl) (fun _ _ _ h => h) (Or.inl ⟨by rfl, ?gY1_9⟩) (by assumption) ?gR1_9; case gY1_9 => (intro w hSw; (try dsimp only at hSw); go_simp <;> with_reducible rfl))
  try simp only [Act.put, List.setIfInBounds_toArray, List.set_cons_zero, List.set_cons_succ]
  (refine wpE_takeP (i := 9) (v := ?gV1_10) (by simp only [List.getElem?_toArray]; rfl) (by kernel_rfl) (by kernel_rfl) (by kernel_rfl) (by rfl) (fun _ _ _ h => h) (Or.inl ⟨by rfl, ?gY1_10⟩) (by assumption) ?gR1_10; case gY1_10 => (intro w hSw; (try dsimp only at hSw); go_simp <;> with_reducible rfl))
  try simp only [Act.put, List.setIfInBounds_toArray, List.set_cons_zero, List.set_cons_succ]
  refine wpE_ready (rs := [10]) (by kernel_rfl) (by simp) ?_
  refine AllE.last (by simp only [List.getElem?_toArray]; rfl) (by kernel_rfl) (fun K hK => ?_) AllE.nil
  go_simp
  refine hK.out _ _ ?_
  clear hK K
  skip
  refine wpE_done (by kernel_rfl) ?_ _
  refine NoPanic.normal ?_
  go_upto_region 26 with fail
  refine gen_w (fun W6 hW6 => ?_)
  have hWW : Below W4.heap.size W4 W := by rw [hW.out]; exact (by repeat (first | with_reducible exact Below.refl _ _ | with_reducible assumption | with_reducible exact below_d1 _ _ _ _ _ | with_reducible exact below_d2 _ _ _ _ _ _ _ _ | with_reducible exact below_d3 _ _ _ _ _ | with_reducible exact below_d4 _ _ _ _ _ _ _ _ | with_reducible exact below_d5 _ _ | with_reducible refine Below.drew ?_ | with_reducible refine Below.drewN' ?_ _ | with_reducible refine below_grow0 _ _ ?_ | with_reducible refine below_alloc0 _ ?_ | with_reducible refine Below.setCell ?_ ?_ _ | with_reducible refine Below.alloc ?_ ?_ _ | with_reducible refine Below.grow _ _ _ ?_ ?_ | omega | (simp; done) | (simp; omega)))
  have H6 := Lib.hid (show Hand W6 X0.heap.size b _ [] _ _ _ from hW6.out ▸ (H4.out.below hWW).put (k := q) (j := 1) (x' := ⟨gp, xd, g1, g2, g3, g4, g5, go, gk⟩) hx (by omega) (by omega) rfl)
  have hb6 : Below X0.heap.size X0 W6 := by rw [hW6.out]; exact Below.set_up (hb4.trans (hWW.mono hb4.size)) hBg
  clear hW6 hWW ge1 ge1f e1 e1f H4 hb4 b0 b1 b2 b3 bf1 bf2 bf3 bf0 blt hW cl0 cl1 hHeld y4
  have hx6 := List.getElem?_set_self (a := (⟨gp, xd, g1, g2, g3, g4, g5, go, gk⟩ : Node)) hql
  obtain ⟨b0, b1, b2, b3, bf1, bf2, bf3, bf0, blt⟩ := H6.out.cells
  have y5 := (hb6.cell (p := ⟨w.heap.size + 1, 5, none⟩) (by simp only; omega)).trans q35
  have y0 := (hb6.cell (p := ⟨w.heap.size + 1, 0, none⟩) (by simp only; omega)).trans q30
  have hgw : gb ≠ w.heap.size + 1 := by omega
  have hbw0 : b ≠ w.heap.size + 1 := by have := H6.out.base; omega
  obtain ⟨e5, e5f⟩ := H6.out.nodes.at_cell (j := 5) (o := q * 9 + 2 + 3) hx6 rfl (by omega)
  obtain ⟨e3, e3f⟩ := H6.out.nodes.at_cell (j := 3) (o := q * 9 + 2 + 1) hx6 rfl (by omega)
  have hll : (l.set q (⟨gp, xd, g1, g2, g3, g4, g5, go, gk⟩ : Node)).length = l.length := List.length_set
  refine wp_region_noPanic ?_
  refine wp_region_W (by kernel_rfl) (fun W hW => ?_)
  have cl0 : W.cell? ⟨b, 1, none⟩ = some (.slice (some ⟨gb, 0, none⟩) l.length c5) := by rw [hW.out]; go_simp
  have cl1 : W.cell? ⟨w.heap.size + 1, 5, none⟩ = some (.int .i64 xv) := by rw [hW.out]; go_simp
  have cl2 : W.cell? ⟨w.heap.size + 1, 0, none⟩ = some (.int .i64 xz) := by rw [hW.out]; go_simp
  have ge5 : W.cell? ⟨gb, q * 9 + 2 + 3, none⟩ = some (.int .i64 g4) := by rw [hW.out]; go_simp
  have ge5f : W.frozen? ⟨gb, q * 9 + 2 + 3, none⟩ = false := by rw [hW.out]; go_simp
  have ge3 : W.cell? ⟨gb, q * 9 + 2 + 1, none⟩ = some (.int .i64 g2) := by rw [hW.out]; go_simp
  have ge3f : W.frozen? ⟨gb, q * 9 + 2 + 1, none⟩ = false := by rw [hW.out]; go_simp
  refine wpAny_S (fun w' => w'.cell? ⟨b, 1, none⟩ = some (.slice (some ⟨gb, 0, none⟩) l.length c5) ∧ w'.cell? ⟨w.heap.size + 1, 5, none⟩ = some (.int .i64 xv) ∧ w'.cell? ⟨w.heap.size + 1, 0, none⟩ = some (.int .i64 xz)) (fun i => i == 23) (by (try dsimp only); (refine ⟨?_, ?_, ?_⟩ <;> go_simp)) (fun hHeld => ?_)
  (refine wpE_takeP (i := 0) (v := ?gV2_1) (by simp only [List.getElem?_toArray]; rfl) (by kernel_rfl) (by kernel_rfl) (by kernel_rfl) (by rfl) (fun _ _ _ h => h) (Or.inl ⟨by rfl, ?gY2_1⟩) (by assumption) ?gR2_1; case gY2_1 => (intro w hSw; (try dsimp only at hSw); go_simp <;> with_reducible rfl))
  try simp only [Act.put, List.setIfInBounds_toArray, List.set_cons_zero, List.set_cons_succ]
  (refine wpE_takeP (i := 1) (v := ?gV2_2) (by simp only [List.getElem?_toArray]; rfl) (by kernel_rfl) (by kernel_rfl) (by kernel_rfl) (by rfl) (fun _ _ _ h => h) (Or.inl ⟨by rfl, ?gY2_2⟩) (by assumption) ?gR2_2; case gY2_2 => (intro w hSw; (try dsimp only at hSw); go_simp <;> with_reducible rfl))
  try simp only [Act.put, List.setIfInBounds_toArray, List.set_cons_zero, List.set_cons_succ]
  (refine wpE_takeP (i := 2) (v := ?gV2_3) (by simp only [List.getElem?_toArray]; rfl) (by kernel_rfl) (by kernel_rfl) (by kernel_rfl) (by rfl) (fun _ _ _ h => h) (Or.inl ⟨by rfl, ?gY2_3⟩) (by assumption) ?gR2_3; case gY2_3 => (intro w hSw; (try dsimp only at hSw); go_simp <;> with_reducible rfl))
  try simp only [Act.put, List.setIfInBounds_toArray, List.set_cons_zero, List.set_cons_succ]
  (refine wpE_takeP (i := 3) (v := ?gV2_4) (by simp only [List.getElem?_toArray]; rfl) (by kernel_rfl) (by kernel_rfl) (by kernel_rfl) (by rfl) (fun _ _ _ h => h) (Or.inl ⟨by rfl, ?gY2_4⟩) (by assumption) ?gR2_4; case gY2_4 => (intro w hSw; (try dsimp only at hSw); go_simp <;> with_reducible rfl))
  try simp only [Act.put, List.setIfInBounds_toArray, List.set_cons_zero, List.set_cons_succ]
  (refine wpE_take (i := 4) (v := ?gV2_5) (by simp only [List.getElem?_toArray]; rfl) (by kernel_rfl) (by kernel_rfl) (by kernel_rfl) (by kernel_rfl) (by kernel_rfl) (by rfl) (fun _ _ _ h => h) (Or.inl ⟨by rfl, ?gY2_5⟩) (by assumption) ?gR2_5; case gY2_5 => (intro w hSw; (try dsimp only at hSw); go_simp <;> with_reducible rfl))
  try simp only [Act.put, List.setIfInBounds_toArray, List.set_cons_zero, List.set_cons_succ]
  (refine wpE_takeP (i := 5) (v := ?gV2_6) (by simp only [List.getElem?_toArray]; rfl) (by kernel_rfl) (by kernel_rfl) (by kernel_rfl) (by rfl) (fun _ _ _ h => h) (Or.inl ⟨by rfl, ?gY2_6⟩) (by assumption) ?gR2_6; case gY2_6 => (intro w hSw; (try dsimp only at hSw); go_simp <;> with_reducible rfl))
  try simp only [Act.put, List.setIfInBounds_toArray, List.set_cons_zero, List.set_cons_succ]
  (refine wpE_takeP (i := 6) (v := ?gV2_7) (by simp only [List.getElem?_toArray]; rfl) (by kernel_rfl) (by kernel_rfl) (by kernel_rfl) (by rfl) (fun _ _ _ h => h) (Or.inl ⟨by rfl, ?gY2_7⟩) (by assumption) ?gR2_7; case gY2_7 => (intro w hSw; (try dsimp only at hSw); go_simp <;> with_reducible rfl))
  try simp only [Act.put, List.setIfInBounds_toArray, List.set_cons_zero, List.set_cons_succ]
  (refine wpE_takeP (i := 7) (v := ?gV2_8) (by simp only [List.getElem?_toArray]; rfl) (by kernel_rfl) (by kernel_rfl) (by kernel_rfl) (by rfl) (fun _ _ _ h => h) (Or.inl ⟨by rfl, ?gY2_8⟩) (by assumption) ?gR2_8; case gY2_8 => (intro w hSw; (try dsimp only at hSw); go_simp <;> with_reducible rfl))
  try simp only [Act.put, List.setIfInBounds_toArray, List.set_cons_zero, List.set_cons_succ]
  (refine wpE_takeP (i := 8) (v := ?gV2_9) (by simp only [List.getElem?_toArray]; rfl) (by kernel_rfl) (by kernel_rfl) (by kernel_rfl) (by rfl) (fun _ _ _ h => h) (Or.inl ⟨by rfl, ?gY2_9⟩) (by assumption) ?gR2_9; case gY2_9 => (intro w hSw; (try dsimp only at hSw); go_simp <;> with_reducible rfl))
  try simp only [Act.put, List.setIfInBounds_toArray, List.set_cons_zero, List.set_cons_succ]
  (refine wpE_takeP (i := 9) (v := ?gV2_10) (by simp only [List.getElem?_toArray]; rfl) (by kernel_rfl) (by kernel_rfl) (by kernel_rfl) (by rfl) (fun _ _ _ h => h) (Or.inl ⟨by rfl, ?gY2_10⟩) (by assumption) ?gR2_10; case gY2_10 => (intro w hSw; (try dsimp only at hSw); go_simp <;> with_reducible rfl))
  try simp only [Act.put, List.setIfInBounds_toArray, List.set_cons_zero, List.set_cons_succ]
  (refine wpE_take (i := 10) (v := ?gV2_11) (by simp only [List.getElem?_toArray]; rfl) (by kernel_rfl) (by kernel_rfl) (by kernel_rfl) (by kernel_rfl) (by kernel_rfl) (by rfl) (fun _ _ _ h => h) (Or.inl ⟨by rfl, ?gY2_11⟩) (by assumption) ?gR2_11; case gY2_11 => (intro w hSw; (try dsimp only at hSw); go_simp <;> with_reducible rfl))
  try simp only [Act.put, List.setIfInBounds_toArray, List.set_cons_zero, List.set_cons_succ]
  (refine wpE_takeP (i := 11) (v := ?gV2_12) (by simp only [List.getElem?_toArray]; rfl) (by kernel_rfl) (by kernel_rfl) (by kernel_rfl) (by rfl) (fun _ _ _ h => h) (Or.inl ⟨by rfl, ?gY2_12⟩) (by assumption) ?gR2_12; case gY2_12 => (intro w hSw; (try dsimp only at hSw); go_simp <;> with_reducible rfl))
  try simp only [Act.put, List.setIfInBounds_toArray, List.set_cons_zero, List.set_cons_succ]
  (refine wpE_takeP (i := 12) (v := ?gV2_13) (by simp only [List.getElem?_toArray]; rfl) (by kernel_rfl) (by kernel_rfl) (by kernel_rfl) (by rfl) (fun _ _ _ h => h) (Or.inl ⟨by rfl, ?gY2_13⟩) (by assumption) ?gR2_13; case gY2_13 => (intro w hSw; (try dsimp only at hSw); go_simp <;> with_reducible rfl))
  try simp only [Act.put, List.setIfInBounds_toArray, List.set_cons_zero, List.set_cons_succ]
  (refine wpE_take (i := 13) (v := ?gV2_14) (by simp only [List.getElem?_toArray]; rfl) (by kernel_rfl) (by kernel_rfl) (by kernel_rfl) (by kernel_rfl) (by kernel_rfl) (by rfl) (fun _ _ _ h => h) (Or.inl ⟨by rfl, ?gY2_14⟩) (by assumption) ?gR2_14; case gY2_14 => (intro w hSw; (try dsimp only at hSw); go_simp <;> with_reducible rfl))
  try simp only [Act.put, List.setIfInBounds_toArray, List.set_cons_zero, List.set_cons_succ]
  (refine wpE_takeP (i := 14) (v := ?gV2_15) (by simp only [List.getElem?_toArray]; rfl) (by kernel_rfl) (by kernel_rfl) (by kernel_rfl) (by rfl) (fun _ _ _ h => h) (Or.inl ⟨by rfl, ?gY2_15⟩) (by assumption) ?gR2_15; case gY2_15 => (intro w hSw; (try dsimp only at hSw); go_simp <;> with_reducible rfl))
  try simp only [Act.put, List.setIfInBounds_toArray, List.set_cons_zero, List.set_cons_succ]
  (refine wpE_take (i := 15) (v := ?gV2_16) (by simp only [List.getElem?_toArray]; rfl) (by kernel_rfl) (by kernel_rfl) (by kernel_rfl) (by kernel_rfl) (by kernel_rfl) (by rfl) (fun _ _ _ h => h) (Or.inl ⟨by rfl, ?gY2_16⟩) (by assumption) ?gR2_16; case gY2_16 => (intro w hSw; (try dsimp only at hSw); go_simp <;> with_reducible rfl))
  try simp only [Act.put, List.setIfInBounds_toArray, List.set_cons_zero, List.set_cons_succ]
  (refine wpE_takeP (i := 16) (v := ?gV2_17) (by simp only [List.getElem?_toArray]; rfl) (by kernel_rfl) (by kernel_rfl) (by kernel_rfl) (by rfl) (fun _ _ _ h => h) (Or.inl ⟨by rfl, ?gY2_17⟩) (by assumption) ?gR2_17; case gY2_17 => (intro w hSw; (try dsimp only at hSw); go_simp <;> with_reducible rfl))
  try simp only [Act.put, List.setIfInBounds_toArray, List.set_cons_zero, List.set_cons_succ]
  (refine wpE_takeP (i := 17) (v := ?gV2_18) (by simp only [List.getElem?_toArray]; rfl) (by kernel_rfl) (by kernel_rfl) (by kernel_rfl) (by rfl) (fun _ _ _ h => h) (Or.inl ⟨by rfl, ?gY2_18⟩) (by assumption) ?gR2_18; case gY2_18 => (intro w hSw; (try dsimp only at hSw); go_simp <;> with_reducible rfl))
  try simp only [Act.put, List.setIfInBounds_toArray, List.set_cons_zero, List.set_cons_succ]
  (refine wpE_takeP (i := 18) (v := ?gV2_19) (by simp only [List.getElem?_toArray]; rfl) (by kernel_rfl) (by kernel_rfl) (by kernel_rfl) (by rfl) (fun _ _ _ h => h) (Or.inl ⟨by rfl, ?gY2_19⟩) (by assumption) ?gR2_19; case gY2_19 => (intro w hSw; (try dsimp only at hSw); go_simp <;> with_reducible rfl))
  try simp only [Act.put, List.setIfInBounds_toArray, List.set_cons_zero, List.set_cons_succ]
  refine wpE_ready (rs := [19]) (by kernel_rfl) (by simp) ?_
  refine AllE.cons (by simp only [List.getElem?_toArray]; rfl) (fun K hK => ?_) AllE.nil
  go_simp
  refine hK.out _ _ ?gT2_20 (fun hHeld => ?_)
  case gT2_20 => ((try dsimp only); (refine ⟨?_, ?_, ?_⟩ <;> go_simp))
  clear hK K
  skip
  (refine wpE_takeP (i := 20) (v := ?gV2_21) (by simp only [List.getElem?_toArray]; rfl) (by kernel_rfl) (by kernel_rfl) (by kernel_rfl) (by rfl) (fun _ _ _ h => h) (Or.inl ⟨by rfl, ?gY2_21⟩) (by assumption) ?gR2_21; case gY2_21 => (intro w hSw; (try dsimp only at hSw); go_simp <;> with_reducible rfl))
  try simp only [Act.put, List.setIfInBounds_toArray, List.set_cons_zero, List.set_cons_succ]
  (refine wpE_takeP (i := 21) (v := ?gV2_22) (by simp only [List.getElem?_toArray]; rfl) (by kernel_rfl) (by kernel_rfl) (by kernel_rfl) (by rfl) (fun _ _ _ h => h) (Or.inl ⟨by rfl, ?gY2_22⟩) (by assumption) ?gR2_22; case gY2_22 => (intro w hSw; (try dsimp only at hSw); go_simp <;> with_reducible rfl))
  try simp only [Act.put, List.setIfInBounds_toArray, List.set_cons_zero, List.set_cons_succ]
  (refine wpE_takeP (i := 22) (v := ?gV2_23) (by simp only [List.getElem?_toArray]; rfl) (by kernel_rfl) (by kernel_rfl) (by kernel_rfl) (by rfl) (fun _ _ _ h => h) (Or.inl ⟨by rfl, ?gY2_23⟩) (by assumption) ?gR2_23; case gY2_23 => (intro w hSw; (try dsimp only at hSw); go_simp <;> with_reducible rfl))
  try simp only [Act.put, List.setIfInBounds_toArray, List.set_cons_zero, List.set_cons_succ]
  refine wpE_ready (rs := [23]) (by kernel_rfl) (by simp) ?_
  refine AllE.last (by simp only [List.getElem?_toArray]; rfl) (by kernel_rfl) (fun K hK => ?_) AllE.nil
  go_simp
  refine hK.out _ _ ?_
  clear hK K
  skip
  refine wpE_done (by kernel_rfl) ?_ _
  refine NoPanic.normal ?_
  go_upto_region 27 with fail
  refine gen_w (fun W7 hW7 => ?_)
  have hWW : Below W6.heap.size W6 W := by rw [hW.out]; exact (by repeat (first | with_reducible exact Below.refl _ _ | with_reducible assumption | with_reducible exact below_d1 _ _ _ _ _ | with_reducible exact below_d2 _ _ _ _ _ _ _ _ | with_reducible exact below_d3 _ _ _ _ _ | with_reducible exact below_d4 _ _ _ _ _ _ _ _ | with_reducible exact below_d5 _ _ | with_reducible refine Below.drew ?_ | with_reducible refine Below.drewN' ?_ _ | with_reducible refine below_grow0 _ _ ?_ | with_reducible refine below_alloc0 _ ?_ | with_reducible refine Below.setCell ?_ ?_ _ | with_reducible refine Below.alloc ?_ ?_ _ | with_reducible refine Below.grow _ _ _ ?_ ?_ | omega | (simp; done) | (simp; omega)))
  have H7a := Lib.hid ((H6.out.below hWW).put (k := q) (j := 5) (o := q * 9 + 2 + 3) (u := .int .i64 xv) (x' := ⟨gp, xd, g1, g2, g3, xv, g5, go, gk⟩) hx6 (by omega) (by omega) rfl)
  rw [List.set_set] at H7a
  have hx7 := List.getElem?_set_self (a := (⟨gp, xd, g1, g2, g3, xv, g5, go, gk⟩ : Node)) hql
  have H7 := Lib.hid (show Hand W7 X0.heap.size b _ [] _ _ _ from hW7.out ▸ H7a.out.put (k := q) (j := 3) (o := q * 9 + 2 + 1) (u := .int .i64 xz) (x' := ⟨gp, xd, g1, xz, g3, xv, g5, go, gk⟩) hx7 (by omega) (by omega) rfl)
  rw [List.set_set, ← hset] at H7
  have hb7 : Below X0.heap.size X0 W7 := by rw [hW7.out]; exact Below.set_up (Below.set_up (hb6.trans (hWW.mono hb6.size)) hBg) hBg
  have hl1 : L1.length = l.length := by rw [hset, List.length_set]
  clear hW7 hWW ge5 ge5f ge3 ge3f e5 e5f e3 e3f H6 hb6 b0 b1 b2 b3 bf1 bf2 bf3 bf0 blt hW cl0 cl1 cl2 hHeld y5 y0 hx6 hx7 hset hx H7a hll
  obtain ⟨b0, b1, b2, b3, bf1, bf2, bf3, bf0, blt⟩ := H7.out.cells
  have y3 := (hb7.cell (p := ⟨w.heap.size + 1, 3, none⟩) (by simp only; omega)).trans q33
  have hBW7 : X0.heap.size ≤ W7.heap.size := hb7.size
  refine wp_region_noPanic ?_
  refine wp_region_W (by kernel_rfl) (fun W hW => ?_)
  have cl0 : W.cell? ⟨b, 3, none⟩ = some (.slice none 0 0) := by rw [hW.out]; go_simp
  have cl1 : W.cell? ⟨w.heap.size + 1, 3, none⟩ = some (.string xp) := by rw [hW.out]; go_simp
  refine wpAny_S (fun w' => w'.cell? ⟨b, 3, none⟩ = some (.slice none 0 0) ∧ w'.cell? ⟨w.heap.size + 1, 3, none⟩ = some (.string xp)) (fun i => i == 12) (by (try dsimp only); (refine ⟨?_, ?_⟩ <;> go_simp)) (fun hHeld => ?_)
  (refine wpE_takeP (i := 0) (v := ?gV3_1) (by simp only [List.getElem?_toArray]; rfl) (by kernel_rfl) (by kernel_rfl) (by kernel_rfl) (by rfl) (fun _ _ _ h => h) (Or.inl ⟨by rfl, ?gY3_1⟩) (by assumption) ?gR3_1; case gY3_1 => (intro w hSw; (try dsimp only at hSw); go_simp <;> with_reducible rfl))
  try simp only [Act.put, List.setIfInBounds_toArray, List.set_cons_zero, List.set_cons_succ]
  (refine wpE_takeP (i := 1) (v := ?gV3_2) (by simp only [List.getElem?_toArray]; rfl) (by kernel_rfl) (by kernel_rfl) (by kernel_rfl) (by rfl) (fun _ _ _ h => h) (Or.inl ⟨by rfl, ?gY3_2⟩) (by assumption) ?gR3_2; case gY3_2 => (intro w hSw; (try dsimp only at hSw); go_simp <;> with_reducible rfl))
  try simp only [Act.put, List.setIfInBounds_toArray, List.set_cons_zero, List.set_cons_succ]
  (refine wpE_takeP (i := 2) (v := ?gV3_3) (by simp only [List.getElem?_toArray]; rfl) (by kernel_rfl) (by kernel_rfl) (by kernel_rfl) (by rfl) (fun _ _ _ h => h) (Or.inl ⟨by rfl, ?gY3_3⟩) (by assumption) ?gR3_3; case gY3_3 => (intro w hSw; (try dsimp only at hSw); go_simp <;> with_reducible rfl))
  try simp only [Act.put, List.setIfInBounds_toArray, List.set_cons_zero, List.set_cons_succ]
  (refine wpE_takeP (i := 3) (v := ?gV3_4) (by simp only [List.getElem?_toArray]; rfl) (by kernel_rfl) (by kernel_rfl) (by kernel_rfl) (by rfl) (fun _ _ _ h => h) (Or.inl ⟨by rfl, ?gY3_4⟩) (by assumption) ?gR3_4; case gY3_4 => (intro w hSw; (try dsimp only at hSw); go_simp <;> with_reducible rfl))
  try simp only [Act.put, List.setIfInBounds_toArray, List.set_cons_zero, List.set_cons_succ]
  (refine wpE_take (i := 4) (v := ?gV3_5) (by simp only [List.getElem?_toArray]; rfl) (by kernel_rfl) (by kernel_rfl) (by kernel_rfl) (by kernel_rfl) (by kernel_rfl) (by rfl) (fun _ _ _ h => h) (Or.inl ⟨by rfl, ?gY3_5⟩) (by assumption) ?gR3_5; case gY3_5 => (intro w hSw; (try dsimp only at hSw); go_simp <;> with_reducible rfl))
  try simp only [Act.put, List.setIfInBounds_toArray, List.set_cons_zero, List.set_cons_succ]
  (refine wpE_takeP (i := 5) (v := ?gV3_6) (by simp only [List.getElem?_toArray]; rfl) (by kernel_rfl) (by kernel_rfl) (by kernel_rfl) (by rfl) (fun _ _ _ h => h) (Or.inl ⟨by rfl, ?gY3_6⟩) (by assumption) ?gR3_6; case gY3_6 => (intro w hSw; (try dsimp only at hSw); go_simp <;> with_reducible rfl))
  try simp only [Act.put, List.setIfInBounds_toArray, List.set_cons_zero, List.set_cons_succ]
  (refine wpE_take (i := 6) (v := ?gV3_7) (by simp only [List.getElem?_toArray]; rfl) (by kernel_rfl) (by kernel_rfl) (by kernel_rfl) (by kernel_rfl) (by kernel_rfl) (by rfl) (fun _ _ _ h => h) (Or.inl ⟨by rfl, ?gY3_7⟩) (by assumption) ?gR3_7; case gY3_7 => (intro w hSw; (try dsimp only at hSw); go_simp <;> with_reducible rfl))
  try simp only [Act.put, List.setIfInBounds_toArray, List.set_cons_zero, List.set_cons_succ]
  (refine wpE_takeP (i := 7) (v := ?gV3_8) (by simp only [List.getElem?_toArray]; rfl) (by kernel_rfl) (by kernel_rfl) (by kernel_rfl) (by rfl) (fun _ _ _ h => h) (Or.inl ⟨by rfl, ?gY3_8⟩) (by assumption) ?gR3_8; case gY3_8 => (intro w hSw; (try dsimp only at hSw); go_simp <;> with_reducible rfl))
  try simp only [Act.put, List.setIfInBounds_toArray, List.set_cons_zero, List.set_cons_succ]
  refine wpE_ready (rs := [8]) (by kernel_rfl) (by simp) ?_
  refine AllE.cons (by simp only [List.getElem?_toArray]; rfl) (fun K hK => ?_) AllE.nil
  go_simp
  refine hK.out _ _ ?gT3_9 (fun hHeld => ?_)
  case gT3_9 => ((try dsimp only); (refine ⟨?_, ?_⟩ <;> go_simp))
  clear hK K
  skip
  refine wpE_ready (rs := [9]) (by kernel_rfl) (by simp) ?_
  refine AllE.cons (by simp only [List.getElem?_toArray]; rfl) (fun K hK => ?_) AllE.nil
  (refine stepE_app (by rfl) (.tmp 170) (.tmp 174) _ rfl elEvent (B := X0.heap.size) (l := ([] : List Event)) (m := [⟨3, xp⟩]) rfl rfl (H7.out.evs.below (by rw [hW.out]; exact (by repeat (first | with_reducible exact Below.refl _ _ | with_reducible assumption | with_reducible exact below_d1 _ _ _ _ _ | with_reducible exact below_d2 _ _ _ _ _ _ _ _ | with_reducible exact below_d3 _ _ _ _ _ | with_reducible exact below_d4 _ _ _ _ _ _ _ _ | with_reducible exact below_d5 _ _ | with_reducible refine Below.drew ?_ | with_reducible refine Below.drewN' ?_ _ | with_reducible refine below_grow0 _ _ ?_ | with_reducible refine below_alloc0 _ ?_ | with_reducible refine Below.setCell ?_ ?_ _ | with_reducible refine Below.alloc ?_ ?_ _ | with_reducible refine Below.grow _ _ _ ?_ ?_ | omega | (simp; done) | (simp; omega))))) (Sl.one_at cEvent 2 _ _ _ rfl _ rfl (by omega) (by simp)) cEvent_one (by simp [maxLen]) (by simp) (by rw [hW.out]; simp; omega) ?_; intro v2 w2 hown2 hg2 hat2; obtain ⟨A4, c4, rfl, _⟩ := hown2.form; have HX3 := Lib.hid (hand_push (w := X0) H7.out hb7 (by rw [hW.out]; exact (by repeat (first | with_reducible exact Below.refl _ _ | with_reducible assumption | with_reducible exact below_d1 _ _ _ _ _ | with_reducible exact below_d2 _ _ _ _ _ _ _ _ | with_reducible exact below_d3 _ _ _ _ _ | with_reducible exact below_d4 _ _ _ _ _ _ _ _ | with_reducible exact below_d5 _ _ | with_reducible refine Below.drew ?_ | with_reducible refine Below.drewN' ?_ _ | with_reducible refine below_grow0 _ _ ?_ | with_reducible refine below_alloc0 _ ?_ | with_reducible refine Below.setCell ?_ ?_ _ | with_reducible refine Below.alloc ?_ ?_ _ | with_reducible refine Below.grow _ _ _ ?_ ?_ | omega | (simp; done) | (simp; omega)))) hown2 hg2 hat2); have y22 : w2.cell? ⟨w.heap.size + 1, 3, none⟩ = some (.string xp) := ((World.cell?_setCell_other _ _ _ _ (show (⟨b, 3, none⟩ : Addr) ≠ ⟨w.heap.size + 1, 3, none⟩ by have := H7.out.base; simp <;> omega)).symm.trans ((HX3.out.2.1.cell (p := ⟨w.heap.size + 1, 3, none⟩) (by simp only; omega)).trans q33)); obtain ⟨_, _, hs3, hf3, hl3⟩ := HX3.out; clear hown2 hg2 hat2)
  refine hK.out _ _ ?gT3_10 (fun hHeld => ?_)
  case gT3_10 => ((try dsimp only); (refine ⟨?_, ?_⟩ <;> go_simp))
  clear hK K
  try simp only [Act.put, List.setIfInBounds_toArray, List.set_cons_zero, List.set_cons_succ]
  (refine wpE_takeP (i := 10) (v := ?gV3_11) (by simp only [List.getElem?_toArray]; rfl) (by kernel_rfl) (by kernel_rfl) (by kernel_rfl) (by rfl) (fun _ _ _ h => h) (Or.inl ⟨by rfl, ?gY3_11⟩) (by assumption) ?gR3_11; case gY3_11 => (intro w hSw; (try dsimp only at hSw); go_simp <;> with_reducible rfl))
  try simp only [Act.put, List.setIfInBounds_toArray, List.set_cons_zero, List.set_cons_succ]
  (refine wpE_takeP (i := 11) (v := ?gV3_12) (by simp only [List.getElem?_toArray]; rfl) (by kernel_rfl) (by kernel_rfl) (by kernel_rfl) (by rfl) (fun _ _ _ h => h) (Or.inl ⟨by rfl, ?gY3_12⟩) (by assumption) ?gR3_12; case gY3_12 => (intro w hSw; (try dsimp only at hSw); go_simp <;> with_reducible rfl))
  try simp only [Act.put, List.setIfInBounds_toArray, List.set_cons_zero, List.set_cons_succ]
  refine wpE_ready (rs := [12]) (by kernel_rfl) (by simp) ?_
  refine AllE.last (by simp only [List.getElem?_toArray]; rfl) (by kernel_rfl) (fun K hK => ?_) AllE.nil
  go_simp
  refine hK.out _ _ ?_
  clear hK K
  skip
  refine wpE_done (by kernel_rfl) ?_ _
  refine NoPanic.normal ?_
  go_upto_region 28 with fail
  refine gen_w (fun W5 hW5 => ?_)
  simp only [List.length_append, List.length_cons, List.length_nil, Nat.zero_add, List.nil_append] at HX3
  rw [← hW5.out] at HX3
  have H5 := Lib.hid HX3.out.1
  have hb5 : Below X0.heap.size X0 W5 := HX3.out.2.1
  rw [HL1.out] at H5
  clear hW5 HX3 hs3 hf3 hl3 y22 H7 b0 b1 b2 b3 bf1 bf2 bf3 bf0 blt y3 hW cl0 cl1 hHeld hb7 hl1
  obtain ⟨d1, d2, d3⟩ := doN_5 (t := ⟨z, l, ss⟩) (x := ⟨xz, 5, xs, xp, xd, xv, xw⟩) rfl
  simp only at d1 d2 d3
  obtain ⟨L, hLL⟩ : ∃ L, L = setN l ⟨xz, 5, xs, xp, xd, xv, xw⟩ := ⟨_, rfl⟩
  obtain ⟨S, hSS⟩ : ∃ S, S = ss := ⟨_, rfl⟩
  obtain ⟨V, hVV⟩ : ∃ V, V = ([⟨3, xp⟩] : List Event) := ⟨_, rfl⟩
  have HL := Lib.hid (d1.trans hLL.symm)
  have HS7 := Lib.hid (d2.trans hSS.symm)
  have HV7 := Lib.hid (d3.trans hVV.symm)
  have HNO1 := HNO
  clear HNO
  have HNO := Lib.hid (fun (w' : World) (hf : fullB L = true) (hb : Below w.heap.size w w') => HNO1.out w' (by rw [HL.out]; exact hf) hb)
  have hL7 : L.length ≤ 140737488355328 := by rw [← HL.out]; exact Nat.le_trans HLEN.out (by decide)
  rw [← hLL, ← hSS, ← hVV] at H5
  clear hLL hSS hVV d1 d2 d3 HNO1
  obtain ⟨nv5, sv5, vv5, H5⟩ := exHand H5
  obtain ⟨A7, c7, rfl, h7, h7b, _⟩ := H5.out.nodes.form
  obtain ⟨A8, c8, rfl, h8, h8b, _⟩ := H5.out.sess.form
  obtain ⟨A9, c9, rfl, h9, h9b, _⟩ := H5.out.evs.form
  have y40 := (hb5.cell (p := ⟨w.heap.size + 1 + 1, 0, none⟩) (by simp only; omega)).trans q40
  have y41 := (hb5.cell (p := ⟨w.heap.size + 1 + 1, 1, none⟩) (by simp only; omega)).trans q41
  have y42 := (hb5.cell (p := ⟨w.heap.size + 1 + 1, 2, none⟩) (by simp only; omega)).trans q42
  have z40 := (hb5.frozen (p := ⟨w.heap.size + 1 + 1, 0, none⟩) (by simp only; omega)).trans r40
  have z41 := (hb5.frozen (p := ⟨w.heap.size + 1 + 1, 1, none⟩) (by simp only; omega)).trans r41
  have z42 := (hb5.frozen (p := ⟨w.heap.size + 1 + 1, 2, none⟩) (by simp only; omega)).trans r42
  obtain ⟨b0, b1, b2, b3, bf1, bf2, bf3, bf0, blt⟩ := H5.out.cells
  have hwb : w.heap.size + 1 + 1 < b := Nat.lt_of_lt_of_le hXs H5.out.base
  have hw5 : w.heap.size + 1 + 1 < W5.heap.size := by omega
  have hwW : Below w.heap.size w W5 := hwX.trans (hb5.mono (by omega))
  have HFU := Lib.hid (fun (W : World) (h : Below W5.heap.size W5 W) => trFull _ _ W (H5.out.nodes.sl.below h) hL7)
  cases hf : fullB L with
  | true =>
    rw [hf] at HFU
    have HNO2 := Lib.hid (fun (w' : World) (hb : Below w.heap.size w w') => HNO.out w' hf hb)
    clear hf HYES
    go_wp2_with ((go_at_call 50; refine (HFU.out _ (by repeat (first | with_reducible exact Below.refl _ _ | with_reducible assumption | with_reducible exact below_d1 _ _ _ _ _ | with_reducible exact below_d2 _ _ _ _ _ _ _ _ | with_reducible exact below_d3 _ _ _ _ _ | with_reducible exact below_d4 _ _ _ _ _ _ _ _ | with_reducible exact below_d5 _ _ | with_reducible refine Below.drew ?_ | with_reducible refine Below.drewN' ?_ _ | with_reducible refine below_grow0 _ _ ?_ | with_reducible refine below_alloc0 _ ?_ | with_reducible refine Below.setCell ?_ ?_ _ | with_reducible refine Below.alloc ?_ ?_ _ | with_reducible refine Below.grow _ _ _ ?_ ?_ | omega | (simp; done) | (simp; omega)))).mono ?_; rintro e w1 ⟨rfl, hb⟩; obtain ⟨ext1, d1, rfl⟩ := Below.grown_eq _ hb; clear hb))
    refine gen_e (fun WF hWF => ?_)
    have hBF : Below w.heap.size w WF := by rw [hWF.out]; exact (by repeat (first | with_reducible exact Below.refl _ _ | with_reducible assumption | with_reducible exact below_d1 _ _ _ _ _ | with_reducible exact below_d2 _ _ _ _ _ _ _ _ | with_reducible exact below_d3 _ _ _ _ _ | with_reducible exact below_d4 _ _ _ _ _ _ _ _ | with_reducible exact below_d5 _ _ | with_reducible refine Below.drew ?_ | with_reducible refine Below.drewN' ?_ _ | with_reducible refine below_grow0 _ _ ?_ | with_reducible refine below_alloc0 _ ?_ | with_reducible refine Below.setCell ?_ ?_ _ | with_reducible refine Below.alloc ?_ ?_ _ | with_reducible refine Below.grow _ _ _ ?_ ?_ | omega | (simp; done) | (simp; omega)))
    obtain ⟨s0, s1, s2⟩ := set3_cells y40 y41 y42 (v0 := .int .i64 0) (v1 := .slice none 0 0) (v2 := .slice none 0 0)
    have f0 : WF.cell? ⟨w.heap.size + 1 + 1, 0, none⟩ = some (.int .i64 0) := by rw [hWF.out]; exact grow_at s0
    have f1 : WF.cell? ⟨w.heap.size + 1 + 1, 1, none⟩ = some (.slice none 0 0) := by rw [hWF.out]; exact grow_at s1
    have f2 : WF.cell? ⟨w.heap.size + 1 + 1, 2, none⟩ = some (.slice none 0 0) := by rw [hWF.out]; exact grow_at s2
    clear hWF s0 s1 s2
    refine bodyPost_ret (v := .tuple #[.agg #[.int .i64 0, .slice none 0 0, .slice none 0 0], .slice none 0 0, .int .i64 6]) (by simp [results, Tryd.results23, go_sem, f0, f1, f2]) rfl (HNO2.out _ hBF)
  | false =>
    rw [hf] at HFU
    have HYES2 := Lib.hid (fun (w' : World) (hn : Ow cNode 9 40 w' X0.heap.size (.slice A7 (L).length c7) (L)) (hs : Ow cInt 1 3 w' X0.heap.size (.slice A8 (S).length c8) (S)) (hv : Ow cEvent 2 55 w' X0.heap.size (.slice A9 (V).length c9) (V)) (hb : Below w.heap.size w w') => HYES.out W5 w' b _ _ _ _ _ _ _ hf HL.out HS7.out HV7.out H5.out (by omega) hn hs hv hb)
    clear hf HYES HNO
    go_upto_region 30 with ((go_at_call 50; refine (HFU.out _ (by repeat (first | with_reducible exact Below.refl _ _ | with_reducible assumption | with_reducible exact below_d1 _ _ _ _ _ | with_reducible exact below_d2 _ _ _ _ _ _ _ _ | with_reducible exact below_d3 _ _ _ _ _ | with_reducible exact below_d4 _ _ _ _ _ _ _ _ | with_reducible exact below_d5 _ _ | with_reducible refine Below.drew ?_ | with_reducible refine Below.drewN' ?_ _ | with_reducible refine below_grow0 _ _ ?_ | with_reducible refine below_alloc0 _ ?_ | with_reducible refine Below.setCell ?_ ?_ _ | with_reducible refine Below.alloc ?_ ?_ _ | with_reducible refine Below.grow _ _ _ ?_ ?_ | omega | (simp; done) | (simp; omega)))).mono ?_; rintro e w1 ⟨rfl, hb⟩; obtain ⟨ext1, d1, rfl⟩ := Below.grown_eq _ hb; clear hb))
    refine wp_region_noPanic ?_
    refine wp_region_W (by kernel_rfl) (fun W hW => ?_)
    have cl0 : W.cell? ⟨b, 0, none⟩ = some (.int .i64 xz) := by rw [hW.out]; go_simp
    have cl1 : W.cell? ⟨b, 1, none⟩ = some (.slice A7 L.length c7) := by rw [hW.out]; go_simp
    have cl2 : W.cell? ⟨b, 2, none⟩ = some (.slice A8 S.length c8) := by rw [hW.out]; go_simp
    have cl3 : W.cell? ⟨b, 3, none⟩ = some (.slice A9 V.length c9) := by rw [hW.out]; go_simp
    have fz0 : W.frozen? ⟨w.heap.size + 1 + 1, 0, none⟩ = false := by rw [hW.out]; go_simp
    have fz1 : W.frozen? ⟨w.heap.size + 1 + 1, 1, none⟩ = false := by rw [hW.out]; go_simp
    have fz2 : W.frozen? ⟨w.heap.size + 1 + 1, 2, none⟩ = false := by rw [hW.out]; go_simp
    have g40 : W.cell? ⟨w.heap.size + 1 + 1, 0, none⟩ = some (.int .i64 0) := by rw [hW.out]; go_simp
    have g41 : W.cell? ⟨w.heap.size + 1 + 1, 1, none⟩ = some (.slice none 0 0) := by rw [hW.out]; go_simp
    have g42 : W.cell? ⟨w.heap.size + 1 + 1, 2, none⟩ = some (.slice none 0 0) := by rw [hW.out]; go_simp
    have hWs : w.heap.size + 1 + 1 < W.heap.size := by rw [hW.out]; simp; omega
    have hWW5 : Below W5.heap.size W5 W := by rw [hW.out]; exact (by repeat (first | with_reducible exact Below.refl _ _ | with_reducible assumption | with_reducible exact below_d1 _ _ _ _ _ | with_reducible exact below_d2 _ _ _ _ _ _ _ _ | with_reducible exact below_d3 _ _ _ _ _ | with_reducible exact below_d4 _ _ _ _ _ _ _ _ | with_reducible exact below_d5 _ _ | with_reducible refine Below.drew ?_ | with_reducible refine Below.drewN' ?_ _ | with_reducible refine below_grow0 _ _ ?_ | with_reducible refine below_alloc0 _ ?_ | with_reducible refine Below.setCell ?_ ?_ _ | with_reducible refine Below.alloc ?_ ?_ _ | with_reducible refine Below.grow _ _ _ ?_ ?_ | omega | (simp; done) | (simp; omega)))
    refine wpAny_S (fun w' => w'.cell? ⟨b, 0, none⟩ = some (.int .i64 xz) ∧ w'.cell? ⟨b, 1, none⟩ = some (.slice A7 L.length c7) ∧ w'.cell? ⟨b, 2, none⟩ = some (.slice A8 S.length c8) ∧ w'.cell? ⟨b, 3, none⟩ = some (.slice A9 V.length c9)) (fun i => false) (by (try dsimp only); (refine ⟨?_, ?_, ?_, ?_⟩ <;> go_simp)) (fun hHeld => ?_)
    (refine wpE_takeP (i := 0) (v := ?gV4_1) (by simp only [List.getElem?_toArray]; rfl) (by kernel_rfl) (by kernel_rfl) (by kernel_rfl) (by rfl) (fun _ _ _ h => h) (Or.inl ⟨by rfl, ?gY4_1⟩) (by assumption) ?gR4_1; case gY4_1 => (intro w hSw; (try dsimp only at hSw); go_simp <;> with_reducible rfl))
    try simp only [Act.put, List.setIfInBounds_toArray, List.set_cons_zero, List.set_cons_succ]
    (refine wpE_takeP (i := 1) (v := ?gV4_2) (by simp only [List.getElem?_toArray]; rfl) (by kernel_rfl) (by kernel_rfl) (by kernel_rfl) (by rfl) (fun _ _ _ h => h) (Or.inl ⟨by rfl, ?gY4_2⟩) (by assumption) ?gR4_2; case gY4_2 => (intro w hSw; (try dsimp only at hSw); go_simp <;> with_reducible rfl))
    try simp only [Act.put, List.setIfInBounds_toArray, List.set_cons_zero, List.set_cons_succ]
    (refine wpE_takeP (i := 2) (v := ?gV4_3) (by simp only [List.getElem?_toArray]; rfl) (by kernel_rfl) (by kernel_rfl) (by kernel_rfl) (by rfl) (fun _ _ _ h => h) (Or.inl ⟨by rfl, ?gY4_3⟩) (by assumption) ?gR4_3; case gY4_3 => (intro w hSw; (try dsimp only at hSw); go_simp <;> with_reducible rfl))
    try simp only [Act.put, List.setIfInBounds_toArray, List.set_cons_zero, List.set_cons_succ]
    (refine wpE_take (i := 3) (v := ?gV4_4) (by simp only [List.getElem?_toArray]; rfl) (by kernel_rfl) (by kernel_rfl) (by kernel_rfl) (by kernel_rfl) (by kernel_rfl) (by rfl) (fun _ _ _ h => h) (Or.inl ⟨by rfl, ?gY4_4⟩) (by assumption) ?gR4_4; case gY4_4 => (intro w hSw; (try dsimp only at hSw); go_simp <;> with_reducible rfl))
    try simp only [Act.put, List.setIfInBounds_toArray, List.set_cons_zero, List.set_cons_succ]
    (refine wpE_takeP (i := 4) (v := ?gV4_5) (by simp only [List.getElem?_toArray]; rfl) (by kernel_rfl) (by kernel_rfl) (by kernel_rfl) (by rfl) (fun _ _ _ h => h) (Or.inl ⟨by rfl, ?gY4_5⟩) (by assumption) ?gR4_5; case gY4_5 => (intro w hSw; (try dsimp only at hSw); go_simp <;> with_reducible rfl))
    try simp only [Act.put, List.setIfInBounds_toArray, List.set_cons_zero, List.set_cons_succ]
    (refine wpE_takeP (i := 5) (v := ?gV4_6) (by simp only [List.getElem?_toArray]; rfl) (by kernel_rfl) (by kernel_rfl) (by kernel_rfl) (by rfl) (fun _ _ _ h => h) (Or.inl ⟨by rfl, ?gY4_6⟩) (by assumption) ?gR4_6; case gY4_6 => (intro w hSw; (try dsimp only at hSw); go_simp <;> with_reducible rfl))
    try simp only [Act.put, List.setIfInBounds_toArray, List.set_cons_zero, List.set_cons_succ]
    (refine wpE_takeP (i := 6) (v := ?gV4_7) (by simp only [List.getElem?_toArray]; rfl) (by kernel_rfl) (by kernel_rfl) (by kernel_rfl) (by rfl) (fun _ _ _ h => h) (Or.inl ⟨by rfl, ?gY4_7⟩) (by assumption) ?gR4_7; case gY4_7 => (intro w hSw; (try dsimp only at hSw); go_simp <;> with_reducible rfl))
    try simp only [Act.put, List.setIfInBounds_toArray, List.set_cons_zero, List.set_cons_succ]
    (refine wpE_take (i := 7) (v := ?gV4_8) (by simp only [List.getElem?_toArray]; rfl) (by kernel_rfl) (by kernel_rfl) (by kernel_rfl) (by kernel_rfl) (by kernel_rfl) (by rfl) (fun _ _ _ h => h) (Or.inl ⟨by rfl, ?gY4_8⟩) (by assumption) ?gR4_8; case gY4_8 => (intro w hSw; (try dsimp only at hSw); go_simp <;> with_reducible rfl))
    try simp only [Act.put, List.setIfInBounds_toArray, List.set_cons_zero, List.set_cons_succ]
    refine wpE_ready (rs := [8]) (by kernel_rfl) (by simp) ?_
    refine AllE.cons (by simp only [List.getElem?_toArray]; rfl) (fun K hK => ?_) AllE.nil
    go_simp
    refine hK.out _ _ ?gT4_9 (fun hHeld => ?_)
    case gT4_9 => ((try dsimp only); (refine ⟨?_, ?_, ?_, ?_⟩ <;> go_simp))
    clear hK K
    try simp only [Act.put, List.setIfInBounds_toArray, List.set_cons_zero, List.set_cons_succ]
    (refine wpE_takeP (i := 9) (v := ?gV4_10) (by simp only [List.getElem?_toArray]; rfl) (by kernel_rfl) (by kernel_rfl) (by kernel_rfl) (by rfl) (fun _ _ _ h => h) (Or.inl ⟨by rfl, ?gY4_10⟩) (by assumption) ?gR4_10; case gY4_10 => (intro w hSw; (try dsimp only at hSw); go_simp <;> with_reducible rfl))
    try simp only [Act.put, List.setIfInBounds_toArray, List.set_cons_zero, List.set_cons_succ]
    (refine wpE_takeP (i := 10) (v := ?gV4_11) (by simp only [List.getElem?_toArray]; rfl) (by kernel_rfl) (by kernel_rfl) (by kernel_rfl) (by rfl) (fun _ _ _ h => h) (Or.inl ⟨by rfl, ?gY4_11⟩) (by assumption) ?gR4_11; case gY4_11 => (intro w hSw; (try dsimp only at hSw); go_simp <;> with_reducible rfl))
    try simp only [Act.put, List.setIfInBounds_toArray, List.set_cons_zero, List.set_cons_succ]
    refine wpE_done (by kernel_rfl) ?_ _
    refine NoPanic.normal ?_
    refine gen_e (fun WF hWF => ?_)
    obtain ⟨s0, s1, s2⟩ := set3_cells g40 g41 g42 (v0 := .int .i64 xz) (v1 := .slice A7 L.length c7) (v2 := .slice A8 S.length c8)
    have f0 : WF.cell? ⟨w.heap.size + 1 + 1, 0, none⟩ = some (.int .i64 xz) := by rw [hWF.out]; exact s0
    have f1 : WF.cell? ⟨w.heap.size + 1 + 1, 1, none⟩ = some (.slice A7 L.length c7) := by rw [hWF.out]; exact s1
    have f2 : WF.cell? ⟨w.heap.size + 1 + 1, 2, none⟩ = some (.slice A8 S.length c8) := by rw [hWF.out]; exact s2
    have hBF : Below w.heap.size w WF := by rw [hWF.out]; exact (((Below.own hwW hWW5).setCell (by simp only; omega) _).setCell (by simp only; omega) _).setCell (by simp only; omega) _
    have HNF : Hid (Ow cNode 9 40 WF X0.heap.size (.slice A7 L.length c7) L) := Lib.hid (by rw [hWF.out]; exact (H5.out.nodes.below hWW5).set_low hXs _ _ _)
    have HSF : Hid (Ow cInt 1 3 WF X0.heap.size (.slice A8 S.length c8) S) := Lib.hid (by rw [hWF.out]; exact (H5.out.sess.below hWW5).set_low hXs _ _ _)
    have HVF : Hid (Ow cEvent 2 55 WF X0.heap.size (.slice A9 V.length c9) V) := Lib.hid (by rw [hWF.out]; exact (H5.out.evs.below hWW5).set_low hXs _ _ _)
    clear hWF s0 s1 s2
    go_wp2_with fail
    refine bodyPost_ret (v := .tuple #[.agg #[.int .i64 xz, .slice A7 L.length c7, .slice A8 S.length c8], .slice A9 V.length c9, .int .i64 0]) (by simp [results, Tryd.results23, go_sem, f0, f1, f2]) rfl (HYES2.out _ HNF.out HSF.out HVF.out hBF)
end Go.Proofs.YteolglmifimnaaaDoor

/- package tree: Apply, at every tree and transaction. -/
namespace Go.Proofs.YteolglmifimnaaaDoor
open Go.RowKit Go.ChangeShapes Go.WideShapes Go.ChangeAt
theorem trApply (z : Int) (v v2 : Value) (l : List Node) (ss : List Int) (x : Txn) (w : World) (h : Sl cNode 9 w v l) (h2 : Sl cInt 1 w v2 ss) (hn : l.length * 88 ≤ 140737488355328) (hn2 : (ss.length + 1) * 8 ≤ 140737488355328) (hz : ∀ n ∈ l, n.path.size ≤ 9223372036854775807) (hp : x.path.size ≤ 9223372036854775807) :
    Calls Tryd.prog 23 #[.agg #[.int .i64 z, v, v2], txnV x] w (ApplyRes ⟨z, l, ss⟩ x w) := by
  by_cases hw : wrongE ⟨z, l, ss⟩ x = 0
  · have ho := (goodT_inv (wrong_inv hw).2.1).1
    rcases (by omega : x.op = 1 ∨ x.op = 2 ∨ x.op = 3 ∨ x.op = 4 ∨ x.op = 5) with ho | ho | ho | ho | ho
    · exact trApply_1 z v v2 l ss x w h h2 hn hn2 hz hp hw ho
    · exact trApply_2 z v v2 l ss x w h h2 hn hn2 hz hp hw ho
    · exact trApply_3 z v v2 l ss x w h h2 hn hn2 hz hp hw ho
    · exact trApply_4 z v v2 l ss x w h h2 hn hn2 hz hp hw ho
    · exact trApply_5 z v v2 l ss x w h h2 hn hn2 hz hp hw ho
  · exact trApply_wrong z v v2 l ss x w h h2 (by omega) (by omega) hz hp hw
end Go.Proofs.YteolglmifimnaaaDoor

/- aviarykeep: a tree of its own memory. -/
namespace Go.Proofs.YteolglmifimnaaaDoor
open Go.RowKit Go.ChangeShapes Go.WideShapes Go.ChangeAt
set_option maxHeartbeats 1000000 in
theorem lawOwn (z : Int) (v v2 : Value) (l : List Node) (ss : List Int) (w : World) (h : Sl cNode 9 w v l) (h2 : Sl cInt 1 w v2 ss) (hn : l.length * 88 ≤ 140737488355328) (hn2 : ss.length * 8 ≤ 140737488355328) :
    Calls Tryd.prog 16 #[.agg #[.int .i64 z, v, v2]] w (TrIs ⟨z, l, ss⟩ w) := by
  obtain ⟨A, c, rfl, h1, h1b⟩ := h.form
  obtain ⟨A2, c2, rfl, h3, h3b⟩ := h2.form
  have H := Lib.hid h
  have H2 := Lib.hid h2
  clear h h2
  go_enter Tryd.func16, Tryd.ntmps16
  go_upto_region 1 with fail
  refine wp_region_noPanic ?_
  refine wp_region_W (by kernel_rfl) (fun W hW => ?_)
  have cl0 : W.cell? ⟨w.heap.size, 0, none⟩ = some (.int .i64 z) := by rw [hW.out]; go_simp
  have cl1 : W.cell? ⟨w.heap.size, 1, none⟩ = some (.slice A l.length c) := by rw [hW.out]; go_simp
  have cl2 : W.cell? ⟨w.heap.size, 2, none⟩ = some (.slice A2 ss.length c2) := by rw [hW.out]; go_simp
  have hnW := Lib.hid (H.out.below (w' := W) (by rw [hW.out]; exact (by repeat (first | with_reducible exact Below.refl _ _ | with_reducible assumption | with_reducible exact below_d1 _ _ _ _ _ | with_reducible exact below_d2 _ _ _ _ _ _ _ _ | with_reducible exact below_d3 _ _ _ _ _ | with_reducible exact below_d4 _ _ _ _ _ _ _ _ | with_reducible exact below_d5 _ _ | with_reducible refine Below.drew ?_ | with_reducible refine Below.drewN' ?_ _ | with_reducible refine below_grow0 _ _ ?_ | with_reducible refine below_alloc0 _ ?_ | with_reducible refine Below.setCell ?_ ?_ _ | with_reducible refine Below.alloc ?_ ?_ _ | with_reducible refine Below.grow _ _ _ ?_ ?_ | omega | (simp; done) | (simp; omega)))))
  have hsW := Lib.hid (H2.out.below (w' := W) (by rw [hW.out]; exact (by repeat (first | with_reducible exact Below.refl _ _ | with_reducible assumption | with_reducible exact below_d1 _ _ _ _ _ | with_reducible exact below_d2 _ _ _ _ _ _ _ _ | with_reducible exact below_d3 _ _ _ _ _ | with_reducible exact below_d4 _ _ _ _ _ _ _ _ | with_reducible exact below_d5 _ _ | with_reducible refine Below.drew ?_ | with_reducible refine Below.drewN' ?_ _ | with_reducible refine below_grow0 _ _ ?_ | with_reducible refine below_alloc0 _ ?_ | with_reducible refine Below.setCell ?_ ?_ _ | with_reducible refine Below.alloc ?_ ?_ _ | with_reducible refine Below.grow _ _ _ ?_ ?_ | omega | (simp; done) | (simp; omega)))))
  refine wpAny_S (fun w' => w'.cell? ⟨w.heap.size, 0, none⟩ = some (.int .i64 z) ∧ w'.cell? ⟨w.heap.size, 1, none⟩ = some (.slice A l.length c) ∧ w'.cell? ⟨w.heap.size, 2, none⟩ = some (.slice A2 ss.length c2)) (fun i => i == 7 || i == 9) (by (try dsimp only); (refine ⟨?_, ?_, ?_⟩ <;> go_simp)) (fun hHeld => ?_)
  (refine wpE_takeP (i := 0) (v := ?gV1_1) (by simp only [List.getElem?_toArray]; rfl) (by kernel_rfl) (by kernel_rfl) (by kernel_rfl) (by rfl) (fun _ _ _ h => h) (Or.inl ⟨by rfl, ?gY1_1⟩) (by assumption) ?gR1_1; case gY1_1 => (intro w hSw; (try dsimp only at hSw); go_simp <;> with_reducible rfl))
  try simp only [Act.put, List.setIfInBounds_toArray, List.set_cons_zero, List.set_cons_succ]
  (refine wpE_take (i := 1) (v := ?gV1_2) (by simp only [List.getElem?_toArray]; rfl) (by kernel_rfl) (by kernel_rfl) (by kernel_rfl) (by kernel_rfl) (by kernel_rfl) (by rfl) (fun _ _ _ h => h) (Or.inl ⟨by rfl, ?gY1_2⟩) (by assumption) ?gR1_2; case gY1_2 => (intro w hSw; (try dsimp only at hSw); go_simp <;> with_reducible rfl))
  try simp only [Act.put, List.setIfInBounds_toArray, List.set_cons_zero, List.set_cons_succ]
  (refine wpE_takeP (i := 3) (v := ?gV1_3) (by simp only [List.getElem?_toArray]; rfl) (by kernel_rfl) (by kernel_rfl) (by kernel_rfl) (by rfl) (fun _ _ _ h => h) (Or.inl ⟨by rfl, ?gY1_3⟩) (by assumption) ?gR1_3; case gY1_3 => (intro w hSw; (try dsimp only at hSw); go_simp <;> with_reducible rfl))
  try simp only [Act.put, List.setIfInBounds_toArray, List.set_cons_zero, List.set_cons_succ]
  (refine wpE_take (i := 4) (v := ?gV1_4) (by simp only [List.getElem?_toArray]; rfl) (by kernel_rfl) (by kernel_rfl) (by kernel_rfl) (by kernel_rfl) (by kernel_rfl) (by rfl) (fun _ _ _ h => h) (Or.inl ⟨by rfl, ?gY1_4⟩) (by assumption) ?gR1_4; case gY1_4 => (intro w hSw; (try dsimp only at hSw); go_simp <;> with_reducible rfl))
  try simp only [Act.put, List.setIfInBounds_toArray, List.set_cons_zero, List.set_cons_succ]
  refine wpE_ready (rs := [2]) (by kernel_rfl) (by simp) ?_
  refine AllE.cons (by simp only [List.getElem?_toArray]; rfl) (fun K hK => ?_) AllE.nil
  (refine stepE_app (by rfl) (.const (.slice none 0 0)) (.tmp 4) _ rfl elNode (B := W.heap.size) (v := .slice none 0 0) (l := []) (m := l) rfl rfl (Ow.nil _ _ _ _ _) (hnW.out.below (by repeat (first | with_reducible exact Below.refl _ _ | with_reducible assumption | with_reducible exact below_d1 _ _ _ _ _ | with_reducible exact below_d2 _ _ _ _ _ _ _ _ | with_reducible exact below_d3 _ _ _ _ _ | with_reducible exact below_d4 _ _ _ _ _ _ _ _ | with_reducible exact below_d5 _ _ | with_reducible refine Below.drew ?_ | with_reducible refine Below.drewN' ?_ _ | with_reducible refine below_grow0 _ _ ?_ | with_reducible refine below_alloc0 _ ?_ | with_reducible refine Below.setCell ?_ ?_ _ | with_reducible refine Below.alloc ?_ ?_ _ | with_reducible refine Below.grow _ _ _ ?_ ?_ | omega | (simp; done) | (simp; omega)))) cNode_one (by simp [maxLen]; omega) (by simp; omega) (by simp <;> omega) ?_; intro v2 w2 hown2 hg2 _; rw [List.nil_append] at hown2; obtain ⟨A', c', rfl, _⟩ := hown2.form; obtain ⟨ext1, d1, rfl⟩ := Below.grown_eq _ (Below.of_grown (show World.grownBy _ w2 none from hg2)); have HO := Lib.hid hown2; clear hown2 hg2)
  refine hK.out _ _ ?gT1_5 (fun hHeld => ?_)
  case gT1_5 => ((try dsimp only); (refine ⟨?_, ?_, ?_⟩ <;> go_simp))
  clear hK K
  try simp only [Act.put, List.setIfInBounds_toArray, List.set_cons_zero, List.set_cons_succ]
  (refine wpE_takeP (i := 6) (v := ?gV1_6) (by simp only [List.getElem?_toArray]; rfl) (by kernel_rfl) (by kernel_rfl) (by kernel_rfl) (by rfl) (fun _ _ _ h => h) (Or.inl ⟨by rfl, ?gY1_6⟩) (by assumption) ?gR1_6; case gY1_6 => (intro w hSw; (try dsimp only at hSw); go_simp <;> with_reducible rfl))
  try simp only [Act.put, List.setIfInBounds_toArray, List.set_cons_zero, List.set_cons_succ]
  refine wpE_ready (rs := [5]) (by kernel_rfl) (by simp) ?_
  refine AllE.cons (by simp only [List.getElem?_toArray]; rfl) (fun K hK => ?_) AllE.nil
  (refine stepE_app (by rfl) (.const (.slice none 0 0)) (.tmp 7) _ rfl elInt (B := W.heap.size + ext1.size) (v := .slice none 0 0) (l := []) (m := ss) rfl rfl (Ow.nil _ _ _ _ _) (hsW.out.below (by repeat (first | with_reducible exact Below.refl _ _ | with_reducible assumption | with_reducible exact below_d1 _ _ _ _ _ | with_reducible exact below_d2 _ _ _ _ _ _ _ _ | with_reducible exact below_d3 _ _ _ _ _ | with_reducible exact below_d4 _ _ _ _ _ _ _ _ | with_reducible exact below_d5 _ _ | with_reducible refine Below.drew ?_ | with_reducible refine Below.drewN' ?_ _ | with_reducible refine below_grow0 _ _ ?_ | with_reducible refine below_alloc0 _ ?_ | with_reducible refine Below.setCell ?_ ?_ _ | with_reducible refine Below.alloc ?_ ?_ _ | with_reducible refine Below.grow _ _ _ ?_ ?_ | omega | (simp; done) | (simp; omega)))) cInt_one (by simp [maxLen]; omega) (by simp; omega) (by simp <;> omega) ?_; intro v2 w2 hown2 hg2 _; rw [List.nil_append] at hown2; obtain ⟨A3, c3, rfl, _⟩ := hown2.form; obtain ⟨ext3, d3, rfl⟩ := Below.grown_eq _ (Below.of_grown (show World.grownBy _ w2 none from hg2)); have HO3 := Lib.hid hown2; clear hown2 hg2; have hWW := hW.out; subst hWW)
  refine hK.out _ _ ?gT1_7 (fun hHeld => ?_)
  case gT1_7 => ((try dsimp only); (refine ⟨?_, ?_, ?_⟩ <;> go_simp))
  clear hK K
  try simp only [Act.put, List.setIfInBounds_toArray, List.set_cons_zero, List.set_cons_succ]
  refine wpE_ready (rs := [7]) (by kernel_rfl) (by simp) ?_
  refine AllE.last (by simp only [List.getElem?_toArray]; rfl) (by kernel_rfl) (fun K hK => ?_) AllE.nil
  go_simp
  refine hK.out _ _ ?_
  clear hK K
  try simp only [Act.put, List.setIfInBounds_toArray, List.set_cons_zero, List.set_cons_succ]
  (refine wpE_takeQ (i := 8) (v := ?gV1_9) (by simp only [List.getElem?_toArray]; rfl) (by kernel_rfl) (by kernel_rfl) (by kernel_rfl) (by rfl) (fun _ _ _ h => h) (Or.inl ⟨by rfl, ?gY1_9⟩) (by kernel_rfl) ?gR1_9; case gY1_9 => (intro w hSw; (try dsimp only at hSw); go_simp <;> with_reducible rfl))
  try simp only [Act.put, List.setIfInBounds_toArray, List.set_cons_zero, List.set_cons_succ]
  refine wpE_ready (rs := [9]) (by kernel_rfl) (by simp) ?_
  refine AllE.last (by simp only [List.getElem?_toArray]; rfl) (by kernel_rfl) (fun K hK => ?_) AllE.nil
  go_simp
  refine hK.out _ _ ?_
  clear hK K
  try simp only [Act.put, List.setIfInBounds_toArray, List.set_cons_zero, List.set_cons_succ]
  refine wpE_done (by kernel_rfl) ?_ _
  refine NoPanic.normal ?_
  go_wp2_with fail
  refine bodyPost_ret (v := .agg #[.int .i64 z, .slice A' l.length c', .slice A3 ss.length c3]) (by simp [results, Tryd.results16, go_sem]) rfl ⟨A', c', A3, c3, rfl, ?_, ?_, (by repeat (first | with_reducible exact Below.refl _ _ | with_reducible assumption | with_reducible exact below_d1 _ _ _ _ _ | with_reducible exact below_d2 _ _ _ _ _ _ _ _ | with_reducible exact below_d3 _ _ _ _ _ | with_reducible exact below_d4 _ _ _ _ _ _ _ _ | with_reducible exact below_d5 _ _ | with_reducible refine Below.drew ?_ | with_reducible refine Below.drewN' ?_ _ | with_reducible refine below_grow0 _ _ ?_ | with_reducible refine below_alloc0 _ ?_ | with_reducible refine Below.setCell ?_ ?_ _ | with_reducible refine Below.alloc ?_ ?_ _ | with_reducible refine Below.grow _ _ _ ?_ ?_ | omega | (simp; done) | (simp; omega)))⟩
  · refine Ow.mono (Ow.moved (W' := ?w9) (d' := ?x9) HO.out (Nat.le_refl _) ?b9 ?z9) (by simp <;> omega)
    case b9 => exact (by repeat (first | with_reducible exact Below.refl _ _ | with_reducible assumption | with_reducible exact below_d1 _ _ _ _ _ | with_reducible exact below_d2 _ _ _ _ _ _ _ _ | with_reducible exact below_d3 _ _ _ _ _ | with_reducible exact below_d4 _ _ _ _ _ _ _ _ | with_reducible exact below_d5 _ _ | with_reducible refine Below.drew ?_ | with_reducible refine Below.drewN' ?_ _ | with_reducible refine below_grow0 _ _ ?_ | with_reducible refine below_alloc0 _ ?_ | with_reducible refine Below.setCell ?_ ?_ _ | with_reducible refine Below.alloc ?_ ?_ _ | with_reducible refine Below.grow _ _ _ ?_ ?_ | omega | (simp; done) | (simp; omega)))
    case z9 => simp
  · refine Ow.mono (Ow.moved (W' := ?w8) (d' := ?x8) HO3.out (by simp) ?b8 ?z8) (by simp <;> omega)
    case b8 => exact (by repeat (first | with_reducible exact Below.refl _ _ | with_reducible assumption | with_reducible exact below_d1 _ _ _ _ _ | with_reducible exact below_d2 _ _ _ _ _ _ _ _ | with_reducible exact below_d3 _ _ _ _ _ | with_reducible exact below_d4 _ _ _ _ _ _ _ _ | with_reducible exact below_d5 _ _ | with_reducible refine Below.drew ?_ | with_reducible refine Below.drewN' ?_ _ | with_reducible refine below_grow0 _ _ ?_ | with_reducible refine below_alloc0 _ ?_ | with_reducible refine Below.setCell ?_ ?_ _ | with_reducible refine Below.alloc ?_ ?_ _ | with_reducible refine Below.grow _ _ _ ?_ ?_ | omega | (simp; done) | (simp; omega)))
    case z8 => simp
end Go.Proofs.YteolglmifimnaaaDoor

/- aviarykeep: does tree answer at all? -/
namespace Go.Proofs.YteolglmifimnaaaDoor
open Go.RowKit Go.ChangeShapes Go.WideShapes Go.ChangeAt
def openT : Txn := ⟨1, 1, 1, ⟨#[]⟩, ⟨#[]⟩, 0, 0⟩
theorem openingT (w : World) : Calls Tryd.prog 42 #[] w fun e w' => e = .returned (txnV openT) ∧ Below w.heap.size w w' := by
  go_enter Tryd.func42, Tryd.ntmps42
  go_wp2_with fail
  refine bodyPost_ret (v := .agg #[.int .i64 1, .int .i64 1, .int .i64 1, .string ⟨#[]⟩, .string ⟨#[]⟩, .int .i64 0, .int .i64 0]) (by simp [results, Tryd.results42, go_sem]) rfl ⟨rfl, (by repeat (first | with_reducible exact Below.refl _ _ | with_reducible assumption | with_reducible exact below_d1 _ _ _ _ _ | with_reducible exact below_d2 _ _ _ _ _ _ _ _ | with_reducible exact below_d3 _ _ _ _ _ | with_reducible exact below_d4 _ _ _ _ _ _ _ _ | with_reducible exact below_d5 _ _ | with_reducible refine Below.drew ?_ | with_reducible refine Below.drewN' ?_ _ | with_reducible refine below_grow0 _ _ ?_ | with_reducible refine below_alloc0 _ ?_ | with_reducible refine Below.setCell ?_ ?_ _ | with_reducible refine Below.alloc ?_ ?_ _ | with_reducible refine Below.grow _ _ _ ?_ ?_ | omega | (simp; done) | (simp; omega)))⟩
theorem goodT_open : goodT openT = 0 := by
  unfold openT goodT
  rw [ByteArray.toList_eq]
  decide
theorem applyE_open : applyE newTr openT = 0 := by
  have hw : wrongE newTr openT = 0 := by
    unfold wrongE
    rw [new_good, goodT_open]
    rfl
  unfold applyE
  rw [if_pos hw]
  rfl
theorem applyT_open : applyT newTr openT = ⟨1, [rootN], [1]⟩ ∧ applyV newTr openT = [] := by
  obtain ⟨h1, h2⟩ := applyT_0 applyE_open
  rw [h1, h2]
  exact ⟨rfl, rfl⟩
set_option maxHeartbeats 1000000 in
theorem grows_is (w : World) : Calls Tryd.prog 22 #[] w fun e w' => e = .returned (.bool true) ∧ Below w.heap.size w w' := by
  have HAP := Lib.hid (fun (W : World) (v : Value) (h : Sl cNode 9 W v [rootN]) => by
    have := trApply 0 v (.slice none 0 0) [rootN] [] openT W h (Sl.nil _ _ _) (by simp) (by simp) (by intro n hn; rw [List.mem_singleton.1 hn]; decide) (by decide)
    unfold ApplyRes at this
    rw [show (⟨0, [rootN], []⟩ : Tr) = newTr from rfl, applyT_open.1, applyT_open.2, applyE_open] at this
    exact this)
  have HOP := Lib.hid (fun (W : World) (v2 : Value) (na : Option Addr) (nn nc : Nat) (h : Sl cInt 1 W v2 [1]) => trOpen 1 v2 na nn nc [1] 1 W h (by simp))
  rw [show isI [1] 1 = true from rfl] at HOP
  unfold txnV openT at HAP
  have HO := Lib.hid (fun (W : World) => openingT W)
  unfold txnV openT at HO
  go_enter Tryd.func22, Tryd.ntmps22
  go_wp2_with (first | (go_at_call 28; go_loud (refine (treeNew _).mono ?_; rintro e w1 ⟨A, c, rfl, ho, hb⟩; obtain ⟨ext1, d1, rfl⟩ := Below.grown_eq _ hb; have HO1 := Lib.hid ho.sl; clear ho hb)) | (go_at_call 42; refine (HO.out _).mono ?_; rintro e w1 ⟨rfl, hb⟩; obtain ⟨ext2, d2, rfl⟩ := Below.grown_eq _ hb; clear hb) | (go_at_call 23; go_loud (refine (HAP.out _ _ (HO1.out.below (by repeat (first | with_reducible exact Below.refl _ _ | with_reducible assumption | with_reducible exact below_d1 _ _ _ _ _ | with_reducible exact below_d2 _ _ _ _ _ _ _ _ | with_reducible exact below_d3 _ _ _ _ _ | with_reducible exact below_d4 _ _ _ _ _ _ _ _ | with_reducible exact below_d5 _ _ | with_reducible refine Below.drew ?_ | with_reducible refine Below.drewN' ?_ _ | with_reducible refine below_grow0 _ _ ?_ | with_reducible refine below_alloc0 _ ?_ | with_reducible refine Below.setCell ?_ ?_ _ | with_reducible refine Below.alloc ?_ ?_ _ | with_reducible refine Below.grow _ _ _ ?_ ?_ | omega | (simp; done) | (simp; omega))))).mono ?_; rintro e w3 ⟨nv, sv, vv, rfl, hn, hs, hv, hb⟩; obtain ⟨A3, c3, rfl, _⟩ := hn.form; obtain ⟨A4, c4, rfl, _⟩ := hs.form; obtain ⟨A5, c5, rfl, _⟩ := hv.form; have HS := Lib.hid hs.sl; obtain ⟨ext3, d3, rfl⟩ := Below.grown_eq _ hb; clear hn hs hv hb)) | (go_at_call 24; go_loud (refine (HOP.out _ _ _ _ _ (HS.out.below (by repeat (first | with_reducible exact Below.refl _ _ | with_reducible assumption | with_reducible exact below_d1 _ _ _ _ _ | with_reducible exact below_d2 _ _ _ _ _ _ _ _ | with_reducible exact below_d3 _ _ _ _ _ | with_reducible exact below_d4 _ _ _ _ _ _ _ _ | with_reducible exact below_d5 _ _ | with_reducible refine Below.drew ?_ | with_reducible refine Below.drewN' ?_ _ | with_reducible refine below_grow0 _ _ ?_ | with_reducible refine below_alloc0 _ ?_ | with_reducible refine Below.setCell ?_ ?_ _ | with_reducible refine Below.alloc ?_ ?_ _ | with_reducible refine Below.grow _ _ _ ?_ ?_ | omega | (simp; done) | (simp; omega))))).mono ?_; rintro e w4 ⟨rfl, hb⟩; obtain ⟨ext4, d4, rfl⟩ := Below.grown_eq _ hb; clear hb)))
  go_ret
  exact ⟨rfl, (by repeat (first | with_reducible exact Below.refl _ _ | with_reducible assumption | with_reducible exact below_d1 _ _ _ _ _ | with_reducible exact below_d2 _ _ _ _ _ _ _ _ | with_reducible exact below_d3 _ _ _ _ _ | with_reducible exact below_d4 _ _ _ _ _ _ _ _ | with_reducible exact below_d5 _ _ | with_reducible refine Below.drew ?_ | with_reducible refine Below.drewN' ?_ _ | with_reducible refine below_grow0 _ _ ?_ | with_reducible refine below_alloc0 _ ?_ | with_reducible refine Below.setCell ?_ ?_ _ | with_reducible refine Below.alloc ?_ ?_ _ | with_reducible refine Below.grow _ _ _ ?_ ?_ | omega | (simp; done) | (simp; omega)))⟩
end Go.Proofs.YteolglmifimnaaaDoor

/- Arguments that hold slices in structs, or slices of slices: what a reading says of them, down to the leaves. No program is in sight but by variable. -/
namespace Go.Proofs.YteolglmifimnaaaDoor
open Go.RowKit Go.ChangeShapes Go.WideShapes Go.Deep
set_option linter.unusedVariables false
/-- cells of a type, down to 'n' levels -/
def Deep (P : Program) (w : World) : Nat → TypeId → List Value → Prop
  | 0, _, _ => True
  | n + 1, t, cs => match P.underlying t with
    | some .bool => ∃ b, cs = [.bool b]
    | some (.int k) => ∃ m, cs = [.int k m] ∧ (Lit.int k m).wf = true
    | some .string => ∃ s : ByteArray, cs = [.string s] ∧ s.size ≤ reachBytes
    | some (.struct fs) => cs.length = P.cellsOf t ∧ ∀ (i : Nat) (f : Field), fs[i]? = some f → Deep P w n f.type ((cs.drop f.offset).take (P.cellsOf f.type))
    | some (.slice e) => ∃ v xs, cs = [v] ∧ (0 < P.cellsOf e → Row w (P.cellsOf e) v xs) ∧ xs.length * P.bytesOf e ≤ reachBytes ∧ ∀ x ∈ xs, Deep P w n e x
    | _ => True
section
variable {H : Type} {enc : TypeId × Value → H} {P : Program} {w : World} {spare : Nat → Bool} {held : Bool}
theorem weightsAll_mem {e : TypeId} : ∀ {l : List (DataW H)} {d : DataW H}, d ∈ l → ∀ m ∈ d.weights P e, m ∈ DataW.weightsAll P e l
  | x :: l, d, h, m, hm => by
    simp only [DataW.weightsAll, List.mem_append]
    rcases List.mem_cons.1 h with rfl | h
    · exact .inl hm
    · exact .inr (weightsAll_mem h m hm)
/-- a row of cells, element by element -/
theorem row_of_cells {e : TypeId} {a : Addr} {len cap : Nat} {Q : List Value → Prop} (h0 : 0 < P.cellsOf e) (hl : len ≤ cap) (hm : cap ≤ maxLen) (ha : 0 < len → a.block < w.heap.size)
    (hex : ∀ i, i < len → ∃ cs', w.cells? 0 (a.add (i * P.cellsOf e)) (P.cellsOf e) = some cs' ∧ Q cs') :
    ∃ xs : List (List Value), xs.length = len ∧ Row w (P.cellsOf e) (.slice (some a) len cap) xs ∧ ∀ x ∈ xs, Q x := by
  have hch : ∃ g : Nat → List Value, ∀ i, i < len → w.cells? 0 (a.add (i * P.cellsOf e)) (P.cellsOf e) = some (g i) ∧ Q (g i) :=
    ⟨fun i => if h : i < len then Classical.choose (hex i h) else [], fun i hil => by simp only [hil, dif_pos]; exact Classical.choose_spec (hex i hil)⟩
  obtain ⟨g, hg⟩ := hch
  have hg1 : ∀ i, i < len → (g i).length = P.cellsOf e ∧ ∀ j u, (g i)[j]? = some u → w.cell? (a.add (i * P.cellsOf e + j)) = some u := by
    intro i hi
    obtain ⟨_, hcl, hat⟩ := World.cells?_some (hg i hi).1
    refine ⟨hcl, fun j u hu => ?_⟩
    have hj : j < P.cellsOf e := by have := (List.getElem?_eq_some_iff.1 hu).1; omega
    rw [← Go.Deep.add_add, hat j hj, hu]
  refine ⟨(List.range len).map g, by simp, ⟨some a, cap, by simp, by simpa using hl, hm, ?_, ?_⟩, ?_⟩
  · intro x hx
    simp at hx
    obtain ⟨i, hil, rfl⟩ := hx
    exact (hg1 i hil).1
  · intro hpos
    simp at hpos
    have h00 : ∃ u, w.cell? a = some u := by
      obtain ⟨h01, h02⟩ := hg1 0 hpos
      have hu : (g 0)[0]? = some ((g 0)[0]'(by omega)) := List.getElem?_eq_getElem _
      exact ⟨_, by simpa [add_zero'] using h02 0 _ hu⟩
    obtain ⟨u0, hu0⟩ := h00
    have hsp := spot_none hu0
    refine ⟨a.block, a.off, by rw [← hsp], ha hpos, ?_⟩
    intro i x hx j u hu
    have hil : i < len := by have := (List.getElem?_eq_some_iff.1 hx).1; simpa using this
    simp [hil] at hx
    subst hx
    have := (hg1 i hil).2 j u hu
    rw [hsp] at this
    have hadd : (⟨a.block, a.off, none⟩ : Addr).add (i * P.cellsOf e + j) = ⟨a.block, a.off + i * P.cellsOf e + j, none⟩ := by
      unfold Addr.add
      split
      · rename_i h0'; rw [Nat.add_assoc, h0']; rfl
      · rw [Nat.add_assoc]
    rwa [hadd] at this
  · intro x hx
    simp at hx
    obtain ⟨i, hil, rfl⟩ := hx
    exact (hg i hil).2
theorem deep_trod : ∀ (n : Nat) {t : TypeId} {fuel : Nat} {cs : List Value} {d : DataW H} {pl : List MemPlace}, DataW.trod enc P w 0 spare held fuel t cs = some (d, pl) →
    (∀ m ∈ d.weights P t, m ≤ reachBytes) → Deep P w n t cs
  | 0, _, _, _, _, _, _, _ => trivial
  | n + 1, t, fuel, cs, d, pl, hx, hw => by
    unfold Deep
    split
    · rename_i hu
      obtain ⟨b, rfl, _⟩ := DataW.trod_bool hu hx
      exact ⟨b, rfl⟩
    · rename_i k hu
      obtain ⟨m, rfl, _, hm⟩ := DataW.trod_int hu hx
      exact ⟨m, rfl, hm⟩
    · rename_i hu
      obtain ⟨s, rfl, hd, hm⟩ := DataW.trod_string hu hx
      injection hd with hd _
      subst hd
      exact ⟨s, rfl, by simpa [DataW.weights] using hw⟩
    · rename_i fs hu
      obtain ⟨xs, m, _, hd, hlen, hxl, hf⟩ := DataW.trod_struct hu hx
      injection hd with hd _
      subst hd
      refine ⟨hlen, fun i f hif => ?_⟩
      have hi : i < xs.length := by have := (Array.getElem?_eq_some_iff.1 hif).1; omega
      have hy : xs[i]? = some xs[i] := List.getElem?_eq_getElem hi
      have h1 := hf i f hif
      rw [hy] at h1
      refine deep_trod n (d := xs[i].1) (pl := xs[i].2) h1 fun m hm => hw m ?_
      simp only [DataW.weights, hu]
      exact DataW.weights_mem_each (j := i) (t := f.type) (d := xs[i].1) (by simp [hif]) (by simp [hy]) m hm
    · rename_i e hu
      rcases Go.Deep.open_slice hu hx with ⟨rfl, hx'⟩ | ⟨a, len, cap, m, fu, D, Pl, rfl, _, hl, hm, hmm, hx', hi⟩
      · exact ⟨_, [], rfl, fun _ => Row.nil _ _, by simp, by simp⟩
      · injection hx' with hd hpl
        subst hd
        have hml : len ≤ m := by rw [hmm]; split <;> omega
        have hwt : (len + (m - len)) * P.bytesOf e ≤ reachBytes := hw _ (by simp [DataW.weights, hu])
        have hwt' : len * P.bytesOf e ≤ reachBytes := Nat.le_trans (Nat.mul_le_mul_right _ (Nat.le_add_right _ _)) hwt
        have hel : ∀ i, i < len → ∃ cs', w.cells? 0 (a.add (i * P.cellsOf e)) (P.cellsOf e) = some cs' ∧ Deep P w n e cs' := by
          intro i hil
          obtain ⟨cs', hc', ht'⟩ := hi i (by omega)
          refine ⟨cs', hc', deep_trod n ht' fun q hq => hw q ?_⟩
          simp only [DataW.weights, hu]
          refine List.mem_cons_of_mem _ (List.mem_append.2 (.inl ?_))
          exact weightsAll_mem (List.mem_map.2 ⟨i, List.mem_range.2 hil, rfl⟩) q hq
        by_cases h0 : 0 < P.cellsOf e
        · have hb : 0 < len → a.block < w.heap.size := by
            intro hpos
            have hp : MemPlace.cell a.block a.off ∈ pl := by
              rw [hpl]
              refine List.mem_append.2 (.inl ?_)
              have hpos' : 0 < m * P.cellsOf e := Nat.mul_pos (by omega) h0
              simp only [MemPlace.row, List.mem_map, List.mem_range]
              exact ⟨0, hpos', by simp⟩
            exact DataW.trod_lt _ _ _ _ hx _ hp
          obtain ⟨xs, hxs, hrow, hall⟩ := row_of_cells h0 hl hm hb hel
          exact ⟨_, xs, rfl, fun _ => hrow, by rw [hxs]; exact hwt', hall⟩
        · exact ⟨_, [], rfl, fun h => absurd h h0, by simp, by simp⟩
    · trivial
/-- an argument -/
theorem open_deep {t : TypeId} {v : Value} {d : DataW H} {p : List MemPlace} (n : Nat) (h : DataW.Trod enc P w 0 spare held t v d p) (hw : ∀ m ∈ d.weights P t, m ≤ reachBytes) : Deep P w n t v.cells.toList := by
  obtain ⟨fuel, hf⟩ := h
  exact deep_trod n hf hw
theorem sized_arg {ts : List TypeId} {ds : List (DataW H)} (h : (DataW.weightsEach P ts ds).all (· ≤ reachBytes) = true) (j : Nat) {t : TypeId} {d : DataW H} (ht : ts[j]? = some t) (hd : ds[j]? = some d) :
    ∀ m ∈ d.weights P t, m ≤ reachBytes := fun m hm => by
  have := List.all_eq_true.1 h _ (DataW.weights_mem_each ht hd m hm)
  simpa using this
end
section
variable {P : Program} {w : World} {n : Nat} {t : TypeId} {cs : List Value}
theorem deep_int {k : IntKind} (hu : P.underlying t = some (.int k)) (h : Deep P w (n + 1) t cs) : ∃ m, cs = [.int k m] ∧ (Lit.int k m).wf = true := by unfold Deep at h; rw [hu] at h; exact h
theorem deep_bool (hu : P.underlying t = some .bool) (h : Deep P w (n + 1) t cs) : ∃ b, cs = [.bool b] := by unfold Deep at h; rw [hu] at h; exact h
theorem deep_string (hu : P.underlying t = some .string) (h : Deep P w (n + 1) t cs) : ∃ s : ByteArray, cs = [.string s] ∧ s.size ≤ reachBytes := by unfold Deep at h; rw [hu] at h; exact h
theorem deep_struct {fs : Array Field} (hu : P.underlying t = some (.struct fs)) (h : Deep P w (n + 1) t cs) : cs.length = P.cellsOf t ∧ ∀ (i : Nat) (f : Field), fs[i]? = some f → Deep P w n f.type ((cs.drop f.offset).take (P.cellsOf f.type)) := by unfold Deep at h; rw [hu] at h; exact h
theorem deep_slice {e : TypeId} (hu : P.underlying t = some (.slice e)) (h : Deep P w (n + 1) t cs) : ∃ v xs, cs = [v] ∧ (0 < P.cellsOf e → Row w (P.cellsOf e) v xs) ∧ xs.length * P.bytesOf e ≤ reachBytes ∧ ∀ x ∈ xs, Deep P w n e x := by unfold Deep at h; rw [hu] at h; exact h
end
theorem deep_at {P : Program} {w : World} {n : Nat} {cs : List Value} {fs : Array Field} (hf : ∀ (i : Nat) (f : Field), fs[i]? = some f → Deep P w n f.type ((cs.drop f.offset).take (P.cellsOf f.type))) (i : Nat) (t : TypeId) (off c : Nat)
    (ht : (fs[i]?).map (fun f => (f.type, f.offset)) = some (t, off)) (hc : P.cellsOf t = c) : Deep P w n t ((cs.drop off).take c) := by
  simp only [Option.map_eq_some_iff, Prod.mk.injEq] at ht
  obtain ⟨f, h0, rfl, rfl⟩ := ht
  subst hc
  exact hf i f h0
/-- what is flat fits its kinds -/
theorem deep_fits {P : Program} {w : World} : ∀ (n : Nat) {t : TypeId} {ks : List Kd} {cs : List Value}, flat P n t = some ks → Deep P w n t cs → Fits ks cs
  | 0, _, _, _, h, _ => by simp [flat] at h
  | n + 1, t, ks, cs, h, hd => by
    unfold flat at h
    split at h
    · rename_i hu
      obtain ⟨b, rfl⟩ := deep_bool hu hd
      split at h
      · simp at h; subst h; exact ⟨⟨b, rfl⟩, trivial⟩
      · simp at h
    · rename_i k hu
      obtain ⟨m, rfl, hm⟩ := deep_int hu hd
      split at h
      · simp at h; subst h; exact ⟨⟨m, rfl, hm⟩, trivial⟩
      · simp at h
    · rename_i hu
      obtain ⟨m, rfl, hm⟩ := deep_string hu hd
      split at h
      · simp at h; subst h; exact ⟨⟨m, rfl, Nat.le_trans hm (by decide)⟩, trivial⟩
      · simp at h
    · rename_i fs hu
      obtain ⟨hlen, hf⟩ := deep_struct hu hd
      split at h
      · rename_i ls hls
        split at h
        · rename_i hc
          simp only [Option.some.injEq] at h
          subst h
          have key : ∀ (l : List Field) (k off : Nat) (qs : List Kd), (∀ i f, l[i]? = some f → fs[k + i]? = some f) → flatAll (flat P n) off l = some qs → off + qs.length = cs.length → Fits qs (cs.drop off) := by
            intro l
            induction l with
            | nil =>
              intro k off qs _ hq ho
              simp [flatAll] at hq
              subst hq
              simp at ho
              rw [List.drop_eq_nil_of_le (by omega)]
              trivial
            | cons f l ih =>
              intro k off qs hi hq ho
              simp only [flatAll] at hq
              split at hq
              · rename_i rs hr
                split at hq
                · rename_i hoff
                  simp only [Option.map_eq_some_iff] at hq
                  obtain ⟨ts, hts, rfl⟩ := hq
                  have hcf := flat_length n hr
                  have h0 := hi 0 f rfl
                  rw [Nat.add_zero] at h0
                  have hfk := hf k f h0
                  rw [hoff, hcf] at hfk
                  have hfit := deep_fits n hr hfk
                  have hrest := ih (k + 1) (off + rs.length) ts (fun i g hg => by have := hi (i + 1) g (by simpa using hg); rwa [show k + 1 + i = k + (i + 1) from by omega]) hts (by simp at ho; omega)
                  have hsplit : cs.drop off = (cs.drop off).take rs.length ++ cs.drop (off + rs.length) := by
                    rw [← List.drop_drop, List.take_append_drop]
                  rw [hsplit]
                  exact hfit.append hrest
                · simp at hq
              · simp at hq
          simpa using key fs.toList 0 0 ls (fun i f hi => by simpa using hi) hls (by simp [hlen, hc])
        · simp at h
      · simp at h
    · simp at h
/-- a slice of flat elements within -/
theorem deep_flats {P : Program} {w : World} {n : Nat} {t e : TypeId} {cs : List Value} {ks : List Kd} (hu : P.underlying t = some (.slice e)) (hk : flat P n e = some ks) (h0 : 0 < ks.length) (h : Deep P w (n + 1) t cs) :
    ∃ v xs, cs = [v] ∧ Row w ks.length v xs ∧ xs.length * P.bytesOf e ≤ reachBytes ∧ ∀ x ∈ xs, Fits ks x := by
  obtain ⟨v, xs, rfl, hr, hb, hx⟩ := deep_slice hu h
  rw [flat_length n hk] at hr
  exact ⟨v, xs, rfl, hr h0, hb, fun x hxm => deep_fits n hk (hx x hxm)⟩
end Go.Proofs.YteolglmifimnaaaDoor

/- A tree that comes from outside, opened. -/
namespace Go.Proofs.YteolglmifimnaaaDoor
open Go.RowKit Go.ChangeShapes Go.WideShapes Go.ChangeAt
set_option maxRecDepth 100000 in
theorem open_tree {w : World} {n : Nat} {cs : List Value} (h : Deep Tryd.prog w (n + 10) 25 cs) : ∃ (z : Int) (v v2 : Value) (l : List Node) (ss : List Int), cs = [.int .i64 z, v, v2] ∧ Sl cNode 9 w v l ∧ Sl cInt 1 w v2 ss ∧ (∀ n ∈ l, n.path.size ≤ 9223372036854775807) ∧ l.length * 88 ≤ 140737488355328 ∧ ss.length * 8 ≤ 140737488351232 := by
  obtain ⟨hl, hf⟩ := deep_struct Tryd.underlying25 h
  rw [show Tryd.prog.cellsOf 25 = 3 from by kernel_rfl] at hl
  obtain ⟨c0, c1, c2, rfl⟩ : ∃ a b c, cs = [a, b, c] := by
    rcases cs with _ | ⟨a, _ | ⟨b, _ | ⟨c, _ | ⟨d, cs⟩⟩⟩⟩ <;> simp at hl
    exact ⟨a, b, c, rfl⟩
  obtain ⟨z, e0, _⟩ := deep_int Tryd.underlying3 (deep_at hf 0 3 0 1 rfl (by kernel_rfl))
  obtain ⟨v, xs, e1, hr, hb, hx⟩ := deep_flats (ks := [.s, .s, .i .i64, .i .i64, .i .i64, .i .i64, .i .i64, .i .i64, .i .i64]) Tryd.underlying22 (by kernel_rfl) (by decide) (deep_at hf 1 22 1 1 rfl (by kernel_rfl))
  obtain ⟨v2, xs2, e2, hr2, hb2, hx2⟩ := deep_flats (ks := [.i .i64]) Tryd.underlying23 (by kernel_rfl) (by decide) (deep_at hf 2 23 2 1 rfl (by kernel_rfl))
  simp only [List.drop_zero, List.drop_succ_cons, List.take_succ_cons, List.take_zero, List.cons.injEq, and_true] at e0 e1 e2
  subst e0 e1 e2
  rw [show Tryd.prog.bytesOf 40 = 88 from by kernel_rfl] at hb
  rw [show Tryd.prog.bytesOf 3 = 8 from by kernel_rfl] at hb2
  obtain ⟨l, rfl, hz⟩ := typed (fun x hxm => fitsNode (hx x hxm))
  obtain ⟨ss, rfl, _⟩ := typed (fun x hxm => fits_int (hx2 x hxm))
  simp only [List.length_map, reachBytes] at hb hb2
  exact ⟨z, c1, c2, l, ss, rfl, hr, hr2, fun n hn => Nat.le_trans (hz n hn).1 (by decide), by omega, by omega⟩
end Go.Proofs.YteolglmifimnaaaDoor

/- The tree laws: what 'a, events, e := tree.Apply(own(t), x)' leaves. -/
namespace Go.Proofs.YteolglmifimnaaaDoor
open Go.RowKit Go.ChangeShapes Go.WideShapes Go.ChangeAt
/-- the tree in a box of its own, the events, the error -/
def CutE (W : World) (T : Tr) (V : List Event) (E : Int) (s5 s6 s7 : Value) (wx : World) : Prop :=
  ∃ (b : Nat) (A : Option Addr) (c : Nat) (A2 : Option Addr) (c2 : Nat) (A3 : Option Addr) (c3 : Nat), s5 = .pointer (some ⟨b, 0, none⟩) ∧ s6 = .slice A3 V.length c3 ∧ s7 = .int .i64 E ∧ Below W.heap.size W wx ∧ W.heap.size ≤ b ∧ b < wx.heap.size ∧ wx.cell? ⟨b, 0, none⟩ = some (.int .i64 T.zxid) ∧
    wx.cell? ⟨b, 1, none⟩ = some (.slice A T.nodes.length c) ∧ wx.cell? ⟨b, 2, none⟩ = some (.slice A2 T.sess.length c2) ∧ Hid (Sl cNode 9 wx (.slice A T.nodes.length c) T.nodes) ∧ Hid (Sl cInt 1 wx (.slice A2 T.sess.length c2) T.sess) ∧ Hid (Sl cEvent 2 wx (.slice A3 V.length c3) V)
theorem newCell {X : World} {cs : Array Value} {ty : TypeId} {n i : Nat} {v : Value} (hn : n = X.heap.size) (h : cs.toList[i]? = some v) : (X.alloc (.cells cs ty)).cell? ⟨n, i, none⟩ = some v := ((Bk.new X cs ty hn).cell i).trans h
end Go.Proofs.YteolglmifimnaaaDoor
