/- Lemmas for the statement: Apply5, Apply, PrepV, Serial, SerL, PrepL, PrepC, LawTree, Grows, TreeArg, LawCut. -/
import Derived.Deep.DeepCutAuto
import Derived.Test.YtchgpijfebilbaaGreatDoorPt1
import Derived.Test.YtchgpijfebilbaaGreatDoorPt2
import Derived.Test.YtchgpijfebilbaaGreatDoorPt3
import Derived.Test.YtchgpijfebilbaaGreatDoorPt4
import Derived.Test.YtchgpijfebilbaaGreatDoorPt5
import Derived.Test.YtchgpijfebilbaaGreatDoorPt6
import Derived.Test.YtchgpijfebilbaaGreatDoorPt7
import Derived.Test.YtchgpijfebilbaaGreatDoorPt8
import Derived.Test.YtchgpijfebilbaaGreatDoorPt9
import Derived.Test.YtchgpijfebilbaaGreatDoorPt10
/- package tree: Apply, at a setting. -/
namespace Go.Proofs.YtchgpijfebilbaaGreatDoor
open Go.RowKit Go.ChangeShapes Go.WideShapes Go.ChangeAt
set_option maxRecDepth 100000 in
set_option maxHeartbeats 10000000 in
theorem trApply_5 (z : Int) (v v2 : Value) (l : List Node) (ss : List Int) (x : Txn) (w : World) (h : Sl cNode 9 w v l) (h2 : Sl cInt 1 w v2 ss) (hn : l.length * 88 ≤ 140737488355328) (hn2 : (ss.length + 1) * 8 ≤ 140737488355328) (hz : ∀ n ∈ l, n.path.size ≤ 9223372036854775807) (hp : x.path.size ≤ 9223372036854775807)
    (hw : wrongE ⟨z, l, ss⟩ x = 0) (hop : x.op = 5) : Calls Tryz.prog 13 #[.agg #[.int .i64 z, v, v2], txnV x] w (ApplyRes ⟨z, l, ss⟩ x w) := by
  obtain ⟨A, c, rfl, h1, h1b⟩ := h.form
  obtain ⟨A2, c2, rfl, h3, h3b⟩ := h2.form
  have HV := Lib.hid h
  have HS := Lib.hid h2
  have HWR := Lib.hid (fun (W : World) (h : Sl cNode 9 W (.slice A l.length c) l) (h2 : Sl cInt 1 W (.slice A2 ss.length c2) ss) => trWrong z (.slice A l.length c) (.slice A2 ss.length c2) l ss x W h h2 (by omega) (by omega) hz hp)
  rw [hw] at HWR
  have HCP := Lib.hid (fun (W : World) (h : Sl cNode 9 W (.slice A l.length c) l) (h2 : Sl cInt 1 W (.slice A2 ss.length c2) ss) => trCopied ⟨z, l, ss⟩ (.slice A l.length c) (.slice A2 ss.length c2) W h h2 hn (by simp only; omega))
  obtain ⟨hgt, hgx, hzx, wi1, wi2, wi3, wi4, wi5⟩ := wrong_inv hw
  obtain ⟨hgw, hgf⟩ := good_parts hgt
  have HGW := Lib.hid hgw
  have HGF := Lib.hid (full_no.1 hgf)
  have hl4 : l.length ≤ 400 := hgw.len
  have HLEN := Lib.hid (apply_goodW hw).len
  have HYES := Lib.hid (fun (W w' : World) (b : Nat) (L : List Node) (S : List Int) (V : List Event) (nv sv vv : Value) (B : Nat) (hf : fullB L = false) (hL : doN ⟨z, l, ss⟩ x = L) (hS : doS ⟨z, l, ss⟩ x = S) (hV : doV ⟨z, l, ss⟩ x = V) (h : Hand W B b ⟨x.zxid, L, S⟩ V nv sv vv) (hB : w.heap.size ≤ B) (hn : Ow cNode 9 68 w' B nv L) (hs : Ow cInt 1 3 w' B sv S) (hv : Ow cEvent 2 84 w' B vv V) (hb : Below w.heap.size w w') => applyRes_yes hw hf hL hS hV h hB hn hs hv hb)
  have HNO := Lib.hid (fun (w' : World) (hf : fullB (doN ⟨z, l, ss⟩ x) = true) (hb : Below w.heap.size w w') => applyRes_no (full_err hw hf) (by decide) hb)
  clear h h2 hgt hgw hgf
  obtain ⟨xz, xo, xs, xp, xd, xv, xw⟩ := x
  simp only at *
  subst hop
  have HWI := Lib.hid (wi5 rfl).1
  clear wi1 wi2 wi3 wi4 wi5
  go_enter Tryz.func13, Tryz.ntmps13
  go_upto_region 5 with (first | (go_at_call 19; refine (HWR.out _ (HV.out.below (by repeat (first | with_reducible (first | exact bA .. | assumption | exact bJ .. | exact bK .. | exact bL .. | exact bM .. | exact bN .. | refine bB ?_ | refine bC ?_ _ | refine bD _ _ ?_ | refine bE _ ?_ | refine bF ?_ ?_ _ | refine bG ?_ ?_ _ | refine bH _ _ _ ?_ ?_) | omega | (simp; done) | (simp; omega)))) (HS.out.below (by repeat (first | with_reducible (first | exact bA .. | assumption | exact bJ .. | exact bK .. | exact bL .. | exact bM .. | exact bN .. | refine bB ?_ | refine bC ?_ _ | refine bD _ _ ?_ | refine bE _ ?_ | refine bF ?_ ?_ _ | refine bG ?_ ?_ _ | refine bH _ _ _ ?_ ?_) | omega | (simp; done) | (simp; omega))))).mono ?_; rintro e w1 ⟨rfl, hb⟩; obtain ⟨ext1, d1, rfl⟩ := Below.grown_eq _ hb; clear hb) | (go_at_call 20; refine (HCP.out _ (HV.out.below (by repeat (first | with_reducible (first | exact bA .. | assumption | exact bJ .. | exact bK .. | exact bL .. | exact bM .. | exact bN .. | refine bB ?_ | refine bC ?_ _ | refine bD _ _ ?_ | refine bE _ ?_ | refine bF ?_ ?_ _ | refine bG ?_ ?_ _ | refine bH _ _ _ ?_ ?_) | omega | (simp; done) | (simp; omega)))) (HS.out.below (by repeat (first | with_reducible (first | exact bA .. | assumption | exact bJ .. | exact bK .. | exact bL .. | exact bM .. | exact bN .. | refine bB ?_ | refine bC ?_ _ | refine bD _ _ ?_ | refine bE _ ?_ | refine bF ?_ ?_ _ | refine bG ?_ ?_ _ | refine bH _ _ _ ?_ ?_) | omega | (simp; done) | (simp; omega))))).mono ?_; rintro e w2 hT; obtain ⟨X0, hX0, A5, c5, A6, c6, rfl, ho5, ho6, hb⟩ := packW (P := fun X => TrIs ⟨z, l, ss⟩ X e w2) hT; have HO5 := Lib.hid ho5; have HO6 := Lib.hid ho6; clear ho5 ho6 hT; have HB2 := Lib.hid hb; clear hb))
  have hwX : Below w.heap.size w X0 := by rw [hX0.out]; exact (by repeat (first | with_reducible (first | exact bA .. | assumption | exact bJ .. | exact bK .. | exact bL .. | exact bM .. | exact bN .. | refine bB ?_ | refine bC ?_ _ | refine bD _ _ ?_ | refine bE _ ?_ | refine bF ?_ ?_ _ | refine bG ?_ ?_ _ | refine bH _ _ _ ?_ ?_) | omega | (simp; done) | (simp; omega)))
  have hXs : w.heap.size + 1 + 1 < X0.heap.size := by rw [hX0.out]; simp; omega
  have q21 : X0.cell? ⟨w.heap.size, 1, none⟩ = some (.slice A l.length c) := by rw [hX0.out]; go_simp
  have q30 : X0.cell? ⟨w.heap.size + 1, 0, none⟩ = some (.int .i64 xz) := by rw [hX0.out]; go_simp
  have q31 : X0.cell? ⟨w.heap.size + 1, 1, none⟩ = some (.int .i64 5) := by rw [hX0.out]; go_simp
  have q32 : X0.cell? ⟨w.heap.size + 1, 2, none⟩ = some (.int .i64 xs) := by rw [hX0.out]; go_simp
  have q33 : X0.cell? ⟨w.heap.size + 1, 3, none⟩ = some (.string xp) := by rw [hX0.out]; go_simp
  have q34 : X0.cell? ⟨w.heap.size + 1, 4, none⟩ = some (.string xd) := by rw [hX0.out]; go_simp
  have q35 : X0.cell? ⟨w.heap.size + 1, 5, none⟩ = some (.int .i64 xv) := by rw [hX0.out]; go_simp
  have q36 : X0.cell? ⟨w.heap.size + 1, 6, none⟩ = some (.int .i64 xw) := by rw [hX0.out]; go_simp
  have q40 : X0.cell? ⟨w.heap.size + 1 + 1, 0, none⟩ = some (.int .i64 0) := by rw [hX0.out]; go_simp
  have q41 : X0.cell? ⟨w.heap.size + 1 + 1, 1, none⟩ = some (.slice none 0 0) := by rw [hX0.out]; go_simp
  have q42 : X0.cell? ⟨w.heap.size + 1 + 1, 2, none⟩ = some (.slice none 0 0) := by rw [hX0.out]; go_simp
  have r40 : X0.frozen? ⟨w.heap.size + 1 + 1, 0, none⟩ = false := by rw [hX0.out]; go_simp
  have r41 : X0.frozen? ⟨w.heap.size + 1 + 1, 1, none⟩ = false := by rw [hX0.out]; go_simp
  have r42 : X0.frozen? ⟨w.heap.size + 1 + 1, 2, none⟩ = false := by rw [hX0.out]; go_simp
  refine gen_w (fun W1 hW1 => ?_)
  have hb1 : Below X0.heap.size X0 W1 := by rw [hW1.out]; exact below_alloc0 _ HB2.out
  have H1 := Lib.hid (show Hand W1 X0.heap.size w2.heap.size ⟨z, l, ss⟩ [] (.slice A5 l.length c5) (.slice A6 ss.length c6) (.slice none 0 0) by
    rw [hW1.out]
    exact ⟨Bk.new w2 _ _ rfl, HO5.out.alloc _, HO6.out.alloc _, Ow.nil _ _ _ _ _, own_lt HO5.out (Nat.le_refl _), own_lt HO6.out (Nat.le_refl _), (by simp [Value.ownBlock]), own_types HO5.out HO6.out (by decide), (fun _ _ => by simp [Value.ownBlock]), (fun _ _ => by simp [Value.ownBlock]), HB2.out.size⟩)
  clear hW1 HO5 HO6 HB2 hX0 HWR HCP
  generalize w2.heap.size = b at *
  clear w2
  obtain ⟨b0, b1, b2, b3, bf1, bf2, bf3, bf0, blt⟩ := H1.out.cells
  have y0 := (hb1.cell (p := ⟨w.heap.size + 1, 0, none⟩) (by simp only; omega)).trans q30
  go_upto_region 6 with fail
  refine gen_w (fun W3 hW3 => ?_)
  have hb3 : Below X0.heap.size X0 W3 := by rw [hW3.out]; exact Below.set_up hb1 H1.out.base
  have H3 := Lib.hid (show Hand W3 X0.heap.size b ⟨xz, l, ss⟩ [] _ _ _ from hW3.out ▸ H1.out.number)
  clear hW3 H1 hb1 y0 b0 b1 b2 b3 bf1 bf2 bf3 bf0 blt
  have y0 := (hb3.cell (p := ⟨w.heap.size + 1, 0, none⟩) (by simp only; omega)).trans q30
  have y1 := (hb3.cell (p := ⟨w.heap.size + 1, 1, none⟩) (by simp only; omega)).trans q31
  have y2 := (hb3.cell (p := ⟨w.heap.size + 1, 2, none⟩) (by simp only; omega)).trans q32
  have y3 := (hb3.cell (p := ⟨w.heap.size + 1, 3, none⟩) (by simp only; omega)).trans q33
  have y4 := (hb3.cell (p := ⟨w.heap.size + 1, 4, none⟩) (by simp only; omega)).trans q34
  have y5 := (hb3.cell (p := ⟨w.heap.size + 1, 5, none⟩) (by simp only; omega)).trans q35
  have y6 := (hb3.cell (p := ⟨w.heap.size + 1, 6, none⟩) (by simp only; omega)).trans q36
  have hBW : X0.heap.size ≤ W3.heap.size := hb3.size
  have hk := HWI.out
  try simp only at hk
  have HFD := Lib.hid (fun (W : World) (h : Sl cNode 9 W (.slice A5 l.length c5) l) => trFind xz (.slice A5 l.length c5) A6 ss.length c6 l xp W h (by omega))
  rw [hk] at HFD
  have hql := hasN_lt hk
  have hx := getN_at hk
  have hset : setN l ⟨xz, 5, xs, xp, xd, xv, xw⟩ = l.set (posN l xp) { getN l xp with data := xd, version := xv, mzxid := xz } := by
    unfold setN
    rw [List.getD_eq_getElem?_getD, hx]
    rfl
  obtain ⟨L1, hL1⟩ : ∃ L1, L1 = setN l ⟨xz, 5, xs, xp, xd, xv, xw⟩ := ⟨_, rfl⟩
  rw [← hL1] at hset
  have HL1 := Lib.hid hL1
  clear hL1 hk HWI
  generalize getN l xp = g at *
  generalize posN l xp = q at *
  obtain ⟨gp, gd, g1, g2, g3, g4, g5, go, gk⟩ := g
  simp only at hset
  obtain ⟨b0, b1, b2, b3, bf1, bf2, bf3, bf0, blt⟩ := H3.out.cells
  go_upto_region 24 with fail
  refine wp_region_grow (by kernel_rfl) (by kernel_rfl) ?_
  try simp only [List.append]
  repeat' (first | go_big_quiet_skip | (go_big_quiet_want; go_big_quiet_op; first | go_big_quiet_on | (apply Exists.intro; refine ⟨fun _ => ?hqg1, ?hqg2⟩; (case hqg1 => (go_at_call 26; refine Calls.grow_of (HFD.out _ (H3.out.nodes.sl.below (by repeat (first | with_reducible (first | exact bA .. | assumption | exact bJ .. | exact bK .. | exact bL .. | exact bM .. | exact bN .. | refine bB ?_ | refine bC ?_ _ | refine bD _ _ ?_ | refine bE _ ?_ | refine bF ?_ ?_ _ | refine bG ?_ ?_ _ | refine bH _ _ _ ?_ ?_) | omega | (simp; done) | (simp; omega))))))); go_big_quiet_on)))
  all_goals refine wpQuiet_nil ?_
  all_goals rintro _ ⟨⟨extq, dq⟩, rfl⟩
  all_goals dsimp only
  go_upto_region 25 with fail
  refine gen_w (fun W4 hW4 => ?_)
  have hbW : Below W3.heap.size W3 W4 := by rw [hW4.out]; exact (by repeat (first | with_reducible (first | exact bA .. | assumption | exact bJ .. | exact bK .. | exact bL .. | exact bM .. | exact bN .. | refine bB ?_ | refine bC ?_ _ | refine bD _ _ ?_ | refine bE _ ?_ | refine bF ?_ ?_ _ | refine bG ?_ ?_ _ | refine bH _ _ _ ?_ ?_) | omega | (simp; done) | (simp; omega)))
  have hb4 : Below X0.heap.size X0 W4 := hb3.trans (hbW.mono hBW)
  have H4 := Lib.hid (H3.out.below hbW)
  clear hW4 hbW H3 hb3 hBW b0 b1 b2 b3 bf1 bf2 bf3 bf0 blt y0 y1 y2 y3 y4 y5 y6 HFD
  obtain ⟨b0, b1, b2, b3, bf1, bf2, bf3, bf0, blt⟩ := H4.out.cells
  obtain ⟨gb, J, rfl, hBg, _, _, hnc, _, _⟩ := H4.out.nodes.blk (by omega)
  have hgb : gb ≠ b := fun e => H4.out.nb (by rw [e]; rfl)
  have hqc : q < c5 := by omega
  have y4 := (hb4.cell (p := ⟨w.heap.size + 1, 4, none⟩) (by simp only; omega)).trans q34
  obtain ⟨e1, e1f⟩ := H4.out.nodes.at_cell (j := 1) (o := q * 9 + 1) hx rfl (by omega)
  refine wp_region_noPanic ?_
  refine wp_region_W (by kernel_rfl) (fun W hW => ?_)
  have cl0 : W.cell? ⟨b, 1, none⟩ = some (.slice (some ⟨gb, 0, none⟩) l.length c5) := by rw [hW.out]; go_simp
  have cl1 : W.cell? ⟨w.heap.size + 1, 4, none⟩ = some (.string xd) := by rw [hW.out]; go_simp
  have ge1 : W.cell? ⟨gb, q * 9 + 1, none⟩ = some (.string gd) := by rw [hW.out]; go_simp
  have ge1f : W.frozen? ⟨gb, q * 9 + 1, none⟩ = false := by rw [hW.out]; go_simp
  refine wpAny_S (fun w' => w'.cell? ⟨b, 1, none⟩ = some (.slice (some ⟨gb, 0, none⟩) l.length c5) ∧ w'.cell? ⟨w.heap.size + 1, 4, none⟩ = some (.string xd)) (fun i => i == 10) (by (try dsimp only); (refine ⟨?_, ?_⟩ <;> go_simp)) (fun hHeld => ?_)
  (refine wpE_takeP (i := 0) (v := ?gV1_1) (by simp only [zD]; rfl) (by kernel_rfl) (by kernel_rfl) (by kernel_rfl) (by rfl) (fun _ _ _ h => h) (Or.inl ⟨by rfl, ?gY1_1⟩) (by assumption) ?gR1_1; case gY1_1 => (intro w hSw; (try dsimp only at hSw); go_simp <;> with_reducible rfl))
  try simp only [Act.put, zA, zB, zC]
  (refine wpE_takeP (i := 1) (v := ?gV1_2) (by simp only [zD]; rfl) (by kernel_rfl) (by kernel_rfl) (by kernel_rfl) (by rfl) (fun _ _ _ h => h) (Or.inl ⟨by rfl, ?gY1_2⟩) (by assumption) ?gR1_2; case gY1_2 => (intro w hSw; (try dsimp only at hSw); go_simp <;> with_reducible rfl))
  try simp only [Act.put, zA, zB, zC]
  (refine wpE_takeP (i := 2) (v := ?gV1_3) (by simp only [zD]; rfl) (by kernel_rfl) (by kernel_rfl) (by kernel_rfl) (by rfl) (fun _ _ _ h => h) (Or.inl ⟨by rfl, ?gY1_3⟩) (by assumption) ?gR1_3; case gY1_3 => (intro w hSw; (try dsimp only at hSw); go_simp <;> with_reducible rfl))
  try simp only [Act.put, zA, zB, zC]
  (refine wpE_takeP (i := 3) (v := ?gV1_4) (by simp only [zD]; rfl) (by kernel_rfl) (by kernel_rfl) (by kernel_rfl) (by rfl) (fun _ _ _ h => h) (Or.inl ⟨by rfl, ?gY1_4⟩) (by assumption) ?gR1_4; case gY1_4 => (intro w hSw; (try dsimp only at hSw); go_simp <;> with_reducible rfl))
  try simp only [Act.put, zA, zB, zC]
  (refine wpE_take (i := 4) (v := ?gV1_5) (by simp only [zD]; rfl) (by kernel_rfl) (by kernel_rfl) (by kernel_rfl) (by kernel_rfl) (by kernel_rfl) (by rfl) (fun _ _ _ h => h) (Or.inl ⟨by rfl, ?gY1_5⟩) (by assumption) ?gR1_5; case gY1_5 => (intro w hSw; (try dsimp only at hSw); go_simp <;> with_reducible rfl))
  try simp only [Act.put, zA, zB, zC]
  (refine wpE_takeP (i := 5) (v := ?gV1_6) (by simp only [zD]; rfl) (by kernel_rfl) (by kernel_rfl) (by kernel_rfl) (by rfl) (fun _ _ _ h => h) (Or.inl ⟨by rfl, ?gY1_6⟩) (by assumption) ?gR1_6; case gY1_6 => (intro w hSw; (try dsimp only at hSw); go_simp <;> with_reducible rfl))
  try simp only [Act.put, zA, zB, zC]
  (refine wpE_takeP (i := 6) (v := ?gV1_7) (by simp only [zD]; rfl) (by kernel_rfl) (by kernel_rfl) (by kernel_rfl) (by rfl) (fun _ _ _ h => h) (Or.inl ⟨by rfl, ?gY1_7⟩) (by assumption) ?gR1_7; case gY1_7 => (intro w hSw; (try dsimp only at hSw); go_simp <;> with_reducible rfl))
  try simp only [Act.put, zA, zB, zC]
  (refine wpE_take (i := 7) (v := ?gV1_8) (by simp only [zD]; rfl) (by kernel_rfl) (by kernel_rfl) (by kernel_rfl) (by kernel_rfl) (by kernel_rfl) (by rfl) (fun _ _ _ h => h) (Or.inl ⟨by rfl, ?gY1_8⟩) (by assumption) ?gR1_8; case gY1_8 => (intro w hSw; (try dsimp only at hSw); go_simp <;> with_reducible rfl))
  try simp only [Act.put, zA, zB, zC]
  (refine wpE_takeP (i := 8) (v := ?gV1_9) (by simp only [zD]; rfl) (by kernel_rfl) (by kernel_rfl) (by kernel_rfl) (by rfl) (fun _ _ _ h => h) (Or.inl ⟨by rfl, ?gY1_9⟩) (by assumption) ?gR1_9; case gY1_9 => (intro w hSw; (try dsimp only at hSw); go_simp <;> with_reducible rfl))
  try simp only [Act.put, zA, zB, zC]
  (refine wpE_takeP (i := 9) (v := ?gV1_10) (by simp only [zD]; rfl) (by kernel_rfl) (by kernel_rfl) (by kernel_rfl) (by rfl) (fun _ _ _ h => h) (Or.inl ⟨by rfl, ?gY1_10⟩) (by assumption) ?gR1_10; case gY1_10 => (intro w hSw; (try dsimp only at hSw); go_simp <;> with_reducible rfl))
  try simp only [Act.put, zA, zB, zC]
  refine wpE_ready (rs := [10]) (by kernel_rfl) (by simp) ?_
  refine AllE.last (by simp only [zD]; rfl) (by kernel_rfl) (fun K hK => ?_) AllE.nil
  go_simp
  refine hK.out _ _ ?_
  clear hK K
  skip
  refine wpE_done (by kernel_rfl) ?_ _
  refine NoPanic.normal ?_
  go_upto_region 26 with fail
  refine gen_w (fun W6 hW6 => ?_)
  have hWW : Below W4.heap.size W4 W := by rw [hW.out]; exact (by repeat (first | with_reducible (first | exact bA .. | assumption | exact bJ .. | exact bK .. | exact bL .. | exact bM .. | exact bN .. | refine bB ?_ | refine bC ?_ _ | refine bD _ _ ?_ | refine bE _ ?_ | refine bF ?_ ?_ _ | refine bG ?_ ?_ _ | refine bH _ _ _ ?_ ?_) | omega | (simp; done) | (simp; omega)))
  have H6 := Lib.hid (show Hand W6 X0.heap.size b _ [] _ _ _ from hW6.out ▸ (H4.out.below hWW).put (k := q) (j := 1) (x' := ⟨gp, xd, g1, g2, g3, g4, g5, go, gk⟩) hx (by omega) (by omega) rfl)
  have hb6 : Below X0.heap.size X0 W6 := by rw [hW6.out]; exact Below.set_up (hb4.trans (hWW.mono hb4.size)) hBg
  clear hW6 hWW ge1 ge1f e1 e1f H4 hb4 b0 b1 b2 b3 bf1 bf2 bf3 bf0 blt hW cl0 cl1 hHeld y4
  have hx6 := List.getElem?_set_self (a := (⟨gp, xd, g1, g2, g3, g4, g5, go, gk⟩ : Node)) hql
  obtain ⟨b0, b1, b2, b3, bf1, bf2, bf3, bf0, blt⟩ := H6.out.cells
  have y5 := (hb6.cell (p := ⟨w.heap.size + 1, 5, none⟩) (by simp only; omega)).trans q35
  have y0 := (hb6.cell (p := ⟨w.heap.size + 1, 0, none⟩) (by simp only; omega)).trans q30
  have hgw : gb ≠ w.heap.size + 1 := by omega
  have hbw0 : b ≠ w.heap.size + 1 := by have := H6.out.base; omega
  obtain ⟨e5, e5f⟩ := H6.out.nodes.at_cell (j := 5) (o := q * 9 + 2 + 3) hx6 rfl (by omega)
  obtain ⟨e3, e3f⟩ := H6.out.nodes.at_cell (j := 3) (o := q * 9 + 2 + 1) hx6 rfl (by omega)
  have hll : (l.set q (⟨gp, xd, g1, g2, g3, g4, g5, go, gk⟩ : Node)).length = l.length := List.length_set
  refine wp_region_noPanic ?_
  refine wp_region_W (by kernel_rfl) (fun W hW => ?_)
  have cl0 : W.cell? ⟨b, 1, none⟩ = some (.slice (some ⟨gb, 0, none⟩) l.length c5) := by rw [hW.out]; go_simp
  have cl1 : W.cell? ⟨w.heap.size + 1, 5, none⟩ = some (.int .i64 xv) := by rw [hW.out]; go_simp
  have cl2 : W.cell? ⟨w.heap.size + 1, 0, none⟩ = some (.int .i64 xz) := by rw [hW.out]; go_simp
  have ge5 : W.cell? ⟨gb, q * 9 + 2 + 3, none⟩ = some (.int .i64 g4) := by rw [hW.out]; go_simp
  have ge5f : W.frozen? ⟨gb, q * 9 + 2 + 3, none⟩ = false := by rw [hW.out]; go_simp
  have ge3 : W.cell? ⟨gb, q * 9 + 2 + 1, none⟩ = some (.int .i64 g2) := by rw [hW.out]; go_simp
  have ge3f : W.frozen? ⟨gb, q * 9 + 2 + 1, none⟩ = false := by rw [hW.out]; go_simp
  refine wpAny_S (fun w' => w'.cell? ⟨b, 1, none⟩ = some (.slice (some ⟨gb, 0, none⟩) l.length c5) ∧ w'.cell? ⟨w.heap.size + 1, 5, none⟩ = some (.int .i64 xv) ∧ w'.cell? ⟨w.heap.size + 1, 0, none⟩ = some (.int .i64 xz)) (fun i => i == 23) (by (try dsimp only); (refine ⟨?_, ?_, ?_⟩ <;> go_simp)) (fun hHeld => ?_)
  (refine wpE_takeP (i := 0) (v := ?gV2_1) (by simp only [zD]; rfl) (by kernel_rfl) (by kernel_rfl) (by kernel_rfl) (by rfl) (fun _ _ _ h => h) (Or.inl ⟨by rfl, ?gY2_1⟩) (by assumption) ?gR2_1; case gY2_1 => (intro w hSw; (try dsimp only at hSw); go_simp <;> with_reducible rfl))
  try simp only [Act.put, zA, zB, zC]
  (refine wpE_takeP (i := 1) (v := ?gV2_2) (by simp only [zD]; rfl) (by kernel_rfl) (by kernel_rfl) (by kernel_rfl) (by rfl) (fun _ _ _ h => h) (Or.inl ⟨by rfl, ?gY2_2⟩) (by assumption) ?gR2_2; case gY2_2 => (intro w hSw; (try dsimp only at hSw); go_simp <;> with_reducible rfl))
  try simp only [Act.put, zA, zB, zC]
  (refine wpE_takeP (i := 2) (v := ?gV2_3) (by simp only [zD]; rfl) (by kernel_rfl) (by kernel_rfl) (by kernel_rfl) (by rfl) (fun _ _ _ h => h) (Or.inl ⟨by rfl, ?gY2_3⟩) (by assumption) ?gR2_3; case gY2_3 => (intro w hSw; (try dsimp only at hSw); go_simp <;> with_reducible rfl))
  try simp only [Act.put, zA, zB, zC]
  (refine wpE_takeP (i := 3) (v := ?gV2_4) (by simp only [zD]; rfl) (by kernel_rfl) (by kernel_rfl) (by kernel_rfl) (by rfl) (fun _ _ _ h => h) (Or.inl ⟨by rfl, ?gY2_4⟩) (by assumption) ?gR2_4; case gY2_4 => (intro w hSw; (try dsimp only at hSw); go_simp <;> with_reducible rfl))
  try simp only [Act.put, zA, zB, zC]
  (refine wpE_take (i := 4) (v := ?gV2_5) (by simp only [zD]; rfl) (by kernel_rfl) (by kernel_rfl) (by kernel_rfl) (by kernel_rfl) (by kernel_rfl) (by rfl) (fun _ _ _ h => h) (Or.inl ⟨by rfl, ?gY2_5⟩) (by assumption) ?gR2_5; case gY2_5 => (intro w hSw; (try dsimp only at hSw); go_simp <;> with_reducible rfl))
  try simp only [Act.put, zA, zB, zC]
  (refine wpE_takeP (i := 5) (v := ?gV2_6) (by simp only [zD]; rfl) (by kernel_rfl) (by kernel_rfl) (by kernel_rfl) (by rfl) (fun _ _ _ h => h) (Or.inl ⟨by rfl, ?gY2_6⟩) (by assumption) ?gR2_6; case gY2_6 => (intro w hSw; (try dsimp only at hSw); go_simp <;> with_reducible rfl))
  try simp only [Act.put, zA, zB, zC]
  (refine wpE_takeP (i := 6) (v := ?gV2_7) (by simp only [zD]; rfl) (by kernel_rfl) (by kernel_rfl) (by kernel_rfl) (by rfl) (fun _ _ _ h => h) (Or.inl ⟨by rfl, ?gY2_7⟩) (by assumption) ?gR2_7; case gY2_7 => (intro w hSw; (try dsimp only at hSw); go_simp <;> with_reducible rfl))
  try simp only [Act.put, zA, zB, zC]
  (refine wpE_takeP (i := 7) (v := ?gV2_8) (by simp only [zD]; rfl) (by kernel_rfl) (by kernel_rfl) (by kernel_rfl) (by rfl) (fun _ _ _ h => h) (Or.inl ⟨by rfl, ?gY2_8⟩) (by assumption) ?gR2_8; case gY2_8 => (intro w hSw; (try dsimp only at hSw); go_simp <;> with_reducible rfl))
  try simp only [Act.put, zA, zB, zC]
  (refine wpE_takeP (i := 8) (v := ?gV2_9) (by simp only [zD]; rfl) (by kernel_rfl) (by kernel_rfl) (by kernel_rfl) (by rfl) (fun _ _ _ h => h) (Or.inl ⟨by rfl, ?gY2_9⟩) (by assumption) ?gR2_9; case gY2_9 => (intro w hSw; (try dsimp only at hSw); go_simp <;> with_reducible rfl))
  try simp only [Act.put, zA, zB, zC]
  (refine wpE_takeP (i := 9) (v := ?gV2_10) (by simp only [zD]; rfl) (by kernel_rfl) (by kernel_rfl) (by kernel_rfl) (by rfl) (fun _ _ _ h => h) (Or.inl ⟨by rfl, ?gY2_10⟩) (by assumption) ?gR2_10; case gY2_10 => (intro w hSw; (try dsimp only at hSw); go_simp <;> with_reducible rfl))
  try simp only [Act.put, zA, zB, zC]
  (refine wpE_take (i := 10) (v := ?gV2_11) (by simp only [zD]; rfl) (by kernel_rfl) (by kernel_rfl) (by kernel_rfl) (by kernel_rfl) (by kernel_rfl) (by rfl) (fun _ _ _ h => h) (Or.inl ⟨by rfl, ?gY2_11⟩) (by assumption) ?gR2_11; case gY2_11 => (intro w hSw; (try dsimp only at hSw); go_simp <;> with_reducible rfl))
  try simp only [Act.put, zA, zB, zC]
  (refine wpE_takeP (i := 11) (v := ?gV2_12) (by simp only [zD]; rfl) (by kernel_rfl) (by kernel_rfl) (by kernel_rfl) (by rfl) (fun _ _ _ h => h) (Or.inl ⟨by rfl, ?gY2_12⟩) (by assumption) ?gR2_12; case gY2_12 => (intro w hSw; (try dsimp only at hSw); go_simp <;> with_reducible rfl))
  try simp only [Act.put, zA, zB, zC]
  (refine wpE_takeP (i := 12) (v := ?gV2_13) (by simp only [zD]; rfl) (by kernel_rfl) (by kernel_rfl) (by kernel_rfl) (by rfl) (fun _ _ _ h => h) (Or.inl ⟨by rfl, ?gY2_13⟩) (by assumption) ?gR2_13; case gY2_13 => (intro w hSw; (try dsimp only at hSw); go_simp <;> with_reducible rfl))
  try simp only [Act.put, zA, zB, zC]
  (refine wpE_take (i := 13) (v := ?gV2_14) (by simp only [zD]; rfl) (by kernel_rfl) (by kernel_rfl) (by kernel_rfl) (by kernel_rfl) (by kernel_rfl) (by rfl) (fun _ _ _ h => h) (Or.inl ⟨by rfl, ?gY2_14⟩) (by assumption) ?gR2_14; case gY2_14 => (intro w hSw; (try dsimp only at hSw); go_simp <;> with_reducible rfl))
  try simp only [Act.put, zA, zB, zC]
  (refine wpE_takeP (i := 14) (v := ?gV2_15) (by simp only [zD]; rfl) (by kernel_rfl) (by kernel_rfl) (by kernel_rfl) (by rfl) (fun _ _ _ h => h) (Or.inl ⟨by rfl, ?gY2_15⟩) (by assumption) ?gR2_15; case gY2_15 => (intro w hSw; (try dsimp only at hSw); go_simp <;> with_reducible rfl))
  try simp only [Act.put, zA, zB, zC]
  (refine wpE_take (i := 15) (v := ?gV2_16) (by simp only [zD]; rfl) (by kernel_rfl) (by kernel_rfl) (by kernel_rfl) (by kernel_rfl) (by kernel_rfl) (by rfl) (fun _ _ _ h => h) (Or.inl ⟨by rfl, ?gY2_16⟩) (by assumption) ?gR2_16; case gY2_16 => (intro w hSw; (try dsimp only at hSw); go_simp <;> with_reducible rfl))
  try simp only [Act.put, zA, zB, zC]
  (refine wpE_takeP (i := 16) (v := ?gV2_17) (by simp only [zD]; rfl) (by kernel_rfl) (by kernel_rfl) (by kernel_rfl) (by rfl) (fun _ _ _ h => h) (Or.inl ⟨by rfl, ?gY2_17⟩) (by assumption) ?gR2_17; case gY2_17 => (intro w hSw; (try dsimp only at hSw); go_simp <;> with_reducible rfl))
  try simp only [Act.put, zA, zB, zC]
  (refine wpE_takeP (i := 17) (v := ?gV2_18) (by simp only [zD]; rfl) (by kernel_rfl) (by kernel_rfl) (by kernel_rfl) (by rfl) (fun _ _ _ h => h) (Or.inl ⟨by rfl, ?gY2_18⟩) (by assumption) ?gR2_18; case gY2_18 => (intro w hSw; (try dsimp only at hSw); go_simp <;> with_reducible rfl))
  try simp only [Act.put, zA, zB, zC]
  (refine wpE_takeP (i := 18) (v := ?gV2_19) (by simp only [zD]; rfl) (by kernel_rfl) (by kernel_rfl) (by kernel_rfl) (by rfl) (fun _ _ _ h => h) (Or.inl ⟨by rfl, ?gY2_19⟩) (by assumption) ?gR2_19; case gY2_19 => (intro w hSw; (try dsimp only at hSw); go_simp <;> with_reducible rfl))
  try simp only [Act.put, zA, zB, zC]
  refine wpE_ready (rs := [19]) (by kernel_rfl) (by simp) ?_
  refine AllE.cons (by simp only [zD]; rfl) (fun K hK => ?_) AllE.nil
  go_simp
  refine hK.out _ _ ?gT2_20 (fun hHeld => ?_)
  case gT2_20 => ((try dsimp only); (refine ⟨?_, ?_, ?_⟩ <;> go_simp))
  clear hK K
  skip
  (refine wpE_takeP (i := 20) (v := ?gV2_21) (by simp only [zD]; rfl) (by kernel_rfl) (by kernel_rfl) (by kernel_rfl) (by rfl) (fun _ _ _ h => h) (Or.inl ⟨by rfl, ?gY2_21⟩) (by assumption) ?gR2_21; case gY2_21 => (intro w hSw; (try dsimp only at hSw); go_simp <;> with_reducible rfl))
  try simp only [Act.put, zA, zB, zC]
  (refine wpE_takeP (i := 21) (v := ?gV2_22) (by simp only [zD]; rfl) (by kernel_rfl) (by kernel_rfl) (by kernel_rfl) (by rfl) (fun _ _ _ h => h) (Or.inl ⟨by rfl, ?gY2_22⟩) (by assumption) ?gR2_22; case gY2_22 => (intro w hSw; (try dsimp only at hSw); go_simp <;> with_reducible rfl))
  try simp only [Act.put, zA, zB, zC]
  (refine wpE_takeP (i := 22) (v := ?gV2_23) (by simp only [zD]; rfl) (by kernel_rfl) (by kernel_rfl) (by kernel_rfl) (by rfl) (fun _ _ _ h => h) (Or.inl ⟨by rfl, ?gY2_23⟩) (by assumption) ?gR2_23; case gY2_23 => (intro w hSw; (try dsimp only at hSw); go_simp <;> with_reducible rfl))
  try simp only [Act.put, zA, zB, zC]
  refine wpE_ready (rs := [23]) (by kernel_rfl) (by simp) ?_
  refine AllE.last (by simp only [zD]; rfl) (by kernel_rfl) (fun K hK => ?_) AllE.nil
  go_simp
  refine hK.out _ _ ?_
  clear hK K
  skip
  refine wpE_done (by kernel_rfl) ?_ _
  refine NoPanic.normal ?_
  go_upto_region 27 with fail
  refine gen_w (fun W7 hW7 => ?_)
  have hWW : Below W6.heap.size W6 W := by rw [hW.out]; exact (by repeat (first | with_reducible (first | exact bA .. | assumption | exact bJ .. | exact bK .. | exact bL .. | exact bM .. | exact bN .. | refine bB ?_ | refine bC ?_ _ | refine bD _ _ ?_ | refine bE _ ?_ | refine bF ?_ ?_ _ | refine bG ?_ ?_ _ | refine bH _ _ _ ?_ ?_) | omega | (simp; done) | (simp; omega)))
  have H7a := Lib.hid ((H6.out.below hWW).put (k := q) (j := 5) (o := q * 9 + 2 + 3) (u := .int .i64 xv) (x' := ⟨gp, xd, g1, g2, g3, xv, g5, go, gk⟩) hx6 (by omega) (by omega) rfl)
  rw [List.set_set] at H7a
  have hx7 := List.getElem?_set_self (a := (⟨gp, xd, g1, g2, g3, xv, g5, go, gk⟩ : Node)) hql
  have H7 := Lib.hid (show Hand W7 X0.heap.size b _ [] _ _ _ from hW7.out ▸ H7a.out.put (k := q) (j := 3) (o := q * 9 + 2 + 1) (u := .int .i64 xz) (x' := ⟨gp, xd, g1, xz, g3, xv, g5, go, gk⟩) hx7 (by omega) (by omega) rfl)
  rw [List.set_set, ← hset] at H7
  have hb7 : Below X0.heap.size X0 W7 := by rw [hW7.out]; exact Below.set_up (Below.set_up (hb6.trans (hWW.mono hb6.size)) hBg) hBg
  have hl1 : L1.length = l.length := by rw [hset, List.length_set]
  clear hW7 hWW ge5 ge5f ge3 ge3f e5 e5f e3 e3f H6 hb6 b0 b1 b2 b3 bf1 bf2 bf3 bf0 blt hW cl0 cl1 cl2 hHeld y5 y0 hx6 hx7 hset hx H7a hll
  obtain ⟨b0, b1, b2, b3, bf1, bf2, bf3, bf0, blt⟩ := H7.out.cells
  have y3 := (hb7.cell (p := ⟨w.heap.size + 1, 3, none⟩) (by simp only; omega)).trans q33
  have hBW7 : X0.heap.size ≤ W7.heap.size := hb7.size
  refine wp_region_noPanic ?_
  refine wp_region_W (by kernel_rfl) (fun W hW => ?_)
  have cl0 : W.cell? ⟨b, 3, none⟩ = some (.slice none 0 0) := by rw [hW.out]; go_simp
  have cl1 : W.cell? ⟨w.heap.size + 1, 3, none⟩ = some (.string xp) := by rw [hW.out]; go_simp
  refine wpAny_S (fun w' => w'.cell? ⟨b, 3, none⟩ = some (.slice none 0 0) ∧ w'.cell? ⟨w.heap.size + 1, 3, none⟩ = some (.string xp)) (fun i => i == 12) (by (try dsimp only); (refine ⟨?_, ?_⟩ <;> go_simp)) (fun hHeld => ?_)
  (refine wpE_takeP (i := 0) (v := ?gV3_1) (by simp only [zD]; rfl) (by kernel_rfl) (by kernel_rfl) (by kernel_rfl) (by rfl) (fun _ _ _ h => h) (Or.inl ⟨by rfl, ?gY3_1⟩) (by assumption) ?gR3_1; case gY3_1 => (intro w hSw; (try dsimp only at hSw); go_simp <;> with_reducible rfl))
  try simp only [Act.put, zA, zB, zC]
  (refine wpE_takeP (i := 1) (v := ?gV3_2) (by simp only [zD]; rfl) (by kernel_rfl) (by kernel_rfl) (by kernel_rfl) (by rfl) (fun _ _ _ h => h) (Or.inl ⟨by rfl, ?gY3_2⟩) (by assumption) ?gR3_2; case gY3_2 => (intro w hSw; (try dsimp only at hSw); go_simp <;> with_reducible rfl))
  try simp only [Act.put, zA, zB, zC]
  (refine wpE_takeP (i := 2) (v := ?gV3_3) (by simp only [zD]; rfl) (by kernel_rfl) (by kernel_rfl) (by kernel_rfl) (by rfl) (fun _ _ _ h => h) (Or.inl ⟨by rfl, ?gY3_3⟩) (by assumption) ?gR3_3; case gY3_3 => (intro w hSw; (try dsimp only at hSw); go_simp <;> with_reducible rfl))
  try simp only [Act.put, zA, zB, zC]
  (refine wpE_takeP (i := 3) (v := ?gV3_4) (by simp only [zD]; rfl) (by kernel_rfl) (by kernel_rfl) (by kernel_rfl) (by rfl) (fun _ _ _ h => h) (Or.inl ⟨by rfl, ?gY3_4⟩) (by assumption) ?gR3_4; case gY3_4 => (intro w hSw; (try dsimp only at hSw); go_simp <;> with_reducible rfl))
  try simp only [Act.put, zA, zB, zC]
  (refine wpE_take (i := 4) (v := ?gV3_5) (by simp only [zD]; rfl) (by kernel_rfl) (by kernel_rfl) (by kernel_rfl) (by kernel_rfl) (by kernel_rfl) (by rfl) (fun _ _ _ h => h) (Or.inl ⟨by rfl, ?gY3_5⟩) (by assumption) ?gR3_5; case gY3_5 => (intro w hSw; (try dsimp only at hSw); go_simp <;> with_reducible rfl))
  try simp only [Act.put, zA, zB, zC]
  (refine wpE_takeP (i := 5) (v := ?gV3_6) (by simp only [zD]; rfl) (by kernel_rfl) (by kernel_rfl) (by kernel_rfl) (by rfl) (fun _ _ _ h => h) (Or.inl ⟨by rfl, ?gY3_6⟩) (by assumption) ?gR3_6; case gY3_6 => (intro w hSw; (try dsimp only at hSw); go_simp <;> with_reducible rfl))
  try simp only [Act.put, zA, zB, zC]
  (refine wpE_take (i := 6) (v := ?gV3_7) (by simp only [zD]; rfl) (by kernel_rfl) (by kernel_rfl) (by kernel_rfl) (by kernel_rfl) (by kernel_rfl) (by rfl) (fun _ _ _ h => h) (Or.inl ⟨by rfl, ?gY3_7⟩) (by assumption) ?gR3_7; case gY3_7 => (intro w hSw; (try dsimp only at hSw); go_simp <;> with_reducible rfl))
  try simp only [Act.put, zA, zB, zC]
  (refine wpE_takeP (i := 7) (v := ?gV3_8) (by simp only [zD]; rfl) (by kernel_rfl) (by kernel_rfl) (by kernel_rfl) (by rfl) (fun _ _ _ h => h) (Or.inl ⟨by rfl, ?gY3_8⟩) (by assumption) ?gR3_8; case gY3_8 => (intro w hSw; (try dsimp only at hSw); go_simp <;> with_reducible rfl))
  try simp only [Act.put, zA, zB, zC]
  refine wpE_ready (rs := [8]) (by kernel_rfl) (by simp) ?_
  refine AllE.cons (by simp only [zD]; rfl) (fun K hK => ?_) AllE.nil
  go_simp
  refine hK.out _ _ ?gT3_9 (fun hHeld => ?_)
  case gT3_9 => ((try dsimp only); (refine ⟨?_, ?_⟩ <;> go_simp))
  clear hK K
  skip
  refine wpE_ready (rs := [9]) (by kernel_rfl) (by simp) ?_
  refine AllE.cons (by simp only [zD]; rfl) (fun K hK => ?_) AllE.nil
  (refine stepE_app (by rfl) (.tmp 170) (.tmp 174) _ rfl elEvent (B := X0.heap.size) (l := ([] : List Event)) (m := [⟨3, xp⟩]) rfl rfl (H7.out.evs.below (by rw [hW.out]; exact (by repeat (first | with_reducible (first | exact bA .. | assumption | exact bJ .. | exact bK .. | exact bL .. | exact bM .. | exact bN .. | refine bB ?_ | refine bC ?_ _ | refine bD _ _ ?_ | refine bE _ ?_ | refine bF ?_ ?_ _ | refine bG ?_ ?_ _ | refine bH _ _ _ ?_ ?_) | omega | (simp; done) | (simp; omega))))) (Sl.one_at cEvent 2 _ _ _ rfl _ rfl (by omega) (by simp)) cEvent_one (by simp [maxLen]) (by simp) (by rw [hW.out]; simp; omega) ?_; intro v2 w2 hown2 hg2 hat2; obtain ⟨A4, c4, rfl, _⟩ := hown2.form; have HX3 := Lib.hid (hand_push (w := X0) H7.out hb7 (by rw [hW.out]; exact (by repeat (first | with_reducible (first | exact bA .. | assumption | exact bJ .. | exact bK .. | exact bL .. | exact bM .. | exact bN .. | refine bB ?_ | refine bC ?_ _ | refine bD _ _ ?_ | refine bE _ ?_ | refine bF ?_ ?_ _ | refine bG ?_ ?_ _ | refine bH _ _ _ ?_ ?_) | omega | (simp; done) | (simp; omega)))) hown2 hg2 hat2); have y22 : w2.cell? ⟨w.heap.size + 1, 3, none⟩ = some (.string xp) := ((World.cell?_setCell_other _ _ _ _ (show (⟨b, 3, none⟩ : Addr) ≠ ⟨w.heap.size + 1, 3, none⟩ by have := H7.out.base; simp <;> omega)).symm.trans ((HX3.out.2.1.cell (p := ⟨w.heap.size + 1, 3, none⟩) (by simp only; omega)).trans q33)); obtain ⟨_, _, hs3, hf3, hl3⟩ := HX3.out; clear hown2 hg2 hat2)
  refine hK.out _ _ ?gT3_10 (fun hHeld => ?_)
  case gT3_10 => ((try dsimp only); (refine ⟨?_, ?_⟩ <;> go_simp))
  clear hK K
  try simp only [Act.put, zA, zB, zC]
  (refine wpE_takeP (i := 10) (v := ?gV3_11) (by simp only [zD]; rfl) (by kernel_rfl) (by kernel_rfl) (by kernel_rfl) (by rfl) (fun _ _ _ h => h) (Or.inl ⟨by rfl, ?gY3_11⟩) (by assumption) ?gR3_11; case gY3_11 => (intro w hSw; (try dsimp only at hSw); go_simp <;> with_reducible rfl))
  try simp only [Act.put, zA, zB, zC]
  (refine wpE_takeP (i := 11) (v := ?gV3_12) (by simp only [zD]; rfl) (by kernel_rfl) (by kernel_rfl) (by kernel_rfl) (by rfl) (fun _ _ _ h => h) (Or.inl ⟨by rfl, ?gY3_12⟩) (by assumption) ?gR3_12; case gY3_12 => (intro w hSw; (try dsimp only at hSw); go_simp <;> with_reducible rfl))
  try simp only [Act.put, zA, zB, zC]
  refine wpE_ready (rs := [12]) (by kernel_rfl) (by simp) ?_
  refine AllE.last (by simp only [zD]; rfl) (by kernel_rfl) (fun K hK => ?_) AllE.nil
  go_simp
  refine hK.out _ _ ?_
  clear hK K
  skip
  refine wpE_done (by kernel_rfl) ?_ _
  refine NoPanic.normal ?_
  go_upto_region 28 with fail
  refine gen_w (fun W5 hW5 => ?_)
  simp only [List.length_append, List.length_cons, List.length_nil, Nat.zero_add, List.nil_append] at HX3
  rw [← hW5.out] at HX3
  have H5 := Lib.hid HX3.out.1
  have hb5 : Below X0.heap.size X0 W5 := HX3.out.2.1
  rw [HL1.out] at H5
  clear hW5 HX3 hs3 hf3 hl3 y22 H7 b0 b1 b2 b3 bf1 bf2 bf3 bf0 blt y3 hW cl0 cl1 hHeld hb7 hl1
  obtain ⟨d1, d2, d3⟩ := doN_5 (t := ⟨z, l, ss⟩) (x := ⟨xz, 5, xs, xp, xd, xv, xw⟩) rfl
  simp only at d1 d2 d3
  obtain ⟨L, hLL⟩ : ∃ L, L = setN l ⟨xz, 5, xs, xp, xd, xv, xw⟩ := ⟨_, rfl⟩
  obtain ⟨S, hSS⟩ : ∃ S, S = ss := ⟨_, rfl⟩
  obtain ⟨V, hVV⟩ : ∃ V, V = ([⟨3, xp⟩] : List Event) := ⟨_, rfl⟩
  have HL := Lib.hid (d1.trans hLL.symm)
  have HS7 := Lib.hid (d2.trans hSS.symm)
  have HV7 := Lib.hid (d3.trans hVV.symm)
  have HNO1 := HNO
  clear HNO
  have HNO := Lib.hid (fun (w' : World) (hf : fullB L = true) (hb : Below w.heap.size w w') => HNO1.out w' (by rw [HL.out]; exact hf) hb)
  have hL7 : L.length ≤ 140737488355328 := by rw [← HL.out]; exact Nat.le_trans HLEN.out (by decide)
  rw [← hLL, ← hSS, ← hVV] at H5
  clear hLL hSS hVV d1 d2 d3 HNO1
  obtain ⟨nv5, sv5, vv5, H5⟩ := exHand H5
  obtain ⟨A7, c7, rfl, h7, h7b, _⟩ := H5.out.nodes.form
  obtain ⟨A8, c8, rfl, h8, h8b, _⟩ := H5.out.sess.form
  obtain ⟨A9, c9, rfl, h9, h9b, _⟩ := H5.out.evs.form
  have y40 := (hb5.cell (p := ⟨w.heap.size + 1 + 1, 0, none⟩) (by simp only; omega)).trans q40
  have y41 := (hb5.cell (p := ⟨w.heap.size + 1 + 1, 1, none⟩) (by simp only; omega)).trans q41
  have y42 := (hb5.cell (p := ⟨w.heap.size + 1 + 1, 2, none⟩) (by simp only; omega)).trans q42
  have z40 := (hb5.frozen (p := ⟨w.heap.size + 1 + 1, 0, none⟩) (by simp only; omega)).trans r40
  have z41 := (hb5.frozen (p := ⟨w.heap.size + 1 + 1, 1, none⟩) (by simp only; omega)).trans r41
  have z42 := (hb5.frozen (p := ⟨w.heap.size + 1 + 1, 2, none⟩) (by simp only; omega)).trans r42
  obtain ⟨b0, b1, b2, b3, bf1, bf2, bf3, bf0, blt⟩ := H5.out.cells
  have hwb : w.heap.size + 1 + 1 < b := Nat.lt_of_lt_of_le hXs H5.out.base
  have hw5 : w.heap.size + 1 + 1 < W5.heap.size := by omega
  have hwW : Below w.heap.size w W5 := hwX.trans (hb5.mono (by omega))
  have HFU := Lib.hid (fun (W : World) (h : Below W5.heap.size W5 W) => trFull _ _ W (H5.out.nodes.sl.below h) hL7)
  cases hf : fullB L with
  | true =>
    rw [hf] at HFU
    have HNO2 := Lib.hid (fun (w' : World) (hb : Below w.heap.size w w') => HNO.out w' hf hb)
    clear hf HYES
    go_wp2_with ((go_at_call 27; refine (HFU.out _ (by repeat (first | with_reducible (first | exact bA .. | assumption | exact bJ .. | exact bK .. | exact bL .. | exact bM .. | exact bN .. | refine bB ?_ | refine bC ?_ _ | refine bD _ _ ?_ | refine bE _ ?_ | refine bF ?_ ?_ _ | refine bG ?_ ?_ _ | refine bH _ _ _ ?_ ?_) | omega | (simp; done) | (simp; omega)))).mono ?_; rintro e w1 ⟨rfl, hb⟩; obtain ⟨ext1, d1, rfl⟩ := Below.grown_eq _ hb; clear hb))
    refine gen_e (fun WF hWF => ?_)
    have hBF : Below w.heap.size w WF := by rw [hWF.out]; exact (by repeat (first | with_reducible (first | exact bA .. | assumption | exact bJ .. | exact bK .. | exact bL .. | exact bM .. | exact bN .. | refine bB ?_ | refine bC ?_ _ | refine bD _ _ ?_ | refine bE _ ?_ | refine bF ?_ ?_ _ | refine bG ?_ ?_ _ | refine bH _ _ _ ?_ ?_) | omega | (simp; done) | (simp; omega)))
    obtain ⟨s0, s1, s2⟩ := set3_cells y40 y41 y42 (v0 := .int .i64 0) (v1 := .slice none 0 0) (v2 := .slice none 0 0)
    have f0 : WF.cell? ⟨w.heap.size + 1 + 1, 0, none⟩ = some (.int .i64 0) := by rw [hWF.out]; exact grow_at s0
    have f1 : WF.cell? ⟨w.heap.size + 1 + 1, 1, none⟩ = some (.slice none 0 0) := by rw [hWF.out]; exact grow_at s1
    have f2 : WF.cell? ⟨w.heap.size + 1 + 1, 2, none⟩ = some (.slice none 0 0) := by rw [hWF.out]; exact grow_at s2
    clear hWF s0 s1 s2
    refine bodyPost_ret (v := .tuple #[.agg #[.int .i64 0, .slice none 0 0, .slice none 0 0], .slice none 0 0, .int .i64 6]) (by simp [results, Tryz.results13, go_sem, f0, f1, f2]) rfl (HNO2.out _ hBF)
  | false =>
    rw [hf] at HFU
    have HYES2 := Lib.hid (fun (w' : World) (hn : Ow cNode 9 68 w' X0.heap.size (.slice A7 (L).length c7) (L)) (hs : Ow cInt 1 3 w' X0.heap.size (.slice A8 (S).length c8) (S)) (hv : Ow cEvent 2 84 w' X0.heap.size (.slice A9 (V).length c9) (V)) (hb : Below w.heap.size w w') => HYES.out W5 w' b _ _ _ _ _ _ _ hf HL.out HS7.out HV7.out H5.out (by omega) hn hs hv hb)
    clear hf HYES HNO
    go_upto_region 30 with ((go_at_call 27; refine (HFU.out _ (by repeat (first | with_reducible (first | exact bA .. | assumption | exact bJ .. | exact bK .. | exact bL .. | exact bM .. | exact bN .. | refine bB ?_ | refine bC ?_ _ | refine bD _ _ ?_ | refine bE _ ?_ | refine bF ?_ ?_ _ | refine bG ?_ ?_ _ | refine bH _ _ _ ?_ ?_) | omega | (simp; done) | (simp; omega)))).mono ?_; rintro e w1 ⟨rfl, hb⟩; obtain ⟨ext1, d1, rfl⟩ := Below.grown_eq _ hb; clear hb))
    refine wp_region_noPanic ?_
    refine wp_region_W (by kernel_rfl) (fun W hW => ?_)
    have cl0 : W.cell? ⟨b, 0, none⟩ = some (.int .i64 xz) := by rw [hW.out]; go_simp
    have cl1 : W.cell? ⟨b, 1, none⟩ = some (.slice A7 L.length c7) := by rw [hW.out]; go_simp
    have cl2 : W.cell? ⟨b, 2, none⟩ = some (.slice A8 S.length c8) := by rw [hW.out]; go_simp
    have cl3 : W.cell? ⟨b, 3, none⟩ = some (.slice A9 V.length c9) := by rw [hW.out]; go_simp
    have fz0 : W.frozen? ⟨w.heap.size + 1 + 1, 0, none⟩ = false := by rw [hW.out]; go_simp
    have fz1 : W.frozen? ⟨w.heap.size + 1 + 1, 1, none⟩ = false := by rw [hW.out]; go_simp
    have fz2 : W.frozen? ⟨w.heap.size + 1 + 1, 2, none⟩ = false := by rw [hW.out]; go_simp
    have g40 : W.cell? ⟨w.heap.size + 1 + 1, 0, none⟩ = some (.int .i64 0) := by rw [hW.out]; go_simp
    have g41 : W.cell? ⟨w.heap.size + 1 + 1, 1, none⟩ = some (.slice none 0 0) := by rw [hW.out]; go_simp
    have g42 : W.cell? ⟨w.heap.size + 1 + 1, 2, none⟩ = some (.slice none 0 0) := by rw [hW.out]; go_simp
    have hWs : w.heap.size + 1 + 1 < W.heap.size := by rw [hW.out]; simp; omega
    have hWW5 : Below W5.heap.size W5 W := by rw [hW.out]; exact (by repeat (first | with_reducible (first | exact bA .. | assumption | exact bJ .. | exact bK .. | exact bL .. | exact bM .. | exact bN .. | refine bB ?_ | refine bC ?_ _ | refine bD _ _ ?_ | refine bE _ ?_ | refine bF ?_ ?_ _ | refine bG ?_ ?_ _ | refine bH _ _ _ ?_ ?_) | omega | (simp; done) | (simp; omega)))
    refine wpAny_S (fun w' => w'.cell? ⟨b, 0, none⟩ = some (.int .i64 xz) ∧ w'.cell? ⟨b, 1, none⟩ = some (.slice A7 L.length c7) ∧ w'.cell? ⟨b, 2, none⟩ = some (.slice A8 S.length c8) ∧ w'.cell? ⟨b, 3, none⟩ = some (.slice A9 V.length c9)) (fun i => false) (by (try dsimp only); (refine ⟨?_, ?_, ?_, ?_⟩ <;> go_simp)) (fun hHeld => ?_)
    (refine wpE_takeP (i := 0) (v := ?gV4_1) (by simp only [zD]; rfl) (by kernel_rfl) (by kernel_rfl) (by kernel_rfl) (by rfl) (fun _ _ _ h => h) (Or.inl ⟨by rfl, ?gY4_1⟩) (by assumption) ?gR4_1; case gY4_1 => (intro w hSw; (try dsimp only at hSw); go_simp <;> with_reducible rfl))
    try simp only [Act.put, zA, zB, zC]
    (refine wpE_takeP (i := 1) (v := ?gV4_2) (by simp only [zD]; rfl) (by kernel_rfl) (by kernel_rfl) (by kernel_rfl) (by rfl) (fun _ _ _ h => h) (Or.inl ⟨by rfl, ?gY4_2⟩) (by assumption) ?gR4_2; case gY4_2 => (intro w hSw; (try dsimp only at hSw); go_simp <;> with_reducible rfl))
    try simp only [Act.put, zA, zB, zC]
    (refine wpE_takeP (i := 2) (v := ?gV4_3) (by simp only [zD]; rfl) (by kernel_rfl) (by kernel_rfl) (by kernel_rfl) (by rfl) (fun _ _ _ h => h) (Or.inl ⟨by rfl, ?gY4_3⟩) (by assumption) ?gR4_3; case gY4_3 => (intro w hSw; (try dsimp only at hSw); go_simp <;> with_reducible rfl))
    try simp only [Act.put, zA, zB, zC]
    (refine wpE_take (i := 3) (v := ?gV4_4) (by simp only [zD]; rfl) (by kernel_rfl) (by kernel_rfl) (by kernel_rfl) (by kernel_rfl) (by kernel_rfl) (by rfl) (fun _ _ _ h => h) (Or.inl ⟨by rfl, ?gY4_4⟩) (by assumption) ?gR4_4; case gY4_4 => (intro w hSw; (try dsimp only at hSw); go_simp <;> with_reducible rfl))
    try simp only [Act.put, zA, zB, zC]
    (refine wpE_takeP (i := 4) (v := ?gV4_5) (by simp only [zD]; rfl) (by kernel_rfl) (by kernel_rfl) (by kernel_rfl) (by rfl) (fun _ _ _ h => h) (Or.inl ⟨by rfl, ?gY4_5⟩) (by assumption) ?gR4_5; case gY4_5 => (intro w hSw; (try dsimp only at hSw); go_simp <;> with_reducible rfl))
    try simp only [Act.put, zA, zB, zC]
    (refine wpE_takeP (i := 5) (v := ?gV4_6) (by simp only [zD]; rfl) (by kernel_rfl) (by kernel_rfl) (by kernel_rfl) (by rfl) (fun _ _ _ h => h) (Or.inl ⟨by rfl, ?gY4_6⟩) (by assumption) ?gR4_6; case gY4_6 => (intro w hSw; (try dsimp only at hSw); go_simp <;> with_reducible rfl))
    try simp only [Act.put, zA, zB, zC]
    (refine wpE_takeP (i := 6) (v := ?gV4_7) (by simp only [zD]; rfl) (by kernel_rfl) (by kernel_rfl) (by kernel_rfl) (by rfl) (fun _ _ _ h => h) (Or.inl ⟨by rfl, ?gY4_7⟩) (by assumption) ?gR4_7; case gY4_7 => (intro w hSw; (try dsimp only at hSw); go_simp <;> with_reducible rfl))
    try simp only [Act.put, zA, zB, zC]
    (refine wpE_take (i := 7) (v := ?gV4_8) (by simp only [zD]; rfl) (by kernel_rfl) (by kernel_rfl) (by kernel_rfl) (by kernel_rfl) (by kernel_rfl) (by rfl) (fun _ _ _ h => h) (Or.inl ⟨by rfl, ?gY4_8⟩) (by assumption) ?gR4_8; case gY4_8 => (intro w hSw; (try dsimp only at hSw); go_simp <;> with_reducible rfl))
    try simp only [Act.put, zA, zB, zC]
    refine wpE_ready (rs := [8]) (by kernel_rfl) (by simp) ?_
    refine AllE.cons (by simp only [zD]; rfl) (fun K hK => ?_) AllE.nil
    go_simp
    refine hK.out _ _ ?gT4_9 (fun hHeld => ?_)
    case gT4_9 => ((try dsimp only); (refine ⟨?_, ?_, ?_, ?_⟩ <;> go_simp))
    clear hK K
    try simp only [Act.put, zA, zB, zC]
    (refine wpE_takeP (i := 9) (v := ?gV4_10) (by simp only [zD]; rfl) (by kernel_rfl) (by kernel_rfl) (by kernel_rfl) (by rfl) (fun _ _ _ h => h) (Or.inl ⟨by rfl, ?gY4_10⟩) (by assumption) ?gR4_10; case gY4_10 => (intro w hSw; (try dsimp only at hSw); go_simp <;> with_reducible rfl))
    try simp only [Act.put, zA, zB, zC]
    (refine wpE_takeP (i := 10) (v := ?gV4_11) (by simp only [zD]; rfl) (by kernel_rfl) (by kernel_rfl) (by kernel_rfl) (by rfl) (fun _ _ _ h => h) (Or.inl ⟨by rfl, ?gY4_11⟩) (by assumption) ?gR4_11; case gY4_11 => (intro w hSw; (try dsimp only at hSw); go_simp <;> with_reducible rfl))
    try simp only [Act.put, zA, zB, zC]
    refine wpE_done (by kernel_rfl) ?_ _
    refine NoPanic.normal ?_
    refine gen_e (fun WF hWF => ?_)
    obtain ⟨s0, s1, s2⟩ := set3_cells g40 g41 g42 (v0 := .int .i64 xz) (v1 := .slice A7 L.length c7) (v2 := .slice A8 S.length c8)
    have f0 : WF.cell? ⟨w.heap.size + 1 + 1, 0, none⟩ = some (.int .i64 xz) := by rw [hWF.out]; exact s0
    have f1 : WF.cell? ⟨w.heap.size + 1 + 1, 1, none⟩ = some (.slice A7 L.length c7) := by rw [hWF.out]; exact s1
    have f2 : WF.cell? ⟨w.heap.size + 1 + 1, 2, none⟩ = some (.slice A8 S.length c8) := by rw [hWF.out]; exact s2
    have hBF : Below w.heap.size w WF := by rw [hWF.out]; exact (((Below.own hwW hWW5).setCell (by simp only; omega) _).setCell (by simp only; omega) _).setCell (by simp only; omega) _
    have HNF : Hid (Ow cNode 9 68 WF X0.heap.size (.slice A7 L.length c7) L) := Lib.hid (by rw [hWF.out]; exact (H5.out.nodes.below hWW5).set_low hXs _ _ _)
    have HSF : Hid (Ow cInt 1 3 WF X0.heap.size (.slice A8 S.length c8) S) := Lib.hid (by rw [hWF.out]; exact (H5.out.sess.below hWW5).set_low hXs _ _ _)
    have HVF : Hid (Ow cEvent 2 84 WF X0.heap.size (.slice A9 V.length c9) V) := Lib.hid (by rw [hWF.out]; exact (H5.out.evs.below hWW5).set_low hXs _ _ _)
    clear hWF s0 s1 s2
    go_wp2_with fail
    refine bodyPost_ret (v := .tuple #[.agg #[.int .i64 xz, .slice A7 L.length c7, .slice A8 S.length c8], .slice A9 V.length c9, .int .i64 0]) (by simp [results, Tryz.results13, go_sem, f0, f1, f2]) rfl (HYES2.out _ HNF.out HSF.out HVF.out hBF)
end Go.Proofs.YtchgpijfebilbaaGreatDoor

/- package tree: Apply, at every tree and transaction. -/
namespace Go.Proofs.YtchgpijfebilbaaGreatDoor
open Go.RowKit Go.ChangeShapes Go.WideShapes Go.ChangeAt
theorem trApply (z : Int) (v v2 : Value) (l : List Node) (ss : List Int) (x : Txn) (w : World) (h : Sl cNode 9 w v l) (h2 : Sl cInt 1 w v2 ss) (hn : l.length * 88 ≤ 140737488355328) (hn2 : (ss.length + 1) * 8 ≤ 140737488355328) (hz : ∀ n ∈ l, n.path.size ≤ 9223372036854775807) (hp : x.path.size ≤ 9223372036854775807) :
    Calls Tryz.prog 13 #[.agg #[.int .i64 z, v, v2], txnV x] w (ApplyRes ⟨z, l, ss⟩ x w) := by
  by_cases hw : wrongE ⟨z, l, ss⟩ x = 0
  · have ho := (goodT_inv (wrong_inv hw).2.1).1
    rcases (by omega : x.op = 1 ∨ x.op = 2 ∨ x.op = 3 ∨ x.op = 4 ∨ x.op = 5) with ho | ho | ho | ho | ho
    · exact trApply_1 z v v2 l ss x w h h2 hn hn2 hz hp hw ho
    · exact trApply_2 z v v2 l ss x w h h2 hn hn2 hz hp hw ho
    · exact trApply_3 z v v2 l ss x w h h2 hn hn2 hz hp hw ho
    · exact trApply_4 z v v2 l ss x w h h2 hn hn2 hz hp hw ho
    · exact trApply_5 z v v2 l ss x w h h2 hn hn2 hz hp hw ho
  · exact trApply_wrong z v v2 l ss x w h h2 (by omega) (by omega) hz hp hw
end Go.Proofs.YtchgpijfebilbaaGreatDoor

/- package prep: version. -/
namespace Go.Proofs.YtchgpijfebilbaaGreatDoor
open Go.RowKit Go.ChangeShapes Go.WideShapes Go.ChangeAt
abbrev reqV (r : Request) : Value := .agg #[.int .i64 r.op, .int .i64 r.session, .string r.path, .string r.data, .int .i64 r.version, .int .i64 r.flags]
set_option maxHeartbeats 1000000 in
theorem trVersion (z : Int) (v v2 : Value) (l : List Node) (ss : List Int) (r : Request) (w : World) (h : Sl cNode 9 w v l) (h2 : Sl cInt 1 w v2 ss) (hn : l.length ≤ 140737488355328) (hn2 : ss.length * 8 ≤ 140737488355328) (hp : r.path.size ≤ 9223372036854775807) :
    Calls Tryz.prog 32 #[.agg #[.int .i64 z, v, v2], reqV r] w fun e w' => e = .returned (.tuple #[.int .i64 (versR ⟨z, l, ss⟩ r).1, .int .i64 (versR ⟨z, l, ss⟩ r).2]) ∧ Below w.heap.size w w' := by
  obtain ⟨A, c, rfl, h1, h1b⟩ := h.form
  obtain ⟨A2, c2, rfl, h3, h3b⟩ := h2.form
  have HV := Lib.hid h
  have HS := Lib.hid h2
  clear h h2
  obtain ⟨ro, rs, rp, rd, rv, rf⟩ := r
  have HG := Lib.hid (fun (W : World) => good_any rp W hp)
  have HOP := Lib.hid (fun (W : World) (h : Sl cInt 1 W (.slice A2 ss.length c2) ss) => trOpen z (.slice A2 ss.length c2) A l.length c ss rs W h (by omega))
  have HGT := Lib.hid (fun (W : World) (h : Sl cNode 9 W (.slice A l.length c) l) => trGet z (.slice A l.length c) A2 ss.length c2 l rp W h (by omega))
  unfold versR
  simp only
  unfold getE at HGT
  cases g1 : goodP rp with
  | false =>
    rw [g1] at HG
    clear g1 HOP HGT
    simp only [Bool.false_eq_true, if_false]
    go_enter Tryz.func32, Tryz.ntmps32
    go_wp2_with (go_at_call 59; refine (HG.out _).mono ?_; rintro e w1 ⟨rfl, hb⟩; obtain ⟨ext1, d1, rfl⟩ := Below.grown_eq _ hb; clear hb)
    go_ret2
    exact ⟨rfl, (by repeat (first | with_reducible (first | exact bA .. | assumption | exact bJ .. | exact bK .. | exact bL .. | exact bM .. | exact bN .. | refine bB ?_ | refine bC ?_ _ | refine bD _ _ ?_ | refine bE _ ?_ | refine bF ?_ ?_ _ | refine bG ?_ ?_ _ | refine bH _ _ _ ?_ ?_) | omega | (simp; done) | (simp; omega)))⟩
  | true =>
    rw [g1] at HG
    rw [if_pos rfl]
    cases g2 : isI ss rs with
    | false =>
      rw [g2] at HOP
      clear g1 g2 HGT
      simp only [Bool.false_eq_true, if_false]
      go_enter Tryz.func32, Tryz.ntmps32
      go_wp2_with (first | (go_at_call 59; refine (HG.out _).mono ?_; rintro e w1 ⟨rfl, hb⟩; obtain ⟨ext1, d1, rfl⟩ := Below.grown_eq _ hb; clear hb) | (go_at_call 43; refine (HOP.out _ (HS.out.below (by repeat (first | with_reducible (first | exact bA .. | assumption | exact bJ .. | exact bK .. | exact bL .. | exact bM .. | exact bN .. | refine bB ?_ | refine bC ?_ _ | refine bD _ _ ?_ | refine bE _ ?_ | refine bF ?_ ?_ _ | refine bG ?_ ?_ _ | refine bH _ _ _ ?_ ?_) | omega | (simp; done) | (simp; omega))))).mono ?_; rintro e w1 ⟨rfl, hb⟩; obtain ⟨ext2, d2, rfl⟩ := Below.grown_eq _ hb; clear hb))
      go_ret2
      exact ⟨rfl, (by repeat (first | with_reducible (first | exact bA .. | assumption | exact bJ .. | exact bK .. | exact bL .. | exact bM .. | exact bN .. | refine bB ?_ | refine bC ?_ _ | refine bD _ _ ?_ | refine bE _ ?_ | refine bF ?_ ?_ _ | refine bG ?_ ?_ _ | refine bH _ _ _ ?_ ?_) | omega | (simp; done) | (simp; omega)))⟩
    | true =>
      rw [g2] at HOP
      rw [if_pos rfl]
      cases g3 : hasN l rp with
      | false =>
        rw [g3, get_noN g3] at HGT
        clear g1 g2 g3
        simp only [Bool.false_eq_true, if_false] at HGT ⊢
        go_enter Tryz.func32, Tryz.ntmps32
        go_wp2_with (first | (go_at_call 59; refine (HG.out _).mono ?_; rintro e w1 ⟨rfl, hb⟩; obtain ⟨ext1, d1, rfl⟩ := Below.grown_eq _ hb; clear hb) | (go_at_call 43; refine (HOP.out _ (HS.out.below (by repeat (first | with_reducible (first | exact bA .. | assumption | exact bJ .. | exact bK .. | exact bL .. | exact bM .. | exact bN .. | refine bB ?_ | refine bC ?_ _ | refine bD _ _ ?_ | refine bE _ ?_ | refine bF ?_ ?_ _ | refine bG ?_ ?_ _ | refine bH _ _ _ ?_ ?_) | omega | (simp; done) | (simp; omega))))).mono ?_; rintro e w1 ⟨rfl, hb⟩; obtain ⟨ext2, d2, rfl⟩ := Below.grown_eq _ hb; clear hb) | (go_at_call 44; refine (HGT.out _ (HV.out.below (by repeat (first | with_reducible (first | exact bA .. | assumption | exact bJ .. | exact bK .. | exact bL .. | exact bM .. | exact bN .. | refine bB ?_ | refine bC ?_ _ | refine bD _ _ ?_ | refine bE _ ?_ | refine bF ?_ ?_ _ | refine bG ?_ ?_ _ | refine bH _ _ _ ?_ ?_) | omega | (simp; done) | (simp; omega))))).mono ?_; rintro e w1 ⟨rfl, hb⟩; obtain ⟨ext3, d3, rfl⟩ := Below.grown_eq _ hb; clear hb))
        go_ret2
        exact ⟨rfl, (by repeat (first | with_reducible (first | exact bA .. | assumption | exact bJ .. | exact bK .. | exact bL .. | exact bM .. | exact bN .. | refine bB ?_ | refine bC ?_ _ | refine bD _ _ ?_ | refine bE _ ?_ | refine bF ?_ ?_ _ | refine bG ?_ ?_ _ | refine bH _ _ _ ?_ ?_) | omega | (simp; done) | (simp; omega)))⟩
      | true =>
        rw [g3, if_pos rfl] at HGT
        rw [if_pos rfl]
        generalize getN l rp = n at *
        obtain ⟨np, nd, n1, n2, n3, n4, n5, n6, n7⟩ := n
        simp only at HGT ⊢
        clear g1 g2 g3
        by_cases g4 : rv = -1
        · subst g4
          rw [if_neg (fun e => e.1 rfl)]
          simp only
          go_enter Tryz.func32, Tryz.ntmps32
          go_wp2_with (first | (go_at_call 59; refine (HG.out _).mono ?_; rintro e w1 ⟨rfl, hb⟩; obtain ⟨ext1, d1, rfl⟩ := Below.grown_eq _ hb; clear hb) | (go_at_call 43; refine (HOP.out _ (HS.out.below (by repeat (first | with_reducible (first | exact bA .. | assumption | exact bJ .. | exact bK .. | exact bL .. | exact bM .. | exact bN .. | refine bB ?_ | refine bC ?_ _ | refine bD _ _ ?_ | refine bE _ ?_ | refine bF ?_ ?_ _ | refine bG ?_ ?_ _ | refine bH _ _ _ ?_ ?_) | omega | (simp; done) | (simp; omega))))).mono ?_; rintro e w1 ⟨rfl, hb⟩; obtain ⟨ext2, d2, rfl⟩ := Below.grown_eq _ hb; clear hb) | (go_at_call 44; refine (HGT.out _ (HV.out.below (by repeat (first | with_reducible (first | exact bA .. | assumption | exact bJ .. | exact bK .. | exact bL .. | exact bM .. | exact bN .. | refine bB ?_ | refine bC ?_ _ | refine bD _ _ ?_ | refine bE _ ?_ | refine bF ?_ ?_ _ | refine bG ?_ ?_ _ | refine bH _ _ _ ?_ ?_) | omega | (simp; done) | (simp; omega))))).mono ?_; rintro e w1 ⟨rfl, hb⟩; obtain ⟨ext3, d3, rfl⟩ := Below.grown_eq _ hb; clear hb))
          go_ret2
          exact ⟨rfl, (by repeat (first | with_reducible (first | exact bA .. | assumption | exact bJ .. | exact bK .. | exact bL .. | exact bM .. | exact bN .. | refine bB ?_ | refine bC ?_ _ | refine bD _ _ ?_ | refine bE _ ?_ | refine bF ?_ ?_ _ | refine bG ?_ ?_ _ | refine bH _ _ _ ?_ ?_) | omega | (simp; done) | (simp; omega)))⟩
        · have b1 : (rv == -1) = false := beq_eq_false_iff_ne.2 g4
          have b2 : (rv != -1) = true := bne_iff_ne.2 g4
          by_cases g5 : rv = n4
          · subst g5
            rw [if_neg (fun e => e.2 rfl)]
            simp only
            clear g4
            go_enter Tryz.func32, Tryz.ntmps32
            go_wp2_with (first | (go_at_call 59; refine (HG.out _).mono ?_; rintro e w1 ⟨rfl, hb⟩; obtain ⟨ext1, d1, rfl⟩ := Below.grown_eq _ hb; clear hb) | (go_at_call 43; refine (HOP.out _ (HS.out.below (by repeat (first | with_reducible (first | exact bA .. | assumption | exact bJ .. | exact bK .. | exact bL .. | exact bM .. | exact bN .. | refine bB ?_ | refine bC ?_ _ | refine bD _ _ ?_ | refine bE _ ?_ | refine bF ?_ ?_ _ | refine bG ?_ ?_ _ | refine bH _ _ _ ?_ ?_) | omega | (simp; done) | (simp; omega))))).mono ?_; rintro e w1 ⟨rfl, hb⟩; obtain ⟨ext2, d2, rfl⟩ := Below.grown_eq _ hb; clear hb) | (go_at_call 44; refine (HGT.out _ (HV.out.below (by repeat (first | with_reducible (first | exact bA .. | assumption | exact bJ .. | exact bK .. | exact bL .. | exact bM .. | exact bN .. | refine bB ?_ | refine bC ?_ _ | refine bD _ _ ?_ | refine bE _ ?_ | refine bF ?_ ?_ _ | refine bG ?_ ?_ _ | refine bH _ _ _ ?_ ?_) | omega | (simp; done) | (simp; omega))))).mono ?_; rintro e w1 ⟨rfl, hb⟩; obtain ⟨ext3, d3, rfl⟩ := Below.grown_eq _ hb; clear hb))
            go_ret2
            exact ⟨rfl, (by repeat (first | with_reducible (first | exact bA .. | assumption | exact bJ .. | exact bK .. | exact bL .. | exact bM .. | exact bN .. | refine bB ?_ | refine bC ?_ _ | refine bD _ _ ?_ | refine bE _ ?_ | refine bF ?_ ?_ _ | refine bG ?_ ?_ _ | refine bH _ _ _ ?_ ?_) | omega | (simp; done) | (simp; omega)))⟩
          · rw [if_pos ⟨g4, g5⟩]
            have b3 : (rv == n4) = false := beq_eq_false_iff_ne.2 g5
            have b4 : (rv != n4) = true := bne_iff_ne.2 g5
            clear g4 g5
            simp only
            go_enter Tryz.func32, Tryz.ntmps32
            go_wp2_with (first | (go_at_call 59; refine (HG.out _).mono ?_; rintro e w1 ⟨rfl, hb⟩; obtain ⟨ext1, d1, rfl⟩ := Below.grown_eq _ hb; clear hb) | (go_at_call 43; refine (HOP.out _ (HS.out.below (by repeat (first | with_reducible (first | exact bA .. | assumption | exact bJ .. | exact bK .. | exact bL .. | exact bM .. | exact bN .. | refine bB ?_ | refine bC ?_ _ | refine bD _ _ ?_ | refine bE _ ?_ | refine bF ?_ ?_ _ | refine bG ?_ ?_ _ | refine bH _ _ _ ?_ ?_) | omega | (simp; done) | (simp; omega))))).mono ?_; rintro e w1 ⟨rfl, hb⟩; obtain ⟨ext2, d2, rfl⟩ := Below.grown_eq _ hb; clear hb) | (go_at_call 44; refine (HGT.out _ (HV.out.below (by repeat (first | with_reducible (first | exact bA .. | assumption | exact bJ .. | exact bK .. | exact bL .. | exact bM .. | exact bN .. | refine bB ?_ | refine bC ?_ _ | refine bD _ _ ?_ | refine bE _ ?_ | refine bF ?_ ?_ _ | refine bG ?_ ?_ _ | refine bH _ _ _ ?_ ?_) | omega | (simp; done) | (simp; omega))))).mono ?_; rintro e w1 ⟨rfl, hb⟩; obtain ⟨ext3, d3, rfl⟩ := Below.grown_eq _ hb; clear hb))
            go_ret2
            exact ⟨rfl, (by repeat (first | with_reducible (first | exact bA .. | assumption | exact bJ .. | exact bK .. | exact bL .. | exact bM .. | exact bN .. | refine bB ?_ | refine bC ?_ _ | refine bD _ _ ?_ | refine bE _ ?_ | refine bF ?_ ?_ _ | refine bG ?_ ?_ _ | refine bH _ _ _ ?_ ?_) | omega | (simp; done) | (simp; omega)))⟩
end Go.Proofs.YtchgpijfebilbaaGreatDoor

/- Contract of path.Serial: a step with a number of ten digits behind it. -/
namespace Go.Proofs.YtchgpijfebilbaaGreatDoor
open Go.RowKit
def Bm (w : World) (g : Nat) (cs : Array Value) (t : TypeId) : Prop := w.heap[g]? = some (.cells cs t (cs.size, cs.size + 1))
theorem Bm.cell {w : World} {g : Nat} {cs : Array Value} {t : TypeId} (h : Bm w g cs t) (i : Nat) : w.cell? ⟨g, i, none⟩ = cs[i]? := by unfold Bm at h; simp [World.cell?, h]
theorem Bm.frozen {w : World} {g : Nat} {cs : Array Value} {t : TypeId} (h : Bm w g cs t) {i : Nat} (hi : i < cs.size) : w.frozen? ⟨g, i, none⟩ = false := by
  unfold Bm at h
  simp [World.frozen?, h]
  omega
theorem Bm.set {w : World} {g : Nat} {cs : Array Value} {t : TypeId} (h : Bm w g cs t) (i : Nat) (v : Value) : Bm (w.setCell ⟨g, i, none⟩ v) g (cs.setIfInBounds i v) t := by
  unfold Bm at h ⊢
  simp [World.setCell, Array.getElem?_modify, h]
def bv (c : UInt8) : Value := .int .u8 (c.toNat : Int)
def rowOf (l : List UInt8) (z : List Value) : Array Value := (l.map bv ++ z).toArray
theorem rowOf_get (l : List UInt8) (z : List Value) (i : Nat) (h : i < l.length) : (rowOf l z)[i]? = some (bv l[i]) := by
  unfold rowOf
  simp [List.getElem?_append_left, h]
theorem rowOf_set (l : List UInt8) (z : List Value) (i : Nat) (h : i < l.length) (c : UInt8) : (rowOf l z).setIfInBounds i (bv c) = rowOf (l.set i c) z := by
  unfold rowOf
  apply Array.ext'
  simp [List.set_append_left, h, List.map_set]
theorem rowOf_size (l : List UInt8) (z : List Value) : (rowOf l z).size = l.length + z.length := by simp [rowOf]

theorem serial_start (w : World) (s : ByteArray) (n : Nat) (e : TypeId) (cap : Nat) :
    Bm ((w.alloc (.cells (bytesRow (s ++ ⟨#[48, 48, 48, 48, 48, 48, 48, 48, 48, 48]⟩) cap) e ((bytesRow (s ++ ⟨#[48, 48, 48, 48, 48, 48, 48, 48, 48, 48]⟩) cap).size, (bytesRow (s ++ ⟨#[48, 48, 48, 48, 48, 48, 48, 48, 48, 48]⟩) cap).size + 1))).drew)
      w.heap.size (rowOf (bs s ++ part 0 n) (List.replicate (cap - (s.size + 10)) (.int .u8 0))) e ∧
    Below w.heap.size w ((w.alloc (.cells (bytesRow (s ++ ⟨#[48, 48, 48, 48, 48, 48, 48, 48, 48, 48]⟩) cap) e ((bytesRow (s ++ ⟨#[48, 48, 48, 48, 48, 48, 48, 48, 48, 48]⟩) cap).size, (bytesRow (s ++ ⟨#[48, 48, 48, 48, 48, 48, 48, 48, 48, 48]⟩) cap).size + 1))).drew) := by
  have hC : bytesRow (s ++ ⟨#[48, 48, 48, 48, 48, 48, 48, 48, 48, 48]⟩) cap = rowOf (bs s ++ part 0 n) (List.replicate (cap - (s.size + 10)) (.int .u8 0)) := by
    apply Array.ext'
    have h1 : (s ++ (⟨#[48, 48, 48, 48, 48, 48, 48, 48, 48, 48]⟩ : ByteArray)).data.toList = bs s ++ List.replicate 10 48 := by
      simp [bs]
    have h2 : (s ++ (⟨#[48, 48, 48, 48, 48, 48, 48, 48, 48, 48]⟩ : ByteArray)).size = s.size + 10 := by simp; rfl
    simp only [bytesRow, rowOf, Array.toList_append, Array.toList_map, h1, h2, Array.toList_replicate]
    simp [part, digs]
    rfl
  rw [hC]
  refine ⟨?_, ((Below.refl _ _).alloc (Nat.le_refl _) _).drew⟩
  exact heap_alloc_new w _
theorem byte_of (m : Nat) : (48 : Int) + (m : Int) % 10 = ((UInt8.ofNat (48 + m % 10)).toNat : Int) := by
  simp
  omega
theorem serial_rel {w : World} {g e n j q : Nat} {s : ByteArray} {z : List Value} (h : Bm w g (rowOf (bs s ++ part j n) z) e) (hj : j < 10) (hq : (q : Int) = s.size + 9 - j) :
    Bm (w.setCell ⟨g, q, none⟩ (.int .u8 (48 + ((n / 10 ^ j : Nat) : Int) % 10))) g (rowOf (bs s ++ part (j + 1) n) z) e := by
  have h1 := h.set q (.int .u8 (48 + ((n / 10 ^ j : Nat) : Int) % 10))
  have hv : (Value.int .u8 (48 + ((n / 10 ^ j : Nat) : Int) % 10)) = bv (UInt8.ofNat (48 + n / 10 ^ j % 10)) := by rw [bv, ← byte_of]
  have hl : (bs s ++ part j n).length = s.size + 10 := by rw [List.length_append, length_bs, length_part j n (by omega)]
  rw [hv] at h1 ⊢
  rw [rowOf_set _ _ _ (by omega), List.set_append_right _ _ (by rw [length_bs]; omega), length_bs, show q - s.size = 9 - j from by omega, part_set j n hj] at h1
  exact h1
theorem serial_at {w : World} {g e n j q : Nat} {s : ByteArray} {z : List Value} (h : Bm w g (rowOf (bs s ++ part j n) z) e) (hj : j < 10) (hq : (q : Int) = s.size + 9 - j) :
    (∃ c, w.cell? ⟨g, q, none⟩ = some (bv c)) ∧ w.frozen? ⟨g, q, none⟩ = false := by
  have hl : (bs s ++ part j n).length = s.size + 10 := by rw [List.length_append, length_bs, length_part j n (by omega)]
  exact ⟨⟨_, by rw [h.cell, rowOf_get _ _ _ (by omega)]⟩, h.frozen (by rw [rowOf_size]; omega)⟩

theorem bs_mk (L : List UInt8) : bs ⟨L.toArray⟩ = L := rfl
theorem serial_back {P : Program} {w : World} {g e src dst N cap : Nat} {L : List UInt8} {z : List Value} (h : Bm w g (rowOf L z) e) (hN : L.length = N) (hs : P.underlying src = some (.slice e)) (he : P.underlying e = some (.int .u8)) (hd : P.underlying dst = some .string) :
    (convert src dst (.slice (some ⟨g, 0, none⟩) N cap)).run P w = .ok (.string ⟨L.toArray⟩) w := by
  subst hN
  refine run_convert_bytes_back w src dst e ⟨g, 0, none⟩ cap L hs he hd (fun j hj => ?_)
  have hadd : (⟨g, 0, none⟩ : Addr).add j = ⟨g, j, none⟩ := by unfold Addr.add; split <;> simp_all
  rw [hadd, h.cell, rowOf_get _ _ _ hj]
  rfl
def serialR (L : List UInt8) : Ending := if named L then .returned (.tuple #[.string ⟨L.toArray⟩, .int .i64 0]) else .returned (.tuple #[.string ⟨#[]⟩, .int .i64 2])
set_option maxRecDepth 100000 in
set_option maxHeartbeats 400000 in
theorem serial_walk (s : ByteArray) (n : Nat) (L : List UInt8) (hL : Hid (bs s ++ digs 10 n = L)) (w : World) (hn : n ≤ 2147483647) (hs : s.size ≤ 140737488351232) :
    Calls Tryz.prog 61 #[.string s, .int .i64 n] w fun e w' => e = serialR L ∧ Below w.heap.size w w' := by
  have hconv := fun (w : World) (s : ByteArray) => run_bytes_of_string (P := Tryz.prog) w 9 147 5 s Tryz.underlying9 Tryz.underlying147 Tryz.underlying5
  go_enter Tryz.func61, Tryz.ntmps61
  go_wp2
  obtain ⟨f1, f2⟩ := serial_start w s n 5 (grownCap w (s.size + 10) 0 5)
  generalize World.drew (World.alloc w _) = W1 at f1 f2 ⊢
  generalize grownCap w (s.size + 10) 0 5 = cap at f1 ⊢
  generalize List.replicate (cap - (s.size + 10)) (Value.int .u8 0) = z at f1
  generalize hg : w.heap.size = g at f1 f2 ⊢
  have Hg := Lib.hid hg
  clear hg
  have F1 := Lib.hid f1
  clear f1 hconv
  go_loopw [1, 7] (fun n' i wr => ∃ (j m : Nat) (q : Int), j ≤ 10 ∧ m ≤ 2147483647 ∧ n' = .int .i64 m ∧ i = .int .i64 q ∧ q ≤ s.size + 9 ∧ Hid (m = n / 10 ^ j) ∧ Hid (q = s.size + 9 - j) ∧ Hid (Bm wr g (rowOf (bs s ++ part j n) z) 5) ∧ Below g w wr) (fun n' _ _ => (intOf n').toNat)
  case atStart => exact ⟨0, n, _, by omega, hn, rfl, rfl, by omega, (by simp : n = n / 10 ^ 0), (by simp; omega : ((s.size : Int) + 10 - 1 = s.size + 9 - (0 : Nat))), F1, f2⟩
  case round =>
    obtain ⟨j, m, q, hj, hm, rfl, rfl, hq9, Hm, Hq, HB, hb⟩ := hrel
    clear F1
    by_cases hpos : 0 < m
    · have hj10 : j < 10 := lt_ten hn (by rw [← Hm.out]; exact hpos)
      obtain ⟨q', rfl⟩ : ∃ q' : Nat, q = q' := ⟨q.toNat, by have := Hq.out; omega⟩
      obtain ⟨⟨c, hc⟩, hf⟩ := serial_at HB.out hj10 Hq.out
      have HR := Lib.hid (serial_rel HB.out hj10 Hq.out)
      have hqs : (q' : Int) < s.size + 10 := by omega
      go_wp2
      go_roundw
      case rel =>
        refine ⟨j + 1, m / 10, (q' : Int) - 1, by omega, by omega, by go_num, rfl, by omega, ?_, ?_, ?_, hb.setCell (Nat.le_refl _) _⟩
        · show m / 10 = n / 10 ^ (j + 1)
          rw [Hm.out, Nat.div_div_eq_div_mul, Nat.pow_succ]
        · show (q' : Int) - 1 = s.size + 9 - ((j + 1 : Nat) : Int)
          have := Hq.out
          omega
        · have := HR.out
          rw [← Hm.out] at this
          exact this
      case measure => simp [intOf]; omega
    · have hm0 : m ≤ 0 := by omega
      have HB2 : Bm wr g (rowOf L z) 5 := by rw [← hL.out, ← part_end j n hj (by have := Hm.out; omega)]; exact HB.out
      have hback := serial_back HB2 (cap := cap) (by rw [← hL.out, List.length_append, length_bs, length_digs]) Tryz.underlying147 Tryz.underlying5 Tryz.underlying9
      have hLs : (⟨L.toArray⟩ : ByteArray).size ≤ 9223372036854775807 := by
        show L.toArray.size ≤ _
        rw [← hL.out]
        simp [length_digs]
        omega
      have HLs := Lib.hid hLs
      clear HB Hm Hq HB2 hLs
      cases hnm : named L
      all_goals
        go_wp2_with (go_at_call 79; refine (named_any _ _ HLs.out).mono ?_; rw [bs_mk, hnm]; rintro e w1 ⟨rfl, rfl⟩)
        go_ret2
        exact ⟨by unfold serialR; rw [hnm]; rfl, by rw [Hg.out]; exact hb⟩
theorem serial_range (s : ByteArray) (n : Int) (w : World) (hn : n < 0 ∨ 2147483647 < n) :
    Calls Tryz.prog 61 #[.string s, .int .i64 n] w fun e w' => e = .returned (.tuple #[.string ⟨#[]⟩, .int .i64 3]) ∧ w = w' := by
  go_enter Tryz.func61, Tryz.ntmps61
  go_wp2
  all_goals
    go_ret2
    exact ⟨rfl, rfl⟩
end Go.Proofs.YtchgpijfebilbaaGreatDoor

/- Steps of a sequence: plain laws, and path.Serial. -/
namespace Go.Proofs.YtchgpijfebilbaaGreatDoor
open Go.ChangeShapes Go.WideShapes Go.ChangeAt Go.RowKit
theorem trSerial (s : ByteArray) (n : Int) (w : World) (hs : s.size ≤ 140737488351232) :
    Calls Tryz.prog 61 #[.string s, .int .i64 n] w fun e w' => e = .returned (.tuple #[.string (serR s n).1, .int .i64 (serR s n).2]) ∧ Below w.heap.size w w' := by
  unfold serR
  by_cases hr : n < 0 ∨ 2147483647 < n
  · rw [if_pos hr]
    exact (serial_range s n w hr).mono fun e w' ⟨he, hw⟩ => ⟨he, by rw [← hw]; exact Below.refl _ _⟩
  · rw [if_neg hr]
    obtain ⟨k, rfl⟩ : ∃ k : Nat, n = k := ⟨n.toNat, by omega⟩
    refine (serial_walk s k _ rfl w (by omega) hs).mono fun e w' ⟨he, hb⟩ => ⟨?_, hb⟩
    rw [he]
    unfold serialR
    rw [Int.toNat_natCast]
    cases named (bs s ++ digs 10 k) <;> rfl
end Go.Proofs.YtchgpijfebilbaaGreatDoor

/- package prep: plain laws of what is made ready. -/
namespace Go.Proofs.YtchgpijfebilbaaGreatDoor
open Go.RowKit
theorem split_ok {p : ByteArray} (h : (splitR p).2.2 = 0) : goodP p = true ∧ p ≠ slash := by
  have hg : goodP p = true := by
    cases hg : goodP p with
    | true => rfl
    | false =>
      unfold splitR at h
      rw [hg] at h
      simp at h
  exact ⟨hg, (split_not hg).1 h⟩
end Go.Proofs.YtchgpijfebilbaaGreatDoor

/- package prep: create. -/
namespace Go.Proofs.YtchgpijfebilbaaGreatDoor
open Go.RowKit Go.ChangeShapes Go.WideShapes Go.ChangeAt
def CreIs (t : Tr) (r : Request) (zx op s : Int) (bx : Nat) (w : World) (e : Ending) (w' : World) : Prop :=
  e = .returned (.int .i64 (creR t r).2) ∧ Below bx w w' ∧ ∃ (p d : ByteArray) (o : Int), Bk w' bx [.int .i64 zx, .int .i64 op, .int .i64 s, .string p, .string d, .int .i64 0, .int .i64 o] 53 ∧ ((creR t r).2 = 0 → p = (creR t r).1 ∧ d = r.data ∧ o = if ephF r.flags then r.session else 0)
set_option maxHeartbeats 2000000 in
theorem trCreate_no (z : Int) (v v2 : Value) (l : List Node) (ss : List Int) (r : Request) (zx op s : Int) (bx : Nat) (w0 w : World) (h : Sl cNode 9 w0 v l) (h2 : Sl cInt 1 w0 v2 ss) (hB : Below w0.heap.size w0 w)
    (hk : Bk w bx [.int .i64 zx, .int .i64 op, .int .i64 s, .string ⟨#[]⟩, .string ⟨#[]⟩, .int .i64 0, .int .i64 0] 53) (hn2 : ss.length * 8 ≤ 140737488355328) (hp : r.path.size ≤ 9223372036854775807)
    (hno : (r.flags < 0 ∨ 3 < r.flags) ∨ (splitR r.path).2.2 ≠ 0 ∨ isI ss r.session = false) :
    Calls Tryz.prog 31 #[.agg #[.int .i64 z, v, v2], .pointer (some ⟨bx, 0, none⟩), reqV r] w (CreIs ⟨z, l, ss⟩ r zx op s bx w) := by
  obtain ⟨A, c, rfl, h1, h1b⟩ := h.form
  obtain ⟨A2, c2, rfl, h3, h3b⟩ := h2.form
  have HV := Lib.hid h
  have HS := Lib.hid h2
  clear h h2
  have hs := hB.size
  have hlt := hk.lt
  have HK := Lib.hid hk
  clear hk
  obtain ⟨ro, rs, rp, rd, rv, rf⟩ := r
  have HSP := Lib.hid (fun (W : World) => split_any rp W hp)
  have HOP := Lib.hid (fun (W : World) (h : Sl cInt 1 W (.slice A2 ss.length c2) ss) => trOpen z (.slice A2 ss.length c2) A l.length c ss rs W h (by omega))
  have fin : ∀ (E : Int) (w' : World), creR ⟨z, l, ss⟩ ⟨ro, rs, rp, rd, rv, rf⟩ = (⟨#[]⟩, E) → E ≠ 0 → Below w.heap.size w w' → CreIs ⟨z, l, ss⟩ ⟨ro, rs, rp, rd, rv, rf⟩ zx op s bx w (.returned (.int .i64 E)) w' := by
    intro E w' he hE hb
    unfold CreIs
    rw [he]
    exact ⟨rfl, hb.mono (by omega), _, _, _, HK.out.below hb, fun e => absurd e hE⟩
  have HF := Lib.hid fin
  clear fin
  simp only at hno
  by_cases c1 : rf < 0 ∨ 3 < rf
  · have HF2 := Lib.hid (fun w' => HF.out 3 w' (by unfold creR; rw [if_pos c1]) (by decide))
    rcases c1 with c1 | c1
    · have e1 : decide (rf < 0) = true := decide_eq_true c1
      clear c1 hno HF HK
      go_enter Tryz.func31, Tryz.ntmps31
      go_wp2_with fail
      go_ret
      exact HF2.out _ (by repeat (first | with_reducible (first | exact bA .. | assumption | exact bJ .. | exact bK .. | exact bL .. | exact bM .. | exact bN .. | refine bB ?_ | refine bC ?_ _ | refine bD _ _ ?_ | refine bE _ ?_ | refine bF ?_ ?_ _ | refine bG ?_ ?_ _ | refine bH _ _ _ ?_ ?_) | omega | (simp; done) | (simp; omega)))
    · have e1 : decide (rf < 0) = false := decide_eq_false (by omega)
      have e2 : decide (3 < rf) = true := decide_eq_true c1
      clear c1 hno HF HK
      go_enter Tryz.func31, Tryz.ntmps31
      go_wp2_with fail
      go_ret
      exact HF2.out _ (by repeat (first | with_reducible (first | exact bA .. | assumption | exact bJ .. | exact bK .. | exact bL .. | exact bM .. | exact bN .. | refine bB ?_ | refine bC ?_ _ | refine bD _ _ ?_ | refine bE _ ?_ | refine bF ?_ ?_ _ | refine bG ?_ ?_ _ | refine bH _ _ _ ?_ ?_) | omega | (simp; done) | (simp; omega)))
  · have e1 : decide (rf < 0) = false := decide_eq_false (by omega)
    have e2 : decide (3 < rf) = false := decide_eq_false (by omega)
    by_cases c2' : (splitR rp).2.2 = 0
    · have c3 : isI ss rs = false := by
        rcases hno with hno | hno | hno
        · exact absurd hno c1
        · exact absurd c2' hno
        · exact hno
      have HF2 := Lib.hid (fun w' => HF.out 12 w' (by unfold creR; rw [if_neg c1]; simp only; rw [if_neg (by omega), c3, if_pos rfl]) (by decide))
      rw [c2'] at HSP
      rw [c3] at HOP
      generalize (splitR rp).2.1 = st at *
      generalize (splitR rp).1 = dir at *
      clear c1 hno HF HK c2' c3
      go_enter Tryz.func31, Tryz.ntmps31
      go_wp2_with (first | (go_at_call 60; refine (HSP.out _).mono ?_; rintro e w1 ⟨rfl, hb⟩; obtain ⟨ext1, d1, rfl⟩ := Below.grown_eq _ hb; clear hb) | (go_at_call 43; refine (HOP.out _ (HS.out.below (by repeat (first | with_reducible (first | exact bA .. | assumption | exact bJ .. | exact bK .. | exact bL .. | exact bM .. | exact bN .. | refine bB ?_ | refine bC ?_ _ | refine bD _ _ ?_ | refine bE _ ?_ | refine bF ?_ ?_ _ | refine bG ?_ ?_ _ | refine bH _ _ _ ?_ ?_) | omega | (simp; done) | (simp; omega))))).mono ?_; rintro e w1 ⟨rfl, hb⟩; obtain ⟨ext2, d2, rfl⟩ := Below.grown_eq _ hb; clear hb))
      go_ret
      exact HF2.out _ (by repeat (first | with_reducible (first | exact bA .. | assumption | exact bJ .. | exact bK .. | exact bL .. | exact bM .. | exact bN .. | refine bB ?_ | refine bC ?_ _ | refine bD _ _ ?_ | refine bE _ ?_ | refine bF ?_ ?_ _ | refine bG ?_ ?_ _ | refine bH _ _ _ ?_ ?_) | omega | (simp; done) | (simp; omega)))
    · have HF2 := Lib.hid (fun w' => HF.out 2 w' (by unfold creR; rw [if_neg c1]; simp only; rw [if_pos c2']) (by decide))
      generalize (splitR rp).2.2 = se at *
      generalize (splitR rp).2.1 = st at *
      generalize (splitR rp).1 = dir at *
      have e3 : (se == 0) = false := beq_eq_false_iff_ne.2 c2'
      have e4 : (se != 0) = true := bne_iff_ne.2 c2'
      clear c1 hno HF HK c2'
      go_enter Tryz.func31, Tryz.ntmps31
      go_wp2_with (first | (go_at_call 60; refine (HSP.out _).mono ?_; rintro e w1 ⟨rfl, hb⟩; obtain ⟨ext1, d1, rfl⟩ := Below.grown_eq _ hb; clear hb) | (go_at_call 43; refine (HOP.out _ (HS.out.below (by repeat (first | with_reducible (first | exact bA .. | assumption | exact bJ .. | exact bK .. | exact bL .. | exact bM .. | exact bN .. | refine bB ?_ | refine bC ?_ _ | refine bD _ _ ?_ | refine bE _ ?_ | refine bF ?_ ?_ _ | refine bG ?_ ?_ _ | refine bH _ _ _ ?_ ?_) | omega | (simp; done) | (simp; omega))))).mono ?_; rintro e w1 ⟨rfl, hb⟩; obtain ⟨ext2, d2, rfl⟩ := Below.grown_eq _ hb; clear hb))
      go_ret
      exact HF2.out _ (by repeat (first | with_reducible (first | exact bA .. | assumption | exact bJ .. | exact bK .. | exact bL .. | exact bM .. | exact bN .. | refine bB ?_ | refine bC ?_ _ | refine bD _ _ ?_ | refine bE _ ?_ | refine bF ?_ ?_ _ | refine bG ?_ ?_ _ | refine bH _ _ _ ?_ ?_) | omega | (simp; done) | (simp; omega)))
theorem serR_size (s : ByteArray) (n : Int) : (serR s n).1.size ≤ s.size + 10 := by
  unfold serR
  split
  · exact Nat.zero_le _
  · split
    · show (List.toArray (bs s ++ digs 10 n.toNat)).size ≤ _
      rw [List.size_toArray, List.length_append, length_digs, length_bs]
      exact Nat.le_refl _
    · exact Nat.zero_le _
set_option maxRecDepth 100000 in
set_option maxHeartbeats 4000000 in
theorem trCreate_yes (z : Int) (v v2 : Value) (l : List Node) (ss : List Int) (r : Request) (zx op s : Int) (bx : Nat) (w0 w : World) (h : Sl cNode 9 w0 v l) (h2 : Sl cInt 1 w0 v2 ss) (hB : Below w0.heap.size w0 w) (hbx : w0.heap.size ≤ bx)
    (hk : Bk w bx [.int .i64 zx, .int .i64 op, .int .i64 s, .string ⟨#[]⟩, .string ⟨#[]⟩, .int .i64 0, .int .i64 0] 53) (hn : l.length ≤ 140737488355328) (hn2 : ss.length * 8 ≤ 140737488355328) (hp : r.path.size ≤ 9223372036854775807)
    (hf1 : ¬ (r.flags < 0 ∨ 3 < r.flags)) (hf2 : (splitR r.path).2.2 = 0) (hf3 : isI ss r.session = true) :
    Calls Tryz.prog 31 #[.agg #[.int .i64 z, v, v2], .pointer (some ⟨bx, 0, none⟩), reqV r] w (CreIs ⟨z, l, ss⟩ r zx op s bx w) := by
  obtain ⟨A, c, rfl, h1, h1b⟩ := h.form
  obtain ⟨A2, c2, rfl, h3, h3b⟩ := h2.form
  have HV := Lib.hid h
  have HS := Lib.hid h2
  clear h h2
  have hs := hB.size
  have hlt := hk.lt
  have HK := Lib.hid hk
  clear hk
  obtain ⟨ro, rs, rp, rd, rv, rf⟩ := r
  have HSP := Lib.hid (fun (W : World) => split_any rp W hp)
  have HOP := Lib.hid (fun (W : World) (h : Sl cInt 1 W (.slice A2 ss.length c2) ss) => trOpen z (.slice A2 ss.length c2) A l.length c ss rs W h (by omega))
  have HC : Hid (creR ⟨z, l, ss⟩ ⟨ro, rs, rp, rd, rv, rf⟩ = if seqF rf then seqR ⟨z, l, ss⟩ rp else (rp, 0)) := Lib.hid (by
    unfold creR
    rw [if_neg hf1]
    simp only
    rw [if_neg (fun e => e hf2), hf3, if_neg (by decide)])
  simp only at hf1 hf2 hf3
  have e1 : decide (rf < 0) = false := decide_eq_false (by omega)
  have e2 : decide (3 < rf) = false := decide_eq_false (by omega)
  obtain ⟨hgp, hps⟩ := split_ok hf2
  have hsz := goodP_size hgp
  obtain ⟨_, hgd, hnm, _⟩ := split_join hgp hps
  have hsd := goodP_size hgd
  have hss := (named_no hnm).2.2
  rw [length_bs] at hss
  rw [hf2] at HSP
  rw [hf3] at HOP
  have HGT := Lib.hid (fun (W : World) (h : Sl cNode 9 W (.slice A l.length c) l) => trGet z (.slice A l.length c) A2 ss.length c2 l (splitR rp).1 W h (by omega))
  have hbits : (bits .and .i64 rf 2 = 0 ∧ seqF rf = false ∨ bits .and .i64 rf 2 = 2 ∧ seqF rf = true) ∧ (bits .and .i64 rf 1 = 0 ∧ ephF rf = false ∨ bits .and .i64 rf 1 = 1 ∧ ephF rf = true) := by
    rcases (by omega : rf = 0 ∨ rf = 1 ∨ rf = 2 ∨ rf = 3) with rfl | rfl | rfl | rfl <;> decide
  have HBT := Lib.hid hbits
  have HSQ : Hid (seqR ⟨z, l, ss⟩ rp = if hasN l (splitR rp).1 then (if (serR (splitR rp).2.1 (getN l (splitR rp).1).cversion).2 ≠ 0 then (⟨#[]⟩, (serR (splitR rp).2.1 (getN l (splitR rp).1).cversion).2) else joinR (splitR rp).1 (serR (splitR rp).2.1 (getN l (splitR rp).1).cversion).1) else (⟨#[]⟩, 7)) := Lib.hid rfl
  generalize (splitR rp).2.1 = st at *
  generalize (splitR rp).1 = dir at *
  unfold getE at HGT
  clear hf1 hf2 hf3 hgp hps hgd hnm hbits
  go_enter Tryz.func31, Tryz.ntmps31
  go_upto_region 8 with (first | (go_at_call 60; refine (HSP.out _).mono ?_; rintro e w1 ⟨rfl, hb⟩; obtain ⟨ext1, d1, rfl⟩ := Below.grown_eq _ hb; clear hb) | (go_at_call 43; refine (HOP.out _ (HS.out.below (by repeat (first | with_reducible (first | exact bA .. | assumption | exact bJ .. | exact bK .. | exact bL .. | exact bM .. | exact bN .. | refine bB ?_ | refine bC ?_ _ | refine bD _ _ ?_ | refine bE _ ?_ | refine bF ?_ ?_ _ | refine bG ?_ ?_ _ | refine bH _ _ _ ?_ ?_) | omega | (simp; done) | (simp; omega))))).mono ?_; rintro e w1 ⟨rfl, hb⟩; obtain ⟨ext2, d2, rfl⟩ := Below.grown_eq _ hb; clear hb))
  refine gen_w (fun wa hwa => ?_)
  have hbwa : Below w.heap.size w wa := by rw [hwa.out]; exact (by repeat (first | with_reducible (first | exact bA .. | assumption | exact bJ .. | exact bK .. | exact bL .. | exact bM .. | exact bN .. | refine bB ?_ | refine bC ?_ _ | refine bD _ _ ?_ | refine bE _ ?_ | refine bF ?_ ?_ _ | refine bG ?_ ?_ _ | refine bH _ _ _ ?_ ?_) | omega | (simp; done) | (simp; omega)))
  have hwa1 : w.heap.size + 1 < wa.heap.size := by rw [hwa.out]; simp <;> omega
  have t0 : wa.cell? ⟨w.heap.size, 0, none⟩ = some (.int .i64 z) := by rw [hwa.out]; go_simp
  have t1 : wa.cell? ⟨w.heap.size, 1, none⟩ = some (.slice A l.length c) := by rw [hwa.out]; go_simp
  have t2 : wa.cell? ⟨w.heap.size, 2, none⟩ = some (.slice A2 ss.length c2) := by rw [hwa.out]; go_simp
  have r1 : wa.cell? ⟨w.heap.size + 1, 1, none⟩ = some (.int .i64 rs) := by rw [hwa.out]; go_simp
  have r2 : wa.cell? ⟨w.heap.size + 1, 2, none⟩ = some (.string rp) := by rw [hwa.out]; go_simp
  have r3 : wa.cell? ⟨w.heap.size + 1, 3, none⟩ = some (.string rd) := by rw [hwa.out]; go_simp
  have r5 : wa.cell? ⟨w.heap.size + 1, 5, none⟩ = some (.int .i64 rf) := by rw [hwa.out]; go_simp
  clear hwa HSP HOP
  refine wp_region_noPanic ?_
  refine wp_region_W (by kernel_rfl) (fun W hW => ?_)
  have cl0 : W.cell? ⟨w.heap.size + 1, 2, none⟩ = some (.string rp) := by rw [hW.out]; go_simp
  have cl1 : W.cell? ⟨w.heap.size + 1, 3, none⟩ = some (.string rd) := by rw [hW.out]; go_simp
  have HBW := Lib.hid (HK.out.below (w' := W) (by rw [hW.out]; exact hbwa.drew))
  have z3 : W.cell? ⟨bx, 3, none⟩ = some (.string ⟨#[]⟩) := HBW.out.cell 3
  have z4 : W.cell? ⟨bx, 4, none⟩ = some (.string ⟨#[]⟩) := HBW.out.cell 4
  have zf3 : W.frozen? ⟨bx, 3, none⟩ = false := HBW.out.frozen 3
  have zf4 : W.frozen? ⟨bx, 4, none⟩ = false := HBW.out.frozen 4
  have hWr : Below w.heap.size w W := by rw [hW.out]; exact hbwa.drew
  have hWa : Below wa.heap.size wa W := by rw [hW.out]; exact (by repeat (first | with_reducible (first | exact bA .. | assumption | exact bJ .. | exact bK .. | exact bL .. | exact bM .. | exact bN .. | refine bB ?_ | refine bC ?_ _ | refine bD _ _ ?_ | refine bE _ ?_ | refine bF ?_ ?_ _ | refine bG ?_ ?_ _ | refine bH _ _ _ ?_ ?_) | omega | (simp; done) | (simp; omega)))
  refine wpAny_S (fun w' => w'.cell? ⟨w.heap.size + 1, 2, none⟩ = some (.string rp) ∧ w'.cell? ⟨w.heap.size + 1, 3, none⟩ = some (.string rd)) (fun i => false) (by (try dsimp only); (refine ⟨?_, ?_⟩ <;> go_simp)) (fun hHeld => ?_)
  (refine wpE_takeP (i := 0) (v := ?gV1_1) (by simp only [zD]; rfl) (by kernel_rfl) (by kernel_rfl) (by kernel_rfl) (by rfl) (fun _ _ _ h => h) (Or.inl ⟨by rfl, ?gY1_1⟩) (by assumption) ?gR1_1; case gY1_1 => (intro w hSw; (try dsimp only at hSw); go_simp <;> with_reducible rfl))
  try simp only [Act.put, zA, zB, zC]
  (refine wpE_takeP (i := 1) (v := ?gV1_2) (by simp only [zD]; rfl) (by kernel_rfl) (by kernel_rfl) (by kernel_rfl) (by rfl) (fun _ _ _ h => h) (Or.inl ⟨by rfl, ?gY1_2⟩) (by assumption) ?gR1_2; case gY1_2 => (intro w hSw; (try dsimp only at hSw); go_simp <;> with_reducible rfl))
  try simp only [Act.put, zA, zB, zC]
  (refine wpE_takeP (i := 2) (v := ?gV1_3) (by simp only [zD]; rfl) (by kernel_rfl) (by kernel_rfl) (by kernel_rfl) (by rfl) (fun _ _ _ h => h) (Or.inl ⟨by rfl, ?gY1_3⟩) (by assumption) ?gR1_3; case gY1_3 => (intro w hSw; (try dsimp only at hSw); go_simp <;> with_reducible rfl))
  try simp only [Act.put, zA, zB, zC]
  (refine wpE_take (i := 3) (v := ?gV1_4) (by simp only [zD]; rfl) (by kernel_rfl) (by kernel_rfl) (by kernel_rfl) (by kernel_rfl) (by kernel_rfl) (by rfl) (fun _ _ _ h => h) (Or.inl ⟨by rfl, ?gY1_4⟩) (by assumption) ?gR1_4; case gY1_4 => (intro w hSw; (try dsimp only at hSw); go_simp <;> with_reducible rfl))
  try simp only [Act.put, zA, zB, zC]
  (refine wpE_takeP (i := 4) (v := ?gV1_5) (by simp only [zD]; rfl) (by kernel_rfl) (by kernel_rfl) (by kernel_rfl) (by rfl) (fun _ _ _ h => h) (Or.inl ⟨by rfl, ?gY1_5⟩) (by assumption) ?gR1_5; case gY1_5 => (intro w hSw; (try dsimp only at hSw); go_simp <;> with_reducible rfl))
  try simp only [Act.put, zA, zB, zC]
  (refine wpE_take (i := 5) (v := ?gV1_6) (by simp only [zD]; rfl) (by kernel_rfl) (by kernel_rfl) (by kernel_rfl) (by kernel_rfl) (by kernel_rfl) (by rfl) (fun _ _ _ h => h) (Or.inl ⟨by rfl, ?gY1_6⟩) (by assumption) ?gR1_6; case gY1_6 => (intro w hSw; (try dsimp only at hSw); go_simp <;> with_reducible rfl))
  try simp only [Act.put, zA, zB, zC]
  (refine wpE_takeP (i := 6) (v := ?gV1_7) (by simp only [zD]; rfl) (by kernel_rfl) (by kernel_rfl) (by kernel_rfl) (by rfl) (fun _ _ _ h => h) (Or.inl ⟨by rfl, ?gY1_7⟩) (by assumption) ?gR1_7; case gY1_7 => (intro w hSw; (try dsimp only at hSw); go_simp <;> with_reducible rfl))
  try simp only [Act.put, zA, zB, zC]
  (refine wpE_takeP (i := 7) (v := ?gV1_8) (by simp only [zD]; rfl) (by kernel_rfl) (by kernel_rfl) (by kernel_rfl) (by rfl) (fun _ _ _ h => h) (Or.inl ⟨by rfl, ?gY1_8⟩) (by assumption) ?gR1_8; case gY1_8 => (intro w hSw; (try dsimp only at hSw); go_simp <;> with_reducible rfl))
  try simp only [Act.put, zA, zB, zC]
  refine wpE_ready (rs := [8]) (by kernel_rfl) (by simp) ?_
  refine AllE.cons (by simp only [zD]; rfl) (fun K hK => ?_) AllE.nil
  go_simp
  refine hK.out _ _ ?gT1_9 (fun hHeld => ?_)
  case gT1_9 => ((try dsimp only); (refine ⟨?_, ?_⟩ <;> go_simp))
  clear hK K
  try simp only [Act.put, zA, zB, zC]
  (refine wpE_takeP (i := 9) (v := ?gV1_10) (by simp only [zD]; rfl) (by kernel_rfl) (by kernel_rfl) (by kernel_rfl) (by rfl) (fun _ _ _ h => h) (Or.inl ⟨by rfl, ?gY1_10⟩) (by assumption) ?gR1_10; case gY1_10 => (intro w hSw; (try dsimp only at hSw); go_simp <;> with_reducible rfl))
  try simp only [Act.put, zA, zB, zC]
  (refine wpE_takeP (i := 10) (v := ?gV1_11) (by simp only [zD]; rfl) (by kernel_rfl) (by kernel_rfl) (by kernel_rfl) (by rfl) (fun _ _ _ h => h) (Or.inl ⟨by rfl, ?gY1_11⟩) (by assumption) ?gR1_11; case gY1_11 => (intro w hSw; (try dsimp only at hSw); go_simp <;> with_reducible rfl))
  try simp only [Act.put, zA, zB, zC]
  refine wpE_ready (rs := [11]) (by kernel_rfl) (by simp) ?_
  refine AllE.cons (by simp only [zD]; rfl) (fun K hK => ?_) AllE.nil
  go_simp
  refine hK.out _ _ ?gT1_12 (fun hHeld => ?_)
  case gT1_12 => ((try dsimp only); (refine ⟨?_, ?_⟩ <;> go_simp))
  clear hK K
  try simp only [Act.put, zA, zB, zC]
  refine wpE_done (by kernel_rfl) ?_ _
  refine NoPanic.normal ?_
  refine gen_e (fun wb hwb => ?_)
  have hWb : Below bx W wb := by rw [hwb.out]; exact Below.set_up (Below.set_up (Below.refl _ _) (Nat.le_refl _)) (Nat.le_refl _)
  have hbwb : Below bx w wb := (hWr.mono (by omega)).trans hWb
  have hb0 : Below w0.heap.size w0 wb := (hB.trans (hWr.mono hs)).trans (hWb.mono hbx)
  have HB := Lib.hid (show Bk wb bx [.int .i64 zx, .int .i64 op, .int .i64 s, .string rp, .string rd, .int .i64 0, .int .i64 0] 53 from hwb.out ▸ ((HBW.out.put 3 (.string rp)).put 4 (.string rd)))
  have hwb1 : w.heap.size + 1 < wb.heap.size := Nat.lt_of_lt_of_le hwa1 (Nat.le_trans hWa.size hWb.size)
  have w0 := keep2 hWa t0
  have w1 := keep2 hWa t1
  have w2 := keep2 hWa t2
  have w3 := keep2 hWa r1
  have w5 := keep2 hWa r5
  clear t0 t1 t2 r1 r2 r3 r5 cl0 cl1 hHeld z3 z4 zf3 zf4
  have t0 : wb.cell? ⟨w.heap.size, 0, none⟩ = some (.int .i64 z) := by rw [hwb.out]; go_simp
  have t1 : wb.cell? ⟨w.heap.size, 1, none⟩ = some (.slice A l.length c) := by rw [hwb.out]; go_simp
  have t2 : wb.cell? ⟨w.heap.size, 2, none⟩ = some (.slice A2 ss.length c2) := by rw [hwb.out]; go_simp
  have r1 : wb.cell? ⟨w.heap.size + 1, 1, none⟩ = some (.int .i64 rs) := by rw [hwb.out]; go_simp
  have r5 : wb.cell? ⟨w.heap.size + 1, 5, none⟩ = some (.int .i64 rf) := by rw [hwb.out]; go_simp
  have b6 : wb.cell? ⟨bx, 6, none⟩ = some (.int .i64 0) := HB.out.cell 6
  have f6 : wb.frozen? ⟨bx, 6, none⟩ = false := HB.out.frozen 6
  have hbx2 : bx < wb.heap.size := HB.out.lt
  clear w0 w1 w2 w3 w5 hwb hW hWr hWa hWb HBW HK
  rcases HBT.out.1 with ⟨a2, g2⟩ | ⟨a2, g2⟩
  · have HCR := HC
    rw [g2, if_neg (by decide)] at HCR
    clear g2 HC HSQ HGT
    rcases HBT.out.2 with ⟨a1, g1⟩ | ⟨a1, g1⟩
    · have HG1 := Lib.hid g1
      clear g1
      go_wp2_with fail
      refine bodyPost_ret (v := .int .i64 0) (by simp [results, Tryz.results31, go_sem]) rfl ?_
      unfold CreIs
      rw [HCR.out]
      refine ⟨rfl, ?_, rp, rd, 0, ?_, fun _ => ⟨rfl, rfl, ?_⟩⟩
      · exact hbwb
      · exact HB.out
      · simp only; rw [HG1.out]; rfl
    · have HG1 := Lib.hid g1
      clear g1
      go_wp2_with fail
      refine bodyPost_ret (v := .int .i64 0) (by simp [results, Tryz.results31, go_sem]) rfl ?_
      unfold CreIs
      rw [HCR.out]
      refine ⟨rfl, ?_, rp, rd, rs, ?_, fun _ => ⟨rfl, rfl, ?_⟩⟩
      · exact Below.set_up hbwb (Nat.le_refl _)
      · exact HB.out.put 6 (.int .i64 rs)
      · simp only; rw [HG1.out]; rfl
  · have HCR := HC
    rw [g2, if_pos rfl, HSQ.out] at HCR
    clear g2 HC HSQ
    cases hh : hasN l dir with
    | false =>
      rw [hh, if_neg (by decide)] at HCR
      rw [hh, if_neg (by decide)] at HGT
      clear hh
      go_wp2_with (go_at_call 44; refine (HGT.out _ (HV.out.below (by repeat (first | with_reducible (first | exact bA .. | assumption | exact bJ .. | exact bK .. | exact bL .. | exact bM .. | exact bN .. | refine bB ?_ | refine bC ?_ _ | refine bD _ _ ?_ | refine bE _ ?_ | refine bF ?_ ?_ _ | refine bG ?_ ?_ _ | refine bH _ _ _ ?_ ?_) | omega | (simp; done) | (simp; omega))))).mono ?_; rintro e w1 ⟨rfl, hb⟩; obtain ⟨ext3, d3, rfl⟩ := Below.grown_eq _ hb; clear hb)
      refine bodyPost_ret (v := .int .i64 7) (by simp [results, Tryz.results31, go_sem]) rfl ?_
      unfold CreIs
      rw [HCR.out]
      refine ⟨rfl, ?_, rp, rd, 0, HB.out.below (by repeat (first | with_reducible (first | exact bA .. | assumption | exact bJ .. | exact bK .. | exact bL .. | exact bM .. | exact bN .. | refine bB ?_ | refine bC ?_ _ | refine bD _ _ ?_ | refine bE _ ?_ | refine bF ?_ ?_ _ | refine bG ?_ ?_ _ | refine bH _ _ _ ?_ ?_) | omega | (simp; done) | (simp; omega))), fun e => absurd e (by decide)⟩
      exact hbwb.trans (Below.mono (show Below wb.heap.size wb _ from (by repeat (first | with_reducible (first | exact bA .. | assumption | exact bJ .. | exact bK .. | exact bL .. | exact bM .. | exact bN .. | refine bB ?_ | refine bC ?_ _ | refine bD _ _ ?_ | refine bE _ ?_ | refine bF ?_ ?_ _ | refine bG ?_ ?_ _ | refine bH _ _ _ ?_ ?_) | omega | (simp; done) | (simp; omega)))) (by omega))
    | true =>
      rw [hh, if_pos rfl] at HCR
      rw [hh, if_pos rfl] at HGT
      clear hh
      generalize getN l dir = n at *
      obtain ⟨np, nd, n1, n2, n3, n4, n5, n6, n7⟩ := n
      simp only at HCR HGT
      have HSE := Lib.hid (fun (W : World) => trSerial st n5 W (by omega))
      have hs1 := serR_size st n5
      generalize serR st n5 = sr at *
      obtain ⟨s1, s2⟩ := sr
      simp only at HCR HSE hs1
      by_cases hs2 : s2 = 0
      · subst hs2
        rw [if_neg (fun e => e rfl)] at HCR
        have HJN := Lib.hid (fun (W : World) => join_any dir s1 W (by omega) (by omega))
        generalize joinR dir s1 = jr at *
        obtain ⟨j1, j2⟩ := jr
        simp only at HJN
        have b3 : wb.cell? ⟨bx, 3, none⟩ = some (.string rp) := HB.out.cell 3
        have f3 : wb.frozen? ⟨bx, 3, none⟩ = false := HB.out.frozen 3
        go_upto_region 17 with (first | (go_at_call 44; refine (HGT.out _ (HV.out.below (by repeat (first | with_reducible (first | exact bA .. | assumption | exact bJ .. | exact bK .. | exact bL .. | exact bM .. | exact bN .. | refine bB ?_ | refine bC ?_ _ | refine bD _ _ ?_ | refine bE _ ?_ | refine bF ?_ ?_ _ | refine bG ?_ ?_ _ | refine bH _ _ _ ?_ ?_) | omega | (simp; done) | (simp; omega))))).mono ?_; rintro e w1 ⟨rfl, hb⟩; obtain ⟨ext3, d3, rfl⟩ := Below.grown_eq _ hb; clear hb) | (go_at_call 61; refine (HSE.out _).mono ?_; rintro e w1 ⟨rfl, hb⟩; obtain ⟨ext4, d4, rfl⟩ := Below.grown_eq _ hb; clear hb) | (go_at_call 62; refine (HJN.out _).mono ?_; rintro e w1 ⟨rfl, hb⟩; obtain ⟨ext5, d5, rfl⟩ := Below.grown_eq _ hb; clear hb))
        refine gen_w (fun wc hwc => ?_)
        have hP9 : Below (wb.setCell ⟨bx, 3, none⟩ (.string j1)).heap.size (wb.setCell ⟨bx, 3, none⟩ (.string j1)) wc := by rw [hwc.out]; exact (by repeat (first | with_reducible (first | exact bA .. | assumption | exact bJ .. | exact bK .. | exact bL .. | exact bM .. | exact bN .. | refine bB ?_ | refine bC ?_ _ | refine bD _ _ ?_ | refine bE _ ?_ | refine bF ?_ ?_ _ | refine bG ?_ ?_ _ | refine bH _ _ _ ?_ ?_) | omega | (simp; done) | (simp; omega)))
        have hbc : Below bx wb wc := (Below.set_up (Below.refl bx wb) (Nat.le_refl _)).trans (hP9.mono (by simp <;> omega))
        have HP3 := Lib.hid (show Bk (wb.setCell ⟨bx, 3, none⟩ (.string j1)) bx [.int .i64 zx, .int .i64 op, .int .i64 s, .string j1, .string rd, .int .i64 0, .int .i64 0] 53 from HB.out.put 3 (.string j1))
        have HB4 := Lib.hid (show Bk wc bx [.int .i64 zx, .int .i64 op, .int .i64 s, .string j1, .string rd, .int .i64 0, .int .i64 0] 53 from hwc.out ▸ (HP3.out.below (by repeat (first | with_reducible (first | exact bA .. | assumption | exact bJ .. | exact bK .. | exact bL .. | exact bM .. | exact bN .. | refine bB ?_ | refine bC ?_ _ | refine bD _ _ ?_ | refine bE _ ?_ | refine bF ?_ ?_ _ | refine bG ?_ ?_ _ | refine bH _ _ _ ?_ ?_) | omega | (simp; done) | (simp; omega)))))
        have r1' : wc.cell? ⟨w.heap.size + 1, 1, none⟩ = some (.int .i64 rs) := by rw [hwc.out]; go_simp
        have r5' : wc.cell? ⟨w.heap.size + 1, 5, none⟩ = some (.int .i64 rf) := by rw [hwc.out]; go_simp
        have hbwc : Below bx w wc := hbwb.trans hbc
        have hwc1 : w.heap.size + 1 < wc.heap.size := Nat.lt_of_lt_of_le hwb1 hbc.size
        clear hwc HP3 hP9 hbwb HB r1 r5 t0 t1 t2 b6 f6 b3 f3 hbx2 HGT HSE HJN hbc hwb1
        have hbwb := hbwc
        have HB := HB4
        have b6 : wc.cell? ⟨bx, 6, none⟩ = some (.int .i64 0) := HB.out.cell 6
        have f6 : wc.frozen? ⟨bx, 6, none⟩ = false := HB.out.frozen 6
        have hbx2 : bx < wc.heap.size := HB.out.lt
        clear HB4 hbwc
        by_cases hj : j2 = 0
        · subst hj
          rcases HBT.out.2 with ⟨a1, g1⟩ | ⟨a1, g1⟩
          · have HG1 := Lib.hid g1
            clear g1
            go_wp2_with fail
            refine bodyPost_ret (v := .int .i64 0) (by simp [results, Tryz.results31, go_sem]) rfl ?_
            unfold CreIs
            rw [HCR.out]
            refine ⟨rfl, ?_, j1, rd, 0, ?_, fun _ => ⟨rfl, rfl, ?_⟩⟩
            · exact hbwb
            · exact HB.out
            · simp only; rw [HG1.out]; rfl
          · have HG1 := Lib.hid g1
            clear g1
            go_wp2_with fail
            refine bodyPost_ret (v := .int .i64 0) (by simp [results, Tryz.results31, go_sem]) rfl ?_
            unfold CreIs
            rw [HCR.out]
            refine ⟨rfl, ?_, j1, rd, rs, ?_, fun _ => ⟨rfl, rfl, ?_⟩⟩
            · exact Below.set_up hbwb (Nat.le_refl _)
            · exact HB.out.put 6 (.int .i64 rs)
            · simp only; rw [HG1.out]; rfl
        · have b2 : (j2 == 0) = false := beq_eq_false_iff_ne.2 hj
          have b3 : (j2 != 0) = true := bne_iff_ne.2 hj
          have HN2 := Lib.hid hj
          clear hj
          go_wp2_with fail
          refine bodyPost_ret (v := .int .i64 j2) (by simp [results, Tryz.results31, go_sem]) rfl ?_
          unfold CreIs
          rw [HCR.out]
          exact ⟨rfl, hbwb, j1, rd, 0, HB.out, fun e => absurd e HN2.out⟩
      · rw [if_pos hs2] at HCR
        have b2 : (s2 == 0) = false := beq_eq_false_iff_ne.2 hs2
        have b3 : (s2 != 0) = true := bne_iff_ne.2 hs2
        have HN2 := Lib.hid hs2
        clear hs2
        go_wp2_with (first | (go_at_call 44; refine (HGT.out _ (HV.out.below (by repeat (first | with_reducible (first | exact bA .. | assumption | exact bJ .. | exact bK .. | exact bL .. | exact bM .. | exact bN .. | refine bB ?_ | refine bC ?_ _ | refine bD _ _ ?_ | refine bE _ ?_ | refine bF ?_ ?_ _ | refine bG ?_ ?_ _ | refine bH _ _ _ ?_ ?_) | omega | (simp; done) | (simp; omega))))).mono ?_; rintro e w1 ⟨rfl, hb⟩; obtain ⟨ext3, d3, rfl⟩ := Below.grown_eq _ hb; clear hb) | (go_at_call 61; refine (HSE.out _).mono ?_; rintro e w1 ⟨rfl, hb⟩; obtain ⟨ext4, d4, rfl⟩ := Below.grown_eq _ hb; clear hb))
        refine bodyPost_ret (v := .int .i64 s2) (by simp [results, Tryz.results31, go_sem]) rfl ?_
        unfold CreIs
        rw [HCR.out]
        refine ⟨rfl, ?_, rp, rd, 0, HB.out.below (by repeat (first | with_reducible (first | exact bA .. | assumption | exact bJ .. | exact bK .. | exact bL .. | exact bM .. | exact bN .. | refine bB ?_ | refine bC ?_ _ | refine bD _ _ ?_ | refine bE _ ?_ | refine bF ?_ ?_ _ | refine bG ?_ ?_ _ | refine bH _ _ _ ?_ ?_) | omega | (simp; done) | (simp; omega))), fun e => absurd e HN2.out⟩
        exact hbwb.trans (Below.mono (show Below wb.heap.size wb _ from (by repeat (first | with_reducible (first | exact bA .. | assumption | exact bJ .. | exact bK .. | exact bL .. | exact bM .. | exact bN .. | refine bB ?_ | refine bC ?_ _ | refine bD _ _ ?_ | refine bE _ ?_ | refine bF ?_ ?_ _ | refine bG ?_ ?_ _ | refine bH _ _ _ ?_ ?_) | omega | (simp; done) | (simp; omega)))) (by omega))
theorem trCreate (z : Int) (v v2 : Value) (l : List Node) (ss : List Int) (r : Request) (zx op s : Int) (bx : Nat) (w0 w : World) (h : Sl cNode 9 w0 v l) (h2 : Sl cInt 1 w0 v2 ss) (hB : Below w0.heap.size w0 w) (hbx : w0.heap.size ≤ bx)
    (hk : Bk w bx [.int .i64 zx, .int .i64 op, .int .i64 s, .string ⟨#[]⟩, .string ⟨#[]⟩, .int .i64 0, .int .i64 0] 53) (hn : l.length ≤ 140737488355328) (hn2 : ss.length * 8 ≤ 140737488355328) (hp : r.path.size ≤ 9223372036854775807) :
    Calls Tryz.prog 31 #[.agg #[.int .i64 z, v, v2], .pointer (some ⟨bx, 0, none⟩), reqV r] w (CreIs ⟨z, l, ss⟩ r zx op s bx w) := by
  by_cases h1 : r.flags < 0 ∨ 3 < r.flags
  · exact trCreate_no z v v2 l ss r zx op s bx w0 w h h2 hB hk hn2 hp (.inl h1)
  by_cases h3 : (splitR r.path).2.2 = 0
  · cases h4 : isI ss r.session with
    | false => exact trCreate_no z v v2 l ss r zx op s bx w0 w h h2 hB hk hn2 hp (.inr (.inr h4))
    | true => exact trCreate_yes z v v2 l ss r zx op s bx w0 w h h2 hB hbx hk hn hn2 hp h1 h3 h4
  · exact trCreate_no z v v2 l ss r zx op s bx w0 w h h2 hB hk hn2 hp (.inr (.inl h3))
end Go.Proofs.YtchgpijfebilbaaGreatDoor

/- aviarykeep: a tree of its own memory. -/
namespace Go.Proofs.YtchgpijfebilbaaGreatDoor
open Go.RowKit Go.ChangeShapes Go.WideShapes Go.ChangeAt
end Go.Proofs.YtchgpijfebilbaaGreatDoor

/- aviarykeep: does tree answer at all? -/
namespace Go.Proofs.YtchgpijfebilbaaGreatDoor
open Go.RowKit Go.ChangeShapes Go.WideShapes Go.ChangeAt
end Go.Proofs.YtchgpijfebilbaaGreatDoor

/- A tree that comes from outside, opened. -/
namespace Go.Proofs.YtchgpijfebilbaaGreatDoor
open Go.RowKit Go.ChangeShapes Go.WideShapes Go.ChangeAt
end Go.Proofs.YtchgpijfebilbaaGreatDoor

/- The tree laws: what 'a, events, e := tree.Apply(own(t), x)' leaves. -/
namespace Go.Proofs.YtchgpijfebilbaaGreatDoor
open Go.RowKit Go.ChangeShapes Go.WideShapes Go.ChangeAt
end Go.Proofs.YtchgpijfebilbaaGreatDoor
