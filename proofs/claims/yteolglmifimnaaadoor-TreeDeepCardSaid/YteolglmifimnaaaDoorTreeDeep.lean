/- The law TreeDeep is true for every input; no conditions. -/
import Derived.Test.YteolglmifimnaaaDoorCards
import Derived.Test.YteolglmifimnaaaDoorTie
import Derived.Lay
import Derived.LaidMore
import Derived.SevenTiedAt
import Derived.Test.YteolglmifimnaaaDoorPt1
import Derived.Test.YteolglmifimnaaaDoorPt2
import Derived.Test.YteolglmifimnaaaDoorPt3
import Derived.Test.YteolglmifimnaaaDoorPt4
import Derived.Test.YteolglmifimnaaaDoorPt5
import Derived.Test.YteolglmifimnaaaDoorPt6
import Derived.Test.YteolglmifimnaaaDoorPt7
import Derived.Test.YteolglmifimnaaaDoorPt8
import Derived.Test.YteolglmifimnaaaDoorPt9
namespace Go.Proofs.YteolglmifimnaaaDoor
open Go.RowKit Go.ChangeShapes Go.WideShapes Go.ChangeAt
theorem deep_node {T : Tr} (hg : goodTree T = true) {n : Node} (hn : n ∈ T.nodes) : hasN T.nodes n.path = true ∧ (((kidsL T.nodes n.path).length : Nat) : Int) = n.kids ∧ (n.owner = 0 ∨ isI T.sess n.owner = true) := by
  have g := (good_parts hg).1
  refine ⟨(get_ofN g.sorted hn).1, ?_, ?_⟩
  · rw [g.kids n hn]
    unfold kidsL
    rw [List.length_map, List.countP_eq_length_filter]
  · rcases g.own n hn with h | h
    · exact .inl h
    · exact .inr ((isI_iff g.sess).2 h.1)
theorem good_size {T : Tr} (hg : goodTree T = true) : T.nodes.length ≤ 400 ∧ (∀ n ∈ T.nodes, n.path.size ≤ 200) := by
  have g := (good_parts hg).1
  exact ⟨g.len, fun n hn => (goodP_size (g.path n hn).1).2⟩
theorem sess_next {t : Tr} {x : Txn} (h : applyE t x = 0) : (applyT t x).sess.length ≤ t.sess.length + 1 := by
  have hw := (applyE_0 h).1
  obtain ⟨hg, hx, hz, w1, w2, w3, w4, w5⟩ := wrong_inv hw
  have hs := (good_parts hg).1.sess
  rw [(applyT_0 h).1]
  show (doS t x).length ≤ _
  unfold doS
  by_cases h1 : x.op = 1
  · rw [if_pos h1, (insS_spec hs ((isI_no hs).1 (w1 h1))).2.2]
    exact Nat.le_refl _
  · rw [if_neg h1]
    by_cases h2 : x.op = 2
    · rw [if_pos h2]
      have h9 : (delS t.sess x.session).length + 1 = t.sess.length := (delS_spec hs ((isI_iff hs).1 (w2 h1))).2.2
      omega
    · rw [if_neg h2]
      exact Nat.le_succ _
/-- the tree in a box of its own, its rows its own, the error -/
def CutO (W : World) (T : Tr) (E : Int) (s5 s7 : Value) (wx : World) : Prop :=
  ∃ (b : Nat) (A : Option Addr) (c : Nat) (A2 : Option Addr) (c2 : Nat), s5 = .pointer (some ⟨b, 0, none⟩) ∧ s7 = .int .i64 E ∧ Below W.heap.size W wx ∧ W.heap.size ≤ b ∧ Hid (Bk wx b [.int .i64 T.zxid, .slice A T.nodes.length c, .slice A2 T.sess.length c2] 25) ∧
    Hid (Ow cNode 9 40 wx W.heap.size (.slice A T.nodes.length c) T.nodes) ∧ Hid (Ow cInt 1 3 wx W.heap.size (.slice A2 T.sess.length c2) T.sess)
theorem own_ne {α : Type} {f : α → List Value} {s : Nat} {e : TypeId} {w : World} {B g : Nat} {v : Value} {l : List α} (h : Ow f s e w B v l) (hg : g < B) : v.ownBlock ≠ some g := by
  intro e
  have := (h.own_in e).1
  omega
set_option maxRecDepth 100000 in
set_option maxHeartbeats 4000000 in
theorem treeDeep_ok (v : Value) (L : List Txn) (w : World) (h : Sl cTxn 7 w v L) (hz : ∀ t ∈ L, t.path.size ≤ 9223372036854775807) :
    Calls Tryd.prog 8 #[v] w fun e w' => e = .returned (.bool true) ∧ Below w.heap.size w w' := by
  obtain ⟨A, c, rfl, h1, h1b⟩ := h.form
  have HV := Lib.hid h
  have HZ := Lib.hid hz
  clear h hz
  have HGR := Lib.hid (fun (W : World) => grows_is W)
  go_enter Tryd.func8, Tryd.ntmps8
  go_upto_region 4 with (first | (go_at_call 22; refine (HGR.out _).mono ?_; rintro e w1 ⟨rfl, hb⟩; obtain ⟨ext0, d0, rfl⟩ := Below.grown_eq _ hb; clear hb) | (go_at_call 28; go_loud (refine (treeNew _).mono ?_; rintro e w1 ⟨A1, cA, rfl, ho, hb⟩; obtain ⟨ext1, d1, rfl⟩ := Below.grown_eq _ hb; have HO1 := Lib.hid ho; clear ho hb)))
  refine gen_w (fun wa hwa => ?_)
  have hbwa : Below w.heap.size w wa := by rw [hwa.out]; exact (by repeat (first | with_reducible exact Below.refl _ _ | with_reducible assumption | with_reducible exact below_d1 _ _ _ _ _ | with_reducible exact below_d2 _ _ _ _ _ _ _ _ | with_reducible exact below_d3 _ _ _ _ _ | with_reducible exact below_d4 _ _ _ _ _ _ _ _ | with_reducible exact below_d5 _ _ | with_reducible refine Below.drew ?_ | with_reducible refine Below.drewN' ?_ _ | with_reducible refine below_grow0 _ _ ?_ | with_reducible refine below_alloc0 _ ?_ | with_reducible refine Below.setCell ?_ ?_ _ | with_reducible refine Below.alloc ?_ ?_ _ | with_reducible refine Below.grow _ _ _ ?_ ?_ | omega | (simp; done) | (simp; omega)))
  have HBT := Lib.hid (show Bk wa (w.heap.size + ext0.size + ext1.size) [.int .i64 0, .slice A1 1 cA, .slice none 0 0] 25 by rw [hwa.out]; exact Bk.new _ _ _ (by simp))
  have HOA := Lib.hid (show Ow cNode 9 40 wa w.heap.size (.slice A1 1 cA) [rootN] by rw [hwa.out]; exact (HO1.out.mono (by simp)).below (by repeat (first | with_reducible exact Below.refl _ _ | with_reducible assumption | with_reducible exact below_d1 _ _ _ _ _ | with_reducible exact below_d2 _ _ _ _ _ _ _ _ | with_reducible exact below_d3 _ _ _ _ _ | with_reducible exact below_d4 _ _ _ _ _ _ _ _ | with_reducible exact below_d5 _ _ | with_reducible refine Below.drew ?_ | with_reducible refine Below.drewN' ?_ _ | with_reducible refine below_grow0 _ _ ?_ | with_reducible refine below_alloc0 _ ?_ | with_reducible refine Below.setCell ?_ ?_ _ | with_reducible refine Below.alloc ?_ ?_ _ | with_reducible refine Below.grow _ _ _ ?_ ?_ | omega | (simp; done) | (simp; omega))))
  have hne : (Value.slice A1 1 cA).ownBlock ≠ some (w.heap.size + ext0.size + ext1.size) := by
    intro e
    have h9 := HO1.out.lt _ e
    simp at h9
  have hbt : w.heap.size ≤ w.heap.size + ext0.size + ext1.size := by omega
  generalize w.heap.size + ext0.size + ext1.size = bt at *
  have HNE := Lib.hid hne
  clear hwa HO1 hne HGR
  go_wp2_with fail
  go_loopw [4] (fun i wr => ∃ (k : Nat) (T : Tr) (A1 : Option Addr) (c1 : Nat) (A2 : Option Addr) (c2 : Nat), k ≤ L.length ∧ k ≤ 80 ∧ i = .int .i64 k ∧ Below w.heap.size w wr ∧ Hid (goodTree T = true) ∧ T.sess.length ≤ k ∧ Hid (Bk wr bt [.int .i64 T.zxid, .slice A1 T.nodes.length c1, .slice A2 T.sess.length c2] 25) ∧
    Hid (Ow cNode 9 40 wr w.heap.size (.slice A1 T.nodes.length c1) T.nodes) ∧ Hid (Ow cInt 1 3 wr w.heap.size (.slice A2 T.sess.length c2) T.sess) ∧ Hid ((Value.slice A1 T.nodes.length c1).ownBlock ≠ some bt) ∧ Hid ((Value.slice A2 T.sess.length c2).ownBlock ≠ some bt)) (fun i _ => L.length - (intOf i).toNat)
  case atStart => exact ⟨0, newTr, A1, cA, none, 0, Nat.zero_le _, by omega, rfl, hbwa, Lib.hid new_good, Nat.le_refl _, HBT, HOA, Lib.hid (Ow.nil _ _ _ _ _), HNE, Lib.hid (by simp [Value.ownBlock])⟩
  case round =>
    obtain ⟨k, T, B1, c1, B2, c2, hk, hk8, rfl, hbwr, HG, hsl, HB, HN, HS, HE1, HE2⟩ := hrel
    have hgs := good_size HG.out
    have t0 : wr.cell? ⟨bt, 0, none⟩ = some (.int .i64 T.zxid) := HB.out.cell 0
    have t1 : wr.cell? ⟨bt, 1, none⟩ = some (.slice B1 T.nodes.length c1) := HB.out.cell 1
    have t2 : wr.cell? ⟨bt, 2, none⟩ = some (.slice B2 T.sess.length c2) := HB.out.cell 2
    have hbt2 : bt < wr.heap.size := HB.out.lt
    by_cases hlt : k < L.length ∧ k < 80
    · obtain ⟨hlt1, hlt2⟩ := hlt
      have hx : L[k]? = some (L[k]'hlt1) := List.getElem?_eq_getElem _
      have hzx := HZ.out _ (List.mem_of_getElem? hx)
      obtain ⟨bk, off, rfl, hbk, x0, x1, x2, x3, x4, x5, x6⟩ := (HV.out.below hbwr).Txn_at hx
      generalize L[k]'hlt1 = x at *
      have HAP := Lib.hid (fun (W : World) (v v2 : Value) (h : Sl cNode 9 W v T.nodes) (h2 : Sl cInt 1 W v2 T.sess) => trApply T.zxid v v2 T.nodes T.sess x W h h2 (by omega) (by omega) (fun n hn => Nat.le_trans (hgs.2 n hn) (by decide)) hzx)
      unfold ApplyRes at HAP
      obtain ⟨T', hT⟩ : ∃ T', T' = applyT T x := ⟨_, rfl⟩
      obtain ⟨V, hV⟩ : ∃ V, V = applyV T x := ⟨_, rfl⟩
      obtain ⟨E, hE⟩ : ∃ E, E = applyE T x := ⟨_, rfl⟩
      have hAP2 := HAP.out
      rw [show (⟨T.zxid, T.nodes, T.sess⟩ : Tr) = T from rfl] at hAP2
      rw [← hT, ← hV, ← hE] at hAP2
      have HAQ := Lib.hid hAP2
      have HGD := Lib.hid (fun (h0 : E = 0) => (⟨apply_good (hE.symm.trans h0), sess_next (hE.symm.trans h0), (applyT_0 (hE.symm.trans h0)).1⟩ : _ ∧ _ ∧ _))
      rw [← hT] at HGD
      have hdk : decide ((k : Int) < 80) = true := decide_eq_true (by omega)
      clear hT hV hE hAP2 HAP hx hzx
      obtain ⟨xz, xo, xs, xp, xd, xv, xw⟩ := x
      simp only at x0 x1 x2 x3 x4 x5 x6
      go_upto_region 7 with fail
      go_cut [5, 6, 7] from 15 to 90 (fun s5 s6 s7 wx => CutO wr T' E s5 s7 wx)
      case first =>
        refine wp_region_noPanic ?_
        refine wp_region_W (by kernel_rfl) (fun W hW => ?_)
        have cl0 : W.cell? ⟨bt, 0, none⟩ = some (.int .i64 T.zxid) := by rw [hW.out]; go_simp
        have cl1 : W.cell? ⟨bt, 1, none⟩ = some (.slice B1 T.nodes.length c1) := by rw [hW.out]; go_simp
        have cl2 : W.cell? ⟨bt, 2, none⟩ = some (.slice B2 T.sess.length c2) := by rw [hW.out]; go_simp
        have cl3 : W.cell? ⟨bk, off + k * 7, none⟩ = some (.int .i64 xz) := by rw [hW.out]; go_simp
        have cl4 : W.cell? ⟨bk, off + k * 7 + 1, none⟩ = some (.int .i64 xo) := by rw [hW.out]; go_simp
        have cl5 : W.cell? ⟨bk, off + k * 7 + 2, none⟩ = some (.int .i64 xs) := by rw [hW.out]; go_simp
        have cl6 : W.cell? ⟨bk, off + k * 7 + 3, none⟩ = some (.string xp) := by rw [hW.out]; go_simp
        have cl7 : W.cell? ⟨bk, off + k * 7 + 4, none⟩ = some (.string xd) := by rw [hW.out]; go_simp
        have cl8 : W.cell? ⟨bk, off + k * 7 + 5, none⟩ = some (.int .i64 xv) := by rw [hW.out]; go_simp
        have cl9 : W.cell? ⟨bk, off + k * 7 + 6, none⟩ = some (.int .i64 xw) := by rw [hW.out]; go_simp
        have HNW := Lib.hid (HN.out.sl.below (w' := W) (by rw [hW.out]; exact (by repeat (first | with_reducible exact Below.refl _ _ | with_reducible assumption | with_reducible exact below_d1 _ _ _ _ _ | with_reducible exact below_d2 _ _ _ _ _ _ _ _ | with_reducible exact below_d3 _ _ _ _ _ | with_reducible exact below_d4 _ _ _ _ _ _ _ _ | with_reducible exact below_d5 _ _ | with_reducible refine Below.drew ?_ | with_reducible refine Below.drewN' ?_ _ | with_reducible refine below_grow0 _ _ ?_ | with_reducible refine below_alloc0 _ ?_ | with_reducible refine Below.setCell ?_ ?_ _ | with_reducible refine Below.alloc ?_ ?_ _ | with_reducible refine Below.grow _ _ _ ?_ ?_ | omega | (simp; done) | (simp; omega)))))
        have HSW := Lib.hid (HS.out.sl.below (w' := W) (by rw [hW.out]; exact (by repeat (first | with_reducible exact Below.refl _ _ | with_reducible assumption | with_reducible exact below_d1 _ _ _ _ _ | with_reducible exact below_d2 _ _ _ _ _ _ _ _ | with_reducible exact below_d3 _ _ _ _ _ | with_reducible exact below_d4 _ _ _ _ _ _ _ _ | with_reducible exact below_d5 _ _ | with_reducible refine Below.drew ?_ | with_reducible refine Below.drewN' ?_ _ | with_reducible refine below_grow0 _ _ ?_ | with_reducible refine below_alloc0 _ ?_ | with_reducible refine Below.setCell ?_ ?_ _ | with_reducible refine Below.alloc ?_ ?_ _ | with_reducible refine Below.grow _ _ _ ?_ ?_ | omega | (simp; done) | (simp; omega)))))
        have hWb : bt < W.heap.size := by rw [hW.out]; simp <;> omega
        have hWk : bk < W.heap.size := by rw [hW.out]; simp <;> omega
        have hW1W : Below wr.heap.size wr W := by rw [hW.out]; exact (by repeat (first | with_reducible exact Below.refl _ _ | with_reducible assumption | with_reducible exact below_d1 _ _ _ _ _ | with_reducible exact below_d2 _ _ _ _ _ _ _ _ | with_reducible exact below_d3 _ _ _ _ _ | with_reducible exact below_d4 _ _ _ _ _ _ _ _ | with_reducible exact below_d5 _ _ | with_reducible refine Below.drew ?_ | with_reducible refine Below.drewN' ?_ _ | with_reducible refine below_grow0 _ _ ?_ | with_reducible refine below_alloc0 _ ?_ | with_reducible refine Below.setCell ?_ ?_ _ | with_reducible refine Below.alloc ?_ ?_ _ | with_reducible refine Below.grow _ _ _ ?_ ?_ | omega | (simp; done) | (simp; omega)))
        have hWs1 : W.heap.size = wr.heap.size := by rw [hW.out]; simp
        refine wpAny_S (fun w' => w'.cell? ⟨bt, 0, none⟩ = some (.int .i64 T.zxid) ∧ w'.cell? ⟨bt, 1, none⟩ = some (.slice B1 T.nodes.length c1) ∧ w'.cell? ⟨bt, 2, none⟩ = some (.slice B2 T.sess.length c2) ∧ w'.cell? ⟨bk, off + k * 7, none⟩ = some (.int .i64 xz) ∧ w'.cell? ⟨bk, off + k * 7 + 1, none⟩ = some (.int .i64 xo) ∧ w'.cell? ⟨bk, off + k * 7 + 2, none⟩ = some (.int .i64 xs) ∧ w'.cell? ⟨bk, off + k * 7 + 3, none⟩ = some (.string xp) ∧ w'.cell? ⟨bk, off + k * 7 + 4, none⟩ = some (.string xd) ∧ w'.cell? ⟨bk, off + k * 7 + 5, none⟩ = some (.int .i64 xv) ∧ w'.cell? ⟨bk, off + k * 7 + 6, none⟩ = some (.int .i64 xw)) (fun i => false) (by (try dsimp only); (refine ⟨?_, ?_, ?_, ?_, ?_, ?_, ?_, ?_, ?_, ?_⟩ <;> go_simp)) (fun hHeld => ?_)
        (refine wpE_take (i := 0) (v := ?gV1_1) (by simp only [List.getElem?_toArray]; rfl) (by kernel_rfl) (by kernel_rfl) (by kernel_rfl) (by kernel_rfl) (by kernel_rfl) (by rfl) (fun _ _ _ h => h) (Or.inl ⟨by rfl, ?gY1_1⟩) (by assumption) ?gR1_1; case gY1_1 => (intro w hSw; (try dsimp only at hSw); go_simp <;> with_reducible rfl))
        try simp only [Act.put, List.setIfInBounds_toArray, List.set_cons_zero, List.set_cons_succ]
        (refine wpE_takeP (i := 1) (v := ?gV1_2) (by simp only [List.getElem?_toArray]; rfl) (by kernel_rfl) (by kernel_rfl) (by kernel_rfl) (by rfl) (fun _ _ _ h => h) (Or.inl ⟨by rfl, ?gY1_2⟩) (by assumption) ?gR1_2; case gY1_2 => (intro w hSw; (try dsimp only at hSw); go_simp <;> with_reducible rfl))
        try simp only [Act.put, List.setIfInBounds_toArray, List.set_cons_zero, List.set_cons_succ]
        (refine wpE_takeP (i := 2) (v := ?gV1_3) (by simp only [List.getElem?_toArray]; rfl) (by kernel_rfl) (by kernel_rfl) (by kernel_rfl) (by rfl) (fun _ _ _ h => h) (Or.inl ⟨by rfl, ?gY1_3⟩) (by assumption) ?gR1_3; case gY1_3 => (intro w hSw; (try dsimp only at hSw); go_simp <;> with_reducible rfl))
        try simp only [Act.put, List.setIfInBounds_toArray, List.set_cons_zero, List.set_cons_succ]
        (refine wpE_takeP (i := 3) (v := ?gV1_4) (by simp only [List.getElem?_toArray]; rfl) (by kernel_rfl) (by kernel_rfl) (by kernel_rfl) (by rfl) (fun _ _ _ h => h) (Or.inl ⟨by rfl, ?gY1_4⟩) (by assumption) ?gR1_4; case gY1_4 => (intro w hSw; (try dsimp only at hSw); go_simp <;> with_reducible rfl))
        try simp only [Act.put, List.setIfInBounds_toArray, List.set_cons_zero, List.set_cons_succ]
        (refine wpE_take (i := 4) (v := ?gV1_5) (by simp only [List.getElem?_toArray]; rfl) (by kernel_rfl) (by kernel_rfl) (by kernel_rfl) (by kernel_rfl) (by kernel_rfl) (by rfl) (fun _ _ _ h => h) (Or.inl ⟨by rfl, ?gY1_5⟩) (by assumption) ?gR1_5; case gY1_5 => (intro w hSw; (try dsimp only at hSw); go_simp <;> with_reducible rfl))
        try simp only [Act.put, List.setIfInBounds_toArray, List.set_cons_zero, List.set_cons_succ]
        refine wpE_ready (rs := [5, 10]) (by kernel_rfl) (by simp) ?_
        refine AllE.cons (by simp only [List.getElem?_toArray]; rfl) (fun K hK => ?gO1_6) ?gL1_6
        case gO1_6 =>
          go_simp
          (go_at_call 23; (with_reducible refine (HAQ.out _ _ _ (HNW.out.below (by repeat (first | with_reducible exact Below.refl _ _ | with_reducible assumption | with_reducible exact below_d1 _ _ _ _ _ | with_reducible exact below_d2 _ _ _ _ _ _ _ _ | with_reducible exact below_d3 _ _ _ _ _ | with_reducible exact below_d4 _ _ _ _ _ _ _ _ | with_reducible exact below_d5 _ _ | with_reducible refine Below.drew ?_ | with_reducible refine Below.drewN' ?_ _ | with_reducible refine below_grow0 _ _ ?_ | with_reducible refine below_alloc0 _ ?_ | with_reducible refine Below.setCell ?_ ?_ _ | with_reducible refine Below.alloc ?_ ?_ _ | with_reducible refine Below.grow _ _ _ ?_ ?_ | omega | (simp; done) | (simp; omega)))) (HSW.out.below (by repeat (first | with_reducible exact Below.refl _ _ | with_reducible assumption | with_reducible exact below_d1 _ _ _ _ _ | with_reducible exact below_d2 _ _ _ _ _ _ _ _ | with_reducible exact below_d3 _ _ _ _ _ | with_reducible exact below_d4 _ _ _ _ _ _ _ _ | with_reducible exact below_d5 _ _ | with_reducible refine Below.drew ?_ | with_reducible refine Below.drewN' ?_ _ | with_reducible refine below_grow0 _ _ ?_ | with_reducible refine below_alloc0 _ ?_ | with_reducible refine Below.setCell ?_ ?_ _ | with_reducible refine Below.alloc ?_ ?_ _ | with_reducible refine Below.grow _ _ _ ?_ ?_ | omega | (simp; done) | (simp; omega))))).mono ?_); rintro e w3 ⟨nv, sv, vv, rfl, hn3, hs3, hv3, hb3⟩; obtain ⟨A7, c7, rfl, _⟩ := hn3.form; obtain ⟨A8, c8, rfl, _⟩ := hs3.form; obtain ⟨A9, c9, rfl, _⟩ := hv3.form; obtain ⟨ext3, d3, rfl⟩ := Below.grown_eq _ hb3; have HN3 := Lib.hid hn3; have HS3 := Lib.hid hs3; clear hn3 hs3 hv3 hb3)
          refine hK.out _ _ ?gT1_6 (fun hHeld => ?_)
          case gT1_6 => ((try dsimp only); (refine ⟨?_, ?_, ?_, ?_, ?_, ?_, ?_, ?_, ?_, ?_⟩ <;> go_simp))
          clear hK K
          try simp only [Act.put, List.setIfInBounds_toArray, List.set_cons_zero, List.set_cons_succ]
          (refine wpE_takeP (i := 6) (v := ?gV1_7) (by simp only [List.getElem?_toArray]; rfl) (by kernel_rfl) (by kernel_rfl) (by kernel_rfl) (by rfl) (fun _ _ _ h => h) (Or.inl ⟨by rfl, ?gY1_7⟩) (by assumption) ?gR1_7; case gY1_7 => (intro w hSw; (try dsimp only at hSw); go_simp <;> with_reducible rfl))
          try simp only [Act.put, List.setIfInBounds_toArray, List.set_cons_zero, List.set_cons_succ]
          (refine wpE_takeP (i := 7) (v := ?gV1_8) (by simp only [List.getElem?_toArray]; rfl) (by kernel_rfl) (by kernel_rfl) (by kernel_rfl) (by rfl) (fun _ _ _ h => h) (Or.inl ⟨by rfl, ?gY1_8⟩) (by assumption) ?gR1_8; case gY1_8 => (intro w hSw; (try dsimp only at hSw); go_simp <;> with_reducible rfl))
          try simp only [Act.put, List.setIfInBounds_toArray, List.set_cons_zero, List.set_cons_succ]
          (refine wpE_takeP (i := 8) (v := ?gV1_9) (by simp only [List.getElem?_toArray]; rfl) (by kernel_rfl) (by kernel_rfl) (by kernel_rfl) (by rfl) (fun _ _ _ h => h) (Or.inl ⟨by rfl, ?gY1_9⟩) (by assumption) ?gR1_9; case gY1_9 => (intro w hSw; (try dsimp only at hSw); go_simp <;> with_reducible rfl))
          try simp only [Act.put, List.setIfInBounds_toArray, List.set_cons_zero, List.set_cons_succ]
          (refine wpE_takeP (i := 9) (v := ?gV1_10) (by simp only [List.getElem?_toArray]; rfl) (by kernel_rfl) (by kernel_rfl) (by kernel_rfl) (by rfl) (fun _ _ _ h => h) (Or.inl ⟨by rfl, ?gY1_10⟩) (by assumption) ?gR1_10; case gY1_10 => (intro w hSw; (try dsimp only at hSw); go_simp <;> with_reducible rfl))
          try simp only [Act.put, List.setIfInBounds_toArray, List.set_cons_zero, List.set_cons_succ]
          refine wpE_ready (rs := [10]) (by kernel_rfl) (by simp) ?_
          refine AllE.cons (by simp only [List.getElem?_toArray]; rfl) (fun K hK => ?_) AllE.nil
          go_simp
          refine hK.out _ _ ?gT1_11 (fun hHeld => ?_)
          case gT1_11 => ((try dsimp only); (refine ⟨?_, ?_, ?_, ?_, ?_, ?_, ?_, ?_, ?_, ?_⟩ <;> go_simp))
          clear hK K
          try simp only [Act.put, List.setIfInBounds_toArray, List.set_cons_zero, List.set_cons_succ]
          refine wpE_ready (rs := [11]) (by kernel_rfl) (by simp) ?_
          refine AllE.cons (by simp only [List.getElem?_toArray]; rfl) (fun K hK => ?_) AllE.nil
          go_simp
          refine hK.out _ _ ?gT1_12 (fun hHeld => ?_)
          case gT1_12 => ((try dsimp only); (refine ⟨?_, ?_, ?_, ?_, ?_, ?_, ?_, ?_, ?_, ?_⟩ <;> go_simp))
          clear hK K
          try simp only [Act.put, List.setIfInBounds_toArray, List.set_cons_zero, List.set_cons_succ]
          (refine wpE_takeP (i := 12) (v := ?gV1_13) (by simp only [List.getElem?_toArray]; rfl) (by kernel_rfl) (by kernel_rfl) (by kernel_rfl) (by rfl) (fun _ _ _ h => h) (Or.inl ⟨by rfl, ?gY1_13⟩) (by assumption) ?gR1_13; case gY1_13 => (intro w hSw; (try dsimp only at hSw); go_simp <;> with_reducible rfl))
          try simp only [Act.put, List.setIfInBounds_toArray, List.set_cons_zero, List.set_cons_succ]
          (refine wpE_takeP (i := 13) (v := ?gV1_14) (by simp only [List.getElem?_toArray]; rfl) (by kernel_rfl) (by kernel_rfl) (by kernel_rfl) (by rfl) (fun _ _ _ h => h) (Or.inl ⟨by rfl, ?gY1_14⟩) (by assumption) ?gR1_14; case gY1_14 => (intro w hSw; (try dsimp only at hSw); go_simp <;> with_reducible rfl))
          try simp only [Act.put, List.setIfInBounds_toArray, List.set_cons_zero, List.set_cons_succ]
          refine wpE_done (by kernel_rfl) ?_ _
          refine NoPanic.normal ?_
          go_wp2_with fail
          go_meet
          refine ⟨_, A7, c7, A8, c8, rfl, rfl, ?_, ?_, Lib.hid ?b1_14, Lib.hid ?n1_14, Lib.hid ?s1_14⟩
          · exact Below.own hW1W (by repeat (first | with_reducible exact Below.refl _ _ | with_reducible assumption | with_reducible exact below_d1 _ _ _ _ _ | with_reducible exact below_d2 _ _ _ _ _ _ _ _ | with_reducible exact below_d3 _ _ _ _ _ | with_reducible exact below_d4 _ _ _ _ _ _ _ _ | with_reducible exact below_d5 _ _ | with_reducible refine Below.drew ?_ | with_reducible refine Below.drewN' ?_ _ | with_reducible refine below_grow0 _ _ ?_ | with_reducible refine below_alloc0 _ ?_ | with_reducible refine Below.setCell ?_ ?_ _ | with_reducible refine Below.alloc ?_ ?_ _ | with_reducible refine Below.grow _ _ _ ?_ ?_ | omega | (simp; done) | (simp; omega)))
          · first | omega | (simp <;> omega)
          case b1_14 => first | exact Bk.new _ _ _ (by simp [hWs1]) | exact (Bk.new W _ _ hWs1.symm).below (by repeat (first | with_reducible exact Below.refl _ _ | with_reducible assumption | with_reducible exact below_d1 _ _ _ _ _ | with_reducible exact below_d2 _ _ _ _ _ _ _ _ | with_reducible exact below_d3 _ _ _ _ _ | with_reducible exact below_d4 _ _ _ _ _ _ _ _ | with_reducible exact below_d5 _ _ | with_reducible refine Below.drew ?_ | with_reducible refine Below.drewN' ?_ _ | with_reducible refine below_grow0 _ _ ?_ | with_reducible refine below_alloc0 _ ?_ | with_reducible refine Below.setCell ?_ ?_ _ | with_reducible refine Below.alloc ?_ ?_ _ | with_reducible refine Below.grow _ _ _ ?_ ?_ | omega | (simp; done) | (simp; omega)))
          case n1_14 =>
            refine Ow.mono (Ow.moved (W' := ?w91_14) (d' := ?x91_14) HN3.out (Nat.le_refl _) ?b91_14 ?z91_14) (by simp [hWs1])
            case b91_14 => exact (by repeat (first | with_reducible exact Below.refl _ _ | with_reducible assumption | with_reducible exact below_d1 _ _ _ _ _ | with_reducible exact below_d2 _ _ _ _ _ _ _ _ | with_reducible exact below_d3 _ _ _ _ _ | with_reducible exact below_d4 _ _ _ _ _ _ _ _ | with_reducible exact below_d5 _ _ | with_reducible refine Below.drew ?_ | with_reducible refine Below.drewN' ?_ _ | with_reducible refine below_grow0 _ _ ?_ | with_reducible refine below_alloc0 _ ?_ | with_reducible refine Below.setCell ?_ ?_ _ | with_reducible refine Below.alloc ?_ ?_ _ | with_reducible refine Below.grow _ _ _ ?_ ?_ | omega | (simp; done) | (simp; omega)))
            case z91_14 => simp
          case s1_14 =>
            refine Ow.mono (Ow.moved (W' := ?w81_14) (d' := ?x81_14) HS3.out (Nat.le_refl _) ?b81_14 ?z81_14) (by simp [hWs1])
            case b81_14 => exact (by repeat (first | with_reducible exact Below.refl _ _ | with_reducible assumption | with_reducible exact below_d1 _ _ _ _ _ | with_reducible exact below_d2 _ _ _ _ _ _ _ _ | with_reducible exact below_d3 _ _ _ _ _ | with_reducible exact below_d4 _ _ _ _ _ _ _ _ | with_reducible exact below_d5 _ _ | with_reducible refine Below.drew ?_ | with_reducible refine Below.drewN' ?_ _ | with_reducible refine below_grow0 _ _ ?_ | with_reducible refine below_alloc0 _ ?_ | with_reducible refine Below.setCell ?_ ?_ _ | with_reducible refine Below.alloc ?_ ?_ _ | with_reducible refine Below.grow _ _ _ ?_ ?_ | omega | (simp; done) | (simp; omega)))
            case z81_14 => simp
        refine AllE.cons (by simp only [List.getElem?_toArray]; rfl) (fun K hK => ?gO1_15) ?gL1_15
        case gO1_15 =>
          go_simp
          refine hK.out _ _ ?gT1_15 (fun hHeld => ?_)
          case gT1_15 => ((try dsimp only); (refine ⟨?_, ?_, ?_, ?_, ?_, ?_, ?_, ?_, ?_, ?_⟩ <;> go_simp))
          clear hK K
          try simp only [Act.put, List.setIfInBounds_toArray, List.set_cons_zero, List.set_cons_succ]
          refine wpE_ready (rs := [5]) (by kernel_rfl) (by simp) ?_
          refine AllE.cons (by simp only [List.getElem?_toArray]; rfl) (fun K hK => ?_) AllE.nil
          go_simp
          (go_at_call 23; (with_reducible refine (HAQ.out _ _ _ (HNW.out.below (by repeat (first | with_reducible exact Below.refl _ _ | with_reducible assumption | with_reducible exact below_d1 _ _ _ _ _ | with_reducible exact below_d2 _ _ _ _ _ _ _ _ | with_reducible exact below_d3 _ _ _ _ _ | with_reducible exact below_d4 _ _ _ _ _ _ _ _ | with_reducible exact below_d5 _ _ | with_reducible refine Below.drew ?_ | with_reducible refine Below.drewN' ?_ _ | with_reducible refine below_grow0 _ _ ?_ | with_reducible refine below_alloc0 _ ?_ | with_reducible refine Below.setCell ?_ ?_ _ | with_reducible refine Below.alloc ?_ ?_ _ | with_reducible refine Below.grow _ _ _ ?_ ?_ | omega | (simp; done) | (simp; omega)))) (HSW.out.below (by repeat (first | with_reducible exact Below.refl _ _ | with_reducible assumption | with_reducible exact below_d1 _ _ _ _ _ | with_reducible exact below_d2 _ _ _ _ _ _ _ _ | with_reducible exact below_d3 _ _ _ _ _ | with_reducible exact below_d4 _ _ _ _ _ _ _ _ | with_reducible exact below_d5 _ _ | with_reducible refine Below.drew ?_ | with_reducible refine Below.drewN' ?_ _ | with_reducible refine below_grow0 _ _ ?_ | with_reducible refine below_alloc0 _ ?_ | with_reducible refine Below.setCell ?_ ?_ _ | with_reducible refine Below.alloc ?_ ?_ _ | with_reducible refine Below.grow _ _ _ ?_ ?_ | omega | (simp; done) | (simp; omega))))).mono ?_); rintro e w3 ⟨nv, sv, vv, rfl, hn3, hs3, hv3, hb3⟩; obtain ⟨A7, c7, rfl, _⟩ := hn3.form; obtain ⟨A8, c8, rfl, _⟩ := hs3.form; obtain ⟨A9, c9, rfl, _⟩ := hv3.form; obtain ⟨ext3, d3, rfl⟩ := Below.grown_eq _ hb3; have HN3 := Lib.hid hn3; have HS3 := Lib.hid hs3; clear hn3 hs3 hv3 hb3)
          refine hK.out _ _ ?gT1_16 (fun hHeld => ?_)
          case gT1_16 => ((try dsimp only); (refine ⟨?_, ?_, ?_, ?_, ?_, ?_, ?_, ?_, ?_, ?_⟩ <;> go_simp))
          clear hK K
          try simp only [Act.put, List.setIfInBounds_toArray, List.set_cons_zero, List.set_cons_succ]
          (refine wpE_takeP (i := 6) (v := ?gV1_17) (by simp only [List.getElem?_toArray]; rfl) (by kernel_rfl) (by kernel_rfl) (by kernel_rfl) (by rfl) (fun _ _ _ h => h) (Or.inl ⟨by rfl, ?gY1_17⟩) (by assumption) ?gR1_17; case gY1_17 => (intro w hSw; (try dsimp only at hSw); go_simp <;> with_reducible rfl))
          try simp only [Act.put, List.setIfInBounds_toArray, List.set_cons_zero, List.set_cons_succ]
          (refine wpE_takeP (i := 7) (v := ?gV1_18) (by simp only [List.getElem?_toArray]; rfl) (by kernel_rfl) (by kernel_rfl) (by kernel_rfl) (by rfl) (fun _ _ _ h => h) (Or.inl ⟨by rfl, ?gY1_18⟩) (by assumption) ?gR1_18; case gY1_18 => (intro w hSw; (try dsimp only at hSw); go_simp <;> with_reducible rfl))
          try simp only [Act.put, List.setIfInBounds_toArray, List.set_cons_zero, List.set_cons_succ]
          (refine wpE_takeP (i := 8) (v := ?gV1_19) (by simp only [List.getElem?_toArray]; rfl) (by kernel_rfl) (by kernel_rfl) (by kernel_rfl) (by rfl) (fun _ _ _ h => h) (Or.inl ⟨by rfl, ?gY1_19⟩) (by assumption) ?gR1_19; case gY1_19 => (intro w hSw; (try dsimp only at hSw); go_simp <;> with_reducible rfl))
          try simp only [Act.put, List.setIfInBounds_toArray, List.set_cons_zero, List.set_cons_succ]
          (refine wpE_takeP (i := 9) (v := ?gV1_20) (by simp only [List.getElem?_toArray]; rfl) (by kernel_rfl) (by kernel_rfl) (by kernel_rfl) (by rfl) (fun _ _ _ h => h) (Or.inl ⟨by rfl, ?gY1_20⟩) (by assumption) ?gR1_20; case gY1_20 => (intro w hSw; (try dsimp only at hSw); go_simp <;> with_reducible rfl))
          try simp only [Act.put, List.setIfInBounds_toArray, List.set_cons_zero, List.set_cons_succ]
          refine wpE_ready (rs := [11]) (by kernel_rfl) (by simp) ?_
          refine AllE.cons (by simp only [List.getElem?_toArray]; rfl) (fun K hK => ?_) AllE.nil
          go_simp
          refine hK.out _ _ ?gT1_21 (fun hHeld => ?_)
          case gT1_21 => ((try dsimp only); (refine ⟨?_, ?_, ?_, ?_, ?_, ?_, ?_, ?_, ?_, ?_⟩ <;> go_simp))
          clear hK K
          try simp only [Act.put, List.setIfInBounds_toArray, List.set_cons_zero, List.set_cons_succ]
          (refine wpE_takeP (i := 12) (v := ?gV1_22) (by simp only [List.getElem?_toArray]; rfl) (by kernel_rfl) (by kernel_rfl) (by kernel_rfl) (by rfl) (fun _ _ _ h => h) (Or.inl ⟨by rfl, ?gY1_22⟩) (by assumption) ?gR1_22; case gY1_22 => (intro w hSw; (try dsimp only at hSw); go_simp <;> with_reducible rfl))
          try simp only [Act.put, List.setIfInBounds_toArray, List.set_cons_zero, List.set_cons_succ]
          (refine wpE_takeP (i := 13) (v := ?gV1_23) (by simp only [List.getElem?_toArray]; rfl) (by kernel_rfl) (by kernel_rfl) (by kernel_rfl) (by rfl) (fun _ _ _ h => h) (Or.inl ⟨by rfl, ?gY1_23⟩) (by assumption) ?gR1_23; case gY1_23 => (intro w hSw; (try dsimp only at hSw); go_simp <;> with_reducible rfl))
          try simp only [Act.put, List.setIfInBounds_toArray, List.set_cons_zero, List.set_cons_succ]
          refine wpE_done (by kernel_rfl) ?_ _
          refine NoPanic.normal ?_
          go_wp2_with fail
          go_meet
          refine ⟨_, A7, c7, A8, c8, rfl, rfl, ?_, ?_, Lib.hid ?b1_23, Lib.hid ?n1_23, Lib.hid ?s1_23⟩
          · exact Below.own hW1W (by repeat (first | with_reducible exact Below.refl _ _ | with_reducible assumption | with_reducible exact below_d1 _ _ _ _ _ | with_reducible exact below_d2 _ _ _ _ _ _ _ _ | with_reducible exact below_d3 _ _ _ _ _ | with_reducible exact below_d4 _ _ _ _ _ _ _ _ | with_reducible exact below_d5 _ _ | with_reducible refine Below.drew ?_ | with_reducible refine Below.drewN' ?_ _ | with_reducible refine below_grow0 _ _ ?_ | with_reducible refine below_alloc0 _ ?_ | with_reducible refine Below.setCell ?_ ?_ _ | with_reducible refine Below.alloc ?_ ?_ _ | with_reducible refine Below.grow _ _ _ ?_ ?_ | omega | (simp; done) | (simp; omega)))
          · first | omega | (simp <;> omega)
          case b1_23 => first | exact Bk.new _ _ _ (by simp [hWs1]) | exact (Bk.new W _ _ hWs1.symm).below (by repeat (first | with_reducible exact Below.refl _ _ | with_reducible assumption | with_reducible exact below_d1 _ _ _ _ _ | with_reducible exact below_d2 _ _ _ _ _ _ _ _ | with_reducible exact below_d3 _ _ _ _ _ | with_reducible exact below_d4 _ _ _ _ _ _ _ _ | with_reducible exact below_d5 _ _ | with_reducible refine Below.drew ?_ | with_reducible refine Below.drewN' ?_ _ | with_reducible refine below_grow0 _ _ ?_ | with_reducible refine below_alloc0 _ ?_ | with_reducible refine Below.setCell ?_ ?_ _ | with_reducible refine Below.alloc ?_ ?_ _ | with_reducible refine Below.grow _ _ _ ?_ ?_ | omega | (simp; done) | (simp; omega)))
          case n1_23 =>
            refine Ow.mono (Ow.moved (W' := ?w91_23) (d' := ?x91_23) HN3.out (Nat.le_refl _) ?b91_23 ?z91_23) (by simp [hWs1])
            case b91_23 => exact (by repeat (first | with_reducible exact Below.refl _ _ | with_reducible assumption | with_reducible exact below_d1 _ _ _ _ _ | with_reducible exact below_d2 _ _ _ _ _ _ _ _ | with_reducible exact below_d3 _ _ _ _ _ | with_reducible exact below_d4 _ _ _ _ _ _ _ _ | with_reducible exact below_d5 _ _ | with_reducible refine Below.drew ?_ | with_reducible refine Below.drewN' ?_ _ | with_reducible refine below_grow0 _ _ ?_ | with_reducible refine below_alloc0 _ ?_ | with_reducible refine Below.setCell ?_ ?_ _ | with_reducible refine Below.alloc ?_ ?_ _ | with_reducible refine Below.grow _ _ _ ?_ ?_ | omega | (simp; done) | (simp; omega)))
            case z91_23 => simp
          case s1_23 =>
            refine Ow.mono (Ow.moved (W' := ?w81_23) (d' := ?x81_23) HS3.out (Nat.le_refl _) ?b81_23 ?z81_23) (by simp [hWs1])
            case b81_23 => exact (by repeat (first | with_reducible exact Below.refl _ _ | with_reducible assumption | with_reducible exact below_d1 _ _ _ _ _ | with_reducible exact below_d2 _ _ _ _ _ _ _ _ | with_reducible exact below_d3 _ _ _ _ _ | with_reducible exact below_d4 _ _ _ _ _ _ _ _ | with_reducible exact below_d5 _ _ | with_reducible refine Below.drew ?_ | with_reducible refine Below.drewN' ?_ _ | with_reducible refine below_grow0 _ _ ?_ | with_reducible refine below_alloc0 _ ?_ | with_reducible refine Below.setCell ?_ ?_ _ | with_reducible refine Below.alloc ?_ ?_ _ | with_reducible refine Below.grow _ _ _ ?_ ?_ | omega | (simp; done) | (simp; omega)))
            case z81_23 => simp
        exact AllE.nil
      case rest =>
        obtain ⟨wi, rfl⟩ : ∃ wi : World, wi = wc := ⟨_, rfl⟩
        obtain ⟨b5, A7, c7, A8, c8, rfl, rfl, hbi, hbi1, HB5, HN7, HS7⟩ := hcut
        have hbwi : Below w.heap.size w wi := Below.own hbwr hbi
        have HBi := Lib.hid (HB.out.below hbi)
        have hbne : bt ≠ b5 := by omega
        clear t0 t1 t2 x0 x1 x2 x3 x4 x5 x6 HAQ HB
        by_cases hE : E = 0
        · obtain ⟨⟨g1, _, g3⟩, g4, g5⟩ := HGD.out hE
          subst hE
          have hgs' := good_size g1
          have HG1 := Lib.hid g1
          have hzx : T'.zxid = xz := by rw [g5]
          have HGG := Lib.hid (fun (W : World) (h : Sl cNode 9 W (.slice A7 T'.nodes.length c7) T'.nodes) (h2 : Sl cInt 1 W (.slice A8 T'.sess.length c8) T'.sess) => trGood T'.zxid (.slice A7 T'.nodes.length c7) (.slice A8 T'.sess.length c8) T'.nodes T'.sess W h h2 (by omega) (fun n hn => Nat.le_trans (hgs'.2 n hn) (by decide)))
          rw [show (⟨T'.zxid, T'.nodes, T'.sess⟩ : Tr) = T' from rfl, g1] at HGG
          have hdz : decide (T'.zxid ≤ T.zxid) = false := decide_eq_false (by simp only at g3; omega)
          have HSL := Lib.hid (Nat.le_trans g4 (Nat.succ_le_succ hsl))
          obtain ⟨tz, tl, ts⟩ := T'
          have HKN := Lib.hid (fun (n : Node) (hn : n ∈ tl) => deep_node (T := ⟨tz, tl, ts⟩) HG1.out hn)
          simp only at HGG hdz HSL HB5 HN7 HS7 hgs' HKN
          have HTZ := Lib.hid hzx
          clear HGD g1 g3 g4 g5 hzx HN HS HE1 HE2
          have t0 : wi.cell? ⟨bt, 0, none⟩ = some (.int .i64 T.zxid) := HBi.out.cell 0
          have t1 : wi.cell? ⟨bt, 1, none⟩ = some (.slice B1 T.nodes.length c1) := HBi.out.cell 1
          have t2 : wi.cell? ⟨bt, 2, none⟩ = some (.slice B2 T.sess.length c2) := HBi.out.cell 2
          have f0 : wi.frozen? ⟨bt, 0, none⟩ = false := HBi.out.frozen 0
          have f1 : wi.frozen? ⟨bt, 1, none⟩ = false := HBi.out.frozen 1
          have f2 : wi.frozen? ⟨bt, 2, none⟩ = false := HBi.out.frozen 2
          have a0 : wi.cell? ⟨b5, 0, none⟩ = some (.int .i64 tz) := HB5.out.cell 0
          have a1 : wi.cell? ⟨b5, 1, none⟩ = some (.slice A7 tl.length c7) := HB5.out.cell 1
          have a2 : wi.cell? ⟨b5, 2, none⟩ = some (.slice A8 ts.length c8) := HB5.out.cell 2
          have hb5 : b5 < wi.heap.size := HB5.out.lt
          have hbt3 : bt < wi.heap.size := HBi.out.lt
          go_upto_region 12 with ((go_at_call 13; refine (HGG.out _ (HN7.out.sl.below (by repeat (first | with_reducible exact Below.refl _ _ | with_reducible assumption | with_reducible exact below_d1 _ _ _ _ _ | with_reducible exact below_d2 _ _ _ _ _ _ _ _ | with_reducible exact below_d3 _ _ _ _ _ | with_reducible exact below_d4 _ _ _ _ _ _ _ _ | with_reducible exact below_d5 _ _ | with_reducible refine Below.drew ?_ | with_reducible refine Below.drewN' ?_ _ | with_reducible refine below_grow0 _ _ ?_ | with_reducible refine below_alloc0 _ ?_ | with_reducible refine Below.setCell ?_ ?_ _ | with_reducible refine Below.alloc ?_ ?_ _ | with_reducible refine Below.grow _ _ _ ?_ ?_ | omega | (simp; done) | (simp; omega)))) (HS7.out.sl.below (by repeat (first | with_reducible exact Below.refl _ _ | with_reducible assumption | with_reducible exact below_d1 _ _ _ _ _ | with_reducible exact below_d2 _ _ _ _ _ _ _ _ | with_reducible exact below_d3 _ _ _ _ _ | with_reducible exact below_d4 _ _ _ _ _ _ _ _ | with_reducible exact below_d5 _ _ | with_reducible refine Below.drew ?_ | with_reducible refine Below.drewN' ?_ _ | with_reducible refine below_grow0 _ _ ?_ | with_reducible refine below_alloc0 _ ?_ | with_reducible refine Below.setCell ?_ ?_ _ | with_reducible refine Below.alloc ?_ ?_ _ | with_reducible refine Below.grow _ _ _ ?_ ?_ | omega | (simp; done) | (simp; omega))))).mono ?_; rintro e w1 ⟨rfl, hb⟩; obtain ⟨ext0, d0, rfl⟩ := Below.grown_eq _ hb; clear hb))
          refine gen_w (fun wj hwj => ?_)
          have HQ := Lib.hid (((HBi.out.put 0 (.int .i64 tz)).put 1 (.slice A7 tl.length c7)).put 2 (.slice A8 ts.length c8))
          have hP9 : Below (((wi.setCell ⟨bt, 0, none⟩ (.int .i64 tz)).setCell ⟨bt, 1, none⟩ (.slice A7 tl.length c7)).setCell ⟨bt, 2, none⟩ (.slice A8 ts.length c8)).heap.size (((wi.setCell ⟨bt, 0, none⟩ (.int .i64 tz)).setCell ⟨bt, 1, none⟩ (.slice A7 tl.length c7)).setCell ⟨bt, 2, none⟩ (.slice A8 ts.length c8)) wj := by rw [hwj.out]; exact (by repeat (first | with_reducible exact Below.refl _ _ | with_reducible assumption | with_reducible exact below_d1 _ _ _ _ _ | with_reducible exact below_d2 _ _ _ _ _ _ _ _ | with_reducible exact below_d3 _ _ _ _ _ | with_reducible exact below_d4 _ _ _ _ _ _ _ _ | with_reducible exact below_d5 _ _ | with_reducible refine Below.drew ?_ | with_reducible refine Below.drewN' ?_ _ | with_reducible refine below_grow0 _ _ ?_ | with_reducible refine below_alloc0 _ ?_ | with_reducible refine Below.setCell ?_ ?_ _ | with_reducible refine Below.alloc ?_ ?_ _ | with_reducible refine Below.grow _ _ _ ?_ ?_ | omega | (simp; done) | (simp; omega)))
          have HBj := Lib.hid (HQ.out.below hP9)
          have hbwj : Below w.heap.size w wj := (Below.set_up (Below.set_up (Below.set_up hbwi hbt) hbt) hbt).trans (hP9.mono (by simp; have := hbwi.size; omega))
          have hE7 := own_ne HN7.out hbt2
          have hE8 := own_ne HS7.out hbt2
          have HNj := Lib.hid (((((HN7.out.far2 (g := bt) (j := 0) (u := .int .i64 tz) hE7).far2 (g := bt) (j := 1) (u := .slice A7 tl.length c7) hE7).far2 (g := bt) (j := 2) (u := .slice A8 ts.length c8) hE7).below hP9).mono hbwr.size)
          have HSj := Lib.hid (((((HS7.out.far2 (g := bt) (j := 0) (u := .int .i64 tz) hE8).far2 (g := bt) (j := 1) (u := .slice A7 tl.length c7) hE8).far2 (g := bt) (j := 2) (u := .slice A8 ts.length c8) hE8).below hP9).mono hbwr.size)
          have HE7 := Lib.hid hE7
          have HE8 := Lib.hid hE8
          have hbtj : bt < wj.heap.size := HBj.out.lt
          clear hwj hP9 HQ HBi HB5 t0 t1 t2 f0 f1 f2 a0 a1 a2 hE7 hE8 HN7 HS7 HGG hb5 hbt3
          have t1 : wj.cell? ⟨bt, 1, none⟩ = some (.slice A7 tl.length c7) := HBj.out.cell 1
          go_wp2_with fail
          go_loopw [8] (fun i wr => ∃ (m : Nat), m ≤ tl.length ∧ i = .int .i64 m ∧ Below wj.heap.size wj wr) (fun i _ => tl.length - (intOf i).toNat)
          case atStart => exact ⟨0, Nat.zero_le _, rfl, Below.refl _ _⟩
          case round =>
            obtain ⟨m, hm, rfl, hbm⟩ := hrel
            have HBm := Lib.hid (HBj.out.below hbm)
            have HNm := Lib.hid (HNj.out.below hbm)
            have HSm := Lib.hid (HSj.out.below hbm)
            have hbwm : Below w.heap.size w wr := hbwj.trans (hbm.mono hbwj.size)
            have u0 : wr.cell? ⟨bt, 0, none⟩ = some (.int .i64 tz) := HBm.out.cell 0
            have u1 : wr.cell? ⟨bt, 1, none⟩ = some (.slice A7 tl.length c7) := HBm.out.cell 1
            have u2 : wr.cell? ⟨bt, 2, none⟩ = some (.slice A8 ts.length c8) := HBm.out.cell 2
            have hbtm : bt < wr.heap.size := HBm.out.lt
            clear t1
            by_cases hml : m < tl.length
            · have hx : tl[m]? = some (tl[m]'hml) := List.getElem?_eq_getElem _
              have hkn := HKN.out _ (List.mem_of_getElem? hx)
              obtain ⟨bn, on, rfl, hbn, n0, n1, n2, n3, n4, n5, n6, n7, n8⟩ := HNm.out.sl.Node_at hx
              have HKD := Lib.hid (fun (W : World) (h : Sl cNode 9 W (.slice (some ⟨bn, on, none⟩) tl.length c7) tl) => trKids tz (.slice (some ⟨bn, on, none⟩) tl.length c7) A8 ts.length c8 tl (tl[m]'hml).path W h (by omega) (fun n hn => Nat.le_trans (hgs'.2 n hn) (by decide)))
              have HOP := Lib.hid (fun (W : World) (h : Sl cInt 1 W (.slice A8 ts.length c8) ts) => trOpen tz (.slice A8 ts.length c8) (some ⟨bn, on, none⟩) tl.length c7 ts (tl[m]'hml).owner W h (by have := HSL.out; omega))
              generalize tl[m]'hml = g at *
              obtain ⟨gp, gd, g1, g2, g3, g4, g5, g6, g7⟩ := g
              obtain ⟨e1, e2, e3⟩ := hkn
              unfold KidsRes kidsR getE at HKD
              simp only at *
              rw [e1, if_pos rfl, if_pos rfl] at HKD
              generalize kidsL tl gp = K at *
              have hlen : (((K.length : Nat) : Int) != g7) = false := bne_eq_false_iff_eq.2 e2
              have HE3 := Lib.hid e3
              clear e1 e2 e3 hx
              by_cases ho : g6 = 0
              · subst ho
                clear HE3 HOP
                go_wp2_with (go_at_call 26; (with_reducible refine (HKD.out _ (HNm.out.sl.below (by repeat (first | with_reducible exact Below.refl _ _ | with_reducible assumption | with_reducible exact below_d1 _ _ _ _ _ | with_reducible exact below_d2 _ _ _ _ _ _ _ _ | with_reducible exact below_d3 _ _ _ _ _ | with_reducible exact below_d4 _ _ _ _ _ _ _ _ | with_reducible exact below_d5 _ _ | with_reducible refine Below.drew ?_ | with_reducible refine Below.drewN' ?_ _ | with_reducible refine below_grow0 _ _ ?_ | with_reducible refine below_alloc0 _ ?_ | with_reducible refine Below.setCell ?_ ?_ _ | with_reducible refine Below.alloc ?_ ?_ _ | with_reducible refine Below.grow _ _ _ ?_ ?_ | omega | (simp; done) | (simp; omega))))).mono ?_); rintro e w3 ⟨A5, c5, rfl, hk3, hb3⟩; obtain ⟨ext3, d3, rfl⟩ := Below.grown_eq _ hb3; clear hb3 hk3)
                go_roundw
                case rel => exact ⟨m + 1, by omega, by go_num, (by repeat (first | with_reducible exact Below.refl _ _ | with_reducible assumption | with_reducible exact below_d1 _ _ _ _ _ | with_reducible exact below_d2 _ _ _ _ _ _ _ _ | with_reducible exact below_d3 _ _ _ _ _ | with_reducible exact below_d4 _ _ _ _ _ _ _ _ | with_reducible exact below_d5 _ _ | with_reducible refine Below.drew ?_ | with_reducible refine Below.drewN' ?_ _ | with_reducible refine below_grow0 _ _ ?_ | with_reducible refine below_alloc0 _ ?_ | with_reducible refine Below.setCell ?_ ?_ _ | with_reducible refine Below.alloc ?_ ?_ _ | with_reducible refine Below.grow _ _ _ ?_ ?_ | omega | (simp; done) | (simp; omega)))⟩
                case measure => simp [intOf]; omega
              · have ho2 := HE3.out.resolve_left ho
                have q1 : (g6 == 0) = false := beq_eq_false_iff_ne.2 ho
                have q2 : (g6 != 0) = true := bne_iff_ne.2 ho
                rw [ho2] at HOP
                clear ho2 HE3 ho
                go_wp2_with (first | (go_at_call 26; (with_reducible refine (HKD.out _ (HNm.out.sl.below (by repeat (first | with_reducible exact Below.refl _ _ | with_reducible assumption | with_reducible exact below_d1 _ _ _ _ _ | with_reducible exact below_d2 _ _ _ _ _ _ _ _ | with_reducible exact below_d3 _ _ _ _ _ | with_reducible exact below_d4 _ _ _ _ _ _ _ _ | with_reducible exact below_d5 _ _ | with_reducible refine Below.drew ?_ | with_reducible refine Below.drewN' ?_ _ | with_reducible refine below_grow0 _ _ ?_ | with_reducible refine below_alloc0 _ ?_ | with_reducible refine Below.setCell ?_ ?_ _ | with_reducible refine Below.alloc ?_ ?_ _ | with_reducible refine Below.grow _ _ _ ?_ ?_ | omega | (simp; done) | (simp; omega))))).mono ?_); rintro e w3 ⟨A5, c5, rfl, hk3, hb3⟩; obtain ⟨ext3, d3, rfl⟩ := Below.grown_eq _ hb3; clear hb3 hk3) | (go_at_call 24; refine (HOP.out _ (HSm.out.sl.below (by repeat (first | with_reducible exact Below.refl _ _ | with_reducible assumption | with_reducible exact below_d1 _ _ _ _ _ | with_reducible exact below_d2 _ _ _ _ _ _ _ _ | with_reducible exact below_d3 _ _ _ _ _ | with_reducible exact below_d4 _ _ _ _ _ _ _ _ | with_reducible exact below_d5 _ _ | with_reducible refine Below.drew ?_ | with_reducible refine Below.drewN' ?_ _ | with_reducible refine below_grow0 _ _ ?_ | with_reducible refine below_alloc0 _ ?_ | with_reducible refine Below.setCell ?_ ?_ _ | with_reducible refine Below.alloc ?_ ?_ _ | with_reducible refine Below.grow _ _ _ ?_ ?_ | omega | (simp; done) | (simp; omega))))).mono ?_; rintro e w1 ⟨rfl, hb⟩; obtain ⟨ext4, d4, rfl⟩ := Below.grown_eq _ hb; clear hb))
                go_roundw
                case rel => exact ⟨m + 1, by omega, by go_num, (by repeat (first | with_reducible exact Below.refl _ _ | with_reducible assumption | with_reducible exact below_d1 _ _ _ _ _ | with_reducible exact below_d2 _ _ _ _ _ _ _ _ | with_reducible exact below_d3 _ _ _ _ _ | with_reducible exact below_d4 _ _ _ _ _ _ _ _ | with_reducible exact below_d5 _ _ | with_reducible refine Below.drew ?_ | with_reducible refine Below.drewN' ?_ _ | with_reducible refine below_grow0 _ _ ?_ | with_reducible refine below_alloc0 _ ?_ | with_reducible refine Below.setCell ?_ ?_ _ | with_reducible refine Below.alloc ?_ ?_ _ | with_reducible refine Below.grow _ _ _ ?_ ?_ | omega | (simp; done) | (simp; omega)))⟩
                case measure => simp [intOf]; omega
            · go_wp2_with fail
              go_roundw
              case rel => exact ⟨k + 1, ⟨tz, tl, ts⟩, A7, c7, A8, c8, by omega, by omega, by go_num, hbwm, HG1, HSL.out, HBm, HNm, HSm, HE7, HE8⟩
              case measure => simp [intOf]; omega
        · have q1 : (E == 0) = false := beq_eq_false_iff_ne.2 hE
          have q2 : (E != 0) = true := bne_iff_ne.2 hE
          clear HGD hE
          have HN' := Lib.hid (HN.out.below hbi)
          have HS' := Lib.hid (HS.out.below hbi)
          go_wp2_with fail
          go_roundw
          case rel => exact ⟨k + 1, T, B1, c1, B2, c2, by omega, by omega, by go_num, hbwi, HG, by omega, HBi, HN', HS', HE1, HE2⟩
          case measure => simp [intOf]; omega
    · have hdd : (decide ((k : Int) < (L.length : Int)) && decide ((k : Int) < 80)) = false := by
        rw [Bool.and_eq_false_iff, decide_eq_false_iff_not, decide_eq_false_iff_not]
        omega
      by_cases hk1 : k < L.length
      · have hk2 : decide ((k : Int) < 80) = false := decide_eq_false (by omega)
        go_wp2_with fail
        go_ret
        exact ⟨rfl, hbwr⟩
      · go_wp2_with fail
        go_ret
        exact ⟨rfl, hbwr⟩

namespace treeDeep
theorem own : ownKnob Tryd.prog.godebug = none := by kernel_rfl
theorem laidOut : laidOutB Tryd.prog = true := by kernel_rfl
set_option maxRecDepth 100000 in
set_option maxHeartbeats 1000000 in
theorem lifted (os : Os) (started : os.Started) (H : Type) (enc : TypeId × Value → H) :
    ReturnsInHanded {} Tryd.checked os 8 .any (fun w args => (Rows.treeDeepSpec.pre enc Tryd.prog Tryd.f8 Rows.treeDeepRow.domain false w args ∧ laidMetH Tryd.prog Rows.treeDeepRow.laid w) ∧ sizedMet enc Tryd.prog Tryd.f8 (OpenSpec.ofChange Rows.treeDeepSpec) false w args) (Rows.treeDeepSpec.post enc Tryd.prog Tryd.f8 false true false false) := by
  refine returnsInHanded_of_change_and (C := Tryd.checked) (X := fun w _ => laidMetH Tryd.prog Rows.treeDeepRow.laid w) (fun _ _ _ hh h => h.of_heap hh) own started (by kernel_rfl) Tryd.func8
    (ChangeSpec.witness_shaped (enc := enc) (C := Tryd.checked) (os := os) (X := fun w _ => laidMetH Tryd.prog Rows.treeDeepRow.laid w) false (World.laidAll Tryd.prog os Rows.treeDeepRow.laid) #[.slice none 0 0] 8 (World.laidAll_os _ _ _)
      (World.shaped_of_ZipB (by kernel_rfl) (by kernel_rfl)) (by kernel_rfl) (by kernel_rfl) (by kernel_rfl)
      (by rw [MakeChecks.laidMetH_plain _ _ _ (by kernel_rfl)]; exact laidMet_laidAll _ (by kernel_rfl) (by kernel_rfl))) ?_
  intro W base args ds gs before hval0 hW0 _ hsz0 hL _
  have hval : ∀ (j : Nat) t v, Tryd.f8.params[j]? = some t → args[j]? = some v → Value.okWide Tryd.prog W .any base t v := hval0
  have hW : DataW.Whole enc Tryd.prog Tryd.f8.params.toList Rows.treeDeepSpec.vars false W args.toList ds gs before := hW0
  have hlt : ∀ p ∈ before, p.block < W.heap.size := fun p hp => hW.lt p hp
  have hW1 := hW
  obtain ⟨p, q, hA0, hV, rfl, hfz, hnd⟩ := hW1
  have hA : DataW.TrodAll enc Tryd.prog W 0 (fun _ => true) true Tryd.f8.params.toList args.toList ds p := hA0
  obtain ⟨rfl, rfl⟩ := trodVars_none hV
  rw [Tryd.params8] at hA hval
  obtain ⟨v0, vs0, d0, ds0, p0, q0, hargs, rfl, rfl, h0, r0⟩ := trodAll_cons hA
  obtain ⟨rfl, rfl, rfl⟩ := trodAll_nil r0
  obtain rfl : args = #[v0] := by cases args; simp_all
  have hsz : (DataW.weightsEach Tryd.prog [63] [d0]).all (· ≤ reachBytes) = true := hsz0
  have close : ∀ e W', (e = Ending.returned (.bool true) ∧ Below W.heap.size W W') → ∃ v, e = .returned v ∧ Rows.treeDeepSpec.post enc Tryd.prog Tryd.f8 false true false false W #[v0] v W' :=
    fun e W' ⟨he, hb⟩ => ⟨_, he, law_post laidOut (of_decide_eq_true (by kernel_rfl)) rfl rfl Tryd.underlying4 hW rfl hb⟩
  clear hA0 hsz0 hval0 hW0 hA hV hW hfz hnd
  obtain ⟨xs0, hr0, hf0, els0, sp0, he0⟩ := open_rows (ks := [.i .i64, .i .i64, .i .i64, .s, .s, .i .i64, .i .i64]) 9 Tryd.underlying63 (by kernel_rfl) (hval 0 63 v0 rfl rfl) h0 (fun x hx => hlt x (by simp [hx])) (by decide)
  have rb0 : xs0.length * 72 ≤ 140737488351232 := by
    rcases he0 with ⟨_, rfl⟩ | ⟨hd, hl⟩
    · simp
    · rw [hd] at hsz
      have := sized_slice hsz (j := 0) rfl rfl Tryd.underlying63
      rw [show Tryd.prog.bytesOf 49 = 72 from by kernel_rfl] at this
      simp only [reachBytes] at this
      rw [hl] at this
      exact Nat.le_trans (Nat.mul_le_mul_right _ (Nat.le_add_right _ _)) this
  obtain ⟨l, rfl, hlo⟩ := typed (fun x hx => fitsTxn (hf0 x hx))
  have hs : Sl cTxn 7 W v0 l := hr0
  exact (treeDeep_ok v0 l W hs (fun t ht => by have := (hlo t ht).2.2.2.1; simpa [maxLen] using this)).mono close
theorem proved : Rows.TreeDeepSaid :=
  OpenClaim.holds_of_wide 8 Tryd.f8 rfl rfl rfl rfl rfl rfl rfl ⟨rfl, rfl, rfl, rfl, rfl⟩ rfl rfl rfl rfl rfl (by kernel_rfl) Tryd.func8 (by kernel_rfl)
    (of_decide_eq_true (by kernel_rfl)) (by unfold Func.isWrapper; first | (rw [if_pos (by decide +kernel)]; kernel_rfl) | (rw [if_neg (by decide +kernel)]; exact ⟨rfl, rfl⟩))
    (fun os started H enc _ => lifted os started H enc)
theorem card : Rows.TreeDeepCardSaid :=
  Claim7.holds_tied_plain_at .later [] Rows.treeDeepCard.laidKinds true Rows.treeDeepCard.stood.harness false
    proved (fun _ h => by cases h) (by kernel_rfl) (fun _ h => by cases h) treeDeep_row_tie rfl ⟨rfl, rfl⟩ (by kernel_rfl) rfl
    (fun f fn hf hfn => by
      obtain rfl : f = 8 := Option.some.inj ((show Tryd.prog.funcNamed "aviary/aviarykeep.TreeDeep" = some 8 by kernel_rfl).symm.trans hf) |>.symm
      obtain rfl : fn = Tryd.f8 := (Option.some.inj (Tryd.func8.symm.trans hfn)).symm
      exact ⟨by kernel_rfl, fun j t ht => by
        rw [Tryd.params8] at ht
        have hm : t ∈ [63] := by simpa using Array.mem_of_getElem? ht
        have hall : ([63].all fun u => !Tryd.prog.wantsStandIn u) = true := by kernel_rfl
        exact (show Tryd.prog.wantsStandIn t = false by simpa using List.all_eq_true.1 hall t hm)⟩)
    (by kernel_rfl)
end treeDeep
end Go.Proofs.YteolglmifimnaaaDoor
