/- Lemmas for the statement: HandC, T4I, T5I, Full, ApplyA, PrepC. -/
import Derived.Test.YteolglmifimnaaaDoorPt1
import Derived.Test.YteolglmifimnaaaDoorPt2
import Derived.Test.YteolglmifimnaaaDoorPt3
import Derived.Test.YteolglmifimnaaaDoorPt4
import Derived.Test.YteolglmifimnaaaDoorPt5
import Derived.Test.YteolglmifimnaaaDoorPt6
import Derived.Test.YteolglmifimnaaaDoorPt7
/- package tree: hand.create. -/
namespace Go.Proofs.YteolglmifimnaaaDoor
open Go.RowKit Go.ChangeShapes Go.WideShapes Go.ChangeAt
theorem Bk.new (w : World) (cs : Array Value) (t : TypeId) {g : Nat} (hg : g = w.heap.size) : Bk (w.alloc (.cells cs t)) g cs.toList t := by
  subst hg
  unfold Bk
  simp only [Array.toArray_toList]
  exact heap_alloc_new w _
theorem own_lt {α : Type} {f : α → List Value} {s : Nat} {e : TypeId} {w : World} {B : Nat} {v : Value} {l : List α} (h : Ow f s e w B v l) {g : Nat} (hg : w.heap.size ≤ g) : v.ownBlock ≠ some g := fun e => by have := h.lt g e; omega
set_option maxHeartbeats 4000000 in
set_option maxRecDepth 100000 in
theorem handCreate (z : Int) (l : List Node) (ss : List Int) (ev : List Event) (x : Txn) (nv sv vv : Value) (w : World) (B b : Nat) (h : Hand w B b ⟨z, l, ss⟩ ev nv sv vv) (hB : B ≤ w.heap.size) (hk : hasN l x.path = false) (hp : x.path.size ≤ 9223372036854775807) (hn : (l.length + 1) * 88 ≤ 140737488355328)
    (hev : (ev.length + 2) * 24 ≤ 140737488355328) (hbd : ∀ n ∈ l, -4000000000 ≤ n.kids ∧ n.kids ≤ 4000000000 ∧ -4000000000 ≤ n.cversion ∧ n.cversion ≤ 4000000000) :
    Calls Tryd.prog 49 #[.pointer (some ⟨b, 0, none⟩), txnV x] w (HandRes w B b ⟨z, makeN l x, ss⟩ (ev ++ makeV x.path)) := by
  obtain ⟨A, c, rfl, h1, h1b, _⟩ := h.nodes.form
  obtain ⟨A2, c2, rfl, h2, h2b, _⟩ := h.sess.form
  obtain ⟨A3, c3, rfl, h3, h3b, _⟩ := h.evs.form
  have HH := Lib.hid h
  have hne1 := own_lt h.nodes (Nat.le_refl _)
  have hne3 := own_lt h.evs (Nat.le_refl _)
  have HFD := Lib.hid (fun (W : World) (h : Sl cNode 9 W (.slice A l.length c) l) => trFind z (.slice A l.length c) A2 ss.length c2 l x.path W h (by omega))
  rw [hk] at HFD
  have hql : posN l x.path ≤ l.length := by
    have := posK_le' (l.map Node.path) x.path
    rwa [List.length_map] at this
  have hdd : insN l (nodeOf x) = l.take (posN l x.path) ++ nodeOf x :: l.drop (posN l x.path) := rfl
  have HBD : Hid (∀ n ∈ insN l (nodeOf x), -4000000000 ≤ n.kids ∧ n.kids ≤ 4000000000 ∧ -4000000000 ≤ n.cversion ∧ n.cversion ≤ 4000000000) := Lib.hid (fun n hn => by
    rw [hdd] at hn
    rcases List.mem_append.1 hn with hn | hn
    · exact hbd n (List.mem_of_mem_take hn)
    · rcases List.mem_cons.1 hn with rfl | hn
      · simp only [nodeOf]; omega
      · exact hbd n (List.mem_of_mem_drop hn))
  have hLl : (insN l (nodeOf x)).length = l.length + 1 := by
    rw [hdd, List.length_append, List.length_cons, List.length_take, List.length_drop]
    omega
  unfold makeN makeV parent
  obtain ⟨xz, xo, xs, xp, xd, xv, xw⟩ := x
  simp only at *
  obtain ⟨L, hL⟩ : ∃ L, L = insN l (nodeOf ⟨xz, xo, xs, xp, xd, xv, xw⟩) := ⟨_, rfl⟩
  rw [← hL] at hdd HBD hLl ⊢
  generalize posN l xp = q at *
  obtain ⟨b0, b1, b2, b3, bf1, bf2, bf3, bf0, blt⟩ := h.cells
  clear h hk hbd hL
  go_enter Tryd.func49, Tryd.ntmps49
  go_upto_region 1 with fail
  refine wp_region_grow (by kernel_rfl) (by kernel_rfl) ?_
  try simp only [List.append]
  repeat' (first | go_big_quiet_skip | (go_big_quiet_want; go_big_quiet_op; first | go_big_quiet_on | (apply Exists.intro; refine ⟨fun _ => ?hqg1, ?hqg2⟩; (case hqg1 => (go_at_call 38; refine Calls.grow_of (HFD.out _ (HH.out.nodes.sl.below (by repeat (first | with_reducible exact Below.refl _ _ | with_reducible assumption | with_reducible exact below_d1 _ _ _ _ _ | with_reducible exact below_d2 _ _ _ _ _ _ _ _ | with_reducible exact below_d3 _ _ _ _ _ | with_reducible exact below_d4 _ _ _ _ _ _ _ _ | with_reducible exact below_d5 _ _ | with_reducible refine Below.drew ?_ | with_reducible refine Below.drewN' ?_ _ | with_reducible refine below_grow0 _ _ ?_ | with_reducible refine below_alloc0 _ ?_ | with_reducible refine Below.setCell ?_ ?_ _ | with_reducible refine Below.alloc ?_ ?_ _ | with_reducible refine Below.grow _ _ _ ?_ ?_ | omega | (simp; done) | (simp; omega))))))); go_big_quiet_on)))
  all_goals refine wpQuiet_nil ?_
  all_goals rintro _ ⟨⟨extq, dq⟩, rfl⟩
  all_goals dsimp only
  go_upto_region 2 with fail
  refine gen_w (fun W1 hW1 => ?_)
  have hbW1 : Below w.heap.size w W1 := by rw [hW1.out]; exact (by repeat (first | with_reducible exact Below.refl _ _ | with_reducible assumption | with_reducible exact below_d1 _ _ _ _ _ | with_reducible exact below_d2 _ _ _ _ _ _ _ _ | with_reducible exact below_d3 _ _ _ _ _ | with_reducible exact below_d4 _ _ _ _ _ _ _ _ | with_reducible exact below_d5 _ _ | with_reducible refine Below.drew ?_ | with_reducible refine Below.drewN' ?_ _ | with_reducible refine below_grow0 _ _ ?_ | with_reducible refine below_alloc0 _ ?_ | with_reducible refine Below.setCell ?_ ?_ _ | with_reducible refine Below.alloc ?_ ?_ _ | with_reducible refine Below.grow _ _ _ ?_ ?_ | omega | (simp; done) | (simp; omega)))
  have H1 := Lib.hid (HH.out.below hbW1)
  have HX1 : Hid (Bk W1 w.heap.size (cTxn ⟨xz, xo, xs, xp, xd, xv, xw⟩) 49) := Lib.hid (by rw [hW1.out]; exact (Bk.new w _ _ rfl).below (by repeat (first | with_reducible exact Below.refl _ _ | with_reducible assumption | with_reducible exact below_d1 _ _ _ _ _ | with_reducible exact below_d2 _ _ _ _ _ _ _ _ | with_reducible exact below_d3 _ _ _ _ _ | with_reducible exact below_d4 _ _ _ _ _ _ _ _ | with_reducible exact below_d5 _ _ | with_reducible refine Below.drew ?_ | with_reducible refine Below.drewN' ?_ _ | with_reducible refine below_grow0 _ _ ?_ | with_reducible refine below_alloc0 _ ?_ | with_reducible refine Below.setCell ?_ ?_ _ | with_reducible refine Below.alloc ?_ ?_ _ | with_reducible refine Below.grow _ _ _ ?_ ?_ | omega | (simp; done) | (simp; omega))))
  have hs1 : w.heap.size < W1.heap.size := HX1.out.lt
  clear hW1 b0 b1 b2 b3 bf1 bf2 bf3 bf0 HFD HH
  obtain ⟨b0, b1, b2, b3, bf1, bf2, bf3, bf0, blt1⟩ := H1.out.cells
  have x0 := HX1.out.cell 0
  have x1 := HX1.out.cell 1
  have x2 := HX1.out.cell 2
  have x3 := HX1.out.cell 3
  have x4 := HX1.out.cell 4
  have x5 := HX1.out.cell 5
  have x6 := HX1.out.cell 6
  simp only [cTxn, List.getElem?_cons_succ, List.getElem?_cons_zero] at x0 x1 x2 x3 x4 x5 x6
  refine wp_region_noPanic ?_
  refine wp_region_W (by kernel_rfl) (fun W hW => ?_)
  have cl0 : W.cell? ⟨b, 1, none⟩ = some (.slice A l.length c) := by rw [hW.out]; go_simp
  have cl1 : W.cell? ⟨w.heap.size, 0, none⟩ = some (.int .i64 xz) := by rw [hW.out]; go_simp
  have cl2 : W.cell? ⟨w.heap.size, 1, none⟩ = some (.int .i64 xo) := by rw [hW.out]; go_simp
  have cl3 : W.cell? ⟨w.heap.size, 2, none⟩ = some (.int .i64 xs) := by rw [hW.out]; go_simp
  have cl4 : W.cell? ⟨w.heap.size, 3, none⟩ = some (.string xp) := by rw [hW.out]; go_simp
  have cl5 : W.cell? ⟨w.heap.size, 4, none⟩ = some (.string xd) := by rw [hW.out]; go_simp
  have cl6 : W.cell? ⟨w.heap.size, 5, none⟩ = some (.int .i64 xv) := by rw [hW.out]; go_simp
  have cl7 : W.cell? ⟨w.heap.size, 6, none⟩ = some (.int .i64 xw) := by rw [hW.out]; go_simp
  refine wpAny_S (fun w' => w'.cell? ⟨b, 1, none⟩ = some (.slice A l.length c) ∧ w'.cell? ⟨w.heap.size, 0, none⟩ = some (.int .i64 xz) ∧ w'.cell? ⟨w.heap.size, 1, none⟩ = some (.int .i64 xo) ∧ w'.cell? ⟨w.heap.size, 2, none⟩ = some (.int .i64 xs) ∧ w'.cell? ⟨w.heap.size, 3, none⟩ = some (.string xp) ∧ w'.cell? ⟨w.heap.size, 4, none⟩ = some (.string xd) ∧ w'.cell? ⟨w.heap.size, 5, none⟩ = some (.int .i64 xv) ∧ w'.cell? ⟨w.heap.size, 6, none⟩ = some (.int .i64 xw)) (fun i => i == 26) (by (try dsimp only); (refine ⟨?_, ?_, ?_, ?_, ?_, ?_, ?_, ?_⟩ <;> go_simp)) (fun hHeld => ?_)
  (refine wpE_takeP (i := 0) (v := ?gV1_1) (by simp only [List.getElem?_toArray]; rfl) (by kernel_rfl) (by kernel_rfl) (by kernel_rfl) (by rfl) (fun _ _ _ h => h) (Or.inl ⟨by rfl, ?gY1_1⟩) (by assumption) ?gR1_1; case gY1_1 => (intro w hSw; (try dsimp only at hSw); go_simp <;> with_reducible rfl))
  try simp only [Act.put, List.setIfInBounds_toArray, List.set_cons_zero, List.set_cons_succ]
  (refine wpE_takeP (i := 1) (v := ?gV1_2) (by simp only [List.getElem?_toArray]; rfl) (by kernel_rfl) (by kernel_rfl) (by kernel_rfl) (by rfl) (fun _ _ _ h => h) (Or.inl ⟨by rfl, ?gY1_2⟩) (by assumption) ?gR1_2; case gY1_2 => (intro w hSw; (try dsimp only at hSw); go_simp <;> with_reducible rfl))
  try simp only [Act.put, List.setIfInBounds_toArray, List.set_cons_zero, List.set_cons_succ]
  (refine wpE_takeP (i := 2) (v := ?gV1_3) (by simp only [List.getElem?_toArray]; rfl) (by kernel_rfl) (by kernel_rfl) (by kernel_rfl) (by rfl) (fun _ _ _ h => h) (Or.inl ⟨by rfl, ?gY1_3⟩) (by assumption) ?gR1_3; case gY1_3 => (intro w hSw; (try dsimp only at hSw); go_simp <;> with_reducible rfl))
  try simp only [Act.put, List.setIfInBounds_toArray, List.set_cons_zero, List.set_cons_succ]
  (refine wpE_takeP (i := 3) (v := ?gV1_4) (by simp only [List.getElem?_toArray]; rfl) (by kernel_rfl) (by kernel_rfl) (by kernel_rfl) (by rfl) (fun _ _ _ h => h) (Or.inl ⟨by rfl, ?gY1_4⟩) (by assumption) ?gR1_4; case gY1_4 => (intro w hSw; (try dsimp only at hSw); go_simp <;> with_reducible rfl))
  try simp only [Act.put, List.setIfInBounds_toArray, List.set_cons_zero, List.set_cons_succ]
  (refine wpE_takeP (i := 4) (v := ?gV1_5) (by simp only [List.getElem?_toArray]; rfl) (by kernel_rfl) (by kernel_rfl) (by kernel_rfl) (by rfl) (fun _ _ _ h => h) (Or.inl ⟨by rfl, ?gY1_5⟩) (by assumption) ?gR1_5; case gY1_5 => (intro w hSw; (try dsimp only at hSw); go_simp <;> with_reducible rfl))
  try simp only [Act.put, List.setIfInBounds_toArray, List.set_cons_zero, List.set_cons_succ]
  (refine wpE_take (i := 5) (v := ?gV1_6) (by simp only [List.getElem?_toArray]; rfl) (by kernel_rfl) (by kernel_rfl) (by kernel_rfl) (by kernel_rfl) (by kernel_rfl) (by rfl) (fun _ _ _ h => h) (Or.inl ⟨by rfl, ?gY1_6⟩) (by assumption) ?gR1_6; case gY1_6 => (intro w hSw; (try dsimp only at hSw); go_simp <;> with_reducible rfl))
  try simp only [Act.put, List.setIfInBounds_toArray, List.set_cons_zero, List.set_cons_succ]
  (refine wpE_takeP (i := 6) (v := ?gV1_7) (by simp only [List.getElem?_toArray]; rfl) (by kernel_rfl) (by kernel_rfl) (by kernel_rfl) (by rfl) (fun _ _ _ h => h) (Or.inl ⟨by rfl, ?gY1_7⟩) (by assumption) ?gR1_7; case gY1_7 => (intro w hSw; (try dsimp only at hSw); go_simp <;> with_reducible rfl))
  try simp only [Act.put, List.setIfInBounds_toArray, List.set_cons_zero, List.set_cons_succ]
  (refine wpE_takeP (i := 7) (v := ?gV1_8) (by simp only [List.getElem?_toArray]; rfl) (by kernel_rfl) (by kernel_rfl) (by kernel_rfl) (by rfl) (fun _ _ _ h => h) (Or.inl ⟨by rfl, ?gY1_8⟩) (by assumption) ?gR1_8; case gY1_8 => (intro w hSw; (try dsimp only at hSw); go_simp <;> with_reducible rfl))
  try simp only [Act.put, List.setIfInBounds_toArray, List.set_cons_zero, List.set_cons_succ]
  (refine wpE_take (i := 8) (v := ?gV1_9) (by simp only [List.getElem?_toArray]; rfl) (by kernel_rfl) (by kernel_rfl) (by kernel_rfl) (by kernel_rfl) (by kernel_rfl) (by rfl) (fun _ _ _ h => h) (Or.inl ⟨by rfl, ?gY1_9⟩) (by assumption) ?gR1_9; case gY1_9 => (intro w hSw; (try dsimp only at hSw); go_simp <;> with_reducible rfl))
  try simp only [Act.put, List.setIfInBounds_toArray, List.set_cons_zero, List.set_cons_succ]
  (refine wpE_takeP (i := 9) (v := ?gV1_10) (by simp only [List.getElem?_toArray]; rfl) (by kernel_rfl) (by kernel_rfl) (by kernel_rfl) (by rfl) (fun _ _ _ h => h) (Or.inl ⟨by rfl, ?gY1_10⟩) (by assumption) ?gR1_10; case gY1_10 => (intro w hSw; (try dsimp only at hSw); go_simp <;> with_reducible rfl))
  try simp only [Act.put, List.setIfInBounds_toArray, List.set_cons_zero, List.set_cons_succ]
  (refine wpE_take (i := 10) (v := ?gV1_11) (by simp only [List.getElem?_toArray]; rfl) (by kernel_rfl) (by kernel_rfl) (by kernel_rfl) (by kernel_rfl) (by kernel_rfl) (by rfl) (fun _ _ _ h => h) (Or.inl ⟨by rfl, ?gY1_11⟩) (by assumption) ?gR1_11; case gY1_11 => (intro w hSw; (try dsimp only at hSw); go_simp <;> with_reducible rfl))
  try simp only [Act.put, List.setIfInBounds_toArray, List.set_cons_zero, List.set_cons_succ]
  (refine wpE_takeP (i := 11) (v := ?gV1_12) (by simp only [List.getElem?_toArray]; rfl) (by kernel_rfl) (by kernel_rfl) (by kernel_rfl) (by rfl) (fun _ _ _ h => h) (Or.inl ⟨by rfl, ?gY1_12⟩) (by assumption) ?gR1_12; case gY1_12 => (intro w hSw; (try dsimp only at hSw); go_simp <;> with_reducible rfl))
  try simp only [Act.put, List.setIfInBounds_toArray, List.set_cons_zero, List.set_cons_succ]
  (refine wpE_take (i := 12) (v := ?gV1_13) (by simp only [List.getElem?_toArray]; rfl) (by kernel_rfl) (by kernel_rfl) (by kernel_rfl) (by kernel_rfl) (by kernel_rfl) (by rfl) (fun _ _ _ h => h) (Or.inl ⟨by rfl, ?gY1_13⟩) (by assumption) ?gR1_13; case gY1_13 => (intro w hSw; (try dsimp only at hSw); go_simp <;> with_reducible rfl))
  try simp only [Act.put, List.setIfInBounds_toArray, List.set_cons_zero, List.set_cons_succ]
  (refine wpE_takeP (i := 13) (v := ?gV1_14) (by simp only [List.getElem?_toArray]; rfl) (by kernel_rfl) (by kernel_rfl) (by kernel_rfl) (by rfl) (fun _ _ _ h => h) (Or.inl ⟨by rfl, ?gY1_14⟩) (by assumption) ?gR1_14; case gY1_14 => (intro w hSw; (try dsimp only at hSw); go_simp <;> with_reducible rfl))
  try simp only [Act.put, List.setIfInBounds_toArray, List.set_cons_zero, List.set_cons_succ]
  (refine wpE_take (i := 14) (v := ?gV1_15) (by simp only [List.getElem?_toArray]; rfl) (by kernel_rfl) (by kernel_rfl) (by kernel_rfl) (by kernel_rfl) (by kernel_rfl) (by rfl) (fun _ _ _ h => h) (Or.inl ⟨by rfl, ?gY1_15⟩) (by assumption) ?gR1_15; case gY1_15 => (intro w hSw; (try dsimp only at hSw); go_simp <;> with_reducible rfl))
  try simp only [Act.put, List.setIfInBounds_toArray, List.set_cons_zero, List.set_cons_succ]
  (refine wpE_takeP (i := 15) (v := ?gV1_16) (by simp only [List.getElem?_toArray]; rfl) (by kernel_rfl) (by kernel_rfl) (by kernel_rfl) (by rfl) (fun _ _ _ h => h) (Or.inl ⟨by rfl, ?gY1_16⟩) (by assumption) ?gR1_16; case gY1_16 => (intro w hSw; (try dsimp only at hSw); go_simp <;> with_reducible rfl))
  try simp only [Act.put, List.setIfInBounds_toArray, List.set_cons_zero, List.set_cons_succ]
  (refine wpE_take (i := 16) (v := ?gV1_17) (by simp only [List.getElem?_toArray]; rfl) (by kernel_rfl) (by kernel_rfl) (by kernel_rfl) (by kernel_rfl) (by kernel_rfl) (by rfl) (fun _ _ _ h => h) (Or.inl ⟨by rfl, ?gY1_17⟩) (by assumption) ?gR1_17; case gY1_17 => (intro w hSw; (try dsimp only at hSw); go_simp <;> with_reducible rfl))
  try simp only [Act.put, List.setIfInBounds_toArray, List.set_cons_zero, List.set_cons_succ]
  (refine wpE_takeP (i := 17) (v := ?gV1_18) (by simp only [List.getElem?_toArray]; rfl) (by kernel_rfl) (by kernel_rfl) (by kernel_rfl) (by rfl) (fun _ _ _ h => h) (Or.inl ⟨by rfl, ?gY1_18⟩) (by assumption) ?gR1_18; case gY1_18 => (intro w hSw; (try dsimp only at hSw); go_simp <;> with_reducible rfl))
  try simp only [Act.put, List.setIfInBounds_toArray, List.set_cons_zero, List.set_cons_succ]
  (refine wpE_take (i := 18) (v := ?gV1_19) (by simp only [List.getElem?_toArray]; rfl) (by kernel_rfl) (by kernel_rfl) (by kernel_rfl) (by kernel_rfl) (by kernel_rfl) (by rfl) (fun _ _ _ h => h) (Or.inl ⟨by rfl, ?gY1_19⟩) (by assumption) ?gR1_19; case gY1_19 => (intro w hSw; (try dsimp only at hSw); go_simp <;> with_reducible rfl))
  try simp only [Act.put, List.setIfInBounds_toArray, List.set_cons_zero, List.set_cons_succ]
  (refine wpE_takeP (i := 19) (v := ?gV1_20) (by simp only [List.getElem?_toArray]; rfl) (by kernel_rfl) (by kernel_rfl) (by kernel_rfl) (by rfl) (fun _ _ _ h => h) (Or.inl ⟨by rfl, ?gY1_20⟩) (by assumption) ?gR1_20; case gY1_20 => (intro w hSw; (try dsimp only at hSw); go_simp <;> with_reducible rfl))
  try simp only [Act.put, List.setIfInBounds_toArray, List.set_cons_zero, List.set_cons_succ]
  (refine wpE_takeP (i := 20) (v := ?gV1_21) (by simp only [List.getElem?_toArray]; rfl) (by kernel_rfl) (by kernel_rfl) (by kernel_rfl) (by rfl) (fun _ _ _ h => h) (Or.inl ⟨by rfl, ?gY1_21⟩) (by assumption) ?gR1_21; case gY1_21 => (intro w hSw; (try dsimp only at hSw); go_simp <;> with_reducible rfl))
  try simp only [Act.put, List.setIfInBounds_toArray, List.set_cons_zero, List.set_cons_succ]
  refine wpE_ready (rs := [21]) (by kernel_rfl) (by simp) ?_
  refine AllE.cons (by simp only [List.getElem?_toArray]; rfl) (fun K hK => ?_) AllE.nil
  go_simp
  refine hK.out _ _ ?gT1_22 (fun hHeld => ?_)
  case gT1_22 => ((try dsimp only); (refine ⟨?_, ?_, ?_, ?_, ?_, ?_, ?_, ?_⟩ <;> go_simp))
  clear hK K
  try simp only [Act.put, List.setIfInBounds_toArray, List.set_cons_zero, List.set_cons_succ]
  refine wpE_ready (rs := [22]) (by kernel_rfl) (by simp) ?_
  refine AllE.cons (by simp only [List.getElem?_toArray]; rfl) (fun K hK => ?_) AllE.nil
  go_simp
  (go_at_call 71; (with_reducible refine (insNode _ q l (nodeOf ⟨xz, xo, xs, xp, xd, xv, xw⟩) _ B W.heap.size (H1.out.nodes.below (by rw [hW.out]; exact (by repeat (first | with_reducible exact Below.refl _ _ | with_reducible assumption | with_reducible exact below_d1 _ _ _ _ _ | with_reducible exact below_d2 _ _ _ _ _ _ _ _ | with_reducible exact below_d3 _ _ _ _ _ | with_reducible exact below_d4 _ _ _ _ _ _ _ _ | with_reducible exact below_d5 _ _ | with_reducible refine Below.drew ?_ | with_reducible refine Below.drewN' ?_ _ | with_reducible refine below_grow0 _ _ ?_ | with_reducible refine below_alloc0 _ ?_ | with_reducible refine Below.setCell ?_ ?_ _ | with_reducible refine Below.alloc ?_ ?_ _ | with_reducible refine Below.grow _ _ _ ?_ ?_ | omega | (simp; done) | (simp; omega))))) hql (show Bk (W.alloc (.cells #[.string xp, .string xd, .int .i64 xz, .int .i64 xz, .int .i64 xz, .int .i64 0, .int .i64 0, .int .i64 xw, .int .i64 0] 40)) W.heap.size (cNode (nodeOf ⟨xz, xo, xs, xp, xd, xv, xw⟩)) 40 from Bk.new W #[.string xp, .string xd, .int .i64 xz, .int .i64 xz, .int .i64 xz, .int .i64 0, .int .i64 0, .int .i64 xw, .int .i64 0] _ rfl) (own_lt H1.out.nodes (by rw [hW.out]; simp)) (by rw [hW.out]; simp; omega) hn).mono ?_); rintro e w2 ⟨A5, c5, rfl, hown5, hg5, hat5⟩; rw [← hdd] at hown5; have HX := Lib.hid (hand_rows (l' := L) H1.out (hbW1.mono hB) (by rw [hW.out]; exact (by repeat (first | with_reducible exact Below.refl _ _ | with_reducible assumption | with_reducible exact below_d1 _ _ _ _ _ | with_reducible exact below_d2 _ _ _ _ _ _ _ _ | with_reducible exact below_d3 _ _ _ _ _ | with_reducible exact below_d4 _ _ _ _ _ _ _ _ | with_reducible exact below_d5 _ _ | with_reducible refine Below.drew ?_ | with_reducible refine Below.drewN' ?_ _ | with_reducible refine below_grow0 _ _ ?_ | with_reducible refine below_alloc0 _ ?_ | with_reducible refine Below.setCell ?_ ?_ _ | with_reducible refine Below.alloc ?_ ?_ _ | with_reducible refine Below.grow _ _ _ ?_ ?_ | omega | (simp; done) | (simp; omega)))) hown5 hg5 hat5); have hB2 := (HX1.out.below (by rw [hW.out]; exact (by repeat (first | with_reducible exact Below.refl _ _ | with_reducible assumption | with_reducible exact below_d1 _ _ _ _ _ | with_reducible exact below_d2 _ _ _ _ _ _ _ _ | with_reducible exact below_d3 _ _ _ _ _ | with_reducible exact below_d4 _ _ _ _ _ _ _ _ | with_reducible exact below_d5 _ _ | with_reducible refine Below.drew ?_ | with_reducible refine Below.drewN' ?_ _ | with_reducible refine below_grow0 _ _ ?_ | with_reducible refine below_alloc0 _ ?_ | with_reducible refine Below.setCell ?_ ?_ _ | with_reducible refine Below.alloc ?_ ?_ _ | with_reducible refine Below.grow _ _ _ ?_ ?_ | omega | (simp; done) | (simp; omega))))).grown hg5 (fun e => hne1 e.symm); have y0 := hB2.cell 0; have y1 := hB2.cell 1; have y2 := hB2.cell 2; have y3 := hB2.cell 3; have y4 := hB2.cell 4; have y5 := hB2.cell 5; have y6 := hB2.cell 6; simp only [cTxn, List.getElem?_cons_succ, List.getElem?_cons_zero] at y0 y1 y2 y3 y4 y5 y6; have HBX := Lib.hid (hB2.far (g2 := b) (j := 1) (v := .slice A5 (l.length + 1) c5) (by omega)); clear hB2; obtain ⟨_, _, hs3, hf3, hl3⟩ := HX.out; clear hown5 hg5 hat5)
  refine hK.out _ _ ?gT1_23 (fun hHeld => ?_)
  case gT1_23 => ((try dsimp only); (refine ⟨?_, ?_, ?_, ?_, ?_, ?_, ?_, ?_⟩ <;> go_simp))
  clear hK K
  try simp only [Act.put, List.setIfInBounds_toArray, List.set_cons_zero, List.set_cons_succ]
  (refine wpE_takeP (i := 23) (v := ?gV1_24) (by simp only [List.getElem?_toArray]; rfl) (by kernel_rfl) (by kernel_rfl) (by kernel_rfl) (by rfl) (fun _ _ _ h => h) (Or.inl ⟨by rfl, ?gY1_24⟩) (by assumption) ?gR1_24; case gY1_24 => (intro w hSw; (try dsimp only at hSw); go_simp <;> with_reducible rfl))
  try simp only [Act.put, List.setIfInBounds_toArray, List.set_cons_zero, List.set_cons_succ]
  (refine wpE_takeP (i := 24) (v := ?gV1_25) (by simp only [List.getElem?_toArray]; rfl) (by kernel_rfl) (by kernel_rfl) (by kernel_rfl) (by rfl) (fun _ _ _ h => h) (Or.inl ⟨by rfl, ?gY1_25⟩) (by assumption) ?gR1_25; case gY1_25 => (intro w hSw; (try dsimp only at hSw); go_simp <;> with_reducible rfl))
  try simp only [Act.put, List.setIfInBounds_toArray, List.set_cons_zero, List.set_cons_succ]
  (refine wpE_takeP (i := 25) (v := ?gV1_26) (by simp only [List.getElem?_toArray]; rfl) (by kernel_rfl) (by kernel_rfl) (by kernel_rfl) (by rfl) (fun _ _ _ h => h) (Or.inl ⟨by rfl, ?gY1_26⟩) (by assumption) ?gR1_26; case gY1_26 => (intro w hSw; (try dsimp only at hSw); go_simp <;> with_reducible rfl))
  try simp only [Act.put, List.setIfInBounds_toArray, List.set_cons_zero, List.set_cons_succ]
  refine wpE_ready (rs := [26]) (by kernel_rfl) (by simp) ?_
  refine AllE.last (by simp only [List.getElem?_toArray]; rfl) (by kernel_rfl) (fun K hK => ?_) AllE.nil
  go_simp
  refine hK.out _ _ ?_
  clear hK K
  try simp only [Act.put, List.setIfInBounds_toArray, List.set_cons_zero, List.set_cons_succ]
  refine wpE_done (by kernel_rfl) ?_ _
  refine NoPanic.normal ?_
  go_upto_region 3 with fail
  refine gen_w (fun W2 hW2 => ?_)
  rw [← hW2.out] at HX HBX
  have H2 := Lib.hid HX.out.1
  have hb2 : Below B w W2 := HX.out.2.1
  clear hW2 HX hs3 hf3 hl3 y0 y1 y2 y3 y4 y5 y6 H1 b0 b1 b2 b3 bf1 bf2 bf3 bf0 x0 x1 x2 x3 x4 x5 x6 HX1 hW cl0 cl1 cl2 cl3 cl4 cl5 cl6 cl7 hHeld
  obtain ⟨b0, b1, b2, b3, bf1, bf2, bf3, bf0, blt2⟩ := H2.out.cells
  have x3 := HBX.out.cell 3
  have x0 := HBX.out.cell 0
  have hs2 := HBX.out.lt
  simp only [cTxn, List.getElem?_cons_succ, List.getElem?_cons_zero] at x0 x3
  have hBW : B ≤ W2.heap.size := Nat.le_trans H2.out.base (Nat.le_of_lt blt2)
  refine wp_region_noPanic ?_
  refine wp_region_W (by kernel_rfl) (fun W hW => ?_)
  have cl0 : W.cell? ⟨b, 3, none⟩ = some (.slice A3 ev.length c3) := by rw [hW.out]; go_simp
  have cl1 : W.cell? ⟨w.heap.size, 3, none⟩ = some (.string xp) := by rw [hW.out]; go_simp
  refine wpAny_S (fun w' => w'.cell? ⟨b, 3, none⟩ = some (.slice A3 ev.length c3) ∧ w'.cell? ⟨w.heap.size, 3, none⟩ = some (.string xp)) (fun i => i == 12) (by (try dsimp only); (refine ⟨?_, ?_⟩ <;> go_simp)) (fun hHeld => ?_)
  (refine wpE_takeP (i := 0) (v := ?gV2_1) (by simp only [List.getElem?_toArray]; rfl) (by kernel_rfl) (by kernel_rfl) (by kernel_rfl) (by rfl) (fun _ _ _ h => h) (Or.inl ⟨by rfl, ?gY2_1⟩) (by assumption) ?gR2_1; case gY2_1 => (intro w hSw; (try dsimp only at hSw); go_simp <;> with_reducible rfl))
  try simp only [Act.put, List.setIfInBounds_toArray, List.set_cons_zero, List.set_cons_succ]
  (refine wpE_takeP (i := 1) (v := ?gV2_2) (by simp only [List.getElem?_toArray]; rfl) (by kernel_rfl) (by kernel_rfl) (by kernel_rfl) (by rfl) (fun _ _ _ h => h) (Or.inl ⟨by rfl, ?gY2_2⟩) (by assumption) ?gR2_2; case gY2_2 => (intro w hSw; (try dsimp only at hSw); go_simp <;> with_reducible rfl))
  try simp only [Act.put, List.setIfInBounds_toArray, List.set_cons_zero, List.set_cons_succ]
  (refine wpE_takeP (i := 2) (v := ?gV2_3) (by simp only [List.getElem?_toArray]; rfl) (by kernel_rfl) (by kernel_rfl) (by kernel_rfl) (by rfl) (fun _ _ _ h => h) (Or.inl ⟨by rfl, ?gY2_3⟩) (by assumption) ?gR2_3; case gY2_3 => (intro w hSw; (try dsimp only at hSw); go_simp <;> with_reducible rfl))
  try simp only [Act.put, List.setIfInBounds_toArray, List.set_cons_zero, List.set_cons_succ]
  (refine wpE_takeP (i := 3) (v := ?gV2_4) (by simp only [List.getElem?_toArray]; rfl) (by kernel_rfl) (by kernel_rfl) (by kernel_rfl) (by rfl) (fun _ _ _ h => h) (Or.inl ⟨by rfl, ?gY2_4⟩) (by assumption) ?gR2_4; case gY2_4 => (intro w hSw; (try dsimp only at hSw); go_simp <;> with_reducible rfl))
  try simp only [Act.put, List.setIfInBounds_toArray, List.set_cons_zero, List.set_cons_succ]
  (refine wpE_take (i := 4) (v := ?gV2_5) (by simp only [List.getElem?_toArray]; rfl) (by kernel_rfl) (by kernel_rfl) (by kernel_rfl) (by kernel_rfl) (by kernel_rfl) (by rfl) (fun _ _ _ h => h) (Or.inl ⟨by rfl, ?gY2_5⟩) (by assumption) ?gR2_5; case gY2_5 => (intro w hSw; (try dsimp only at hSw); go_simp <;> with_reducible rfl))
  try simp only [Act.put, List.setIfInBounds_toArray, List.set_cons_zero, List.set_cons_succ]
  (refine wpE_takeP (i := 5) (v := ?gV2_6) (by simp only [List.getElem?_toArray]; rfl) (by kernel_rfl) (by kernel_rfl) (by kernel_rfl) (by rfl) (fun _ _ _ h => h) (Or.inl ⟨by rfl, ?gY2_6⟩) (by assumption) ?gR2_6; case gY2_6 => (intro w hSw; (try dsimp only at hSw); go_simp <;> with_reducible rfl))
  try simp only [Act.put, List.setIfInBounds_toArray, List.set_cons_zero, List.set_cons_succ]
  (refine wpE_take (i := 6) (v := ?gV2_7) (by simp only [List.getElem?_toArray]; rfl) (by kernel_rfl) (by kernel_rfl) (by kernel_rfl) (by kernel_rfl) (by kernel_rfl) (by rfl) (fun _ _ _ h => h) (Or.inl ⟨by rfl, ?gY2_7⟩) (by assumption) ?gR2_7; case gY2_7 => (intro w hSw; (try dsimp only at hSw); go_simp <;> with_reducible rfl))
  try simp only [Act.put, List.setIfInBounds_toArray, List.set_cons_zero, List.set_cons_succ]
  (refine wpE_takeP (i := 7) (v := ?gV2_8) (by simp only [List.getElem?_toArray]; rfl) (by kernel_rfl) (by kernel_rfl) (by kernel_rfl) (by rfl) (fun _ _ _ h => h) (Or.inl ⟨by rfl, ?gY2_8⟩) (by assumption) ?gR2_8; case gY2_8 => (intro w hSw; (try dsimp only at hSw); go_simp <;> with_reducible rfl))
  try simp only [Act.put, List.setIfInBounds_toArray, List.set_cons_zero, List.set_cons_succ]
  refine wpE_ready (rs := [8]) (by kernel_rfl) (by simp) ?_
  refine AllE.cons (by simp only [List.getElem?_toArray]; rfl) (fun K hK => ?_) AllE.nil
  go_simp
  refine hK.out _ _ ?gT2_9 (fun hHeld => ?_)
  case gT2_9 => ((try dsimp only); (refine ⟨?_, ?_⟩ <;> go_simp))
  clear hK K
  try simp only [Act.put, List.setIfInBounds_toArray, List.set_cons_zero, List.set_cons_succ]
  refine wpE_ready (rs := [9]) (by kernel_rfl) (by simp) ?_
  refine AllE.cons (by simp only [List.getElem?_toArray]; rfl) (fun K hK => ?_) AllE.nil
  (refine stepE_app (by rfl) (.tmp 46) (.tmp 50) _ rfl elEvent (B := B) (l := ev) (m := [⟨1, xp⟩]) rfl rfl (H2.out.evs.below (by rw [hW.out]; exact (by repeat (first | with_reducible exact Below.refl _ _ | with_reducible assumption | with_reducible exact below_d1 _ _ _ _ _ | with_reducible exact below_d2 _ _ _ _ _ _ _ _ | with_reducible exact below_d3 _ _ _ _ _ | with_reducible exact below_d4 _ _ _ _ _ _ _ _ | with_reducible exact below_d5 _ _ | with_reducible refine Below.drew ?_ | with_reducible refine Below.drewN' ?_ _ | with_reducible refine below_grow0 _ _ ?_ | with_reducible refine below_alloc0 _ ?_ | with_reducible refine Below.setCell ?_ ?_ _ | with_reducible refine Below.alloc ?_ ?_ _ | with_reducible refine Below.grow _ _ _ ?_ ?_ | omega | (simp; done) | (simp; omega))))) (Sl.one_at cEvent 2 _ _ _ rfl _ rfl (by omega) (by simp)) cEvent_one (by simp [maxLen]; omega) (by simp; omega) (by rw [hW.out]; simp; omega) ?_; intro v2 w2 hown2 hg2 hat2; obtain ⟨A4, c4, rfl, _⟩ := hown2.form; have HX3 := Lib.hid (hand_push H2.out hb2 (by rw [hW.out]; exact (by repeat (first | with_reducible exact Below.refl _ _ | with_reducible assumption | with_reducible exact below_d1 _ _ _ _ _ | with_reducible exact below_d2 _ _ _ _ _ _ _ _ | with_reducible exact below_d3 _ _ _ _ _ | with_reducible exact below_d4 _ _ _ _ _ _ _ _ | with_reducible exact below_d5 _ _ | with_reducible refine Below.drew ?_ | with_reducible refine Below.drewN' ?_ _ | with_reducible refine below_grow0 _ _ ?_ | with_reducible refine below_alloc0 _ ?_ | with_reducible refine Below.setCell ?_ ?_ _ | with_reducible refine Below.alloc ?_ ?_ _ | with_reducible refine Below.grow _ _ _ ?_ ?_ | omega | (simp; done) | (simp; omega)))) hown2 hg2 hat2); have hB3 := (HBX.out.below (by rw [hW.out]; exact (by repeat (first | with_reducible exact Below.refl _ _ | with_reducible assumption | with_reducible exact below_d1 _ _ _ _ _ | with_reducible exact below_d2 _ _ _ _ _ _ _ _ | with_reducible exact below_d3 _ _ _ _ _ | with_reducible exact below_d4 _ _ _ _ _ _ _ _ | with_reducible exact below_d5 _ _ | with_reducible refine Below.drew ?_ | with_reducible refine Below.drewN' ?_ _ | with_reducible refine below_grow0 _ _ ?_ | with_reducible refine below_alloc0 _ ?_ | with_reducible refine Below.setCell ?_ ?_ _ | with_reducible refine Below.alloc ?_ ?_ _ | with_reducible refine Below.grow _ _ _ ?_ ?_ | omega | (simp; done) | (simp; omega))))).grown hg2 (fun e => hne3 e.symm); have y3 := hB3.cell 3; simp only [cTxn, List.getElem?_cons_succ, List.getElem?_cons_zero] at y3; have HBX3 := Lib.hid (hB3.far (g2 := b) (j := 3) (v := .slice A4 (ev ++ [(⟨1, xp⟩ : Event)]).length c4) (by omega)); obtain ⟨_, _, hs3, hf3, hl3⟩ := HX3.out; clear hown2 hg2 hat2)
  refine hK.out _ _ ?gT2_10 (fun hHeld => ?_)
  case gT2_10 => ((try dsimp only); (refine ⟨?_, ?_⟩ <;> go_simp))
  clear hK K
  try simp only [Act.put, List.setIfInBounds_toArray, List.set_cons_zero, List.set_cons_succ]
  (refine wpE_takeP (i := 10) (v := ?gV2_11) (by simp only [List.getElem?_toArray]; rfl) (by kernel_rfl) (by kernel_rfl) (by kernel_rfl) (by rfl) (fun _ _ _ h => h) (Or.inl ⟨by rfl, ?gY2_11⟩) (by assumption) ?gR2_11; case gY2_11 => (intro w hSw; (try dsimp only at hSw); go_simp <;> with_reducible rfl))
  try simp only [Act.put, List.setIfInBounds_toArray, List.set_cons_zero, List.set_cons_succ]
  (refine wpE_takeP (i := 11) (v := ?gV2_12) (by simp only [List.getElem?_toArray]; rfl) (by kernel_rfl) (by kernel_rfl) (by kernel_rfl) (by rfl) (fun _ _ _ h => h) (Or.inl ⟨by rfl, ?gY2_12⟩) (by assumption) ?gR2_12; case gY2_12 => (intro w hSw; (try dsimp only at hSw); go_simp <;> with_reducible rfl))
  try simp only [Act.put, List.setIfInBounds_toArray, List.set_cons_zero, List.set_cons_succ]
  refine wpE_ready (rs := [12]) (by kernel_rfl) (by simp) ?_
  refine AllE.last (by simp only [List.getElem?_toArray]; rfl) (by kernel_rfl) (fun K hK => ?_) AllE.nil
  go_simp
  refine hK.out _ _ ?_
  clear hK K
  try simp only [Act.put, List.setIfInBounds_toArray, List.set_cons_zero, List.set_cons_succ]
  refine wpE_done (by kernel_rfl) ?_ _
  refine NoPanic.normal ?_
  go_upto_region 4 with fail
  refine gen_w (fun W3 hW3 => ?_)
  simp only [List.length_append, List.length_cons, List.length_nil, Nat.zero_add] at HX3 HBX3
  rw [← hW3.out] at HX3 HBX3
  have H3 := Lib.hid HX3.out.1
  have hb3 : Below B w W3 := HX3.out.2.1
  clear hW3 HX3 hs3 hf3 hl3 y3 H2 b0 b1 b2 b3 bf1 bf2 bf3 bf0 x0 x3 HBX hW cl0 cl1 hHeld
  have x3 := HBX3.out.cell 3
  have x0 := HBX3.out.cell 0
  have hs3 := HBX3.out.lt
  simp only [cTxn, List.getElem?_cons_succ, List.getElem?_cons_zero] at x0 x3
  have hBW3 : B ≤ W3.heap.size := Nat.le_trans H3.out.base (Nat.le_of_lt H3.out.bk.lt)
  rw [← hLl] at H3
  go_wp2_with (go_at_call 70; (with_reducible refine (handKid z L ss (ev ++ [⟨1, xp⟩]) xp 1 xz _ _ _ W3 B b H3.out hBW3 hp (by omega) (by simp; omega) (Or.inl rfl) HBD.out).mono ?_); rintro e w4 ⟨nv4, sv4, vv4, rfl, hh4, hb4⟩; have HH4 := Lib.hid hh4; clear hh4)
  go_end0
  have hfin := HH4.out
  rw [List.append_assoc] at hfin
  exact ⟨_, _, _, rfl, hfin, hb3.trans hb4⟩
end Go.Proofs.YteolglmifimnaaaDoor

/- made by geninst.py from XT4.src -/
namespace Go.Proofs.YteolglmifimnaaaDoor
open Go.RowKit
set_option maxHeartbeats 1000000 in
theorem insInt_end (A : Option Addr) (n c : Nat) (l : List Int) (x : Int) (w : World) (B vb : Nat) (hown : Ow cInt 1 3 w B (.slice A n c) l) (hl : n = l.length) (hv : Bk w vb (cInt x) 3)
    (hB : B ≤ w.heap.size) (hn : (n + 1) * 8 ≤ 140737488355328) :
    Calls Tryd.prog 46 #[.slice A n c, .int .i64 n, .slice (some ⟨vb, 0, none⟩) 1 1] w (Rowed cInt 1 3 B (n + 1) (l ++ [x]) (Value.slice A n c).ownBlock w) := by
  have H := Lib.hid hown
  obtain ⟨A', c', hf1, hf2, hf3, hf4, hf5⟩ := hown.form
  injection hf1 with e1 e2 e3
  subst e1; subst e3
  have HL := Lib.hid hl
  rw [← hl] at hf2
  have HN := Lib.hid hf4
  clear hl e2 hown hf4 hf5
  by_cases hcn : c = n
  · subst hcn
    go_enter Tryd.func46, Tryd.ntmps46
    go_wp2_with (at_builtin; refine wpList_app _ rfl (.tmp 23) (.tmp 24) _ rfl elInt (l := l) (m := [x]) rfl rfl H.out (Sl.blk rfl hv) cInt_one (by have := HL.out; simp [maxLen]; omega) (by have := HL.out; simp; omega) hB ?_; intro v' w1 hown1 hg1 hat1; obtain ⟨A1, c1, rfl⟩ := Ow.is_slice (m := c + 1) hown1 (by simpa using HL.out.symm); have HO := Lib.hid hown1; have HG := Lib.hid hg1; have HT := Lib.hid hat1; clear hown1 hg1 hat1)
    go_ret
    exact ⟨A1, c1, rfl, HO.out, HG.out, HT.out⟩
  · go_enter Tryd.func46, Tryd.ntmps46
    go_wp2_with (at_builtin; refine wpList_app _ rfl (.tmp 23) (.tmp 24) _ rfl elInt (l := l) (m := [x]) rfl rfl H.out (Sl.blk rfl hv) cInt_one (by have := HL.out; simp [maxLen]; omega) (by have := HL.out; simp; omega) hB ?_; intro v' w1 hown1 hg1 hat1; obtain ⟨A1, c1, rfl⟩ := Ow.is_slice (m := n + 1) hown1 (by simpa using HL.out.symm); have HO := Lib.hid hown1; have HG := Lib.hid hg1; have HT := Lib.hid hat1; clear hown1 hg1 hat1)
    go_ret
    exact ⟨A1, c1, rfl, HO.out, HG.out, HT.out⟩
set_option maxRecDepth 100000 in
set_option maxHeartbeats 1000000 in
theorem insInt_grow (A : Option Addr) (n k : Nat) (l : List Int) (x : Int) (w : World) (B vb : Nat) (hown : Ow cInt 1 3 w B (.slice A n n) l) (hk : k < n) (hv : Bk w vb (cInt x) 3)
    (hB : B ≤ w.heap.size) (hn : (n + 1) * 8 ≤ 140737488355328) :
    Calls Tryd.prog 46 #[.slice A n n, .int .i64 k, .slice (some ⟨vb, 0, none⟩) 1 1] w (Rowed cInt 1 3 B (n + 1) (l.take k ++ x :: l.drop k) (Value.slice A n n).ownBlock w) := by
  obtain ⟨g, J, rfl, hBg, hbk, hbl, _, hcm, hnl⟩ := hown.blk (by omega)
  have H2 := Lib.hid hown.2
  generalize hcur : l.flatMap cInt ++ J = cur at hbk hbl
  have HC := Lib.hid hcur
  have HL := Lib.hid hnl
  have HBL := Lib.hid hbl
  clear hcur hown hnl hbl
  have ecnt := Lib.hid (show (((n + 1 - k : Nat) : Nat) : Int) = (n : Int) + 1 - (k : Int) by omega)
  have hne : ((k : Int) == (n : Int)) = false := by simp; omega
  have F1 := Lib.hid (flatMap_split H2.out k)
  go_enter Tryd.func46, Tryd.ntmps46
  have hkc : k + (n + 1 - k) = n + 1 := by omega
  have hvg : g < w.heap.size := hbk.lt
  have hvv : vb < w.heap.size := hv.lt
  go_wp2_with (first | (with_reducible refine wpList_atcp ?_); go_loud (refine wpList_cp rfl (.tmp 43) (.tmp 44) _ _ rfl elInt (cs := cInt x) rfl rfl hb1 (by rw [show ∀ q, 1 ≤ q → Nat.min 1 q = 1 from fun q h => Nat.min_eq_left h] <;> first | rfl | omega) (fun j v hj => by show w1.cell? _ = _; rw [Addr.add_lit, Nat.zero_add, (hv.grown hg1 (by simp)).cell]; exact hj) (by have := HBL.out; simp [hz1, cInt]; omega) (cInt_one x) ?_; intro w2 hb2 hg2 hs2) | at_builtin; go_loud (refine wpList_appz rfl (.tmp 34) (.tmp 39) _ _ rfl elInt Tryd.underlying3 (k := k) (c := n) (cnt := n + 1 - k) rfl (by show Value.int _ _ = _; rw [ecnt.out]) hbk (by have := HBL.out; omega) (by omega) (by omega) (by simp [maxLen]; omega) (by omega) ?_; intro w1 Z cap hb1 hz1 hc1 hc2 hg1 hs1))
  have e1 : IntKind.i64.wrap ((k : Int) + 1) = (k : Int) + 1 := by rw [IntKind.wrap_i64]; simp [maxLen] at hcm; omega
  have e2 : ((k : Int) + 1).toNat = k + 1 := by omega
  have e3 : (0 : Int) ≤ (k : Int) + 1 := by omega
  have e4 : (k : Int) + 1 ≤ (n : Int) + 1 := by omega
  have e5 : ¬ cap = k + 1 := by omega
  have e6 : ¬ n = k := by omega
  have e7 : k ≤ n := by omega
  have hcsl : ((l.drop k).flatMap cInt).length = (n - k) * 1 := by rw [flatMap_length (fun y hy => H2.out y (List.mem_of_mem_drop hy)), List.length_drop, HL.out]
  have hcs1 : ∀ v ∈ (l.drop k).flatMap cInt, v.oneCell' = true := by intro v hv; obtain ⟨y, _, hy⟩ := List.mem_flatMap.1 hv; exact cInt_one y v hy
  have hlt : (cur.take (k * 1)).length = k * 1 := by rw [List.length_take, HBL.out]; omega
  have hsl : (splice (cur.take (k * 1) ++ Z) (k * 1) (cInt x)).length = k * 1 + (cap - k) * 1 := by rw [splice_length _ _ _ (by simp only [List.length_append, hlt, hz1]; show k * 1 + 1 ≤ _; omega), List.length_append, hlt, hz1]
  have hgs : Bk w2 g cur 3 := (hbk.grown hg1 (by simp)).grown hg2 (by simp; omega)
  have hsrc : ∀ (j : Nat) (v : Value), ((l.drop k).flatMap cInt)[j]? = some v → cur[k * 1 + j]? = some v := by
    intro j v hj
    rw [F1.out.2, List.getElem?_drop] at hj
    rw [← HC.out, List.getElem?_append_left (List.getElem?_eq_some_iff.1 hj).1]
    exact hj
  have HS := Lib.hid hsl
  have HSR := Lib.hid hsrc
  have HCL := Lib.hid hcsl
  clear hsl hsrc hcsl
  have hb2d : Bk w2.drew w.heap.size (splice (cur.take (k * 1) ++ Z) (k * 1) (cInt x)) 3 := by rw [Nat.mul_one]; rw [Nat.mul_one] at hb2; exact hb2
  go_region_law (go_loud (refine step_cp rfl _ _ _ _ rfl elInt (cs := (l.drop k).flatMap cInt) (off := (k + 1) * 1) (dLen := n + 1 - (k + 1)) (dCap := cap - (k + 1)) (ad := ⟨g, k * 1, none⟩) (sLen := n - k) (sCap := n - k) (by simp [Act.eval, Act.put]) (by simp [Act.eval, Act.put]) hb2d (by rw [HCL.out, show Nat.min (n - k) (n + 1 - (k + 1)) = n - k from Nat.min_eq_left (by omega)]) (fun j v hj => by show w2.cell? _ = _; rw [Addr.add_lit, hgs.cell]; exact HSR.out j v hj) (by rw [HS.out, HCL.out]; omega) hcs1 ?_; intro w3 hb3 hg3 hs3))
  go_wp2
  go_ret
  refine ⟨some ⟨w.heap.size, 0, none⟩, cap, rfl, ?_, ((hg1.but _).andThen hg2 (by simp)).andThen (show w2.grownBy w3 (some w.heap.size) from ⟨hg3.os, hg3.tape, hg3.output, hg3.size, hg3.block⟩) (by simp), .inr rfl⟩
  have hta : cur.take (k * 1) = (l.take k).flatMap cInt := by rw [F1.out.1, ← HC.out, List.take_append_of_le_length (by rw [flatMap_length H2.out, ← HL.out]; omega)]
  have hall : ∀ y ∈ l.take k ++ x :: l.drop k, (cInt y).length = 1 := fun y _ => rfl
  have hlen : (l.take k ++ x :: l.drop k).length = n + 1 := by rw [List.length_append, List.length_take, List.length_cons, List.length_drop, ← HL.out]; omega
  have := Ow.of_blk (B := B) (g := w.heap.size) (c := cap) (J := Z.drop (1 + ((l.drop k).flatMap cInt).length)) hall hB hb3 (by
    have h := ins2 (cur.take (k * 1)) Z ((l.drop k).flatMap cInt) (cInt x)
    rw [hlt] at h
    rw [show (k + 1) * 1 = k * 1 + (cInt x).length from by show _ = k * 1 + 1; omega, h, hta, List.flatMap_append, List.flatMap_cons]
    simp only [List.append_assoc]
    rfl) (by rw [splice_length _ _ _ (by rw [HS.out, HCL.out]; omega), HS.out]; omega) (by rw [hlen]; omega) hc2
  rw [hlen] at this
  exact this
set_option maxRecDepth 100000 in
set_option maxHeartbeats 1000000 in
theorem insInt_room (A : Option Addr) (n k c : Nat) (l : List Int) (x : Int) (w : World) (B vb : Nat) (hown : Ow cInt 1 3 w B (.slice A n c) l) (hk : k < n) (hc : n < c) (hv : Bk w vb (cInt x) 3) (hvA : (Value.slice A n c).ownBlock ≠ some vb) :
    Calls Tryd.prog 46 #[.slice A n c, .int .i64 k, .slice (some ⟨vb, 0, none⟩) 1 1] w (Rowed cInt 1 3 B (n + 1) (l.take k ++ x :: l.drop k) (Value.slice A n c).ownBlock w) := by
  obtain ⟨g, J, rfl, hBg, hbk, hbl, _, hcm, hnl⟩ := hown.blk (by omega)
  have H2 := Lib.hid hown.2
  have hvg : vb ≠ g := by intro h; exact hvA (by rw [h]; rfl)
  generalize hcur : l.flatMap cInt ++ J = cur at hbk hbl
  have HC := Lib.hid hcur
  have HL := Lib.hid hnl
  have HBL := Lib.hid hbl
  clear hcur hown hnl hbl
  have hne : ((k : Int) == (n : Int)) = false := by simp; omega
  have F1 := Lib.hid (flatMap_split H2.out k)
  have d1 : IntKind.i64.wrap ((n : Int) + 1) = (n : Int) + 1 := by rw [IntKind.wrap_i64]; simp [maxLen] at hcm; omega
  have d2 : ((n : Int) + 1).toNat = n + 1 := by omega
  have d3 : (0 : Int) ≤ (n : Int) + 1 := by omega
  have d4 : (n : Int) + 1 ≤ (c : Int) := by omega
  have d5 : ¬ (c : Int) < (n : Int) + 1 := by omega
  have e1 : IntKind.i64.wrap ((k : Int) + 1) = (k : Int) + 1 := by rw [IntKind.wrap_i64]; simp [maxLen] at hcm; omega
  have e2 : ((k : Int) + 1).toNat = k + 1 := by omega
  have e3 : (0 : Int) ≤ (k : Int) + 1 := by omega
  have e4 : (k : Int) + 1 ≤ (n : Int) + 1 := by omega
  have e5 : ¬ c = k + 1 := by omega
  have e6 : ¬ c = k := by omega
  have e7 : (k : Int) ≤ (n : Int) + 1 := by omega
  have e8 : k ≤ n := by omega
  have hov := fun (off lb cb : Nat) => overlaps_no elInt Tryd.func67 (by kernel_rfl) (by kernel_rfl) (by kernel_rfl) (tB := 4) (by kernel_rfl) hv hbk hvg (by have := HBL.out; omega) off 1 1 lb cb
  go_enter Tryd.func46, Tryd.ntmps46
  go_wp2_with (simp only [hov])
  have hcsl : ((l.drop k).flatMap cInt).length = (n - k) * 1 := by rw [flatMap_length (fun y hy => H2.out y (List.mem_of_mem_drop hy)), List.length_drop, HL.out]
  have hcs1 : ∀ v ∈ (l.drop k).flatMap cInt, v.oneCell' = true := by intro v hv; obtain ⟨y, _, hy⟩ := List.mem_flatMap.1 hv; exact cInt_one y v hy
  have hsl : (splice cur ((k + 1) * 1) ((l.drop k).flatMap cInt)).length = c * 1 := by rw [splice_length _ _ _ (by rw [hcsl, HBL.out]; omega), HBL.out]
  have hsrc : ∀ (j : Nat) (v : Value), ((l.drop k).flatMap cInt)[j]? = some v → cur[k * 1 + j]? = some v := by
    intro j v hj
    rw [F1.out.2, List.getElem?_drop] at hj
    rw [← HC.out, List.getElem?_append_left (List.getElem?_eq_some_iff.1 hj).1]
    exact hj
  have HS := Lib.hid hsl
  have HSR := Lib.hid hsrc
  have HCL := Lib.hid hcsl
  clear hsl hsrc hcsl
  have hbd : Bk w.drew g cur 3 := hbk
  have hvd : Bk w.drew vb (cInt x) 3 := hv
  go_region_law (go_loud (refine step_cp rfl _ _ _ _ rfl elInt (cs := (l.drop k).flatMap cInt) (off := (k + 1) * 1) (dLen := n - k) (dCap := c - (k + 1)) (ad := ⟨g, k * 1, none⟩) (sLen := n + 1 - k) (sCap := c - k) (by simp [Act.eval, Act.put]) (by simp [Act.eval, Act.put]) hbd (by rw [HCL.out, show Nat.min (n + 1 - k) (n - k) = n - k from Nat.min_eq_right (by omega)]) (fun j v hj => by rw [Addr.add_lit, hbd.cell]; exact HSR.out j v hj) (by rw [HBL.out, HCL.out]; omega) hcs1 ?_; intro w3 hb3 hg3 hs3))
  go_wp2_with (first | (with_reducible refine wpList_atcp ?_); go_loud (refine wpList_cp rfl (.tmp 80) (.tmp 81) _ _ rfl elInt (cs := cInt x) (off := k * 1) (dLen := n + 1 - k) (dCap := c - k) (by first | rfl | simp [Act.eval]) rfl hb3 (by rw [show ∀ q, 1 ≤ q → Nat.min 1 q = 1 from fun q h => Nat.min_eq_left h] <;> first | rfl | omega) (fun j v hj => by rw [Addr.add_lit, Nat.zero_add, (hvd.grown hg3 (by simp; exact hvg)).cell]; exact hj) (by rw [HS.out]; show k * 1 + 1 ≤ _; omega) (cInt_one x) ?_; intro w4 hb4 hg4 hs4))
  go_ret
  refine ⟨some ⟨g, 0, none⟩, c, rfl, ?_, (show w.grownBy w3 (some g) from ⟨hg3.os, hg3.tape, hg3.output, hg3.size, hg3.block⟩).trans hg4, .inl rfl⟩
  have hta : cur = (l.take k).flatMap cInt ++ (l.drop k).flatMap cInt ++ J := by rw [← List.flatMap_append, List.take_append_drop, HC.out]
  have hlt : ((l.take k).flatMap cInt).length = k * 1 := by rw [flatMap_length (fun y hy => H2.out y (List.mem_of_mem_take hy)), List.length_take, ← HL.out, Nat.min_eq_left (by omega)]
  have hJ : (cInt x).length ≤ J.length := by
    have h := HBL.out
    rw [hta, List.length_append, List.length_append, hlt, HCL.out] at h
    show 1 ≤ _
    omega
  have hall : ∀ y ∈ l.take k ++ x :: l.drop k, (cInt y).length = 1 := fun y _ => rfl
  have hlen : (l.take k ++ x :: l.drop k).length = n + 1 := by rw [List.length_append, List.length_take, List.length_cons, List.length_drop, ← HL.out]; omega
  have := Ow.of_blk (B := B) (g := g) (c := c) (J := J.drop (cInt x).length) hall hBg hb4 (by
    have h := ins1 ((l.take k).flatMap cInt) ((l.drop k).flatMap cInt) J (cInt x) hJ
    rw [hlt, ← hta] at h
    rw [show (k + 1) * 1 = k * 1 + (cInt x).length from by show _ = k * 1 + 1; omega, h, List.flatMap_append, List.flatMap_cons]
    simp only [List.append_assoc]) (by rw [splice_length _ _ _ (by rw [HS.out]; show k * 1 + 1 ≤ _; omega), HS.out]) (by rw [hlen]; omega) hcm
  rw [hlen] at this
  exact this
theorem insInt (v : Value) (k : Nat) (l : List Int) (x : Int) (w : World) (B vb : Nat) (hown : Ow cInt 1 3 w B v l) (hk : k ≤ l.length) (hv : Bk w vb (cInt x) 3) (hvA : v.ownBlock ≠ some vb)
    (hB : B ≤ w.heap.size) (hn : (l.length + 1) * 8 ≤ 140737488355328) :
    Calls Tryd.prog 46 #[v, .int .i64 k, .slice (some ⟨vb, 0, none⟩) 1 1] w (Rowed cInt 1 3 B (l.length + 1) (l.take k ++ x :: l.drop k) v.ownBlock w) := by
  obtain ⟨A, c, rfl, h2⟩ := hown.form
  rcases Nat.lt_or_ge k l.length with h | h
  · obtain ⟨g, J, rfl, _, _, _, hnc, _, _⟩ := hown.blk (by omega)
    by_cases hc : c = l.length
    · subst hc
      exact insInt_grow _ _ k l x w B vb hown h hv hB hn
    · exact insInt_room _ _ k c l x w B vb hown h (by omega) hv hvA
  · obtain rfl : k = l.length := by omega
    rw [List.take_length, List.drop_length]
    exact insInt_end _ _ c l x w B vb hown rfl hv hB hn
end Go.Proofs.YteolglmifimnaaaDoor

/- made by geninst.py from XT5.src -/
namespace Go.Proofs.YteolglmifimnaaaDoor
open Go.RowKit
set_option maxRecDepth 100000 in
set_option maxHeartbeats 1000000 in
theorem delInt_core (g n c k j m q : Nat) (cur news : List Value) (w : World) (hb : Bk w g cur 3) (hnews : news.length = m * 1) (hsrc : ∀ (i : Nat) (v : Value), news[i]? = some v → cur[j * 1 + i]? = some v)
    (hone : ∀ v ∈ news, v.oneCell' = true) (hlen : cur.length = c * 1) (hj : j = k + 1) (hm : k + m = q) (hn : n = q + 1) (hnc : n ≤ c) (hc : c ≤ 9223372036854775807) :
    Calls Tryd.prog 47 #[.slice (some ⟨g, 0, none⟩) n c, .int .i64 k, .int .i64 j] w fun e w' => e = .returned (.slice (some ⟨g, 0, none⟩) q c) ∧
      Hid (∃ cur', Bk w' g cur' 3 ∧ cur'.length = cur.length ∧ cur'.take (q * 1) = (splice cur (k * 1) news).take (q * 1) ∧ w.grownBy w' (some g)) := by
  have HB := Lib.hid hb
  have HO := Lib.hid hone
  have HN := Lib.hid hnews
  have HS := Lib.hid hsrc
  have HL := Lib.hid hlen
  have hkc : (k : Int) ≤ (c : Int) := by omega
  have hjn : (j : Int) ≤ (n : Int) := by omega
  have hnci : (n : Int) ≤ (c : Int) := by omega
  have hqn : (q : Int) ≤ (n : Int) := by omega
  have hqc : (q : Int) ≤ (c : Int) := by omega
  have hkj : (k : Int) ≤ (j : Int) := by omega
  have hkk : ((k : Int) == (j : Int)) = false := beq_eq_false_iff_ne.2 (by omega)
  have hnq : n - q = 1 := by omega
  have HQ := Lib.hid hn
  have HJ := Lib.hid hj
  have HBD : Hid (Bk w.drew g cur 3) := HB
  clear hb hone hnews hsrc hlen
  by_cases hcj : c = j
  · have hm0 : m = 0 := by omega
    subst hm0
    rw [Nat.add_zero] at hm
    subst hm
    have hn0 : news = [] := List.eq_nil_of_length_eq_zero (by simpa using HN.out)
    have HN0 := Lib.hid hn0
    have hnj : n = j := by omega
    subst hnj
    subst hcj
    clear hn hj hn0
    go_enter Tryd.func47, Tryd.ntmps47
    go_wp2_with fail
    go_region_law (first | (refine step_apr rfl (.tmp 22) (.tmp 25) _ rfl elInt (g := g) (k := k) (c := c) (off := 0) (m := 0) (cc := 0) (news := news) (by simp [Act.eval, Act.put]) (by simp [Act.eval, Act.put]) HBD.out (by rw [HN0.out]; rfl) (by rw [HN0.out]; simp) (by omega) (by rw [HN0.out, HL.out]; simp; omega) HO.out ?_; intro w2 hb2 hg2 hz2; have HB2 := Lib.hid hb2; have HG2 := Lib.hid hg2; have HZ2 := Lib.hid hz2; clear hb2 hg2 hz2))
    have hsl : (splice cur (k * 1) news).length = c * 1 := by rw [splice_length _ _ _ (by rw [HN0.out, HL.out]; simp; omega), HL.out]
    have HSL := Lib.hid hsl
    clear hsl
    go_wp2_with (first | (with_reducible refine wpList_atclr ?_); (refine wpList_clr rfl (.tmp 31) _ rfl elInt (off := k * 1) (n := 1) (by rw [Nat.mul_one]; rfl) HB2.out (by decide) (by rw [HSL.out]; omega) ?_; intro w3 cur3 hb3 hl3 ht3 hg3 _; have HB3 := Lib.hid hb3; have HL3 := Lib.hid hl3; have HT3 := Lib.hid ht3; have HG3 := Lib.hid hg3; clear hb3 hl3 ht3 hg3))
    refine bodyPost_ret (v := .slice (some ⟨g, 0, none⟩) k c) (by simp [results, Tryd.results47, go_sem]) rfl ⟨rfl, Lib.hid ⟨cur3, HB3.out, by rw [HL3.out, HSL.out, HL.out], HT3.out, ?_⟩⟩
    exact (show w.grownBy w2 (some g) from ⟨HG2.out.os, HG2.out.tape, HG2.out.output, HG2.out.size, HG2.out.block⟩).trans HG3.out
  · clear hn hj
    go_enter Tryd.func47, Tryd.ntmps47
    go_wp2_with fail
    go_region_law (first | (refine step_apr rfl (.tmp 22) (.tmp 25) _ rfl elInt (g := g) (k := k) (c := c) (off := j * 1) (m := m) (cc := c - j) (news := news) (by simp [Act.eval, Act.put]) (by simp [Act.eval, Act.put]; have := HQ.out; have := HJ.out; omega) HBD.out HN.out HS.out (by have := HQ.out; omega) (by rw [HN.out, HL.out]; have := HQ.out; omega) HO.out ?_; intro w2 hb2 hg2 hz2; have HB2 := Lib.hid hb2; have HG2 := Lib.hid hg2; have HZ2 := Lib.hid hz2; clear hb2 hg2 hz2))
    have hsl : (splice cur (k * 1) news).length = c * 1 := by rw [splice_length _ _ _ (by rw [HN.out, HL.out]; have := HQ.out; omega), HL.out]
    have HSL := Lib.hid hsl
    clear hsl
    go_wp2_with (first | (with_reducible refine wpList_atclr ?_); (refine wpList_clr rfl (.tmp 31) _ rfl elInt (off := q * 1) (n := 1) (by rw [Nat.mul_one]; rfl) HB2.out (by decide) (by rw [HSL.out]; have := HQ.out; omega) ?_; intro w3 cur3 hb3 hl3 ht3 hg3 _; have HB3 := Lib.hid hb3; have HL3 := Lib.hid hl3; have HT3 := Lib.hid ht3; have HG3 := Lib.hid hg3; clear hb3 hl3 ht3 hg3))
    refine bodyPost_ret (v := .slice (some ⟨g, 0, none⟩) q c) (by simp [results, Tryd.results47, go_sem]) rfl ⟨rfl, Lib.hid ⟨cur3, HB3.out, by rw [HL3.out, HSL.out, HL.out], HT3.out, ?_⟩⟩
    exact (show w.grownBy w2 (some g) from ⟨HG2.out.os, HG2.out.tape, HG2.out.output, HG2.out.size, HG2.out.block⟩).trans HG3.out
theorem delInt (A : Option Addr) (n c k : Nat) (l : List Int) (w : World) (B : Nat) (hown : Ow cInt 1 3 w B (.slice A n c) l) (hk : k < l.length) (hc : c ≤ 9223372036854775807) :
    Calls Tryd.prog 47 #[.slice A n c, .int .i64 k, .int .i64 (k + 1)] w fun e w' => e = .returned (.slice A (n - 1) c) ∧ Hid (Ow cInt 1 3 w' B (.slice A (n - 1) c) (l.take k ++ l.drop (k + 1)) ∧ w.grownBy w' (Value.slice A n c).ownBlock) := by
  have hnl : n = l.length := by obtain ⟨_, _, h, _⟩ := hown.form; injection h
  obtain ⟨g, J, rfl, hBg, hbk, hbl, hnc, hcm, _⟩ := hown.blk (by omega)
  have hf : ∀ x ∈ l, (cInt x).length = 1 := fun _ _ => rfl
  have hsp := drop_rows hf (k + 1)
  have hnews : ((l.drop (k + 1)).flatMap cInt).length = (n - (k + 1)) * 1 := by rw [flatMap_length (f := cInt) (s := 1) (fun _ _ => rfl), List.length_drop, hnl]
  have hsrc : ∀ (i : Nat) (v : Value), ((l.drop (k + 1)).flatMap cInt)[i]? = some v → (l.flatMap cInt ++ J)[(k + 1) * 1 + i]? = some v := by
    intro i v hj
    rw [← hsp, List.getElem?_drop] at hj
    rw [List.getElem?_append_left (List.getElem?_eq_some_iff.1 hj).1]
    exact hj
  have hone : ∀ v ∈ (l.drop (k + 1)).flatMap cInt, v.oneCell' = true := by intro v hv; obtain ⟨y, _, hy⟩ := List.mem_flatMap.1 hv; exact cInt_one y v hy
  have htake := take_rows2 hf (Nat.le_of_lt hk) J
  have hlen : (l.take k ++ l.drop (k + 1)).length = n - 1 := by rw [List.length_append, List.length_take, List.length_drop]; omega
  rw [show (k : Int) + 1 = ((k + 1 : Nat) : Int) from by omega]
  refine (delInt_core g n c k (k + 1) (n - (k + 1)) (n - 1) _ _ w hbk hnews hsrc hone hbl rfl (by omega) (by omega) hnc hc).mono ?_
  rintro e w' ⟨rfl, h⟩
  obtain ⟨cur', hb', hl', ht', hg'⟩ := h.out
  refine ⟨rfl, Lib.hid ⟨?_, hg'⟩⟩
  have hlt : ((l.take k).flatMap cInt).length = k * 1 := by rw [flatMap_length (f := cInt) (s := 1) (fun _ _ => rfl), List.length_take, Nat.min_eq_left (by omega)]
  have hpre : cur'.take ((n - 1) * 1) = (l.take k ++ l.drop (k + 1)).flatMap cInt := by
    rw [ht']
    unfold splice
    rw [htake, List.flatMap_append]
    have e : (n - 1) * 1 = ((l.take k).flatMap cInt ++ (l.drop (k + 1)).flatMap cInt).length := by rw [List.length_append, hlt, hnews]; omega
    rw [e, ← List.append_assoc, List.take_left]
  have hcur : cur' = (l.take k ++ l.drop (k + 1)).flatMap cInt ++ cur'.drop ((n - 1) * 1) := by rw [← hpre, List.take_append_drop]
  have := Ow.of_blk (f := cInt) (s := 1) (B := B) (fun _ _ => rfl) hBg hb' hcur (by rw [hl']; exact hbl) (by rw [hlen]; omega) hcm
  rw [hlen] at this
  exact this
end Go.Proofs.YteolglmifimnaaaDoor

/- package tree: Apply's test whether a node was changed too often (slices.ContainsFunc). -/
namespace Go.Proofs.YteolglmifimnaaaDoor
open Go.RowKit Go.ChangeShapes Go.WideShapes Go.ChangeAt
theorem fullClosure (x : Node) (w : World) :
    Calls Tryd.prog 51 #[vNode x] w fun e w' => e = .returned (.bool (decide (2147483647 < x.cversion))) ∧ Below w.heap.size w w' := by
  obtain ⟨xp, xd, xz, xm, xq, xv, xc, xo, xk⟩ := x
  go_enter Tryd.func51, Tryd.ntmps51
  go_wp2_with fail
  go_ret
  exact ⟨rfl, (by repeat (first | with_reducible exact Below.refl _ _ | with_reducible assumption | with_reducible exact below_d1 _ _ _ _ _ | with_reducible exact below_d2 _ _ _ _ _ _ _ _ | with_reducible exact below_d3 _ _ _ _ _ | with_reducible exact below_d4 _ _ _ _ _ _ _ _ | with_reducible exact below_d5 _ _ | with_reducible refine Below.drew ?_ | with_reducible refine Below.drewN' ?_ _ | with_reducible refine below_grow0 _ _ ?_ | with_reducible refine below_alloc0 _ ?_ | with_reducible refine Below.setCell ?_ ?_ _ | with_reducible refine Below.alloc ?_ ?_ _ | with_reducible refine Below.grow _ _ _ ?_ ?_ | omega | (simp; done) | (simp; omega)))⟩
set_option maxHeartbeats 1000000 in
theorem indexFull (v : Value) (l : List Node) (w : World) (h : Sl cNode 9 w v l) (hm : l.length ≤ 140737488355328) :
    Calls Tryd.prog 72 #[v, .func (.func 51) #[] #[]] w fun e w' => (∃ i : Int, e = .returned (.int .i64 i) ∧ decide (0 ≤ i) = fullB l ∧ -1 ≤ i) ∧ Below w.heap.size w w' := by
  obtain ⟨A, c, rfl, h1, h1b⟩ := h.form
  have H := Lib.hid h
  clear h
  go_enter Tryd.func72, Tryd.ntmps72
  go_wp2_with fail
  go_loopw [8] (fun i wr => ∃ (k : Nat), k ≤ l.length ∧ i = .int .i64 k ∧ Hid (∀ x ∈ l.take k, x.cversion ≤ 2147483647) ∧ Below w.heap.size w wr) (fun i _ => l.length - (intOf i).toNat)
  case atStart => exact ⟨0, Nat.zero_le _, rfl, Lib.hid (by simp), Below.refl _ _⟩
  case round =>
    obtain ⟨k, hk, rfl, hno, hb⟩ := hrel
    by_cases hlt : k < l.length
    · have hx : l[k]? = some (l[k]'hlt) := List.getElem?_eq_getElem _
      obtain ⟨bk, off, rfl, hbw, c0, c1, c2, c3, c4, c5, c6, c7, c8⟩ := (H.out.below hb).Node_at hx
      have HC := Lib.hid (fun (W : World) => fullClosure (l[k]'hlt) W)
      have HX := Lib.hid hx
      generalize l[k]'hlt = x at *
      obtain ⟨xp, xd, xz, xm, xq, xv, xc, xo, xk⟩ := x
      simp only at *
      clear hx
      by_cases hf : 2147483647 < xc
      · rw [decide_eq_true hf] at HC
        go_wp2_with ((go_at_call 51; refine (HC.out _).mono ?_; rintro e w1 ⟨rfl, hb1⟩; obtain ⟨ext1, d1, rfl⟩ := Below.grown_eq _ hb1; clear hb1))
        go_ret
        refine ⟨⟨_, rfl, ?_, by omega⟩, (by repeat (first | with_reducible exact Below.refl _ _ | with_reducible assumption | with_reducible exact below_d1 _ _ _ _ _ | with_reducible exact below_d2 _ _ _ _ _ _ _ _ | with_reducible exact below_d3 _ _ _ _ _ | with_reducible exact below_d4 _ _ _ _ _ _ _ _ | with_reducible exact below_d5 _ _ | with_reducible refine Below.drew ?_ | with_reducible refine Below.drewN' ?_ _ | with_reducible refine below_grow0 _ _ ?_ | with_reducible refine below_alloc0 _ ?_ | with_reducible refine Below.setCell ?_ ?_ _ | with_reducible refine Below.alloc ?_ ?_ _ | with_reducible refine Below.grow _ _ _ ?_ ?_ | omega | (simp; done) | (simp; omega)))⟩
        rw [decide_eq_true (by omega)]
        unfold fullB
        symm
        rw [List.any_eq_true]
        exact ⟨_, List.mem_of_getElem? HX.out, decide_eq_true hf⟩
      · have hle : xc ≤ 2147483647 := by omega
        rw [decide_eq_false hf] at HC
        clear hf
        go_wp2_with ((go_at_call 51; refine (HC.out _).mono ?_; rintro e w1 ⟨rfl, hb1⟩; obtain ⟨ext1, d1, rfl⟩ := Below.grown_eq _ hb1; clear hb1))
        go_roundw
        case rel => exact ⟨k + 1, by omega, by go_num, Lib.hid (fun y hy => by
          rw [List.take_add_one, HX.out, List.mem_append] at hy
          rcases hy with hy | hy
          · exact hno.out y hy
          · obtain rfl := List.mem_singleton.1 hy
            exact hle), (by repeat (first | with_reducible exact Below.refl _ _ | with_reducible assumption | with_reducible exact below_d1 _ _ _ _ _ | with_reducible exact below_d2 _ _ _ _ _ _ _ _ | with_reducible exact below_d3 _ _ _ _ _ | with_reducible exact below_d4 _ _ _ _ _ _ _ _ | with_reducible exact below_d5 _ _ | with_reducible refine Below.drew ?_ | with_reducible refine Below.drewN' ?_ _ | with_reducible refine below_grow0 _ _ ?_ | with_reducible refine below_alloc0 _ ?_ | with_reducible refine Below.setCell ?_ ?_ _ | with_reducible refine Below.alloc ?_ ?_ _ | with_reducible refine Below.grow _ _ _ ?_ ?_ | omega | (simp; done) | (simp; omega)))⟩
        case measure => simp [intOf]; omega
    · have hk' : k = l.length := by omega
      subst hk'
      go_wp2_with fail
      go_ret
      refine ⟨⟨_, rfl, ?_, by omega⟩, (by repeat (first | with_reducible exact Below.refl _ _ | with_reducible assumption | with_reducible exact below_d1 _ _ _ _ _ | with_reducible exact below_d2 _ _ _ _ _ _ _ _ | with_reducible exact below_d3 _ _ _ _ _ | with_reducible exact below_d4 _ _ _ _ _ _ _ _ | with_reducible exact below_d5 _ _ | with_reducible refine Below.drew ?_ | with_reducible refine Below.drewN' ?_ _ | with_reducible refine below_grow0 _ _ ?_ | with_reducible refine below_alloc0 _ ?_ | with_reducible refine Below.setCell ?_ ?_ _ | with_reducible refine Below.alloc ?_ ?_ _ | with_reducible refine Below.grow _ _ _ ?_ ?_ | omega | (simp; done) | (simp; omega)))⟩
      rw [decide_eq_false (by omega)]
      symm
      unfold fullB
      rw [List.any_eq_false]
      intro y hy
      have := hno.out y (by rw [List.take_length]; exact hy)
      simp
      omega
theorem trFull (v : Value) (l : List Node) (w : World) (h : Sl cNode 9 w v l) (hm : l.length ≤ 140737488355328) :
    Calls Tryd.prog 50 #[v, .func (.func 51) #[] #[]] w fun e w' => e = .returned (.bool (fullB l)) ∧ Below w.heap.size w w' := by
  have H := Lib.hid h
  obtain ⟨A, c, rfl, h1, h1b⟩ := h.form
  clear h
  go_enter Tryd.func50, Tryd.ntmps50
  go_wp2_with ((go_at_call 72; refine (indexFull _ _ _ H.out hm).mono ?_; rintro e w1 ⟨⟨i, rfl, hi, hi1⟩, hb1⟩; obtain ⟨ext1, d1, rfl⟩ := Below.grown_eq _ hb1; clear hb1))
  go_ret
  refine ⟨?_, (by repeat (first | with_reducible exact Below.refl _ _ | with_reducible assumption | with_reducible exact below_d1 _ _ _ _ _ | with_reducible exact below_d2 _ _ _ _ _ _ _ _ | with_reducible exact below_d3 _ _ _ _ _ | with_reducible exact below_d4 _ _ _ _ _ _ _ _ | with_reducible exact below_d5 _ _ | with_reducible refine Below.drew ?_ | with_reducible refine Below.drewN' ?_ _ | with_reducible refine below_grow0 _ _ ?_ | with_reducible refine below_alloc0 _ ?_ | with_reducible refine Below.setCell ?_ ?_ _ | with_reducible refine Below.alloc ?_ ?_ _ | with_reducible refine Below.grow _ _ _ ?_ ?_ | omega | (simp; done) | (simp; omega)))⟩
  rw [← hi]
  rfl
end Go.Proofs.YteolglmifimnaaaDoor

/- package tree: Apply: what it answers; a transaction that does not fit. -/
namespace Go.Proofs.YteolglmifimnaaaDoor
open Go.RowKit Go.ChangeShapes Go.WideShapes Go.ChangeAt
theorem own_types {α β : Type} {f : α → List Value} {f' : β → List Value} {s s' : Nat} {e e' : TypeId} {w : World} {B B' : Nat} {v v' : Value} {l : List α} {l' : List β} (h : Ow f s e w B v l) (h' : Ow f' s' e' w B' v' l') (hne : e ≠ e') : ∀ q, v.ownBlock = some q → v'.ownBlock ≠ some q := by
  intro q hq hq'
  rcases h.1.2 with ⟨rfl, _⟩ | ⟨g, cap, cur, rfl, hb, hg, _⟩
  · cases hq
  · rcases h'.1.2 with ⟨rfl, _⟩ | ⟨g', cap', cur', rfl, hb', hg', _⟩
    · cases hq'
    · have e1 : g = q := by simpa [Value.ownBlock] using hq
      have e2 : g' = q := by simpa [Value.ownBlock] using hq'
      subst e1
      subst e2
      rw [hg] at hg'
      injection hg' with hg'
      injection hg' with _ hg' _
      exact hne hg'
theorem Hand.number {w : World} {B b : Nat} {z z' : Int} {l : List Node} {ss : List Int} {ev : List Event} {nv sv vv : Value} (h : Hand w B b ⟨z, l, ss⟩ ev nv sv vv) : Hand (w.setCell ⟨b, 0, none⟩ (.int .i64 z')) B b ⟨z', l, ss⟩ ev nv sv vv :=
  ⟨by simpa using h.bk.put 0 (.int .i64 z'), h.nodes.far2 h.nb, h.sess.far2 h.sb, h.evs.far2 h.vb, h.nb, h.sb, h.vb, h.ns, h.nv, h.sv, h.base⟩
theorem gen_e {F : Exit → Act → World → Prop} {e : Exit} {a : Act} {w : World} (h : ∀ W, Hid (W = w) → F e a W) : F e a w := h w (Lib.hid rfl)
theorem set3_cells {W : World} {g : Nat} {u0 u1 u2 v0 v1 v2 : Value} (c0 : W.cell? ⟨g, 0, none⟩ = some u0) (c1 : W.cell? ⟨g, 1, none⟩ = some u1) (c2 : W.cell? ⟨g, 2, none⟩ = some u2) :
    (((W.setCell ⟨g, 0, none⟩ v0).setCell ⟨g, 1, none⟩ v1).setCell ⟨g, 2, none⟩ v2).cell? ⟨g, 0, none⟩ = some v0 ∧ (((W.setCell ⟨g, 0, none⟩ v0).setCell ⟨g, 1, none⟩ v1).setCell ⟨g, 2, none⟩ v2).cell? ⟨g, 1, none⟩ = some v1 ∧ (((W.setCell ⟨g, 0, none⟩ v0).setCell ⟨g, 1, none⟩ v1).setCell ⟨g, 2, none⟩ v2).cell? ⟨g, 2, none⟩ = some v2 := by
  have n20 : (⟨g, 2, none⟩ : Addr) ≠ ⟨g, 0, none⟩ := by simp
  have n21 : (⟨g, 2, none⟩ : Addr) ≠ ⟨g, 1, none⟩ := by simp
  have n10 : (⟨g, 1, none⟩ : Addr) ≠ ⟨g, 0, none⟩ := by simp
  have n01 : (⟨g, 0, none⟩ : Addr) ≠ ⟨g, 1, none⟩ := by simp
  have n02 : (⟨g, 0, none⟩ : Addr) ≠ ⟨g, 2, none⟩ := by simp
  have n12 : (⟨g, 1, none⟩ : Addr) ≠ ⟨g, 2, none⟩ := by simp
  exact ⟨(World.cell?_setCell_other _ _ _ _ n20).trans ((World.cell?_setCell_other _ _ _ _ n10).trans (World.cell?_setCell_same _ _ _ c0)),
    (World.cell?_setCell_other _ _ _ _ n21).trans (World.cell?_setCell_same _ _ _ ((World.cell?_setCell_other _ _ _ _ n01).trans c1)),
    World.cell?_setCell_same _ _ _ ((World.cell?_setCell_other _ _ _ _ n12).trans ((World.cell?_setCell_other _ _ _ _ n02).trans c2))⟩
theorem grow_at {W : World} {ext : Array Obj} {d : Nat} {p : Addr} {v : Value} (h : W.cell? p = some v) : (grow W ext d).cell? p = some v := (cell_grow_some W ext d p (by rw [h]; rfl)).trans h
theorem Ow.set_low {α : Type} {f : α → List Value} {s : Nat} {e : TypeId} {W : World} {B : Nat} {v : Value} {l : List α} (h : Ow f s e W B v l) {g : Nat} (hg : g < B) (v0 v1 v2 : Value) : Ow f s e (((W.setCell ⟨g, 0, none⟩ v0).setCell ⟨g, 1, none⟩ v1).setCell ⟨g, 2, none⟩ v2) B v l := ((h.setBelow hg v0).setBelow hg v1).setBelow hg v2
def ApplyRes (t : Tr) (x : Txn) (w : World) (e : Ending) (w' : World) : Prop := ∃ nv sv vv, e = .returned (.tuple #[.agg #[.int .i64 (applyT t x).zxid, nv, sv], vv, .int .i64 (applyE t x)]) ∧ Ow cNode 9 40 w' w.heap.size nv (applyT t x).nodes ∧ Ow cInt 1 3 w' w.heap.size sv (applyT t x).sess ∧ Ow cEvent 2 55 w' w.heap.size vv (applyV t x) ∧ Below w.heap.size w w'
theorem applyRes_no {t : Tr} {x : Txn} {w w' : World} {c : Int} (hc : applyE t x = c) (h0 : c ≠ 0) (hb : Below w.heap.size w w') : ApplyRes t x w (.returned (.tuple #[.agg #[.int .i64 0, .slice none 0 0, .slice none 0 0], .slice none 0 0, .int .i64 c])) w' := by
  subst hc
  have hT : applyT t x = noTr := by unfold applyT; rw [if_neg h0]
  have hV : applyV t x = [] := by unfold applyV; rw [if_neg h0]
  refine ⟨.slice none 0 0, .slice none 0 0, .slice none 0 0, ?_, ?_, ?_, ?_, hb⟩
  · rw [hT]; rfl
  · rw [hT]; exact Ow.nil _ _ _ _ _
  · rw [hT]; exact Ow.nil _ _ _ _ _
  · rw [hV]; exact Ow.nil _ _ _ _ _
set_option maxRecDepth 100000 in
set_option maxHeartbeats 4000000 in
theorem trApply_wrong (z : Int) (v v2 : Value) (l : List Node) (ss : List Int) (x : Txn) (w : World) (h : Sl cNode 9 w v l) (h2 : Sl cInt 1 w v2 ss) (hn : l.length ≤ 140737488355328) (hn2 : ss.length ≤ 140737488355328) (hz : ∀ n ∈ l, n.path.size ≤ 9223372036854775807) (hp : x.path.size ≤ 9223372036854775807)
    (hw : wrongE ⟨z, l, ss⟩ x ≠ 0) : Calls Tryd.prog 23 #[.agg #[.int .i64 z, v, v2], txnV x] w (ApplyRes ⟨z, l, ss⟩ x w) := by
  obtain ⟨A, c, rfl, h1, h1b⟩ := h.form
  obtain ⟨A2, c2, rfl, h3, h3b⟩ := h2.form
  have HV := Lib.hid h
  have HS := Lib.hid h2
  have HWR := Lib.hid (fun (W : World) (h : Sl cNode 9 W (.slice A l.length c) l) (h2 : Sl cInt 1 W (.slice A2 ss.length c2) ss) => trWrong z (.slice A l.length c) (.slice A2 ss.length c2) l ss x W h h2 hn hn2 hz hp)
  have HE := Lib.hid (show applyE ⟨z, l, ss⟩ x = wrongE ⟨z, l, ss⟩ x by unfold applyE; rw [if_neg hw])
  clear h h2
  generalize wrongE ⟨z, l, ss⟩ x = e at *
  have he : (e == 0) = false := beq_eq_false_iff_ne.2 hw
  have he2 : (e != 0) = true := bne_iff_ne.2 hw
  obtain ⟨xz, xo, xs, xp, xd, xv, xw⟩ := x
  simp only at *
  go_enter Tryd.func23, Tryd.ntmps23
  go_wp2_with ((go_at_call 43; refine (HWR.out _ (HV.out.below (by repeat (first | with_reducible exact Below.refl _ _ | with_reducible assumption | with_reducible exact below_d1 _ _ _ _ _ | with_reducible exact below_d2 _ _ _ _ _ _ _ _ | with_reducible exact below_d3 _ _ _ _ _ | with_reducible exact below_d4 _ _ _ _ _ _ _ _ | with_reducible exact below_d5 _ _ | with_reducible refine Below.drew ?_ | with_reducible refine Below.drewN' ?_ _ | with_reducible refine below_grow0 _ _ ?_ | with_reducible refine below_alloc0 _ ?_ | with_reducible refine Below.setCell ?_ ?_ _ | with_reducible refine Below.alloc ?_ ?_ _ | with_reducible refine Below.grow _ _ _ ?_ ?_ | omega | (simp; done) | (simp; omega)))) (HS.out.below (by repeat (first | with_reducible exact Below.refl _ _ | with_reducible assumption | with_reducible exact below_d1 _ _ _ _ _ | with_reducible exact below_d2 _ _ _ _ _ _ _ _ | with_reducible exact below_d3 _ _ _ _ _ | with_reducible exact below_d4 _ _ _ _ _ _ _ _ | with_reducible exact below_d5 _ _ | with_reducible refine Below.drew ?_ | with_reducible refine Below.drewN' ?_ _ | with_reducible refine below_grow0 _ _ ?_ | with_reducible refine below_alloc0 _ ?_ | with_reducible refine Below.setCell ?_ ?_ _ | with_reducible refine Below.alloc ?_ ?_ _ | with_reducible refine Below.grow _ _ _ ?_ ?_ | omega | (simp; done) | (simp; omega))))).mono ?_; rintro e w1 ⟨rfl, hb⟩; obtain ⟨ext1, d1, rfl⟩ := Below.grown_eq _ hb; clear hb))
  refine bodyPost_ret (v := .tuple #[.agg #[.int .i64 0, .slice none 0 0, .slice none 0 0], .slice none 0 0, .int .i64 e]) (by simp [results, Tryd.results23, go_sem]) rfl (applyRes_no HE.out hw (by repeat (first | with_reducible exact Below.refl _ _ | with_reducible assumption | with_reducible exact below_d1 _ _ _ _ _ | with_reducible exact below_d2 _ _ _ _ _ _ _ _ | with_reducible exact below_d3 _ _ _ _ _ | with_reducible exact below_d4 _ _ _ _ _ _ _ _ | with_reducible exact below_d5 _ _ | with_reducible refine Below.drew ?_ | with_reducible refine Below.drewN' ?_ _ | with_reducible refine below_grow0 _ _ ?_ | with_reducible refine below_alloc0 _ ?_ | with_reducible refine Below.setCell ?_ ?_ _ | with_reducible refine Below.alloc ?_ ?_ _ | with_reducible refine Below.grow _ _ _ ?_ ?_ | omega | (simp; done) | (simp; omega))))
end Go.Proofs.YteolglmifimnaaaDoor

/- package prep: create. -/
namespace Go.Proofs.YteolglmifimnaaaDoor
open Go.RowKit Go.ChangeShapes Go.WideShapes Go.ChangeAt
/-- what create leaves in the box of the transaction -/
def CreIs (t : Tr) (r : Request) (zx op s : Int) (bx : Nat) (w : World) (e : Ending) (w' : World) : Prop :=
  e = .returned (.int .i64 (creR t r).2) ∧ Below bx w w' ∧ ∃ (p d : ByteArray) (o : Int), Bk w' bx [.int .i64 zx, .int .i64 op, .int .i64 s, .string p, .string d, .int .i64 0, .int .i64 o] 49 ∧ ((creR t r).2 = 0 → p = (creR t r).1 ∧ d = r.data ∧ o = if ephF r.flags then r.session else 0)
set_option maxHeartbeats 2000000 in
theorem trCreate_no (z : Int) (v v2 : Value) (l : List Node) (ss : List Int) (r : Request) (zx op s : Int) (bx : Nat) (w0 w : World) (h : Sl cNode 9 w0 v l) (h2 : Sl cInt 1 w0 v2 ss) (hB : Below w0.heap.size w0 w)
    (hk : Bk w bx [.int .i64 zx, .int .i64 op, .int .i64 s, .string ⟨#[]⟩, .string ⟨#[]⟩, .int .i64 0, .int .i64 0] 49) (hn2 : ss.length * 8 ≤ 140737488355328) (hp : r.path.size ≤ 9223372036854775807)
    (hno : (r.flags < 0 ∨ 3 < r.flags) ∨ (splitR r.path).2.2 ≠ 0 ∨ isI ss r.session = false) :
    Calls Tryd.prog 53 #[.agg #[.int .i64 z, v, v2], .pointer (some ⟨bx, 0, none⟩), reqV r] w (CreIs ⟨z, l, ss⟩ r zx op s bx w) := by
  obtain ⟨A, c, rfl, h1, h1b⟩ := h.form
  obtain ⟨A2, c2, rfl, h3, h3b⟩ := h2.form
  have HV := Lib.hid h
  have HS := Lib.hid h2
  clear h h2
  have hs := hB.size
  have hlt := hk.lt
  have HK := Lib.hid hk
  clear hk
  obtain ⟨ro, rs, rp, rd, rv, rf⟩ := r
  have HSP := Lib.hid (fun (W : World) => split_any rp W hp)
  have HOP := Lib.hid (fun (W : World) (h : Sl cInt 1 W (.slice A2 ss.length c2) ss) => trOpen z (.slice A2 ss.length c2) A l.length c ss rs W h (by omega))
  have fin : ∀ (E : Int) (w' : World), creR ⟨z, l, ss⟩ ⟨ro, rs, rp, rd, rv, rf⟩ = (⟨#[]⟩, E) → E ≠ 0 → Below w.heap.size w w' → CreIs ⟨z, l, ss⟩ ⟨ro, rs, rp, rd, rv, rf⟩ zx op s bx w (.returned (.int .i64 E)) w' := by
    intro E w' he hE hb
    unfold CreIs
    rw [he]
    exact ⟨rfl, hb.mono (by omega), _, _, _, HK.out.below hb, fun e => absurd e hE⟩
  have HF := Lib.hid fin
  clear fin
  simp only at hno
  by_cases c1 : rf < 0 ∨ 3 < rf
  · have HF2 := Lib.hid (fun w' => HF.out 3 w' (by unfold creR; rw [if_pos c1]) (by decide))
    rcases c1 with c1 | c1
    · have e1 : decide (rf < 0) = true := decide_eq_true c1
      clear c1 hno HF HK
      go_enter Tryd.func53, Tryd.ntmps53
      go_wp2_with fail
      go_ret
      exact HF2.out _ (by repeat (first | with_reducible exact Below.refl _ _ | with_reducible assumption | with_reducible exact below_d1 _ _ _ _ _ | with_reducible exact below_d2 _ _ _ _ _ _ _ _ | with_reducible exact below_d3 _ _ _ _ _ | with_reducible exact below_d4 _ _ _ _ _ _ _ _ | with_reducible exact below_d5 _ _ | with_reducible refine Below.drew ?_ | with_reducible refine Below.drewN' ?_ _ | with_reducible refine below_grow0 _ _ ?_ | with_reducible refine below_alloc0 _ ?_ | with_reducible refine Below.setCell ?_ ?_ _ | with_reducible refine Below.alloc ?_ ?_ _ | with_reducible refine Below.grow _ _ _ ?_ ?_ | omega | (simp; done) | (simp; omega)))
    · have e1 : decide (rf < 0) = false := decide_eq_false (by omega)
      have e2 : decide (3 < rf) = true := decide_eq_true c1
      clear c1 hno HF HK
      go_enter Tryd.func53, Tryd.ntmps53
      go_wp2_with fail
      go_ret
      exact HF2.out _ (by repeat (first | with_reducible exact Below.refl _ _ | with_reducible assumption | with_reducible exact below_d1 _ _ _ _ _ | with_reducible exact below_d2 _ _ _ _ _ _ _ _ | with_reducible exact below_d3 _ _ _ _ _ | with_reducible exact below_d4 _ _ _ _ _ _ _ _ | with_reducible exact below_d5 _ _ | with_reducible refine Below.drew ?_ | with_reducible refine Below.drewN' ?_ _ | with_reducible refine below_grow0 _ _ ?_ | with_reducible refine below_alloc0 _ ?_ | with_reducible refine Below.setCell ?_ ?_ _ | with_reducible refine Below.alloc ?_ ?_ _ | with_reducible refine Below.grow _ _ _ ?_ ?_ | omega | (simp; done) | (simp; omega)))
  · have e1 : decide (rf < 0) = false := decide_eq_false (by omega)
    have e2 : decide (3 < rf) = false := decide_eq_false (by omega)
    by_cases c2' : (splitR rp).2.2 = 0
    · have c3 : isI ss rs = false := by
        rcases hno with hno | hno | hno
        · exact absurd hno c1
        · exact absurd c2' hno
        · exact hno
      have HF2 := Lib.hid (fun w' => HF.out 12 w' (by unfold creR; rw [if_neg c1]; simp only; rw [if_neg (by omega), c3, if_pos rfl]) (by decide))
      rw [c2'] at HSP
      rw [c3] at HOP
      generalize (splitR rp).2.1 = st at *
      generalize (splitR rp).1 = dir at *
      clear c1 hno HF HK c2' c3
      go_enter Tryd.func53, Tryd.ntmps53
      go_wp2_with (first | (go_at_call 25; refine (HSP.out _).mono ?_; rintro e w1 ⟨rfl, hb⟩; obtain ⟨ext1, d1, rfl⟩ := Below.grown_eq _ hb; clear hb) | (go_at_call 24; refine (HOP.out _ (HS.out.below (by repeat (first | with_reducible exact Below.refl _ _ | with_reducible assumption | with_reducible exact below_d1 _ _ _ _ _ | with_reducible exact below_d2 _ _ _ _ _ _ _ _ | with_reducible exact below_d3 _ _ _ _ _ | with_reducible exact below_d4 _ _ _ _ _ _ _ _ | with_reducible exact below_d5 _ _ | with_reducible refine Below.drew ?_ | with_reducible refine Below.drewN' ?_ _ | with_reducible refine below_grow0 _ _ ?_ | with_reducible refine below_alloc0 _ ?_ | with_reducible refine Below.setCell ?_ ?_ _ | with_reducible refine Below.alloc ?_ ?_ _ | with_reducible refine Below.grow _ _ _ ?_ ?_ | omega | (simp; done) | (simp; omega))))).mono ?_; rintro e w1 ⟨rfl, hb⟩; obtain ⟨ext2, d2, rfl⟩ := Below.grown_eq _ hb; clear hb))
      go_ret
      exact HF2.out _ (by repeat (first | with_reducible exact Below.refl _ _ | with_reducible assumption | with_reducible exact below_d1 _ _ _ _ _ | with_reducible exact below_d2 _ _ _ _ _ _ _ _ | with_reducible exact below_d3 _ _ _ _ _ | with_reducible exact below_d4 _ _ _ _ _ _ _ _ | with_reducible exact below_d5 _ _ | with_reducible refine Below.drew ?_ | with_reducible refine Below.drewN' ?_ _ | with_reducible refine below_grow0 _ _ ?_ | with_reducible refine below_alloc0 _ ?_ | with_reducible refine Below.setCell ?_ ?_ _ | with_reducible refine Below.alloc ?_ ?_ _ | with_reducible refine Below.grow _ _ _ ?_ ?_ | omega | (simp; done) | (simp; omega)))
    · have HF2 := Lib.hid (fun w' => HF.out 2 w' (by unfold creR; rw [if_neg c1]; simp only; rw [if_pos c2']) (by decide))
      generalize (splitR rp).2.2 = se at *
      generalize (splitR rp).2.1 = st at *
      generalize (splitR rp).1 = dir at *
      have e3 : (se == 0) = false := beq_eq_false_iff_ne.2 c2'
      have e4 : (se != 0) = true := bne_iff_ne.2 c2'
      clear c1 hno HF HK c2'
      go_enter Tryd.func53, Tryd.ntmps53
      go_wp2_with (first | (go_at_call 25; refine (HSP.out _).mono ?_; rintro e w1 ⟨rfl, hb⟩; obtain ⟨ext1, d1, rfl⟩ := Below.grown_eq _ hb; clear hb) | (go_at_call 24; refine (HOP.out _ (HS.out.below (by repeat (first | with_reducible exact Below.refl _ _ | with_reducible assumption | with_reducible exact below_d1 _ _ _ _ _ | with_reducible exact below_d2 _ _ _ _ _ _ _ _ | with_reducible exact below_d3 _ _ _ _ _ | with_reducible exact below_d4 _ _ _ _ _ _ _ _ | with_reducible exact below_d5 _ _ | with_reducible refine Below.drew ?_ | with_reducible refine Below.drewN' ?_ _ | with_reducible refine below_grow0 _ _ ?_ | with_reducible refine below_alloc0 _ ?_ | with_reducible refine Below.setCell ?_ ?_ _ | with_reducible refine Below.alloc ?_ ?_ _ | with_reducible refine Below.grow _ _ _ ?_ ?_ | omega | (simp; done) | (simp; omega))))).mono ?_; rintro e w1 ⟨rfl, hb⟩; obtain ⟨ext2, d2, rfl⟩ := Below.grown_eq _ hb; clear hb))
      go_ret
      exact HF2.out _ (by repeat (first | with_reducible exact Below.refl _ _ | with_reducible assumption | with_reducible exact below_d1 _ _ _ _ _ | with_reducible exact below_d2 _ _ _ _ _ _ _ _ | with_reducible exact below_d3 _ _ _ _ _ | with_reducible exact below_d4 _ _ _ _ _ _ _ _ | with_reducible exact below_d5 _ _ | with_reducible refine Below.drew ?_ | with_reducible refine Below.drewN' ?_ _ | with_reducible refine below_grow0 _ _ ?_ | with_reducible refine below_alloc0 _ ?_ | with_reducible refine Below.setCell ?_ ?_ _ | with_reducible refine Below.alloc ?_ ?_ _ | with_reducible refine Below.grow _ _ _ ?_ ?_ | omega | (simp; done) | (simp; omega)))
theorem serR_size (s : ByteArray) (n : Int) : (serR s n).1.size ≤ s.size + 10 := by
  unfold serR
  split
  · exact Nat.zero_le _
  · split
    · show (List.toArray (bs s ++ digs 10 n.toNat)).size ≤ _
      rw [List.size_toArray, List.length_append, length_digs, length_bs]
      exact Nat.le_refl _
    · exact Nat.zero_le _
set_option maxRecDepth 100000 in
set_option maxHeartbeats 4000000 in
theorem trCreate_yes (z : Int) (v v2 : Value) (l : List Node) (ss : List Int) (r : Request) (zx op s : Int) (bx : Nat) (w0 w : World) (h : Sl cNode 9 w0 v l) (h2 : Sl cInt 1 w0 v2 ss) (hB : Below w0.heap.size w0 w) (hbx : w0.heap.size ≤ bx)
    (hk : Bk w bx [.int .i64 zx, .int .i64 op, .int .i64 s, .string ⟨#[]⟩, .string ⟨#[]⟩, .int .i64 0, .int .i64 0] 49) (hn : l.length ≤ 140737488355328) (hn2 : ss.length * 8 ≤ 140737488355328) (hp : r.path.size ≤ 9223372036854775807)
    (hf1 : ¬ (r.flags < 0 ∨ 3 < r.flags)) (hf2 : (splitR r.path).2.2 = 0) (hf3 : isI ss r.session = true) :
    Calls Tryd.prog 53 #[.agg #[.int .i64 z, v, v2], .pointer (some ⟨bx, 0, none⟩), reqV r] w (CreIs ⟨z, l, ss⟩ r zx op s bx w) := by
  obtain ⟨A, c, rfl, h1, h1b⟩ := h.form
  obtain ⟨A2, c2, rfl, h3, h3b⟩ := h2.form
  have HV := Lib.hid h
  have HS := Lib.hid h2
  clear h h2
  have hs := hB.size
  have hlt := hk.lt
  have HK := Lib.hid hk
  clear hk
  obtain ⟨ro, rs, rp, rd, rv, rf⟩ := r
  have HSP := Lib.hid (fun (W : World) => split_any rp W hp)
  have HOP := Lib.hid (fun (W : World) (h : Sl cInt 1 W (.slice A2 ss.length c2) ss) => trOpen z (.slice A2 ss.length c2) A l.length c ss rs W h (by omega))
  have HC : Hid (creR ⟨z, l, ss⟩ ⟨ro, rs, rp, rd, rv, rf⟩ = if seqF rf then seqR ⟨z, l, ss⟩ rp else (rp, 0)) := Lib.hid (by
    unfold creR
    rw [if_neg hf1]
    simp only
    rw [if_neg (fun e => e hf2), hf3, if_neg (by decide)])
  simp only at hf1 hf2 hf3
  have e1 : decide (rf < 0) = false := decide_eq_false (by omega)
  have e2 : decide (3 < rf) = false := decide_eq_false (by omega)
  obtain ⟨hgp, hps⟩ := split_ok hf2
  have hsz := goodP_size hgp
  obtain ⟨_, hgd, hnm, _⟩ := split_join hgp hps
  have hsd := goodP_size hgd
  have hss := (named_no hnm).2.2
  rw [length_bs] at hss
  rw [hf2] at HSP
  rw [hf3] at HOP
  have HGT := Lib.hid (fun (W : World) (h : Sl cNode 9 W (.slice A l.length c) l) => trGet z (.slice A l.length c) A2 ss.length c2 l (splitR rp).1 W h (by omega))
  have hbits : (bits .and .i64 rf 2 = 0 ∧ seqF rf = false ∨ bits .and .i64 rf 2 = 2 ∧ seqF rf = true) ∧ (bits .and .i64 rf 1 = 0 ∧ ephF rf = false ∨ bits .and .i64 rf 1 = 1 ∧ ephF rf = true) := by
    rcases (by omega : rf = 0 ∨ rf = 1 ∨ rf = 2 ∨ rf = 3) with rfl | rfl | rfl | rfl <;> decide
  have HBT := Lib.hid hbits
  have HSQ : Hid (seqR ⟨z, l, ss⟩ rp = if hasN l (splitR rp).1 then (if (serR (splitR rp).2.1 (getN l (splitR rp).1).cversion).2 ≠ 0 then (⟨#[]⟩, (serR (splitR rp).2.1 (getN l (splitR rp).1).cversion).2) else joinR (splitR rp).1 (serR (splitR rp).2.1 (getN l (splitR rp).1).cversion).1) else (⟨#[]⟩, 7)) := Lib.hid rfl
  generalize (splitR rp).2.1 = st at *
  generalize (splitR rp).1 = dir at *
  unfold getE at HGT
  clear hf1 hf2 hf3 hgp hps hgd hnm hbits
  go_enter Tryd.func53, Tryd.ntmps53
  go_upto_region 8 with (first | (go_at_call 25; refine (HSP.out _).mono ?_; rintro e w1 ⟨rfl, hb⟩; obtain ⟨ext1, d1, rfl⟩ := Below.grown_eq _ hb; clear hb) | (go_at_call 24; refine (HOP.out _ (HS.out.below (by repeat (first | with_reducible exact Below.refl _ _ | with_reducible assumption | with_reducible exact below_d1 _ _ _ _ _ | with_reducible exact below_d2 _ _ _ _ _ _ _ _ | with_reducible exact below_d3 _ _ _ _ _ | with_reducible exact below_d4 _ _ _ _ _ _ _ _ | with_reducible exact below_d5 _ _ | with_reducible refine Below.drew ?_ | with_reducible refine Below.drewN' ?_ _ | with_reducible refine below_grow0 _ _ ?_ | with_reducible refine below_alloc0 _ ?_ | with_reducible refine Below.setCell ?_ ?_ _ | with_reducible refine Below.alloc ?_ ?_ _ | with_reducible refine Below.grow _ _ _ ?_ ?_ | omega | (simp; done) | (simp; omega))))).mono ?_; rintro e w1 ⟨rfl, hb⟩; obtain ⟨ext2, d2, rfl⟩ := Below.grown_eq _ hb; clear hb))
  refine gen_w (fun wa hwa => ?_)
  have hbwa : Below w.heap.size w wa := by rw [hwa.out]; exact (by repeat (first | with_reducible exact Below.refl _ _ | with_reducible assumption | with_reducible exact below_d1 _ _ _ _ _ | with_reducible exact below_d2 _ _ _ _ _ _ _ _ | with_reducible exact below_d3 _ _ _ _ _ | with_reducible exact below_d4 _ _ _ _ _ _ _ _ | with_reducible exact below_d5 _ _ | with_reducible refine Below.drew ?_ | with_reducible refine Below.drewN' ?_ _ | with_reducible refine below_grow0 _ _ ?_ | with_reducible refine below_alloc0 _ ?_ | with_reducible refine Below.setCell ?_ ?_ _ | with_reducible refine Below.alloc ?_ ?_ _ | with_reducible refine Below.grow _ _ _ ?_ ?_ | omega | (simp; done) | (simp; omega)))
  have hwa1 : w.heap.size + 1 < wa.heap.size := by rw [hwa.out]; simp <;> omega
  have t0 : wa.cell? ⟨w.heap.size, 0, none⟩ = some (.int .i64 z) := by rw [hwa.out]; go_simp
  have t1 : wa.cell? ⟨w.heap.size, 1, none⟩ = some (.slice A l.length c) := by rw [hwa.out]; go_simp
  have t2 : wa.cell? ⟨w.heap.size, 2, none⟩ = some (.slice A2 ss.length c2) := by rw [hwa.out]; go_simp
  have r1 : wa.cell? ⟨w.heap.size + 1, 1, none⟩ = some (.int .i64 rs) := by rw [hwa.out]; go_simp
  have r2 : wa.cell? ⟨w.heap.size + 1, 2, none⟩ = some (.string rp) := by rw [hwa.out]; go_simp
  have r3 : wa.cell? ⟨w.heap.size + 1, 3, none⟩ = some (.string rd) := by rw [hwa.out]; go_simp
  have r5 : wa.cell? ⟨w.heap.size + 1, 5, none⟩ = some (.int .i64 rf) := by rw [hwa.out]; go_simp
  clear hwa HSP HOP
  refine wp_region_noPanic ?_
  refine wp_region_W (by kernel_rfl) (fun W hW => ?_)
  have cl0 : W.cell? ⟨w.heap.size + 1, 2, none⟩ = some (.string rp) := by rw [hW.out]; go_simp
  have cl1 : W.cell? ⟨w.heap.size + 1, 3, none⟩ = some (.string rd) := by rw [hW.out]; go_simp
  have HBW := Lib.hid (HK.out.below (w' := W) (by rw [hW.out]; exact hbwa.drew))
  have z3 : W.cell? ⟨bx, 3, none⟩ = some (.string ⟨#[]⟩) := HBW.out.cell 3
  have z4 : W.cell? ⟨bx, 4, none⟩ = some (.string ⟨#[]⟩) := HBW.out.cell 4
  have zf3 : W.frozen? ⟨bx, 3, none⟩ = false := HBW.out.frozen 3
  have zf4 : W.frozen? ⟨bx, 4, none⟩ = false := HBW.out.frozen 4
  have hWr : Below w.heap.size w W := by rw [hW.out]; exact hbwa.drew
  have hWa : Below wa.heap.size wa W := by rw [hW.out]; exact (by repeat (first | with_reducible exact Below.refl _ _ | with_reducible assumption | with_reducible exact below_d1 _ _ _ _ _ | with_reducible exact below_d2 _ _ _ _ _ _ _ _ | with_reducible exact below_d3 _ _ _ _ _ | with_reducible exact below_d4 _ _ _ _ _ _ _ _ | with_reducible exact below_d5 _ _ | with_reducible refine Below.drew ?_ | with_reducible refine Below.drewN' ?_ _ | with_reducible refine below_grow0 _ _ ?_ | with_reducible refine below_alloc0 _ ?_ | with_reducible refine Below.setCell ?_ ?_ _ | with_reducible refine Below.alloc ?_ ?_ _ | with_reducible refine Below.grow _ _ _ ?_ ?_ | omega | (simp; done) | (simp; omega)))
  refine wpAny_S (fun w' => w'.cell? ⟨w.heap.size + 1, 2, none⟩ = some (.string rp) ∧ w'.cell? ⟨w.heap.size + 1, 3, none⟩ = some (.string rd)) (fun i => false) (by (try dsimp only); (refine ⟨?_, ?_⟩ <;> go_simp)) (fun hHeld => ?_)
  (refine wpE_takeP (i := 0) (v := ?gV1_1) (by simp only [List.getElem?_toArray]; rfl) (by kernel_rfl) (by kernel_rfl) (by kernel_rfl) (by rfl) (fun _ _ _ h => h) (Or.inl ⟨by rfl, ?gY1_1⟩) (by assumption) ?gR1_1; case gY1_1 => (intro w hSw; (try dsimp only at hSw); go_simp <;> with_reducible rfl))
  try simp only [Act.put, List.setIfInBounds_toArray, List.set_cons_zero, List.set_cons_succ]
  (refine wpE_takeP (i := 1) (v := ?gV1_2) (by simp only [List.getElem?_toArray]; rfl) (by kernel_rfl) (by kernel_rfl) (by kernel_rfl) (by rfl) (fun _ _ _ h => h) (Or.inl ⟨by rfl, ?gY1_2⟩) (by assumption) ?gR1_2; case gY1_2 => (intro w hSw; (try dsimp only at hSw); go_simp <;> with_reducible rfl))
  try simp only [Act.put, List.setIfInBounds_toArray, List.set_cons_zero, List.set_cons_succ]
  (refine wpE_takeP (i := 2) (v := ?gV1_3) (by simp only [List.getElem?_toArray]; rfl) (by kernel_rfl) (by kernel_rfl) (by kernel_rfl) (by rfl) (fun _ _ _ h => h) (Or.inl ⟨by rfl, ?gY1_3⟩) (by assumption) ?gR1_3; case gY1_3 => (intro w hSw; (try dsimp only at hSw); go_simp <;> with_reducible rfl))
  try simp only [Act.put, List.setIfInBounds_toArray, List.set_cons_zero, List.set_cons_succ]
  (refine wpE_take (i := 3) (v := ?gV1_4) (by simp only [List.getElem?_toArray]; rfl) (by kernel_rfl) (by kernel_rfl) (by kernel_rfl) (by kernel_rfl) (by kernel_rfl) (by rfl) (fun _ _ _ h => h) (Or.inl ⟨by rfl, ?gY1_4⟩) (by assumption) ?gR1_4; case gY1_4 => (intro w hSw; (try dsimp only at hSw); go_simp <;> with_reducible rfl))
  try simp only [Act.put, List.setIfInBounds_toArray, List.set_cons_zero, List.set_cons_succ]
  (refine wpE_takeP (i := 4) (v := ?gV1_5) (by simp only [List.getElem?_toArray]; rfl) (by kernel_rfl) (by kernel_rfl) (by kernel_rfl) (by rfl) (fun _ _ _ h => h) (Or.inl ⟨by rfl, ?gY1_5⟩) (by assumption) ?gR1_5; case gY1_5 => (intro w hSw; (try dsimp only at hSw); go_simp <;> with_reducible rfl))
  try simp only [Act.put, List.setIfInBounds_toArray, List.set_cons_zero, List.set_cons_succ]
  (refine wpE_take (i := 5) (v := ?gV1_6) (by simp only [List.getElem?_toArray]; rfl) (by kernel_rfl) (by kernel_rfl) (by kernel_rfl) (by kernel_rfl) (by kernel_rfl) (by rfl) (fun _ _ _ h => h) (Or.inl ⟨by rfl, ?gY1_6⟩) (by assumption) ?gR1_6; case gY1_6 => (intro w hSw; (try dsimp only at hSw); go_simp <;> with_reducible rfl))
  try simp only [Act.put, List.setIfInBounds_toArray, List.set_cons_zero, List.set_cons_succ]
  (refine wpE_takeP (i := 6) (v := ?gV1_7) (by simp only [List.getElem?_toArray]; rfl) (by kernel_rfl) (by kernel_rfl) (by kernel_rfl) (by rfl) (fun _ _ _ h => h) (Or.inl ⟨by rfl, ?gY1_7⟩) (by assumption) ?gR1_7; case gY1_7 => (intro w hSw; (try dsimp only at hSw); go_simp <;> with_reducible rfl))
  try simp only [Act.put, List.setIfInBounds_toArray, List.set_cons_zero, List.set_cons_succ]
  (refine wpE_takeP (i := 7) (v := ?gV1_8) (by simp only [List.getElem?_toArray]; rfl) (by kernel_rfl) (by kernel_rfl) (by kernel_rfl) (by rfl) (fun _ _ _ h => h) (Or.inl ⟨by rfl, ?gY1_8⟩) (by assumption) ?gR1_8; case gY1_8 => (intro w hSw; (try dsimp only at hSw); go_simp <;> with_reducible rfl))
  try simp only [Act.put, List.setIfInBounds_toArray, List.set_cons_zero, List.set_cons_succ]
  refine wpE_ready (rs := [8]) (by kernel_rfl) (by simp) ?_
  refine AllE.cons (by simp only [List.getElem?_toArray]; rfl) (fun K hK => ?_) AllE.nil
  go_simp
  refine hK.out _ _ ?gT1_9 (fun hHeld => ?_)
  case gT1_9 => ((try dsimp only); (refine ⟨?_, ?_⟩ <;> go_simp))
  clear hK K
  try simp only [Act.put, List.setIfInBounds_toArray, List.set_cons_zero, List.set_cons_succ]
  (refine wpE_takeP (i := 9) (v := ?gV1_10) (by simp only [List.getElem?_toArray]; rfl) (by kernel_rfl) (by kernel_rfl) (by kernel_rfl) (by rfl) (fun _ _ _ h => h) (Or.inl ⟨by rfl, ?gY1_10⟩) (by assumption) ?gR1_10; case gY1_10 => (intro w hSw; (try dsimp only at hSw); go_simp <;> with_reducible rfl))
  try simp only [Act.put, List.setIfInBounds_toArray, List.set_cons_zero, List.set_cons_succ]
  (refine wpE_takeP (i := 10) (v := ?gV1_11) (by simp only [List.getElem?_toArray]; rfl) (by kernel_rfl) (by kernel_rfl) (by kernel_rfl) (by rfl) (fun _ _ _ h => h) (Or.inl ⟨by rfl, ?gY1_11⟩) (by assumption) ?gR1_11; case gY1_11 => (intro w hSw; (try dsimp only at hSw); go_simp <;> with_reducible rfl))
  try simp only [Act.put, List.setIfInBounds_toArray, List.set_cons_zero, List.set_cons_succ]
  refine wpE_ready (rs := [11]) (by kernel_rfl) (by simp) ?_
  refine AllE.cons (by simp only [List.getElem?_toArray]; rfl) (fun K hK => ?_) AllE.nil
  go_simp
  refine hK.out _ _ ?gT1_12 (fun hHeld => ?_)
  case gT1_12 => ((try dsimp only); (refine ⟨?_, ?_⟩ <;> go_simp))
  clear hK K
  try simp only [Act.put, List.setIfInBounds_toArray, List.set_cons_zero, List.set_cons_succ]
  refine wpE_done (by kernel_rfl) ?_ _
  refine NoPanic.normal ?_
  refine gen_e (fun wb hwb => ?_)
  have hWb : Below bx W wb := by rw [hwb.out]; exact Below.set_up (Below.set_up (Below.refl _ _) (Nat.le_refl _)) (Nat.le_refl _)
  have hbwb : Below bx w wb := (hWr.mono (by omega)).trans hWb
  have hb0 : Below w0.heap.size w0 wb := (hB.trans (hWr.mono hs)).trans (hWb.mono hbx)
  have HB := Lib.hid (show Bk wb bx [.int .i64 zx, .int .i64 op, .int .i64 s, .string rp, .string rd, .int .i64 0, .int .i64 0] 49 from hwb.out ▸ ((HBW.out.put 3 (.string rp)).put 4 (.string rd)))
  have hwb1 : w.heap.size + 1 < wb.heap.size := Nat.lt_of_lt_of_le hwa1 (Nat.le_trans hWa.size hWb.size)
  have w0 := keep2 hWa t0
  have w1 := keep2 hWa t1
  have w2 := keep2 hWa t2
  have w3 := keep2 hWa r1
  have w5 := keep2 hWa r5
  clear t0 t1 t2 r1 r2 r3 r5 cl0 cl1 hHeld z3 z4 zf3 zf4
  have t0 : wb.cell? ⟨w.heap.size, 0, none⟩ = some (.int .i64 z) := by rw [hwb.out]; go_simp
  have t1 : wb.cell? ⟨w.heap.size, 1, none⟩ = some (.slice A l.length c) := by rw [hwb.out]; go_simp
  have t2 : wb.cell? ⟨w.heap.size, 2, none⟩ = some (.slice A2 ss.length c2) := by rw [hwb.out]; go_simp
  have r1 : wb.cell? ⟨w.heap.size + 1, 1, none⟩ = some (.int .i64 rs) := by rw [hwb.out]; go_simp
  have r5 : wb.cell? ⟨w.heap.size + 1, 5, none⟩ = some (.int .i64 rf) := by rw [hwb.out]; go_simp
  have b6 : wb.cell? ⟨bx, 6, none⟩ = some (.int .i64 0) := HB.out.cell 6
  have f6 : wb.frozen? ⟨bx, 6, none⟩ = false := HB.out.frozen 6
  have hbx2 : bx < wb.heap.size := HB.out.lt
  clear w0 w1 w2 w3 w5 hwb hW hWr hWa hWb HBW HK
  rcases HBT.out.1 with ⟨a2, g2⟩ | ⟨a2, g2⟩
  · have HCR := HC
    rw [g2, if_neg (by decide)] at HCR
    clear g2 HC HSQ HGT
    rcases HBT.out.2 with ⟨a1, g1⟩ | ⟨a1, g1⟩
    · have HG1 := Lib.hid g1
      clear g1
      go_wp2_with fail
      refine bodyPost_ret (v := .int .i64 0) (by simp [results, Tryd.results53, go_sem]) rfl ?_
      unfold CreIs
      rw [HCR.out]
      refine ⟨rfl, ?_, rp, rd, 0, ?_, fun _ => ⟨rfl, rfl, ?_⟩⟩
      · exact hbwb
      · exact HB.out
      · simp only; rw [HG1.out]; rfl
    · have HG1 := Lib.hid g1
      clear g1
      go_wp2_with fail
      refine bodyPost_ret (v := .int .i64 0) (by simp [results, Tryd.results53, go_sem]) rfl ?_
      unfold CreIs
      rw [HCR.out]
      refine ⟨rfl, ?_, rp, rd, rs, ?_, fun _ => ⟨rfl, rfl, ?_⟩⟩
      · exact Below.set_up hbwb (Nat.le_refl _)
      · exact HB.out.put 6 (.int .i64 rs)
      · simp only; rw [HG1.out]; rfl
  · have HCR := HC
    rw [g2, if_pos rfl, HSQ.out] at HCR
    clear g2 HC HSQ
    cases hh : hasN l dir with
    | false =>
      rw [hh, if_neg (by decide)] at HCR
      rw [hh, if_neg (by decide)] at HGT
      clear hh
      go_wp2_with (go_at_call 19; refine (HGT.out _ (HV.out.below (by repeat (first | with_reducible exact Below.refl _ _ | with_reducible assumption | with_reducible exact below_d1 _ _ _ _ _ | with_reducible exact below_d2 _ _ _ _ _ _ _ _ | with_reducible exact below_d3 _ _ _ _ _ | with_reducible exact below_d4 _ _ _ _ _ _ _ _ | with_reducible exact below_d5 _ _ | with_reducible refine Below.drew ?_ | with_reducible refine Below.drewN' ?_ _ | with_reducible refine below_grow0 _ _ ?_ | with_reducible refine below_alloc0 _ ?_ | with_reducible refine Below.setCell ?_ ?_ _ | with_reducible refine Below.alloc ?_ ?_ _ | with_reducible refine Below.grow _ _ _ ?_ ?_ | omega | (simp; done) | (simp; omega))))).mono ?_; rintro e w1 ⟨rfl, hb⟩; obtain ⟨ext3, d3, rfl⟩ := Below.grown_eq _ hb; clear hb)
      refine bodyPost_ret (v := .int .i64 7) (by simp [results, Tryd.results53, go_sem]) rfl ?_
      unfold CreIs
      rw [HCR.out]
      refine ⟨rfl, ?_, rp, rd, 0, HB.out.below (by repeat (first | with_reducible exact Below.refl _ _ | with_reducible assumption | with_reducible exact below_d1 _ _ _ _ _ | with_reducible exact below_d2 _ _ _ _ _ _ _ _ | with_reducible exact below_d3 _ _ _ _ _ | with_reducible exact below_d4 _ _ _ _ _ _ _ _ | with_reducible exact below_d5 _ _ | with_reducible refine Below.drew ?_ | with_reducible refine Below.drewN' ?_ _ | with_reducible refine below_grow0 _ _ ?_ | with_reducible refine below_alloc0 _ ?_ | with_reducible refine Below.setCell ?_ ?_ _ | with_reducible refine Below.alloc ?_ ?_ _ | with_reducible refine Below.grow _ _ _ ?_ ?_ | omega | (simp; done) | (simp; omega))), fun e => absurd e (by decide)⟩
      exact hbwb.trans (Below.mono (show Below wb.heap.size wb _ from (by repeat (first | with_reducible exact Below.refl _ _ | with_reducible assumption | with_reducible exact below_d1 _ _ _ _ _ | with_reducible exact below_d2 _ _ _ _ _ _ _ _ | with_reducible exact below_d3 _ _ _ _ _ | with_reducible exact below_d4 _ _ _ _ _ _ _ _ | with_reducible exact below_d5 _ _ | with_reducible refine Below.drew ?_ | with_reducible refine Below.drewN' ?_ _ | with_reducible refine below_grow0 _ _ ?_ | with_reducible refine below_alloc0 _ ?_ | with_reducible refine Below.setCell ?_ ?_ _ | with_reducible refine Below.alloc ?_ ?_ _ | with_reducible refine Below.grow _ _ _ ?_ ?_ | omega | (simp; done) | (simp; omega)))) (by omega))
    | true =>
      rw [hh, if_pos rfl] at HCR
      rw [hh, if_pos rfl] at HGT
      clear hh
      generalize getN l dir = n at *
      obtain ⟨np, nd, n1, n2, n3, n4, n5, n6, n7⟩ := n
      simp only at HCR HGT
      have HSE := Lib.hid (fun (W : World) => trSerial st n5 W (by omega))
      have hs1 := serR_size st n5
      generalize serR st n5 = sr at *
      obtain ⟨s1, s2⟩ := sr
      simp only at HCR HSE hs1
      by_cases hs2 : s2 = 0
      · subst hs2
        rw [if_neg (fun e => e rfl)] at HCR
        have HJN := Lib.hid (fun (W : World) => join_any dir s1 W (by omega) (by omega))
        generalize joinR dir s1 = jr at *
        obtain ⟨j1, j2⟩ := jr
        simp only at HJN
        have b3 : wb.cell? ⟨bx, 3, none⟩ = some (.string rp) := HB.out.cell 3
        have f3 : wb.frozen? ⟨bx, 3, none⟩ = false := HB.out.frozen 3
        go_upto_region 17 with (first | (go_at_call 19; refine (HGT.out _ (HV.out.below (by repeat (first | with_reducible exact Below.refl _ _ | with_reducible assumption | with_reducible exact below_d1 _ _ _ _ _ | with_reducible exact below_d2 _ _ _ _ _ _ _ _ | with_reducible exact below_d3 _ _ _ _ _ | with_reducible exact below_d4 _ _ _ _ _ _ _ _ | with_reducible exact below_d5 _ _ | with_reducible refine Below.drew ?_ | with_reducible refine Below.drewN' ?_ _ | with_reducible refine below_grow0 _ _ ?_ | with_reducible refine below_alloc0 _ ?_ | with_reducible refine Below.setCell ?_ ?_ _ | with_reducible refine Below.alloc ?_ ?_ _ | with_reducible refine Below.grow _ _ _ ?_ ?_ | omega | (simp; done) | (simp; omega))))).mono ?_; rintro e w1 ⟨rfl, hb⟩; obtain ⟨ext3, d3, rfl⟩ := Below.grown_eq _ hb; clear hb) | (go_at_call 74; refine (HSE.out _).mono ?_; rintro e w1 ⟨rfl, hb⟩; obtain ⟨ext4, d4, rfl⟩ := Below.grown_eq _ hb; clear hb) | (go_at_call 18; refine (HJN.out _).mono ?_; rintro e w1 ⟨rfl, hb⟩; obtain ⟨ext5, d5, rfl⟩ := Below.grown_eq _ hb; clear hb))
        refine gen_w (fun wc hwc => ?_)
        have hP9 : Below (wb.setCell ⟨bx, 3, none⟩ (.string j1)).heap.size (wb.setCell ⟨bx, 3, none⟩ (.string j1)) wc := by rw [hwc.out]; exact (by repeat (first | with_reducible exact Below.refl _ _ | with_reducible assumption | with_reducible exact below_d1 _ _ _ _ _ | with_reducible exact below_d2 _ _ _ _ _ _ _ _ | with_reducible exact below_d3 _ _ _ _ _ | with_reducible exact below_d4 _ _ _ _ _ _ _ _ | with_reducible exact below_d5 _ _ | with_reducible refine Below.drew ?_ | with_reducible refine Below.drewN' ?_ _ | with_reducible refine below_grow0 _ _ ?_ | with_reducible refine below_alloc0 _ ?_ | with_reducible refine Below.setCell ?_ ?_ _ | with_reducible refine Below.alloc ?_ ?_ _ | with_reducible refine Below.grow _ _ _ ?_ ?_ | omega | (simp; done) | (simp; omega)))
        have hbc : Below bx wb wc := (Below.set_up (Below.refl bx wb) (Nat.le_refl _)).trans (hP9.mono (by simp <;> omega))
        have HP3 := Lib.hid (show Bk (wb.setCell ⟨bx, 3, none⟩ (.string j1)) bx [.int .i64 zx, .int .i64 op, .int .i64 s, .string j1, .string rd, .int .i64 0, .int .i64 0] 49 from HB.out.put 3 (.string j1))
        have HB4 := Lib.hid (show Bk wc bx [.int .i64 zx, .int .i64 op, .int .i64 s, .string j1, .string rd, .int .i64 0, .int .i64 0] 49 from hwc.out ▸ (HP3.out.below (by repeat (first | with_reducible exact Below.refl _ _ | with_reducible assumption | with_reducible exact below_d1 _ _ _ _ _ | with_reducible exact below_d2 _ _ _ _ _ _ _ _ | with_reducible exact below_d3 _ _ _ _ _ | with_reducible exact below_d4 _ _ _ _ _ _ _ _ | with_reducible exact below_d5 _ _ | with_reducible refine Below.drew ?_ | with_reducible refine Below.drewN' ?_ _ | with_reducible refine below_grow0 _ _ ?_ | with_reducible refine below_alloc0 _ ?_ | with_reducible refine Below.setCell ?_ ?_ _ | with_reducible refine Below.alloc ?_ ?_ _ | with_reducible refine Below.grow _ _ _ ?_ ?_ | omega | (simp; done) | (simp; omega)))))
        have r1' : wc.cell? ⟨w.heap.size + 1, 1, none⟩ = some (.int .i64 rs) := by rw [hwc.out]; go_simp
        have r5' : wc.cell? ⟨w.heap.size + 1, 5, none⟩ = some (.int .i64 rf) := by rw [hwc.out]; go_simp
        have hbwc : Below bx w wc := hbwb.trans hbc
        have hwc1 : w.heap.size + 1 < wc.heap.size := Nat.lt_of_lt_of_le hwb1 hbc.size
        clear hwc HP3 hP9 hbwb HB r1 r5 t0 t1 t2 b6 f6 b3 f3 hbx2 HGT HSE HJN hbc hwb1
        have hbwb := hbwc
        have HB := HB4
        have b6 : wc.cell? ⟨bx, 6, none⟩ = some (.int .i64 0) := HB.out.cell 6
        have f6 : wc.frozen? ⟨bx, 6, none⟩ = false := HB.out.frozen 6
        have hbx2 : bx < wc.heap.size := HB.out.lt
        clear HB4 hbwc
        by_cases hj : j2 = 0
        · subst hj
          rcases HBT.out.2 with ⟨a1, g1⟩ | ⟨a1, g1⟩
          · have HG1 := Lib.hid g1
            clear g1
            go_wp2_with fail
            refine bodyPost_ret (v := .int .i64 0) (by simp [results, Tryd.results53, go_sem]) rfl ?_
            unfold CreIs
            rw [HCR.out]
            refine ⟨rfl, ?_, j1, rd, 0, ?_, fun _ => ⟨rfl, rfl, ?_⟩⟩
            · exact hbwb
            · exact HB.out
            · simp only; rw [HG1.out]; rfl
          · have HG1 := Lib.hid g1
            clear g1
            go_wp2_with fail
            refine bodyPost_ret (v := .int .i64 0) (by simp [results, Tryd.results53, go_sem]) rfl ?_
            unfold CreIs
            rw [HCR.out]
            refine ⟨rfl, ?_, j1, rd, rs, ?_, fun _ => ⟨rfl, rfl, ?_⟩⟩
            · exact Below.set_up hbwb (Nat.le_refl _)
            · exact HB.out.put 6 (.int .i64 rs)
            · simp only; rw [HG1.out]; rfl
        · have b2 : (j2 == 0) = false := beq_eq_false_iff_ne.2 hj
          have b3 : (j2 != 0) = true := bne_iff_ne.2 hj
          have HN2 := Lib.hid hj
          clear hj
          go_wp2_with fail
          refine bodyPost_ret (v := .int .i64 j2) (by simp [results, Tryd.results53, go_sem]) rfl ?_
          unfold CreIs
          rw [HCR.out]
          exact ⟨rfl, hbwb, j1, rd, 0, HB.out, fun e => absurd e HN2.out⟩
      · rw [if_pos hs2] at HCR
        have b2 : (s2 == 0) = false := beq_eq_false_iff_ne.2 hs2
        have b3 : (s2 != 0) = true := bne_iff_ne.2 hs2
        have HN2 := Lib.hid hs2
        clear hs2
        go_wp2_with (first | (go_at_call 19; refine (HGT.out _ (HV.out.below (by repeat (first | with_reducible exact Below.refl _ _ | with_reducible assumption | with_reducible exact below_d1 _ _ _ _ _ | with_reducible exact below_d2 _ _ _ _ _ _ _ _ | with_reducible exact below_d3 _ _ _ _ _ | with_reducible exact below_d4 _ _ _ _ _ _ _ _ | with_reducible exact below_d5 _ _ | with_reducible refine Below.drew ?_ | with_reducible refine Below.drewN' ?_ _ | with_reducible refine below_grow0 _ _ ?_ | with_reducible refine below_alloc0 _ ?_ | with_reducible refine Below.setCell ?_ ?_ _ | with_reducible refine Below.alloc ?_ ?_ _ | with_reducible refine Below.grow _ _ _ ?_ ?_ | omega | (simp; done) | (simp; omega))))).mono ?_; rintro e w1 ⟨rfl, hb⟩; obtain ⟨ext3, d3, rfl⟩ := Below.grown_eq _ hb; clear hb) | (go_at_call 74; refine (HSE.out _).mono ?_; rintro e w1 ⟨rfl, hb⟩; obtain ⟨ext4, d4, rfl⟩ := Below.grown_eq _ hb; clear hb))
        refine bodyPost_ret (v := .int .i64 s2) (by simp [results, Tryd.results53, go_sem]) rfl ?_
        unfold CreIs
        rw [HCR.out]
        refine ⟨rfl, ?_, rp, rd, 0, HB.out.below (by repeat (first | with_reducible exact Below.refl _ _ | with_reducible assumption | with_reducible exact below_d1 _ _ _ _ _ | with_reducible exact below_d2 _ _ _ _ _ _ _ _ | with_reducible exact below_d3 _ _ _ _ _ | with_reducible exact below_d4 _ _ _ _ _ _ _ _ | with_reducible exact below_d5 _ _ | with_reducible refine Below.drew ?_ | with_reducible refine Below.drewN' ?_ _ | with_reducible refine below_grow0 _ _ ?_ | with_reducible refine below_alloc0 _ ?_ | with_reducible refine Below.setCell ?_ ?_ _ | with_reducible refine Below.alloc ?_ ?_ _ | with_reducible refine Below.grow _ _ _ ?_ ?_ | omega | (simp; done) | (simp; omega))), fun e => absurd e HN2.out⟩
        exact hbwb.trans (Below.mono (show Below wb.heap.size wb _ from (by repeat (first | with_reducible exact Below.refl _ _ | with_reducible assumption | with_reducible exact below_d1 _ _ _ _ _ | with_reducible exact below_d2 _ _ _ _ _ _ _ _ | with_reducible exact below_d3 _ _ _ _ _ | with_reducible exact below_d4 _ _ _ _ _ _ _ _ | with_reducible exact below_d5 _ _ | with_reducible refine Below.drew ?_ | with_reducible refine Below.drewN' ?_ _ | with_reducible refine below_grow0 _ _ ?_ | with_reducible refine below_alloc0 _ ?_ | with_reducible refine Below.setCell ?_ ?_ _ | with_reducible refine Below.alloc ?_ ?_ _ | with_reducible refine Below.grow _ _ _ ?_ ?_ | omega | (simp; done) | (simp; omega)))) (by omega))
theorem trCreate (z : Int) (v v2 : Value) (l : List Node) (ss : List Int) (r : Request) (zx op s : Int) (bx : Nat) (w0 w : World) (h : Sl cNode 9 w0 v l) (h2 : Sl cInt 1 w0 v2 ss) (hB : Below w0.heap.size w0 w) (hbx : w0.heap.size ≤ bx)
    (hk : Bk w bx [.int .i64 zx, .int .i64 op, .int .i64 s, .string ⟨#[]⟩, .string ⟨#[]⟩, .int .i64 0, .int .i64 0] 49) (hn : l.length ≤ 140737488355328) (hn2 : ss.length * 8 ≤ 140737488355328) (hp : r.path.size ≤ 9223372036854775807) :
    Calls Tryd.prog 53 #[.agg #[.int .i64 z, v, v2], .pointer (some ⟨bx, 0, none⟩), reqV r] w (CreIs ⟨z, l, ss⟩ r zx op s bx w) := by
  by_cases h1 : r.flags < 0 ∨ 3 < r.flags
  · exact trCreate_no z v v2 l ss r zx op s bx w0 w h h2 hB hk hn2 hp (.inl h1)
  by_cases h3 : (splitR r.path).2.2 = 0
  · cases h4 : isI ss r.session with
    | false => exact trCreate_no z v v2 l ss r zx op s bx w0 w h h2 hB hk hn2 hp (.inr (.inr h4))
    | true => exact trCreate_yes z v v2 l ss r zx op s bx w0 w h h2 hB hbx hk hn hn2 hp h1 h3 h4
  · exact trCreate_no z v v2 l ss r zx op s bx w0 w h h2 hB hk hn2 hp (.inr (.inl h3))
end Go.Proofs.YteolglmifimnaaaDoor
