/- The law RecipeQueue is true for every input; no conditions. -/
import Derived.Test.YteolglmifimnaaaDoorCards
import Derived.Test.YteolglmifimnaaaDoorTie
import Derived.Lay
import Derived.LaidMore
import Derived.SevenTiedAt
import Derived.Test.YteolglmifimnaaaDoorPt1
import Derived.Test.YteolglmifimnaaaDoorPt2
import Derived.Test.YteolglmifimnaaaDoorPt3
import Derived.Test.YteolglmifimnaaaDoorPt4
import Derived.Test.YteolglmifimnaaaDoorPt5
import Derived.Test.YteolglmifimnaaaDoorPt6
import Derived.Test.YteolglmifimnaaaDoorPt7
import Derived.Test.YteolglmifimnaaaDoorPt8
import Derived.Test.YteolglmifimnaaaDoorPt9
import Derived.Test.YteolglmifimnaaaDoorPt10
import Derived.Test.YteolglmifimnaaaDoorPt11
import Derived.Test.YteolglmifimnaaaDoorPt12
namespace Go.Proofs.YteolglmifimnaaaDoor
open Go.RowKit Go.ChangeShapes Go.WideShapes Go.ChangeAt
theorem Qu.holder {T : Tr} {z : Int} {k : Nat} (h : Qu T z k) : holdE T lP qN = 0 ∧ (∀ (_ : ownL T.nodes = []), holdO T lP (lineL T lP qN) = (0, 0)) ∧ ∀ n r, ownL T.nodes = n :: r → holdO T lP (lineL T lP qN) = (n.owner, n.czxid) := by
  obtain ⟨h1, h2⟩ := h.line
  unfold holdE
  rw [if_pos h1, h2]
  cases hO : ownL T.nodes with
  | nil => exact ⟨rfl, fun _ => rfl, fun n r e => by cases e⟩
  | cons n r =>
    obtain ⟨j1, j2, j3⟩ := h.first (n := n) (by rw [hO]; simp)
    simp only [List.map_cons]
    refine ⟨?_, fun e => (by cases e), fun n' r' e => ?_⟩
    · rw [j1]
      unfold getE
      rw [if_pos j2]
    · injection e with e1 e2
      subst e1
      show ((getN T.nodes (joinR lP (splitR n.path).2.1).1).owner, (getN T.nodes (joinR lP (splitR n.path).2.1).1).czxid) = (n.owner, n.czxid)
      rw [j1, j3]
theorem LoopQ.relast {wr : World} {B bz bt k : Nat} {zv lst : Int} {T : Tr} {A1 : Option Addr} {c1 : Nat} {A2 : Option Addr} {c2 : Nat} {Al : Option Addr} {cl : Nat} {n : Node} {r : List Node} (h : LoopQ wr B bz bt k zv lst T A1 c1 A2 c2 Al cl) (hO : ownL T.nodes = n :: r) : LoopQ wr B bz bt k zv n.czxid T A1 c1 A2 c2 Al cl := by
  refine ⟨h.qu, ⟨h.qu.le n (by rw [hO]; simp), fun m hm => ?_⟩, h.bx, h.row, h.lz, h.lt, h.dn, h.ds⟩
  have hc := h.qu.cz
  rw [hO] at hc hm
  rw [List.pairwise_cons] at hc
  rcases List.mem_cons.1 hm with rfl | hm
  · exact Int.le_refl _
  · exact hc.1 m hm
theorem filter_takeG {α : Type} {l : List α} {k : Nat} {x : α} (h : l[k]? = some x) (f : α → Bool) : (l.take (k + 1)).filter f = (l.take k).filter f ++ (if f x then [x] else []) := by
  rw [List.take_add_one, h, List.filter_append, Option.toList_some]
  cases hx : f x with
  | true => rw [if_pos rfl, List.filter_cons_of_pos hx]; rfl
  | false => rw [if_neg (by simp), List.filter_cons_of_neg (by simp [hx])]; rfl
set_option maxRecDepth 100000 in
set_option maxHeartbeats 4000000 in
theorem recipeQueue_ok (v : Value) (L : List Int) (w : World) (h : Sl cInt 1 w v L) (hL : ∀ x ∈ L, -9223372036854775808 ≤ x ∧ x ≤ 9223372036854775807) :
    Calls Tryd.prog 12 #[v] w fun e w' => e = .returned (.bool true) ∧ Below w.heap.size w w' := by
  obtain ⟨A, c, rfl, h1, h1b⟩ := h.form
  have HV := Lib.hid h
  have HLB := Lib.hid hL
  clear h hL
  have HFN := Lib.hid (fun (W : World) => fences_is W)
  go_enter Tryd.func12, Tryd.ntmps12
  go_upto_region 7 with (first | (go_at_call 14; refine (HFN.out _).mono ?_; rintro e w1 ⟨rfl, rfl⟩; skip) | (go_at_call 28; go_loud (refine (treeNew _).mono ?_; rintro e w1 ⟨A1, cA, rfl, ho, hb⟩; obtain ⟨ext1, d1, rfl⟩ := Below.grown_eq _ hb; have HO1 := Lib.hid ho; clear ho hb)))
  refine gen_w (fun wa hwa => ?_)
  have hbwa : Below w.heap.size w wa := by rw [hwa.out]; exact (by repeat (first | with_reducible exact Below.refl _ _ | with_reducible assumption | with_reducible exact below_d1 _ _ _ _ _ | with_reducible exact below_d2 _ _ _ _ _ _ _ _ | with_reducible exact below_d3 _ _ _ _ _ | with_reducible exact below_d4 _ _ _ _ _ _ _ _ | with_reducible exact below_d5 _ _ | with_reducible refine Below.drew ?_ | with_reducible refine Below.drewN' ?_ _ | with_reducible refine below_grow0 _ _ ?_ | with_reducible refine below_alloc0 _ ?_ | with_reducible refine Below.setCell ?_ ?_ _ | with_reducible refine Below.alloc ?_ ?_ _ | with_reducible refine Below.grow _ _ _ ?_ ?_ | omega | (simp; done) | (simp; omega)))
  have hbz1 : w.heap.size ≤ w.heap.size + ext1.size + 1 := by omega
  have hbt1 : w.heap.size ≤ w.heap.size + ext1.size := by omega
  have hbzt : w.heap.size + ext1.size + 1 ≠ w.heap.size + ext1.size := by omega
  have HB := Lib.hid (show Boxed wa w.heap.size (w.heap.size + ext1.size + 1) (w.heap.size + ext1.size) 0 (opT 0) A1 cA none 0 from by
    have hne : ∀ q, w.heap.size + ext1.size ≤ q → (Value.slice A1 1 cA).ownBlock ≠ some q := by
      intro q hq e
      have h9 := HO1.out.lt _ e
      simp at h9
      omega
    refine ⟨?_, ?_, ?_, Ow.nil _ _ _ _ _, hne _ (by omega), hne _ (by omega), by simp [Value.ownBlock], by simp [Value.ownBlock]⟩
    · rw [hwa.out]; exact Bk.new _ _ _ (by simp)
    · show Bk wa _ [.int .i64 0, .slice A1 1 cA, .slice none 0 0] 25
      rw [hwa.out]; exact (Bk.new (grow w ext1 d1) _ _ (by simp)).below (by repeat (first | with_reducible exact Below.refl _ _ | with_reducible assumption | with_reducible exact below_d1 _ _ _ _ _ | with_reducible exact below_d2 _ _ _ _ _ _ _ _ | with_reducible exact below_d3 _ _ _ _ _ | with_reducible exact below_d4 _ _ _ _ _ _ _ _ | with_reducible exact below_d5 _ _ | with_reducible refine Below.drew ?_ | with_reducible refine Below.drewN' ?_ _ | with_reducible refine below_grow0 _ _ ?_ | with_reducible refine below_alloc0 _ ?_ | with_reducible refine Below.setCell ?_ ?_ _ | with_reducible refine Below.alloc ?_ ?_ _ | with_reducible refine Below.grow _ _ _ ?_ ?_ | omega | (simp; done) | (simp; omega)))
    · rw [hwa.out]; exact HO1.out.below (by repeat (first | with_reducible exact Below.refl _ _ | with_reducible assumption | with_reducible exact below_d1 _ _ _ _ _ | with_reducible exact below_d2 _ _ _ _ _ _ _ _ | with_reducible exact below_d3 _ _ _ _ _ | with_reducible exact below_d4 _ _ _ _ _ _ _ _ | with_reducible exact below_d5 _ _ | with_reducible refine Below.drew ?_ | with_reducible refine Below.drewN' ?_ _ | with_reducible refine below_grow0 _ _ ?_ | with_reducible refine below_alloc0 _ ?_ | with_reducible refine Below.setCell ?_ ?_ _ | with_reducible refine Below.alloc ?_ ?_ _ | with_reducible refine Below.grow _ _ _ ?_ ?_ | omega | (simp; done) | (simp; omega))))
  generalize w.heap.size + ext1.size + 1 = bz at *
  generalize w.heap.size + ext1.size = bt at *
  clear hwa HO1 HFN
  have hww := hbwa.size
  go_wp2_with fail
  go_loopw [7] (fun i wr => ∃ (n : Nat) (A1 : Option Addr) (c1 : Nat) (A2 : Option Addr) (c2 : Nat), n ≤ 5 ∧ i = .int .i64 (n + 1) ∧ Below w.heap.size w wr ∧ Hid (Boxed wr w.heap.size bz bt n (opT n) A1 c1 A2 c2)) (fun i _ => 6 - (intOf i).toNat)
  case atStart => exact ⟨0, A1, cA, none, 0, by omega, rfl, hbwa, HB⟩
  case round =>
    obtain ⟨n, B1, c1, B2, c2, hn, rfl, hbwr, HBr⟩ := hrel
    clear HB
    have hwr := hbwr.size
    by_cases hn5 : n < 5
    · obtain ⟨e1, e2⟩ := opT_step hn5
      have HDO := Lib.hid (trDo (opT n) n (opQ (n + 1)) w.heap.size bz bt B1 c1 B2 c2 wr HBr.out hbzt (by omega) (root_good (by unfold Zx; omega) (List.Pairwise.sublist (List.take_sublist _ _) (by decide)) (fun s hs => by have := List.mem_of_mem_take hs; unfold five at this; simp at this; omega)) (by show (five.take n).length ≤ 5; rw [List.length_take]; omega) (by show (ByteArray.mk #[]).size ≤ 100; decide) e1 hwr)
      rw [e2] at HDO
      unfold opQ at HDO
      clear e1 e2
      have hdl : decide ((n : Int) + 1 ≤ 5) = true := decide_eq_true (by omega)
      go_wp2_with (go_at_call 34; (with_reducible refine (HDO.out).mono ?_); rintro e w3 ⟨rfl, hch, B3, c3, B4, c4, hbx, _, _⟩; have HCH := Lib.hid hch; have HBX := Lib.hid hbx; clear hch hbx)
      have hbw3 : Below w.heap.size w w3 := HCH.out.below hbwr hwr hbz1 hbt1
      go_roundw
      case rel => exact ⟨n + 1, B3, c3, B4, c4, by omega, by go_num, hbw3, HBX⟩
      case measure => simp [intOf]; omega
    · obtain rfl : n = 5 := by omega
      have hst := start_q
      have HDO := Lib.hid (trDo (opT 5) 5 makeL w.heap.size bz bt B1 c1 B2 c2 wr HBr.out hbzt (by omega) (root_good (by unfold Zx; decide) (by decide) (by intro s hs; simp [five] at hs; omega)) (by decide) (by decide) hst.1 hwr)
      obtain ⟨T0, hT0⟩ : ∃ T0, T0 = applyT (opT 5) (prepX (opT 5) 6 makeL) := ⟨_, rfl⟩
      rw [show ((5 : Int) + 1) = 6 from rfl, ← hT0] at HDO
      have hq0 := hst.2.1
      have ho0 := hst.2.2
      rw [← hT0] at hq0 ho0
      unfold makeL lP at HDO
      have HQ0 := Lib.hid hq0
      clear hst hT0 hq0
      go_upto_region 14 with (go_at_call 34; (with_reducible refine (HDO.out).mono ?_); rintro e w3 ⟨rfl, hch, B3, c3, B4, c4, hbx, _, _⟩; have HCH := Lib.hid hch; have HBX := Lib.hid hbx; clear hch hbx)
      have hbw3 : Below w.heap.size w w3 := HCH.out.below hbwr hwr hbz1 hbt1
      clear HDO HBr HCH hbwr hwr
      have hw3 := hbw3.size
      have HLQ0 := Lib.hid (show LoopQ w3 w.heap.size bz bt 0 6 0 T0 B3 c3 B4 c4 none 0 from by
        have hz : (ownL T0.nodes).length = 0 := by rw [ho0]; rfl
        refine ⟨HQ0.out, ⟨by decide, fun n hn => by rw [ho0] at hn; cases hn⟩, HBX.out, ?_, ?_, ?_, fun q hq => ?_, fun q hq => ?_⟩
        · rw [ho0]; exact Ow.nil _ _ _ _ _
        · simp [Value.ownBlock]
        · simp [Value.ownBlock]
        · simp [Value.ownBlock] at hq
        · simp [Value.ownBlock] at hq)
      have HO0 := Lib.hid (show (ownL T0.nodes).length = 0 by rw [ho0]; rfl)
      clear HBX HQ0 ho0
      go_wp2_with fail
      go_loopw [5, 8, 9, 10] (fun s5 s8 s9 i wr => ∃ (k : Nat) (zv lst : Int) (T : Tr) (A1 : Option Addr) (c1 : Nat) (A2 : Option Addr) (c2 : Nat) (Al : Option Addr) (cl : Nat), s5 = .int .i64 0 ∧ s8 = .slice Al (ownL T.nodes).length cl ∧ s9 = .int .i64 lst ∧ i = .int .i64 k ∧ k ≤ L.length ∧ k ≤ 60 ∧ Below w.heap.size w wr ∧ Hid (LoopQ wr w.heap.size bz bt k zv lst T A1 c1 A2 c2 Al cl)) (fun _ _ _ i _ => L.length - (intOf i).toNat)
      case atStart => exact ⟨0, 6, 0, T0, B3, c3, B4, c4, none, 0, rfl, by rw [HO0.out], rfl, rfl, Nat.zero_le _, by omega, hbw3, HLQ0⟩
      case round =>
        obtain ⟨k, zv, lst, T, D1, e1, D2, e2, Al, cl, rfl, rfl, rfl, rfl, hk, hk6, hbwr, HLQ⟩ := hrel
        clear HLQ0 HO0
        have hwr := hbwr.size
        by_cases hlt : k < L.length ∧ k < 60
        · obtain ⟨hlt1, hlt2⟩ := hlt
          have hx : L[k]? = some (L[k]'hlt1) := List.getElem?_eq_getElem _
          have hxb := HLB.out _ (List.mem_of_getElem? hx)
          obtain ⟨bk, off, y, rfl, hbk, hy, x0⟩ := (HV.out.below hbwr).int_at k hlt1
          rw [hx] at hy
          injection hy with hy
          rw [← hy] at x0
          generalize L[k]'hlt1 = g at *
          have HP1 : Hid (∀ W : World, Calls Tryd.prog 32 #[.int .i64 g, .int .i64 5] W fun e w' => e = .returned (.int .i64 (pickV g 5)) ∧ W = w') := Lib.hid (fun (W : World) => pick_eq g 5 W (by omega) (by omega))
          have HP2 : Hid (∀ W : World, Calls Tryd.prog 32 #[.int .i64 (g.tdiv 5), .int .i64 4] W fun e w' => e = .returned (.int .i64 (pickV (g.tdiv 5) 4)) ∧ W = w') := Lib.hid (fun (W : World) => pick_eq (g.tdiv 5) 4 W (by omega) (by omega))
          have hr1 := pickV_range g (n := 5) (by omega)
          have hr2 := pickV_range (g.tdiv 5) (n := 4) (by omega)
          generalize pickV g 5 = s0 at *
          generalize pickV (g.tdiv 5) 4 = q0 at *
          obtain ⟨s, hs⟩ : ∃ s : Int, s = 1 + s0 := ⟨_, rfl⟩
          have hs5 : 1 ≤ s ∧ s ≤ 5 := by omega
          have hdk : decide ((k : Int) < 60) = true := decide_eq_true (by omega)
          clear hx hy
          go_upto_if 59 with (go_at_call 32; first | (with_reducible refine (HP1.out _).mono ?_; rintro e w1 ⟨rfl, rfl⟩) | (with_reducible refine (HP2.out _).mono ?_; rintro e w1 ⟨rfl, rfl⟩))
          have hsw : 1 + s0 = s := hs.symm
          rw [hsw]
          clear hs hsw
          go_cut [8, 12, 13] from 37 to 149 (fun s8 s12 s13 wx => ∃ (zv' : Int) (T' : Tr) (A1 : Option Addr) (c1 : Nat) (A2 : Option Addr) (c2 : Nat) (Al' : Option Addr) (cl' : Nat), s8 = .slice Al' (ownL T'.nodes).length cl' ∧ Below w.heap.size w wx ∧ Hid (LoopQ wx w.heap.size bz bt (k + 1) zv' lst T' A1 c1 A2 c2 Al' cl'))
          case first =>
            have hzr := HLQ.out.qu.zr
            have hss : T.sess.length ≤ 5 := by rw [HLQ.out.qu.sess]; decide
            have hll : (ownL T.nodes).length ≤ 200 := by have := HLQ.out.qu.cv; omega
            by_cases hq0 : 0 < q0
            · have hdq : decide (0 < q0) = true := decide_eq_true hq0
              obtain ⟨a1, a2, x, a3, a4, a5⟩ := HLQ.out.qu.ask hlt2 hs5
              have HDO := Lib.hid (fun (W : World) (hb : Boxed W w.heap.size bz bt zv T D1 e1 D2 e2) (hsz : w.heap.size ≤ W.heap.size) => trDo T zv (askQ s) w.heap.size bz bt D1 e1 D2 e2 W hb hbzt (by omega) HLQ.out.qu.good hss (by show (4 : Nat) ≤ 100; omega) a1 hsz)
              obtain ⟨T', hT'⟩ : ∃ T', T' = applyT T (prepX T (zv + 1) (askQ s)) := ⟨_, rfl⟩
              rw [← hT'] at HDO a2 a5
              have HQ2 := Lib.hid a2
              have HX5 := Lib.hid a5
              have HAK := Lib.hid (fun (W : World) => trAsk s W)
              unfold lP qN at HAK
              clear hT' a1 a2 a5 HP1 HP2
              go_upto_region 23 with (first | (go_at_call 35; go_loud (refine (HAK.out _).mono ?_; rintro e w1 ⟨rfl, hb⟩; have HB1 := Lib.hid hb; obtain ⟨ext1, d1, rfl⟩ := Below.grown_eq _ hb; clear hb)) | (go_at_call 34; (refine (HDO.out _ (HLQ.out.bx.below (by repeat (first | with_reducible exact Below.refl _ _ | with_reducible assumption | with_reducible exact below_d1 _ _ _ _ _ | with_reducible exact below_d2 _ _ _ _ _ _ _ _ | with_reducible exact below_d3 _ _ _ _ _ | with_reducible exact below_d4 _ _ _ _ _ _ _ _ | with_reducible exact below_d5 _ _ | with_reducible refine Below.drew ?_ | with_reducible refine Below.drewN' ?_ _ | with_reducible refine below_grow0 _ _ ?_ | with_reducible refine below_alloc0 _ ?_ | with_reducible refine Below.setCell ?_ ?_ _ | with_reducible refine Below.alloc ?_ ?_ _ | with_reducible refine Below.grow _ _ _ ?_ ?_ | omega | (simp; done) | (simp; omega)))) (by simp <;> omega)).mono ?_); rintro e w3 ⟨rfl, hch, B3, c3, B4, c4, hbx, hf1, hf2⟩; have HCH := Lib.hid hch; have HBX := Lib.hid hbx; have HF1 := Lib.hid hf1; have HF2 := Lib.hid hf2; clear hch hbx hf1 hf2))
              have HR3 := Lib.hid (HCH.out.ow (HLQ.out.row.below (by repeat (first | with_reducible exact Below.refl _ _ | with_reducible assumption | with_reducible exact below_d1 _ _ _ _ _ | with_reducible exact below_d2 _ _ _ _ _ _ _ _ | with_reducible exact below_d3 _ _ _ _ _ | with_reducible exact below_d4 _ _ _ _ _ _ _ _ | with_reducible exact below_d5 _ _ | with_reducible refine Below.drew ?_ | with_reducible refine Below.drewN' ?_ _ | with_reducible refine below_grow0 _ _ ?_ | with_reducible refine below_alloc0 _ ?_ | with_reducible refine Below.setCell ?_ ?_ _ | with_reducible refine Below.alloc ?_ ?_ _ | with_reducible refine Below.grow _ _ _ ?_ ?_ | omega | (simp; done) | (simp; omega)))) HLQ.out.lz HLQ.out.lt)
              have hw3b : Below w.heap.size w w3 := HCH.out.below (hbwr.trans (HB1.out.mono hwr)) (by simp; omega) hbz1 hbt1
              have hw3s := hw3b.size
              have hml : ((ownL T.nodes).map Node.owner).length ≤ 200 := by rw [List.length_map]; exact hll
              go_wp2_with (at_builtin; refine wpList_app _ rfl (.tmp 65) (.tmp 67) _ rfl elInt (B := w.heap.size) (l := (ownL T.nodes).map Node.owner) (m := [s]) rfl rfl (HR3.out.below (by repeat (first | with_reducible exact Below.refl _ _ | with_reducible assumption | with_reducible exact below_d1 _ _ _ _ _ | with_reducible exact below_d2 _ _ _ _ _ _ _ _ | with_reducible exact below_d3 _ _ _ _ _ | with_reducible exact below_d4 _ _ _ _ _ _ _ _ | with_reducible exact below_d5 _ _ | with_reducible refine Below.drew ?_ | with_reducible refine Below.drewN' ?_ _ | with_reducible refine below_grow0 _ _ ?_ | with_reducible refine below_alloc0 _ ?_ | with_reducible refine Below.setCell ?_ ?_ _ | with_reducible refine Below.alloc ?_ ?_ _ | with_reducible refine Below.grow _ _ _ ?_ ?_ | omega | (simp; done) | (simp; omega)))) (Sl.one_at cInt 1 _ _ _ rfl _ rfl (by omega) (by simp)) cInt_one (by simp [maxLen]; omega) (by simp; omega) (by simp <;> omega) ?_; intro v2 w2 hown2 hg2 hat2; obtain ⟨A2', c2', rfl, _⟩ := hown2.form; have HO2 := Lib.hid hown2; have HG2 : Hid (World.grownBy _ w2 (Value.slice Al (ownL T.nodes).length cl).ownBlock) := Lib.hid hg2; have HA2 := Lib.hid hat2; clear hown2 hg2 hat2)
              go_meet
              refine ⟨zv + 1, T', B3, c3, B4, c4, A2', c2', by rw [HX5.out]; simp, ?_, Lib.hid (LoopQ.ask_step (x := x) HLQ.out (X1 := grow wr ext1 d1) (by repeat (first | with_reducible exact Below.refl _ _ | with_reducible assumption | with_reducible exact below_d1 _ _ _ _ _ | with_reducible exact below_d2 _ _ _ _ _ _ _ _ | with_reducible exact below_d3 _ _ _ _ _ | with_reducible exact below_d4 _ _ _ _ _ _ _ _ | with_reducible exact below_d5 _ _ | with_reducible refine Below.drew ?_ | with_reducible refine Below.drewN' ?_ _ | with_reducible refine below_grow0 _ _ ?_ | with_reducible refine below_alloc0 _ ?_ | with_reducible refine Below.setCell ?_ ?_ _ | with_reducible refine Below.alloc ?_ ?_ _ | with_reducible refine Below.grow _ _ _ ?_ ?_ | omega | (simp; done) | (simp; omega))) HCH.out HBX.out HF1.out HF2.out (X := w3.alloc (.cells #[.int .i64 s] 3)) (by repeat (first | with_reducible exact Below.refl _ _ | with_reducible assumption | with_reducible exact below_d1 _ _ _ _ _ | with_reducible exact below_d2 _ _ _ _ _ _ _ _ | with_reducible exact below_d3 _ _ _ _ _ | with_reducible exact below_d4 _ _ _ _ _ _ _ _ | with_reducible exact below_d5 _ _ | with_reducible refine Below.drew ?_ | with_reducible refine Below.drewN' ?_ _ | with_reducible refine below_grow0 _ _ ?_ | with_reducible refine below_alloc0 _ ?_ | with_reducible refine Below.setCell ?_ ?_ _ | with_reducible refine Below.alloc ?_ ?_ _ | with_reducible refine Below.grow _ _ _ ?_ ?_ | omega | (simp; done) | (simp; omega))) HO2.out HG2.out HA2.out HQ2.out HX5.out a3 a4)⟩
              exact Below.grown_up (show Below w.heap.size w (w3.alloc (.cells #[.int .i64 s] 3)) from (by repeat (first | with_reducible exact Below.refl _ _ | with_reducible assumption | with_reducible exact below_d1 _ _ _ _ _ | with_reducible exact below_d2 _ _ _ _ _ _ _ _ | with_reducible exact below_d3 _ _ _ _ _ | with_reducible exact below_d4 _ _ _ _ _ _ _ _ | with_reducible exact below_d5 _ _ | with_reducible refine Below.drew ?_ | with_reducible refine Below.drewN' ?_ _ | with_reducible refine below_grow0 _ _ ?_ | with_reducible refine below_alloc0 _ ?_ | with_reducible refine Below.setCell ?_ ?_ _ | with_reducible refine Below.alloc ?_ ?_ _ | with_reducible refine Below.grow _ _ _ ?_ ?_ | omega | (simp; done) | (simp; omega)))) (by simp; omega) HG2.out (fun q hq => (HR3.out.own_in hq).1)
            · have hdq : decide (0 < q0) = false := decide_eq_false hq0
              obtain ⟨a1, a2, a3, a4, a5, a6⟩ := HLQ.out.qu.again hlt2 hs5
              have hpz : (closeQ s).path.size ≤ 100 := by show (ByteArray.mk #[]).size ≤ 100; decide
              have hpz2 : (opQ s).path.size ≤ 100 := by show (ByteArray.mk #[]).size ≤ 100; decide
              have HD1 := Lib.hid (fun (W : World) (hb : Boxed W w.heap.size bz bt zv T D1 e1 D2 e2) (hsz : w.heap.size ≤ W.heap.size) => trDo T zv (closeQ s) w.heap.size bz bt D1 e1 D2 e2 W hb hbzt (by omega) HLQ.out.qu.good hss hpz a1 hsz)
              obtain ⟨T1, hT1⟩ : ∃ T1, T1 = applyT T (prepX T (zv + 1) (closeQ s)) := ⟨_, rfl⟩
              rw [← hT1] at HD1 a2 a3 a4 a5 a6
              have HD2 := Lib.hid (fun (W : World) (G1 : Option Addr) (g1 : Nat) (G2 : Option Addr) (g2 : Nat) (hb : Boxed W w.heap.size bz bt (zv + 1) T1 G1 g1 G2 g2) (hsz : w.heap.size ≤ W.heap.size) => trDo T1 (zv + 1) (opQ s) w.heap.size bz bt G1 g1 G2 g2 W hb hbzt (by omega) a2 a3 hpz2 (by rw [show zv + 1 + 1 = zv + 2 from by omega]; exact a4) hsz)
              rw [show zv + 1 + 1 = zv + 2 from by omega] at HD2
              obtain ⟨T2, hT2⟩ : ∃ T2, T2 = applyT T1 (prepX T1 (zv + 2) (opQ s)) := ⟨_, rfl⟩
              rw [← hT2] at HD2 a5 a6
              have HQ2 := Lib.hid a5
              have HX5 := Lib.hid a6
              unfold closeQ at HD1
              unfold opQ at HD2
              clear hT1 hT2 a1 a2 a3 a4 a5 a6 HP1 HP2 hpz hpz2
              go_upto_region 26 with (go_at_call 34; first | ((with_reducible refine (HD1.out _ HLQ.out.bx hwr).mono ?_); rintro e w3 ⟨rfl, hch, B3, c3, B4, c4, hbx, hf1, hf2⟩; have HCH := Lib.hid hch; have HBX := Lib.hid hbx; have hw3 := hch.size; clear hch hbx hf1 hf2) | ((with_reducible refine (HD2.out _ _ _ _ _ HBX.out (Nat.le_trans hwr hw3)).mono ?_); rintro e w4 ⟨rfl, hch, B5, c5, B6, c6, hbx, hf1, hf2⟩; have HC2 := Lib.hid hch; have HBY := Lib.hid hbx; clear hch hbx hf1 hf2))
              have hbw3 : Below w.heap.size w w3 := HCH.out.below hbwr hwr hbz1 hbt1
              have hbw4 : Below w.heap.size w w4 := HC2.out.below hbw3 (Nat.le_trans hwr hw3) hbz1 hbt1
              have hw4 := hbw4.size
              have HR4 := Lib.hid (HC2.out.ow (HCH.out.ow HLQ.out.row HLQ.out.lz HLQ.out.lt) HLQ.out.lz HLQ.out.lt)
              have hml : ((ownL T.nodes).map Node.owner).length ≤ 200 := by rw [List.length_map]; exact hll
              have hlm : (ownL T.nodes).length = ((ownL T.nodes).map Node.owner).length := (List.length_map _).symm
              clear HD1 HD2 HCH HC2 HBX hw3
              have HRS := Lib.hid HR4.out.sl
              obtain ⟨LL, hLL⟩ : ∃ LL, LL = (ownL T.nodes).map Node.owner := ⟨_, rfl⟩
              rw [← hLL] at hml hlm HRS
              have HLL := Lib.hid hLL
              have HLM := Lib.hid hlm
              clear hLL HR4 hlm
              go_wp2_with fail
              go_loopw [12, 13] (fun o i wr => ∃ (m : Nat) (A' : Option Addr) (c' : Nat) (ext : Array Obj) (d : Nat), m ≤ (ownL T.nodes).length ∧ i = .int .i64 m ∧ o = .slice A' ((LL.take m).filter (fun o => decide (o ≠ s))).length c' ∧ wr = grow w4 ext d ∧ Hid (Ow cInt 1 3 wr w4.heap.size (.slice A' ((LL.take m).filter (fun o => decide (o ≠ s))).length c') ((LL.take m).filter (fun o => decide (o ≠ s))))) (fun _ i _ => (ownL T.nodes).length - (intOf i).toNat)
              case atStart => exact ⟨0, none, 0, _, _, Nat.zero_le _, rfl, rfl, grown_of (by repeat (first | with_reducible exact Below.refl _ _ | with_reducible assumption | with_reducible exact below_d1 _ _ _ _ _ | with_reducible exact below_d2 _ _ _ _ _ _ _ _ | with_reducible exact below_d3 _ _ _ _ _ | with_reducible exact below_d4 _ _ _ _ _ _ _ _ | with_reducible exact below_d5 _ _ | with_reducible refine Below.drew ?_ | with_reducible refine Below.drewN' ?_ _ | with_reducible refine below_grow0 _ _ ?_ | with_reducible refine below_alloc0 _ ?_ | with_reducible refine Below.setCell ?_ ?_ _ | with_reducible refine Below.alloc ?_ ?_ _ | with_reducible refine Below.grow _ _ _ ?_ ?_ | omega | (simp; done) | (simp; omega))), Lib.hid (Ow.nil _ _ _ _ _)⟩
              case round =>
                obtain ⟨m, A', c', ext, d, hm, rfl, rfl, rfl, ho⟩ := hrel
                by_cases hml2 : m < (ownL T.nodes).length
                · obtain ⟨bo, oo, g2, rfl, hbo, hy2, u0⟩ := (HRS.out.below (w' := grow w4 ext d) (by repeat (first | with_reducible exact Below.refl _ _ | with_reducible assumption | with_reducible exact below_d1 _ _ _ _ _ | with_reducible exact below_d2 _ _ _ _ _ _ _ _ | with_reducible exact below_d3 _ _ _ _ _ | with_reducible exact below_d4 _ _ _ _ _ _ _ _ | with_reducible exact below_d5 _ _ | with_reducible refine Below.drew ?_ | with_reducible refine Below.drewN' ?_ _ | with_reducible refine below_grow0 _ _ ?_ | with_reducible refine below_alloc0 _ ?_ | with_reducible refine Below.setCell ?_ ?_ _ | with_reducible refine Below.alloc ?_ ?_ _ | with_reducible refine Below.grow _ _ _ ?_ ?_ | omega | (simp; done) | (simp; omega)))).int_at m hml2
                  have hft := filter_takeG hy2 (fun o => decide (o ≠ s))
                  have hfl : ((LL.take m).filter (fun o => decide (o ≠ s))).length ≤ m := Nat.le_trans (List.length_filter_le _ _) (by rw [List.length_take]; omega)
                  have HFT := Lib.hid hft
                  clear hft hy2
                  generalize (LL.take m).filter (fun o => decide (o ≠ s)) = F at *
                  by_cases hgs : g2 = s
                  · subst hgs
                    have HK1 := Lib.hid (show (LL.take (m + 1)).filter (fun o => decide (o ≠ g2)) = F from by have := HFT.out; simpa using this)
                    clear HFT
                    go_wp2_with fail
                    go_roundw
                    case rel => exact ⟨m + 1, A', c', _, _, by omega, by go_num, by rw [HK1.out], grown_of (by repeat (first | with_reducible exact Below.refl _ _ | with_reducible assumption | with_reducible exact below_d1 _ _ _ _ _ | with_reducible exact below_d2 _ _ _ _ _ _ _ _ | with_reducible exact below_d3 _ _ _ _ _ | with_reducible exact below_d4 _ _ _ _ _ _ _ _ | with_reducible exact below_d5 _ _ | with_reducible refine Below.drew ?_ | with_reducible refine Below.drewN' ?_ _ | with_reducible refine below_grow0 _ _ ?_ | with_reducible refine below_alloc0 _ ?_ | with_reducible refine Below.setCell ?_ ?_ _ | with_reducible refine Below.alloc ?_ ?_ _ | with_reducible refine Below.grow _ _ _ ?_ ?_ | omega | (simp; done) | (simp; omega))), by rw [HK1.out]; exact Lib.hid (ho.out.below (by repeat (first | with_reducible exact Below.refl _ _ | with_reducible assumption | with_reducible exact below_d1 _ _ _ _ _ | with_reducible exact below_d2 _ _ _ _ _ _ _ _ | with_reducible exact below_d3 _ _ _ _ _ | with_reducible exact below_d4 _ _ _ _ _ _ _ _ | with_reducible exact below_d5 _ _ | with_reducible refine Below.drew ?_ | with_reducible refine Below.drewN' ?_ _ | with_reducible refine below_grow0 _ _ ?_ | with_reducible refine below_alloc0 _ ?_ | with_reducible refine Below.setCell ?_ ?_ _ | with_reducible refine Below.alloc ?_ ?_ _ | with_reducible refine Below.grow _ _ _ ?_ ?_ | omega | (simp; done) | (simp; omega))))⟩
                    case measure => simp [intOf]; omega
                  · have hne : (g2 == s) = false := beq_eq_false_iff_ne.2 hgs
                    have hne2 : (g2 != s) = true := bne_iff_ne.2 hgs
                    have HK1 := Lib.hid (show (LL.take (m + 1)).filter (fun o => decide (o ≠ s)) = F ++ [g2] from by have := HFT.out; rw [decide_eq_true hgs, if_pos rfl] at this; exact this)
                    clear HFT hgs
                    go_wp2_with (at_builtin; refine wpList_app _ rfl (.tmp 93) (.tmp 98) _ rfl elInt (B := w4.heap.size) (l := F) (m := [g2]) rfl rfl (ho.out.below (by repeat (first | with_reducible exact Below.refl _ _ | with_reducible assumption | with_reducible exact below_d1 _ _ _ _ _ | with_reducible exact below_d2 _ _ _ _ _ _ _ _ | with_reducible exact below_d3 _ _ _ _ _ | with_reducible exact below_d4 _ _ _ _ _ _ _ _ | with_reducible exact below_d5 _ _ | with_reducible refine Below.drew ?_ | with_reducible refine Below.drewN' ?_ _ | with_reducible refine below_grow0 _ _ ?_ | with_reducible refine below_alloc0 _ ?_ | with_reducible refine Below.setCell ?_ ?_ _ | with_reducible refine Below.alloc ?_ ?_ _ | with_reducible refine Below.grow _ _ _ ?_ ?_ | omega | (simp; done) | (simp; omega)))) (Sl.one_at cInt 1 _ _ _ rfl _ rfl (by omega) (by simp)) cInt_one (by simp [maxLen]; omega) (by simp; omega) (by simp <;> omega) ?_; intro v2 w2 hown2 hg2 hat2; obtain ⟨A2', c2', rfl, _⟩ := hown2.form; have HO2 := Lib.hid hown2; have HG2 : Hid (World.grownBy _ w2 (Value.slice A' F.length c').ownBlock) := Lib.hid hg2; clear hown2 hg2 hat2)
                    have hwb : Below w4.heap.size w4 w2 := Below.grown (by repeat (first | with_reducible exact Below.refl _ _ | with_reducible assumption | with_reducible exact below_d1 _ _ _ _ _ | with_reducible exact below_d2 _ _ _ _ _ _ _ _ | with_reducible exact below_d3 _ _ _ _ _ | with_reducible exact below_d4 _ _ _ _ _ _ _ _ | with_reducible exact below_d5 _ _ | with_reducible refine Below.drew ?_ | with_reducible refine Below.drewN' ?_ _ | with_reducible refine below_grow0 _ _ ?_ | with_reducible refine below_alloc0 _ ?_ | with_reducible refine Below.setCell ?_ ?_ _ | with_reducible refine Below.alloc ?_ ?_ _ | with_reducible refine Below.grow _ _ _ ?_ ?_ | omega | (simp; done) | (simp; omega))) HG2.out (by simp; omega) (fun g hg => (Ow.own_in ho.out hg).1)
                    go_wp2_with fail
                    go_roundw
                    case rel => exact ⟨m + 1, A2', c2', _, _, by omega, by go_num, by rw [HK1.out]; simp, grown_of hwb, by rw [HK1.out]; exact HO2⟩
                    case measure => simp [intOf]; omega
                · have hml3 : m = (ownL T.nodes).length := by omega
                  subst hml3
                  rw [HLM.out, List.take_length] at ho
                  have HFE := Lib.hid (show (LL.take (ownL T.nodes).length).filter (fun o => decide (o ≠ s)) = LL.filter (fun o => decide (o ≠ s)) from by rw [HLM.out, List.take_length])
                  have HXL := Lib.hid (show (ownL T2.nodes).length = (LL.filter (fun o => decide (o ≠ s))).length from by rw [HX5.out, HLL.out, List.filter_map, List.length_map]; rfl)
                  rw [HFE.out]
                  go_wp2_with fail
                  go_meet
                  refine ⟨zv + 2, T2, B5, c5, B6, c6, A', c', by rw [HXL.out], Below.own hbw4 (by repeat (first | with_reducible exact Below.refl _ _ | with_reducible assumption | with_reducible exact below_d1 _ _ _ _ _ | with_reducible exact below_d2 _ _ _ _ _ _ _ _ | with_reducible exact below_d3 _ _ _ _ _ | with_reducible exact below_d4 _ _ _ _ _ _ _ _ | with_reducible exact below_d5 _ _ | with_reducible refine Below.drew ?_ | with_reducible refine Below.drewN' ?_ _ | with_reducible refine below_grow0 _ _ ?_ | with_reducible refine below_alloc0 _ ?_ | with_reducible refine Below.setCell ?_ ?_ _ | with_reducible refine Below.alloc ?_ ?_ _ | with_reducible refine Below.grow _ _ _ ?_ ?_ | omega | (simp; done) | (simp; omega))), Lib.hid (LoopQ.close_step (s := s) HLQ.out (by rw [show zv + 2 = zv + 1 + 1 from by omega]; exact HBY.out) (w2 := grow w4 ext d) (by repeat (first | with_reducible exact Below.refl _ _ | with_reducible assumption | with_reducible exact below_d1 _ _ _ _ _ | with_reducible exact below_d2 _ _ _ _ _ _ _ _ | with_reducible exact below_d3 _ _ _ _ _ | with_reducible exact below_d4 _ _ _ _ _ _ _ _ | with_reducible exact below_d5 _ _ | with_reducible refine Below.drew ?_ | with_reducible refine Below.drewN' ?_ _ | with_reducible refine below_grow0 _ _ ?_ | with_reducible refine below_alloc0 _ ?_ | with_reducible refine Below.setCell ?_ ?_ _ | with_reducible refine Below.alloc ?_ ?_ _ | with_reducible refine Below.grow _ _ _ ?_ ?_ | omega | (simp; done) | (simp; omega))) hw4 (by rw [← HLL.out]; exact ho.out) (by omega) HQ2.out HX5.out)⟩
          case rest =>
            obtain ⟨wi, rfl⟩ : ∃ wi : World, wi = wc := ⟨_, rfl⟩
            obtain ⟨zv', T', G1, g1, G2, g2, Al', cl', rfl, hbwi, HLN⟩ := hcut
            clear HLQ HP1 HP2 hdk hr1 hr2 hs5
            have hq := HLN.out.qu
            have hg := hq.gw
            have hgl : T'.nodes.length ≤ 400 := hg.len
            have hgz : ∀ n ∈ T'.nodes, n.path.size ≤ 200 := fun n hn => (goodP_size (hg.path n hn).1).2
            have hln := hq.line
            have hhd := hq.holder
            have hlen : (lineL T' lP qN).length = (ownL T'.nodes).length := by rw [hln.2, List.length_map]
            have HLI : Hid (∀ (W : World) (v v2 : Value), Sl cNode 9 W v T'.nodes → Sl cInt 1 W v2 T'.sess → Calls Tryd.prog 15 #[.agg #[.int .i64 T'.zxid, v, v2], .string ⟨#[47, 108]⟩, .string ⟨#[113]⟩] W fun e w' => ∃ A c, e = .returned (.tuple #[.slice A (ownL T'.nodes).length c, .int .i64 0]) ∧ Below W.heap.size W w') := Lib.hid (fun W v v2 h h2 => (trLine T'.zxid v v2 T'.nodes T'.sess lP qN W h h2 (by omega) hgz (by decide)).mono (fun e w' hh => by
              obtain ⟨A, c, he, _, hb⟩ := hh
              rw [show (⟨T'.zxid, T'.nodes, T'.sess⟩ : Tr) = T' from rfl, hln.1, hlen] at he
              exact ⟨A, c, he, hb⟩))
            have HN := Lib.hid HLN.out.bx.nodes.sl
            have HS := Lib.hid HLN.out.bx.sess.sl
            have t0 : wi.cell? ⟨bt, 0, none⟩ = some (.int .i64 T'.zxid) := HLN.out.bx.tb.cell 0
            have t1 : wi.cell? ⟨bt, 1, none⟩ = some (.slice G1 T'.nodes.length g1) := HLN.out.bx.tb.cell 1
            have t2 : wi.cell? ⟨bt, 2, none⟩ = some (.slice G2 T'.sess.length g2) := HLN.out.bx.tb.cell 2
            have hbti : bt < wi.heap.size := HLN.out.bx.tb.lt
            rcases (show ownL T'.nodes = [] ∨ ∃ n r, ownL T'.nodes = n :: r by cases ownL T'.nodes with | nil => exact .inl rfl | cons n r => exact .inr ⟨n, r, rfl⟩) with hO | ⟨n, r, hO⟩
            case inl =>
              have HHD : Hid (∀ (W : World) (v v2 : Value), Sl cNode 9 W v T'.nodes → Sl cInt 1 W v2 T'.sess → Calls Tryd.prog 17 #[.agg #[.int .i64 T'.zxid, v, v2], .string ⟨#[47, 108]⟩, .string ⟨#[113]⟩] W fun e w' => e = .returned (.tuple #[.int .i64 0, .int .i64 0, .int .i64 0]) ∧ Below W.heap.size W w') := Lib.hid (fun W v v2 h h2 => (trHolder T'.zxid v v2 T'.nodes T'.sess lP qN W h h2 (by omega) hgz (by decide) (by decide)).mono (fun e w' hh => by
                obtain ⟨he, hb⟩ := hh
                rw [show (⟨T'.zxid, T'.nodes, T'.sess⟩ : Tr) = T' from rfl, hhd.1, if_pos rfl, if_pos rfl, hhd.2.1 hO] at he
                exact ⟨he, hb⟩))
              have h0 : (((ownL T'.nodes).length : Int) == 0) = true := by rw [hO]; rfl
              have HO0 := Lib.hid (show (ownL T'.nodes).length = 0 by rw [hO]; rfl)
              clear hhd hln hlen hq hg hO
              rw [HO0.out] at HLI ⊢
              go_wp2_with (first | (go_at_call 15; (with_reducible refine (HLI.out _ _ _ (HN.out.below (by repeat (first | with_reducible exact Below.refl _ _ | with_reducible assumption | with_reducible exact below_d1 _ _ _ _ _ | with_reducible exact below_d2 _ _ _ _ _ _ _ _ | with_reducible exact below_d3 _ _ _ _ _ | with_reducible exact below_d4 _ _ _ _ _ _ _ _ | with_reducible exact below_d5 _ _ | with_reducible refine Below.drew ?_ | with_reducible refine Below.drewN' ?_ _ | with_reducible refine below_grow0 _ _ ?_ | with_reducible refine below_alloc0 _ ?_ | with_reducible refine Below.setCell ?_ ?_ _ | with_reducible refine Below.alloc ?_ ?_ _ | with_reducible refine Below.grow _ _ _ ?_ ?_ | omega | (simp; done) | (simp; omega)))) (HS.out.below (by repeat (first | with_reducible exact Below.refl _ _ | with_reducible assumption | with_reducible exact below_d1 _ _ _ _ _ | with_reducible exact below_d2 _ _ _ _ _ _ _ _ | with_reducible exact below_d3 _ _ _ _ _ | with_reducible exact below_d4 _ _ _ _ _ _ _ _ | with_reducible exact below_d5 _ _ | with_reducible refine Below.drew ?_ | with_reducible refine Below.drewN' ?_ _ | with_reducible refine below_grow0 _ _ ?_ | with_reducible refine below_alloc0 _ ?_ | with_reducible refine Below.setCell ?_ ?_ _ | with_reducible refine Below.alloc ?_ ?_ _ | with_reducible refine Below.grow _ _ _ ?_ ?_ | omega | (simp; done) | (simp; omega))))).mono ?_); rintro e w3 ⟨A7, c7, rfl, hb3⟩; obtain ⟨ext3, d3, rfl⟩ := Below.grown_eq _ hb3; clear hb3) | (go_at_call 17; (with_reducible refine (HHD.out _ _ _ (HN.out.below (by repeat (first | with_reducible exact Below.refl _ _ | with_reducible assumption | with_reducible exact below_d1 _ _ _ _ _ | with_reducible exact below_d2 _ _ _ _ _ _ _ _ | with_reducible exact below_d3 _ _ _ _ _ | with_reducible exact below_d4 _ _ _ _ _ _ _ _ | with_reducible exact below_d5 _ _ | with_reducible refine Below.drew ?_ | with_reducible refine Below.drewN' ?_ _ | with_reducible refine below_grow0 _ _ ?_ | with_reducible refine below_alloc0 _ ?_ | with_reducible refine Below.setCell ?_ ?_ _ | with_reducible refine Below.alloc ?_ ?_ _ | with_reducible refine Below.grow _ _ _ ?_ ?_ | omega | (simp; done) | (simp; omega)))) (HS.out.below (by repeat (first | with_reducible exact Below.refl _ _ | with_reducible assumption | with_reducible exact below_d1 _ _ _ _ _ | with_reducible exact below_d2 _ _ _ _ _ _ _ _ | with_reducible exact below_d3 _ _ _ _ _ | with_reducible exact below_d4 _ _ _ _ _ _ _ _ | with_reducible exact below_d5 _ _ | with_reducible refine Below.drew ?_ | with_reducible refine Below.drewN' ?_ _ | with_reducible refine below_grow0 _ _ ?_ | with_reducible refine below_alloc0 _ ?_ | with_reducible refine Below.setCell ?_ ?_ _ | with_reducible refine Below.alloc ?_ ?_ _ | with_reducible refine Below.grow _ _ _ ?_ ?_ | omega | (simp; done) | (simp; omega))))).mono ?_); rintro e w3 ⟨rfl, hb3⟩; obtain ⟨ext4, d4, rfl⟩ := Below.grown_eq _ hb3; clear hb3))
              go_roundw
              case rel => exact ⟨k + 1, zv', lst, T', G1, g1, G2, g2, Al', cl', rfl, by rw [HO0.out], rfl, by go_num, by omega, by omega, Below.own hbwi (by repeat (first | with_reducible exact Below.refl _ _ | with_reducible assumption | with_reducible exact below_d1 _ _ _ _ _ | with_reducible exact below_d2 _ _ _ _ _ _ _ _ | with_reducible exact below_d3 _ _ _ _ _ | with_reducible exact below_d4 _ _ _ _ _ _ _ _ | with_reducible exact below_d5 _ _ | with_reducible refine Below.drew ?_ | with_reducible refine Below.drewN' ?_ _ | with_reducible refine below_grow0 _ _ ?_ | with_reducible refine below_alloc0 _ ?_ | with_reducible refine Below.setCell ?_ ?_ _ | with_reducible refine Below.alloc ?_ ?_ _ | with_reducible refine Below.grow _ _ _ ?_ ?_ | omega | (simp; done) | (simp; omega))), Lib.hid (HLN.out.below (by repeat (first | with_reducible exact Below.refl _ _ | with_reducible assumption | with_reducible exact below_d1 _ _ _ _ _ | with_reducible exact below_d2 _ _ _ _ _ _ _ _ | with_reducible exact below_d3 _ _ _ _ _ | with_reducible exact below_d4 _ _ _ _ _ _ _ _ | with_reducible exact below_d5 _ _ | with_reducible refine Below.drew ?_ | with_reducible refine Below.drewN' ?_ _ | with_reducible refine below_grow0 _ _ ?_ | with_reducible refine below_alloc0 _ ?_ | with_reducible refine Below.setCell ?_ ?_ _ | with_reducible refine Below.alloc ?_ ?_ _ | with_reducible refine Below.grow _ _ _ ?_ ?_ | omega | (simp; done) | (simp; omega))))⟩
              case measure => simp [intOf]; omega
            case inr =>
              have HHD : Hid (∀ (W : World) (v v2 : Value), Sl cNode 9 W v T'.nodes → Sl cInt 1 W v2 T'.sess → Calls Tryd.prog 17 #[.agg #[.int .i64 T'.zxid, v, v2], .string ⟨#[47, 108]⟩, .string ⟨#[113]⟩] W fun e w' => e = .returned (.tuple #[.int .i64 n.owner, .int .i64 n.czxid, .int .i64 0]) ∧ Below W.heap.size W w') := Lib.hid (fun W v v2 h h2 => (trHolder T'.zxid v v2 T'.nodes T'.sess lP qN W h h2 (by omega) hgz (by decide) (by decide)).mono (fun e w' hh => by
                obtain ⟨he, hb⟩ := hh
                rw [show (⟨T'.zxid, T'.nodes, T'.sess⟩ : Tr) = T' from rfl, hhd.1, if_pos rfl, if_pos rfl, hhd.2.2 n r hO] at he
                exact ⟨he, hb⟩))
              have hpos : 0 < (ownL T'.nodes).length := by rw [hO]; simp
              have h0 : (((ownL T'.nodes).length : Int) == 0) = false := beq_eq_false_iff_ne.2 (by omega)
              obtain ⟨bo, oo, y9, rfl, hbo, hy9, u0⟩ := HLN.out.row.sl.int_at 0 hpos
              rw [hO] at hy9
              simp only [List.map_cons, List.getElem?_cons_zero, Option.some.injEq, Nat.add_zero] at hy9 u0
              rw [← hy9] at u0
              have hlow := HLN.out.low.2 n (by rw [hO]; simp)
              have HLR := Lib.hid (HLN.out.relast hO)
              have HFC := Lib.hid (fun (W : World) => fence_not lst n.czxid W (by omega))
              clear hhd hln hlen hq hg hO hy9 hlow
              generalize n.owner = no at *
              generalize n.czxid = nc at *
              go_wp2_with (first | (go_at_call 15; (with_reducible refine (HLI.out _ _ _ (HN.out.below (by repeat (first | with_reducible exact Below.refl _ _ | with_reducible assumption | with_reducible exact below_d1 _ _ _ _ _ | with_reducible exact below_d2 _ _ _ _ _ _ _ _ | with_reducible exact below_d3 _ _ _ _ _ | with_reducible exact below_d4 _ _ _ _ _ _ _ _ | with_reducible exact below_d5 _ _ | with_reducible refine Below.drew ?_ | with_reducible refine Below.drewN' ?_ _ | with_reducible refine below_grow0 _ _ ?_ | with_reducible refine below_alloc0 _ ?_ | with_reducible refine Below.setCell ?_ ?_ _ | with_reducible refine Below.alloc ?_ ?_ _ | with_reducible refine Below.grow _ _ _ ?_ ?_ | omega | (simp; done) | (simp; omega)))) (HS.out.below (by repeat (first | with_reducible exact Below.refl _ _ | with_reducible assumption | with_reducible exact below_d1 _ _ _ _ _ | with_reducible exact below_d2 _ _ _ _ _ _ _ _ | with_reducible exact below_d3 _ _ _ _ _ | with_reducible exact below_d4 _ _ _ _ _ _ _ _ | with_reducible exact below_d5 _ _ | with_reducible refine Below.drew ?_ | with_reducible refine Below.drewN' ?_ _ | with_reducible refine below_grow0 _ _ ?_ | with_reducible refine below_alloc0 _ ?_ | with_reducible refine Below.setCell ?_ ?_ _ | with_reducible refine Below.alloc ?_ ?_ _ | with_reducible refine Below.grow _ _ _ ?_ ?_ | omega | (simp; done) | (simp; omega))))).mono ?_); rintro e w3 ⟨A7, c7, rfl, hb3⟩; obtain ⟨ext3, d3, rfl⟩ := Below.grown_eq _ hb3; clear hb3) | (go_at_call 17; (with_reducible refine (HHD.out _ _ _ (HN.out.below (by repeat (first | with_reducible exact Below.refl _ _ | with_reducible assumption | with_reducible exact below_d1 _ _ _ _ _ | with_reducible exact below_d2 _ _ _ _ _ _ _ _ | with_reducible exact below_d3 _ _ _ _ _ | with_reducible exact below_d4 _ _ _ _ _ _ _ _ | with_reducible exact below_d5 _ _ | with_reducible refine Below.drew ?_ | with_reducible refine Below.drewN' ?_ _ | with_reducible refine below_grow0 _ _ ?_ | with_reducible refine below_alloc0 _ ?_ | with_reducible refine Below.setCell ?_ ?_ _ | with_reducible refine Below.alloc ?_ ?_ _ | with_reducible refine Below.grow _ _ _ ?_ ?_ | omega | (simp; done) | (simp; omega)))) (HS.out.below (by repeat (first | with_reducible exact Below.refl _ _ | with_reducible assumption | with_reducible exact below_d1 _ _ _ _ _ | with_reducible exact below_d2 _ _ _ _ _ _ _ _ | with_reducible exact below_d3 _ _ _ _ _ | with_reducible exact below_d4 _ _ _ _ _ _ _ _ | with_reducible exact below_d5 _ _ | with_reducible refine Below.drew ?_ | with_reducible refine Below.drewN' ?_ _ | with_reducible refine below_grow0 _ _ ?_ | with_reducible refine below_alloc0 _ ?_ | with_reducible refine Below.setCell ?_ ?_ _ | with_reducible refine Below.alloc ?_ ?_ _ | with_reducible refine Below.grow _ _ _ ?_ ?_ | omega | (simp; done) | (simp; omega))))).mono ?_); rintro e w3 ⟨rfl, hb3⟩; obtain ⟨ext4, d4, rfl⟩ := Below.grown_eq _ hb3; clear hb3) | (go_at_call 36; refine (HFC.out _).mono ?_; rintro e w1 ⟨rfl, rfl⟩; skip))
              go_roundw
              case rel => exact ⟨k + 1, zv', nc, T', G1, g1, G2, g2, some ⟨bo, oo, none⟩, cl', rfl, rfl, rfl, by go_num, by omega, by omega, Below.own hbwi (by repeat (first | with_reducible exact Below.refl _ _ | with_reducible assumption | with_reducible exact below_d1 _ _ _ _ _ | with_reducible exact below_d2 _ _ _ _ _ _ _ _ | with_reducible exact below_d3 _ _ _ _ _ | with_reducible exact below_d4 _ _ _ _ _ _ _ _ | with_reducible exact below_d5 _ _ | with_reducible refine Below.drew ?_ | with_reducible refine Below.drewN' ?_ _ | with_reducible refine below_grow0 _ _ ?_ | with_reducible refine below_alloc0 _ ?_ | with_reducible refine Below.setCell ?_ ?_ _ | with_reducible refine Below.alloc ?_ ?_ _ | with_reducible refine Below.grow _ _ _ ?_ ?_ | omega | (simp; done) | (simp; omega))), Lib.hid (HLR.out.below (by repeat (first | with_reducible exact Below.refl _ _ | with_reducible assumption | with_reducible exact below_d1 _ _ _ _ _ | with_reducible exact below_d2 _ _ _ _ _ _ _ _ | with_reducible exact below_d3 _ _ _ _ _ | with_reducible exact below_d4 _ _ _ _ _ _ _ _ | with_reducible exact below_d5 _ _ | with_reducible refine Below.drew ?_ | with_reducible refine Below.drewN' ?_ _ | with_reducible refine below_grow0 _ _ ?_ | with_reducible refine below_alloc0 _ ?_ | with_reducible refine Below.setCell ?_ ?_ _ | with_reducible refine Below.alloc ?_ ?_ _ | with_reducible refine Below.grow _ _ _ ?_ ?_ | omega | (simp; done) | (simp; omega))))⟩
              case measure => simp [intOf]; omega
        · by_cases hk1 : k < L.length
          · have hk2 : decide ((k : Int) < 60) = false := decide_eq_false (by omega)
            go_wp2_with fail
            go_ret
            exact ⟨rfl, hbwr⟩
          · go_wp2_with fail
            go_ret
            exact ⟨rfl, hbwr⟩

namespace recipeQueue
theorem own : ownKnob Tryd.prog.godebug = none := by kernel_rfl
theorem laidOut : laidOutB Tryd.prog = true := by kernel_rfl
set_option maxRecDepth 100000 in
set_option maxHeartbeats 1000000 in
theorem lifted (os : Os) (started : os.Started) (H : Type) (enc : TypeId × Value → H) :
    ReturnsInHanded {} Tryd.checked os 12 .any (fun w args => (Rows.recipeQueueSpec.pre enc Tryd.prog Tryd.f12 Rows.recipeQueueRow.domain false w args ∧ laidMetH Tryd.prog Rows.recipeQueueRow.laid w) ∧ sizedMet enc Tryd.prog Tryd.f12 (OpenSpec.ofChange Rows.recipeQueueSpec) false w args) (Rows.recipeQueueSpec.post enc Tryd.prog Tryd.f12 false true false false) := by
  refine returnsInHanded_of_change_and (C := Tryd.checked) (X := fun w _ => laidMetH Tryd.prog Rows.recipeQueueRow.laid w) (fun _ _ _ hh h => h.of_heap hh) own started (by kernel_rfl) Tryd.func12
    (ChangeSpec.witness_shaped (enc := enc) (C := Tryd.checked) (os := os) (X := fun w _ => laidMetH Tryd.prog Rows.recipeQueueRow.laid w) false (World.laidAll Tryd.prog os Rows.recipeQueueRow.laid) #[.slice none 0 0] 8 (World.laidAll_os _ _ _)
      (World.shaped_of_ZipB (by kernel_rfl) (by kernel_rfl)) (by kernel_rfl) (by kernel_rfl) (by kernel_rfl)
      (by rw [MakeChecks.laidMetH_plain _ _ _ (by kernel_rfl)]; exact laidMet_laidAll _ (by kernel_rfl) (by kernel_rfl))) ?_
  intro W base args ds gs before hval0 hW0 _ hsz0 hL _
  have hval : ∀ (j : Nat) t v, Tryd.f12.params[j]? = some t → args[j]? = some v → Value.okWide Tryd.prog W .any base t v := hval0
  have hW : DataW.Whole enc Tryd.prog Tryd.f12.params.toList Rows.recipeQueueSpec.vars false W args.toList ds gs before := hW0
  have hlt : ∀ p ∈ before, p.block < W.heap.size := fun p hp => hW.lt p hp
  have hW1 := hW
  obtain ⟨p, q, hA0, hV, rfl, hfz, hnd⟩ := hW1
  have hA : DataW.TrodAll enc Tryd.prog W 0 (fun _ => true) true Tryd.f12.params.toList args.toList ds p := hA0
  obtain ⟨rfl, rfl⟩ := trodVars_none hV
  rw [Tryd.params12] at hA hval
  obtain ⟨v0, vs0, d0, ds0, p0, q0, hargs, rfl, rfl, h0, r0⟩ := trodAll_cons hA
  obtain ⟨rfl, rfl, rfl⟩ := trodAll_nil r0
  obtain rfl : args = #[v0] := by cases args; simp_all
  have hsz : (DataW.weightsEach Tryd.prog [23] [d0]).all (· ≤ reachBytes) = true := hsz0
  have close : ∀ e W', (e = Ending.returned (.bool true) ∧ Below W.heap.size W W') → ∃ v, e = .returned v ∧ Rows.recipeQueueSpec.post enc Tryd.prog Tryd.f12 false true false false W #[v0] v W' :=
    fun e W' ⟨he, hb⟩ => ⟨_, he, law_post laidOut (of_decide_eq_true (by kernel_rfl)) rfl rfl Tryd.underlying4 hW rfl hb⟩
  clear hA0 hsz0 hval0 hW0 hA hV hW hfz hnd
  obtain ⟨xs0, hr0, hf0, els0, sp0, he0⟩ := open_rows (ks := [.i .i64]) 9 Tryd.underlying23 (by kernel_rfl) (hval 0 23 v0 rfl rfl) h0 (fun x hx => hlt x (by simp [hx])) (by decide)
  have rb0 : xs0.length * 8 ≤ 140737488351232 := by
    rcases he0 with ⟨_, rfl⟩ | ⟨hd, hl⟩
    · simp
    · rw [hd] at hsz
      have := sized_slice hsz (j := 0) rfl rfl Tryd.underlying23
      rw [show Tryd.prog.bytesOf 3 = 8 from by kernel_rfl] at this
      simp only [reachBytes] at this
      rw [hl] at this
      exact Nat.le_trans (Nat.mul_le_mul_right _ (Nat.le_add_right _ _)) this
  obtain ⟨l, rfl, hlo⟩ := typed (fun x hx => fits_int (hf0 x hx))
  have hs : Sl cInt 1 W v0 l := hr0
  exact (recipeQueue_ok v0 l W hs (fun x hx => hlo x hx)).mono close
theorem proved : Rows.RecipeQueueSaid :=
  OpenClaim.holds_of_wide 12 Tryd.f12 rfl rfl rfl rfl rfl rfl rfl ⟨rfl, rfl, rfl, rfl, rfl⟩ rfl rfl rfl rfl rfl (by kernel_rfl) Tryd.func12 (by kernel_rfl)
    (of_decide_eq_true (by kernel_rfl)) (by unfold Func.isWrapper; first | (rw [if_pos (by decide +kernel)]; kernel_rfl) | (rw [if_neg (by decide +kernel)]; exact ⟨rfl, rfl⟩))
    (fun os started H enc _ => lifted os started H enc)
theorem card : Rows.RecipeQueueCardSaid :=
  Claim7.holds_tied_plain_at .later [] Rows.recipeQueueCard.laidKinds true Rows.recipeQueueCard.stood.harness false
    proved (fun _ h => by cases h) (by kernel_rfl) (fun _ h => by cases h) recipeQueue_row_tie rfl ⟨rfl, rfl⟩ (by kernel_rfl) rfl
    (fun f fn hf hfn => by
      obtain rfl : f = 12 := Option.some.inj ((show Tryd.prog.funcNamed "aviary/aviarykeep.RecipeQueue" = some 12 by kernel_rfl).symm.trans hf) |>.symm
      obtain rfl : fn = Tryd.f12 := (Option.some.inj (Tryd.func12.symm.trans hfn)).symm
      exact ⟨by kernel_rfl, fun j t ht => by
        rw [Tryd.params12] at ht
        have hm : t ∈ [23] := by simpa using Array.mem_of_getElem? ht
        have hall : ([23].all fun u => !Tryd.prog.wantsStandIn u) = true := by kernel_rfl
        exact (show Tryd.prog.wantsStandIn t = false by simpa using List.all_eq_true.1 hall t hm)⟩)
    (by kernel_rfl)
end recipeQueue
end Go.Proofs.YteolglmifimnaaaDoor
