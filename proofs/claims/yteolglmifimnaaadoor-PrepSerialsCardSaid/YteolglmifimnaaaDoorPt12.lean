/- Lemmas for the statement: Makes, ReqArg, Pick. -/
import Derived.Test.YteolglmifimnaaaDoorPt1
import Derived.Test.YteolglmifimnaaaDoorPt2
import Derived.Test.YteolglmifimnaaaDoorPt3
import Derived.Test.YteolglmifimnaaaDoorPt4
import Derived.Test.YteolglmifimnaaaDoorPt5
import Derived.Test.YteolglmifimnaaaDoorPt6
import Derived.Test.YteolglmifimnaaaDoorPt7
import Derived.Test.YteolglmifimnaaaDoorPt8
import Derived.Test.YteolglmifimnaaaDoorPt9
import Derived.Test.YteolglmifimnaaaDoorPt10
import Derived.Test.YteolglmifimnaaaDoorPt11
/- aviarykeep: does prep answer at all? -/
namespace Go.Proofs.YteolglmifimnaaaDoor
open Go.RowKit Go.ChangeShapes Go.WideShapes Go.ChangeAt
/-- the box of a transaction that was made ready, and the error -/
def CutP (W : World) (X : Txn) (E : Int) (s7 s8 : Value) (wx : World) : Prop :=
  ∃ (b : Nat), s7 = .pointer (some ⟨b, 0, none⟩) ∧ s8 = .int .i64 E ∧ Below W.heap.size W wx ∧ W.heap.size ≤ b ∧ Hid (Bk wx b (cTxn X) 49)
def openQ : Request := ⟨1, 1, ⟨#[]⟩, ⟨#[]⟩, 0, 0⟩
theorem prep_open : prepE newTr 1 openQ = 0 ∧ prepX newTr 1 openQ = openT := by
  have h1 : asked newTr 1 openQ = true := by unfold asked; rw [new_good]; decide
  have h2 : madeR newTr 1 openQ = (openT, 0) := made_12 newTr 1 (r := openQ) (.inl rfl)
  have h3 : prepE newTr 1 openQ = 0 := by unfold prepE; rw [h1, if_pos rfl, h2, if_neg (fun e => e rfl), applyE_open]
  exact ⟨h3, by unfold prepX; rw [if_pos h3, h2]⟩
set_option maxHeartbeats 1000000 in
theorem makes_is (w : World) : Calls Tryd.prog 30 #[] w fun e w' => e = .returned (.bool true) ∧ Below w.heap.size w w' := by
  have HPR := Lib.hid (fun (W : World) (v : Value) (h : Sl cNode 9 W v [rootN]) => by
    have := trPrepare 0 v (.slice none 0 0) [rootN] [] 1 openQ W h (Sl.nil _ _ _) (by simp) (by simp) (by intro n hn; rw [List.mem_singleton.1 hn]; decide) (by decide)
    unfold PrepIs at this
    rw [show (⟨0, [rootN], []⟩ : Tr) = newTr from rfl, prep_open.1, prep_open.2] at this
    exact this)
  unfold txnV openT reqV openQ at HPR
  have HO := Lib.hid (fun (W : World) => openingT W)
  unfold txnV openT at HO
  go_enter Tryd.func30, Tryd.ntmps30
  go_upto_region 2 with (first | (go_at_call 28; go_loud (refine (treeNew _).mono ?_; rintro e w1 ⟨A, c, rfl, ho, hb⟩; obtain ⟨ext1, d1, rfl⟩ := Below.grown_eq _ hb; have HO1 := Lib.hid ho.sl; clear ho hb)) | (go_at_call 29; go_loud (refine (HPR.out _ _ (HO1.out.below (by repeat (first | with_reducible exact Below.refl _ _ | with_reducible assumption | with_reducible exact below_d1 _ _ _ _ _ | with_reducible exact below_d2 _ _ _ _ _ _ _ _ | with_reducible exact below_d3 _ _ _ _ _ | with_reducible exact below_d4 _ _ _ _ _ _ _ _ | with_reducible exact below_d5 _ _ | with_reducible refine Below.drew ?_ | with_reducible refine Below.drewN' ?_ _ | with_reducible refine below_grow0 _ _ ?_ | with_reducible refine below_alloc0 _ ?_ | with_reducible refine Below.setCell ?_ ?_ _ | with_reducible refine Below.alloc ?_ ?_ _ | with_reducible refine Below.grow _ _ _ ?_ ?_ | omega | (simp; done) | (simp; omega))))).mono ?_; rintro e w3 ⟨rfl, hb⟩; obtain ⟨ext3, d3, rfl⟩ := Below.grown_eq _ hb; clear hb)))
  refine wp_region_grow (by kernel_rfl) (by kernel_rfl) ?_
  try simp only [List.append]
  repeat' (first | go_big_quiet_skip | (go_big_quiet_want; go_big_quiet_op; first | go_big_quiet_on | (apply Exists.intro; refine ⟨fun _ => ?hqg1, ?hqg2⟩; (case hqg1 => (go_at_call 42; refine Calls.grow_of (HO.out _))); go_big_quiet_on)))
  all_goals refine wpQuiet_nil ?_
  all_goals rintro _ ⟨⟨extq, dq⟩, rfl⟩
  all_goals dsimp only
  go_wp2_with fail
  go_ret
  exact ⟨rfl, (by repeat (first | with_reducible exact Below.refl _ _ | with_reducible assumption | with_reducible exact below_d1 _ _ _ _ _ | with_reducible exact below_d2 _ _ _ _ _ _ _ _ | with_reducible exact below_d3 _ _ _ _ _ | with_reducible exact below_d4 _ _ _ _ _ _ _ _ | with_reducible exact below_d5 _ _ | with_reducible refine Below.drew ?_ | with_reducible refine Below.drewN' ?_ _ | with_reducible refine below_grow0 _ _ ?_ | with_reducible refine below_alloc0 _ ?_ | with_reducible refine Below.setCell ?_ ?_ _ | with_reducible refine Below.alloc ?_ ?_ _ | with_reducible refine Below.grow _ _ _ ?_ ?_ | omega | (simp; done) | (simp; omega)))⟩
end Go.Proofs.YteolglmifimnaaaDoor

/- A request that comes from outside, opened. -/
namespace Go.Proofs.YteolglmifimnaaaDoor
open Go.RowKit Go.ChangeShapes Go.WideShapes Go.ChangeAt
set_option maxRecDepth 100000 in
theorem open_request {w : World} {n : Nat} {cs : List Value} (h : Deep Tryd.prog w (n + 10) 67 cs) : ∃ r : Request, cs = cRequest r ∧ r.path.size ≤ 140737488351232 := by
  obtain ⟨hl, hf⟩ := deep_struct Tryd.underlying67 h
  rw [show Tryd.prog.cellsOf 67 = 6 from by kernel_rfl] at hl
  obtain ⟨c0, c1, c2, c3, c4, c5, rfl⟩ : ∃ a b c d e f, cs = [a, b, c, d, e, f] := by
    rcases cs with _ | ⟨a, _ | ⟨b, _ | ⟨c, _ | ⟨d, _ | ⟨e, _ | ⟨f, _ | ⟨g, cs⟩⟩⟩⟩⟩⟩⟩ <;> simp at hl
    exact ⟨a, b, c, d, e, f, rfl⟩
  obtain ⟨z0, e0, _⟩ := deep_int Tryd.underlying3 (deep_at hf 0 3 0 1 rfl (by kernel_rfl))
  obtain ⟨z1, e1, _⟩ := deep_int Tryd.underlying3 (deep_at hf 1 3 1 1 rfl (by kernel_rfl))
  obtain ⟨p, e2, hp⟩ := deep_string Tryd.underlying9 (deep_at hf 2 9 2 1 rfl (by kernel_rfl))
  obtain ⟨d, e3, _⟩ := deep_string Tryd.underlying9 (deep_at hf 3 9 3 1 rfl (by kernel_rfl))
  obtain ⟨z4, e4, _⟩ := deep_int Tryd.underlying3 (deep_at hf 4 3 4 1 rfl (by kernel_rfl))
  obtain ⟨z5, e5, _⟩ := deep_int Tryd.underlying3 (deep_at hf 5 3 5 1 rfl (by kernel_rfl))
  simp only [List.drop_zero, List.drop_succ_cons, List.take_succ_cons, List.take_zero, List.cons.injEq, and_true] at e0 e1 e2 e3 e4 e5
  subst e0 e1 e2 e3 e4 e5
  simp only [reachBytes] at hp
  exact ⟨⟨z0, z1, p, d, z4, z5⟩, rfl, hp⟩
end Go.Proofs.YteolglmifimnaaaDoor

/- aviarykeep: a number brought to 0 to n - 1. -/
namespace Go.Proofs.YteolglmifimnaaaDoor
open Go.RowKit Go.ChangeShapes Go.WideShapes Go.ChangeAt
def pickV (k : Int) (n : Nat) : Int := if k.tmod n < 0 then k.tmod n + n else k.tmod n
theorem pickV_range (k : Int) {n : Nat} (h0 : 0 < n) : 0 ≤ pickV k n ∧ pickV k n < n := by
  have ht1 : -(n : Int) < k.tmod n := by
    have := Int.tmod_lt_of_pos (-k) (show (0 : Int) < n by omega)
    rw [Int.neg_tmod] at this
    omega
  have ht2 : k.tmod n < (n : Int) := Int.tmod_lt_of_pos _ (by omega)
  unfold pickV
  split <;> omega
theorem pick_eq (k : Int) (n : Nat) (w : World) (h0 : 0 < n) (h1 : n ≤ 140737488355328) :
    Calls Tryd.prog 32 #[.int .i64 k, .int .i64 n] w fun e w' => e = .returned (.int .i64 (pickV k n)) ∧ w = w' := by
  have ht1 : -(n : Int) < k.tmod n := by
    have := Int.tmod_lt_of_pos (-k) (show (0 : Int) < n by omega)
    rw [Int.neg_tmod] at this
    omega
  have ht2 : k.tmod n < (n : Int) := Int.tmod_lt_of_pos _ (by omega)
  unfold pickV
  generalize hq : k.tmod n = q at *
  by_cases hn : q < 0
  · rw [if_pos hn]
    go_enter Tryd.func32, Tryd.ntmps32
    go_wp2
    go_ret
    exact ⟨rfl, rfl⟩
  · rw [if_neg hn]
    go_enter Tryd.func32, Tryd.ntmps32
    go_wp2
    go_ret
    exact ⟨rfl, rfl⟩
end Go.Proofs.YteolglmifimnaaaDoor
