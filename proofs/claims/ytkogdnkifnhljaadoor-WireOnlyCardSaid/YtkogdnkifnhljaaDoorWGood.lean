/- wire.Good: what is wrong with a transaction. -/
import Derived.Test.YtkogdnkifnhljaaDoorGood
import Derived.Test.YtkogdnkifnhljaaDoorZxid
namespace Go.Proofs.YtkogdnkifnhljaaDoor
open Go.RowKit Go.ChangeShapes Go.WideShapes Go.ChangeAt
def goodT (t : Txn) : Int :=
  if t.op < 1 ∨ 5 < t.op then 4
  else if ¬ (0 ≤ t.zxid ∧ t.zxid < 4611686018427387904) ∨ t.session < 1 ∨ 2147483647 < t.session ∨ t.version < 0 ∨ 2147483647 < t.version ∨ t.owner < 0 ∨ 2147483647 < t.owner then 3
  else if 256 < (t.data.size : Int) then 1
  else if t.op ≤ 2 ∧ (t.path.toList ≠ [] ∨ t.data.toList ≠ [] ∨ t.version ≠ 0 ∨ t.owner ≠ 0) then 2
  else if 3 ≤ t.op ∧ (goodP t.path = false ∨ (t.path.toList = [47] ∧ t.op ≠ 5)) then 2
  else if (t.op = 4 ∧ (t.data.toList ≠ [] ∨ t.version ≠ 0 ∨ t.owner ≠ 0)) ∨ (t.op = 3 ∧ t.version ≠ 0) ∨ (t.op = 5 ∧ t.owner ≠ 0) then 2
  else 0
set_option maxHeartbeats 1000000 in
theorem tgood_1 (z o s v ow : Int) (p d : ByteArray) (w : World) (h : o < 1 ∨ 5 < o) :
    Calls Tryd.prog 26 #[.agg #[.int .i64 z, .int .i64 o, .int .i64 s, .string p, .string d, .int .i64 v, .int .i64 ow]] w fun e w' => e = .returned (.int .i64 4) ∧ Below w.heap.size w w' := by
  rcases h with h | h
  · have h1 : decide (o < 1) = true := decide_eq_true h
    clear h
    go_enter Tryd.func26, Tryd.ntmps26
    go_wp2_with fail
    go_ret
    exact ⟨rfl, (by repeat (first | exact Below.refl _ _ | assumption | refine Below.drew ?_ | refine Below.drewN' ?_ _ | refine below_grow0 _ _ ?_ | refine below_alloc0 _ ?_ | refine Below.alloc ?_ (by first | omega | (simp; done) | (simp; omega)) _ | refine Below.setCell ?_ (by first | omega | (simp; done) | (simp; omega)) _ | refine Below.grow _ _ _ ?_ (by first | omega | (simp; done) | (simp; omega))))⟩
  · have h1 : decide (o < 1) = false := decide_eq_false (by omega)
    have h2 : decide (5 < o) = true := decide_eq_true h
    clear h
    go_enter Tryd.func26, Tryd.ntmps26
    go_wp2_with fail
    go_ret
    exact ⟨rfl, (by repeat (first | exact Below.refl _ _ | assumption | refine Below.drew ?_ | refine Below.drewN' ?_ _ | refine below_grow0 _ _ ?_ | refine below_alloc0 _ ?_ | refine Below.alloc ?_ (by first | omega | (simp; done) | (simp; omega)) _ | refine Below.setCell ?_ (by first | omega | (simp; done) | (simp; omega)) _ | refine Below.grow _ _ _ ?_ (by first | omega | (simp; done) | (simp; omega))))⟩
set_option maxHeartbeats 2000000 in
theorem tgood_2 (z o s v ow : Int) (p d : ByteArray) (w : World) (h1 : decide (o < 1) = false) (h2 : decide (5 < o) = false) (h : ¬ Zx z ∨ s < 1 ∨ 2147483647 < s ∨ v < 0 ∨ 2147483647 < v ∨ ow < 0 ∨ 2147483647 < ow) :
    Calls Tryd.prog 26 #[.agg #[.int .i64 z, .int .i64 o, .int .i64 s, .string p, .string d, .int .i64 v, .int .i64 ow]] w fun e w' => e = .returned (.int .i64 3) ∧ Below w.heap.size w w' := by
  by_cases hz : Zx z
  · have h' : s < 1 ∨ 2147483647 < s ∨ v < 0 ∨ 2147483647 < v ∨ ow < 0 ∨ 2147483647 < ow := by
      rcases h with h | h
      · exact absurd hz h
      · exact h
    have hd : (decide (s < 1) || (decide (2147483647 < s) || (decide (v < 0) || (decide (2147483647 < v) || (decide (ow < 0) || decide (2147483647 < ow)))))) = true := by simpa using h'
    clear h h'
    cases e1 : decide (s < 1) <;> cases e2 : decide (2147483647 < s) <;> cases e3 : decide (v < 0) <;> cases e4 : decide (2147483647 < v) <;> cases e5 : decide (ow < 0) <;> cases e6 : decide (2147483647 < ow)
    all_goals first | (rw [e1, e2, e3, e4, e5, e6] at hd; exact absurd hd (by decide)) | (exfalso; simp at e1 e2 e3 e4 e5 e6; omega) | skip
    all_goals clear hd
    all_goals go_enter Tryd.func26, Tryd.ntmps26
    all_goals go_wp2_with (go_at_call 32; refine (zgood_yes z _ hz).mono ?_; rintro e w1 ⟨rfl, rfl⟩; skip)
    all_goals go_ret
    all_goals exact ⟨rfl, (by repeat (first | exact Below.refl _ _ | assumption | refine Below.drew ?_ | refine Below.drewN' ?_ _ | refine below_grow0 _ _ ?_ | refine below_alloc0 _ ?_ | refine Below.alloc ?_ (by first | omega | (simp; done) | (simp; omega)) _ | refine Below.setCell ?_ (by first | omega | (simp; done) | (simp; omega)) _ | refine Below.grow _ _ _ ?_ (by first | omega | (simp; done) | (simp; omega))))⟩
  · clear h
    go_enter Tryd.func26, Tryd.ntmps26
    go_wp2_with (go_at_call 32; refine (zgood_no z _ hz).mono ?_; rintro e w1 ⟨rfl, rfl⟩; skip)
    go_ret
    exact ⟨rfl, (by repeat (first | exact Below.refl _ _ | assumption | refine Below.drew ?_ | refine Below.drewN' ?_ _ | refine below_grow0 _ _ ?_ | refine below_alloc0 _ ?_ | refine Below.alloc ?_ (by first | omega | (simp; done) | (simp; omega)) _ | refine Below.setCell ?_ (by first | omega | (simp; done) | (simp; omega)) _ | refine Below.grow _ _ _ ?_ (by first | omega | (simp; done) | (simp; omega))))⟩
set_option maxHeartbeats 1000000 in
theorem tgood_3 (z o s v ow : Int) (p d : ByteArray) (w : World) (h1 : decide (o < 1) = false) (h2 : decide (5 < o) = false) (hz : Zx z) (h3 : decide (s < 1) = false) (h4 : decide (2147483647 < s) = false) (h5 : decide (v < 0) = false) (h6 : decide (2147483647 < v) = false) (h7 : decide (ow < 0) = false) (h8 : decide (2147483647 < ow) = false) (h9 : decide (256 < (d.size : Int)) = true) :
    Calls Tryd.prog 26 #[.agg #[.int .i64 z, .int .i64 o, .int .i64 s, .string p, .string d, .int .i64 v, .int .i64 ow]] w fun e w' => e = .returned (.int .i64 1) ∧ Below w.heap.size w w' := by
  go_enter Tryd.func26, Tryd.ntmps26
  go_wp2_with (go_at_call 32; refine (zgood_yes z _ hz).mono ?_; rintro e w1 ⟨rfl, rfl⟩; skip)
  go_ret
  exact ⟨rfl, (by repeat (first | exact Below.refl _ _ | assumption | refine Below.drew ?_ | refine Below.drewN' ?_ _ | refine below_grow0 _ _ ?_ | refine below_alloc0 _ ?_ | refine Below.alloc ?_ (by first | omega | (simp; done) | (simp; omega)) _ | refine Below.setCell ?_ (by first | omega | (simp; done) | (simp; omega)) _ | refine Below.grow _ _ _ ?_ (by first | omega | (simp; done) | (simp; omega))))⟩
theorem goodT_low (z o s v ow : Int) (p d : ByteArray) (h1 : decide (o < 1) = false) (_h2 : decide (5 < o) = false) (hz : Zx z) (h3 : decide (s < 1) = false) (h4 : decide (2147483647 < s) = false) (h5 : decide (v < 0) = false) (h6 : decide (2147483647 < v) = false) (h7 : decide (ow < 0) = false) (h8 : decide (2147483647 < ow) = false) (h9 : decide (256 < (d.size : Int)) = false)
    (h10 : o ≤ 2) : goodT ⟨z, o, s, p, d, v, ow⟩ = if p.toList = [] ∧ d.toList = [] ∧ v = 0 ∧ ow = 0 then 0 else 2 := by
  simp at h1 h3 h4 h5 h6 h7 h8 h9
  unfold Zx at hz
  unfold goodT
  dsimp only
  rw [if_neg (by omega), if_neg (by omega), if_neg (by omega)]
  by_cases hh : p.toList = [] ∧ d.toList = [] ∧ v = 0 ∧ ow = 0
  · rw [if_pos hh, if_neg (by simp [hh.1, hh.2.1, hh.2.2.1, hh.2.2.2]), if_neg (by omega), if_neg (by omega)]
  · have hx : p.toList ≠ [] ∨ d.toList ≠ [] ∨ v ≠ 0 ∨ ow ≠ 0 := by
      by_cases a : p.toList = []
      · by_cases b : d.toList = []
        · have : ¬ (v = 0 ∧ ow = 0) := fun e => hh ⟨a, b, e⟩
          exact .inr (.inr (by omega))
        · exact .inr (.inl b)
      · exact .inl a
    rw [if_neg hh, if_pos ⟨h10, hx⟩]
theorem goodT_high (z o s v ow : Int) (p d : ByteArray) (h2 : decide (5 < o) = false) (hz : Zx z) (h3 : decide (s < 1) = false) (h4 : decide (2147483647 < s) = false) (h5 : decide (v < 0) = false) (h6 : decide (2147483647 < v) = false) (h7 : decide (ow < 0) = false) (h8 : decide (2147483647 < ow) = false) (h9 : decide (256 < (d.size : Int)) = false)
    (h10 : 3 ≤ o) : goodT ⟨z, o, s, p, d, v, ow⟩ = if goodP p = false ∨ (p.toList = [47] ∧ o ≠ 5) then 2
      else if (o = 4 ∧ (d.toList ≠ [] ∨ v ≠ 0 ∨ ow ≠ 0)) ∨ (o = 3 ∧ v ≠ 0) ∨ (o = 5 ∧ ow ≠ 0) then 2 else 0 := by
  simp at h2 h3 h4 h5 h6 h7 h8 h9
  unfold Zx at hz
  unfold goodT
  dsimp only
  rw [if_neg (by omega), if_neg (by omega), if_neg (by omega), if_neg (by omega)]
  by_cases hh : goodP p = false ∨ (p.toList = [47] ∧ o ≠ 5)
  · rw [if_pos ⟨h10, hh⟩, if_pos hh]
  · rw [if_neg (fun e => hh e.2), if_neg hh]
set_option maxHeartbeats 4000000 in
theorem tgood_4 (z o s v ow : Int) (p d : ByteArray) (w : World) (h1 : decide (o < 1) = false) (h2 : decide (5 < o) = false) (hz : Zx z) (h3 : decide (s < 1) = false) (h4 : decide (2147483647 < s) = false) (h5 : decide (v < 0) = false) (h6 : decide (2147483647 < v) = false) (h7 : decide (ow < 0) = false) (h8 : decide (2147483647 < ow) = false) (h9 : decide (256 < (d.size : Int)) = false)
    (h10 : decide (o ≤ 2) = true) (h11 : decide (3 ≤ o) = false) (h12 : (o == 4) = false) (h13 : (o == 3) = false) (h14 : (o == 5) = false) :
    Calls Tryd.prog 26 #[.agg #[.int .i64 z, .int .i64 o, .int .i64 s, .string p, .string d, .int .i64 v, .int .i64 ow]] w fun e w' => e = .returned (.int .i64 (if p.toList = [] ∧ d.toList = [] ∧ v = 0 ∧ ow = 0 then 0 else 2)) ∧ Below w.heap.size w w' := by
  go_enter Tryd.func26, Tryd.ntmps26
  go_wp2_with (go_at_call 32; refine (zgood_yes z _ hz).mono ?_; rintro e w1 ⟨rfl, rfl⟩; skip)
  all_goals go_ret
  all_goals refine ⟨?_, (by repeat (first | exact Below.refl _ _ | assumption | refine Below.drew ?_ | refine Below.drewN' ?_ _ | refine below_grow0 _ _ ?_ | refine below_alloc0 _ ?_ | refine Below.alloc ?_ (by first | omega | (simp; done) | (simp; omega)) _ | refine Below.setCell ?_ (by first | omega | (simp; done) | (simp; omega)) _ | refine Below.grow _ _ _ ?_ (by first | omega | (simp; done) | (simp; omega))))⟩
  all_goals (refine congrArg (fun x => Ending.returned (Value.int IntKind.i64 x)) ?_)
  all_goals simp_all
set_option maxHeartbeats 4000000 in
theorem tgood_5 (z o s v ow : Int) (p d : ByteArray) (w : World) (h1 : decide (o < 1) = false) (h2 : decide (5 < o) = false) (hz : Zx z) (h3 : decide (s < 1) = false) (h4 : decide (2147483647 < s) = false) (h5 : decide (v < 0) = false) (h6 : decide (2147483647 < v) = false) (h7 : decide (ow < 0) = false) (h8 : decide (2147483647 < ow) = false) (h9 : decide (256 < (d.size : Int)) = false)
    (h10 : decide (o ≤ 2) = false) (h11 : decide (3 ≤ o) = true) (hp : p.size ≤ 9223372036854775807) (hg : goodP p = false) :
    Calls Tryd.prog 26 #[.agg #[.int .i64 z, .int .i64 o, .int .i64 s, .string p, .string d, .int .i64 v, .int .i64 ow]] w fun e w' => e = .returned (.int .i64 2) ∧ Below w.heap.size w w' := by
  have HG := fun w => good_any p w hp
  rw [hg] at HG
  clear hg
  go_enter Tryd.func26, Tryd.ntmps26
  go_wp2_with first | (go_at_call 32; refine (zgood_yes z _ hz).mono ?_; rintro e w1 ⟨rfl, rfl⟩; skip) | (go_at_call 16; refine (HG _).mono ?_; rintro e w1 ⟨rfl, hb1⟩; obtain ⟨ext1, d1, rfl⟩ := Below.grown_eq _ hb1)
  go_ret
  exact ⟨rfl, (by repeat (first | exact Below.refl _ _ | assumption | refine Below.drew ?_ | refine Below.drewN' ?_ _ | refine below_grow0 _ _ ?_ | refine below_alloc0 _ ?_ | refine Below.alloc ?_ (by first | omega | (simp; done) | (simp; omega)) _ | refine Below.setCell ?_ (by first | omega | (simp; done) | (simp; omega)) _ | refine Below.grow _ _ _ ?_ (by first | omega | (simp; done) | (simp; omega))))⟩
set_option maxHeartbeats 4000000 in
theorem tgood_6 (z o s v ow : Int) (p d : ByteArray) (w : World) (hz : Zx z) (h3 : decide (s < 1) = false) (h4 : decide (2147483647 < s) = false) (h5 : decide (v < 0) = false) (h6 : decide (2147483647 < v) = false) (h7 : decide (ow < 0) = false) (h8 : decide (2147483647 < ow) = false) (h9 : decide (256 < (d.size : Int)) = false)
    (hp : p.size ≤ 9223372036854775807) (hg : goodP p = true) (ho : o = 3 ∨ o = 4 ∨ o = 5) :
    Calls Tryd.prog 26 #[.agg #[.int .i64 z, .int .i64 o, .int .i64 s, .string p, .string d, .int .i64 v, .int .i64 ow]] w fun e w' => e = .returned (.int .i64 (if (p.toList = [47] ∧ o ≠ 5) then 2
      else if (o = 4 ∧ (d.toList ≠ [] ∨ v ≠ 0 ∨ ow ≠ 0)) ∨ (o = 3 ∧ v ≠ 0) ∨ (o = 5 ∧ ow ≠ 0) then 2 else 0)) ∧ Below w.heap.size w w' := by
  have HG := fun w => good_any p w hp
  rw [hg] at HG
  clear hg
  rcases ho with rfl | rfl | rfl
  all_goals go_enter Tryd.func26, Tryd.ntmps26
  all_goals go_wp2_with first | (go_at_call 32; refine (zgood_yes z _ hz).mono ?_; rintro e w1 ⟨rfl, rfl⟩; skip) | (go_at_call 16; refine (HG _).mono ?_; rintro e w1 ⟨rfl, hb1⟩; obtain ⟨ext1, d1, rfl⟩ := Below.grown_eq _ hb1)
  all_goals go_ret
  all_goals refine ⟨?_, (by repeat (first | exact Below.refl _ _ | assumption | refine Below.drew ?_ | refine Below.drewN' ?_ _ | refine below_grow0 _ _ ?_ | refine below_alloc0 _ ?_ | refine Below.alloc ?_ (by first | omega | (simp; done) | (simp; omega)) _ | refine Below.setCell ?_ (by first | omega | (simp; done) | (simp; omega)) _ | refine Below.grow _ _ _ ?_ (by first | omega | (simp; done) | (simp; omega))))⟩
  all_goals (refine congrArg (fun x => Ending.returned (Value.int IntKind.i64 x)) ?_)
  all_goals simp_all
/-- wire.Good, at every transaction -/
theorem tgood_any (t : Txn) (w : World) (hp : t.path.size ≤ 9223372036854775807) :
    Calls Tryd.prog 26 #[.agg #[.int .i64 t.zxid, .int .i64 t.op, .int .i64 t.session, .string t.path, .string t.data, .int .i64 t.version, .int .i64 t.owner]] w fun e w' => e = .returned (.int .i64 (goodT t)) ∧ Below w.heap.size w w' := by
  obtain ⟨z, o, s, p, d, v, ow⟩ := t
  dsimp only at *
  by_cases a1 : o < 1 ∨ 5 < o
  · rw [show goodT ⟨z, o, s, p, d, v, ow⟩ = 4 from if_pos a1]
    exact tgood_1 z o s v ow p d w a1
  have h1 : decide (o < 1) = false := decide_eq_false (fun e => a1 (.inl e))
  have h2 : decide (5 < o) = false := decide_eq_false (fun e => a1 (.inr e))
  by_cases a2 : ¬ (0 ≤ z ∧ z < 4611686018427387904) ∨ s < 1 ∨ 2147483647 < s ∨ v < 0 ∨ 2147483647 < v ∨ ow < 0 ∨ 2147483647 < ow
  · rw [show goodT ⟨z, o, s, p, d, v, ow⟩ = 3 from (if_neg a1).trans (if_pos a2)]
    exact tgood_2 z o s v ow p d w h1 h2 a2
  have hz : Zx z := by unfold Zx; omega
  have h3 : decide (s < 1) = false := decide_eq_false (by omega)
  have h4 : decide (2147483647 < s) = false := decide_eq_false (by omega)
  have h5 : decide (v < 0) = false := decide_eq_false (by omega)
  have h6 : decide (2147483647 < v) = false := decide_eq_false (by omega)
  have h7 : decide (ow < 0) = false := decide_eq_false (by omega)
  have h8 : decide (2147483647 < ow) = false := decide_eq_false (by omega)
  by_cases a3 : 256 < (d.size : Int)
  · rw [show goodT ⟨z, o, s, p, d, v, ow⟩ = 1 from (if_neg a1).trans ((if_neg a2).trans (if_pos a3))]
    exact tgood_3 z o s v ow p d w h1 h2 hz h3 h4 h5 h6 h7 h8 (decide_eq_true a3)
  have h9 : decide (256 < (d.size : Int)) = false := decide_eq_false a3
  by_cases a4 : o ≤ 2
  · rw [goodT_low z o s v ow p d h1 h2 hz h3 h4 h5 h6 h7 h8 h9 a4]
    exact tgood_4 z o s v ow p d w h1 h2 hz h3 h4 h5 h6 h7 h8 h9 (decide_eq_true a4) (decide_eq_false (by omega)) (beq_eq_false_iff_ne.2 (by omega)) (beq_eq_false_iff_ne.2 (by omega)) (beq_eq_false_iff_ne.2 (by omega))
  · rw [goodT_high z o s v ow p d h2 hz h3 h4 h5 h6 h7 h8 h9 (by omega)]
    cases hg : goodP p with
    | false =>
      rw [if_pos (.inl rfl)]
      exact tgood_5 z o s v ow p d w h1 h2 hz h3 h4 h5 h6 h7 h8 h9 (decide_eq_false a4) (decide_eq_true (by omega)) hp hg
    | true =>
      have := tgood_6 z o s v ow p d w hz h3 h4 h5 h6 h7 h8 h9 hp hg (by omega)
      simpa using this
end Go.Proofs.YtkogdnkifnhljaaDoor
