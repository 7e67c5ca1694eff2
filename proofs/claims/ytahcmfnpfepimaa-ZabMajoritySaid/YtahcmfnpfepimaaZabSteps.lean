/- The law ZabSteps is true for every input; no conditions. -/
import Derived.Test.YtahcmfnpfepimaaOthers
namespace Go.Proofs.Ytahcmfnpfepimaa
open Go.RowKit Go.ChangeShapes Go.WideShapes Go.ChangeAt
def flatTxn : List Kd := [.i .i64, .i .i64, .i .i64, .s, .s, .i .i64, .i .i64]
theorem open_peer {w : World} {n : Nat} {cs : List Value} (h : Deep Try.prog w (n + 10) 51 cs) : ∃ p : Peer, cs = cPeer p ∧ p.In w := by
  obtain ⟨hl, hf⟩ := deep_struct Try.underlying51 h
  rw [show Try.prog.cellsOf 51 = 4 from by kernel_rfl] at hl
  obtain ⟨c0, c1, c2, c3, rfl⟩ : ∃ a b c d, cs = [a, b, c, d] := by
    rcases cs with _ | ⟨a, _ | ⟨b, _ | ⟨c, _ | ⟨d, _ | ⟨e, cs⟩⟩⟩⟩⟩ <;> simp at hl
    exact ⟨a, b, c, d, rfl⟩
  obtain ⟨m0, e0, _⟩ := deep_int Try.underlying3 (deep_at hf 0 3 0 1 rfl (by kernel_rfl))
  obtain ⟨m1, e1, _⟩ := deep_int Try.underlying3 (deep_at hf 1 3 1 1 rfl (by kernel_rfl))
  obtain ⟨v2, xs, e2, hr, hb, hx⟩ := deep_flats (ks := flatTxn) Try.underlying49 (by kernel_rfl) (by decide) (deep_at hf 2 49 2 1 rfl (by kernel_rfl))
  obtain ⟨m3, e3, _⟩ := deep_int Try.underlying3 (deep_at hf 3 3 3 1 rfl (by kernel_rfl))
  simp only [List.drop_zero, List.drop_succ_cons, List.take_succ_cons, List.take_zero, List.cons.injEq, and_true] at e0 e1 e2 e3
  subst e0 e1 e2 e3
  rw [show Try.prog.bytesOf 72 = 72 from by kernel_rfl] at hb
  obtain ⟨log, rfl, _⟩ := typed (fun x hxm => fitsTxn (hx x hxm))
  have hs : Sl cTxn 7 w c2 log := hr
  obtain ⟨A, c, rfl, _, _⟩ := hs.form
  exact ⟨⟨m0, m1, A, c, log, m3⟩, rfl, hs, by simpa [reachBytes] using hb⟩
def nextZ (z : Int) : Int × Int := if 0 ≤ z ∧ z < 4611686018427387904 then (if z % 2147483648 < 2147483647 then (z + 1, 0) else (0, 6)) else (0, 3)
theorem znext_any (a : Int) (w : World) :
    Calls Try.prog 26 #[.int .i64 a] w fun e w' => e = .returned (.tuple #[.int .i64 (nextZ a).1, .int .i64 (nextZ a).2]) ∧ w = w' := by
  unfold nextZ
  by_cases h : 0 ≤ a ∧ a < 4611686018427387904
  · rw [if_pos h]
    by_cases hc : a % 2147483648 < 2147483647
    · rw [if_pos hc]; exact znext_ok a w h hc
    · rw [if_neg hc]; exact znext_full a w h hc
  · rw [if_neg h]; exact znext_no a w h
def nextP (p : Peer) : Int × Int := if epochZ (lastZ p.log) < p.epoch then (if 0 ≤ p.epoch ∧ p.epoch ≤ 2147483647 then nextZ (p.epoch * 2147483648) else (0, 3)) else nextZ (lastZ p.log)
set_option maxHeartbeats 600000 in
theorem zabNext (p : Peer) (w : World) (h : p.In w) :
    Calls Try.prog 40 #[.agg #[.int .i64 p.id, .int .i64 p.epoch, .slice p.la p.log.length p.lc, .int .i64 p.done_]] w
      fun e w' => e = .returned (.tuple #[.int .i64 (nextP p).1, .int .i64 (nextP p).2]) ∧ Below w.heap.size w w' := by
  have H := Lib.hid h
  clear h
  have HN := Lib.hid (fun (w' : World) => znext_any (lastZ p.log) w')
  have HM := Lib.hid (fun (w' : World) => znext_any (p.epoch * 2147483648) w')
  have HE := Lib.hid (fun (w' : World) => zepoch_any (lastZ p.log) w')
  unfold nextP
  generalize hz : lastZ p.log = z at *
  have HZ := Lib.hid hz
  have HL := Lib.hid (fun (W' : World) (hb : Below w.heap.size w W') => show Calls Try.prog 32 #[.slice p.la p.log.length p.lc] W' fun e w' => e = .returned (.int .i64 z) ∧ W' = w' from by
    have h := walLast _ _ _ (H.out.below hb).1
    rw [hz] at h
    exact h)
  clear hz
  generalize hn1 : nextZ z = n1 at *
  generalize hn2 : nextZ (p.epoch * 2147483648) = n2 at *
  generalize hez : epochZ z = ez at *
  clear hn1 hn2 hez
  by_cases hlt : ez < p.epoch
  · simp only [if_pos hlt]
    by_cases hh : 0 ≤ p.epoch ∧ p.epoch ≤ 2147483647
    · simp only [if_pos hh]
      have HMK := Lib.hid (fun (w' : World) => zmake_ok p.epoch 0 w' hh ⟨by omega, by omega⟩)
      go_enter Try.func40, Try.ntmps40
      go_wp2_with (first | (go_at_call 32; refine (HL.out _ (by repeat (first | exact Below.refl _ _ | assumption | refine Below.drew ?_ | refine Below.drewN' ?_ _ | refine below_grow0 _ _ ?_ | refine below_alloc0 _ ?_ | refine Below.alloc ?_ (by first | omega | (simp; done) | (simp; omega)) _ | refine Below.setCell ?_ (by first | omega | (simp; done) | (simp; omega)) _ | refine Below.grow _ _ _ ?_ (by first | omega | (simp; done) | (simp; omega))))).mono ?_; rintro e w1 ⟨rfl, rfl⟩; skip) | (go_at_call 17; refine (HMK.out _).mono ?_; rintro e w1 ⟨rfl, rfl⟩; skip) | (go_at_call 26; refine (HM.out _).mono ?_; rintro e w1 ⟨rfl, rfl⟩; skip))
      go_quiet (first | (go_at_call 19; with_reducible refine Calls.quiet_of_same ((HE.out _).mono fun e w' h => ⟨h.1, h.2.symm⟩)))
      go_wp2_with (first | (go_at_call 32; refine (HL.out _ (by repeat (first | exact Below.refl _ _ | assumption | refine Below.drew ?_ | refine Below.drewN' ?_ _ | refine below_grow0 _ _ ?_ | refine below_alloc0 _ ?_ | refine Below.alloc ?_ (by first | omega | (simp; done) | (simp; omega)) _ | refine Below.setCell ?_ (by first | omega | (simp; done) | (simp; omega)) _ | refine Below.grow _ _ _ ?_ (by first | omega | (simp; done) | (simp; omega))))).mono ?_; rintro e w1 ⟨rfl, rfl⟩; skip) | (go_at_call 17; refine (HMK.out _).mono ?_; rintro e w1 ⟨rfl, rfl⟩; skip) | (go_at_call 26; refine (HM.out _).mono ?_; rintro e w1 ⟨rfl, rfl⟩; skip))
      go_ret2
      exact ⟨rfl, (by repeat (first | exact Below.refl _ _ | assumption | refine Below.drew ?_ | refine Below.drewN' ?_ _ | refine below_grow0 _ _ ?_ | refine below_alloc0 _ ?_ | refine Below.alloc ?_ (by first | omega | (simp; done) | (simp; omega)) _ | refine Below.setCell ?_ (by first | omega | (simp; done) | (simp; omega)) _ | refine Below.grow _ _ _ ?_ (by first | omega | (simp; done) | (simp; omega))))⟩
    · simp only [if_neg hh]
      have HMK := Lib.hid (fun (w' : World) => zmake_no p.epoch 0 w' (fun h => hh h.1))
      go_enter Try.func40, Try.ntmps40
      go_wp2_with (first | (go_at_call 32; refine (HL.out _ (by repeat (first | exact Below.refl _ _ | assumption | refine Below.drew ?_ | refine Below.drewN' ?_ _ | refine below_grow0 _ _ ?_ | refine below_alloc0 _ ?_ | refine Below.alloc ?_ (by first | omega | (simp; done) | (simp; omega)) _ | refine Below.setCell ?_ (by first | omega | (simp; done) | (simp; omega)) _ | refine Below.grow _ _ _ ?_ (by first | omega | (simp; done) | (simp; omega))))).mono ?_; rintro e w1 ⟨rfl, rfl⟩; skip) | (go_at_call 17; refine (HMK.out _).mono ?_; rintro e w1 ⟨rfl, rfl⟩; skip) | (go_at_call 26; refine (HM.out _).mono ?_; rintro e w1 ⟨rfl, rfl⟩; skip))
      go_quiet (first | (go_at_call 19; with_reducible refine Calls.quiet_of_same ((HE.out _).mono fun e w' h => ⟨h.1, h.2.symm⟩)))
      go_wp2_with (first | (go_at_call 32; refine (HL.out _ (by repeat (first | exact Below.refl _ _ | assumption | refine Below.drew ?_ | refine Below.drewN' ?_ _ | refine below_grow0 _ _ ?_ | refine below_alloc0 _ ?_ | refine Below.alloc ?_ (by first | omega | (simp; done) | (simp; omega)) _ | refine Below.setCell ?_ (by first | omega | (simp; done) | (simp; omega)) _ | refine Below.grow _ _ _ ?_ (by first | omega | (simp; done) | (simp; omega))))).mono ?_; rintro e w1 ⟨rfl, rfl⟩; skip) | (go_at_call 17; refine (HMK.out _).mono ?_; rintro e w1 ⟨rfl, rfl⟩; skip) | (go_at_call 26; refine (HM.out _).mono ?_; rintro e w1 ⟨rfl, rfl⟩; skip))
      go_ret2
      exact ⟨rfl, (by repeat (first | exact Below.refl _ _ | assumption | refine Below.drew ?_ | refine Below.drewN' ?_ _ | refine below_grow0 _ _ ?_ | refine below_alloc0 _ ?_ | refine Below.alloc ?_ (by first | omega | (simp; done) | (simp; omega)) _ | refine Below.setCell ?_ (by first | omega | (simp; done) | (simp; omega)) _ | refine Below.grow _ _ _ ?_ (by first | omega | (simp; done) | (simp; omega))))⟩
  · simp only [if_neg hlt]
    go_enter Try.func40, Try.ntmps40
    go_wp2_with (first | (go_at_call 32; refine (HL.out _ (by repeat (first | exact Below.refl _ _ | assumption | refine Below.drew ?_ | refine Below.drewN' ?_ _ | refine below_grow0 _ _ ?_ | refine below_alloc0 _ ?_ | refine Below.alloc ?_ (by first | omega | (simp; done) | (simp; omega)) _ | refine Below.setCell ?_ (by first | omega | (simp; done) | (simp; omega)) _ | refine Below.grow _ _ _ ?_ (by first | omega | (simp; done) | (simp; omega))))).mono ?_; rintro e w1 ⟨rfl, rfl⟩; skip) | (go_at_call 26; refine (HN.out _).mono ?_; rintro e w1 ⟨rfl, rfl⟩; skip))
    go_quiet (first | (go_at_call 19; with_reducible refine Calls.quiet_of_same ((HE.out _).mono fun e w' h => ⟨h.1, h.2.symm⟩)))
    go_wp2_with (first | (go_at_call 32; refine (HL.out _ (by repeat (first | exact Below.refl _ _ | assumption | refine Below.drew ?_ | refine Below.drewN' ?_ _ | refine below_grow0 _ _ ?_ | refine below_alloc0 _ ?_ | refine Below.alloc ?_ (by first | omega | (simp; done) | (simp; omega)) _ | refine Below.setCell ?_ (by first | omega | (simp; done) | (simp; omega)) _ | refine Below.grow _ _ _ ?_ (by first | omega | (simp; done) | (simp; omega))))).mono ?_; rintro e w1 ⟨rfl, rfl⟩; skip) | (go_at_call 26; refine (HN.out _).mono ?_; rintro e w1 ⟨rfl, rfl⟩; skip))
    go_ret2
    exact ⟨rfl, (by repeat (first | exact Below.refl _ _ | assumption | refine Below.drew ?_ | refine Below.drewN' ?_ _ | refine below_grow0 _ _ ?_ | refine below_alloc0 _ ?_ | refine Below.alloc ?_ (by first | omega | (simp; done) | (simp; omega)) _ | refine Below.setCell ?_ (by first | omega | (simp; done) | (simp; omega)) _ | refine Below.grow _ _ _ ?_ (by first | omega | (simp; done) | (simp; omega))))⟩
/-- a literal slice -/
theorem Sl.lit {α : Type} (f : α → List Value) (s : Nat) (w : World) (l : List α) (e : TypeId) (hs : ∀ x ∈ l, (f x).length = s) (cs : Array Value) (hcs : cs.toList = l.flatMap f) (_h0 : 0 < l.length) (hm : l.length ≤ maxLen) {n : Nat} (hn : n = w.heap.size) :
    Sl f s (w.alloc (.cells cs e)) (.slice (some ⟨n, 0, none⟩) l.length l.length) l := by
  subst hn
  refine ⟨some ⟨w.heap.size, 0, none⟩, l.length, by simp, by simp, hm, by simpa using hs, fun _ => ⟨_, _, rfl, by simp, fun i y hy j u hu => ?_⟩⟩
  simp only [List.getElem?_map, Option.map_eq_some_iff] at hy
  obtain ⟨x, hx, rfl⟩ := hy
  have hc : cs[i * s + j]? = some u := by rw [← Array.getElem?_toList, hcs]; exact flatMap_get hs hx hu
  rw [show 0 + i * s + j = i * s + j from by omega, World.cell?_alloc_new]
  exact hc
def peer0 : Peer := ⟨0, 0, none, 0, [], 0⟩
def peer1 : Peer := ⟨1, 0, none, 0, [], 0⟩
theorem electIs_two {e : Ending} (h : ElectIs [peer0, peer1] e) : e = .returned (.tuple #[.int .i64 1, .int .i64 1, .int .i64 0]) := by
  have hs : Sound [peer0, peer1] := by
    refine ⟨?_, ?_, by decide, by decide⟩
    · intro p hp
      simp at hp
      rcases hp with rfl | rfl <;> (unfold Fine; decide)
    · intro i k x y hk hx hy
      have hi : i < 2 := (List.getElem?_eq_some_iff.1 hy).1
      obtain ⟨rfl, rfl⟩ : i = 1 ∧ k = 0 := by omega
      cases hx
      cases hy
      decide
  rcases h with ⟨c, _, hn, _⟩ | ⟨_, k, hk, hb, rfl⟩
  · exact absurd hs hn
  · have h2 : k < 2 := hk
    rcases Nat.eq_zero_or_pos k with rfl | h0
    · have := hb 1 peer0 peer1 (by decide) rfl rfl
      exact absurd this (by decide)
    · obtain rfl : k = 1 := by omega
      rfl
theorem elects_any (w : World) : Calls Try.prog 31 #[] w fun e w' => e = .returned (.bool true) ∧ Below w.heap.size w w' := by
  have HE := Lib.hid (fun (e : Ending) (h : ElectIs [peer0, peer1] e) => electIs_two h)
  have hin : ∀ (W : World), ∀ p ∈ [peer0, peer1], p.In W := by
    intro W p hp
    simp at hp
    rcases hp with rfl | rfl <;> exact ⟨Sl.nil _ _ _, by decide⟩
  have HZ := Lib.hid (fun (W' : World) (v : Value) (h : Sl cPeer 4 W' v [peer0, peer1]) => show Calls Try.prog 29 #[v] W' fun e w' => e = .returned (.tuple #[.int .i64 1, .int .i64 1, .int .i64 0]) ∧ Below W'.heap.size W' w' from
    (zabElect v _ W' h (hin W') (by decide)).mono fun e w' h => ⟨electIs_two h.1, h.2⟩)
  clear hin HE
  go_enter Try.func31, Try.ntmps31
  go_wp2_with (first | (go_at_call 29; refine (HZ.out _ _ (Sl.lit cPeer 4 _ [peer0, peer1] _ (by intro x hx; simp at hx; rcases hx with rfl | rfl <;> rfl) _ rfl (by decide) (by decide) rfl)).mono ?_; rintro e w1 ⟨rfl, hb⟩; obtain ⟨ext, d, rfl⟩ := Below.grown_eq _ hb; clear hb))
  go_ret
  exact ⟨rfl, (by repeat (first | exact Below.refl _ _ | assumption | refine Below.drew ?_ | refine Below.drewN' ?_ _ | refine below_grow0 _ _ ?_ | refine below_alloc0 _ ?_ | refine Below.alloc ?_ (by first | omega | (simp; done) | (simp; omega)) _ | refine Below.setCell ?_ (by first | omega | (simp; done) | (simp; omega)) _ | refine Below.grow _ _ _ ?_ (by first | omega | (simp; done) | (simp; omega))))⟩
theorem nextP_no {p : Peer} : (nextP p).2 ≠ 0 → (nextP p).1 = 0 := by
  unfold nextP nextZ
  (repeat' split) <;> simp
theorem nextP_ok {p : Peer} (h : (nextP p).2 = 0) (hz : 0 ≤ lastZ p.log ∧ lastZ p.log < 4611686018427387904) :
    lastZ p.log < (nextP p).1 ∧ Zx (nextP p).1 ∧ p.epoch ≤ epochZ (nextP p).1 ∧ epochZ (lastZ p.log) ≤ epochZ (nextP p).1 ∧ 0 < (nextP p).1 % 2147483648 := by
  unfold nextP nextZ Zx epochZ at *
  generalize lastZ p.log = z at *
  generalize p.epoch = q at *
  repeat' split at h
  all_goals first | (simp at h; done) | skip
  all_goals (repeat' split)
  all_goals (simp only; omega)
set_option maxHeartbeats 2000000 in
theorem zabSteps_ok (p : Peer) (w : World) (h : p.In w) :
    Calls Try.prog 13 #[.agg #[.int .i64 p.id, .int .i64 p.epoch, .slice p.la p.log.length p.lc, .int .i64 p.done_]] w fun e w' => e = .returned (.bool true) ∧ Below w.heap.size w w' := by
  have H := Lib.hid h
  have F1 := Lib.hid (fun (h : (nextP p).2 ≠ 0) => nextP_no h)
  have F2 := Lib.hid (fun (h : (nextP p).2 = 0) hz => nextP_ok h hz)
  have HL := Lib.hid (fun (W' : World) (hb : Below w.heap.size w W') => walLast _ _ _ (H.out.below hb).1)
  have HX : Hid (∀ (y : Peer) (W' : World), Alike p y → y.In W' → Calls Try.prog 40 #[.agg #[.int .i64 y.id, .int .i64 y.epoch, .slice y.la y.log.length y.lc, .int .i64 y.done_]] W'
      fun e w' => e = .returned (.tuple #[.int .i64 (nextP p).1, .int .i64 (nextP p).2]) ∧ Below W'.heap.size W' w') := Lib.hid (fun y W' ha hy => by
    have hn : nextP y = nextP p := by unfold nextP; rw [ha.2.1, ha.2.2.1]
    rw [← hn]
    exact zabNext y W' hy)
  have HO : Hid (∀ (W' : World) (v : Value), Sl cPeer 4 W' v [p] → Below w.heap.size w W' → Calls Try.prog 30 #[v, .int .i64 0] W' fun e w' => ∃ A' c' y, e = .returned (.slice A' 1 c') ∧ Hid (Alike p y ∧ y.In w' ∧ Sl cPeer 4 w' (.slice A' 1 c') [y]) ∧ Below W'.heap.size W' w') := Lib.hid (fun W' v hs hb => by
    refine (others_is v [p] 0 W' hs ?_ (.inr rfl) (by simp)).mono ?_
    · intro q hq
      obtain rfl := List.mem_singleton.1 hq
      exact H.out.below hb
    · rintro e w' ⟨A', c', l', rfl, ⟨hl, ht⟩, ho, hb'⟩
      obtain ⟨x, y, hx, hy, ha⟩ := ht 0 (by simp)
      cases hx
      obtain ⟨z, rfl⟩ : ∃ z, l' = [z] := by
        rcases l' with _ | ⟨z, _ | ⟨z', l'⟩⟩ <;> simp at hl
        exact ⟨z, rfl⟩
      cases hy
      refine ⟨A', c', y, rfl, Lib.hid ⟨ha, ⟨((ho.2 y (by simp)).1).sl, ?_⟩, ho.1.sl⟩, hb'⟩
      rw [ha.2.2.1]
      exact H.out.2)
  generalize lastZ p.log = z at *
  generalize (nextP p).1 = n at *
  generalize (nextP p).2 = c at *
  clear h
  by_cases hc : c = 0
  · subst hc
    by_cases hz : 0 ≤ z ∧ z < 4611686018427387904
    · obtain ⟨g1, g2, g3, g4, g5⟩ := F2.out rfl hz
      have HZ := Lib.hid hz
      have HG := Lib.hid (fun (w' : World) => zgood_yes n w' g2)
      have HG2 := Lib.hid (fun (w' : World) => zgood_yes z w' hz)
      have HE := Lib.hid (fun (w' : World) => zepoch_any n w')
      have HE2 := Lib.hid (fun (w' : World) => zepoch_any z w')
      have HC := Lib.hid (fun (w' : World) => zcount_ok n w' g2)
      generalize epochZ n = en at *
      generalize epochZ z = ez at *
      generalize n % 2147483648 = cn at *
      clear hz g2 F1 F2
      go_enter Try.func13, Try.ntmps13
      go_wp2_with (first | (go_at_call 32; refine (HL.out _ (by repeat (first | exact Below.refl _ _ | assumption | refine Below.drew ?_ | refine Below.drewN' ?_ _ | refine below_grow0 _ _ ?_ | refine below_alloc0 _ ?_ | refine Below.alloc ?_ (by first | omega | (simp; done) | (simp; omega)) _ | refine Below.setCell ?_ (by first | omega | (simp; done) | (simp; omega)) _ | refine Below.grow _ _ _ ?_ (by first | omega | (simp; done) | (simp; omega))))).mono ?_; rintro e w1 ⟨rfl, rfl⟩; skip) | (go_at_call 30; refine (HO.out _ _ (Sl.lit cPeer 4 _ [p] _ (by intro x hx; obtain rfl := List.mem_singleton.1 hx; rfl) _ (by simp [cPeer]) (by simp) (by simp [maxLen]) (by simp)) (by repeat (first | exact Below.refl _ _ | assumption | refine Below.drew ?_ | refine Below.drewN' ?_ _ | refine below_grow0 _ _ ?_ | refine below_alloc0 _ ?_ | refine Below.alloc ?_ (by first | omega | (simp; done) | (simp; omega)) _ | refine Below.setCell ?_ (by first | omega | (simp; done) | (simp; omega)) _ | refine Below.grow _ _ _ ?_ (by first | omega | (simp; done) | (simp; omega))))).mono ?_; rintro e w1 ⟨A1, c1, y, rfl, hy, hb⟩; obtain ⟨b1, o1, rfl, hbw, y0, y1, y2, y3⟩ := hy.out.2.2.Peer_at (i := 0) rfl; simp only [Nat.zero_mul, Nat.add_zero] at y0 y1 y2 y3; have HY := hy; obtain ⟨ext, d, rfl⟩ := Below.grown_eq _ hb; clear hb) | (go_at_call 40; refine (HX.out y _ HY.out.1 HY.out.2.1).mono ?_; rintro e w2 ⟨rfl, hb⟩; obtain ⟨ext2, d2, rfl⟩ := Below.grown_eq _ hb; clear hb) | (go_at_call 31; refine (elects_any _).mono ?_; rintro e w3 ⟨rfl, hb⟩; obtain ⟨ext3, d3, rfl⟩ := Below.grown_eq _ hb; clear hb) | (go_at_call 28; refine (HG2.out _).mono ?_; rintro e w1 ⟨rfl, rfl⟩; skip))
      go_quiet (first | (go_at_call 28; with_reducible refine Calls.quiet_of_same ((HG.out _).mono fun e w' h => ⟨h.1, h.2.symm⟩)) | (go_at_call_of 19 n; with_reducible refine Calls.quiet_of_same ((HE.out _).mono fun e w' h => ⟨h.1, h.2.symm⟩)) | (go_at_call_of 19 z; with_reducible refine Calls.quiet_of_same ((HE2.out _).mono fun e w' h => ⟨h.1, h.2.symm⟩)) | (go_at_call 20; with_reducible refine Calls.quiet_of_same ((HC.out _).mono fun e w' h => ⟨h.1, h.2.symm⟩)))
      go_wp2_with fail
      go_ret
      exact ⟨ret_bool (by simp [*]), (by repeat (first | exact Below.refl _ _ | assumption | refine Below.drew ?_ | refine Below.drewN' ?_ _ | refine below_grow0 _ _ ?_ | refine below_alloc0 _ ?_ | refine Below.alloc ?_ (by first | omega | (simp; done) | (simp; omega)) _ | refine Below.setCell ?_ (by first | omega | (simp; done) | (simp; omega)) _ | refine Below.grow _ _ _ ?_ (by first | omega | (simp; done) | (simp; omega))))⟩
    · have HG := Lib.hid (fun (w' : World) => zgood_no z w' hz)
      clear hz F1 F2
      go_enter Try.func13, Try.ntmps13
      go_wp2_with (first | (go_at_call 32; refine (HL.out _ (by repeat (first | exact Below.refl _ _ | assumption | refine Below.drew ?_ | refine Below.drewN' ?_ _ | refine below_grow0 _ _ ?_ | refine below_alloc0 _ ?_ | refine Below.alloc ?_ (by first | omega | (simp; done) | (simp; omega)) _ | refine Below.setCell ?_ (by first | omega | (simp; done) | (simp; omega)) _ | refine Below.grow _ _ _ ?_ (by first | omega | (simp; done) | (simp; omega))))).mono ?_; rintro e w1 ⟨rfl, rfl⟩; skip) | (go_at_call 30; refine (HO.out _ _ (Sl.lit cPeer 4 _ [p] _ (by intro x hx; obtain rfl := List.mem_singleton.1 hx; rfl) _ (by simp [cPeer]) (by simp) (by simp [maxLen]) (by simp)) (by repeat (first | exact Below.refl _ _ | assumption | refine Below.drew ?_ | refine Below.drewN' ?_ _ | refine below_grow0 _ _ ?_ | refine below_alloc0 _ ?_ | refine Below.alloc ?_ (by first | omega | (simp; done) | (simp; omega)) _ | refine Below.setCell ?_ (by first | omega | (simp; done) | (simp; omega)) _ | refine Below.grow _ _ _ ?_ (by first | omega | (simp; done) | (simp; omega))))).mono ?_; rintro e w1 ⟨A1, c1, y, rfl, hy, hb⟩; obtain ⟨b1, o1, rfl, hbw, y0, y1, y2, y3⟩ := hy.out.2.2.Peer_at (i := 0) rfl; simp only [Nat.zero_mul, Nat.add_zero] at y0 y1 y2 y3; have HY := hy; obtain ⟨ext, d, rfl⟩ := Below.grown_eq _ hb; clear hb) | (go_at_call 40; refine (HX.out y _ HY.out.1 HY.out.2.1).mono ?_; rintro e w2 ⟨rfl, hb⟩; obtain ⟨ext2, d2, rfl⟩ := Below.grown_eq _ hb; clear hb) | (go_at_call 31; refine (elects_any _).mono ?_; rintro e w3 ⟨rfl, hb⟩; obtain ⟨ext3, d3, rfl⟩ := Below.grown_eq _ hb; clear hb) | (go_at_call 28; refine (HG.out _).mono ?_; rintro e w1 ⟨rfl, rfl⟩; skip))
      go_ret
      exact ⟨rfl, (by repeat (first | exact Below.refl _ _ | assumption | refine Below.drew ?_ | refine Below.drewN' ?_ _ | refine below_grow0 _ _ ?_ | refine below_alloc0 _ ?_ | refine Below.alloc ?_ (by first | omega | (simp; done) | (simp; omega)) _ | refine Below.setCell ?_ (by first | omega | (simp; done) | (simp; omega)) _ | refine Below.grow _ _ _ ?_ (by first | omega | (simp; done) | (simp; omega))))⟩
  · obtain rfl := F1.out hc
    clear F1 F2
    go_enter Try.func13, Try.ntmps13
    go_wp2_with (first | (go_at_call 32; refine (HL.out _ (by repeat (first | exact Below.refl _ _ | assumption | refine Below.drew ?_ | refine Below.drewN' ?_ _ | refine below_grow0 _ _ ?_ | refine below_alloc0 _ ?_ | refine Below.alloc ?_ (by first | omega | (simp; done) | (simp; omega)) _ | refine Below.setCell ?_ (by first | omega | (simp; done) | (simp; omega)) _ | refine Below.grow _ _ _ ?_ (by first | omega | (simp; done) | (simp; omega))))).mono ?_; rintro e w1 ⟨rfl, rfl⟩; skip) | (go_at_call 30; refine (HO.out _ _ (Sl.lit cPeer 4 _ [p] _ (by intro x hx; obtain rfl := List.mem_singleton.1 hx; rfl) _ (by simp [cPeer]) (by simp) (by simp [maxLen]) (by simp)) (by repeat (first | exact Below.refl _ _ | assumption | refine Below.drew ?_ | refine Below.drewN' ?_ _ | refine below_grow0 _ _ ?_ | refine below_alloc0 _ ?_ | refine Below.alloc ?_ (by first | omega | (simp; done) | (simp; omega)) _ | refine Below.setCell ?_ (by first | omega | (simp; done) | (simp; omega)) _ | refine Below.grow _ _ _ ?_ (by first | omega | (simp; done) | (simp; omega))))).mono ?_; rintro e w1 ⟨A1, c1, y, rfl, hy, hb⟩; obtain ⟨b1, o1, rfl, hbw, y0, y1, y2, y3⟩ := hy.out.2.2.Peer_at (i := 0) rfl; simp only [Nat.zero_mul, Nat.add_zero] at y0 y1 y2 y3; have HY := hy; obtain ⟨ext, d, rfl⟩ := Below.grown_eq _ hb; clear hb) | (go_at_call 40; refine (HX.out y _ HY.out.1 HY.out.2.1).mono ?_; rintro e w2 ⟨rfl, hb⟩; obtain ⟨ext2, d2, rfl⟩ := Below.grown_eq _ hb; clear hb) | (go_at_call 31; refine (elects_any _).mono ?_; rintro e w3 ⟨rfl, hb⟩; obtain ⟨ext3, d3, rfl⟩ := Below.grown_eq _ hb; clear hb))
    go_ret
    exact ⟨rfl, (by repeat (first | exact Below.refl _ _ | assumption | refine Below.drew ?_ | refine Below.drewN' ?_ _ | refine below_grow0 _ _ ?_ | refine below_alloc0 _ ?_ | refine Below.alloc ?_ (by first | omega | (simp; done) | (simp; omega)) _ | refine Below.setCell ?_ (by first | omega | (simp; done) | (simp; omega)) _ | refine Below.grow _ _ _ ?_ (by first | omega | (simp; done) | (simp; omega))))⟩
namespace zabSteps
theorem own : ownKnob Try.prog.godebug = none := by kernel_rfl
theorem laidOut : laidOutB Try.prog = true := by kernel_rfl
set_option maxRecDepth 100000 in
set_option maxHeartbeats 1000000 in
theorem lifted (os : Os) (started : os.Started) (H : Type) (enc : TypeId × Value → H) :
    ReturnsInHanded {} Try.checked os 13 .any (Rows.zabStepsSpec.pre6 enc Try.prog Try.f13 Rows.zabStepsRow.domain false) (Rows.zabStepsSpec.post enc Try.prog Try.f13 false true false false) := by
  refine returnsInHanded_of_change_sized (C := Try.checked) own started (by kernel_rfl) Try.func13
    (ChangeSpec.witness6 (enc := enc) (C := Try.checked) false ⟨#[], #[.agg #[.int .i64 0, .int .i64 0, .slice none 0 0, .int .i64 0]], []⟩ 8 (by kernel_rfl) (by kernel_rfl) (by kernel_rfl) (by kernel_rfl)) ?_
  intro W base args ds gs before hval0 hW0 _ hsz0 _
  have hval : ∀ (j : Nat) t v, Try.f13.params[j]? = some t → args[j]? = some v → Value.okWide Try.prog W .any base t v := hval0
  have hW : DataW.Whole enc Try.prog Try.f13.params.toList Rows.zabStepsSpec.vars false W args.toList ds gs before := hW0
  have hlt : ∀ p ∈ before, p.block < W.heap.size := fun p hp => hW.lt p hp
  have hW1 := hW
  obtain ⟨p, q, hA0, hV, rfl, hfz, hnd⟩ := hW1
  have hA : DataW.TrodAll enc Try.prog W 0 (fun _ => true) true Try.f13.params.toList args.toList ds p := hA0
  obtain ⟨rfl, rfl⟩ := trodVars_none hV
  rw [Try.params13] at hA hval
  obtain ⟨v0, vs0, d0, ds0, p0, q0, hargs, rfl, rfl, h0, r0⟩ := trodAll_cons hA
  obtain ⟨rfl, rfl, rfl⟩ := trodAll_nil r0
  obtain rfl : args = #[v0] := by cases args; simp_all
  have hsz : (DataW.weightsEach Try.prog [51] [d0]).all (· ≤ reachBytes) = true := hsz0
  have close : ∀ e W', (e = Ending.returned (.bool true) ∧ Below W.heap.size W W') → ∃ v, e = .returned v ∧ Rows.zabStepsSpec.post enc Try.prog Try.f13 false true false false W #[v0] v W' :=
    fun e W' ⟨he, hb⟩ => ⟨_, he, law_post laidOut (of_decide_eq_true (by kernel_rfl)) rfl rfl Try.underlying4 hW rfl hb⟩
  clear hA0 hsz0 hval0 hW0 hA hV hW hfz hnd
  obtain ⟨cs, rfl, _⟩ := okWide_struct Try.underlying51 (hval 0 _ v0 rfl rfl)
  obtain ⟨p, hp, hin⟩ := open_peer (n := 0) (open_deep 10 h0 (sized_arg hsz 0 rfl rfl))
  obtain rfl : cs = (cPeer p).toArray := by simpa [Value.cells] using congrArg List.toArray hp
  exact (zabSteps_ok p W hin).mono close
theorem proved : Rows.ZabStepsSaid :=
  OpenClaim.holds_of_wide 13 Try.f13 rfl rfl rfl rfl rfl rfl rfl ⟨rfl, rfl, rfl, rfl, rfl⟩ rfl rfl rfl rfl rfl (by kernel_rfl) Try.func13 (by kernel_rfl)
    (of_decide_eq_true (by kernel_rfl)) (by unfold Func.isWrapper; first | (rw [if_pos (by decide +kernel)]; kernel_rfl) | (rw [if_neg (by decide +kernel)]; exact ⟨rfl, rfl⟩))
    (fun os started H enc _ => lifted os started H enc)
end zabSteps
end Go.Proofs.Ytahcmfnpfepimaa
