/- Peers: how they lie in the world; wal.Last, zab's functions at their contracts. -/
import Derived.Test.YtahcmfnpfepimaaDeep
import Derived.Test.YtahcmfnpfepimaaTypes
import Derived.Test.YtahcmfnpfepimaaZxid
import Derived.Deep.RegionHeld3
namespace Go.Proofs.Ytahcmfnpfepimaa
open Go.RowKit Go.ChangeShapes Go.WideShapes Go.ChangeAt
structure Peer where
  id : Int
  epoch : Int
  la : Option Addr
  lc : Nat
  log : List Txn
  done_ : Int
def cPeer (x : Peer) : List Value := [.int .i64 x.id, .int .i64 x.epoch, .slice x.la x.log.length x.lc, .int .i64 x.done_]
theorem cPeer_one : ∀ x : Peer, ∀ u ∈ cPeer x, u.oneCell' = true := by
  intro x u hu
  simp [cPeer] at hu
  rcases hu with rfl | rfl | rfl | rfl <;> rfl
theorem elPeer : El Try.prog 44 51 (.agg #[.int .i64 0, .int .i64 0, .slice none 0 0, .int .i64 0]) 4 48 := ⟨Try.underlying44, by kernel_rfl, rfl, by decide⟩
/-- a peer's log lies in the world, and is not too long to be copied -/
def Peer.In (w : World) (p : Peer) : Prop := Sl cTxn 7 w (.slice p.la p.log.length p.lc) p.log ∧ p.log.length * 72 ≤ 140737488351232
theorem Peer.In.below {w w' : World} {p : Peer} (h : p.In w) (hb : Below w.heap.size w w') : p.In w' := ⟨h.1.below hb, h.2⟩
theorem Peer.In.alloc {w : World} {p : Peer} (h : p.In w) (o : Obj) : p.In (w.alloc o) := ⟨h.1.alloc o, h.2⟩
theorem Peer.In.drewN {w : World} {p : Peer} (h : p.In w) (n : Nat) : p.In (w.drewN n) := h
theorem Peer.In.drew {w : World} {p : Peer} (h : p.In w) : p.In w.drew := h
def lastZ (l : List Txn) : Int := match l.getLast? with | some t => t.zxid | none => 0
theorem lastZ_nil : lastZ [] = 0 := rfl
theorem lastZ_at {l : List Txn} {m : Nat} {t : Txn} (hm : l.length = m + 1) (ht : l[m]? = some t) : lastZ l = t.zxid := by
  unfold lastZ
  rw [List.getLast?_eq_getElem?, hm, Nat.add_sub_cancel, ht]
theorem Sl.Peer_at {w : World} {A : Option Addr} {n c : Nat} {l : List Peer} (h : Sl cPeer 4 w (.slice A n c) l) {i : Nat} {x : Peer} (hx : l[i]? = some x) : ∃ b off, A = some ⟨b, off, none⟩ ∧ b < w.heap.size ∧ w.cell? ⟨b, off + i * 4, none⟩ = some (.int .i64 x.id) ∧ w.cell? ⟨b, off + i * 4 + 1, none⟩ = some (.int .i64 x.epoch) ∧ w.cell? ⟨b, off + i * 4 + 2, none⟩ = some (.slice x.la x.log.length x.lc) ∧ w.cell? ⟨b, off + i * 4 + 3, none⟩ = some (.int .i64 x.done_) := by
  obtain ⟨b, off, rfl, hb, hc⟩ := h.at_ hx
  exact ⟨b, off, rfl, hb, hc 0 _ rfl, hc 1 _ rfl, hc 2 _ rfl, hc 3 _ rfl⟩
theorem walLast (v : Value) (l : List Txn) (w : World) (h : Sl cTxn 7 w v l) :
    Calls Try.prog 32 #[v] w fun e w' => e = .returned (.int .i64 (lastZ l)) ∧ w = w' := by
  obtain ⟨A, c, rfl, hc1, hc2⟩ := h.form
  rcases Nat.eq_zero_or_pos l.length with h0 | h0
  · obtain rfl := List.eq_nil_of_length_eq_zero h0
    rw [lastZ_nil]
    simp only [List.length_nil]
    clear h h0
    go_enter Try.func32, Try.ntmps32
    go_wp2
    go_ret
    exact ⟨rfl, rfl⟩
  · obtain ⟨m, hm⟩ : ∃ m, l.length = m + 1 := ⟨l.length - 1, by omega⟩
    have hx : l[m]? = some (l[m]'(by omega)) := List.getElem?_eq_getElem _
    obtain ⟨b, off, rfl, hbw, c0, _⟩ := h.Txn_at hx
    rw [lastZ_at hm hx]
    generalize l[m]'(by omega) = x at c0
    rw [hm] at hc1 ⊢
    have hm2 : m + 1 ≤ 9223372036854775807 := Nat.le_trans hc1 (Nat.le_trans hc2 (by decide))
    clear h h0 hx
    go_enter Try.func32, Try.ntmps32
    go_wp2
    go_ret
    exact ⟨rfl, rfl⟩
def aheadB (a b : Peer) : Bool := decide (lastZ b.log < lastZ a.log) || (decide (lastZ a.log = lastZ b.log) && decide (b.id < a.id))
set_option maxHeartbeats 400000 in
theorem zabAhead (a b : Peer) (w : World) (ha : a.In w) (hb : b.In w) :
    Calls Try.prog 46 #[.agg #[.int .i64 a.id, .int .i64 a.epoch, .slice a.la a.log.length a.lc, .int .i64 a.done_], .agg #[.int .i64 b.id, .int .i64 b.epoch, .slice b.la b.log.length b.lc, .int .i64 b.done_]] w
      fun e w' => e = .returned (.bool (aheadB a b)) ∧ Below w.heap.size w w' := by
  have HA := Lib.hid ha
  have HB := Lib.hid hb
  unfold aheadB
  generalize hza : lastZ a.log = za
  generalize hzb : lastZ b.log = zb
  have HZA := Lib.hid hza
  have HZB := Lib.hid hzb
  clear ha hb hza hzb
  obtain ⟨ai, ae, aa, ac, al, ad⟩ := a
  obtain ⟨bi, be, ba, bc, bl, bd⟩ := b
  simp only at HZA HZB ⊢
  have HA1 : Hid (Sl cTxn 7 w (.slice aa al.length ac) al) := Lib.hid HA.out.1
  have HB1 : Hid (Sl cTxn 7 w (.slice ba bl.length bc) bl) := Lib.hid HB.out.1
  go_enter Try.func46, Try.ntmps46
  go_wp2_with fail
  go_quiet (first | (go_at_call 32; with_reducible refine Calls.quiet_of_same ((walLast (.slice aa al.length ac) al _ ?_).mono fun e w' h => ⟨h.1, h.2.symm⟩); exact ((HA1.out.alloc _).alloc _).drewN _) | (go_at_call 32; with_reducible refine Calls.quiet_of_same ((walLast (.slice ba bl.length bc) bl _ ?_).mono fun e w' h => ⟨h.1, h.2.symm⟩); exact ((HB1.out.alloc _).alloc _).drewN _))
  rw [HZA.out, HZB.out]
  go_wp2_with fail
  all_goals
    go_ret
    exact ⟨ret_bool (by first | rfl | (simp [*]; done) | grind), (by repeat (first | exact Below.refl _ _ | assumption | refine Below.drew ?_ | refine Below.drewN' ?_ _ | refine below_grow0 _ _ ?_ | refine below_alloc0 _ ?_ | refine Below.alloc ?_ (by first | omega | (simp; done) | (simp; omega)) _ | refine Below.setCell ?_ (by first | omega | (simp; done) | (simp; omega)) _ | refine Below.grow _ _ _ ?_ (by first | omega | (simp; done) | (simp; omega))))⟩
def epochZ (a : Int) : Int := if 0 ≤ a ∧ a < 4611686018427387904 then a / 2147483648 else 0
theorem zepoch_any (a : Int) (w : World) :
    Calls Try.prog 19 #[.int .i64 a] w fun e w' => e = .returned (.int .i64 (epochZ a)) ∧ w = w' := by
  unfold epochZ
  by_cases h : 0 ≤ a ∧ a < 4611686018427387904
  · rw [if_pos h]; exact zepoch_ok a w h
  · rw [if_neg h]; exact zepoch_no a w h
theorem epochZ_range (a : Int) : 0 ≤ epochZ a ∧ epochZ a ≤ 2147483647 := by unfold epochZ; split <;> omega
def topE (l : List Peer) : Int := l.foldl (fun m p => max m (max p.epoch (epochZ (lastZ p.log)))) 0
def Fine (p : Peer) : Prop := 0 ≤ p.id ∧ p.id < 3 ∧ 0 ≤ p.epoch ∧ p.epoch ≤ 2147483647
def Apart (l : List Peer) (i : Nat) : Prop := ∀ (k : Nat) (x y : Peer), k < i → l[k]? = some x → l[i]? = some y → x.id ≠ y.id
def Sound (l : List Peer) : Prop := (∀ p ∈ l, Fine p) ∧ (∀ i, Apart l i) ∧ 2 ≤ l.length ∧ topE l < 2147483647
def Best (l : List Peer) (b : Nat) : Prop := ∀ (i : Nat) (x y : Peer), i ≠ b → l[b]? = some x → l[i]? = some y → aheadB x y = true
def ElectIs (l : List Peer) (e : Ending) : Prop := (∃ c : Int, c ≠ 0 ∧ ¬ Sound l ∧ e = .returned (.tuple #[.int .i64 0, .int .i64 0, .int .i64 c])) ∨ (Sound l ∧ ∃ k : Nat, k < l.length ∧ Best l k ∧ e = .returned (.tuple #[.int .i64 k, .int .i64 (topE l + 1), .int .i64 0]))
def BestK (l : List Peer) (k b : Nat) : Prop := (b < k ∨ (k = 0 ∧ b = 0)) ∧ ∀ (i : Nat) (x y : Peer), i < k → i ≠ b → l[b]? = some x → l[i]? = some y → aheadB x y = true
theorem ahead_trans {a b c : Peer} (h : aheadB a b = true) (h' : aheadB b c = true) : aheadB a c = true := by
  unfold aheadB at *
  simp only [Bool.or_eq_true, Bool.and_eq_true, decide_eq_true_eq] at *
  omega
theorem ahead_total {a b : Peer} (h : aheadB a b = false) (hne : a.id ≠ b.id) : aheadB b a = true := by
  unfold aheadB at *
  simp only [Bool.or_eq_false_iff, Bool.and_eq_false_iff, decide_eq_false_iff_not, Bool.or_eq_true, Bool.and_eq_true, decide_eq_true_eq] at *
  omega
theorem topE_succ {l : List Peer} {k : Nat} {x : Peer} (hx : l[k]? = some x) : topE (l.take (k + 1)) = if (if topE (l.take k) < x.epoch then x.epoch else topE (l.take k)) < epochZ (lastZ x.log) then epochZ (lastZ x.log) else if topE (l.take k) < x.epoch then x.epoch else topE (l.take k) := by
  unfold topE
  rw [List.take_add_one, hx]
  simp only [Option.toList_some, List.foldl_append, List.foldl_cons, List.foldl_nil]
  split <;> split <;> omega
theorem topE_nonneg (l : List Peer) : 0 ≤ topE l := by
  have key : ∀ (l : List Peer) (m : Int), 0 ≤ m → 0 ≤ l.foldl (fun m p => max m (max p.epoch (epochZ (lastZ p.log)))) m := by
    intro l
    induction l with
    | nil => intro m hm; exact hm
    | cons x l ih => intro m hm; exact ih _ (by show 0 ≤ max m (max x.epoch (epochZ (lastZ x.log))); omega)
  exact key l 0 (by omega)
theorem best_yes {l : List Peer} {k b : Nat} {x y : Peer} (h : BestK l k b) (hx : l[k]? = some x) (hy : l[b]? = some y) (ha : aheadB x y = true) : BestK l (k + 1) k := by
  refine ⟨.inl (by omega), fun i x' y' hi hne hx' hy' => ?_⟩
  rw [hx] at hx'
  cases hx'
  by_cases hib : i = b
  · subst hib
    rw [hy] at hy'
    cases hy'
    exact ha
  · exact ahead_trans ha (h.2 i y y' (by omega) hib hy hy')
theorem best_no {l : List Peer} {k b : Nat} {x y : Peer} (h : BestK l k b) (hx : l[k]? = some x) (hy : l[b]? = some y) (ha : aheadB x y = false) (hd : ∀ i, Apart l i) : BestK l (k + 1) b := by
  refine ⟨.inl (by rcases h.1 with h | h <;> omega), fun i x' y' hi hne hx' hy' => ?_⟩
  rw [hy] at hx'
  cases hx'
  rcases Nat.lt_or_ge i k with h' | h'
  · exact h.2 i y y' h' hne hy hy'
  · obtain rfl : i = k := by omega
    rw [hx] at hy'
    cases hy'
    exact ahead_total ha (fun e => hd i b y x (by rcases h.1 with h | h <;> omega) hy hx e.symm)
theorem zabQuorum (w : World) : Calls Try.prog 45 #[] w fun e w' => e = .returned (.int .i64 2) ∧ w' = w := by
  go_enter Try.func45, Try.ntmps45
  go_wp2
  go_ret
  exact ⟨rfl, rfl⟩
set_option maxHeartbeats 1000000 in
theorem zabElect (v : Value) (l : List Peer) (w : World) (h : Sl cPeer 4 w v l) (hin : ∀ p ∈ l, p.In w) (hn : l.length ≤ 140737488355328) :
    Calls Try.prog 29 #[v] w fun e w' => ElectIs l e ∧ Below w.heap.size w w' := by
  obtain ⟨A, c, rfl, hc1, hc2⟩ := h.form
  have H := Lib.hid h
  have HI := Lib.hid hin
  clear h hin
  go_enter Try.func29, Try.ntmps29
  go_wp2_with fail
  go_loopw [14] (fun i wr => ∃ (k : Nat) (ext : Array Obj) (d : Nat), k ≤ l.length ∧ i = .int .i64 k ∧ wr = grow w ext d ∧ Hid (∀ j, j < k → Apart l j ∧ ∀ p, l[j]? = some p → Fine p)) (fun i _ => l.length - (intOf i).toNat)
  case atStart => exact ⟨0, _, _, Nat.zero_le _, rfl, grown_of (by repeat (first | exact Below.refl _ _ | assumption | refine Below.drew ?_ | refine Below.drewN' ?_ _ | refine below_grow0 _ _ ?_ | refine below_alloc0 _ ?_ | refine Below.alloc ?_ (by first | omega | (simp; done) | (simp; omega)) _ | refine Below.setCell ?_ (by first | omega | (simp; done) | (simp; omega)) _ | refine Below.grow _ _ _ ?_ (by first | omega | (simp; done) | (simp; omega)))), Lib.hid (fun j hj => absurd hj (by omega))⟩
  case round =>
    obtain ⟨k, ext, d, hk, rfl, rfl, hgood⟩ := hrel
    by_cases hlt : k < l.length
    · have hx : l[k]? = some (l[k]'hlt) := List.getElem?_eq_getElem _
      obtain ⟨b, off, rfl, hbw, c0, c1, c2, c3⟩ := H.out.Peer_at hx
      generalize hxe : l[k]'hlt = x at hx c0 c1 c2 c3
      go_wp2_with fail
      go_loopw [20] (fun i wr => ∃ (j : Nat) (ext2 : Array Obj) (d2 : Nat), j ≤ k ∧ i = .int .i64 j ∧ wr = grow ((grow w ext d).alloc (.cells #[.int .i64 x.id, .int .i64 x.epoch, .slice x.la x.log.length x.lc, .int .i64 x.done_] 51)) ext2 d2 ∧ Hid (∀ (m : Nat) (y : Peer), m < j → l[m]? = some y → y.id ≠ x.id)) (fun i _ => k - (intOf i).toNat)
      case atStart => exact ⟨0, _, _, Nat.zero_le _, rfl, grown_of (by repeat (first | exact Below.refl _ _ | assumption | refine Below.drew ?_ | refine Below.drewN' ?_ _ | refine below_grow0 _ _ ?_ | refine below_alloc0 _ ?_ | refine Below.alloc ?_ (by first | omega | (simp; done) | (simp; omega)) _ | refine Below.setCell ?_ (by first | omega | (simp; done) | (simp; omega)) _ | refine Below.grow _ _ _ ?_ (by first | omega | (simp; done) | (simp; omega)))), Lib.hid (fun m y hm => absurd hm (by omega))⟩
      case round =>
        obtain ⟨j, ext2, d2, hj, rfl, rfl, hne⟩ := hrel
        by_cases hlt2 : j < k
        · have hy : l[j]? = some (l[j]'(by omega)) := List.getElem?_eq_getElem _
          obtain ⟨b2, off2, hA2, _, y0, _⟩ := H.out.Peer_at hy
          injection hA2 with hA2
          injection hA2 with e1 e2 _
          subst e1
          subst e2
          generalize hye : l[j]'(by omega) = y at hy y0
          go_wp2_with fail
          go_quiet (fail)
          by_cases heq : y.id = x.id
          · go_wp2_with fail
            refine bodyPost_ret (v := .tuple #[.int .i64 0, .int .i64 0, .int .i64 8]) (by simp [results, Try.results29, go_sem]) rfl ⟨.inl ⟨8, by decide, fun hs => ?_, rfl⟩, (by repeat (first | exact Below.refl _ _ | assumption | refine Below.drew ?_ | refine Below.drewN' ?_ _ | refine below_grow0 _ _ ?_ | refine below_alloc0 _ ?_ | refine Below.alloc ?_ (by first | omega | (simp; done) | (simp; omega)) _ | refine Below.setCell ?_ (by first | omega | (simp; done) | (simp; omega)) _ | refine Below.grow _ _ _ ?_ (by first | omega | (simp; done) | (simp; omega))))⟩
            exact hs.2.1 k j y x hlt2 hy hx heq
          · go_wp2_with fail
            go_roundw
            case rel => exact ⟨j + 1, _, _, by omega, by go_num, grown_of (by repeat (first | exact Below.refl _ _ | assumption | refine Below.drew ?_ | refine Below.drewN' ?_ _ | refine below_grow0 _ _ ?_ | refine below_alloc0 _ ?_ | refine Below.alloc ?_ (by first | omega | (simp; done) | (simp; omega)) _ | refine Below.setCell ?_ (by first | omega | (simp; done) | (simp; omega)) _ | refine Below.grow _ _ _ ?_ (by first | omega | (simp; done) | (simp; omega)))), Lib.hid (fun m z hm hz => by
              rcases Nat.lt_or_ge m j with h | h
              · exact hne.out m z h hz
              · obtain rfl : m = j := by omega
                rw [hy] at hz
                cases hz
                exact heq)⟩
            case measure => simp [intOf]; omega
        · by_cases hf : Fine x
          · have HF := Lib.hid hf
            unfold Fine at hf
            obtain ⟨f1, f2, f3, f4⟩ := hf
            go_wp2_with fail
            go_roundw
            case rel => exact ⟨k + 1, _, _, by omega, by go_num, grown_of (by repeat (first | exact Below.refl _ _ | assumption | refine Below.drew ?_ | refine Below.drewN' ?_ _ | refine below_grow0 _ _ ?_ | refine below_alloc0 _ ?_ | refine Below.alloc ?_ (by first | omega | (simp; done) | (simp; omega)) _ | refine Below.setCell ?_ (by first | omega | (simp; done) | (simp; omega)) _ | refine Below.grow _ _ _ ?_ (by first | omega | (simp; done) | (simp; omega)))), Lib.hid (fun m hm => by
              rcases Nat.lt_or_ge m k with h | h
              · exact hgood.out m h
              · obtain rfl : m = k := by omega
                refine ⟨fun m a b hm ha hb => ?_, fun p hp => ?_⟩
                · rw [hx] at hb
                  cases hb
                  exact hne.out m a (by omega) ha
                · rw [hx] at hp
                  cases hp
                  exact HF.out)⟩
            case measure => simp [intOf]; omega
          · have HF := Lib.hid hf
            clear hf
            go_wp2_with fail
            all_goals
              first
              | (refine bodyPost_ret (v := .tuple #[.int .i64 0, .int .i64 0, .int .i64 3]) (by simp [results, Try.results29, go_sem]) rfl ⟨.inl ⟨3, by decide, fun hs => ?_, rfl⟩, (by repeat (first | exact Below.refl _ _ | assumption | refine Below.drew ?_ | refine Below.drewN' ?_ _ | refine below_grow0 _ _ ?_ | refine below_alloc0 _ ?_ | refine Below.alloc ?_ (by first | omega | (simp; done) | (simp; omega)) _ | refine Below.setCell ?_ (by first | omega | (simp; done) | (simp; omega)) _ | refine Below.grow _ _ _ ?_ (by first | omega | (simp; done) | (simp; omega))))⟩
                 exact HF.out (hs.1 x (List.mem_of_getElem? hx)))
              | (exfalso
                 apply HF.out
                 unfold Fine
                 omega)
    · have HG : Hid ((∀ p ∈ l, Fine p) ∧ ∀ i, Apart l i) := Lib.hid ⟨fun p hp => by
          obtain ⟨m, hm, rfl⟩ := List.mem_iff_getElem.1 hp
          exact (hgood.out m (by omega)).2 _ (List.getElem?_eq_getElem _), fun m => by
          rcases Nat.lt_or_ge m l.length with h | h
          · exact (hgood.out m (by omega)).1
          · intro a b c _ _ hc
            rw [List.getElem?_eq_none h] at hc
            cases hc⟩
      clear hgood
      by_cases h2 : 2 ≤ l.length
      · go_wp2_with (first | (go_at_call 45; refine (zabQuorum _).mono ?_; rintro e w1 ⟨rfl, rfl⟩; skip))
        go_loopw [8, 9, 57] (fun b e i wr => ∃ (k bb : Nat) (ext : Array Obj) (d : Nat), k ≤ l.length ∧ i = .int .i64 k ∧ b = .int .i64 bb ∧ bb < l.length ∧ e = .int .i64 (topE (l.take k)) ∧ wr = grow w ext d ∧ Hid (BestK l k bb)) (fun _ _ i _ => l.length - (intOf i).toNat)
        case atStart => exact ⟨0, 0, _, _, Nat.zero_le _, rfl, rfl, by omega, rfl, grown_of (by repeat (first | exact Below.refl _ _ | assumption | refine Below.drew ?_ | refine Below.drewN' ?_ _ | refine below_grow0 _ _ ?_ | refine below_alloc0 _ ?_ | refine Below.alloc ?_ (by first | omega | (simp; done) | (simp; omega)) _ | refine Below.setCell ?_ (by first | omega | (simp; done) | (simp; omega)) _ | refine Below.grow _ _ _ ?_ (by first | omega | (simp; done) | (simp; omega)))), Lib.hid ⟨.inr ⟨rfl, rfl⟩, fun i x y hi => absurd hi (by omega)⟩⟩
        case round =>
          obtain ⟨k, bb, ext, d, hk, rfl, rfl, hbb, rfl, rfl, hbest⟩ := hrel
          by_cases hlt : k < l.length
          · have hx : l[k]? = some (l[k]'hlt) := List.getElem?_eq_getElem _
            have hy : l[bb]? = some (l[bb]'hbb) := List.getElem?_eq_getElem _
            have HX := Lib.hid (HI.out _ (List.mem_of_getElem? hx))
            have HY := Lib.hid (HI.out _ (List.mem_of_getElem? hy))
            obtain ⟨b, off, rfl, hbw, c0, c1, c2, c3⟩ := H.out.Peer_at hx
            obtain ⟨b2, off2, hA2, _, y0, y1, y2, y3⟩ := H.out.Peer_at hy
            injection hA2 with hA2
            injection hA2 with e1 e2 _
            subst e1
            subst e2
            generalize hxe : l[k]'hlt = x at hx c0 c1 c2 c3 HX
            generalize hye : l[bb]'hbb = y at hy y0 y1 y2 y3 HY
            have HAB := Lib.hid (fun (W' : World) (hb : Below w.heap.size w W') => zabAhead x y W' (HX.out.below hb) (HY.out.below hb))
            generalize hab : aheadB x y = ab at HAB
            have HEQ := Lib.hid hab
            clear hab
            go_wp2_with fail
            go_region_held3 (fun w' => w'.cell? ⟨w.heap.size + ext.size, 0, none⟩ = some (.int .i64 x.id) ∧ w'.cell? ⟨w.heap.size + ext.size, 1, none⟩ = some (.int .i64 x.epoch) ∧ w'.cell? ⟨w.heap.size + ext.size, 2, none⟩ = some (.slice x.la x.log.length x.lc) ∧ w'.cell? ⟨w.heap.size + ext.size, 3, none⟩ = some (.int .i64 x.done_) ∧ w'.cell? ⟨b, off + bb * 4, none⟩ = some (.int .i64 y.id) ∧ w'.cell? ⟨b, off + bb * 4 + 1, none⟩ = some (.int .i64 y.epoch) ∧ w'.cell? ⟨b, off + bb * 4 + 2, none⟩ = some (.slice y.la y.log.length y.lc) ∧ w'.cell? ⟨b, off + bb * 4 + 3, none⟩ = some (.int .i64 y.done_)) (refine ⟨?_, ?_, ?_, ?_, ?_, ?_, ?_, ?_⟩ <;> go_simp) (first | (go_at_call 46; refine (HAB.out _ (by repeat (first | exact Below.refl _ _ | assumption | refine Below.drew ?_ | refine Below.drewN' ?_ _ | refine below_grow0 _ _ ?_ | refine below_alloc0 _ ?_ | refine Below.alloc ?_ (by first | omega | (simp; done) | (simp; omega)) _ | refine Below.setCell ?_ (by first | omega | (simp; done) | (simp; omega)) _ | refine Below.grow _ _ _ ?_ (by first | omega | (simp; done) | (simp; omega))))).mono ?_; rintro e w1 ⟨rfl, hb⟩; obtain ⟨ext3, d3, rfl⟩ := Below.grown_eq _ hb; clear hb))
            have HL := Lib.hid (fun (W' : World) (hb : Below w.heap.size w W') => walLast _ _ _ (HX.out.below hb).1)
            cases ab with
            | true =>
              go_wp2_with fail
              go_region_held3 (fun w' => w'.cell? ⟨w.heap.size + ext.size, 1, none⟩ = some (.int .i64 x.epoch) ∧ w'.cell? ⟨w.heap.size + ext.size, 2, none⟩ = some (.slice x.la x.log.length x.lc)) (refine ⟨?_, ?_⟩ <;> go_simp) (first | (go_at_call 32; refine (HL.out _ (by repeat (first | exact Below.refl _ _ | assumption | refine Below.drew ?_ | refine Below.drewN' ?_ _ | refine below_grow0 _ _ ?_ | refine below_alloc0 _ ?_ | refine Below.alloc ?_ (by first | omega | (simp; done) | (simp; omega)) _ | refine Below.setCell ?_ (by first | omega | (simp; done) | (simp; omega)) _ | refine Below.grow _ _ _ ?_ (by first | omega | (simp; done) | (simp; omega))))).mono ?_; rintro e w1 ⟨rfl, rfl⟩; skip) | (go_at_call 19; refine (zepoch_any _ _).mono ?_; rintro e w1 ⟨rfl, rfl⟩; skip))
              all_goals
                go_wp2_with fail
                go_roundw
                case rel => exact ⟨k + 1, k, _, _, by omega, by go_num, rfl, by omega, by rw [topE_succ hx], grown_of (by repeat (first | exact Below.refl _ _ | assumption | refine Below.drew ?_ | refine Below.drewN' ?_ _ | refine below_grow0 _ _ ?_ | refine below_alloc0 _ ?_ | refine Below.alloc ?_ (by first | omega | (simp; done) | (simp; omega)) _ | refine Below.setCell ?_ (by first | omega | (simp; done) | (simp; omega)) _ | refine Below.grow _ _ _ ?_ (by first | omega | (simp; done) | (simp; omega)))), Lib.hid (best_yes hbest.out hx hy HEQ.out)⟩
                case measure => simp [intOf]; omega
            | false =>
              go_wp2_with fail
              go_region_held3 (fun w' => w'.cell? ⟨w.heap.size + ext.size, 1, none⟩ = some (.int .i64 x.epoch) ∧ w'.cell? ⟨w.heap.size + ext.size, 2, none⟩ = some (.slice x.la x.log.length x.lc)) (refine ⟨?_, ?_⟩ <;> go_simp) (first | (go_at_call 32; refine (HL.out _ (by repeat (first | exact Below.refl _ _ | assumption | refine Below.drew ?_ | refine Below.drewN' ?_ _ | refine below_grow0 _ _ ?_ | refine below_alloc0 _ ?_ | refine Below.alloc ?_ (by first | omega | (simp; done) | (simp; omega)) _ | refine Below.setCell ?_ (by first | omega | (simp; done) | (simp; omega)) _ | refine Below.grow _ _ _ ?_ (by first | omega | (simp; done) | (simp; omega))))).mono ?_; rintro e w1 ⟨rfl, rfl⟩; skip) | (go_at_call 19; refine (zepoch_any _ _).mono ?_; rintro e w1 ⟨rfl, rfl⟩; skip))
              all_goals
                go_wp2_with fail
                go_roundw
                case rel => exact ⟨k + 1, bb, _, _, by omega, by go_num, rfl, by omega, by rw [topE_succ hx], grown_of (by repeat (first | exact Below.refl _ _ | assumption | refine Below.drew ?_ | refine Below.drewN' ?_ _ | refine below_grow0 _ _ ?_ | refine below_alloc0 _ ?_ | refine Below.alloc ?_ (by first | omega | (simp; done) | (simp; omega)) _ | refine Below.setCell ?_ (by first | omega | (simp; done) | (simp; omega)) _ | refine Below.grow _ _ _ ?_ (by first | omega | (simp; done) | (simp; omega)))), Lib.hid (best_no hbest.out hx hy HEQ.out HG.out.2)⟩
                case measure => simp [intOf]; omega
          · have hk' : k = l.length := by omega
            subst hk'
            rw [List.take_length]
            by_cases ht : topE l < 2147483647
            · have ht0 := topE_nonneg l
              have hS : Sound l := ⟨HG.out.1, HG.out.2, h2, ht⟩
              go_wp2_with fail
              refine bodyPost_ret (v := .tuple #[.int .i64 bb, .int .i64 (topE l + 1), .int .i64 0]) (by simp [results, Try.results29, go_sem]) rfl ⟨.inr ⟨hS, bb, hbb, fun i x y hi hx hy => hbest.out.2 i x y ?_ hi hx hy, rfl⟩, (by repeat (first | exact Below.refl _ _ | assumption | refine Below.drew ?_ | refine Below.drewN' ?_ _ | refine below_grow0 _ _ ?_ | refine below_alloc0 _ ?_ | refine Below.alloc ?_ (by first | omega | (simp; done) | (simp; omega)) _ | refine Below.setCell ?_ (by first | omega | (simp; done) | (simp; omega)) _ | refine Below.grow _ _ _ ?_ (by first | omega | (simp; done) | (simp; omega))))⟩
              exact (List.getElem?_eq_some_iff.1 hy).1
            · go_wp2_with fail
              refine bodyPost_ret (v := .tuple #[.int .i64 0, .int .i64 0, .int .i64 6]) (by simp [results, Try.results29, go_sem]) rfl ⟨.inl ⟨6, by decide, fun hs => by have := hs.2.2.2; omega, rfl⟩, (by repeat (first | exact Below.refl _ _ | assumption | refine Below.drew ?_ | refine Below.drewN' ?_ _ | refine below_grow0 _ _ ?_ | refine below_alloc0 _ ?_ | refine Below.alloc ?_ (by first | omega | (simp; done) | (simp; omega)) _ | refine Below.setCell ?_ (by first | omega | (simp; done) | (simp; omega)) _ | refine Below.grow _ _ _ ?_ (by first | omega | (simp; done) | (simp; omega))))⟩
      · go_wp2_with (first | (go_at_call 45; refine (zabQuorum _).mono ?_; rintro e w1 ⟨rfl, rfl⟩; skip))
        refine bodyPost_ret (v := .tuple #[.int .i64 0, .int .i64 0, .int .i64 14]) (by simp [results, Try.results29, go_sem]) rfl ⟨.inl ⟨14, by decide, fun hs => ?_, rfl⟩, (by repeat (first | exact Below.refl _ _ | assumption | refine Below.drew ?_ | refine Below.drewN' ?_ _ | refine below_grow0 _ _ ?_ | refine below_alloc0 _ ?_ | refine Below.alloc ?_ (by first | omega | (simp; done) | (simp; omega)) _ | refine Below.setCell ?_ (by first | omega | (simp; done) | (simp; omega)) _ | refine Below.grow _ _ _ ?_ (by first | omega | (simp; done) | (simp; omega))))⟩
        exact h2 hs.2.2.1
end Go.Proofs.Ytahcmfnpfepimaa
