/- zab.Committed. -/
import Derived.Test.YtahcmfnpfepimaaZabSteps
import Derived.Test.YtahcmfnpfepimaaFire
namespace Go.Proofs.Ytahcmfnpfepimaa
open Go.RowKit Go.ChangeShapes Go.WideShapes Go.ChangeAt
structure Log where
  la : Option Addr
  lc : Nat
  log : List Txn
def cLog (x : Log) : List Value := [.slice x.la x.log.length x.lc]
theorem cLog_one : ∀ x : Log, ∀ u ∈ cLog x, u.oneCell' = true := by
  intro x u hu
  simp [cLog] at hu
  subst hu
  rfl
theorem elLog : El Try.prog 69 49 (.slice none 0 0) 1 24 := ⟨Try.underlying69, by kernel_rfl, rfl, by decide⟩
def Log.In (w : World) (p : Log) : Prop := Sl cTxn 7 w (.slice p.la p.log.length p.lc) p.log ∧ p.log.length * 72 ≤ 140737488351232
theorem Log.In.below {w w' : World} {p : Log} (h : p.In w) (hb : Below w.heap.size w w') : p.In w' := ⟨h.1.below hb, h.2⟩
theorem Sl.Log_at {w : World} {A : Option Addr} {n c : Nat} {l : List Log} (h : Sl cLog 1 w (.slice A n c) l) {i : Nat} {x : Log} (hx : l[i]? = some x) : ∃ b off, A = some ⟨b, off, none⟩ ∧ b < w.heap.size ∧ w.cell? ⟨b, off + i, none⟩ = some (.slice x.la x.log.length x.lc) := by
  obtain ⟨b, off, rfl, hb, hc⟩ := h.at_ hx
  exact ⟨b, off, rfl, hb, by have := hc 0 _ rfl; simpa using this⟩
def sameT (x y : Txn) : Bool := decide (x.zxid = y.zxid) && (decide (x.op = y.op) && (decide (x.session = y.session) && (decide (x.path = y.path) && (decide (x.data = y.data) && (decide (x.version = y.version) && decide (x.owner = y.owner))))))
theorem eql_txn (x y : Txn) (w : World) : (binOp .eql 72 (.agg #[.int .i64 x.zxid, .int .i64 x.op, .int .i64 x.session, .string x.path, .string x.data, .int .i64 x.version, .int .i64 x.owner]) (.agg #[.int .i64 y.zxid, .int .i64 y.op, .int .i64 y.session, .string y.path, .string y.data, .int .i64 y.version, .int .i64 y.owner])).run Try.prog w = .ok (.bool (sameT x y)) w := by
  simp [go_sem]
  unfold sameT
  (repeat' split) <;> simp_all
theorem sameT_self (x : Txn) : sameT x x = true := by simp [sameT]
def hasT (m : List Txn) (i : Nat) (y : Txn) : Bool := match m[i]? with | some x => sameT x y | none => false
def haveN (l : List Log) (i : Nat) (y : Txn) : Nat := (l.filter (fun m => hasT m.log i y)).length
theorem haveN_succ {l : List Log} {k i : Nat} {m : Log} {y : Txn} (h : l[k]? = some m) : haveN (l.take (k + 1)) i y = haveN (l.take k) i y + (if hasT m.log i y then 1 else 0) := by
  unfold haveN
  rw [List.take_add_one, h, List.filter_append, List.length_append]
  cases hh : hasT m.log i y <;> simp [hh]
theorem haveN_le (l : List Log) (i : Nat) (y : Txn) : haveN l i y ≤ l.length := List.length_filter_le _ _
/-- how many are committed -/
def ComIs (l : List Log) (l0 : List Txn) (n : Nat) : Prop := n ≤ l0.length ∧ (∀ (i : Nat) (y : Txn), i < n → l0[i]? = some y → 2 ≤ haveN l i y) ∧ (∀ (y : Txn), l0[n]? = some y → haveN l n y < 2)
set_option maxHeartbeats 2000000 in
theorem zabCommitted (v : Value) (l : List Log) (x0 : Log) (w : World) (h : Sl cLog 1 w v l) (hin : ∀ p ∈ l, p.In w) (h0 : l[0]? = some x0) (hn : l.length ≤ 140737488355328) :
    Calls Try.prog 38 #[v] w fun e w' => (∃ n : Nat, e = .returned (.int .i64 n) ∧ ComIs l x0.log n) ∧ Below w.heap.size w w' := by
  obtain ⟨A, c, rfl, hc1, hc2⟩ := h.form
  have H := Lib.hid h
  have HI := Lib.hid hin
  obtain ⟨b, off, rfl, hbw, z0⟩ := h.Log_at h0
  have HX0 := Lib.hid (hin _ (List.mem_of_getElem? h0))
  have hlen : 0 < l.length := (List.getElem?_eq_some_iff.1 h0).1
  have hx0n : x0.log.length ≤ 140737488355328 := by have := HX0.out.2; omega
  rw [Nat.add_zero] at z0
  have hl0 : ((l.length : Int) == 0) = false := beq_eq_false_iff_ne.2 (by omega)
  clear h hin h0
  go_enter Try.func38, Try.ntmps38
  go_wp2_with fail
  go_loopw [3] (fun i wr => ∃ (n : Nat) (ext : Array Obj) (d : Nat), n ≤ x0.log.length ∧ i = .int .i64 n ∧ wr = grow w ext d ∧ Hid (∀ (i : Nat) (y : Txn), i < n → x0.log[i]? = some y → 2 ≤ haveN l i y)) (fun i _ => x0.log.length - (intOf i).toNat)
  case atStart => exact ⟨0, _, _, Nat.zero_le _, rfl, grown_of (by repeat (first | exact Below.refl _ _ | assumption | refine Below.drew ?_ | refine Below.drewN' ?_ _ | refine below_grow0 _ _ ?_ | refine below_alloc0 _ ?_ | refine Below.alloc ?_ (by first | omega | (simp; done) | (simp; omega)) _ | refine Below.setCell ?_ (by first | omega | (simp; done) | (simp; omega)) _ | refine Below.grow _ _ _ ?_ (by first | omega | (simp; done) | (simp; omega)))), Lib.hid (fun i y hi => absurd hi (by omega))⟩
  case round =>
    obtain ⟨n, ext, d, hnn, rfl, rfl, hcom⟩ := hrel
    by_cases hlt : n < x0.log.length
    · have hy : x0.log[n]? = some (x0.log[n]'hlt) := List.getElem?_eq_getElem _
      obtain ⟨b0, off0, hA0, _, t0, t1, t2, t3, t4, t5, t6⟩ := HX0.out.1.Txn_at hy
      generalize x0.log[n]'hlt = y at *
      have HY := Lib.hid hy
      clear hy
      go_wp2_with fail
      go_loopw [4, 18] (fun q i wr => ∃ (k : Nat) (ext : Array Obj) (d : Nat), k ≤ l.length ∧ i = .int .i64 k ∧ q = .int .i64 (haveN (l.take k) n y) ∧ wr = grow w ext d) (fun _ i _ => l.length - (intOf i).toNat)
      case atStart => exact ⟨0, _, _, Nat.zero_le _, rfl, rfl, grown_of (by repeat (first | exact Below.refl _ _ | assumption | refine Below.drew ?_ | refine Below.drewN' ?_ _ | refine below_grow0 _ _ ?_ | refine below_alloc0 _ ?_ | refine Below.alloc ?_ (by first | omega | (simp; done) | (simp; omega)) _ | refine Below.setCell ?_ (by first | omega | (simp; done) | (simp; omega)) _ | refine Below.grow _ _ _ ?_ (by first | omega | (simp; done) | (simp; omega))))⟩
      case round =>
        obtain ⟨k, ext2, d2, hk, rfl, rfl, rfl⟩ := hrel
        by_cases hlt2 : k < l.length
        · have hm : l[k]? = some (l[k]'hlt2) := List.getElem?_eq_getElem _
          obtain ⟨b2, off2, hA2, _, m0⟩ := H.out.Log_at hm
          injection hA2 with hA2
          injection hA2 with e1 e2 _
          subst e1
          subst e2
          have HM := Lib.hid (HI.out _ (List.mem_of_getElem? hm))
          have HSU := Lib.hid (haveN_succ (i := n) (y := y) hm)
          have hle := haveN_le (l.take k) n y
          rw [List.length_take] at hle
          have hle2 : haveN (l.take k) n y ≤ k := by omega
          generalize l[k]'hlt2 = m at *
          generalize haveN (l.take k) n y = hv at *
          clear hm hle
          by_cases hmn : n < m.log.length
          · have hz : m.log[n]? = some (m.log[n]'hmn) := List.getElem?_eq_getElem _
            obtain ⟨b3, off3, hA3, _, s0, s1, s2, s3, s4, s5, s6⟩ := HM.out.1.Txn_at hz
            have hht : hasT m.log n y = sameT (m.log[n]'hmn) y := by unfold hasT; rw [hz]
            generalize m.log[n]'hmn = z at *
            have HT := Lib.hid hht
            have qE := fun w => eql_txn z y w
            generalize sameT z y = tb at *
            clear hht hz
            cases tb with
            | true =>
              go_wp2_with fail
              go_quiet (fail)
              go_wp2_with fail
              go_roundw
              case rel => exact ⟨k + 1, _, _, by omega, by go_num, by rw [HSU.out, HT.out]; go_num, grown_of (by repeat (first | exact Below.refl _ _ | assumption | refine Below.drew ?_ | refine Below.drewN' ?_ _ | refine below_grow0 _ _ ?_ | refine below_alloc0 _ ?_ | refine Below.alloc ?_ (by first | omega | (simp; done) | (simp; omega)) _ | refine Below.setCell ?_ (by first | omega | (simp; done) | (simp; omega)) _ | refine Below.grow _ _ _ ?_ (by first | omega | (simp; done) | (simp; omega))))⟩
              case measure => simp [intOf]; omega
            | false =>
              go_wp2_with fail
              go_quiet (fail)
              go_wp2_with fail
              go_roundw
              case rel => exact ⟨k + 1, _, _, by omega, by go_num, by rw [HSU.out, HT.out]; go_num, grown_of (by repeat (first | exact Below.refl _ _ | assumption | refine Below.drew ?_ | refine Below.drewN' ?_ _ | refine below_grow0 _ _ ?_ | refine below_alloc0 _ ?_ | refine Below.alloc ?_ (by first | omega | (simp; done) | (simp; omega)) _ | refine Below.setCell ?_ (by first | omega | (simp; done) | (simp; omega)) _ | refine Below.grow _ _ _ ?_ (by first | omega | (simp; done) | (simp; omega))))⟩
              case measure => simp [intOf]; omega
          · have hht : hasT m.log n y = false := by unfold hasT; rw [List.getElem?_eq_none (by omega)]
            have HT := Lib.hid hht
            clear hht
            go_wp2_with fail
            go_quiet (fail)
            go_wp2_with fail
            go_roundw
            case rel => exact ⟨k + 1, _, _, by omega, by go_num, by rw [HSU.out, HT.out]; go_num, grown_of (by repeat (first | exact Below.refl _ _ | assumption | refine Below.drew ?_ | refine Below.drewN' ?_ _ | refine below_grow0 _ _ ?_ | refine below_alloc0 _ ?_ | refine Below.alloc ?_ (by first | omega | (simp; done) | (simp; omega)) _ | refine Below.setCell ?_ (by first | omega | (simp; done) | (simp; omega)) _ | refine Below.grow _ _ _ ?_ (by first | omega | (simp; done) | (simp; omega))))⟩
            case measure => simp [intOf]; omega
        · have hk' : k = l.length := by omega
          subst hk'
          rw [List.take_length]
          have hle := haveN_le l n y
          have HC2 := Lib.hid (fun (h : 2 ≤ haveN l n y) (i : Nat) (y' : Txn) (hi : i < n + 1) (hy' : x0.log[i]? = some y') => show 2 ≤ haveN l i y' from by
            rcases Nat.lt_or_ge i n with h' | h'
            · exact hcom.out i y' h' hy'
            · obtain rfl : i = n := by omega
              rw [HY.out] at hy'
              cases hy'
              exact h)
          have HC3 := Lib.hid (fun (h : haveN l n y < 2) => show ComIs l x0.log n from ⟨by omega, hcom.out, fun y' hy' => by
            rw [HY.out] at hy'
            cases hy'
            exact h⟩)
          generalize haveN l n y = hv at *
          by_cases h2 : 2 ≤ hv
          · go_wp2_with (first | (go_at_call 45; refine (zabQuorum _).mono ?_; rintro e w1 ⟨rfl, rfl⟩; skip))
            go_roundw
            case rel => exact ⟨n + 1, _, _, by omega, by go_num, grown_of (by repeat (first | exact Below.refl _ _ | assumption | refine Below.drew ?_ | refine Below.drewN' ?_ _ | refine below_grow0 _ _ ?_ | refine below_alloc0 _ ?_ | refine Below.alloc ?_ (by first | omega | (simp; done) | (simp; omega)) _ | refine Below.setCell ?_ (by first | omega | (simp; done) | (simp; omega)) _ | refine Below.grow _ _ _ ?_ (by first | omega | (simp; done) | (simp; omega)))), Lib.hid (HC2.out h2)⟩
            case measure => simp [intOf]; omega
          · go_wp2_with (first | (go_at_call 45; refine (zabQuorum _).mono ?_; rintro e w1 ⟨rfl, rfl⟩; skip))
            go_ret
            exact ⟨⟨n, rfl, HC3.out (by omega)⟩, (by repeat (first | exact Below.refl _ _ | assumption | refine Below.drew ?_ | refine Below.drewN' ?_ _ | refine below_grow0 _ _ ?_ | refine below_alloc0 _ ?_ | refine Below.alloc ?_ (by first | omega | (simp; done) | (simp; omega)) _ | refine Below.setCell ?_ (by first | omega | (simp; done) | (simp; omega)) _ | refine Below.grow _ _ _ ?_ (by first | omega | (simp; done) | (simp; omega))))⟩
    · have hn' : n = x0.log.length := by omega
      subst hn'
      go_wp2_with fail
      go_ret
      exact ⟨⟨_, rfl, Nat.le_refl _, hcom.out, fun y hy => absurd (List.getElem?_eq_some_iff.1 hy).1 (by omega)⟩, (by repeat (first | exact Below.refl _ _ | assumption | refine Below.drew ?_ | refine Below.drewN' ?_ _ | refine below_grow0 _ _ ?_ | refine below_alloc0 _ ?_ | refine Below.alloc ?_ (by first | omega | (simp; done) | (simp; omega)) _ | refine Below.setCell ?_ (by first | omega | (simp; done) | (simp; omega)) _ | refine Below.grow _ _ _ ?_ (by first | omega | (simp; done) | (simp; omega))))⟩
end Go.Proofs.Ytahcmfnpfepimaa
