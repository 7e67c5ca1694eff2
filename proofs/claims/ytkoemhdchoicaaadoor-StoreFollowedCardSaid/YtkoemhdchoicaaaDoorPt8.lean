/- Lemmas for the statement: TornL, Dec, Zread, Zplain, Zep, StoreA, Dsk, TreeM, Srv, OrdE. -/
import Derived.Lib.ItoaNum
import Derived.Lib.SmallJoins
import Derived.Deep.RegionHeld3
import Derived.OrdersHeld
import Derived.Deep.RegionHeld
import Derived.Test.YtkoemhdchoicaaaDoorPt1
import Derived.Test.YtkoemhdchoicaaaDoorPt2
import Derived.Test.YtkoemhdchoicaaaDoorPt3
import Derived.Test.YtkoemhdchoicaaaDoorPt4
import Derived.Test.YtkoemhdchoicaaaDoorPt5
import Derived.Test.YtkoemhdchoicaaaDoorPt6
import Derived.Test.YtkoemhdchoicaaaDoorPt7
/- Plain laws for a log whose last transaction was not made safe. -/
namespace Go.Proofs.YtkoemhdchoicaaaDoor
open Go.RowKit Go.ChangeShapes Go.WideShapes Go.ChangeAt
theorem Sl.pre2 {α : Type} {f : α → List Value} {s : Nat} {w : World} {A : Option Addr} {n c : Nat} {l m : List α} (h : Sl f s w (.slice A n c) m) (hp : l <+: m) : Sl f s w (.slice A l.length c) l := by
  obtain ⟨t, rfl⟩ := hp
  obtain ⟨A', c', he, h1, h2, h3, h4⟩ := h
  injection he with e1 e2 e3
  subst e1; subst e3
  refine ⟨A, c, by simp, by simp at h1 ⊢; omega, h2, fun x hx => h3 x (by rw [List.map_append]; exact List.mem_append_left _ hx), fun hpos => ?_⟩
  obtain ⟨b, off, r1, r2, r3⟩ := h4 (by simp at hpos ⊢; omega)
  refine ⟨b, off, r1, r2, fun i x hx j u hu => r3 i x ?_ j u hu⟩
  rw [List.map_append, List.getElem?_append_left (List.getElem?_eq_some_iff.1 hx).1, hx]
theorem noB_add (s : ByteArray) : noB ++ s = s := by
  apply bs_inj
  rw [bs_append]
  rfl
theorem one_write {S T s : ByteArray} (h : S.size + T.size + s.size ≤ 1048576) : writeE [⟨logN, S, T⟩] logN s = 0 ∧ writeL [⟨logN, S, T⟩] logN s = [⟨logN, S, T ++ s⟩] := by
  have hg := one_good (S := S) (T := T) (by omega)
  have e : writeE [⟨logN, S, T⟩] logN s = 0 := by
    unfold writeE
    rw [hg, named_log, if_pos rfl, if_pos rfl, (one_at S T).1, if_pos rfl, (one_at S T).2.1, if_pos]
    exact h
  obtain ⟨_, h2, _⟩ := write_ok e
  refine ⟨e, ?_⟩
  rw [h2, put_one]
  have ho : fileOr [⟨logN, S, T⟩] logN = ⟨logN, S, T⟩ := by
    unfold fileOr
    rw [(one_at S T).1, if_pos rfl, (one_at S T).2.1]
  rw [ho]
theorem logF_D (l : List Txn) (t : Txn) : logF (l ++ [t]) = logD (l ++ [t]) := by
  unfold logD
  rw [if_neg (by simp)]
theorem app_F {m : List Txn} {t : Txn} (ht : goodT t = 0) (h : (recs (m ++ [t])).length ≤ 1048576) : appL (logF m) t true = logD (m ++ [t]) ∧ appE (logF m) t true = 0 := by
  have he : encR t = bS (recT t) := if_pos ht
  rw [recs_app, recs_one, List.length_append] at h
  have hz : (bS (recs m)).size + (noB ++ bS (recT t)).size ≤ 1048576 := by
    rw [noB_add, bS_size, bS_size]; exact h
  have hw := one_write (S := bS (recs m)) (T := noB) (s := bS (recT t)) (by rw [bS_size (recs m), bS_size (recT t)]; show _ + 0 + _ ≤ _; omega)
  unfold appL appE
  rw [if_pos ht, if_pos ht, he, hw.1, hw.2, if_pos ⟨rfl, rfl⟩, if_pos ⟨rfl, rfl⟩, one_sync hz, (one_read hz).1]
  refine ⟨?_, rfl⟩
  unfold logD
  rw [if_neg (by simp), recs_snoc, noB_add]
/-- the disk behind a crash -/
abbrev tornF (m : List Txn) (t : Txn) (n : Nat) : List File := [⟨logN, bS (recs m) ++ (bS (recT t)).extract 0 (min n (bS (recT t)).size), noB⟩]
theorem torn_crash {m : List Txn} {t : Txn} (h : (recs (m ++ [t])).length ≤ 42271) (n : Nat) : crashE [⟨logN, bS (recs m), bS (recT t)⟩] n = 0 ∧ crashL [⟨logN, bS (recs m), bS (recT t)⟩] n = tornF m t n := by
  rw [recs_app, recs_one, List.length_append] at h
  exact one_crash (by rw [bS_size, bS_size]; omega) n
theorem torn_size {m : List Txn} {t : Txn} (h : (recs (m ++ [t])).length ≤ 42271) (n : Nat) : (bS (recs m) ++ (bS (recT t)).extract 0 (min n (bS (recT t)).size)).size ≤ 42271 := by
  rw [recs_app, recs_one, List.length_append] at h
  rw [ByteArray.size_append, ByteArray.size_extract, bS_size, bS_size]
  omega
theorem tornF_sized {m : List Txn} {t : Txn} (h : (recs (m ++ [t])).length ≤ 42271) (n : Nat) : ∀ x ∈ tornF m t n, x.sized := by
  intro x hx
  rw [List.mem_singleton.1 hx]
  refine ⟨(by decide : logN.size ≤ _), ?_, (by decide : noB.size ≤ _)⟩
  have := torn_size h n
  show (bS (recs m) ++ (bS (recT t)).extract 0 (min n (bS (recT t)).size)).size ≤ _
  omega
theorem torn_all {m : List Txn} {t : Txn} {n : Nat} {l : List Txn} {f' : List File} {e : Int} (hm : LogOk (m ++ [t])) (hz : (recs (m ++ [t])).length ≤ 42271) (hn : (bS (recT t)).size ≤ n) (h : RecIs (tornF m t n) l f' e) : e = 0 ∧ l = m ++ [t] ∧ f' = logF (m ++ [t]) := by
  refine rec_one hm (rest := []) ?_ ?_ (noNext_nil _) h
  · have := torn_size hz n
    show _ + 0 ≤ _
    omega
  · rw [Nat.min_eq_right hn, bs_append, bs_append, bs_extractTD, bs_bS, bs_bS, List.drop_zero, List.take_of_length_le (by rw [bS_size]; exact Nat.le_refl _), recs_app, recs_one, List.append_nil]
    exact List.append_nil _
theorem torn_some {m : List Txn} {t : Txn} {n : Nat} {l : List Txn} {f' : List File} {e : Int} (hm : LogOk (m ++ [t])) (hz : (recs (m ++ [t])).length ≤ 42271) (hn : n < (bS (recT t)).size) (h : RecIs (tornF m t n) l f' e) : e = 0 ∧ l = m ∧ f' = logF m := by
  have hm2 : LogOk m := ⟨fun x hx => hm.1 x (List.mem_append_left _ hx), hm.2.sublist (List.sublist_append_left _ _)⟩
  refine rec_one hm2 (rest := (recT t).take n) ?_ ?_ (noNext_cut (hm.1 t (by simp)) _ (by rw [bS_size] at hn; exact hn)) h
  · have := torn_size hz n
    show _ + 0 ≤ _
    omega
  · rw [Nat.min_eq_left (Nat.le_of_lt hn), bs_append, bs_append, bs_extractTD, bs_bS, bs_bS, List.drop_zero]
    exact List.append_nil _
end Go.Proofs.YtkoemhdchoicaaaDoor

/- Decimal numerals, written and read: plain laws. -/
namespace Go.Proofs.YtkoemhdchoicaaaDoor
open Go.RowKit
theorem dec_digits (u : Nat) : (Lib.decDigits u).all digit = true ∧ valD (Lib.decDigits u) = u := by
  induction u using Nat.strongRecOn with
  | ind u ih =>
    have one : ∀ d, d < 10 → digit (UInt8.ofNat (48 + d)) = true ∧ (UInt8.ofNat (48 + d)).toNat = 48 + d := by
      intro d hd
      have : (UInt8.ofNat (48 + d)).toNat = 48 + d := by simp; omega
      refine ⟨?_, this⟩
      unfold digit
      rw [this]
      exact decide_eq_true (by omega)
    by_cases h : u < 10
    · rw [Lib.decDigits, dif_pos h]
      obtain ⟨h1, h2⟩ := one u h
      refine ⟨by rw [List.all_cons, h1]; rfl, ?_⟩
      show 0 * 10 + ((UInt8.ofNat (48 + u)).toNat - 48) = u
      rw [h2]; omega
    · rw [Lib.decDigits, dif_neg h]
      obtain ⟨h1, h2⟩ := one (u % 10) (by omega)
      obtain ⟨i1, i2⟩ := ih (u / 10) (by omega)
      refine ⟨by rw [List.all_append, i1, List.all_cons, h1]; rfl, ?_⟩
      rw [valD_snoc, i2, h2]
      omega
theorem dec_len : ∀ (k u : Nat), u < 10 ^ (k + 1) → (Lib.decDigits u).length ≤ k + 1
  | 0, u, h => by rw [Lib.decDigits, dif_pos (by simpa using h)]; simp
  | k + 1, u, h => by
    by_cases h10 : u < 10
    · rw [Lib.decDigits, dif_pos h10]; simp
    · rw [Lib.decDigits, dif_neg h10, List.length_append]
      have := dec_len k (u / 10) (by rw [Nat.pow_succ] at h; omega)
      simp
      omega
theorem dec_ne (u : Nat) : 0 < (Lib.decDigits u).length := by
  rw [Lib.decDigits]
  split <;> simp
theorem dec_head (u : Nat) (h : 1 ≤ u) : (Lib.decDigits u)[0]? ≠ some 48 := by
  induction u using Nat.strongRecOn with
  | ind u ih =>
    by_cases h10 : u < 10
    · rw [Lib.decDigits, dif_pos h10]
      intro e
      have e2 : UInt8.ofNat (48 + u) = 48 := by simpa using e
      have := congrArg UInt8.toNat e2
      simp at this
      omega
    · rw [Lib.decDigits, dif_neg h10, List.getElem?_append_left (dec_ne _)]
      exact ih (u / 10) (by omega) (by omega)
theorem dec_small {u : Nat} (h : u < 10000000000) : smallOk (Lib.decDigits u) = true ∧ smallV (Lib.decDigits u) = u := by
  obtain ⟨h1, h2⟩ := dec_digits u
  have hl := dec_len 9 u h
  have hn := dec_ne u
  have hok : smallOk (Lib.decDigits u) = true := by
    unfold smallOk
    have hne : Lib.decDigits u ≠ [] := by intro e; rw [e] at hn; simp at hn
    rw [decide_eq_true hne, decide_eq_true hl, h1]
    have : (decide (1 < (Lib.decDigits u).length) && decide ((Lib.decDigits u)[0]? = some 48)) = false := by
      by_cases hu : 1 ≤ u
      · rw [decide_eq_false (dec_head u hu)]; simp
      · have : u = 0 := by omega
        subst this
        rw [Lib.decDigits, dif_pos (by decide)]
        rfl
    rw [this]
    rfl
  exact ⟨hok, by unfold smallV; rw [hok, h2]; rfl⟩
theorem fold_ge : ∀ (l : List UInt8) (n : Nat), 1 ≤ n → 1 ≤ l.foldl (fun n c => n * 10 + (c.toNat - 48)) n
  | [], _, h => h
  | c :: r, n, h => fold_ge r (n * 10 + (c.toNat - 48)) (by omega)
theorem valD_pos {l : List UInt8} (hd : l.all digit = true) (h0 : 0 < l.length) (h48 : l[0]? ≠ some 48) : 1 ≤ valD l := by
  cases l with
  | nil => simp at h0
  | cons c r =>
    have hc : digit c = true := List.all_eq_true.1 hd c List.mem_cons_self
    unfold digit at hc
    rw [decide_eq_true_iff] at hc
    have : c.toNat ≠ 48 := fun e => h48 (by
      have e2 : c = 48 := UInt8.toNat_inj.1 e
      rw [e2]; rfl)
    exact fold_ge r (0 * 10 + (c.toNat - 48)) (by omega)
theorem dec_val : ∀ (n : Nat) (l : List UInt8), l.length = n + 1 → l.all digit = true → (1 < l.length → l[0]? ≠ some 48) → Lib.decDigits (valD l) = l := by
  intro n
  induction n with
  | zero =>
    intro l hl hd _
    obtain ⟨c, rfl⟩ := List.length_eq_one_iff.1 hl
    have hc : digit c = true := by simpa using hd
    unfold digit at hc
    rw [decide_eq_true_iff] at hc
    have hv : valD [c] = c.toNat - 48 := by unfold valD; simp
    rw [hv, Lib.decDigits, dif_pos (by omega), show 48 + (c.toNat - 48) = c.toNat by omega]
    simp
  | succ n ih =>
    intro l hl hd hz
    obtain ⟨i, c, rfl⟩ : ∃ i c, l = i ++ [c] := ⟨l.dropLast, l.getLast (by intro e; rw [e] at hl; simp at hl), (List.dropLast_concat_getLast _).symm⟩
    have hil : i.length = n + 1 := by simpa using hl
    rw [List.all_append, Bool.and_eq_true] at hd
    have hc : digit c = true := by simpa using hd.2
    unfold digit at hc
    rw [decide_eq_true_iff] at hc
    have h0 : (i ++ [c])[0]? = i[0]? := List.getElem?_append_left (by omega)
    have hz2 : i[0]? ≠ some 48 := by rw [← h0]; exact hz (by simp; omega)
    have hp := valD_pos hd.1 (by omega) hz2
    have hr := ih i hil hd.1 (fun _ => hz2)
    rw [valD_snoc, Lib.decDigits, dif_neg (by omega)]
    have e1 : (valD i * 10 + (c.toNat - 48)) / 10 = valD i := by omega
    have e2 : (valD i * 10 + (c.toNat - 48)) % 10 = c.toNat - 48 := by omega
    rw [e1, e2, hr, show 48 + (c.toNat - 48) = c.toNat by omega]
    simp
theorem small_dec {l : List UInt8} (h : smallOk l = true) : ∃ v : Nat, smallV l = v ∧ Lib.decDigits v = l ∧ v < 10000000000 := by
  have hv : smallV l = (valD l : Nat) := by unfold smallV; rw [h]; rfl
  unfold smallOk at h
  simp only [Bool.and_eq_true, decide_eq_true_iff, Bool.not_eq_true', Bool.and_eq_false_iff, decide_eq_false_iff_not] at h
  obtain ⟨h1, h2, h3, h4⟩ := h
  have h0 : 0 < l.length := by cases l with
    | nil => exact absurd rfl h1
    | cons _ _ => simp
  refine ⟨valD l, hv, ?_, ?_⟩
  · refine dec_val (l.length - 1) l (by omega) h4 fun hlt => ?_
    rcases h3 with h | h
    · exact absurd hlt h
    · exact h
  · have := valD_lt l h4 l.length (Nat.le_refl _)
    rw [List.take_length] at this
    exact Nat.lt_of_lt_of_le this (Nat.pow_le_pow_right (by decide) h2)
end Go.Proofs.YtkoemhdchoicaaaDoor

/- strings.Cut at a dot; zxid.Read, zxid.Text. -/
namespace Go.Proofs.YtkoemhdchoicaaaDoor
open Go.RowKit
def cutR (s : ByteArray) : ByteArray × ByteArray × Bool := if Lib.indexByte s.data.toList 46 < 0 then (s, ⟨#[]⟩, false) else (s.extract 0 (Lib.indexByte s.data.toList 46).toNat, s.extract ((Lib.indexByte s.data.toList 46).toNat + 1) s.size, true)
set_option maxHeartbeats 1000000 in
theorem scut_any (s : ByteArray) (w : World) (hs : s.size ≤ 4611686018427387904) :
    Calls Tryd.prog 60 #[.string s, .string ⟨#[46]⟩] w fun e w' => e = .returned (.tuple #[.string (cutR s).1, .string (cutR s).2.1, .bool (cutR s).2.2]) ∧ Below w.heap.size w w' := by
  have HI := Lib.hid (fun (W : World) => Tryd.stringslite_Index_one s 46 W)
  have hge := Lib.indexByte_ge s.data.toList 46
  unfold cutR
  rcases Int.lt_or_le (Lib.indexByte s.data.toList 46) 0 with hi | hi
  · simp only [if_pos hi]
    have hi1 : Lib.indexByte s.data.toList 46 = -1 := by omega
    rw [hi1] at HI
    clear hi hge hi1
    go_enter Tryd.func60, Tryd.ntmps60
    go_wp2_with (go_at_call 69; refine (HI.out _).mono ?_; rintro e w1 ⟨rfl, rfl⟩; skip)
    refine bodyPost_ret (v := .tuple #[.string s, .string ⟨#[]⟩, .bool false]) (by simp [results, Tryd.results60, go_sem]) rfl ⟨rfl, (by repeat (first | exact Below.refl _ _ | assumption | refine Below.drew ?_ | refine Below.drewN' ?_ _ | refine below_grow0 _ _ ?_ | refine below_alloc0 _ ?_ | refine Below.alloc ?_ (by first | omega | (simp; done) | (simp; omega)) _ | refine Below.setCell ?_ (by first | omega | (simp; done) | (simp; omega)) _ | refine Below.grow _ _ _ ?_ (by first | omega | (simp; done) | (simp; omega))))⟩
  · simp only [if_neg (Int.not_lt.2 hi)]
    obtain ⟨o, ho⟩ := Int.eq_ofNat_of_zero_le hi
    have hlt : o < s.size := by
      have := (Lib.indexByte_some ho).1
      have h2 := (List.getElem?_eq_some_iff.1 this).1
      simpa using h2
    rw [ho] at HI ⊢
    have hgi : (decide ((o : Int) ≥ 0)) = true := decide_eq_true (by omega)
    clear hi hge ho
    rw [Int.toNat_natCast]
    go_enter Tryd.func60, Tryd.ntmps60
    go_wp2_with (go_at_call 69; refine (HI.out _).mono ?_; rintro e w1 ⟨rfl, rfl⟩; skip)
    go_region
    go_wp2_with fail
    refine bodyPost_ret (v := .tuple #[.string (s.extract 0 o), .string (s.extract (o + 1) s.size), .bool true]) (by simp [results, Tryd.results60, go_sem]) rfl ⟨rfl, (by repeat (first | exact Below.refl _ _ | assumption | refine Below.drew ?_ | refine Below.drewN' ?_ _ | refine below_grow0 _ _ ?_ | refine below_alloc0 _ ?_ | refine Below.alloc ?_ (by first | omega | (simp; done) | (simp; omega)) _ | refine Below.setCell ?_ (by first | omega | (simp; done) | (simp; omega)) _ | refine Below.grow _ _ _ ?_ (by first | omega | (simp; done) | (simp; omega))))⟩
theorem cutR_size (s : ByteArray) : (cutR s).1.size ≤ s.size ∧ (cutR s).2.1.size ≤ s.size := by
  unfold cutR
  split
  · exact ⟨Nat.le_refl _, Nat.zero_le _⟩
  · simp only [ByteArray.size_extract]
    omega
theorem cut_any (s : ByteArray) (w : World) (hs : s.size ≤ 4611686018427387904) :
    Calls Tryd.prog 45 #[.string s, .string ⟨#[46]⟩] w fun e w' => e = .returned (.tuple #[.string (cutR s).1, .string (cutR s).2.1, .bool (cutR s).2.2]) ∧ Below w.heap.size w w' := by
  have HC := Lib.hid (fun (W : World) => scut_any s W hs)
  generalize cutR s = r at *
  go_enter Tryd.func45, Tryd.ntmps45
  go_wp2_with (go_at_call 60; refine (HC.out _).mono ?_; rintro e w1 ⟨rfl, hb⟩; obtain ⟨ext1, d1, rfl⟩ := Below.grown_eq _ hb; clear hb)
  refine bodyPost_ret (v := .tuple #[.string r.1, .string r.2.1, .bool r.2.2]) (by simp [results, Tryd.results45, go_sem]) rfl ⟨rfl, (by repeat (first | exact Below.refl _ _ | assumption | refine Below.drew ?_ | refine Below.drewN' ?_ _ | refine below_grow0 _ _ ?_ | refine below_alloc0 _ ?_ | refine Below.alloc ?_ (by first | omega | (simp; done) | (simp; omega)) _ | refine Below.setCell ?_ (by first | omega | (simp; done) | (simp; omega)) _ | refine Below.grow _ _ _ ?_ (by first | omega | (simp; done) | (simp; omega))))⟩
instance (a : Int) : Decidable (Half a) := by unfold Half; exact inferInstance
def makeR (a b : Int) : Int × Int := if Half a ∧ Half b then (a * 2147483648 + b, 0) else (0, 3)
theorem zmake_any (a b : Int) (w : World) :
    Calls Tryd.prog 39 #[.int .i64 a, .int .i64 b] w fun e w' => e = .returned (.tuple #[.int .i64 (makeR a b).1, .int .i64 (makeR a b).2]) ∧ w = w' := by
  unfold makeR
  by_cases h : Half a ∧ Half b
  · rw [if_pos h]; exact zmake_ok a b w h.1 h.2
  · rw [if_neg h]; exact zmake_no a b w h
def readR (s : ByteArray) : Int × Int := if (cutR s).2.2 && (smallOk (bs (cutR s).1) && smallOk (bs (cutR s).2.1)) then makeR (smallV (bs (cutR s).1)) (smallV (bs (cutR s).2.1)) else (0, 2)
set_option maxHeartbeats 1000000 in
theorem read_any (s : ByteArray) (w : World) (hs : s.size ≤ 4611686018427387904) :
    Calls Tryd.prog 31 #[.string s] w fun e w' => e = .returned (.tuple #[.int .i64 (readR s).1, .int .i64 (readR s).2]) ∧ Below w.heap.size w w' := by
  have hz := cutR_size s
  have HC := Lib.hid (fun (W : World) => cut_any s W hs)
  have HA := Lib.hid (fun (W : World) => small_any (cutR s).1 W (by omega))
  have HB := Lib.hid (fun (W : World) => small_any (cutR s).2.1 W (by omega))
  have HM := Lib.hid (fun (W : World) => zmake_any (smallV (bs (cutR s).1)) (smallV (bs (cutR s).2.1)) W)
  unfold readR
  generalize makeR (smallV (bs (cutR s).1)) (smallV (bs (cutR s).2.1)) = mk at *
  generalize smallV (bs (cutR s).1) = va at *
  generalize smallV (bs (cutR s).2.1) = vb at *
  generalize smallOk (bs (cutR s).1) = oa at *
  generalize smallOk (bs (cutR s).2.1) = ob at *
  generalize cutR s = r at *
  obtain ⟨ra, rb, rok⟩ := r
  simp only at *
  clear hz
  cases rok with
  | false =>
    simp only [Bool.false_and, Bool.false_eq_true, if_false]
    go_enter Tryd.func31, Tryd.ntmps31
    go_wp2_with
      (first | (go_at_call 45; refine (HC.out _).mono ?_; rintro e w1 ⟨rfl, hb⟩; obtain ⟨ext1, d1, rfl⟩ := Below.grown_eq w (Below.own (by repeat (first | exact Below.refl _ _ | assumption | refine Below.drew ?_ | refine Below.drewN' ?_ _ | refine below_grow0 _ _ ?_ | refine below_alloc0 _ ?_ | refine Below.alloc ?_ (by first | omega | (simp; done) | (simp; omega)) _ | refine Below.setCell ?_ (by first | omega | (simp; done) | (simp; omega)) _ | refine Below.grow _ _ _ ?_ (by first | omega | (simp; done) | (simp; omega)))) hb); clear hb HC) | (go_at_call 46; refine (HA.out _).mono ?_; rintro e w1 ⟨rfl, hb⟩; obtain ⟨ext1, d1, rfl⟩ := Below.grown_eq w (Below.own (by repeat (first | exact Below.refl _ _ | assumption | refine Below.drew ?_ | refine Below.drewN' ?_ _ | refine below_grow0 _ _ ?_ | refine below_alloc0 _ ?_ | refine Below.alloc ?_ (by first | omega | (simp; done) | (simp; omega)) _ | refine Below.setCell ?_ (by first | omega | (simp; done) | (simp; omega)) _ | refine Below.grow _ _ _ ?_ (by first | omega | (simp; done) | (simp; omega)))) hb); clear hb HA) | (go_at_call 46; refine (HB.out _).mono ?_; rintro e w1 ⟨rfl, hb⟩; obtain ⟨ext1, d1, rfl⟩ := Below.grown_eq w (Below.own (by repeat (first | exact Below.refl _ _ | assumption | refine Below.drew ?_ | refine Below.drewN' ?_ _ | refine below_grow0 _ _ ?_ | refine below_alloc0 _ ?_ | refine Below.alloc ?_ (by first | omega | (simp; done) | (simp; omega)) _ | refine Below.setCell ?_ (by first | omega | (simp; done) | (simp; omega)) _ | refine Below.grow _ _ _ ?_ (by first | omega | (simp; done) | (simp; omega)))) hb); clear hb HB) | (go_at_call 39; refine (HM.out _).mono ?_; rintro e w1 ⟨rfl, rfl⟩; skip))
    go_ret2
    exact ⟨rfl, (by repeat (first | exact Below.refl _ _ | assumption | refine Below.drew ?_ | refine Below.drewN' ?_ _ | refine below_grow0 _ _ ?_ | refine below_alloc0 _ ?_ | refine Below.alloc ?_ (by first | omega | (simp; done) | (simp; omega)) _ | refine Below.setCell ?_ (by first | omega | (simp; done) | (simp; omega)) _ | refine Below.grow _ _ _ ?_ (by first | omega | (simp; done) | (simp; omega))))⟩
  | true =>
    cases oa with
    | false =>
      simp only [Bool.false_and, Bool.and_false, Bool.false_eq_true, if_false]
      go_enter Tryd.func31, Tryd.ntmps31
      go_wp2_with
        (first | (go_at_call 45; refine (HC.out _).mono ?_; rintro e w1 ⟨rfl, hb⟩; obtain ⟨ext1, d1, rfl⟩ := Below.grown_eq w (Below.own (by repeat (first | exact Below.refl _ _ | assumption | refine Below.drew ?_ | refine Below.drewN' ?_ _ | refine below_grow0 _ _ ?_ | refine below_alloc0 _ ?_ | refine Below.alloc ?_ (by first | omega | (simp; done) | (simp; omega)) _ | refine Below.setCell ?_ (by first | omega | (simp; done) | (simp; omega)) _ | refine Below.grow _ _ _ ?_ (by first | omega | (simp; done) | (simp; omega)))) hb); clear hb HC) | (go_at_call 46; refine (HA.out _).mono ?_; rintro e w1 ⟨rfl, hb⟩; obtain ⟨ext1, d1, rfl⟩ := Below.grown_eq w (Below.own (by repeat (first | exact Below.refl _ _ | assumption | refine Below.drew ?_ | refine Below.drewN' ?_ _ | refine below_grow0 _ _ ?_ | refine below_alloc0 _ ?_ | refine Below.alloc ?_ (by first | omega | (simp; done) | (simp; omega)) _ | refine Below.setCell ?_ (by first | omega | (simp; done) | (simp; omega)) _ | refine Below.grow _ _ _ ?_ (by first | omega | (simp; done) | (simp; omega)))) hb); clear hb HA) | (go_at_call 46; refine (HB.out _).mono ?_; rintro e w1 ⟨rfl, hb⟩; obtain ⟨ext1, d1, rfl⟩ := Below.grown_eq w (Below.own (by repeat (first | exact Below.refl _ _ | assumption | refine Below.drew ?_ | refine Below.drewN' ?_ _ | refine below_grow0 _ _ ?_ | refine below_alloc0 _ ?_ | refine Below.alloc ?_ (by first | omega | (simp; done) | (simp; omega)) _ | refine Below.setCell ?_ (by first | omega | (simp; done) | (simp; omega)) _ | refine Below.grow _ _ _ ?_ (by first | omega | (simp; done) | (simp; omega)))) hb); clear hb HB) | (go_at_call 39; refine (HM.out _).mono ?_; rintro e w1 ⟨rfl, rfl⟩; skip))
      go_ret2
      exact ⟨rfl, (by repeat (first | exact Below.refl _ _ | assumption | refine Below.drew ?_ | refine Below.drewN' ?_ _ | refine below_grow0 _ _ ?_ | refine below_alloc0 _ ?_ | refine Below.alloc ?_ (by first | omega | (simp; done) | (simp; omega)) _ | refine Below.setCell ?_ (by first | omega | (simp; done) | (simp; omega)) _ | refine Below.grow _ _ _ ?_ (by first | omega | (simp; done) | (simp; omega))))⟩
    | true =>
      cases ob with
      | false =>
        simp only [Bool.and_false, Bool.false_eq_true, if_false]
        go_enter Tryd.func31, Tryd.ntmps31
        go_wp2_with
          (first | (go_at_call 45; refine (HC.out _).mono ?_; rintro e w1 ⟨rfl, hb⟩; obtain ⟨ext1, d1, rfl⟩ := Below.grown_eq w (Below.own (by repeat (first | exact Below.refl _ _ | assumption | refine Below.drew ?_ | refine Below.drewN' ?_ _ | refine below_grow0 _ _ ?_ | refine below_alloc0 _ ?_ | refine Below.alloc ?_ (by first | omega | (simp; done) | (simp; omega)) _ | refine Below.setCell ?_ (by first | omega | (simp; done) | (simp; omega)) _ | refine Below.grow _ _ _ ?_ (by first | omega | (simp; done) | (simp; omega)))) hb); clear hb HC) | (go_at_call 46; refine (HA.out _).mono ?_; rintro e w1 ⟨rfl, hb⟩; obtain ⟨ext1, d1, rfl⟩ := Below.grown_eq w (Below.own (by repeat (first | exact Below.refl _ _ | assumption | refine Below.drew ?_ | refine Below.drewN' ?_ _ | refine below_grow0 _ _ ?_ | refine below_alloc0 _ ?_ | refine Below.alloc ?_ (by first | omega | (simp; done) | (simp; omega)) _ | refine Below.setCell ?_ (by first | omega | (simp; done) | (simp; omega)) _ | refine Below.grow _ _ _ ?_ (by first | omega | (simp; done) | (simp; omega)))) hb); clear hb HA) | (go_at_call 46; refine (HB.out _).mono ?_; rintro e w1 ⟨rfl, hb⟩; obtain ⟨ext1, d1, rfl⟩ := Below.grown_eq w (Below.own (by repeat (first | exact Below.refl _ _ | assumption | refine Below.drew ?_ | refine Below.drewN' ?_ _ | refine below_grow0 _ _ ?_ | refine below_alloc0 _ ?_ | refine Below.alloc ?_ (by first | omega | (simp; done) | (simp; omega)) _ | refine Below.setCell ?_ (by first | omega | (simp; done) | (simp; omega)) _ | refine Below.grow _ _ _ ?_ (by first | omega | (simp; done) | (simp; omega)))) hb); clear hb HB) | (go_at_call 39; refine (HM.out _).mono ?_; rintro e w1 ⟨rfl, rfl⟩; skip))
        go_ret2
        exact ⟨rfl, (by repeat (first | exact Below.refl _ _ | assumption | refine Below.drew ?_ | refine Below.drewN' ?_ _ | refine below_grow0 _ _ ?_ | refine below_alloc0 _ ?_ | refine Below.alloc ?_ (by first | omega | (simp; done) | (simp; omega)) _ | refine Below.setCell ?_ (by first | omega | (simp; done) | (simp; omega)) _ | refine Below.grow _ _ _ ?_ (by first | omega | (simp; done) | (simp; omega))))⟩
      | true =>
        simp only [Bool.and_self, if_true]
        go_enter Tryd.func31, Tryd.ntmps31
        go_wp2_with
          (first | (go_at_call 45; refine (HC.out _).mono ?_; rintro e w1 ⟨rfl, hb⟩; obtain ⟨ext1, d1, rfl⟩ := Below.grown_eq w (Below.own (by repeat (first | exact Below.refl _ _ | assumption | refine Below.drew ?_ | refine Below.drewN' ?_ _ | refine below_grow0 _ _ ?_ | refine below_alloc0 _ ?_ | refine Below.alloc ?_ (by first | omega | (simp; done) | (simp; omega)) _ | refine Below.setCell ?_ (by first | omega | (simp; done) | (simp; omega)) _ | refine Below.grow _ _ _ ?_ (by first | omega | (simp; done) | (simp; omega)))) hb); clear hb HC) | (go_at_call 46; refine (HA.out _).mono ?_; rintro e w1 ⟨rfl, hb⟩; obtain ⟨ext1, d1, rfl⟩ := Below.grown_eq w (Below.own (by repeat (first | exact Below.refl _ _ | assumption | refine Below.drew ?_ | refine Below.drewN' ?_ _ | refine below_grow0 _ _ ?_ | refine below_alloc0 _ ?_ | refine Below.alloc ?_ (by first | omega | (simp; done) | (simp; omega)) _ | refine Below.setCell ?_ (by first | omega | (simp; done) | (simp; omega)) _ | refine Below.grow _ _ _ ?_ (by first | omega | (simp; done) | (simp; omega)))) hb); clear hb HA) | (go_at_call 46; refine (HB.out _).mono ?_; rintro e w1 ⟨rfl, hb⟩; obtain ⟨ext1, d1, rfl⟩ := Below.grown_eq w (Below.own (by repeat (first | exact Below.refl _ _ | assumption | refine Below.drew ?_ | refine Below.drewN' ?_ _ | refine below_grow0 _ _ ?_ | refine below_alloc0 _ ?_ | refine Below.alloc ?_ (by first | omega | (simp; done) | (simp; omega)) _ | refine Below.setCell ?_ (by first | omega | (simp; done) | (simp; omega)) _ | refine Below.grow _ _ _ ?_ (by first | omega | (simp; done) | (simp; omega)))) hb); clear hb HB) | (go_at_call 39; refine (HM.out _).mono ?_; rintro e w1 ⟨rfl, rfl⟩; skip))
        go_ret2
        exact ⟨rfl, (by repeat (first | exact Below.refl _ _ | assumption | refine Below.drew ?_ | refine Below.drewN' ?_ _ | refine below_grow0 _ _ ?_ | refine below_alloc0 _ ?_ | refine Below.alloc ?_ (by first | omega | (simp; done) | (simp; omega)) _ | refine Below.setCell ?_ (by first | omega | (simp; done) | (simp; omega)) _ | refine Below.grow _ _ _ ?_ (by first | omega | (simp; done) | (simp; omega))))⟩
theorem zgood_any (a : Int) (w : World) :
    Calls Tryd.prog 37 #[.int .i64 a] w fun e w' => e = .returned (.bool (decide (0 ≤ a ∧ a < 4611686018427387904))) ∧ w = w' := by
  by_cases h : Zx a
  · rw [decide_eq_true (show 0 ≤ a ∧ a < 4611686018427387904 from h)]; exact zgood_yes a w h
  · rw [decide_eq_false (show ¬ (0 ≤ a ∧ a < 4611686018427387904) from h)]; exact zgood_no a w h
def textB (z : Int) : ByteArray := ⟨(Lib.itoa (z / 2147483648)).toArray⟩ ++ ⟨#[46]⟩ ++ ⟨(Lib.itoa (z % 2147483648)).toArray⟩
theorem text_no (z : Int) (w : World) (h : ¬ Zx z) :
    Calls Tryd.prog 40 #[.int .i64 z] w fun e w' => e = .returned (.tuple #[.string ⟨#[]⟩, .int .i64 3]) ∧ w = w' := by
  have HG := Lib.hid (fun (W : World) => zgood_no z W h)
  clear h
  go_enter Tryd.func40, Tryd.ntmps40
  go_wp2_with (go_at_call 37; refine (HG.out _).mono ?_; rintro e w1 ⟨rfl, rfl⟩; skip)
  go_ret2
  exact ⟨rfl, rfl⟩
theorem itoa_size {u : Int} (h0 : 0 ≤ u) (h : u < 10000000000) : (⟨(Lib.itoa u).toArray⟩ : ByteArray).size ≤ 10 := by
  show (Lib.itoa u).toArray.size ≤ 10
  unfold Lib.itoa
  rw [if_neg (by omega)]
  have := dec_len 9 u.toNat (by omega)
  simpa using this
theorem itoa_any (n : Int) (h0 : 0 ≤ n) (h1 : n ≤ 9223372036854775807) (w : World) (htab : Lib.TabIs Tryd.prog w "internal/strconv.uint64pow10" .u64 Lib.pow10Tab) :
    Calls Tryd.prog 54 #[.int .i64 n] w fun e w' => e = .returned (.string ⟨(Lib.itoa n).toArray⟩) ∧ Below w.heap.size w w' := by
  refine (Tryd.strconv_Itoa n (by omega) h1 w htab).mono ?_
  rintro e w' ⟨rfl, k, os, rfl⟩
  exact ⟨rfl, below_grow0 (W := w) os (w.drewN k).drawn (Below.refl _ _)⟩
set_option maxHeartbeats 1000000 in
theorem text_yes (z : Int) (w : World) (h : Zx z) (htab : Lib.TabIs Tryd.prog w "internal/strconv.uint64pow10" .u64 Lib.pow10Tab) (g : Nat) (hg : Tryd.prog.globalNamed "internal/strconv.uint64pow10" = some g) :
    Calls Tryd.prog 40 #[.int .i64 z] w fun e w' => e = .returned (.tuple #[.string (textB z), .int .i64 0]) ∧ Below w.heap.size w w' := by
  have HG := Lib.hid (fun (W : World) => zgood_yes z W h)
  have HE := Lib.hid (fun (W : World) => zepoch_ok z W h)
  have HN := Lib.hid (fun (W : World) => zcount_ok z W h)
  have h2 := h
  unfold Zx at h2
  have HI1 := Lib.hid (fun (W : World) (hb : Below w.heap.size w W) => itoa_any (z / 2147483648) (by omega) (by omega) W (Joins.tab_stays hg htab hb (Nat.le_refl _)))
  have HI2 := Lib.hid (fun (W : World) (hb : Below w.heap.size w W) => itoa_any (z % 2147483648) (by omega) (by omega) W (Joins.tab_stays hg htab hb (Nat.le_refl _)))
  have s1 := itoa_size (u := z / 2147483648) (by omega) (by omega)
  have s2 := itoa_size (u := z % 2147483648) (by omega) (by omega)
  unfold textB
  generalize (⟨(Lib.itoa (z / 2147483648)).toArray⟩ : ByteArray) = a at *
  generalize (⟨(Lib.itoa (z % 2147483648)).toArray⟩ : ByteArray) = b at *
  generalize z / 2147483648 = ze at *
  generalize z % 2147483648 = zc at *
  clear h htab
  go_enter Tryd.func40, Tryd.ntmps40
  go_wp2_with (first | (go_at_call 37; refine (HG.out _).mono ?_; rintro e w1 ⟨rfl, rfl⟩; skip) | (go_at_call 32; refine (HE.out _).mono ?_; rintro e w1 ⟨rfl, rfl⟩; skip) | (go_at_call 55; refine (HN.out _).mono ?_; rintro e w1 ⟨rfl, rfl⟩; skip) | (go_at_call 54; refine (HI1.out _ (by repeat (first | exact Below.refl _ _ | assumption | refine Below.drew ?_ | refine Below.drewN' ?_ _ | refine below_grow0 _ _ ?_ | refine below_alloc0 _ ?_ | refine Below.alloc ?_ (by first | omega | (simp; done) | (simp; omega)) _ | refine Below.setCell ?_ (by first | omega | (simp; done) | (simp; omega)) _ | refine Below.grow _ _ _ ?_ (by first | omega | (simp; done) | (simp; omega))))).mono ?_; rintro e w1 ⟨rfl, hb⟩; obtain ⟨ext1, d1, rfl⟩ := Below.grown_eq w (Below.own (by repeat (first | exact Below.refl _ _ | assumption | refine Below.drew ?_ | refine Below.drewN' ?_ _ | refine below_grow0 _ _ ?_ | refine below_alloc0 _ ?_ | refine Below.alloc ?_ (by first | omega | (simp; done) | (simp; omega)) _ | refine Below.setCell ?_ (by first | omega | (simp; done) | (simp; omega)) _ | refine Below.grow _ _ _ ?_ (by first | omega | (simp; done) | (simp; omega)))) hb); clear hb HI1) | (go_at_call 54; refine (HI2.out _ (by repeat (first | exact Below.refl _ _ | assumption | refine Below.drew ?_ | refine Below.drewN' ?_ _ | refine below_grow0 _ _ ?_ | refine below_alloc0 _ ?_ | refine Below.alloc ?_ (by first | omega | (simp; done) | (simp; omega)) _ | refine Below.setCell ?_ (by first | omega | (simp; done) | (simp; omega)) _ | refine Below.grow _ _ _ ?_ (by first | omega | (simp; done) | (simp; omega))))).mono ?_; rintro e w1 ⟨rfl, hb⟩; obtain ⟨ext2, d2, rfl⟩ := Below.grown_eq w (Below.own (by repeat (first | exact Below.refl _ _ | assumption | refine Below.drew ?_ | refine Below.drewN' ?_ _ | refine below_grow0 _ _ ?_ | refine below_alloc0 _ ?_ | refine Below.alloc ?_ (by first | omega | (simp; done) | (simp; omega)) _ | refine Below.setCell ?_ (by first | omega | (simp; done) | (simp; omega)) _ | refine Below.grow _ _ _ ?_ (by first | omega | (simp; done) | (simp; omega)))) hb); clear hb HI2))
  go_ret2
  exact ⟨rfl, (by repeat (first | exact Below.refl _ _ | assumption | refine Below.drew ?_ | refine Below.drewN' ?_ _ | refine below_grow0 _ _ ?_ | refine below_alloc0 _ ?_ | refine Below.alloc ?_ (by first | omega | (simp; done) | (simp; omega)) _ | refine Below.setCell ?_ (by first | omega | (simp; done) | (simp; omega)) _ | refine Below.grow _ _ _ ?_ (by first | omega | (simp; done) | (simp; omega))))⟩
end Go.Proofs.YtkoemhdchoicaaaDoor

/- A zxid from its text, and back: plain laws. -/
namespace Go.Proofs.YtkoemhdchoicaaaDoor
open Go.RowKit
theorem itoa_dec {u : Int} (h : 0 ≤ u) : Lib.itoa u = Lib.decDigits u.toNat := by unfold Lib.itoa; rw [if_neg (by omega)]
theorem text_bs {z : Int} (h : Zx z) : bs (textB z) = Lib.decDigits (z / 2147483648).toNat ++ 46 :: Lib.decDigits (z % 2147483648).toNat := by
  have h2 := h
  unfold Zx at h2
  unfold textB
  rw [bs_append, bs_append, itoa_dec (by omega), itoa_dec (by omega)]
  show Lib.decDigits _ ++ [46] ++ Lib.decDigits _ = _
  simp
theorem digit_dot {l : List UInt8} (h : l.all digit = true) : (46 : UInt8) ∉ l := by
  intro hm
  have := List.all_eq_true.1 h _ hm
  revert this
  decide
theorem index_mid {x y : List UInt8} (h : (46 : UInt8) ∉ x) : Lib.indexByte (x ++ 46 :: y) 46 = x.length := by
  have hge := Lib.indexByte_ge (x ++ 46 :: y) 46
  rcases Int.lt_or_le (Lib.indexByte (x ++ 46 :: y) 46) 0 with hi | hi
  · exfalso
    have := Lib.indexByte_none (show Lib.indexByte (x ++ 46 :: y) 46 = -1 by omega) x.length
    exact this (by rw [List.getElem?_append_right (Nat.le_refl _), Nat.sub_self]; rfl)
  · obtain ⟨o, ho⟩ := Int.eq_ofNat_of_zero_le hi
    obtain ⟨h1, h2⟩ := Lib.indexByte_some ho
    rw [ho]
    congr 1
    rcases Nat.lt_trichotomy o x.length with hlt | heq | hgt
    · exfalso
      rw [List.getElem?_append_left hlt] at h1
      exact h (List.mem_iff_getElem?.2 ⟨o, h1⟩)
    · exact heq
    · exact absurd (by rw [List.getElem?_append_right (Nat.le_refl _), Nat.sub_self]; rfl) (h2 x.length hgt)
theorem cut_mid {s : ByteArray} {x y : List UInt8} (hb : bs s = x ++ 46 :: y) (h : (46 : UInt8) ∉ x) : bs (cutR s).1 = x ∧ bs (cutR s).2.1 = y ∧ (cutR s).2.2 = true := by
  have hi : Lib.indexByte s.data.toList 46 = (x.length : Int) := by
    have : s.data.toList = x ++ 46 :: y := hb
    rw [this]
    exact index_mid h
  unfold cutR
  rw [hi, if_neg (by omega), Int.toNat_natCast]
  refine ⟨?_, ?_, rfl⟩
  · rw [bs_extract, hb]
    simp
  · rw [bs_extract, List.take_of_length_le (by rw [length_bs]; exact Nat.le_refl _), hb, List.drop_append, List.drop_of_length_le (by omega), show x.length + 1 - x.length = 1 from by omega]
    rfl
theorem read_text {z : Int} (h : Zx z) : readR (textB z) = (z, 0) := by
  have h2 := h
  unfold Zx at h2
  have d1 := dec_digits (z / 2147483648).toNat
  obtain ⟨c1, c2, c3⟩ := cut_mid (text_bs h) (digit_dot d1.1)
  have e1 := dec_small (u := (z / 2147483648).toNat) (by omega)
  have e2 := dec_small (u := (z % 2147483648).toNat) (by omega)
  unfold readR
  rw [c1, c2, c3, e1.1, e1.2, e2.1, e2.2]
  simp only [Bool.and_self, if_true]
  unfold makeR
  rw [if_pos ⟨⟨by omega, by omega⟩, ⟨by omega, by omega⟩⟩]
  congr 1
  omega
theorem cut_back {s : ByteArray} (h : (cutR s).2.2 = true) : bs s = bs (cutR s).1 ++ 46 :: bs (cutR s).2.1 := by
  unfold cutR at h ⊢
  rcases Int.lt_or_le (Lib.indexByte s.data.toList 46) 0 with hi | hi
  · rw [if_pos hi] at h; cases h
  · rw [if_neg (Int.not_lt.2 hi)]
    obtain ⟨o, ho⟩ := Int.eq_ofNat_of_zero_le hi
    have hso : (bs s)[o]? = some 46 := (Lib.indexByte_some ho).1
    have hcut : bs s = (bs s).take o ++ 46 :: (bs s).drop (o + 1) := by
      obtain ⟨h1, h2⟩ := List.getElem?_eq_some_iff.1 hso
      rw [← h2, List.getElem_cons_drop, List.take_append_drop]
    have hfull : (bs s).take s.size = bs s := List.take_of_length_le (by rw [length_bs]; exact Nat.le_refl _)
    rw [ho, Int.toNat_natCast]
    show bs s = bs (s.extract 0 o) ++ 46 :: bs (s.extract (o + 1) s.size)
    rw [bs_extract, bs_extract, hfull]
    exact hcut
theorem read_only {s : ByteArray} (h : (readR s).2 = 0) : Zx (readR s).1 ∧ textB (readR s).1 = s := by
  unfold readR at h ⊢
  cases hc : (cutR s).2.2 && (smallOk (bs (cutR s).1) && smallOk (bs (cutR s).2.1)) with
  | false => rw [hc] at h; simp at h
  | true =>
    rw [hc] at h
    rw [if_pos rfl] at h ⊢
    simp only [Bool.and_eq_true] at hc
    obtain ⟨c1, c2, c3⟩ := hc
    obtain ⟨va, a1, a2, _⟩ := small_dec c2
    obtain ⟨vb, b1, b2, _⟩ := small_dec c3
    have hcut := cut_back c1
    rw [a1, b1] at h ⊢
    unfold makeR at h ⊢
    by_cases hh : Half (va : Int) ∧ Half (vb : Int)
    · rw [if_pos hh]
      obtain ⟨⟨h1, h2⟩, ⟨h3, h4⟩⟩ := hh
      have hz : Zx ((va : Int) * 2147483648 + vb) := ⟨by omega, by omega⟩
      refine ⟨hz, bs_inj ?_⟩
      rw [text_bs hz, show (((va : Int) * 2147483648 + vb) / 2147483648).toNat = va by omega, show (((va : Int) * 2147483648 + vb) % 2147483648).toNat = vb by omega, a2, b2]
      exact hcut.symm
    · rw [if_neg hh] at h
      simp at h
theorem readR_not {s : ByteArray} (h : (readR s).2 ≠ 0) : (readR s).1 = 0 := by
  unfold readR makeR at *
  split
  · rename_i h1
    rw [if_pos h1] at h
    split
    · rename_i h2; rw [if_pos h2] at h; simp at h
    · rfl
  · rfl
end Go.Proofs.YtkoemhdchoicaaaDoor

/- zxid.Epoch, whatever the number. -/
namespace Go.Proofs.YtkoemhdchoicaaaDoor
open Go.RowKit Go.ChangeShapes Go.WideShapes Go.ChangeAt
def epochZ (a : Int) : Int := if 0 ≤ a ∧ a < 4611686018427387904 then a / 2147483648 else 0
theorem zepoch_any (a : Int) (w : World) :
    Calls Tryd.prog 32 #[.int .i64 a] w fun e w' => e = .returned (.int .i64 (epochZ a)) ∧ w = w' := by
  unfold epochZ
  by_cases h : 0 ≤ a ∧ a < 4611686018427387904
  · rw [if_pos h]; exact zepoch_ok a w h
  · rw [if_neg h]; exact zepoch_no a w h
theorem epochZ_range (a : Int) : 0 ≤ epochZ a ∧ epochZ a ≤ 2147483647 := by unfold epochZ; split <;> omega
end Go.Proofs.YtkoemhdchoicaaaDoor

/- store.Epoch, tree.New. -/
namespace Go.Proofs.YtkoemhdchoicaaaDoor
open Go.RowKit Go.ChangeShapes Go.WideShapes Go.ChangeAt
abbrev epN : ByteArray := ⟨#[101, 112, 111, 99, 104]⟩
def epochF (f : List File) : Int := if readE f epN = 0 then (if (readR (readS f epN)).2 = 0 then epochZ (readR (readS f epN)).1 else 0) else 0
theorem readS_small {f : List File} {p : ByteArray} (h : readE f p = 0) : (readS f p).size ≤ 1048576 := readS_size h
set_option maxHeartbeats 1000000 in
theorem storeEpoch (v : Value) (f : List File) (w : World) (h : Sl cFile 3 w v f) (hz : ∀ x ∈ f, x.sized) :
    Calls Tryd.prog 19 #[.agg #[v]] w fun e w' => e = .returned (.int .i64 (epochF f)) ∧ Below w.heap.size w w' := by
  obtain ⟨A, c, rfl, hc1, hc2⟩ := h.form
  have H := Lib.hid h
  have HR := Lib.hid (fun (W : World) (v : Value) (h : Sl cFile 3 W v f) => dkRead v f epN W h hz)
  unfold epochF
  by_cases h0 : readE f epN = 0
  · have hs := readS_size h0
    rw [if_pos h0]
    rw [h0] at HR
    generalize readS f epN = s at *
    have HZ := Lib.hid (fun (W : World) => read_any s W (by omega))
    have HEP := Lib.hid (fun (W : World) => zepoch_any (readR s).1 W)
    clear h hz h0
    by_cases h1 : (readR s).2 = 0
    · rw [if_pos h1]
      rw [h1] at HZ
      generalize (readR s).1 = z at *
      generalize epochZ z = ep at *
      clear h1
      go_enter Tryd.func19, Tryd.ntmps19
      go_wp2_with (first | (go_at_call 30; refine (HR.out _ _ (H.out.below (by repeat (first | exact Below.refl _ _ | assumption | refine Below.drew ?_ | refine Below.drewN' ?_ _ | refine below_grow0 _ _ ?_ | refine below_alloc0 _ ?_ | refine Below.alloc ?_ (by first | omega | (simp; done) | (simp; omega)) _ | refine Below.setCell ?_ (by first | omega | (simp; done) | (simp; omega)) _ | refine Below.grow _ _ _ ?_ (by first | omega | (simp; done) | (simp; omega)))))).mono ?_; rintro e w1 ⟨rfl, hb1⟩; obtain ⟨ext1, d1, rfl⟩ := Below.grown_eq _ hb1; clear hb1) | (go_at_call 31; refine (HZ.out _).mono ?_; rintro e w2 ⟨rfl, hb2⟩; obtain ⟨ext2, d2, rfl⟩ := Below.grown_eq _ hb2; clear hb2) | (go_at_call 32; refine (HEP.out _).mono ?_; rintro e w3 ⟨rfl, rfl⟩; skip))
      go_ret
      exact ⟨rfl, (by repeat (first | exact Below.refl _ _ | assumption | refine Below.drew ?_ | refine Below.drewN' ?_ _ | refine below_grow0 _ _ ?_ | refine below_alloc0 _ ?_ | refine Below.alloc ?_ (by first | omega | (simp; done) | (simp; omega)) _ | refine Below.setCell ?_ (by first | omega | (simp; done) | (simp; omega)) _ | refine Below.grow _ _ _ ?_ (by first | omega | (simp; done) | (simp; omega))))⟩
    · have hne : ((readR s).2 != 0) = true := bne_iff_ne.2 h1
      rw [if_neg h1]
      generalize (readR s).1 = z at *
      generalize (readR s).2 = q at *
      clear h1
      go_enter Tryd.func19, Tryd.ntmps19
      go_wp2_with (first | (go_at_call 30; refine (HR.out _ _ (H.out.below (by repeat (first | exact Below.refl _ _ | assumption | refine Below.drew ?_ | refine Below.drewN' ?_ _ | refine below_grow0 _ _ ?_ | refine below_alloc0 _ ?_ | refine Below.alloc ?_ (by first | omega | (simp; done) | (simp; omega)) _ | refine Below.setCell ?_ (by first | omega | (simp; done) | (simp; omega)) _ | refine Below.grow _ _ _ ?_ (by first | omega | (simp; done) | (simp; omega)))))).mono ?_; rintro e w1 ⟨rfl, hb1⟩; obtain ⟨ext1, d1, rfl⟩ := Below.grown_eq _ hb1; clear hb1) | (go_at_call 31; refine (HZ.out _).mono ?_; rintro e w2 ⟨rfl, hb2⟩; obtain ⟨ext2, d2, rfl⟩ := Below.grown_eq _ hb2; clear hb2))
      go_ret
      exact ⟨rfl, (by repeat (first | exact Below.refl _ _ | assumption | refine Below.drew ?_ | refine Below.drewN' ?_ _ | refine below_grow0 _ _ ?_ | refine below_alloc0 _ ?_ | refine Below.alloc ?_ (by first | omega | (simp; done) | (simp; omega)) _ | refine Below.setCell ?_ (by first | omega | (simp; done) | (simp; omega)) _ | refine Below.grow _ _ _ ?_ (by first | omega | (simp; done) | (simp; omega))))⟩
  · have hne : (readE f epN != 0) = true := bne_iff_ne.2 h0
    rw [if_neg h0]
    generalize readE f epN = q at *
    generalize readS f epN = s at *
    clear h hz h0
    go_enter Tryd.func19, Tryd.ntmps19
    go_wp2_with ((go_at_call 30; refine (HR.out _ _ (H.out.below (by repeat (first | exact Below.refl _ _ | assumption | refine Below.drew ?_ | refine Below.drewN' ?_ _ | refine below_grow0 _ _ ?_ | refine below_alloc0 _ ?_ | refine Below.alloc ?_ (by first | omega | (simp; done) | (simp; omega)) _ | refine Below.setCell ?_ (by first | omega | (simp; done) | (simp; omega)) _ | refine Below.grow _ _ _ ?_ (by first | omega | (simp; done) | (simp; omega)))))).mono ?_; rintro e w1 ⟨rfl, hb1⟩; obtain ⟨ext1, d1, rfl⟩ := Below.grown_eq _ hb1; clear hb1))
    go_ret
    exact ⟨rfl, (by repeat (first | exact Below.refl _ _ | assumption | refine Below.drew ?_ | refine Below.drewN' ?_ _ | refine below_grow0 _ _ ?_ | refine below_alloc0 _ ?_ | refine Below.alloc ?_ (by first | omega | (simp; done) | (simp; omega)) _ | refine Below.setCell ?_ (by first | omega | (simp; done) | (simp; omega)) _ | refine Below.grow _ _ _ ?_ (by first | omega | (simp; done) | (simp; omega))))⟩
end Go.Proofs.YtkoemhdchoicaaaDoor

/- The two files of a server's disk: plain laws. -/
namespace Go.Proofs.YtkoemhdchoicaaaDoor
open Go.RowKit Go.ChangeShapes Go.WideShapes Go.ChangeAt
/-- a disk with a log, and with a file of the epoch, if there is one -/
def dskB (q : Option (ByteArray × ByteArray)) (a b : ByteArray) : List File := (match q with | none => [] | some (s, t) => [⟨epN, s, t⟩]) ++ [⟨logN, a, b⟩]
def qsize (q : Option (ByteArray × ByteArray)) : Nat := match q with | none => 0 | some (s, t) => s.size + t.size
theorem named_ep : named (bs epN) = true := by kernel_rfl
theorem ep_lt_log : cmpB epN logN < 0 := by decide +kernel
theorem dskB_pw (q : Option (ByteArray × ByteArray)) (a b : ByteArray) : (dskB q a b).Pairwise ltF := by
  cases q with
  | none => exact List.pairwise_singleton _ _
  | some q =>
    obtain ⟨s, t⟩ := q
    refine List.pairwise_cons.2 ⟨fun y hy => ?_, List.pairwise_singleton _ _⟩
    rw [List.mem_singleton.1 hy]
    exact ep_lt_log
theorem dskB_good {q : Option (ByteArray × ByteArray)} {a b : ByteArray} (hq : qsize q ≤ 1048576) (h : a.size + b.size ≤ 1048576) : goodD (dskB q a b) = true := by
  refine (goodD_iff _).2 ⟨by unfold dskB; cases q <;> simp, fun x hx => ?_, dskB_pw q a b⟩
  unfold okF
  rw [Bool.and_eq_true, decide_eq_true_iff]
  cases q with
  | none => rw [List.mem_singleton.1 hx]; exact ⟨named_log, h⟩
  | some q =>
    obtain ⟨s, t⟩ := q
    rcases List.mem_cons.1 hx with rfl | hx
    · exact ⟨named_ep, hq⟩
    · rw [List.mem_singleton.1 hx]; exact ⟨named_log, h⟩
theorem log_in (q : Option (ByteArray × ByteArray)) (a b : ByteArray) : (⟨logN, a, b⟩ : File) ∈ dskB q a b := by unfold dskB; simp
theorem dskB_log (q : Option (ByteArray × ByteArray)) (a b : ByteArray) : isK ((dskB q a b).map File.name) logN = true ∧ fileAt (dskB q a b) logN = ⟨logN, a, b⟩ := lookF_of (dskB_pw q a b) (y := ⟨logN, a, b⟩) (log_in q a b)
theorem dskB_put (q : Option (ByteArray × ByteArray)) (a b a' b' : ByteArray) : putL (dskB q a b) ⟨logN, a', b'⟩ = dskB q a' b' := by
  unfold putL
  rw [if_pos (dskB_log q a b).1]
  cases q with
  | none =>
    have := (atF_of (dskB_pw none a b) (k := 0) (x := ⟨logN, a, b⟩) rfl).1
    rw [this]
    rfl
  | some q =>
    obtain ⟨s, t⟩ := q
    have := (atF_of (dskB_pw (some (s, t)) a b) (k := 1) (x := ⟨logN, a, b⟩) rfl).1
    rw [this]
    rfl
theorem dskB_read {q : Option (ByteArray × ByteArray)} {a b : ByteArray} (hq : qsize q ≤ 1048576) (h : a.size + b.size ≤ 1048576) : readE (dskB q a b) logN = 0 ∧ readS (dskB q a b) logN = a ++ b := read_mem (dskB_good hq h) (x := ⟨logN, a, b⟩) (log_in q a b)
theorem dskB_write {q : Option (ByteArray × ByteArray)} {a b s : ByteArray} (hq : qsize q ≤ 1048576) (h : a.size + b.size + s.size ≤ 1048576) : writeE (dskB q a b) logN s = 0 ∧ writeL (dskB q a b) logN s = dskB q a (b ++ s) := by
  have hg := dskB_good (a := a) (b := b) hq (by omega)
  have hl := dskB_log q a b
  have e : writeE (dskB q a b) logN s = 0 := by
    unfold writeE
    rw [hg, named_log, if_pos rfl, if_pos rfl, hl.1, if_pos rfl, hl.2, if_pos]
    exact h
  obtain ⟨_, h2, _⟩ := write_ok e
  refine ⟨e, ?_⟩
  have ho : fileOr (dskB q a b) logN = ⟨logN, a, b⟩ := by unfold fileOr; rw [hl.1, if_pos rfl, hl.2]
  rw [h2, ho, dskB_put]
theorem dskB_sync {q : Option (ByteArray × ByteArray)} {a b : ByteArray} (hq : qsize q ≤ 1048576) (h : a.size + b.size ≤ 1048576) : syncL (dskB q a b) logN = dskB q (a ++ b) noB := by
  rw [(sync_ok (dskB_read hq h).1).1, (dskB_log q a b).2, dskB_put]
theorem dskB_cut {q : Option (ByteArray × ByteArray)} {a b : ByteArray} (hq : qsize q ≤ 1048576) (h : a.size + b.size ≤ 1048576) {n : Nat} (hn : n ≤ (a ++ b).size) : cutE (dskB q a b) logN n = 0 ∧ cutL (dskB q a b) logN n = dskB q ((a ++ b).extract 0 n) noB := by
  have hr := dskB_read (a := a) (b := b) hq h
  have e := cut_is hr.1 (n := n) (by rw [hr.2]; exact hn)
  obtain ⟨_, _, _, c4, _⟩ := cut_ok e
  refine ⟨e, ?_⟩
  rw [c4, hr.2, dskB_put, Int.toNat_natCast]
theorem ext_none (n : Nat) : noB.extract 0 n = noB := ByteArray.ext (by simp)
theorem add_noB (s : ByteArray) : s ++ noB = s := by
  apply bs_inj
  rw [bs_append]
  exact List.append_nil _
/-- the file of the epoch is safe -/
def qsafe (q : Option (ByteArray × ByteArray)) : Prop := match q with | none => True | some (_, t) => t = noB
theorem dskB_crash {q : Option (ByteArray × ByteArray)} {a b : ByteArray} (hq : qsize q ≤ 1048576) (hs : qsafe q) (h : a.size + b.size ≤ 1048576) (n : Nat) : crashE (dskB q a b) n = 0 ∧ crashL (dskB q a b) n = dskB q (a ++ b.extract 0 (min n b.size)) noB := by
  have := crash_is (dskB_good (a := a) (b := b) hq h) n
  refine ⟨this.1, this.2.trans ?_⟩
  cases q with
  | none => rfl
  | some q =>
    obtain ⟨s, t⟩ := q
    have ht : t = noB := hs
    subst ht
    show [crashF n ⟨epN, s, noB⟩, crashF n ⟨logN, a, b⟩] = _
    unfold crashF
    simp only [ext_none, add_noB]
    rfl
/-! the file of the epoch -/
theorem dskB_ep {s t a b : ByteArray} : isK ((dskB (some (s, t)) a b).map File.name) epN = true ∧ fileAt (dskB (some (s, t)) a b) epN = ⟨epN, s, t⟩ ∧ posK ((dskB (some (s, t)) a b).map File.name) epN = 0 := by
  have h := lookF_of (dskB_pw (some (s, t)) a b) (y := ⟨epN, s, t⟩) (by unfold dskB; simp)
  exact ⟨h.1, h.2, (atF_of (dskB_pw (some (s, t)) a b) (k := 0) (x := ⟨epN, s, t⟩) rfl).1⟩
theorem dskB_noep {a b : ByteArray} : isK ((dskB none a b).map File.name) epN = false ∧ posK ((dskB none a b).map File.name) epN = 0 := by
  have h1 : isK ((dskB none a b).map File.name) epN = false := noneF_of (l := dskB none a b) epN (fun x hx => by rw [List.mem_singleton.1 hx]; show logN ≠ epN; decide)
  refine ⟨h1, ?_⟩
  rcases Nat.eq_zero_or_pos (posK ((dskB none a b).map File.name) epN) with h0 | h0
  · exact h0
  · have := (posF_of (dskB_pw none a b) epN 0 ⟨logN, a, b⟩ rfl).1 h0
    exact absurd this (by show ¬ cmpB logN epN < 0; decide +kernel)
theorem ep_read {s t a b : ByteArray} (hq : s.size + t.size ≤ 1048576) (h : a.size + b.size ≤ 1048576) : readE (dskB (some (s, t)) a b) epN = 0 ∧ readS (dskB (some (s, t)) a b) epN = s ++ t := read_mem (dskB_good (q := some (s, t)) hq h) (x := ⟨epN, s, t⟩) (by unfold dskB; simp)
theorem ep_none {a b : ByteArray} (h : a.size + b.size ≤ 1048576) : readE (dskB none a b) epN = 7 := (read_none (dskB_good (q := none) (by decide) h) (fun x hx => by rw [List.mem_singleton.1 hx]; show logN ≠ epN; decide)).1
theorem ep_remove {s t a b : ByteArray} (hq : s.size + t.size ≤ 1048576) (h : a.size + b.size ≤ 1048576) : removeL (dskB (some (s, t)) a b) epN = dskB none a b := by
  rw [(remove_ok (ep_read hq h).1).1]
  unfold offL
  rw [dskB_ep.2.2]
  rfl
theorem ep_write {a b s : ByteArray} (h : a.size + b.size ≤ 1048576) (hs : s.size ≤ 1048576) : writeE (dskB none a b) epN s = 0 ∧ writeL (dskB none a b) epN s = dskB (some (noB, s)) a b := by
  have hg := dskB_good (q := none) (a := a) (b := b) (by decide) h
  have e : writeE (dskB none a b) epN s = 0 := by
    unfold writeE
    rw [hg, named_ep, if_pos rfl, if_pos rfl, dskB_noep.1, if_neg (by decide), if_neg (by unfold dskB; simp), if_pos hs]
  obtain ⟨_, h2, _⟩ := write_ok e
  refine ⟨e, ?_⟩
  have ho : fileOr (dskB none a b) epN = noFile epN := by unfold fileOr; rw [dskB_noep.1]; rfl
  rw [h2, ho]
  unfold putL
  rw [if_neg (by rw [show (⟨epN, (noFile epN).safe, (noFile epN).tail ++ s⟩ : File).name = epN from rfl, dskB_noep.1]; decide)]
  rw [show (⟨epN, (noFile epN).safe, (noFile epN).tail ++ s⟩ : File).name = epN from rfl, dskB_noep.2]
  rw [show (noFile epN).tail ++ s = s from noB_add s]
  rfl
theorem ep_sync {s t a b : ByteArray} (hq : s.size + t.size ≤ 1048576) (h : a.size + b.size ≤ 1048576) : readE (dskB (some (s, t)) a b) epN = 0 ∧ syncL (dskB (some (s, t)) a b) epN = dskB (some (s ++ t, noB)) a b := by
  have hr := (ep_read (s := s) (t := t) hq h).1
  refine ⟨hr, ?_⟩
  rw [(sync_ok hr).1, dskB_ep.2.1]
  unfold putL
  rw [show (⟨epN, s ++ t, ⟨#[]⟩⟩ : File).name = epN from rfl, if_pos dskB_ep.1, dskB_ep.2.2]
  rfl
end Go.Proofs.YtkoemhdchoicaaaDoor

/- The tree: what its functions compute, in plain words. -/
namespace Go.Proofs.YtkoemhdchoicaaaDoor
open Go.RowKit
/-! numbers in order, searched by halves -/
def ltI (l : List Int) (s : Int) (k : Nat) : Bool := match l[k]? with | some x => decide (x < s) | none => false
def posI (l : List Int) (s : Int) : Nat := bsr (ltI l s) 0 l.length
def isI (l : List Int) (s : Int) : Bool := decide (l[posI l s]? = some s)
theorem ltI_of {l : List Int} {k : Nat} {x : Int} (h : l[k]? = some x) (s : Int) : ltI l s k = decide (x < s) := by unfold ltI; rw [h]
theorem isI_in {l : List Int} {s : Int} {k : Nat} {x : Int} (hp : posI l s = k) (h : l[k]? = some x) : isI l s = decide (x = s) := by
  unfold isI
  rw [hp, h]
  simp
theorem isI_out {l : List Int} {s : Int} {k : Nat} (hp : posI l s = k) (h : ¬ k < l.length) : isI l s = false := by
  unfold isI
  rw [hp, List.getElem?_eq_none (by omega)]
  simp
theorem posI_le (l : List Int) (s : Int) : posI l s ≤ l.length := bsr_le _ _
theorem posK_le' (l : List ByteArray) (s : ByteArray) : posK l s ≤ l.length := bsr_le _ _
/-! the tree -/
structure Tr where
  zxid : Int
  nodes : List Node
  sess : List Int
abbrev noNode : Node := ⟨⟨#[]⟩, ⟨#[]⟩, 0, 0, 0, 0, 0, 0, 0⟩
abbrev rootN : Node := ⟨⟨#[47]⟩, ⟨#[]⟩, 0, 0, 0, 0, 0, 0, 0⟩
def posN (l : List Node) (p : ByteArray) : Nat := posK (l.map Node.path) p
def hasN (l : List Node) (p : ByteArray) : Bool := isK (l.map Node.path) p
def getN (l : List Node) (p : ByteArray) : Node := if hasN l p then l.getD (posN l p) noNode else noNode
def getE (l : List Node) (p : ByteArray) : Int := if hasN l p then 0 else 7
def kidB (p : ByteArray) (n : Node) : Bool := decide ((splitR n.path).2.2 = 0) && decide ((splitR n.path).1 = p)
def kidsL (l : List Node) (p : ByteArray) : List ByteArray := (l.filter (kidB p)).map (fun n => (splitR n.path).2.1)
/-- a child more or less -/
def bump (n : Node) (more z : Int) : Node := { n with kids := n.kids + more, cversion := n.cversion + 1, pzxid := z }
def kidN (l : List Node) (d : ByteArray) (more z : Int) : List Node := if hasN l d then l.set (posN l d) (bump (l.getD (posN l d) noNode) more z) else l
abbrev parent (p : ByteArray) : ByteArray := (splitR p).1
def insN (l : List Node) (x : Node) : List Node := l.take (posN l x.path) ++ x :: l.drop (posN l x.path)
def delN (l : List Node) (p : ByteArray) : List Node := l.take (posN l p) ++ l.drop (posN l p + 1)
def nodeOf (x : Txn) : Node := ⟨x.path, x.data, x.zxid, x.zxid, x.zxid, 0, 0, x.owner, 0⟩
def makeN (l : List Node) (x : Txn) : List Node := kidN (insN l (nodeOf x)) (parent x.path) 1 x.zxid
def goneN (l : List Node) (p : ByteArray) (z : Int) : List Node := kidN (delN l p) (parent p) (-1) z
def setN (l : List Node) (x : Txn) : List Node := l.set (posN l x.path) { l.getD (posN l x.path) noNode with data := x.data, version := x.version, mzxid := x.zxid }
def makeV (p : ByteArray) : List Event := [⟨1, p⟩, ⟨4, parent p⟩]
def goneV (p : ByteArray) : List Event := [⟨2, p⟩, ⟨4, parent p⟩]
def ownedL (l : List Node) (s : Int) : List ByteArray := (l.filter (fun n => decide (n.owner = s))).map Node.path
def closeN (l : List Node) (s z : Int) : List Node := (ownedL l s).foldl (fun l p => goneN l p z) l
def closeV (l : List Node) (s : Int) : List Event := (ownedL l s).flatMap goneV
/-! is it good -/
def okS (l : List Int) (i : Nat) : Bool := match l[i]? with
  | none => true
  | some s => decide (1 ≤ s) && (decide (s ≤ 2147483647) && (match i with | 0 => true | j + 1 => match l[j]? with | some y => decide (y < s) | none => true))
def statB (z : Int) (n : Node) : Bool := decide (0 ≤ n.version ∧ n.version ≤ 2147483647 ∧ 0 ≤ n.cversion ∧ n.cversion ≤ 2147483647 ∧ 0 ≤ n.czxid ∧ n.czxid ≤ n.mzxid ∧ n.czxid ≤ n.pzxid ∧ n.mzxid ≤ z ∧ n.pzxid ≤ z)
def ownB (ss : List Int) (n : Node) : Bool := decide (n.owner = 0) || (isI ss n.owner && decide (n.kids = 0))
def upB (l : List Node) (n : Node) : Bool := decide ((splitR n.path).2.2 ≠ 0) || hasN l (parent n.path)
def lessB (l : List Node) (i : Nat) (n : Node) : Bool := match i with | 0 => true | j + 1 => match l[j]? with | some y => decide (cmpB y.path n.path < 0) | none => true
def okN (t : Tr) (i : Nat) : Bool := match t.nodes[i]? with
  | none => true
  | some n => goodP n.path && (decide (n.data.size ≤ 256) && (lessB t.nodes i n && (statB t.zxid n && (ownB t.sess n && upB t.nodes n))))
def headB (t : Tr) : Bool := decide (t.nodes.length ≤ 400) && (decide (0 ≤ t.zxid ∧ t.zxid < 4611686018427387904) && (match t.nodes with | [] => false | n :: _ => decide (n.path = slash) && decide (n.owner = 0)))
def goodTree (t : Tr) : Bool := headB t && ((List.range t.sess.length).all (okS t.sess) && ((List.range t.nodes.length).all (okN t) && t.nodes.all (fun n => decide (n.kids = ((t.nodes.countP (kidB n.path) : Nat) : Int)))))
/-! a transaction -/
def lacksE (t : Tr) (x : Txn) : Int := if hasN t.nodes x.path then 8 else if hasN t.nodes (parent x.path) then (if (getN t.nodes (parent x.path)).owner ≠ 0 then 11 else if x.owner ≠ 0 ∧ x.owner ≠ x.session then 12 else if 400 ≤ t.nodes.length then 6 else 0) else 7
def wrongE (t : Tr) (x : Txn) : Int :=
  if goodTree t = false then 3
  else if goodT x ≠ 0 then goodT x
  else if x.zxid ≤ t.zxid then 13
  else if x.op = 1 then (if isI t.sess x.session then 8 else 0)
  else if isI t.sess x.session = false then 12
  else if x.op = 3 then lacksE t x
  else if x.op = 4 then (if hasN t.nodes x.path then (if 0 < (getN t.nodes x.path).kids then 10 else 0) else 7)
  else if x.op = 5 then (if hasN t.nodes x.path then (if x.version ≠ (getN t.nodes x.path).version + 1 then 9 else 0) else 7)
  else 0
def insS (l : List Int) (s : Int) : List Int := l.take (posI l s) ++ s :: l.drop (posI l s)
def delS (l : List Int) (s : Int) : List Int := l.take (posI l s) ++ l.drop (posI l s + 1)
def doN (t : Tr) (x : Txn) : List Node := if x.op = 2 then closeN t.nodes x.session x.zxid else if x.op = 3 then makeN t.nodes x else if x.op = 4 then goneN t.nodes x.path x.zxid else if x.op = 5 then setN t.nodes x else t.nodes
def doS (t : Tr) (x : Txn) : List Int := if x.op = 1 then insS t.sess x.session else if x.op = 2 then delS t.sess x.session else t.sess
def doV (t : Tr) (x : Txn) : List Event := if x.op = 2 then closeV t.nodes x.session else if x.op = 3 then makeV x.path else if x.op = 4 then goneV x.path else if x.op = 5 then [⟨3, x.path⟩] else []
def fullB (l : List Node) : Bool := l.any (fun n => decide (2147483647 < n.cversion))
def applyE (t : Tr) (x : Txn) : Int := if wrongE t x = 0 then (if fullB (doN t x) then 6 else 0) else wrongE t x
def noTr : Tr := ⟨0, [], []⟩
def applyT (t : Tr) (x : Txn) : Tr := if applyE t x = 0 then ⟨x.zxid, doN t x, doS t x⟩ else noTr
def applyV (t : Tr) (x : Txn) : List Event := if applyE t x = 0 then doV t x else []
abbrev newTr : Tr := ⟨0, [rootN], []⟩
end Go.Proofs.YtkoemhdchoicaaaDoor

/- A server, as it lies in memory. -/
namespace Go.Proofs.YtkoemhdchoicaaaDoor
open Go.RowKit Go.ChangeShapes Go.WideShapes Go.ChangeAt
/-- a slice that is read, and does not lie in some blocks -/
def SlA {α : Type} (p : Nat → Prop) (f : α → List Value) (s : Nat) (w : World) (v : Value) (l : List α) : Prop := Sl f s w v l ∧ (l = [] ∨ ∀ q, p q → v.ownBlock ≠ some q)
/-- worlds that differ in some blocks alone -/
structure Swap (p : Nat → Prop) (w w' : World) : Prop where
  size : w'.heap.size = w.heap.size
  block : ∀ k, ¬ p k → w'.heap[k]? = w.heap[k]?
theorem Swap.refl (p : Nat → Prop) (w : World) : Swap p w w := ⟨rfl, fun _ _ => rfl⟩
theorem Swap.drew {p : Nat → Prop} {w w' : World} (h : Swap p w w') : Swap p w.drew w'.drew := ⟨h.1, h.2⟩
theorem Swap.drew1 {p : Nat → Prop} {w w' : World} (h : Swap p w w') : Swap p w.drew w' := ⟨h.1, h.2⟩
theorem Swap.drew2 {p : Nat → Prop} {w w' : World} (h : Swap p w w') : Swap p w w'.drew := ⟨h.1, h.2⟩
theorem Swap.drewN1 {p : Nat → Prop} {w w' : World} {n : Nat} (h : Swap p w w') : Swap p (w.drewN n) w' := ⟨h.1, h.2⟩
theorem Swap.drewN2 {p : Nat → Prop} {w w' : World} {n : Nat} (h : Swap p w w') : Swap p w (w'.drewN n) := ⟨h.1, h.2⟩
theorem Swap.new {p : Nat → Prop} {w w' : World} (h : Swap p w w') (o o' : Obj) (hp : p w.heap.size) : Swap p (w.alloc o) (w'.alloc o') := by
  refine ⟨by simp [h.size], fun k hk => ?_⟩
  have hne : k ≠ w.heap.size := fun e => hk (e ▸ hp)
  rcases Nat.lt_or_ge k w.heap.size with hlt | hge
  · rw [heap_alloc_old _ _ hlt, heap_alloc_old _ _ (by rw [h.size]; exact hlt), h.block k hk]
  · have hz := h.size
    rw [Array.getElem?_eq_none (by simp; omega), Array.getElem?_eq_none (by simp; omega)]
theorem Swap.alloc {p : Nat → Prop} {w w' : World} (h : Swap p w w') (o : Obj) : Swap p (w.alloc o) (w'.alloc o) := by
  refine ⟨by simp [h.size], fun k hk => ?_⟩
  rcases Nat.lt_trichotomy k w.heap.size with hlt | rfl | hgt
  · rw [heap_alloc_old _ _ hlt, heap_alloc_old _ _ (by rw [h.size]; exact hlt), h.block k hk]
  · rw [heap_alloc_new, ← h.size, heap_alloc_new]
  · have hz := h.size
    rw [Array.getElem?_eq_none (by simp; omega), Array.getElem?_eq_none (by simp; omega)]
theorem Swap.grow {p : Nat → Prop} {w w' : World} (h : Swap p w w') (e : Array Obj) (d d' : Nat) : Swap p (grow w e d) (Go.Proofs.YtkoemhdchoicaaaDoor.grow w' e d') := by
  refine ⟨by simp [h.size], fun k hk => ?_⟩
  show (w'.heap ++ e)[k]? = (w.heap ++ e)[k]?
  rw [Array.getElem?_append, Array.getElem?_append, h.size]
  split
  · exact h.block k hk
  · rfl
theorem Swap.set {p : Nat → Prop} {w w' : World} (h : Swap p w w') (g o : Nat) (v : Value) (hp : p g) : Swap p w (w'.setCell ⟨g, o, none⟩ v) := by
  refine ⟨by simp [World.setCell, h.size], fun k hk => ?_⟩
  have hne : g ≠ k := fun e => hk (e ▸ hp)
  show (w'.heap.modify g _)[k]? = _
  rw [Array.getElem?_modify, if_neg hne, h.block k hk]
section
variable {α : Type} {p p' : Nat → Prop} {f : α → List Value} {s : Nat} {e : TypeId} {w w' : World} {B : Nat} {v : Value} {l : List α}
theorem SlA.below (h : SlA p f s w v l) (hb : Below w.heap.size w w') : SlA p f s w' v l := ⟨h.1.below hb, h.2⟩
theorem SlA.nil (p : Nat → Prop) (f : α → List Value) (s : Nat) (w : World) : SlA p f s w (.slice none 0 0) [] := ⟨Sl.nil f s w, .inl rfl⟩
theorem Ow.sla (h : Ow f s e w B v l) (hp : ∀ q, p q → q < B) : SlA p f s w v l := by
  refine ⟨h.sl, .inr fun q hq hv => ?_⟩
  obtain ⟨A, c, rfl, _, _, _, h4⟩ := h.form
  cases A with
  | none => cases hv
  | some a =>
    obtain ⟨g, rfl, hB, _⟩ := h4 _ rfl
    have := hp q hq
    have e1 : g = q := by simpa [Value.ownBlock] using hv
    omega
/-- more blocks, that are not there yet -/
theorem SlA.more (h : SlA p f s w v l) (hp : ∀ q, p' q → p q ∨ w.heap.size ≤ q) : SlA p' f s w v l := by
  refine ⟨h.1, ?_⟩
  cases l with
  | nil => exact .inl rfl
  | cons x r =>
    refine .inr fun q hq hv => ?_
    rcases hp q hq with h1 | h1
    · rcases h.2 with h2 | h2
      · cases h2
      · exact h2 q h1 hv
    · obtain ⟨A, c, rfl, _⟩ := h.1.form
      obtain ⟨b, off, rfl, hb, _⟩ := h.1.at_ (i := 0) rfl
      have e1 : b = q := by simpa [Value.ownBlock] using hv
      omega
theorem SlA.swap (h : SlA p f s w v l) (hw : Swap p w w') : SlA p f s w' v l := by
  refine ⟨?_, h.2⟩
  obtain ⟨A, c, hv, h1, h2, h3, h4⟩ := h.1
  refine ⟨A, c, hv, h1, h2, h3, fun h0 => ?_⟩
  obtain ⟨b, off, rfl, hb, hc⟩ := h4 h0
  have hnp : ¬ p b := by
    intro hp
    rcases h.2 with h5 | h5
    · rw [h5] at h0; simp at h0
    · exact h5 b hp (by rw [hv]; rfl)
  exact ⟨b, off, rfl, by rw [hw.size]; exact hb, fun i x hx j u hu => (World.cell?_of_block (hw.block b hnp)).trans (hc i x hx j u hu)⟩
end
theorem SlA.sl_swap {α : Type} {p : Nat → Prop} {f : α → List Value} {s : Nat} {w w' : World} {v : Value} {l : List α} (h : SlA p f s w v l) (hw : Swap p w w') : Sl f s w' v l := (h.swap hw).1
theorem SlA.sl_below {α : Type} {p : Nat → Prop} {f : α → List Value} {s : Nat} {w w' : World} {v : Value} {l : List α} (h : SlA p f s w v l) (hb : Below w.heap.size w w') : Sl f s w' v l := (h.below hb).1
structure Srv where
  up : Bool
  disk : List File
  id : Int
  epoch : Int
  log : List Txn
  done_ : Int
  tz : Int
  nodes : List Node
  sess : List Int
  watches : List Watch
structure SrvV where
  da : Option Addr
  dc : Nat
  la : Option Addr
  lc : Nat
  na : Option Addr
  nc : Nat
  sa : Option Addr
  sc : Nat
  wa : Option Addr
  wc : Nat
abbrev vSrv (s : Srv) (v : SrvV) : Value := .agg #[.bool s.up, .slice v.da s.disk.length v.dc, .int .i64 s.id, .int .i64 s.epoch, .slice v.la s.log.length v.lc, .int .i64 s.done_, .int .i64 s.tz, .slice v.na s.nodes.length v.nc, .slice v.sa s.sess.length v.sc, .slice v.wa s.watches.length v.wc]
structure SrvIn (p : Nat → Prop) (w : World) (s : Srv) (v : SrvV) : Prop where
  disk : SlA p cFile 3 w (.slice v.da s.disk.length v.dc) s.disk
  log : SlA p cTxn 7 w (.slice v.la s.log.length v.lc) s.log
  nodes : SlA p cNode 9 w (.slice v.na s.nodes.length v.nc) s.nodes
  sess : SlA p cInt 1 w (.slice v.sa s.sess.length v.sc) s.sess
  watches : SlA p cWatch 3 w (.slice v.wa s.watches.length v.wc) s.watches
theorem SrvIn.below {p : Nat → Prop} {w w' : World} {s : Srv} {v : SrvV} (h : SrvIn p w s v) (hb : Below w.heap.size w w') : SrvIn p w' s v :=
  ⟨h.disk.below hb, h.log.below hb, h.nodes.below hb, h.sess.below hb, h.watches.below hb⟩
theorem SrvIn.swap {p : Nat → Prop} {w w' : World} {s : Srv} {v : SrvV} (h : SrvIn p w s v) (hb : Swap p w w') : SrvIn p w' s v :=
  ⟨h.disk.swap hb, h.log.swap hb, h.nodes.swap hb, h.sess.swap hb, h.watches.swap hb⟩
theorem SrvIn.more {p p' : Nat → Prop} {w : World} {s : Srv} {v : SrvV} (h : SrvIn p w s v) (hp : ∀ q, p' q → p q ∨ w.heap.size ≤ q) : SrvIn p' w s v :=
  ⟨h.disk.more hp, h.log.more hp, h.nodes.more hp, h.sess.more hp, h.watches.more hp⟩
abbrev noSrv : Srv := ⟨false, [], 0, 0, [], 0, 0, [], [], []⟩
abbrev noSrvV : SrvV := ⟨none, 0, none, 0, none, 0, none, 0, none, 0⟩
theorem noSrv_in (p : Nat → Prop) (w : World) : SrvIn p w noSrv noSrvV := ⟨SlA.nil _ _ _ _, SlA.nil _ _ _ _, SlA.nil _ _ _ _, SlA.nil _ _ _ _, SlA.nil _ _ _ _⟩
/-- a server, and how it went -/
def SrvRes (p : Nat → Prop) (s : Srv) (c : Int) (w : World) (e : Ending) (w' : World) : Prop := ∃ v, e = .returned (.tuple #[vSrv s v, .int .i64 c]) ∧ SrvIn p w' s v ∧ Below w.heap.size w w'
end Go.Proofs.YtkoemhdchoicaaaDoor

/- Regions that draw their order: loads are taken first under a condition that only the region's last stores may break. -/
namespace Go.Proofs.YtkoemhdchoicaaaDoor
open Go.RowKit
theorem below_d1 (B : Nat) (w : World) (e : Array Obj) (d d' : Nat) : Below B (grow w.drew e d) (grow w e d') := ⟨rfl, rfl, rfl, Nat.le_refl _, fun _ _ => rfl⟩
theorem below_d2 (B : Nat) (w : World) (e e1 : Array Obj) (d d' d1 d1' : Nat) : Below B (grow (grow w e d).drew e1 d1) (grow (grow w e d') e1 d1') := ⟨rfl, rfl, rfl, Nat.le_refl _, fun _ _ => rfl⟩
theorem below_d3 (B : Nat) (w : World) (e : Array Obj) (d d' : Nat) : Below B (grow w e d) (grow w e d') := ⟨rfl, rfl, rfl, Nat.le_refl _, fun _ _ => rfl⟩
theorem below_d4 (B : Nat) (w : World) (e e1 : Array Obj) (d d' d1 d1' : Nat) : Below B (grow (grow w e d) e1 d1) (grow (grow w e d') e1 d1') := ⟨rfl, rfl, rfl, Nat.le_refl _, fun _ _ => rfl⟩
theorem below_d5 (B : Nat) (w : World) : Below B w.drew w := ⟨rfl, rfl, rfl, Nat.le_refl _, fun _ _ => rfl⟩
@[go_sem] theorem grow_drewN' (w : World) (n : Nat) (e : Array Obj) (d : Nat) : grow (w.drewN n) e d = grow w e d := rfl
@[go_sem] theorem grow_drew' (w : World) (e : Array Obj) (d : Nat) : grow w.drew e d = grow w e d := rfl
@[go_sem] theorem setCell_drewN' (w : World) (n : Nat) (a : Addr) (v : Value) : (w.drewN n).setCell a v = (w.setCell a v).drewN n := rfl
section
variable {P : Program} {ops : Array Oper} {Q : Exit → Act → World → Prop} {md : Region.Mode} {S : World → Prop} {brk : Nat → Bool}
/-- none of the last stores has come up -/
def clean (ops : Array Oper) (brk : Nat → Bool) (listed : Array Bool) : Bool := (List.range ops.size).all fun k => !(brk k && listed.getD k true)
/-- whatever order is picked; S holds behind every operation till one of brk has come up -/
def wpE (P : Program) (md : Region.Mode) (ops : Array Oper) (Q : Exit → Act → World → Prop) (S : World → Prop) (brk : Nat → Bool) : Nat → Array Bool → Act → World → Prop
  | 0, listed, a, w => Region.ready md ops listed = [] ∧ Q .normal a w
  | fuel + 1, listed, a, w =>
    (Region.ready md ops listed = [] → Q .normal a w) ∧
    ∀ i ∈ Region.ready md ops listed, wpOp P ops Q i (fun a' w' => (clean ops brk (listed.setIfInBounds i true) = true → S w') ∧ wpE P md ops Q S brk fuel (listed.setIfInBounds i true) a' w') a w
theorem wpAny_of_E : ∀ (fuel : Nat) (listed : Array Bool) (a : Act) (w : World), wpE P md ops Q S brk fuel listed a w → wpAny P md ops Q fuel listed a w
  | 0, _, _, _, h => h
  | fuel + 1, _, _, _, h => ⟨h.1, fun i hi => wpOp_mono (fun a' w' h' => wpAny_of_E fuel _ a' w' h'.2) (h.2 i hi)⟩
theorem clean_of {listed : Array Bool} {j : Nat} (h : clean ops brk (listed.setIfInBounds j true) = true) : clean ops brk listed = true := by
  unfold clean at *
  rw [List.all_eq_true] at *
  intro k hk
  have h1 := h k hk
  by_cases hjk : j = k
  · subst hjk
    simp only [Bool.not_eq_true', Bool.and_eq_false_iff] at h1 ⊢
    rcases h1 with h1 | h1
    · exact .inl h1
    · rcases Nat.lt_or_ge j listed.size with h2 | h2
      · simp [h2] at h1
      · exact .inr (by simp [Array.getD_eq_getD_getElem?] at h1)
  · rw [getD_set_ne true hjk] at h1
    exact h1
theorem clean_set {listed : Array Bool} {j : Nat} (h : clean ops brk listed = true) (hj : brk j = false) : clean ops brk (listed.setIfInBounds j true) = true := by
  unfold clean at *
  rw [List.all_eq_true] at *
  intro k hk
  have h1 := h k hk
  by_cases hjk : j = k
  · subst hjk
    simp [hj]
  · rw [getD_set_ne true hjk]
    exact h1
/-- those of brk wait for i -/
def waits (md : Region.Mode) (ops : Array Oper) (brk : Nat → Bool) (i : Nat) : Bool :=
  (List.range ops.size).all fun j => !brk j || (match ops[j]? with | some o => o.after.any fun e => Region.binds md e && e.on == i | none => true)
theorem waits_spec {i j : Nat} {oj : Oper} (h : waits md ops brk i = true) (hj : ops[j]? = some oj) (hb : brk j = true) : ∃ e ∈ oj.after, Region.binds md e = true ∧ e.on = i := by
  have hlt : j < ops.size := (Array.getElem?_eq_some_iff.1 hj).1
  have h1 := List.all_eq_true.1 h j (List.mem_range.2 hlt)
  rw [hb, hj] at h1
  simp only [Bool.not_true, Bool.false_or] at h1
  obtain ⟨k, hk, he⟩ := Array.any_eq_true.1 h1
  simp only [Bool.and_eq_true, beq_iff_eq] at he
  exact ⟨_, Array.getElem_mem hk, he.1, he.2⟩
theorem not_waits {i j : Nat} {listed : Array Bool} (hr : i ∈ Region.ready md ops listed) (hj : j ∈ Region.ready md ops listed) : listed.getD j true = false ∧ ∃ oj, ops[j]? = some oj ∧ ∀ e ∈ oj.after, Region.binds md e = true → e.on ≠ i := by
  obtain ⟨hjun, oj, hoj, hall⟩ := mem_ready.1 hj
  refine ⟨hjun, oj, hoj, fun e he hb heq => ?_⟩
  have h1 := hall e he hb
  have h0 := (mem_ready.1 hr).1
  rw [heq] at h1
  rcases Nat.lt_or_ge i listed.size with h' | h'
  · simp [h'] at h0 h1; rw [h0] at h1; cases h1
  · simp [Array.getElem?_eq_none h'] at h1
/-- a load may be taken first -/
theorem wpE_first {i : Nat} {oi : Oper} {v : Value} (hi : ops[i]? = some oi) (hsel : ∀ (j : Nat) (o : Oper) cs b, ops[j]? = some o → o.op ≠ .select cs b)
    (hQ : ∀ c a w, Q (.panic c) (a.put oi.dst v) w → Q (.panic c) a w) (hwt : waits md ops brk i = true) (hbi : brk i = false) :
    ∀ (fuel : Nat) (listed : Array Bool) (a : Act) (w : World),
      (∀ j oj, ops[j]? = some oj → j ≠ i → listed.getD j true = false → (∀ e ∈ oj.after, Region.binds md e = true → e.on ≠ i) → oi.apart ops oj = true) →
      i ∈ Region.ready md ops listed → YieldsIf P ops S oi v a → clean ops brk listed = true → S w →
      wpE P md ops Q S brk fuel (listed.setIfInBounds i true) (a.put oi.dst v) w → wpE P md ops Q S brk (fuel + 1) listed a w := by
  intro fuel
  induction fuel with
  | zero =>
    intro listed a w _ hr hy hc hS H
    refine ⟨fun h => (by rw [h] at hr; cases hr), fun j hj => ?_⟩
    by_cases hji : j = i
    · subst hji; exact hy.wpOp hi hS ⟨fun _ => hS, H⟩
    · have := ready_mono hj hji
      rw [H.1] at this
      cases this
  | succ fuel ih =>
    intro listed a w hfree hr hy hc hS H
    refine ⟨fun h => (by rw [h] at hr; cases hr), fun j hj => ?_⟩
    by_cases hji : j = i
    · subst hji; exact hy.wpOp hi hS ⟨fun _ => hS, H⟩
    · have h1 := H.2 j (ready_mono hj hji)
      obtain ⟨hjun, oj, hoj, hnot⟩ := not_waits hr hj
      have hbj : brk j = false := by
        cases hb : brk j with
        | false => rfl
        | true =>
          obtain ⟨e, he, h2, h3⟩ := waits_spec hwt hoj hb
          exact absurd h3 (hnot e he h2)
      have h2 := wpOp_putIf hoj (hfree j oj hoj hji hjun hnot) (fun cs b => hsel i oi cs b hi) (fun cs b => hsel j oj cs b hoj) hQ hy h1
      have hfree' : ∀ k ok, ops[k]? = some ok → k ≠ i → (listed.setIfInBounds j true).getD k true = false →
          (∀ e ∈ ok.after, Region.binds md e = true → e.on ≠ i) → oi.apart ops ok = true := fun k ok hk hki hun hno => by
        refine hfree k ok hk hki ?_ hno
        by_cases hjk : j = k
        · subst hjk; exact hjun
        · rw [getD_set_ne true hjk] at hun; exact hun
      have hcj := clean_set hc hbj
      have hcij := clean_set (clean_set hc hbi) hbj
      refine wpOp_mono (fun a' w' h3 => ⟨fun _ => h3.2.1 hcij, ih (listed.setIfInBounds j true) a' w' hfree' (ready_mono hr (Ne.symm hji)) h3.1 hcj (h3.2.1 hcij) ?_⟩) h2
      rw [Array.setIfInBounds_comm _ _ hji]
      exact h3.2.2
/-- what looks at no memory may be taken first at any time -/
theorem wpE_firstP {i : Nat} {oi : Oper} {v : Value} (hi : ops[i]? = some oi) (hsel : ∀ (j : Nat) (o : Oper) cs b, ops[j]? = some o → o.op ≠ .select cs b)
    (hQ : ∀ c a w, Q (.panic c) (a.put oi.dst v) w → Q (.panic c) a w) (hbi : brk i = false) :
    ∀ (fuel : Nat) (listed : Array Bool) (a : Act) (w : World),
      (∀ j oj, ops[j]? = some oj → j ≠ i → listed.getD j true = false → (∀ e ∈ oj.after, Region.binds md e = true → e.on ≠ i) → oi.apart ops oj = true) →
      i ∈ Region.ready md ops listed → YieldsIf P ops (fun _ => True) oi v a → (clean ops brk listed = true → S w) →
      wpE P md ops Q S brk fuel (listed.setIfInBounds i true) (a.put oi.dst v) w → wpE P md ops Q S brk (fuel + 1) listed a w := by
  intro fuel
  induction fuel with
  | zero =>
    intro listed a w _ hr hy hS H
    refine ⟨fun h => (by rw [h] at hr; cases hr), fun j hj => ?_⟩
    by_cases hji : j = i
    · subst hji; exact hy.wpOp hi trivial ⟨fun hc => hS (clean_of hc), H⟩
    · have := ready_mono hj hji
      rw [H.1] at this
      cases this
  | succ fuel ih =>
    intro listed a w hfree hr hy hS H
    refine ⟨fun h => (by rw [h] at hr; cases hr), fun j hj => ?_⟩
    by_cases hji : j = i
    · subst hji; exact hy.wpOp hi trivial ⟨fun hc => hS (clean_of hc), H⟩
    · have h1 := H.2 j (ready_mono hj hji)
      obtain ⟨hjun, oj, hoj, hnot⟩ := not_waits hr hj
      have h2 := wpOp_putIf hoj (hfree j oj hoj hji hjun hnot) (fun cs b => hsel i oi cs b hi) (fun cs b => hsel j oj cs b hoj) hQ hy h1
      have hfree' : ∀ k ok, ops[k]? = some ok → k ≠ i → (listed.setIfInBounds j true).getD k true = false →
          (∀ e ∈ ok.after, Region.binds md e = true → e.on ≠ i) → oi.apart ops ok = true := fun k ok hk hki hun hno => by
        refine hfree k ok hk hki ?_ hno
        by_cases hjk : j = k
        · subst hjk; exact hjun
        · rw [getD_set_ne true hjk] at hun; exact hun
      have hcc : clean ops brk (listed.setIfInBounds j true) = true → clean ops brk ((listed.setIfInBounds i true).setIfInBounds j true) = true := fun hc => by
        rw [Array.setIfInBounds_comm _ _ (Ne.symm hji)]
        exact clean_set hc hbi
      refine wpOp_mono (fun a' w' h3 => ⟨fun hc => h3.2.1 (hcc hc), ih (listed.setIfInBounds j true) a' w' hfree' (ready_mono hr (Ne.symm hji)) h3.1 (fun hc => h3.2.1 (hcc hc)) ?_⟩) h2
      rw [Array.setIfInBounds_comm _ _ hji]
      exact h3.2.2
theorem wpE_take {i : Nat} {oi : Oper} {v : Value} {fuel : Nat} {listed : Array Bool} {a : Act} {w : World} (hi : ops[i]? = some oi)
    (hs : Region.noSelect ops = true) (hf : Region.free md ops listed i = true) (hr : (Region.ready md ops listed).contains i = true)
    (hwt : waits md ops brk i = true) (hc : clean ops brk listed = true) (hbi : brk i = false)
    (hQ : ∀ c a w, Q (.panic c) (a.put oi.dst v) w → Q (.panic c) a w) (hy : YieldsIf P ops S oi v a) (hS : S w)
    (h : wpE P md ops Q S brk fuel (listed.setIfInBounds i true) (a.put oi.dst v) w) : wpE P md ops Q S brk (fuel + 1) listed a w :=
  wpE_first hi (Region.noSelect_spec hs) hQ hwt hbi fuel listed a w (Region.free_spec hi hf) (by simpa using hr) hy hc hS h
theorem wpE_takeP {i : Nat} {oi : Oper} {v : Value} {fuel : Nat} {listed : Array Bool} {a : Act} {w : World} (hi : ops[i]? = some oi)
    (hs : Region.noSelect ops = true) (hf : Region.free md ops listed i = true) (hr : (Region.ready md ops listed).contains i = true) (hbi : brk i = false)
    (hQ : ∀ c a w, Q (.panic c) (a.put oi.dst v) w → Q (.panic c) a w) (hy : YieldsIf P ops (fun _ => True) oi v a) (hS : S w)
    (h : wpE P md ops Q S brk fuel (listed.setIfInBounds i true) (a.put oi.dst v) w) : wpE P md ops Q S brk (fuel + 1) listed a w :=
  wpE_firstP hi (Region.noSelect_spec hs) hQ hbi fuel listed a w (Region.free_spec hi hf) (by simpa using hr) hy (fun _ => hS) h
theorem wpE_takeQ {i : Nat} {oi : Oper} {v : Value} {fuel : Nat} {listed : Array Bool} {a : Act} {w : World} (hi : ops[i]? = some oi)
    (hs : Region.noSelect ops = true) (hf : Region.free md ops listed i = true) (hr : (Region.ready md ops listed).contains i = true) (hbi : brk i = false)
    (hQ : ∀ c a w, Q (.panic c) (a.put oi.dst v) w → Q (.panic c) a w) (hy : YieldsIf P ops (fun _ => True) oi v a) (hc : clean ops brk listed = false)
    (h : wpE P md ops Q S brk fuel (listed.setIfInBounds i true) (a.put oi.dst v) w) : wpE P md ops Q S brk (fuel + 1) listed a w :=
  wpE_firstP hi (Region.noSelect_spec hs) hQ hbi fuel listed a w (Region.free_spec hi hf) (by simpa using hr) hy (fun hc2 => by rw [hc] at hc2; cases hc2) h
def AllE (P : Program) (md : Region.Mode) (ops : Array Oper) (Q : Exit → Act → World → Prop) (S : World → Prop) (brk : Nat → Bool) (fuel : Nat) (listed : Array Bool) (a : Act) (w : World) (rs : List Nat) : Prop :=
  ∀ i ∈ rs, wpOp P ops Q i (fun a' w' => (clean ops brk (listed.setIfInBounds i true) = true → S w') ∧ wpE P md ops Q S brk fuel (listed.setIfInBounds i true) a' w') a w
theorem AllE.nil {fuel : Nat} {listed : Array Bool} {a : Act} {w : World} : AllE P md ops Q S brk fuel listed a w [] := fun _ h => by cases h
theorem AllE.cons {fuel : Nat} {listed : Array Bool} {a : Act} {w : World} {i : Nat} {o : Oper} {rs : List Nat} (ho : ops[i]? = some o)
    (h : ∀ K' : Act → World → Prop, Shut (∀ a w, S w → (S w → wpE P md ops Q S brk fuel (listed.setIfInBounds i true) a w) → K' a w) → if Region.wanted o (yielded ops a.tmps) = true then Oper.wp P o a w K' Q else K' (a.put o.dst undef) w)
    (hs : AllE P md ops Q S brk fuel listed a w rs) : AllE P md ops Q S brk fuel listed a w (i :: rs) := fun j hj => by
  rcases List.mem_cons.1 hj with rfl | hj
  · exact wpOp_step ho (fun K' hK => h K' (fun a w hS hW => hK a w ⟨fun _ => hS, hW hS⟩))
  · exact hs j hj
/-- one behind which S is asked no more -/
theorem AllE.last {fuel : Nat} {listed : Array Bool} {a : Act} {w : World} {i : Nat} {o : Oper} {rs : List Nat} (ho : ops[i]? = some o) (hb : clean ops brk (listed.setIfInBounds i true) = false)
    (h : ∀ K' : Act → World → Prop, Shut (∀ a w, wpE P md ops Q S brk fuel (listed.setIfInBounds i true) a w → K' a w) → if Region.wanted o (yielded ops a.tmps) = true then Oper.wp P o a w K' Q else K' (a.put o.dst undef) w)
    (hs : AllE P md ops Q S brk fuel listed a w rs) : AllE P md ops Q S brk fuel listed a w (i :: rs) := fun j hj => by
  rcases List.mem_cons.1 hj with rfl | hj
  · exact wpOp_step ho (fun K' hK => h K' (fun a w hW => hK a w ⟨fun hf => (by rw [hb] at hf; cases hf), hW⟩))
  · exact hs j hj
theorem wpE_ready {rs : List Nat} {fuel : Nat} {listed : Array Bool} {a : Act} {w : World} (hr : Region.ready md ops listed = rs) (hne : rs ≠ [])
    (h : AllE P md ops Q S brk fuel listed a w rs) : wpE P md ops Q S brk (fuel + 1) listed a w := ⟨fun h0 => absurd (hr ▸ h0) hne, by rw [hr]; exact h⟩
theorem wpE_done {listed : Array Bool} {a : Act} {w : World} (hr : Region.ready md ops listed = []) (h : Q .normal a w) :
    ∀ fuel, wpE P md ops Q S brk fuel listed a w
  | 0 => ⟨hr, h⟩
  | _ + 1 => ⟨fun _ => h, by rw [hr]; simp⟩
theorem wp_region_W {id : Nat} {a : Act} {w : World} (hm : P.follows .mixedOrders = true) (h : ∀ W, Hid (W = w.drew) → wpAny P .any ops Q ops.size (Array.replicate ops.size false) a W) : (Code.region id ops true).wp P Q a w :=
  wp_region_any hm (h _ (Lib.hid rfl))
theorem wpAny_S {a : Act} {W : World} (S : World → Prop) (brk : Nat → Bool) (hS : S W) (h : S W → wpE P .any ops Q S brk ops.size (Array.replicate ops.size false) a W) : wpAny P .any ops Q ops.size (Array.replicate ops.size false) a W :=
  wpAny_of_E _ _ _ _ (h hS)
end
section
variable {P : Program} {w : World} {ops : Array Oper} {o : Oper} {a : Act} {K : Act → World → Prop} {Q : Exit → Act → World → Prop} {EE : Prop}
theorem stepE_app (hw : Region.wanted o (yielded ops a.tmps) = true) (sv x : Operand) (t : TypeId)
    (ho : o.op = .call { callee := .builtin .append, args := #[sv, x], argTypes := #[t, t] })
    {α : Type} {f : α → List Value} {s : Nat} {e : TypeId} {z : Value} {bytes : Nat} (E : El P t e z s bytes) {B : Nat} {v xv : Value} {l m : List α}
    (hs : a.eval sv = v) (hx : a.eval x = xv) (hown : Ow f s e w B v l) (hsrc : Sl f s w xv m) (h1 : ∀ x, ∀ u ∈ f x, u.oneCell' = true)
    (h63 : l.length + m.length ≤ maxLen) (hbytes : (l.length + m.length) * bytes ≤ 140737488355328) (hbase : B ≤ w.heap.size)
    (h : ∀ v' w', Ow f s e w' B v' (l ++ m) → w.grownBy w' v.ownBlock → (v'.ownBlock = v.ownBlock ∨ v'.ownBlock = some w.heap.size) → K (a.put o.dst v') w') : if Region.wanted o (yielded ops a.tmps) = true then Oper.wp P o a w K Q else EE := by
  rw [if_pos hw]
  exact wp_app w sv x t ho E hs hx hown hsrc h1 h63 hbytes hbase h
theorem stepE_mk (hw : Region.wanted o (yielded ops a.tmps) = true) (x y : Operand) (t : TypeId) (ho : o.op = Op.makeSlice t x y)
    {α : Type} {f : α → List Value} {s : Nat} {e : TypeId} {z : Value} {bytes : Nat} (E : El P t e z s bytes) {B n : Nat} {C : Int} (hx : a.eval x = .int .i64 0) (hy : a.eval y = .int .i64 C) (hC : C = (n : Int))
    (hbytes : n * bytes ≤ 140737488355328) (hn : n ≤ maxLen) (hbase : B ≤ w.heap.size)
    (h : ∀ w', Ow f s e w' B (.slice (some ⟨w.heap.size, 0, none⟩) 0 n) [] → w.grownBy w' none → K (a.put o.dst (.slice (some ⟨w.heap.size, 0, none⟩) 0 n)) w') : if Region.wanted o (yielded ops a.tmps) = true then Oper.wp P o a w K Q else EE := by
  rw [if_pos hw]
  obtain ⟨i, hi, hz⟩ := Option.map_eq_some_iff.1 E.info
  simp only [Prod.mk.injEq] at hz
  obtain ⟨z1, z2, z3⟩ := hz
  obtain ⟨w', hrun, r1, r2⟩ := run_make_own (P := P) w B t e i z s E.slice hi z1 z2 .i64 .i64 n (by rw [z3, Nat.mul_comm]; omega) hn hbase
  subst hC
  unfold Oper.wp
  simp [execOp, ho, hx, hy, hrun, Result.andThen]
  exact h w' ⟨r1, by simp⟩ r2
end
theorem Ow.one_at {α : Type} (f : α → List Value) (s : Nat) (w : World) (x : α) (e : TypeId) (hs : (f x).length = s) (cs : Array Value) (hcs : cs.toList = f x) {n B : Nat} (hn : n = w.heap.size) (hB : B ≤ w.heap.size) : Ow f s e (w.alloc (.cells cs e)) B (.slice (some ⟨n, 0, none⟩) 1 1) [x] := by
  subst hn
  refine ⟨?_, by simpa using hs⟩
  have := World.ownsRow_lit (e := e) (size := s) w cs 1 hB (by simp [maxLen]) (by rw [← Array.length_toList, hcs, hs, Nat.one_mul])
  rw [hcs] at this
  simpa using this
/-- behind the building of a slice of one element -/
theorem build_one {α : Type} {K : Act → World → Prop} {A : Act} {Wc : World} {cs : Array Value} {e : TypeId} {n : Nat} (hn : n = Wc.heap.size) (B : Nat) (hB : B ≤ Wc.heap.size) (f : α → List Value) (s : Nat) (x : α) (hs : (f x).length = s) (hcs : cs.toList = f x)
    (h : ∀ w', Ow f s e w' B (.slice (some ⟨n, 0, none⟩) 1 1) [x] → Below Wc.heap.size Wc w' → K A w') : K A (Wc.alloc (.cells cs e)) :=
  h _ (Ow.one_at f s Wc x e hs cs hcs hn hB) ((Below.refl _ _).alloc (Nat.le_refl _) _)
theorem Ow.lt {α : Type} {f : α → List Value} {s : Nat} {e : TypeId} {w : World} {B : Nat} {v : Value} {l : List α} (h : Ow f s e w B v l) : ∀ g, v.ownBlock = some g → g < w.heap.size := by
  intro q hq
  obtain ⟨A, c, rfl, _, _, _, h4⟩ := h.form
  cases A with
  | none => cases hq
  | some a =>
    obtain ⟨g, rfl, _, hg⟩ := h4 _ rfl
    have e1 : g = q := by simpa [Value.ownBlock] using hq
    omega
/-- a row that was there, and one that is made now -/
theorem Ow.apart {α : Type} {f : α → List Value} {s : Nat} {e : TypeId} {w : World} {B : Nat} {v x : Value} {l : List α} (h : Ow f s e w B v l) {g : Nat} (hx : x.ownBlock = some g) (hg : w.heap.size ≤ g) : v.ownBlock ≠ x.ownBlock := by
  intro h1
  have := h.lt g (h1.trans hx)
  omega
/-- a row of what has grown, in a later world -/
theorem Ow.moved {α : Type} {f : α → List Value} {s : Nat} {e : TypeId} {W W' w' : World} {ext : Array Obj} {d d' B : Nat} {v : Value} {l : List α} (h : Ow f s e (grow W ext d) B v l) (hB : W.heap.size ≤ B) (hb : Below (grow W' ext d').heap.size (grow W' ext d') w') (hs : W'.heap.size = W.heap.size) : Ow f s e w' B v l :=
  (h.regrow hB hs).below hb
/-- the world at hand, by a name of its own -/
theorem gen_w {P : Program} {c : Code} {Q : Exit → Act → World → Prop} {a : Act} {w : World} (h : ∀ W, Hid (W = w) → c.wp P Q a W) : c.wp P Q a w := h w (Lib.hid rfl)
/-- the world behind an append onto a row that lies above a base -/
theorem grown_on {W w1 w2 : World} {r : Option Nat} (hb : Below W.heap.size W w1) (hg : w1.grownBy w2 r) (hr : ∀ g, r = some g → W.heap.size ≤ g) : ∃ ext d, w2 = grow W ext d := by
  obtain ⟨h1, h2, h3, h4, h5⟩ := hb
  obtain ⟨g1, g2, g3, g4, g5⟩ := hg
  refine Below.grown_eq W ⟨g1.trans h1, g2.trans h2, g3.trans h3, Nat.le_trans h4 g4, fun k hk => ?_⟩
  rw [g5 k (by omega) ?_, h5 k hk]
  cases r with
  | none => simp
  | some g => have := hr g rfl; simp; omega
theorem Ow.above {α : Type} {f : α → List Value} {s : Nat} {e : TypeId} {w : World} {B : Nat} {v : Value} {l : List α} (h : Ow f s e w B v l) : ∀ g, v.ownBlock = some g → B ≤ g := by
  intro q hq
  obtain ⟨A, c, rfl, _, _, _, h4⟩ := h.form
  cases A with
  | none => cases hq
  | some a =>
    obtain ⟨g, rfl, hB, _⟩ := h4 _ rfl
    have e1 : g = q := by simpa [Value.ownBlock] using hq
    omega
/-- a row made with room -/
theorem ow_made {α : Type} (f : α → List Value) (s : Nat) (e : TypeId) (w : World) (cs : Array Value) (n : Nat) {g B : Nat} (hg : g = w.heap.size) (hB : B ≤ w.heap.size) (hn : n ≤ maxLen) (hs : cs.size = n * s) : Ow f s e (w.alloc (.cells cs e)) B (.slice (some ⟨g, 0, none⟩) 0 n) [] := by
  subst hg
  refine ⟨⟨by simp, .inr ⟨w.heap.size, n, cs, rfl, hB, ?_, Nat.zero_le _, hn, hs, by simp⟩⟩, by simp⟩
  exact heap_alloc_new w _
end Go.Proofs.YtkoemhdchoicaaaDoor
