/- Lemmas for the statement: DiskArg, WalKeeps, TornL. -/
import Derived.Deep.RegionHeld3
import Derived.Deep.DeepCutAuto
import Derived.Test.YtfaghpdhinfblaaDoorCards
import Derived.Test.YtfaghpdhinfblaaDoorTie
import Derived.Lay
import Derived.LaidMore
import Derived.SevenTiedAt
import Derived.Test.YtfaghpdhinfblaaDoorPt1
import Derived.Test.YtfaghpdhinfblaaDoorPt2
import Derived.Test.YtfaghpdhinfblaaDoorPt3
import Derived.Test.YtfaghpdhinfblaaDoorPt4
import Derived.Test.YtfaghpdhinfblaaDoorPt5
import Derived.Test.YtfaghpdhinfblaaDoorPt6
/- A disk that comes from outside, opened. -/
namespace Go.Proofs.YtfaghpdhinfblaaDoor
open Go.RowKit Go.ChangeShapes Go.WideShapes Go.ChangeAt
theorem Ow.regrow1 {α : Type} {f : α → List Value} {s : Nat} {e : TypeId} {W W' : World} {ext : Array Obj} {d d' B : Nat} {v : Value} {l : List α} (h : Ow f s e (grow W ext d) B v l) (hB : W.heap.size ≤ B) (hs : W'.heap.size = W.heap.size) : Sl f s (grow W' ext d') v l :=
  (h.regrow hB hs).sl
theorem Ow.regrow2 {α : Type} {f : α → List Value} {s : Nat} {e : TypeId} {W W' : World} {ext e1 : Array Obj} {d d' d1 B : Nat} {v : Value} {l : List α} (h : Ow f s e (grow W ext d) B v l) (hB : W.heap.size ≤ B) (hs : W'.heap.size = W.heap.size) : Sl f s (grow (grow W' ext d') e1 d1) v l :=
  ((h.regrow (W' := W') (d' := d') hB hs).below (below_grow0 _ _ (Below.refl _ _))).sl
theorem open_file {w : World} {n : Nat} {cs : List Value} (h : Deep Tryd.prog w (n + 2) 58 cs) : ∃ x : File, cs = cFile x ∧ x.sized := by
  obtain ⟨hl, hf⟩ := deep_struct Tryd.underlying58 h
  rw [show Tryd.prog.cellsOf 58 = 3 from by kernel_rfl] at hl
  obtain ⟨c0, c1, c2, rfl⟩ : ∃ a b c, cs = [a, b, c] := by
    rcases cs with _ | ⟨a, _ | ⟨b, _ | ⟨c, _ | ⟨d, cs⟩⟩⟩⟩ <;> simp at hl
    exact ⟨a, b, c, rfl⟩
  obtain ⟨m0, e0, s0⟩ := deep_string Tryd.underlying9 (deep_at hf 0 9 0 1 rfl (by kernel_rfl))
  obtain ⟨m1, e1, s1⟩ := deep_string Tryd.underlying9 (deep_at hf 1 9 1 1 rfl (by kernel_rfl))
  obtain ⟨m2, e2, s2⟩ := deep_string Tryd.underlying9 (deep_at hf 2 9 2 1 rfl (by kernel_rfl))
  simp only [List.drop_zero, List.drop_succ_cons, List.take_succ_cons, List.take_zero, List.cons.injEq, and_true] at e0 e1 e2
  subst e0 e1 e2
  simp only [reachBytes] at s0 s1 s2
  exact ⟨⟨m0, m1, m2⟩, rfl, by show m0.size ≤ _; omega, by show m1.size ≤ _; omega, by show m2.size ≤ _; omega⟩
theorem open_disk {w : World} {n : Nat} {cs : List Value} (h : Deep Tryd.prog w (n + 10) 24 cs) : ∃ (v : Value) (l : List File), cs = [v] ∧ Sl cFile 3 w v l ∧ (∀ x ∈ l, x.sized) ∧ l.length * 48 ≤ 140737488355328 := by
  obtain ⟨hl, hf⟩ := deep_struct Tryd.underlying24 h
  rw [show Tryd.prog.cellsOf 24 = 1 from by kernel_rfl] at hl
  obtain ⟨c0, rfl⟩ : ∃ a, cs = [a] := by
    rcases cs with _ | ⟨a, _ | ⟨b, cs⟩⟩ <;> simp at hl
    exact ⟨a, rfl⟩
  obtain ⟨v, xs, e, hr, hb, hx⟩ := deep_slice Tryd.underlying22 (deep_at hf 0 22 0 1 rfl (by kernel_rfl))
  simp only [List.drop_zero, List.take_succ_cons, List.take_zero, List.cons.injEq, and_true] at e
  subst e
  rw [show Tryd.prog.bytesOf 58 = 48 from by kernel_rfl] at hb
  rw [show Tryd.prog.cellsOf 58 = 3 from by kernel_rfl] at hr
  obtain ⟨l, rfl, hz⟩ := typed (fun x hxm => open_file (hx x hxm))
  have hs : Sl cFile 3 w c0 l := hr (by decide)
  exact ⟨c0, l, rfl, hs, hz, Nat.le_trans (by simpa [reachBytes] using hb) (by decide)⟩
end Go.Proofs.YtfaghpdhinfblaaDoor

/- The law WalKeeps is true for every input; no conditions. -/
namespace Go.Proofs.YtfaghpdhinfblaaDoor
open Go.RowKit Go.ChangeShapes Go.WideShapes Go.ChangeAt
theorem upZ_prefix (z : Int) (l : List Txn) : ∃ r, l = upZ z l ++ r := ⟨l.dropWhile (fun t => decide (t.zxid ≤ z)), (List.takeWhile_append_dropWhile (p := fun t : Txn => decide (t.zxid ≤ z)) (l := l)).symm⟩
theorem upZ_ok {z : Int} {l : List Txn} (h : LogOk l) : LogOk (upZ z l) := ⟨fun t ht => h.1 t ((List.takeWhile_sublist _).subset ht), h.2.sublist (List.takeWhile_sublist _)⟩
theorem upZ_length (z : Int) (l : List Txn) : (upZ z l).length ≤ l.length := (List.takeWhile_sublist _).length_le
theorem upZ_filter {z : Int} : ∀ {l : List Txn}, l.Pairwise (fun a b => a.zxid < b.zxid) → l.filter (fun t => decide (t.zxid ≤ z)) = upZ z l
  | [], _ => rfl
  | a :: r, h => by
    have h2 := List.pairwise_cons.1 h
    unfold upZ
    by_cases ha : a.zxid ≤ z
    · rw [List.filter_cons_of_pos (by simpa using ha), List.takeWhile_cons_of_pos (by simpa using ha)]
      exact congrArg _ (upZ_filter h2.2)
    · rw [List.filter_cons_of_neg (by simpa using ha), List.takeWhile_cons_of_neg (by simpa using ha)]
      refine List.filter_eq_nil_iff.2 (fun b hb => ?_)
      have := h2.1 b hb
      simp only [decide_eq_true_eq]
      omega
theorem keep_log {m : List Txn} {z : Int} {f' : List File} {e : Int} (hm : LogOk m) (hn : m.length ≤ 41) (h : KeepIs (logD m) z f' e) : e = 0 ∧ f' = logF (upZ z m) := by
  obtain ⟨L, d, c, hr, h⟩ := h
  have hs := recs_small hm hn
  obtain ⟨rfl, rfl, rfl⟩ := rec_log hm (by omega) hr
  rcases h with ⟨h0, _⟩ | ⟨_, h1, h2⟩
  · exact absurd rfl h0
  · have hrd := one_read (S := bS (recs L)) (T := noB) (by rw [bS_size]; show _ + 0 ≤ _; omega)
    have hrs : readS (logF L) logN = bS (recs L) := hrd.2.trans ByteArray.append_empty
    obtain ⟨r, hrr⟩ := upZ_prefix z L
    have hrec : recs L = recs (upZ z L) ++ recs r := by rw [← recs_app, ← hrr]
    have hle : keepN z L ≤ (readS (logF L) logN).size := by
      rw [hrs, bS_size, hrec, List.length_append]
      unfold keepN
      omega
    have hc := cut_is hrd.1 hle
    obtain ⟨_, _, _, c4, _⟩ := cut_ok hc
    refine ⟨h2.trans hc, ?_⟩
    rw [h1, c4, put_one]
    have hx : (readS (logF L) logN).extract 0 ((keepN z L : Nat) : Int).toNat = bS (recs (upZ z L)) := by
      apply bs_inj
      rw [bs_extractTD, List.drop_zero, Int.toNat_natCast, hrs, bs_bS, bs_bS, hrec]
      unfold keepN
      rw [List.take_left]
    rw [hx]
theorem keepLog (v : Value) (m : List Txn) (z : Int) (w : World) (h : Sl cFile 3 w v (logD m)) (hm : LogOk m) (hn : m.length ≤ 41) :
    Calls Tryd.prog 21 #[.agg #[v], .int .i64 z] w (DkRes (logF (upZ z m)) 0 w) := by
  refine (keep_any v (logD m) z w h (logD_sized _ (recs_small hm hn))).mono ?_
  rintro e w' ⟨B, k, f', code, rfl, hr, h1, h2⟩
  obtain ⟨rfl, rfl⟩ := keep_log hm hn hr
  exact ⟨B, k, rfl, h1, h2⟩
theorem logF_sized (l : List Txn) (h : (recs l).length ≤ 42271) : ∀ x ∈ logF l, x.sized := by
  intro x hx
  rw [List.mem_singleton.1 hx]
  refine ⟨(by decide : logN.size ≤ _), ?_, (by decide : noB.size ≤ _)⟩
  show (bS (recs l)).size ≤ _
  rw [bS_size]
  omega
theorem recover_logF (v : Value) (m : List Txn) (w : World) (h : Sl cFile 3 w v (logF m)) (hm : LogOk m) (hn : m.length ≤ 41) :
    Calls Tryd.prog 7 #[.agg #[v]] w (RecD m (logF m) w) := by
  have hs := recs_small hm hn
  refine (recover_any v (logF m) w h (logF_sized _ hs)).mono ?_
  rintro e w' ⟨A, c, L, B, k, f', code, rfl, hr, h1, h2, h3⟩
  obtain ⟨rfl, rfl, rfl⟩ := rec_one hm (S := bS (recs m)) (T := noB) (rest := []) (by rw [bS_size]; show _ + 0 ≤ _; omega) (by rw [bS_add]; rfl) (noNext_nil _) hr
  exact ⟨A, c, B, k, rfl, h1, h2, h3⟩
set_option maxRecDepth 100000 in
set_option maxHeartbeats 4000000 in
theorem walKeeps_ok (v : Value) (l : List Txn) (z : Int) (w : World) (h : Sl cTxn 7 w v l) (hz : ∀ t ∈ l, t.path.size ≤ 9223372036854775807) :
    Calls Tryd.prog 6 #[v, .int .i64 z] w fun e w' => e = .returned (.bool true) ∧ Below w.heap.size w w' := by
  obtain ⟨A0, c0, rfl, hc1, hc2⟩ := h.form
  have H := Lib.hid h
  have HLO := Lib.hid (fun (W : World) (v : Value) (h : Sl cTxn 7 W v l) => logOf_any v l W h hz)
  have HLD := Lib.hid @laid_is
  have HKL := Lib.hid @keepLog
  have HRL := Lib.hid @recover_logF
  have HLG := Lib.hid logs_is
  clear h hz
  go_enter Tryd.func6, Tryd.ntmps6
  go_upto_region 2 with ((go_at_call 14; refine (HLO.out _ _ (H.out.below (by repeat (first | exact Below.refl _ _ | assumption | refine Below.drew ?_ | refine Below.drewN' ?_ _ | refine below_grow0 _ _ ?_ | refine below_alloc0 _ ?_ | refine Below.alloc ?_ (by first | omega | (simp; done) | (simp; omega)) _ | refine Below.setCell ?_ (by first | omega | (simp; done) | (simp; omega)) _ | refine Below.grow _ _ _ ?_ (by first | omega | (simp; done) | (simp; omega)))))).mono ?_; rintro e w1 ⟨A, c, m, rfl, hok, h40, ho, hb⟩; obtain ⟨ext1, d1, rfl⟩ := Below.grown_eq _ hb; have HOK := Lib.hid hok; have HM := Lib.hid ho.sl; clear ho hb hok HLO))
  replace HLD := Lib.hid (fun (W : World) (v : Value) (h : Sl cTxn 7 W v m) => HLD.out v m W h HOK.out (by omega))
  replace HKL := Lib.hid (fun (W : World) (v : Value) (h : Sl cFile 3 W v (logD m)) => HKL.out v m z W h HOK.out (by omega))
  have hul := upZ_length z m
  replace HRL := Lib.hid (fun (W : World) (v : Value) (h : Sl cFile 3 W v (logF (upZ z m))) => HRL.out v (upZ z m) W h (upZ_ok HOK.out) (by omega))
  have HUF := Lib.hid (upZ_filter (z := z) HOK.out.2)
  generalize hD : logD m = D at *
  unfold LaidRes at HLD
  rw [hD] at HLD
  clear hD
  generalize hu : upZ z m = u at *
  have HUL := Lib.hid hul
  generalize logF u = F at *
  clear hu hul
  go_upto_region 5 with (first | (go_at_call 15; refine (HLD.out _ _ (HM.out.below (by repeat (first | exact Below.refl _ _ | assumption | refine Below.drew ?_ | refine Below.drewN' ?_ _ | refine below_grow0 _ _ ?_ | refine below_alloc0 _ ?_ | refine Below.alloc ?_ (by first | omega | (simp; done) | (simp; omega)) _ | refine Below.setCell ?_ (by first | omega | (simp; done) | (simp; omega)) _ | refine Below.grow _ _ _ ?_ (by first | omega | (simp; done) | (simp; omega)))))).mono ?_; rintro e w1 ⟨A1, c1, rfl, ho1, hb1⟩; replace HM := Lib.hid (HM.out.below hb1); obtain ⟨ext2, d2, rfl⟩ := Below.grown_eq w (Below.own (by repeat (first | exact Below.refl _ _ | assumption | refine Below.drew ?_ | refine Below.drewN' ?_ _ | refine below_grow0 _ _ ?_ | refine below_alloc0 _ ?_ | refine Below.alloc ?_ (by first | omega | (simp; done) | (simp; omega)) _ | refine Below.setCell ?_ (by first | omega | (simp; done) | (simp; omega)) _ | refine Below.grow _ _ _ ?_ (by first | omega | (simp; done) | (simp; omega)))) hb1); have HD := Lib.hid ho1.sl; clear ho1 hb1 HLD) | (go_at_call 21; refine (HKL.out _ _ (HD.out.below (by repeat (first | exact Below.refl _ _ | assumption | refine Below.drew ?_ | refine Below.drewN' ?_ _ | refine below_grow0 _ _ ?_ | refine below_alloc0 _ ?_ | refine Below.alloc ?_ (by first | omega | (simp; done) | (simp; omega)) _ | refine Below.setCell ?_ (by first | omega | (simp; done) | (simp; omega)) _ | refine Below.grow _ _ _ ?_ (by first | omega | (simp; done) | (simp; omega)))))).mono ?_; rintro e w3 ⟨A3, k3, rfl, ho3, hb3⟩; obtain ⟨ext3, d3, rfl⟩ := Below.grown_eq _ hb3; have HO3 := Lib.hid ho3; clear ho3 hb3) | (go_at_call 7; refine (HRL.out _ _ ((HO3.out.regrow (Nat.le_refl _) (by simp)).sl)).mono ?_; rintro e w4 ⟨A4, c4, B4, k4, rfl, ho4, ho4b, hb4⟩; obtain ⟨ext4, d4, rfl⟩ := Below.grown_eq _ hb4; have HA := Lib.hid ho4.sl; clear ho4 ho4b hb4))
  have hbx : Below w.heap.size w ((grow (grow ((grow w ext2 d2).alloc (.cells #[.slice A3 F.length k3] 24)) ext3 d3) ext4 d4).alloc (.cells #[.slice B4 F.length k4] 24)) := (by repeat (first | exact Below.refl _ _ | assumption | refine Below.drew ?_ | refine Below.drewN' ?_ _ | refine below_grow0 _ _ ?_ | refine below_alloc0 _ ?_ | refine Below.alloc ?_ (by first | omega | (simp; done) | (simp; omega)) _ | refine Below.setCell ?_ (by first | omega | (simp; done) | (simp; omega)) _ | refine Below.grow _ _ _ ?_ (by first | omega | (simp; done) | (simp; omega))))
  have HM3 : Hid (Sl cTxn 7 ((grow (grow ((grow w ext2 d2).alloc (.cells #[.slice A3 F.length k3] 24)) ext3 d3) ext4 d4).alloc (.cells #[.slice B4 F.length k4] 24)) (.slice A m.length c) m) := Lib.hid (HM.out.below (by repeat (first | exact Below.refl _ _ | assumption | refine Below.drew ?_ | refine Below.drewN' ?_ _ | refine below_grow0 _ _ ?_ | refine below_alloc0 _ ?_ | refine Below.alloc ?_ (by first | omega | (simp; done) | (simp; omega)) _ | refine Below.setCell ?_ (by first | omega | (simp; done) | (simp; omega)) _ | refine Below.grow _ _ _ ?_ (by first | omega | (simp; done) | (simp; omega)))))
  have HA3 : Hid (Sl cTxn 7 ((grow (grow ((grow w ext2 d2).alloc (.cells #[.slice A3 F.length k3] 24)) ext3 d3) ext4 d4).alloc (.cells #[.slice B4 F.length k4] 24)) (.slice A4 u.length c4) u) := Lib.hid (HA.out.below (by repeat (first | exact Below.refl _ _ | assumption | refine Below.drew ?_ | refine Below.drewN' ?_ _ | refine below_grow0 _ _ ?_ | refine below_alloc0 _ ?_ | refine Below.alloc ?_ (by first | omega | (simp; done) | (simp; omega)) _ | refine Below.setCell ?_ (by first | omega | (simp; done) | (simp; omega)) _ | refine Below.grow _ _ _ ?_ (by first | omega | (simp; done) | (simp; omega)))))
  generalize (grow (grow ((grow w ext2 d2).alloc (.cells #[.slice A3 F.length k3] 24)) ext3 d3) ext4 d4).alloc (.cells #[.slice B4 F.length k4] 24) = W0 at *
  clear HM HA HD HO3 HKL HRL H
  have HSL := Lib.hid (fun (W : World) (v v2 : Value) (h : Sl cTxn 7 W v u) (h2 : Sl cTxn 7 W v2 u) => sameLog_eq v v2 u W h h2 (by have := HUL.out; omega))
  rcases Nat.eq_zero_or_pos m.length with h0 | h0
  · have hu0 : u.length = 0 := by have := HUL.out; omega
    rw [h0, hu0]
    clear h0 hu0
    go_wp2_with ((go_at_call 9; refine (HLG.out _).mono ?_; rintro e w2 ⟨rfl, hb2⟩; obtain ⟨ext5, d5, rfl⟩ := Below.grown_eq _ hb2; clear hb2))
    go_ret
    exact ⟨rfl, (by repeat (first | exact Below.refl _ _ | assumption | refine Below.drew ?_ | refine Below.drewN' ?_ _ | refine below_grow0 _ _ ?_ | refine below_alloc0 _ ?_ | refine Below.alloc ?_ (by first | omega | (simp; done) | (simp; omega)) _ | refine Below.setCell ?_ (by first | omega | (simp; done) | (simp; omega)) _ | refine Below.grow _ _ _ ?_ (by first | omega | (simp; done) | (simp; omega))))⟩
  · obtain ⟨j, hj⟩ : ∃ j, m.length = j + 1 := ⟨m.length - 1, by omega⟩
    have hm0 : ((m.length : Int) == 0) = false := beq_eq_false_iff_ne.2 (by omega)
    clear hj h0
    go_wp2_with fail
    go_loopw [12, 13] (fun o i wr => ∃ (k : Nat) (q : List Txn) (A' : Option Addr) (c' : Nat) (ext : Array Obj) (d : Nat), k ≤ m.length ∧ Hid (q = (m.take k).filter (fun t => decide (t.zxid ≤ z))) ∧ Hid (q.length ≤ k) ∧ i = .int .i64 k ∧ o = .slice A' q.length c' ∧ wr = grow W0 ext d ∧ Hid (Ow cTxn 7 35 wr W0.heap.size (.slice A' q.length c') q)) (fun _ i _ => m.length - (intOf i).toNat)
    case atStart => exact ⟨0, [], none, 0, _, _, Nat.zero_le _, Lib.hid rfl, Lib.hid (Nat.le_refl _), rfl, rfl, grown_of (by repeat (first | exact Below.refl _ _ | assumption | refine Below.drew ?_ | refine Below.drewN' ?_ _ | refine below_grow0 _ _ ?_ | refine below_alloc0 _ ?_ | refine Below.alloc ?_ (by first | omega | (simp; done) | (simp; omega)) _ | refine Below.setCell ?_ (by first | omega | (simp; done) | (simp; omega)) _ | refine Below.grow _ _ _ ?_ (by first | omega | (simp; done) | (simp; omega)))), Lib.hid (Ow.nil _ _ _ _ _)⟩
    case round =>
      obtain ⟨k, q, A', c', ext, d, hk, hq, hql, rfl, rfl, rfl, ho⟩ := hrel
      by_cases hlt : k < m.length
      · have hx : m[k]? = some (m[k]'hlt) := List.getElem?_eq_getElem _
        obtain ⟨b, off, rfl, hb, x0, x1, x2, x3, x4, x5, x6⟩ := HM3.out.Txn_at hx
        have hql2 := hql.out
        by_cases hle : (m[k]'hlt).zxid ≤ z
        · have HQ := Lib.hid (show q ++ [m[k]'hlt] = (m.take (k + 1)).filter (fun t => decide (t.zxid ≤ z)) from by rw [List.take_add_one, hx, List.filter_append, ← hq.out]; simp [hle])
          generalize m[k]'hlt = x at *
          have hgt : decide (x.zxid ≤ z) = true := decide_eq_true hle
          clear hx hle
          go_wp2_with (at_builtin; refine wpList_app _ rfl (.tmp 66) (.tmp 71) _ rfl elTxn (B := W0.heap.size) (l := q) (m := [x]) rfl rfl (ho.out.below (by repeat (first | exact Below.refl _ _ | exact below_regrow _ _ _ _ | assumption | refine Below.drew ?_ | refine Below.drewN' ?_ _ | refine below_grow0 _ _ ?_ | refine below_alloc0 _ ?_ | refine Below.alloc ?_ (by first | omega | (simp; done) | (simp; omega)) _ | refine Below.setCell ?_ (by first | omega | (simp; done) | (simp; omega)) _ | refine Below.grow _ _ _ ?_ (by first | omega | (simp; done) | (simp; omega))))) (Sl.one_at cTxn 7 _ _ _ rfl _ rfl (by omega) (by simp)) cTxn_one (by simp [maxLen] <;> omega) (by simp <;> omega) (by simp <;> omega) ?_; intro v2 w2 hown2 hg2 hat2; obtain ⟨A2, c2, rfl, _⟩ := hown2.form; have HO2 := Lib.hid hown2; have HG2 : Hid (World.grownBy _ w2 (Value.slice A' q.length c').ownBlock) := Lib.hid hg2; clear hown2 hg2 hat2)
          have hwb : Below W0.heap.size W0 w2 := Below.grown (by repeat (first | exact Below.refl _ _ | exact below_regrow _ _ _ _ | assumption | refine Below.drew ?_ | refine Below.drewN' ?_ _ | refine below_grow0 _ _ ?_ | refine below_alloc0 _ ?_ | refine Below.alloc ?_ (by first | omega | (simp; done) | (simp; omega)) _ | refine Below.setCell ?_ (by first | omega | (simp; done) | (simp; omega)) _ | refine Below.grow _ _ _ ?_ (by first | omega | (simp; done) | (simp; omega)))) HG2.out (by simp; omega) (fun g hg => (Ow.own_in ho.out hg).1)
          go_wp2_with fail
          go_roundw
          case rel => exact ⟨k + 1, q ++ [x], A2, c2, _, _, by omega, HQ, Lib.hid (by simp <;> omega), by go_num, by simp, grown_of hwb, HO2⟩
          case measure => simp [intOf]; omega
        · have HQ := Lib.hid (show q = (m.take (k + 1)).filter (fun t => decide (t.zxid ≤ z)) from by rw [List.take_add_one, hx, List.filter_append, ← hq.out]; simp [hle])
          generalize m[k]'hlt = x at *
          have hgt : decide (x.zxid ≤ z) = false := decide_eq_false hle
          clear hx hle
          go_wp2_with fail
          go_roundw
          case rel => exact ⟨k + 1, q, A', c', _, _, by omega, HQ, Lib.hid (by omega), by go_num, rfl, grown_of (by repeat (first | exact Below.refl _ _ | exact below_regrow _ _ _ _ | assumption | refine Below.drew ?_ | refine Below.drewN' ?_ _ | refine below_grow0 _ _ ?_ | refine below_alloc0 _ ?_ | refine Below.alloc ?_ (by first | omega | (simp; done) | (simp; omega)) _ | refine Below.setCell ?_ (by first | omega | (simp; done) | (simp; omega)) _ | refine Below.grow _ _ _ ?_ (by first | omega | (simp; done) | (simp; omega)))), Lib.hid (ho.out.below (by repeat (first | exact Below.refl _ _ | exact below_regrow _ _ _ _ | assumption | refine Below.drew ?_ | refine Below.drewN' ?_ _ | refine below_grow0 _ _ ?_ | refine below_alloc0 _ ?_ | refine Below.alloc ?_ (by first | omega | (simp; done) | (simp; omega)) _ | refine Below.setCell ?_ (by first | omega | (simp; done) | (simp; omega)) _ | refine Below.grow _ _ _ ?_ (by first | omega | (simp; done) | (simp; omega)))))⟩
          case measure => simp [intOf]; omega
      · have hkl : k = m.length := by omega
        have hqu : q = u := by rw [hq.out, hkl, List.take_length]; exact HUF.out
        subst hqu
        clear hq hql
        go_wp2_with (first | (go_at_call 12; refine (HSL.out _ _ _ (HA3.out.below (by repeat (first | exact Below.refl _ _ | assumption | refine Below.drew ?_ | refine Below.drewN' ?_ _ | refine below_grow0 _ _ ?_ | refine below_alloc0 _ ?_ | refine Below.alloc ?_ (by first | omega | (simp; done) | (simp; omega)) _ | refine Below.setCell ?_ (by first | omega | (simp; done) | (simp; omega)) _ | refine Below.grow _ _ _ ?_ (by first | omega | (simp; done) | (simp; omega))))) (ho.out.sl.below (by repeat (first | exact Below.refl _ _ | assumption | refine Below.drew ?_ | refine Below.drewN' ?_ _ | refine below_grow0 _ _ ?_ | refine below_alloc0 _ ?_ | refine Below.alloc ?_ (by first | omega | (simp; done) | (simp; omega)) _ | refine Below.setCell ?_ (by first | omega | (simp; done) | (simp; omega)) _ | refine Below.grow _ _ _ ?_ (by first | omega | (simp; done) | (simp; omega)))))).mono ?_; rintro e w1 ⟨rfl, hb1⟩; obtain ⟨ext6, d6, rfl⟩ := Below.grown_eq _ hb1; clear hb1) | (go_at_call 9; refine (HLG.out _).mono ?_; rintro e w2 ⟨rfl, hb2⟩; obtain ⟨ext5, d5, rfl⟩ := Below.grown_eq _ hb2; clear hb2))
        go_ret
        exact ⟨rfl, (by repeat (first | exact Below.refl _ _ | assumption | refine Below.drew ?_ | refine Below.drewN' ?_ _ | refine below_grow0 _ _ ?_ | refine below_alloc0 _ ?_ | refine Below.alloc ?_ (by first | omega | (simp; done) | (simp; omega)) _ | refine Below.setCell ?_ (by first | omega | (simp; done) | (simp; omega)) _ | refine Below.grow _ _ _ ?_ (by first | omega | (simp; done) | (simp; omega))))⟩
namespace walKeeps
theorem own : ownKnob Tryd.prog.godebug = none := by kernel_rfl
theorem laidOut : laidOutB Tryd.prog = true := by kernel_rfl
set_option maxRecDepth 100000 in
set_option maxHeartbeats 1000000 in
theorem lifted (os : Os) (started : os.Started) (H : Type) (enc : TypeId × Value → H) :
    ReturnsInHanded {} Tryd.checked os 6 .any (fun w args => (Rows.walKeepsSpec.pre enc Tryd.prog Tryd.f6 Rows.walKeepsRow.domain false w args ∧ laidMetH Tryd.prog Rows.walKeepsRow.laid w) ∧ sizedMet enc Tryd.prog Tryd.f6 (OpenSpec.ofChange Rows.walKeepsSpec) false w args) (Rows.walKeepsSpec.post enc Tryd.prog Tryd.f6 false true false false) := by
  refine returnsInHanded_of_change_and (C := Tryd.checked) (X := fun w _ => laidMetH Tryd.prog Rows.walKeepsRow.laid w) (fun _ _ _ hh h => h.of_heap hh) own started (by kernel_rfl) Tryd.func6
    (ChangeSpec.witness_shaped (enc := enc) (C := Tryd.checked) (os := os) (X := fun w _ => laidMetH Tryd.prog Rows.walKeepsRow.laid w) false (World.laidAll Tryd.prog os Rows.walKeepsRow.laid) #[.slice none 0 0, .int .i64 0] 8 (World.laidAll_os _ _ _)
      (World.shaped_of_ZipB (by kernel_rfl) (by kernel_rfl)) (by kernel_rfl) (by kernel_rfl) (by kernel_rfl)
      (by rw [MakeChecks.laidMetH_plain _ _ _ (by kernel_rfl)]; exact laidMet_laidAll _ (by kernel_rfl) (by kernel_rfl))) ?_
  intro W base args ds gs before hval0 hW0 _ hsz0 hL _
  have hval : ∀ (j : Nat) t v, Tryd.f6.params[j]? = some t → args[j]? = some v → Value.okWide Tryd.prog W .any base t v := hval0
  have hW : DataW.Whole enc Tryd.prog Tryd.f6.params.toList Rows.walKeepsSpec.vars false W args.toList ds gs before := hW0
  have hlt : ∀ p ∈ before, p.block < W.heap.size := fun p hp => hW.lt p hp
  have hW1 := hW
  obtain ⟨p, q, hA0, hV, rfl, hfz, hnd⟩ := hW1
  have hA : DataW.TrodAll enc Tryd.prog W 0 (fun _ => true) true Tryd.f6.params.toList args.toList ds p := hA0
  obtain ⟨rfl, rfl⟩ := trodVars_none hV
  rw [Tryd.params6] at hA hval
  obtain ⟨v0, vs0, d0, ds0, p0, q0, hargs, rfl, rfl, h0, r0⟩ := trodAll_cons hA
  obtain ⟨v1, vs1, d1, ds1, p1, q1, rfl, rfl, rfl, h1, r1⟩ := trodAll_cons r0
  obtain ⟨rfl, rfl, rfl⟩ := trodAll_nil r1
  obtain rfl : args = #[v0, v1] := by cases args; simp_all
  have hsz : (DataW.weightsEach Tryd.prog [25, 3] [d0, d1]).all (· ≤ reachBytes) = true := hsz0
  have close : ∀ e W', (e = Ending.returned (.bool true) ∧ Below W.heap.size W W') → ∃ v, e = .returned v ∧ Rows.walKeepsSpec.post enc Tryd.prog Tryd.f6 false true false false W #[v0, v1] v W' :=
    fun e W' ⟨he, hb⟩ => ⟨_, he, law_post laidOut (of_decide_eq_true (by kernel_rfl)) rfl rfl Tryd.underlying4 hW rfl hb⟩
  clear hA0 hsz0 hval0 hW0 hA hV hW hfz hnd
  obtain ⟨xs0, hr0, hf0, els0, sp0, he0⟩ := open_rows (ks := [.i .i64, .i .i64, .i .i64, .s, .s, .i .i64, .i .i64]) 9 Tryd.underlying25 (by kernel_rfl) (hval 0 25 v0 rfl rfl) h0 (fun x hx => hlt x (by simp [hx])) (by decide)
  have rb0 : xs0.length * 72 ≤ 140737488351232 := by
    rcases he0 with ⟨_, rfl⟩ | ⟨hd, hl⟩
    · simp
    · rw [hd] at hsz
      have := sized_slice hsz (j := 0) rfl rfl Tryd.underlying25
      rw [show Tryd.prog.bytesOf 35 = 72 from by kernel_rfl] at this
      simp only [reachBytes] at this
      rw [hl] at this
      exact Nat.le_trans (Nat.mul_le_mul_right _ (Nat.le_add_right _ _)) this
  obtain ⟨a1, rfl, hd1, _, wf1⟩ := open_int Tryd.underlying3 (hval 1 3 v1 rfl rfl) h1
  obtain ⟨l, rfl, hlo⟩ := typed (fun x hx => fitsTxn (hf0 x hx))
  have hs : Sl cTxn 7 W v0 l := hr0
  exact (walKeeps_ok v0 l a1 W hs (fun t ht => by have := (hlo t ht).2.2.2.1; simpa [maxLen] using this)).mono close
theorem proved : Rows.WalKeepsSaid :=
  OpenClaim.holds_of_wide 6 Tryd.f6 rfl rfl rfl rfl rfl rfl rfl ⟨rfl, rfl, rfl, rfl, rfl⟩ rfl rfl rfl rfl rfl (by kernel_rfl) Tryd.func6 (by kernel_rfl)
    (of_decide_eq_true (by kernel_rfl)) (by unfold Func.isWrapper; first | (rw [if_pos (by decide +kernel)]; kernel_rfl) | (rw [if_neg (by decide +kernel)]; exact ⟨rfl, rfl⟩))
    (fun os started H enc _ => lifted os started H enc)
theorem card : Rows.WalKeepsCardSaid :=
  Claim7.holds_tied_plain_at .later [] Rows.walKeepsCard.laidKinds true Rows.walKeepsCard.stood.harness false
    proved (fun _ h => by cases h) (by kernel_rfl) (fun _ h => by cases h) walKeeps_row_tie rfl ⟨rfl, rfl⟩ (by kernel_rfl) rfl
    (fun f fn hf hfn => by
      obtain rfl : f = 6 := Option.some.inj ((show Tryd.prog.funcNamed "aviary/aviarykeep.WalKeeps" = some 6 by kernel_rfl).symm.trans hf) |>.symm
      obtain rfl : fn = Tryd.f6 := (Option.some.inj (Tryd.func6.symm.trans hfn)).symm
      exact ⟨by kernel_rfl, fun j t ht => by
        rw [Tryd.params6] at ht
        have hm : t ∈ [25, 3] := by simpa using Array.mem_of_getElem? ht
        have hall : ([25, 3].all fun u => !Tryd.prog.wantsStandIn u) = true := by kernel_rfl
        exact (show Tryd.prog.wantsStandIn t = false by simpa using List.all_eq_true.1 hall t hm)⟩)
    (by kernel_rfl)
end walKeeps
end Go.Proofs.YtfaghpdhinfblaaDoor

/- Plain laws for a log whose last transaction was not made safe. -/
namespace Go.Proofs.YtfaghpdhinfblaaDoor
open Go.RowKit Go.ChangeShapes Go.WideShapes Go.ChangeAt
theorem Sl.pre2 {α : Type} {f : α → List Value} {s : Nat} {w : World} {A : Option Addr} {n c : Nat} {l m : List α} (h : Sl f s w (.slice A n c) m) (hp : l <+: m) : Sl f s w (.slice A l.length c) l := by
  obtain ⟨t, rfl⟩ := hp
  obtain ⟨A', c', he, h1, h2, h3, h4⟩ := h
  injection he with e1 e2 e3
  subst e1; subst e3
  refine ⟨A, c, by simp, by simp at h1 ⊢; omega, h2, fun x hx => h3 x (by rw [List.map_append]; exact List.mem_append_left _ hx), fun hpos => ?_⟩
  obtain ⟨b, off, r1, r2, r3⟩ := h4 (by simp at hpos ⊢; omega)
  refine ⟨b, off, r1, r2, fun i x hx j u hu => r3 i x ?_ j u hu⟩
  rw [List.map_append, List.getElem?_append_left (List.getElem?_eq_some_iff.1 hx).1, hx]
theorem noB_add (s : ByteArray) : noB ++ s = s := by
  apply bs_inj
  rw [bs_append]
  rfl
theorem one_write {S T s : ByteArray} (h : S.size + T.size + s.size ≤ 1048576) : writeE [⟨logN, S, T⟩] logN s = 0 ∧ writeL [⟨logN, S, T⟩] logN s = [⟨logN, S, T ++ s⟩] := by
  have hg := one_good (S := S) (T := T) (by omega)
  have e : writeE [⟨logN, S, T⟩] logN s = 0 := by
    unfold writeE
    rw [hg, named_log, if_pos rfl, if_pos rfl, (one_at S T).1, if_pos rfl, (one_at S T).2.1, if_pos]
    exact h
  obtain ⟨_, h2, _⟩ := write_ok e
  refine ⟨e, ?_⟩
  rw [h2, put_one]
  have ho : fileOr [⟨logN, S, T⟩] logN = ⟨logN, S, T⟩ := by
    unfold fileOr
    rw [(one_at S T).1, if_pos rfl, (one_at S T).2.1]
  rw [ho]
theorem logF_D (l : List Txn) (t : Txn) : logF (l ++ [t]) = logD (l ++ [t]) := by
  unfold logD
  rw [if_neg (by simp)]
theorem app_F {m : List Txn} {t : Txn} (ht : goodT t = 0) (h : (recs (m ++ [t])).length ≤ 1048576) : appL (logF m) t true = logD (m ++ [t]) ∧ appE (logF m) t true = 0 := by
  have he : encR t = bS (recT t) := if_pos ht
  rw [recs_app, recs_one, List.length_append] at h
  have hz : (bS (recs m)).size + (noB ++ bS (recT t)).size ≤ 1048576 := by
    rw [noB_add, bS_size, bS_size]; exact h
  have hw := one_write (S := bS (recs m)) (T := noB) (s := bS (recT t)) (by rw [bS_size (recs m), bS_size (recT t)]; show _ + 0 + _ ≤ _; omega)
  unfold appL appE
  rw [if_pos ht, if_pos ht, he, hw.1, hw.2, if_pos ⟨rfl, rfl⟩, if_pos ⟨rfl, rfl⟩, one_sync hz, (one_read hz).1]
  refine ⟨?_, rfl⟩
  unfold logD
  rw [if_neg (by simp), recs_snoc, noB_add]
/-- the disk behind a crash -/
abbrev tornF (m : List Txn) (t : Txn) (n : Nat) : List File := [⟨logN, bS (recs m) ++ (bS (recT t)).extract 0 (min n (bS (recT t)).size), noB⟩]
theorem torn_crash {m : List Txn} {t : Txn} (h : (recs (m ++ [t])).length ≤ 42271) (n : Nat) : crashE [⟨logN, bS (recs m), bS (recT t)⟩] n = 0 ∧ crashL [⟨logN, bS (recs m), bS (recT t)⟩] n = tornF m t n := by
  rw [recs_app, recs_one, List.length_append] at h
  exact one_crash (by rw [bS_size, bS_size]; omega) n
theorem torn_size {m : List Txn} {t : Txn} (h : (recs (m ++ [t])).length ≤ 42271) (n : Nat) : (bS (recs m) ++ (bS (recT t)).extract 0 (min n (bS (recT t)).size)).size ≤ 42271 := by
  rw [recs_app, recs_one, List.length_append] at h
  rw [ByteArray.size_append, ByteArray.size_extract, bS_size, bS_size]
  omega
theorem tornF_sized {m : List Txn} {t : Txn} (h : (recs (m ++ [t])).length ≤ 42271) (n : Nat) : ∀ x ∈ tornF m t n, x.sized := by
  intro x hx
  rw [List.mem_singleton.1 hx]
  refine ⟨(by decide : logN.size ≤ _), ?_, (by decide : noB.size ≤ _)⟩
  have := torn_size h n
  show (bS (recs m) ++ (bS (recT t)).extract 0 (min n (bS (recT t)).size)).size ≤ _
  omega
theorem torn_all {m : List Txn} {t : Txn} {n : Nat} {l : List Txn} {f' : List File} {e : Int} (hm : LogOk (m ++ [t])) (hz : (recs (m ++ [t])).length ≤ 42271) (hn : (bS (recT t)).size ≤ n) (h : RecIs (tornF m t n) l f' e) : e = 0 ∧ l = m ++ [t] ∧ f' = logF (m ++ [t]) := by
  refine rec_one hm (rest := []) ?_ ?_ (noNext_nil _) h
  · have := torn_size hz n
    show _ + 0 ≤ _
    omega
  · rw [Nat.min_eq_right hn, bs_append, bs_append, bs_extractTD, bs_bS, bs_bS, List.drop_zero, List.take_of_length_le (by rw [bS_size]; exact Nat.le_refl _), recs_app, recs_one, List.append_nil]
    exact List.append_nil _
theorem torn_some {m : List Txn} {t : Txn} {n : Nat} {l : List Txn} {f' : List File} {e : Int} (hm : LogOk (m ++ [t])) (hz : (recs (m ++ [t])).length ≤ 42271) (hn : n < (bS (recT t)).size) (h : RecIs (tornF m t n) l f' e) : e = 0 ∧ l = m ∧ f' = logF m := by
  have hm2 : LogOk m := ⟨fun x hx => hm.1 x (List.mem_append_left _ hx), hm.2.sublist (List.sublist_append_left _ _)⟩
  refine rec_one hm2 (rest := (recT t).take n) ?_ ?_ (noNext_cut (hm.1 t (by simp)) _ (by rw [bS_size] at hn; exact hn)) h
  · have := torn_size hz n
    show _ + 0 ≤ _
    omega
  · rw [Nat.min_eq_left (Nat.le_of_lt hn), bs_append, bs_append, bs_extractTD, bs_bS, bs_bS, List.drop_zero]
    exact List.append_nil _
end Go.Proofs.YtfaghpdhinfblaaDoor
