/- The law StoreTorn is true for every input; no conditions. -/
import Derived.Test.YtkoemhdchoicaaaDoorPt1
import Derived.Test.YtkoemhdchoicaaaDoorPt2
import Derived.Test.YtkoemhdchoicaaaDoorPt3
import Derived.Test.YtkoemhdchoicaaaDoorPt4
import Derived.Test.YtkoemhdchoicaaaDoorPt5
import Derived.Test.YtkoemhdchoicaaaDoorPt6
import Derived.Test.YtkoemhdchoicaaaDoorPt7
import Derived.Test.YtkoemhdchoicaaaDoorPt8
import Derived.Test.YtkoemhdchoicaaaDoorPt9
import Derived.Test.YtkoemhdchoicaaaDoorPt10
namespace Go.Proofs.YtkoemhdchoicaaaDoor
open Go.RowKit Go.ChangeShapes Go.WideShapes Go.ChangeAt
theorem app_FT {m : List Txn} {t : Txn} (ht : goodT t = 0) (h : (recs (m ++ [t])).length ≤ 1048576) : appL (logF m) t false = [⟨logN, bS (recs m), bS (recT t)⟩] ∧ appE (logF m) t false = 0 := by
  have he : encR t = bS (recT t) := if_pos ht
  rw [recs_app, recs_one, List.length_append] at h
  have hw := one_write (S := bS (recs m)) (T := noB) (s := bS (recT t)) (by rw [bS_size (recs m), bS_size (recT t)]; show _ + 0 + _ ≤ _; omega)
  unfold appL appE
  rw [if_pos ht, if_pos ht, he, hw.1, hw.2, if_neg (by simp), if_neg (by simp), noB_add]
  exact ⟨rfl, rfl⟩
abbrev tornS (M : List Txn) (t : Txn) : Srv := ⟨true, [⟨logN, bS (recs M), bS (recT t)⟩], 0, 0, M ++ [t], 0, 0, [rootN], [], []⟩
theorem take_torn {M : List Txn} {t : Txn} (hg : goodT t = 0) (hz : lastZ M < t.zxid) (hs : (recs (M ++ [t])).length ≤ 42271) : takeE (fillS 0 M) t false = 0 ∧ takeS (fillS 0 M) t false = tornS M t := by
  have h := app_FT (m := M) hg (by omega)
  have e : takeE (fillS 0 M) t false = 0 := by
    unfold takeE
    simp only
    rw [if_neg (by omega)]
    exact h.2
  refine ⟨e, ?_⟩
  unfold takeS
  rw [if_pos e]
  simp only
  rw [h.1]
theorem epoch_torn (M : List Txn) (t : Txn) (n : Nat) : epochF (tornF M t n) = 0 := epoch_log _ _
theorem boot_torn {id : Int} {M : List Txn} {t : Txn} {n : Nat} (hm : LogOk (M ++ [t])) (hz : (recs (M ++ [t])).length ≤ 42271) {s : Srv} {c : Int} (h : BootIs id (tornF M t n) s c) : c = 0 ∧ s = fillS id (if (bS (recT t)).size ≤ n then M ++ [t] else M) := by
  obtain ⟨L, f', hr, hc⟩ := h
  have key : c = 0 ∧ L = (if (bS (recT t)).size ≤ n then M ++ [t] else M) ∧ f' = logF (if (bS (recT t)).size ≤ n then M ++ [t] else M) := by
    by_cases hn : (bS (recT t)).size ≤ n
    · rw [if_pos hn]; exact torn_all hm hz hn hr
    · rw [if_neg hn]; exact torn_some hm hz (by omega) hr
  obtain ⟨rfl, rfl, rfl⟩ := key
  rcases hc with ⟨_, hs⟩ | ⟨h, _⟩
  · rw [epoch_torn] at hs
    exact ⟨rfl, hs⟩
  · exact absurd rfl h
def TornRes (k : Nat) (s : Srv) (w : World) (e : Ending) (w' : World) : Prop := ∃ da dc la lc na nc sa sc wa wc, e = .returned (.tuple #[vFill 0 k ⟨da, dc, la, lc, na, nc, sa, sc, wa, wc⟩, .int .i64 0]) ∧ SrvIn (fun _ => False) w' s ⟨da, dc, la, lc, na, nc, sa, sc, wa, wc⟩ ∧ Below w.heap.size w w'
theorem take_tornC (M : List Txn) (t : Txn) (v : SrvV) (w : World) (p : Nat → Prop) (h : SrvIn p w (fillS 0 M) v) (hm : LogP (M ++ [t])) (hn : M.length ≤ 40) :
    Calls Tryd.prog 13 #[vFill 0 M.length v, vTxn t, .bool false] w (TornRes (M.length + 1) (tornS M t) w) := by
  have hg : goodT t = 0 := hm.1.1 t (by simp)
  have hs := recs_small hm.1 (by simp; omega)
  have hM : LogOk M := ⟨fun x hx => hm.1.1 x (List.mem_append_left _ hx), hm.1.2.sublist (List.sublist_append_left _ _)⟩
  have hz : lastZ M < t.zxid := by
    have := last_lt hm (k := M.length) (x := t) (by simp)
    rwa [List.take_left' rfl] at this
  have h1 := storeTake (fun _ => False) (fillS 0 M) v t false w (h.more (fun q hq => hq.elim)) (fun q hq => hq.elim) (logF_sized _ (recs_small hM (by omega))) (by simp only; omega) (good_path hg)
  have h2 := take_torn hg hz hs
  rw [h2.1, h2.2] at h1
  refine h1.mono fun e w' hh => ?_
  obtain ⟨⟨da, dc, la, lc, na, nc, sa, sc, wa, wc⟩, he, h3, h4⟩ := hh
  exact ⟨da, dc, la, lc, na, nc, sa, sc, wa, wc, by rw [he]; simp only [vSrv, List.length_append, List.length_singleton]; rfl, h3, h4⟩
def DownT (f : List File) (w : World) (e : Ending) (w' : World) : Prop := ∃ da dc la lc na nc sa sc wa wc, e = .returned (.tuple #[vDown 0 ⟨da, dc, la, lc, na, nc, sa, sc, wa, wc⟩, .int .i64 0]) ∧ SlA (fun q => q < w.heap.size) cFile 3 w' (.slice da 1 dc) f ∧ Below w.heap.size w w'
theorem crash_tornC (M : List Txn) (t : Txn) (v : SrvV) (n : Nat) (p : Nat → Prop) (w : World) (h : SrvIn p w (tornS M t) v) (hm : LogOk (M ++ [t])) (hn : M.length ≤ 40) :
    Calls Tryd.prog 9 #[vFill 0 (M.length + 1) v, .int .i64 n] w (DownT (tornF M t n) w) := by
  have hz := recs_small hm (by simp; omega)
  have h1 := storeCrash (fun q => q < w.heap.size) p (tornS M t) v n w h (fun q h => h) (by
    intro x hx
    rw [List.mem_singleton.1 hx]
    have := recs_app M [t]
    rw [recs_one] at this
    rw [this, List.length_append] at hz
    refine ⟨(by decide : logN.size ≤ _), ?_, ?_⟩
    · show (bS (recs M)).size ≤ _
      rw [bS_size]; omega
    · show (bS (recT t)).size ≤ _
      rw [bS_size]; omega)
  have h2 := torn_crash hz n
  unfold crashS at h1
  simp only at h1
  rw [h2.1, h2.2, if_pos rfl] at h1
  have e : vSrv (tornS M t) v = vFill 0 (M.length + 1) v := by simp only [vSrv, List.length_append, List.length_singleton]; rfl
  rw [e] at h1
  refine h1.mono fun e w' hh => ?_
  obtain ⟨⟨da, dc, la, lc, na, nc, sa, sc, wa, wc⟩, he, h3, h4⟩ := hh
  exact ⟨da, dc, la, lc, na, nc, sa, sc, wa, wc, he, h3.disk, h4⟩
def UpT (id : Int) (m : List Txn) (w : World) (e : Ending) (w' : World) : Prop := ∃ da dc la lc na nc sa sc wa wc, e = .returned (.tuple #[vFill id m.length ⟨da, dc, la, lc, na, nc, sa, sc, wa, wc⟩, .int .i64 0]) ∧ Sl cTxn 7 w' (.slice la m.length lc) m ∧ Below w.heap.size w w'
theorem boot_tornC (id : Int) (M : List Txn) (t : Txn) (n : Nat) (v : Value) (w : World) (h : Sl cFile 3 w v (tornF M t n)) (hm : LogOk (M ++ [t])) (hn : M.length ≤ 40) (h0 : 0 ≤ id) (h3 : id < 3) :
    Calls Tryd.prog 11 #[.int .i64 id, .agg #[v]] w (UpT id (if (bS (recT t)).size ≤ n then M ++ [t] else M) w) := by
  have hz := recs_small hm (by simp; omega)
  refine (storeBoot (fun q => q < w.heap.size) id v (tornF M t n) w h (fun q h => h) (tornF_sized hz n) h0 h3).mono fun e w' hh => ?_
  obtain ⟨s, c, hb, ⟨da, dc, la, lc, na, nc, sa, sc, wa, wc⟩, he, h2, h3⟩ := hh
  obtain ⟨rfl, rfl⟩ := boot_torn hm hz hb
  exact ⟨da, dc, la, lc, na, nc, sa, sc, wa, wc, he, h2.log.1, h3⟩
set_option maxRecDepth 100000 in
set_option maxHeartbeats 4000000 in
theorem storeTorn_ok (v : Value) (l : List Txn) (x : Txn) (keep : Int) (w : World) (h : Sl cTxn 7 w v l) (hz : ∀ t ∈ l, t.path.size ≤ 9223372036854775807) (hn : l.length * 72 ≤ 140737488351232) (hxz : x.path.size ≤ 9223372036854775807) :
    Calls Tryd.prog 4 #[v, vTxn x, .int .i64 keep] w fun e w' => e = .returned (.bool true) ∧ Below w.heap.size w w' := by
  obtain ⟨A0, c0, rfl, hc1, hc2⟩ := h.form
  have H := Lib.hid h
  have HTK := Lib.hid (fun (W : World) (v : Value) (h : Sl cTxn 7 W v (l ++ [x])) => taken_any v (l ++ [x]) W h (fun t ht => by
    rcases List.mem_append.1 ht with ht | ht
    · exact hz t ht
    · rw [List.mem_singleton.1 ht]; exact hxz))
  have HBS := Lib.hid boots_is
  have HNN := Lib.hid hn
  clear h hz hxz hn
  obtain ⟨xz, xo, xs, xp, xd, xv, xw⟩ := x
  go_enter Tryd.func4, Tryd.ntmps4
  go_upto_region 1 with fail
  go_cut [7] (fun s7 wx => ∃ (A : Option Addr) (c : Nat) (m : List Txn), s7 = .slice A m.length c ∧ Hid (LogP m) ∧ m.length ≤ 40 ∧ Hid (Sl cTxn 7 wx (.slice A m.length c) m) ∧ Below w.heap.size w wx)
  case first =>
    refine wp_region_noPanic ?_
    refine wp_region_W (by kernel_rfl) (fun W hW => ?_)
    have cl0 : W.cell? ⟨w.heap.size, 0, none⟩ = some (.int .i64 xz) := by rw [hW.out]; go_simp
    have cl1 : W.cell? ⟨w.heap.size, 1, none⟩ = some (.int .i64 xo) := by rw [hW.out]; go_simp
    have cl2 : W.cell? ⟨w.heap.size, 2, none⟩ = some (.int .i64 xs) := by rw [hW.out]; go_simp
    have cl3 : W.cell? ⟨w.heap.size, 3, none⟩ = some (.string xp) := by rw [hW.out]; go_simp
    have cl4 : W.cell? ⟨w.heap.size, 4, none⟩ = some (.string xd) := by rw [hW.out]; go_simp
    have cl5 : W.cell? ⟨w.heap.size, 5, none⟩ = some (.int .i64 xv) := by rw [hW.out]; go_simp
    have cl6 : W.cell? ⟨w.heap.size, 6, none⟩ = some (.int .i64 xw) := by rw [hW.out]; go_simp
    have hsW : Hid (Sl cTxn 7 W (.slice A0 l.length c0) l) := Lib.hid (H.out.below (by rw [hW.out]; exact (by repeat (first | with_reducible exact Below.refl _ _ | with_reducible assumption | with_reducible exact below_d1 _ _ _ _ _ | with_reducible exact below_d2 _ _ _ _ _ _ _ _ | with_reducible exact below_d3 _ _ _ _ _ | with_reducible exact below_d4 _ _ _ _ _ _ _ _ | with_reducible exact below_d5 _ _ | with_reducible refine Below.drew ?_ | with_reducible refine Below.drewN' ?_ _ | with_reducible refine below_grow0 _ _ ?_ | with_reducible refine below_alloc0 _ ?_ | with_reducible refine Below.setCell ?_ ?_ _ | with_reducible refine Below.alloc ?_ ?_ _ | with_reducible refine Below.grow _ _ _ ?_ ?_ | omega | (simp; done) | (simp; omega)))))
    have hWb : Hid (Below w.heap.size w W) := Lib.hid (by rw [hW.out]; exact (by repeat (first | with_reducible exact Below.refl _ _ | with_reducible assumption | with_reducible exact below_d1 _ _ _ _ _ | with_reducible exact below_d2 _ _ _ _ _ _ _ _ | with_reducible exact below_d3 _ _ _ _ _ | with_reducible exact below_d4 _ _ _ _ _ _ _ _ | with_reducible exact below_d5 _ _ | with_reducible refine Below.drew ?_ | with_reducible refine Below.drewN' ?_ _ | with_reducible refine below_grow0 _ _ ?_ | with_reducible refine below_alloc0 _ ?_ | with_reducible refine Below.setCell ?_ ?_ _ | with_reducible refine Below.alloc ?_ ?_ _ | with_reducible refine Below.grow _ _ _ ?_ ?_ | omega | (simp; done) | (simp; omega))))
    refine wpAny_S (fun w' => w'.cell? ⟨w.heap.size, 0, none⟩ = some (.int .i64 xz) ∧ w'.cell? ⟨w.heap.size, 1, none⟩ = some (.int .i64 xo) ∧ w'.cell? ⟨w.heap.size, 2, none⟩ = some (.int .i64 xs) ∧ w'.cell? ⟨w.heap.size, 3, none⟩ = some (.string xp) ∧ w'.cell? ⟨w.heap.size, 4, none⟩ = some (.string xd) ∧ w'.cell? ⟨w.heap.size, 5, none⟩ = some (.int .i64 xv) ∧ w'.cell? ⟨w.heap.size, 6, none⟩ = some (.int .i64 xw)) (fun i => false) (by (try dsimp only); (refine ⟨?_, ?_, ?_, ?_, ?_, ?_, ?_⟩ <;> go_simp)) (fun hHeld => ?_)
    (refine wpE_takeP (i := 0) (v := ?gV1_1) (by simp only [List.getElem?_toArray]; rfl) (by kernel_rfl) (by kernel_rfl) (by kernel_rfl) (by rfl) (fun _ _ _ h => h) (Or.inl ⟨by rfl, ?gY1_1⟩) (by assumption) ?gR1_1; case gY1_1 => (intro w hSw; (try dsimp only at hSw); go_simp <;> with_reducible rfl))
    try simp only [Act.put, List.setIfInBounds_toArray, List.set_cons_zero, List.set_cons_succ]
    (refine wpE_take (i := 2) (v := ?gV1_2) (by simp only [List.getElem?_toArray]; rfl) (by kernel_rfl) (by kernel_rfl) (by kernel_rfl) (by kernel_rfl) (by kernel_rfl) (by rfl) (fun _ _ _ h => h) (Or.inl ⟨by rfl, ?gY1_2⟩) (by assumption) ?gR1_2; case gY1_2 => (intro w hSw; (try dsimp only at hSw); go_simp <;> with_reducible rfl))
    try simp only [Act.put, List.setIfInBounds_toArray, List.set_cons_zero, List.set_cons_succ]
    refine wpE_ready (rs := [1, 3]) (by kernel_rfl) (by simp) ?_
    refine AllE.cons (by simp only [List.getElem?_toArray]; rfl) (fun K hK => ?gO1_3) ?gL1_3
    case gO1_3 =>
      (refine stepE_app (by rfl) (.const (.slice none 0 0)) (.tmp 19) _ rfl elTxn (B := W.heap.size) (v := .slice none 0 0) (l := []) (m := l) rfl rfl (Ow.nil _ _ _ _ _) (hsW.out.below (by repeat (first | with_reducible exact Below.refl _ _ | with_reducible assumption | with_reducible exact below_d1 _ _ _ _ _ | with_reducible exact below_d2 _ _ _ _ _ _ _ _ | with_reducible exact below_d3 _ _ _ _ _ | with_reducible exact below_d4 _ _ _ _ _ _ _ _ | with_reducible exact below_d5 _ _ | with_reducible refine Below.drew ?_ | with_reducible refine Below.drewN' ?_ _ | with_reducible refine below_grow0 _ _ ?_ | with_reducible refine below_alloc0 _ ?_ | with_reducible refine Below.setCell ?_ ?_ _ | with_reducible refine Below.alloc ?_ ?_ _ | with_reducible refine Below.grow _ _ _ ?_ ?_ | omega | (simp; done) | (simp; omega)))) cTxn_one (by have := HNN.out; simp [maxLen]; omega) (by have := HNN.out; simp; omega) (by simp <;> omega) ?_; intro v2 w2 hown2 hg2 _; rw [List.nil_append] at hown2; obtain ⟨A2, c2, rfl, _⟩ := hown2.form; (first | replace HB := Lib.hid (HB.out.kept hg2 (.inr (by simp [Value.ownBlock]))) | skip); obtain ⟨ext3, d3, rfl⟩ := grown_on (W := W) (by repeat (first | with_reducible exact Below.refl _ _ | with_reducible assumption | with_reducible exact below_d1 _ _ _ _ _ | with_reducible exact below_d2 _ _ _ _ _ _ _ _ | with_reducible exact below_d3 _ _ _ _ _ | with_reducible exact below_d4 _ _ _ _ _ _ _ _ | with_reducible exact below_d5 _ _ | with_reducible refine Below.drew ?_ | with_reducible refine Below.drewN' ?_ _ | with_reducible refine below_grow0 _ _ ?_ | with_reducible refine below_alloc0 _ ?_ | with_reducible refine Below.setCell ?_ ?_ _ | with_reducible refine Below.alloc ?_ ?_ _ | with_reducible refine Below.grow _ _ _ ?_ ?_ | omega | (simp; done) | (simp; omega))) hg2 (by simp [Value.ownBlock]); have HA1 := Lib.hid hown2; clear hown2 hg2)
      refine hK.out _ _ ?gT1_3 (fun hHeld => ?_)
      case gT1_3 => ((try dsimp only); (refine ⟨?_, ?_, ?_, ?_, ?_, ?_, ?_⟩ <;> go_simp))
      clear hK K
      try simp only [Act.put, List.setIfInBounds_toArray, List.set_cons_zero, List.set_cons_succ]
      refine wpE_ready (rs := [3]) (by kernel_rfl) (by simp) ?_
      refine AllE.cons (by simp only [List.getElem?_toArray]; rfl) (fun K hK => ?_) AllE.nil
      go_simp
      ((first | refine build_one (n := W.heap.size + ext3.size) (by first | rfl | (simp; done)) W.heap.size (by simp) cTxn 7 ⟨xz, xo, xs, xp, xd, xv, xw⟩ rfl rfl (fun w' hB hbB => ?_) | refine build_one (n := W.heap.size) (by first | rfl | (simp; done)) W.heap.size (by simp) cTxn 7 ⟨xz, xo, xs, xp, xd, xv, xw⟩ rfl rfl (fun w' hB hbB => ?_)); have HB := Lib.hid hB; (first | replace HA1 := Lib.hid (HA1.out.below hbB) | skip); obtain ⟨ext4, d4, rfl⟩ := Below.grown_eq W (Below.own (by repeat (first | with_reducible exact Below.refl _ _ | with_reducible assumption | with_reducible exact below_d1 _ _ _ _ _ | with_reducible exact below_d2 _ _ _ _ _ _ _ _ | with_reducible exact below_d3 _ _ _ _ _ | with_reducible exact below_d4 _ _ _ _ _ _ _ _ | with_reducible exact below_d5 _ _ | with_reducible refine Below.drew ?_ | with_reducible refine Below.drewN' ?_ _ | with_reducible refine below_grow0 _ _ ?_ | with_reducible refine below_alloc0 _ ?_ | with_reducible refine Below.setCell ?_ ?_ _ | with_reducible refine Below.alloc ?_ ?_ _ | with_reducible refine Below.grow _ _ _ ?_ ?_ | omega | (simp; done) | (simp; omega))) hbB); clear hbB hB)
      refine hK.out _ _ ?gT1_4 (fun hHeld => ?_)
      case gT1_4 => ((try dsimp only); (refine ⟨?_, ?_, ?_, ?_, ?_, ?_, ?_⟩ <;> go_simp))
      clear hK K
      try simp only [Act.put, List.setIfInBounds_toArray, List.set_cons_zero, List.set_cons_succ]
      refine wpE_ready (rs := [4]) (by kernel_rfl) (by simp) ?_
      refine AllE.cons (by simp only [List.getElem?_toArray]; rfl) (fun K hK => ?_) AllE.nil
      (refine stepE_app (by rfl) (.tmp 20) (.tmp 22) _ rfl elTxn (B := W.heap.size) (v := .slice A2 l.length c2) (l := l) (m := [⟨xz, xo, xs, xp, xd, xv, xw⟩]) rfl rfl HA1.out HB.out.sl cTxn_one (by have := HNN.out; simp [maxLen]; omega) (by have := HNN.out; simp; omega) (by simp <;> omega) ?_; intro v5 w5 hown5 hg5 _; obtain ⟨A5, c5, rfl, _⟩ := hown5.form; obtain ⟨ext5, d5, rfl⟩ := grown_on (W := W) (by repeat (first | with_reducible exact Below.refl _ _ | with_reducible assumption | with_reducible exact below_d1 _ _ _ _ _ | with_reducible exact below_d2 _ _ _ _ _ _ _ _ | with_reducible exact below_d3 _ _ _ _ _ | with_reducible exact below_d4 _ _ _ _ _ _ _ _ | with_reducible exact below_d5 _ _ | with_reducible refine Below.drew ?_ | with_reducible refine Below.drewN' ?_ _ | with_reducible refine below_grow0 _ _ ?_ | with_reducible refine below_alloc0 _ ?_ | with_reducible refine Below.setCell ?_ ?_ _ | with_reducible refine Below.alloc ?_ ?_ _ | with_reducible refine Below.grow _ _ _ ?_ ?_ | omega | (simp; done) | (simp; omega))) hg5 HA1.out.above; have hq := hown5.sl; simp only [List.length_append, List.length_cons, List.length_nil, Nat.zero_add] at hq; have HA2 := Lib.hid hq; clear hq hown5 hg5)
      refine hK.out _ _ ?gT1_5 (fun hHeld => ?_)
      case gT1_5 => ((try dsimp only); (refine ⟨?_, ?_, ?_, ?_, ?_, ?_, ?_⟩ <;> go_simp))
      clear hK K
      try simp only [Act.put, List.setIfInBounds_toArray, List.set_cons_zero, List.set_cons_succ]
      refine wpE_ready (rs := [5]) (by kernel_rfl) (by simp) ?_
      refine AllE.cons (by simp only [List.getElem?_toArray]; rfl) (fun K hK => ?_) AllE.nil
      go_simp
      (go_at_call 6; (with_reducible refine (HTK.out _ _ HA2.out).mono ?_); rintro e w6 ⟨A, c, m, rfl, hok, h40, ho, hb⟩; obtain ⟨ext6, d6, rfl⟩ := Below.grown_eq _ hb; clear hb; have hwb := hWb.out)
      refine hK.out _ _ ?gT1_6 (fun hHeld => ?_)
      case gT1_6 => ((try dsimp only); (refine ⟨?_, ?_, ?_, ?_, ?_, ?_, ?_⟩ <;> go_simp))
      clear hK K
      try simp only [Act.put, List.setIfInBounds_toArray, List.set_cons_zero, List.set_cons_succ]
      (refine wpE_takeP (i := 6) (v := ?gV1_7) (by simp only [List.getElem?_toArray]; rfl) (by kernel_rfl) (by kernel_rfl) (by kernel_rfl) (by rfl) (fun _ _ _ h => h) (Or.inl ⟨by rfl, ?gY1_7⟩) (by assumption) ?gR1_7; case gY1_7 => (intro w hSw; (try dsimp only at hSw); go_simp <;> with_reducible rfl))
      try simp only [Act.put, List.setIfInBounds_toArray, List.set_cons_zero, List.set_cons_succ]
      refine wpE_done (by kernel_rfl) ?_ _
      refine NoPanic.normal ?_
      go_wp2_with fail
      go_meet
      exact ⟨A, c, m, rfl, Lib.hid hok, h40, Lib.hid (ho.below (by repeat (first | with_reducible exact Below.refl _ _ | with_reducible assumption | with_reducible exact below_d1 _ _ _ _ _ | with_reducible exact below_d2 _ _ _ _ _ _ _ _ | with_reducible exact below_d3 _ _ _ _ _ | with_reducible exact below_d4 _ _ _ _ _ _ _ _ | with_reducible exact below_d5 _ _ | with_reducible refine Below.drew ?_ | with_reducible refine Below.drewN' ?_ _ | with_reducible refine below_grow0 _ _ ?_ | with_reducible refine below_alloc0 _ ?_ | with_reducible refine Below.setCell ?_ ?_ _ | with_reducible refine Below.alloc ?_ ?_ _ | with_reducible refine Below.grow _ _ _ ?_ ?_ | omega | (simp; done) | (simp; omega)))), (by repeat (first | with_reducible exact Below.refl _ _ | with_reducible assumption | with_reducible exact below_d1 _ _ _ _ _ | with_reducible exact below_d2 _ _ _ _ _ _ _ _ | with_reducible exact below_d3 _ _ _ _ _ | with_reducible exact below_d4 _ _ _ _ _ _ _ _ | with_reducible exact below_d5 _ _ | with_reducible refine Below.drew ?_ | with_reducible refine Below.drewN' ?_ _ | with_reducible refine below_grow0 _ _ ?_ | with_reducible refine below_alloc0 _ ?_ | with_reducible refine Below.setCell ?_ ?_ _ | with_reducible refine Below.alloc ?_ ?_ _ | with_reducible refine Below.grow _ _ _ ?_ ?_ | omega | (simp; done) | (simp; omega)))⟩
    refine AllE.cons (by simp only [List.getElem?_toArray]; rfl) (fun K hK => ?gO1_8) ?gL1_8
    case gO1_8 =>
      go_simp
      ((first | refine build_one (n := W.heap.size + ext3.size) (by first | rfl | (simp; done)) W.heap.size (by simp) cTxn 7 ⟨xz, xo, xs, xp, xd, xv, xw⟩ rfl rfl (fun w' hB hbB => ?_) | refine build_one (n := W.heap.size) (by first | rfl | (simp; done)) W.heap.size (by simp) cTxn 7 ⟨xz, xo, xs, xp, xd, xv, xw⟩ rfl rfl (fun w' hB hbB => ?_)); have HB := Lib.hid hB; (first | replace HA1 := Lib.hid (HA1.out.below hbB) | skip); obtain ⟨ext4, d4, rfl⟩ := Below.grown_eq W (Below.own (by repeat (first | with_reducible exact Below.refl _ _ | with_reducible assumption | with_reducible exact below_d1 _ _ _ _ _ | with_reducible exact below_d2 _ _ _ _ _ _ _ _ | with_reducible exact below_d3 _ _ _ _ _ | with_reducible exact below_d4 _ _ _ _ _ _ _ _ | with_reducible exact below_d5 _ _ | with_reducible refine Below.drew ?_ | with_reducible refine Below.drewN' ?_ _ | with_reducible refine below_grow0 _ _ ?_ | with_reducible refine below_alloc0 _ ?_ | with_reducible refine Below.setCell ?_ ?_ _ | with_reducible refine Below.alloc ?_ ?_ _ | with_reducible refine Below.grow _ _ _ ?_ ?_ | omega | (simp; done) | (simp; omega))) hbB); clear hbB hB)
      refine hK.out _ _ ?gT1_8 (fun hHeld => ?_)
      case gT1_8 => ((try dsimp only); (refine ⟨?_, ?_, ?_, ?_, ?_, ?_, ?_⟩ <;> go_simp))
      clear hK K
      try simp only [Act.put, List.setIfInBounds_toArray, List.set_cons_zero, List.set_cons_succ]
      refine wpE_ready (rs := [1]) (by kernel_rfl) (by simp) ?_
      refine AllE.cons (by simp only [List.getElem?_toArray]; rfl) (fun K hK => ?_) AllE.nil
      (refine stepE_app (by rfl) (.const (.slice none 0 0)) (.tmp 19) _ rfl elTxn (B := W.heap.size) (v := .slice none 0 0) (l := []) (m := l) rfl rfl (Ow.nil _ _ _ _ _) (hsW.out.below (by repeat (first | with_reducible exact Below.refl _ _ | with_reducible assumption | with_reducible exact below_d1 _ _ _ _ _ | with_reducible exact below_d2 _ _ _ _ _ _ _ _ | with_reducible exact below_d3 _ _ _ _ _ | with_reducible exact below_d4 _ _ _ _ _ _ _ _ | with_reducible exact below_d5 _ _ | with_reducible refine Below.drew ?_ | with_reducible refine Below.drewN' ?_ _ | with_reducible refine below_grow0 _ _ ?_ | with_reducible refine below_alloc0 _ ?_ | with_reducible refine Below.setCell ?_ ?_ _ | with_reducible refine Below.alloc ?_ ?_ _ | with_reducible refine Below.grow _ _ _ ?_ ?_ | omega | (simp; done) | (simp; omega)))) cTxn_one (by have := HNN.out; simp [maxLen]; omega) (by have := HNN.out; simp; omega) (by simp <;> omega) ?_; intro v2 w2 hown2 hg2 _; rw [List.nil_append] at hown2; obtain ⟨A2, c2, rfl, _⟩ := hown2.form; (first | replace HB := Lib.hid (HB.out.kept hg2 (.inr (by simp [Value.ownBlock]))) | skip); obtain ⟨ext3, d3, rfl⟩ := grown_on (W := W) (by repeat (first | with_reducible exact Below.refl _ _ | with_reducible assumption | with_reducible exact below_d1 _ _ _ _ _ | with_reducible exact below_d2 _ _ _ _ _ _ _ _ | with_reducible exact below_d3 _ _ _ _ _ | with_reducible exact below_d4 _ _ _ _ _ _ _ _ | with_reducible exact below_d5 _ _ | with_reducible refine Below.drew ?_ | with_reducible refine Below.drewN' ?_ _ | with_reducible refine below_grow0 _ _ ?_ | with_reducible refine below_alloc0 _ ?_ | with_reducible refine Below.setCell ?_ ?_ _ | with_reducible refine Below.alloc ?_ ?_ _ | with_reducible refine Below.grow _ _ _ ?_ ?_ | omega | (simp; done) | (simp; omega))) hg2 (by simp [Value.ownBlock]); have HA1 := Lib.hid hown2; clear hown2 hg2)
      refine hK.out _ _ ?gT1_9 (fun hHeld => ?_)
      case gT1_9 => ((try dsimp only); (refine ⟨?_, ?_, ?_, ?_, ?_, ?_, ?_⟩ <;> go_simp))
      clear hK K
      try simp only [Act.put, List.setIfInBounds_toArray, List.set_cons_zero, List.set_cons_succ]
      refine wpE_ready (rs := [4]) (by kernel_rfl) (by simp) ?_
      refine AllE.cons (by simp only [List.getElem?_toArray]; rfl) (fun K hK => ?_) AllE.nil
      (refine stepE_app (by rfl) (.tmp 20) (.tmp 22) _ rfl elTxn (B := W.heap.size) (v := .slice A2 l.length c2) (l := l) (m := [⟨xz, xo, xs, xp, xd, xv, xw⟩]) rfl rfl HA1.out HB.out.sl cTxn_one (by have := HNN.out; simp [maxLen]; omega) (by have := HNN.out; simp; omega) (by simp <;> omega) ?_; intro v5 w5 hown5 hg5 _; obtain ⟨A5, c5, rfl, _⟩ := hown5.form; obtain ⟨ext5, d5, rfl⟩ := grown_on (W := W) (by repeat (first | with_reducible exact Below.refl _ _ | with_reducible assumption | with_reducible exact below_d1 _ _ _ _ _ | with_reducible exact below_d2 _ _ _ _ _ _ _ _ | with_reducible exact below_d3 _ _ _ _ _ | with_reducible exact below_d4 _ _ _ _ _ _ _ _ | with_reducible exact below_d5 _ _ | with_reducible refine Below.drew ?_ | with_reducible refine Below.drewN' ?_ _ | with_reducible refine below_grow0 _ _ ?_ | with_reducible refine below_alloc0 _ ?_ | with_reducible refine Below.setCell ?_ ?_ _ | with_reducible refine Below.alloc ?_ ?_ _ | with_reducible refine Below.grow _ _ _ ?_ ?_ | omega | (simp; done) | (simp; omega))) hg5 HA1.out.above; have hq := hown5.sl; simp only [List.length_append, List.length_cons, List.length_nil, Nat.zero_add] at hq; have HA2 := Lib.hid hq; clear hq hown5 hg5)
      refine hK.out _ _ ?gT1_10 (fun hHeld => ?_)
      case gT1_10 => ((try dsimp only); (refine ⟨?_, ?_, ?_, ?_, ?_, ?_, ?_⟩ <;> go_simp))
      clear hK K
      try simp only [Act.put, List.setIfInBounds_toArray, List.set_cons_zero, List.set_cons_succ]
      refine wpE_ready (rs := [5]) (by kernel_rfl) (by simp) ?_
      refine AllE.cons (by simp only [List.getElem?_toArray]; rfl) (fun K hK => ?_) AllE.nil
      go_simp
      (go_at_call 6; (with_reducible refine (HTK.out _ _ HA2.out).mono ?_); rintro e w6 ⟨A, c, m, rfl, hok, h40, ho, hb⟩; obtain ⟨ext6, d6, rfl⟩ := Below.grown_eq _ hb; clear hb; have hwb := hWb.out)
      refine hK.out _ _ ?gT1_11 (fun hHeld => ?_)
      case gT1_11 => ((try dsimp only); (refine ⟨?_, ?_, ?_, ?_, ?_, ?_, ?_⟩ <;> go_simp))
      clear hK K
      try simp only [Act.put, List.setIfInBounds_toArray, List.set_cons_zero, List.set_cons_succ]
      (refine wpE_takeP (i := 6) (v := ?gV1_12) (by simp only [List.getElem?_toArray]; rfl) (by kernel_rfl) (by kernel_rfl) (by kernel_rfl) (by rfl) (fun _ _ _ h => h) (Or.inl ⟨by rfl, ?gY1_12⟩) (by assumption) ?gR1_12; case gY1_12 => (intro w hSw; (try dsimp only at hSw); go_simp <;> with_reducible rfl))
      try simp only [Act.put, List.setIfInBounds_toArray, List.set_cons_zero, List.set_cons_succ]
      refine wpE_done (by kernel_rfl) ?_ _
      refine NoPanic.normal ?_
      go_wp2_with fail
      go_meet
      exact ⟨A, c, m, rfl, Lib.hid hok, h40, Lib.hid (ho.below (by repeat (first | with_reducible exact Below.refl _ _ | with_reducible assumption | with_reducible exact below_d1 _ _ _ _ _ | with_reducible exact below_d2 _ _ _ _ _ _ _ _ | with_reducible exact below_d3 _ _ _ _ _ | with_reducible exact below_d4 _ _ _ _ _ _ _ _ | with_reducible exact below_d5 _ _ | with_reducible refine Below.drew ?_ | with_reducible refine Below.drewN' ?_ _ | with_reducible refine below_grow0 _ _ ?_ | with_reducible refine below_alloc0 _ ?_ | with_reducible refine Below.setCell ?_ ?_ _ | with_reducible refine Below.alloc ?_ ?_ _ | with_reducible refine Below.grow _ _ _ ?_ ?_ | omega | (simp; done) | (simp; omega)))), (by repeat (first | with_reducible exact Below.refl _ _ | with_reducible assumption | with_reducible exact below_d1 _ _ _ _ _ | with_reducible exact below_d2 _ _ _ _ _ _ _ _ | with_reducible exact below_d3 _ _ _ _ _ | with_reducible exact below_d4 _ _ _ _ _ _ _ _ | with_reducible exact below_d5 _ _ | with_reducible refine Below.drew ?_ | with_reducible refine Below.drewN' ?_ _ | with_reducible refine below_grow0 _ _ ?_ | with_reducible refine below_alloc0 _ ?_ | with_reducible refine Below.setCell ?_ ?_ _ | with_reducible refine Below.alloc ?_ ?_ _ | with_reducible refine Below.grow _ _ _ ?_ ?_ | omega | (simp; done) | (simp; omega)))⟩
    exact AllE.nil
  case rest =>
    obtain ⟨wa, rfl⟩ : ∃ wa : World, wa = wc := ⟨_, rfl⟩
    obtain ⟨A, c, m, rfl, HOK, h40, HM, hbw⟩ := hcut
    clear HTK H
    rcases List.eq_nil_or_concat m with rfl | ⟨M, t, rfl⟩
    · simp only [List.length_nil]
      go_wp2_with ((go_at_call 8; refine (HBS.out _).mono ?_; rintro e w2 ⟨rfl, hb2⟩; obtain ⟨ext3, d3, rfl⟩ := Below.grown_eq _ hb2; clear hb2))
      go_ret
      exact ⟨rfl, (by repeat (first | with_reducible exact Below.refl _ _ | with_reducible assumption | with_reducible exact below_d1 _ _ _ _ _ | with_reducible exact below_d2 _ _ _ _ _ _ _ _ | with_reducible exact below_d3 _ _ _ _ _ | with_reducible exact below_d4 _ _ _ _ _ _ _ _ | with_reducible exact below_d5 _ _ | with_reducible refine Below.drew ?_ | with_reducible refine Below.drewN' ?_ _ | with_reducible refine below_grow0 _ _ ?_ | with_reducible refine below_alloc0 _ ?_ | with_reducible refine Below.setCell ?_ ?_ _ | with_reducible refine Below.alloc ?_ ?_ _ | with_reducible refine Below.grow _ _ _ ?_ ?_ | omega | (simp; done) | (simp; omega)))⟩
    · simp only [List.concat_eq_append] at *
      have hM : M.length + 1 ≤ 40 := by simpa using h40
      have hokM : LogP M := ⟨⟨fun x hx => HOK.out.1.1 x (List.mem_append_left _ hx), HOK.out.1.2.sublist (List.sublist_append_left _ _)⟩, fun x hx => HOK.out.2 x (List.mem_append_left _ hx)⟩
      have hgt : goodT t = 0 := HOK.out.1.1 t (by simp)
      have hx : (M ++ [t])[M.length]? = some t := by simp
      have hsm := recs_small HOK.out.1 (by omega)
      obtain ⟨b, off, rfl, hb, x0, x1, x2, x3, x4, x5, x6⟩ := HM.out.Txn_at hx
      have SM := Lib.hid (HM.out.pre2 (List.prefix_append M [t]))
      have hmc : M.length + 1 ≤ c := by
        have := HM.out.caps.1
        simpa using this
      have HF := Lib.hid (fun (W : World) (h : Sl cTxn 7 W (.slice (some ⟨b, off, none⟩) M.length c) M) => (filled_is (fun q => q < W.heap.size) _ M W h (fun q h => h) hokM (by omega)).mono (fun e w' hh => show ∃ da dc la lc na nc sa sc wa wc, e = .returned (.tuple #[vFill 0 M.length ⟨da, dc, la, lc, na, nc, sa, sc, wa, wc⟩, .bool true]) ∧ SrvIn (fun q => q < W.heap.size) w' (fillS 0 M) ⟨da, dc, la, lc, na, nc, sa, sc, wa, wc⟩ ∧ Below W.heap.size W w' from by
        obtain ⟨⟨da, dc, la, lc, na, nc, sa, sc, wa, wc⟩, he, h2, h3⟩ := hh
        exact ⟨da, dc, la, lc, na, nc, sa, sc, wa, wc, he, h2, h3⟩))
      have HT := Lib.hid (fun (v : SrvV) (W : World) (p : Nat → Prop) (h : SrvIn p W (fillS 0 M) v) => take_tornC M t v W p h HOK.out (by omega))
      have HE := Lib.hid (fun (W : World) => by
        have h1 := encode_any t W (good_path hgt)
        rw [show encR t = bS (recT t) from if_pos hgt, hgt] at h1
        exact h1)
      have HC := Lib.hid (fun (v : SrvV) (n : Nat) (p : Nat → Prop) (W : World) (h : SrvIn p W (tornS M t) v) => crash_tornC M t v n p W h HOK.out.1 (by omega))
      have HU := Lib.hid (fun (n : Nat) (v : Value) (W : World) (h : Sl cFile 3 W v (tornF M t n)) => boot_tornC 1 M t n v W h HOK.out.1 (by omega) (by decide) (by decide))
      have HSL := Lib.hid (fun (W : World) (v v2 : Value) (h : Sl cTxn 7 W v (M ++ [t])) (h2 : Sl cTxn 7 W v2 (M ++ [t])) => sameLog_eq v v2 (M ++ [t]) W h h2 (by omega))
      have HSL2 := Lib.hid (fun (W : World) (v v2 : Value) (h : Sl cTxn 7 W v M) (h2 : Sl cTxn 7 W v2 M) => sameLog_eq v v2 M W h h2 (by omega))
      have hrz : (bS (recT t)).size ≤ 42271 := by
        rw [recs_app, recs_one, List.length_append] at hsm
        rw [bS_size]; omega
      have HPK := Lib.hid (fun (W : World) => pickI keep ((bS (recT t)).size + 2) W (by omega) (by omega))
      have hml : (M ++ [t]).length = M.length + 1 := by simp
      rw [hml]
      have HML := Lib.hid hml
      generalize hr : bS (recT t) = r at *
      have hjw : IntKind.i64.wrap ((M.length : Int) + 1 - 1) = (M.length : Int) := by unfold IntKind.wrap; simp [IntKind.signed, IntKind.bits]; omega
      clear hx hml hgt hokM hsm
      obtain ⟨z, o, s, pt, dt, vt, ow⟩ := t
      go_upto_region 8 with (first | (go_at_call 8; refine (HBS.out _).mono ?_; rintro e w2 ⟨rfl, hb2⟩; obtain ⟨ext3, d3, rfl⟩ := Below.grown_eq _ hb2; clear hb2) | (go_at_call 7; refine (HF.out _ (SM.out.below (by repeat (first | with_reducible exact Below.refl _ _ | with_reducible assumption | with_reducible exact below_d1 _ _ _ _ _ | with_reducible exact below_d2 _ _ _ _ _ _ _ _ | with_reducible exact below_d3 _ _ _ _ _ | with_reducible exact below_d4 _ _ _ _ _ _ _ _ | with_reducible exact below_d5 _ _ | with_reducible refine Below.drew ?_ | with_reducible refine Below.drewN' ?_ _ | with_reducible refine below_grow0 _ _ ?_ | with_reducible refine below_alloc0 _ ?_ | with_reducible refine Below.setCell ?_ ?_ _ | with_reducible refine Below.alloc ?_ ?_ _ | with_reducible refine Below.grow _ _ _ ?_ ?_ | omega | (simp; done) | (simp; omega))))).mono ?_; rintro e w1 ⟨da, dc, la, lc, na, nc, sa, sc, wa2, wc2, rfl, h1, hb1⟩; obtain ⟨ext4, d4, rfl⟩ := Below.grown_eq _ hb1; have HS := Lib.hid h1; clear h1 hb1) | (go_at_call 13; refine (HT.out ⟨da, dc, la, lc, na, nc, sa, sc, wa2, wc2⟩ _ _ (HS.out.below (by repeat (first | with_reducible exact Below.refl _ _ | with_reducible assumption | with_reducible exact below_d1 _ _ _ _ _ | with_reducible exact below_d2 _ _ _ _ _ _ _ _ | with_reducible exact below_d3 _ _ _ _ _ | with_reducible exact below_d4 _ _ _ _ _ _ _ _ | with_reducible exact below_d5 _ _ | with_reducible refine Below.drew ?_ | with_reducible refine Below.drewN' ?_ _ | with_reducible refine below_grow0 _ _ ?_ | with_reducible refine below_alloc0 _ ?_ | with_reducible refine Below.setCell ?_ ?_ _ | with_reducible refine Below.alloc ?_ ?_ _ | with_reducible refine Below.grow _ _ _ ?_ ?_ | omega | (simp; done) | (simp; omega))))).mono ?_; rintro e w1 ⟨ea, ec, ma, mc, oa, oc, ta, tc, ua, uc, rfl, h1, hb1⟩; obtain ⟨ext5, d5, rfl⟩ := Below.grown_eq _ hb1; have HS2 := Lib.hid h1; clear h1 hb1) | (go_at_call 14; refine (HE.out _).mono ?_; rintro e w1 ⟨rfl, hb1⟩; obtain ⟨ext6, d6, rfl⟩ := Below.grown_eq _ hb1; clear hb1))
      refine gen_w (fun W0 hW0 => ?_)
      generalize hg : wa.heap.size + ext3.size + 1 + ext4.size + 1 + ext5.size = g at *
      have hWb : Below w.heap.size w W0 := by rw [hW0.out]; exact (by repeat (first | with_reducible exact Below.refl _ _ | with_reducible assumption | with_reducible exact below_d1 _ _ _ _ _ | with_reducible exact below_d2 _ _ _ _ _ _ _ _ | with_reducible exact below_d3 _ _ _ _ _ | with_reducible exact below_d4 _ _ _ _ _ _ _ _ | with_reducible exact below_d5 _ _ | with_reducible refine Below.drew ?_ | with_reducible refine Below.drewN' ?_ _ | with_reducible refine below_grow0 _ _ ?_ | with_reducible refine below_alloc0 _ ?_ | with_reducible refine Below.setCell ?_ ?_ _ | with_reducible refine Below.alloc ?_ ?_ _ | with_reducible refine Below.grow _ _ _ ?_ ?_ | omega | (simp; done) | (simp; omega)))
      have k0 : W0.cell? ⟨g, 0, none⟩ = some (.bool true) := by rw [hW0.out, ← hg]; go_simp
      have k1 : W0.cell? ⟨g, 1, none⟩ = some (.slice ea 1 ec) := by rw [hW0.out, ← hg]; go_simp
      have k2 : W0.cell? ⟨g, 2, none⟩ = some (.int .i64 0) := by rw [hW0.out, ← hg]; go_simp
      have k3 : W0.cell? ⟨g, 3, none⟩ = some (.int .i64 0) := by rw [hW0.out, ← hg]; go_simp
      have k4 : W0.cell? ⟨g, 4, none⟩ = some (.slice ma (M.length + 1) mc) := by rw [hW0.out, ← hg]; go_simp
      have k5 : W0.cell? ⟨g, 5, none⟩ = some (.int .i64 0) := by rw [hW0.out, ← hg]; go_simp
      have k6 : W0.cell? ⟨g, 6, none⟩ = some (.int .i64 0) := by rw [hW0.out, ← hg]; go_simp
      have k7 : W0.cell? ⟨g, 7, none⟩ = some (.slice oa 1 oc) := by rw [hW0.out, ← hg]; go_simp
      have k8 : W0.cell? ⟨g, 8, none⟩ = some (.slice ta 0 tc) := by rw [hW0.out, ← hg]; go_simp
      have k9 : W0.cell? ⟨g, 9, none⟩ = some (.slice ua 0 uc) := by rw [hW0.out, ← hg]; go_simp
      have S2 := Lib.hid (HS2.out.below (w' := W0) (by rw [hW0.out]; exact (by repeat (first | with_reducible exact Below.refl _ _ | with_reducible assumption | with_reducible exact below_d1 _ _ _ _ _ | with_reducible exact below_d2 _ _ _ _ _ _ _ _ | with_reducible exact below_d3 _ _ _ _ _ | with_reducible exact below_d4 _ _ _ _ _ _ _ _ | with_reducible exact below_d5 _ _ | with_reducible refine Below.drew ?_ | with_reducible refine Below.drewN' ?_ _ | with_reducible refine below_grow0 _ _ ?_ | with_reducible refine below_alloc0 _ ?_ | with_reducible refine Below.setCell ?_ ?_ _ | with_reducible refine Below.alloc ?_ ?_ _ | with_reducible refine Below.grow _ _ _ ?_ ?_ | omega | (simp; done) | (simp; omega)))))
      have SMW := Lib.hid (SM.out.below (w' := W0) (by rw [hW0.out]; exact (by repeat (first | with_reducible exact Below.refl _ _ | with_reducible assumption | with_reducible exact below_d1 _ _ _ _ _ | with_reducible exact below_d2 _ _ _ _ _ _ _ _ | with_reducible exact below_d3 _ _ _ _ _ | with_reducible exact below_d4 _ _ _ _ _ _ _ _ | with_reducible exact below_d5 _ _ | with_reducible refine Below.drew ?_ | with_reducible refine Below.drewN' ?_ _ | with_reducible refine below_grow0 _ _ ?_ | with_reducible refine below_alloc0 _ ?_ | with_reducible refine Below.setCell ?_ ?_ _ | with_reducible refine Below.alloc ?_ ?_ _ | with_reducible refine Below.grow _ _ _ ?_ ?_ | omega | (simp; done) | (simp; omega)))))
      have HMW : Hid (Sl cTxn 7 W0 (.slice (some ⟨b, off, none⟩) (M.length + 1) c) (M ++ [⟨z, o, s, pt, dt, vt, ow⟩])) := Lib.hid (by have hq := HM.out.below (w' := W0) (by rw [hW0.out]; exact (by repeat (first | with_reducible exact Below.refl _ _ | with_reducible assumption | with_reducible exact below_d1 _ _ _ _ _ | with_reducible exact below_d2 _ _ _ _ _ _ _ _ | with_reducible exact below_d3 _ _ _ _ _ | with_reducible exact below_d4 _ _ _ _ _ _ _ _ | with_reducible exact below_d5 _ _ | with_reducible refine Below.drew ?_ | with_reducible refine Below.drewN' ?_ _ | with_reducible refine below_grow0 _ _ ?_ | with_reducible refine below_alloc0 _ ?_ | with_reducible refine Below.setCell ?_ ?_ _ | with_reducible refine Below.alloc ?_ ?_ _ | with_reducible refine Below.grow _ _ _ ?_ ?_ | omega | (simp; done) | (simp; omega)))); simp only [HML.out] at hq; exact hq)
      have SLA : Hid (Sl cTxn 7 W0 (.slice ma (M.length + 1) mc) (M ++ [⟨z, o, s, pt, dt, vt, ow⟩])) := Lib.hid (by have hq := S2.out.log.1; simp only [HML.out] at hq; exact hq)
      clear hg HS2 SM HM HS hW0 x0 x1 x2 x3 x4 x5 x6 hb HT HF HE HBS
      go_upto_region 9 with ((go_at_call 10; refine (HPK.out _).mono ?_; rintro e w3 ⟨f, hf, rfl, rfl⟩; skip))
      replace HC := Lib.hid (fun (v : SrvV) (p : Nat → Prop) (V : World) (h : SrvIn p V (tornS M ⟨z, o, s, pt, dt, vt, ow⟩) v) => HC.out v f p V h)
      replace HU := Lib.hid (fun (v : Value) (V : World) h => HU.out f v V h)
      by_cases hle : r.size ≤ f
      · rw [if_pos hle] at HU
        unfold UpT at HU
        rw [HML.out] at HU
        have hd : decide (r.size ≤ f) = true := decide_eq_true hle
        clear hle hf
        go_wp2_with (first | (go_at_call 9; (with_reducible refine (HC.out ⟨ea, ec, ma, mc, oa, oc, ta, tc, ua, uc⟩ _ _ (S2.out.below (by repeat (first | with_reducible exact Below.refl _ _ | with_reducible assumption | with_reducible exact below_d1 _ _ _ _ _ | with_reducible exact below_d2 _ _ _ _ _ _ _ _ | with_reducible exact below_d3 _ _ _ _ _ | with_reducible exact below_d4 _ _ _ _ _ _ _ _ | with_reducible exact below_d5 _ _ | with_reducible refine Below.drew ?_ | with_reducible refine Below.drewN' ?_ _ | with_reducible refine below_grow0 _ _ ?_ | with_reducible refine below_alloc0 _ ?_ | with_reducible refine Below.setCell ?_ ?_ _ | with_reducible refine Below.alloc ?_ ?_ _ | with_reducible refine Below.grow _ _ _ ?_ ?_ | omega | (simp; done) | (simp; omega))))).mono ?_); rintro e w4 ⟨ea2, ec2, ma2, mc2, oa2, oc2, ta2, tc2, ua2, uc2, rfl, h3, hb3⟩; obtain ⟨ext7, d7, rfl⟩ := Below.grown_eq _ hb3; have H3 := Lib.hid h3; clear h3 hb3) | (go_at_call 11; (with_reducible refine (HU.out _ _ (H3.out.sl_below (by repeat (first | with_reducible exact Below.refl _ _ | with_reducible assumption | with_reducible exact below_d1 _ _ _ _ _ | with_reducible exact below_d2 _ _ _ _ _ _ _ _ | with_reducible exact below_d3 _ _ _ _ _ | with_reducible exact below_d4 _ _ _ _ _ _ _ _ | with_reducible exact below_d5 _ _ | with_reducible refine Below.drew ?_ | with_reducible refine Below.drewN' ?_ _ | with_reducible refine below_grow0 _ _ ?_ | with_reducible refine below_alloc0 _ ?_ | with_reducible refine Below.setCell ?_ ?_ _ | with_reducible refine Below.alloc ?_ ?_ _ | with_reducible refine Below.grow _ _ _ ?_ ?_ | omega | (simp; done) | (simp; omega))))).mono ?_); rintro e w5 ⟨da3, dc3, la3, lc3, na3, nc3, sa3, sc3, wa3, wc3, rfl, h5, hb5⟩; obtain ⟨ext8, d8, rfl⟩ := Below.grown_eq _ hb5; have H5 := Lib.hid h5; clear h5 hb5) | (go_at_call 12; (with_reducible refine (HSL.out _ (.slice ma (M.length + 1) mc) _ (SLA.out.below (by repeat (first | with_reducible exact Below.refl _ _ | with_reducible assumption | with_reducible exact below_d1 _ _ _ _ _ | with_reducible exact below_d2 _ _ _ _ _ _ _ _ | with_reducible exact below_d3 _ _ _ _ _ | with_reducible exact below_d4 _ _ _ _ _ _ _ _ | with_reducible exact below_d5 _ _ | with_reducible refine Below.drew ?_ | with_reducible refine Below.drewN' ?_ _ | with_reducible refine below_grow0 _ _ ?_ | with_reducible refine below_alloc0 _ ?_ | with_reducible refine Below.setCell ?_ ?_ _ | with_reducible refine Below.alloc ?_ ?_ _ | with_reducible refine Below.grow _ _ _ ?_ ?_ | omega | (simp; done) | (simp; omega)))) (HMW.out.below (by repeat (first | with_reducible exact Below.refl _ _ | with_reducible assumption | with_reducible exact below_d1 _ _ _ _ _ | with_reducible exact below_d2 _ _ _ _ _ _ _ _ | with_reducible exact below_d3 _ _ _ _ _ | with_reducible exact below_d4 _ _ _ _ _ _ _ _ | with_reducible exact below_d5 _ _ | with_reducible refine Below.drew ?_ | with_reducible refine Below.drewN' ?_ _ | with_reducible refine below_grow0 _ _ ?_ | with_reducible refine below_alloc0 _ ?_ | with_reducible refine Below.setCell ?_ ?_ _ | with_reducible refine Below.alloc ?_ ?_ _ | with_reducible refine Below.grow _ _ _ ?_ ?_ | omega | (simp; done) | (simp; omega))))).mono ?_); rintro e w6 ⟨rfl, hb6⟩; obtain ⟨ext9, d9, rfl⟩ := Below.grown_eq _ hb6; clear hb6) | (go_at_call 12; (with_reducible refine (HSL.out _ (.slice la3 (M.length + 1) lc3) _ (H5.out.below (by repeat (first | with_reducible exact Below.refl _ _ | with_reducible assumption | with_reducible exact below_d1 _ _ _ _ _ | with_reducible exact below_d2 _ _ _ _ _ _ _ _ | with_reducible exact below_d3 _ _ _ _ _ | with_reducible exact below_d4 _ _ _ _ _ _ _ _ | with_reducible exact below_d5 _ _ | with_reducible refine Below.drew ?_ | with_reducible refine Below.drewN' ?_ _ | with_reducible refine below_grow0 _ _ ?_ | with_reducible refine below_alloc0 _ ?_ | with_reducible refine Below.setCell ?_ ?_ _ | with_reducible refine Below.alloc ?_ ?_ _ | with_reducible refine Below.grow _ _ _ ?_ ?_ | omega | (simp; done) | (simp; omega)))) (HMW.out.below (by repeat (first | with_reducible exact Below.refl _ _ | with_reducible assumption | with_reducible exact below_d1 _ _ _ _ _ | with_reducible exact below_d2 _ _ _ _ _ _ _ _ | with_reducible exact below_d3 _ _ _ _ _ | with_reducible exact below_d4 _ _ _ _ _ _ _ _ | with_reducible exact below_d5 _ _ | with_reducible refine Below.drew ?_ | with_reducible refine Below.drewN' ?_ _ | with_reducible refine below_grow0 _ _ ?_ | with_reducible refine below_alloc0 _ ?_ | with_reducible refine Below.setCell ?_ ?_ _ | with_reducible refine Below.alloc ?_ ?_ _ | with_reducible refine Below.grow _ _ _ ?_ ?_ | omega | (simp; done) | (simp; omega))))).mono ?_); rintro e w6 ⟨rfl, hb6⟩; obtain ⟨ext10, d10, rfl⟩ := Below.grown_eq _ hb6; clear hb6))
        go_ret
        exact ⟨rfl, (by repeat (first | with_reducible exact Below.refl _ _ | with_reducible assumption | with_reducible exact below_d1 _ _ _ _ _ | with_reducible exact below_d2 _ _ _ _ _ _ _ _ | with_reducible exact below_d3 _ _ _ _ _ | with_reducible exact below_d4 _ _ _ _ _ _ _ _ | with_reducible exact below_d5 _ _ | with_reducible refine Below.drew ?_ | with_reducible refine Below.drewN' ?_ _ | with_reducible refine below_grow0 _ _ ?_ | with_reducible refine below_alloc0 _ ?_ | with_reducible refine Below.setCell ?_ ?_ _ | with_reducible refine Below.alloc ?_ ?_ _ | with_reducible refine Below.grow _ _ _ ?_ ?_ | omega | (simp; done) | (simp; omega)))⟩
      · rw [if_neg hle] at HU
        unfold UpT at HU
        have hd : decide (r.size ≤ f) = false := decide_eq_false hle
        clear hle hf
        go_wp2_with (first | (go_at_call 9; (with_reducible refine (HC.out ⟨ea, ec, ma, mc, oa, oc, ta, tc, ua, uc⟩ _ _ (S2.out.below (by repeat (first | with_reducible exact Below.refl _ _ | with_reducible assumption | with_reducible exact below_d1 _ _ _ _ _ | with_reducible exact below_d2 _ _ _ _ _ _ _ _ | with_reducible exact below_d3 _ _ _ _ _ | with_reducible exact below_d4 _ _ _ _ _ _ _ _ | with_reducible exact below_d5 _ _ | with_reducible refine Below.drew ?_ | with_reducible refine Below.drewN' ?_ _ | with_reducible refine below_grow0 _ _ ?_ | with_reducible refine below_alloc0 _ ?_ | with_reducible refine Below.setCell ?_ ?_ _ | with_reducible refine Below.alloc ?_ ?_ _ | with_reducible refine Below.grow _ _ _ ?_ ?_ | omega | (simp; done) | (simp; omega))))).mono ?_); rintro e w4 ⟨ea2, ec2, ma2, mc2, oa2, oc2, ta2, tc2, ua2, uc2, rfl, h3, hb3⟩; obtain ⟨ext7, d7, rfl⟩ := Below.grown_eq _ hb3; have H3 := Lib.hid h3; clear h3 hb3) | (go_at_call 11; (with_reducible refine (HU.out _ _ (H3.out.sl_below (by repeat (first | with_reducible exact Below.refl _ _ | with_reducible assumption | with_reducible exact below_d1 _ _ _ _ _ | with_reducible exact below_d2 _ _ _ _ _ _ _ _ | with_reducible exact below_d3 _ _ _ _ _ | with_reducible exact below_d4 _ _ _ _ _ _ _ _ | with_reducible exact below_d5 _ _ | with_reducible refine Below.drew ?_ | with_reducible refine Below.drewN' ?_ _ | with_reducible refine below_grow0 _ _ ?_ | with_reducible refine below_alloc0 _ ?_ | with_reducible refine Below.setCell ?_ ?_ _ | with_reducible refine Below.alloc ?_ ?_ _ | with_reducible refine Below.grow _ _ _ ?_ ?_ | omega | (simp; done) | (simp; omega))))).mono ?_); rintro e w5 ⟨da3, dc3, la3, lc3, na3, nc3, sa3, sc3, wa3, wc3, rfl, h5, hb5⟩; obtain ⟨ext8, d8, rfl⟩ := Below.grown_eq _ hb5; have H5 := Lib.hid h5; clear h5 hb5) | (go_at_call 12; (with_reducible refine (HSL.out _ (.slice ma (M.length + 1) mc) _ (SLA.out.below (by repeat (first | with_reducible exact Below.refl _ _ | with_reducible assumption | with_reducible exact below_d1 _ _ _ _ _ | with_reducible exact below_d2 _ _ _ _ _ _ _ _ | with_reducible exact below_d3 _ _ _ _ _ | with_reducible exact below_d4 _ _ _ _ _ _ _ _ | with_reducible exact below_d5 _ _ | with_reducible refine Below.drew ?_ | with_reducible refine Below.drewN' ?_ _ | with_reducible refine below_grow0 _ _ ?_ | with_reducible refine below_alloc0 _ ?_ | with_reducible refine Below.setCell ?_ ?_ _ | with_reducible refine Below.alloc ?_ ?_ _ | with_reducible refine Below.grow _ _ _ ?_ ?_ | omega | (simp; done) | (simp; omega)))) (HMW.out.below (by repeat (first | with_reducible exact Below.refl _ _ | with_reducible assumption | with_reducible exact below_d1 _ _ _ _ _ | with_reducible exact below_d2 _ _ _ _ _ _ _ _ | with_reducible exact below_d3 _ _ _ _ _ | with_reducible exact below_d4 _ _ _ _ _ _ _ _ | with_reducible exact below_d5 _ _ | with_reducible refine Below.drew ?_ | with_reducible refine Below.drewN' ?_ _ | with_reducible refine below_grow0 _ _ ?_ | with_reducible refine below_alloc0 _ ?_ | with_reducible refine Below.setCell ?_ ?_ _ | with_reducible refine Below.alloc ?_ ?_ _ | with_reducible refine Below.grow _ _ _ ?_ ?_ | omega | (simp; done) | (simp; omega))))).mono ?_); rintro e w6 ⟨rfl, hb6⟩; obtain ⟨ext9, d9, rfl⟩ := Below.grown_eq _ hb6; clear hb6))
        refine wp_region_noPanic ?_
        refine wp_region_W (by kernel_rfl) (fun W hW => ?_)
        have cl0 : W.cell? ⟨W0.heap.size + ext7.size + 1 + ext8.size, 4, none⟩ = some (.slice la3 M.length lc3) := by rw [hW.out]; go_simp
        have h5W := Lib.hid (H5.out.below (w' := W) (by rw [hW.out]; exact (by repeat (first | with_reducible exact Below.refl _ _ | with_reducible assumption | with_reducible exact below_d1 _ _ _ _ _ | with_reducible exact below_d2 _ _ _ _ _ _ _ _ | with_reducible exact below_d3 _ _ _ _ _ | with_reducible exact below_d4 _ _ _ _ _ _ _ _ | with_reducible exact below_d5 _ _ | with_reducible refine Below.drew ?_ | with_reducible refine Below.drewN' ?_ _ | with_reducible refine below_grow0 _ _ ?_ | with_reducible refine below_alloc0 _ ?_ | with_reducible refine Below.setCell ?_ ?_ _ | with_reducible refine Below.alloc ?_ ?_ _ | with_reducible refine Below.grow _ _ _ ?_ ?_ | omega | (simp; done) | (simp; omega)))))
        have smW := Lib.hid (SMW.out.below (w' := W) (by rw [hW.out]; exact (by repeat (first | with_reducible exact Below.refl _ _ | with_reducible assumption | with_reducible exact below_d1 _ _ _ _ _ | with_reducible exact below_d2 _ _ _ _ _ _ _ _ | with_reducible exact below_d3 _ _ _ _ _ | with_reducible exact below_d4 _ _ _ _ _ _ _ _ | with_reducible exact below_d5 _ _ | with_reducible refine Below.drew ?_ | with_reducible refine Below.drewN' ?_ _ | with_reducible refine below_grow0 _ _ ?_ | with_reducible refine below_alloc0 _ ?_ | with_reducible refine Below.setCell ?_ ?_ _ | with_reducible refine Below.alloc ?_ ?_ _ | with_reducible refine Below.grow _ _ _ ?_ ?_ | omega | (simp; done) | (simp; omega)))))
        have hMc : M.length ≤ c := by omega
        have hw2 : IntKind.i64.wrap (M.length : Int) = (M.length : Int) := by unfold IntKind.wrap; simp [IntKind.signed, IntKind.bits]; omega
        refine wpAny_S (fun w' => w'.cell? ⟨W0.heap.size + ext7.size + 1 + ext8.size, 4, none⟩ = some (.slice la3 M.length lc3)) (fun i => false) (by (try dsimp only); go_simp) (fun hHeld => ?_)
        (refine wpE_takeP (i := 0) (v := ?gV2_1) (by simp only [List.getElem?_toArray]; rfl) (by kernel_rfl) (by kernel_rfl) (by kernel_rfl) (by rfl) (fun _ _ _ h => h) (Or.inl ⟨by rfl, ?gY2_1⟩) (by assumption) ?gR2_1; case gY2_1 => (intro w hSw; (try dsimp only at hSw); go_simp <;> with_reducible rfl))
        try simp only [Act.put, List.setIfInBounds_toArray, List.set_cons_zero, List.set_cons_succ]
        (refine wpE_takeP (i := 1) (v := ?gV2_2) (by simp only [List.getElem?_toArray]; rfl) (by kernel_rfl) (by kernel_rfl) (by kernel_rfl) (by rfl) (fun _ _ _ h => h) (Or.inl ⟨by rfl, ?gY2_2⟩) (by assumption) ?gR2_2; case gY2_2 => (intro w hSw; (try dsimp only at hSw); go_simp <;> with_reducible rfl))
        try simp only [Act.put, List.setIfInBounds_toArray, List.set_cons_zero, List.set_cons_succ]
        (refine wpE_take (i := 2) (v := ?gV2_3) (by simp only [List.getElem?_toArray]; rfl) (by kernel_rfl) (by kernel_rfl) (by kernel_rfl) (by kernel_rfl) (by kernel_rfl) (by rfl) (fun _ _ _ h => h) (Or.inl ⟨by rfl, ?gY2_3⟩) (by assumption) ?gR2_3; case gY2_3 => (intro w hSw; (try dsimp only at hSw); go_simp <;> with_reducible rfl))
        try simp only [Act.put, List.setIfInBounds_toArray, List.set_cons_zero, List.set_cons_succ]
        (refine wpE_takeP (i := 3) (v := ?gV2_4) (by simp only [List.getElem?_toArray]; rfl) (by kernel_rfl) (by kernel_rfl) (by kernel_rfl) (by rfl) (fun _ _ _ h => h) (Or.inl ⟨by rfl, ?gY2_4⟩) (by assumption) ?gR2_4; case gY2_4 => (intro w hSw; (try dsimp only at hSw); go_simp <;> with_reducible rfl))
        try simp only [Act.put, List.setIfInBounds_toArray, List.set_cons_zero, List.set_cons_succ]
        (refine wpE_takeP (i := 4) (v := ?gV2_5) (by simp only [List.getElem?_toArray]; rfl) (by kernel_rfl) (by kernel_rfl) (by kernel_rfl) (by rfl) (fun _ _ _ h => h) (Or.inl ⟨by rfl, ?gY2_5⟩) (by assumption) ?gR2_5; case gY2_5 => (intro w hSw; (try dsimp only at hSw); go_simp <;> with_reducible rfl))
        try simp only [Act.put, List.setIfInBounds_toArray, List.set_cons_zero, List.set_cons_succ]
        (refine wpE_takeP (i := 5) (v := ?gV2_6) (by simp only [List.getElem?_toArray]; rfl) (by kernel_rfl) (by kernel_rfl) (by kernel_rfl) (by rfl) (fun _ _ _ h => h) (Or.inl ⟨by rfl, ?gY2_6⟩) (by assumption) ?gR2_6; case gY2_6 => (intro w hSw; (try dsimp only at hSw); go_simp <;> with_reducible rfl))
        try simp only [Act.put, List.setIfInBounds_toArray, List.set_cons_zero, List.set_cons_succ]
        (refine wpE_takeP (i := 6) (v := ?gV2_7) (by simp only [List.getElem?_toArray]; rfl) (by kernel_rfl) (by kernel_rfl) (by kernel_rfl) (by rfl) (fun _ _ _ h => h) (Or.inl ⟨by rfl, ?gY2_7⟩) (by assumption) ?gR2_7; case gY2_7 => (intro w hSw; (try dsimp only at hSw); go_simp <;> with_reducible rfl))
        try simp only [Act.put, List.setIfInBounds_toArray, List.set_cons_zero, List.set_cons_succ]
        (refine wpE_takeP (i := 7) (v := ?gV2_8) (by simp only [List.getElem?_toArray]; rfl) (by kernel_rfl) (by kernel_rfl) (by kernel_rfl) (by rfl) (fun _ _ _ h => h) (Or.inl ⟨by rfl, ?gY2_8⟩) (by assumption) ?gR2_8; case gY2_8 => (intro w hSw; (try dsimp only at hSw); go_simp <;> with_reducible rfl))
        try simp only [Act.put, List.setIfInBounds_toArray, List.set_cons_zero, List.set_cons_succ]
        refine wpE_ready (rs := [8]) (by kernel_rfl) (by simp) ?_
        refine AllE.cons (by simp only [List.getElem?_toArray]; rfl) (fun K hK => ?_) AllE.nil
        go_simp
        (go_at_call 12; (with_reducible refine (HSL2.out _ (.slice la3 M.length lc3) _ (h5W.out.below (by repeat (first | with_reducible exact Below.refl _ _ | with_reducible assumption | with_reducible exact below_d1 _ _ _ _ _ | with_reducible exact below_d2 _ _ _ _ _ _ _ _ | with_reducible exact below_d3 _ _ _ _ _ | with_reducible exact below_d4 _ _ _ _ _ _ _ _ | with_reducible exact below_d5 _ _ | with_reducible refine Below.drew ?_ | with_reducible refine Below.drewN' ?_ _ | with_reducible refine below_grow0 _ _ ?_ | with_reducible refine below_alloc0 _ ?_ | with_reducible refine Below.setCell ?_ ?_ _ | with_reducible refine Below.alloc ?_ ?_ _ | with_reducible refine Below.grow _ _ _ ?_ ?_ | omega | (simp; done) | (simp; omega)))) (smW.out.below (by repeat (first | with_reducible exact Below.refl _ _ | with_reducible assumption | with_reducible exact below_d1 _ _ _ _ _ | with_reducible exact below_d2 _ _ _ _ _ _ _ _ | with_reducible exact below_d3 _ _ _ _ _ | with_reducible exact below_d4 _ _ _ _ _ _ _ _ | with_reducible exact below_d5 _ _ | with_reducible refine Below.drew ?_ | with_reducible refine Below.drewN' ?_ _ | with_reducible refine below_grow0 _ _ ?_ | with_reducible refine below_alloc0 _ ?_ | with_reducible refine Below.setCell ?_ ?_ _ | with_reducible refine Below.alloc ?_ ?_ _ | with_reducible refine Below.grow _ _ _ ?_ ?_ | omega | (simp; done) | (simp; omega))))).mono ?_); rintro e w6 ⟨rfl, hb6⟩; obtain ⟨ext11, d11, rfl⟩ := Below.grown_eq _ hb6; clear hb6; have hWW := hW.out; subst hWW)
        refine hK.out _ _ ?gT2_9 (fun hHeld => ?_)
        case gT2_9 => ((try dsimp only); go_simp)
        clear hK K
        try simp only [Act.put, List.setIfInBounds_toArray, List.set_cons_zero, List.set_cons_succ]
        (refine wpE_takeP (i := 9) (v := ?gV2_10) (by simp only [List.getElem?_toArray]; rfl) (by kernel_rfl) (by kernel_rfl) (by kernel_rfl) (by rfl) (fun _ _ _ h => h) (Or.inl ⟨by rfl, ?gY2_10⟩) (by assumption) ?gR2_10; case gY2_10 => (intro w hSw; (try dsimp only at hSw); go_simp <;> with_reducible rfl))
        try simp only [Act.put, List.setIfInBounds_toArray, List.set_cons_zero, List.set_cons_succ]
        refine wpE_done (by kernel_rfl) ?_ _
        refine NoPanic.normal ?_
        go_wp2_with fail
        go_ret
        exact ⟨rfl, (by repeat (first | with_reducible exact Below.refl _ _ | with_reducible assumption | with_reducible exact below_d1 _ _ _ _ _ | with_reducible exact below_d2 _ _ _ _ _ _ _ _ | with_reducible exact below_d3 _ _ _ _ _ | with_reducible exact below_d4 _ _ _ _ _ _ _ _ | with_reducible exact below_d5 _ _ | with_reducible refine Below.drew ?_ | with_reducible refine Below.drewN' ?_ _ | with_reducible refine below_grow0 _ _ ?_ | with_reducible refine below_alloc0 _ ?_ | with_reducible refine Below.setCell ?_ ?_ _ | with_reducible refine Below.alloc ?_ ?_ _ | with_reducible refine Below.grow _ _ _ ?_ ?_ | omega | (simp; done) | (simp; omega)))⟩
namespace storeTorn
theorem own : ownKnob Tryd.prog.godebug = none := by kernel_rfl
theorem laidOut : laidOutB Tryd.prog = true := by kernel_rfl
set_option maxRecDepth 100000 in
set_option maxHeartbeats 1000000 in
theorem lifted (os : Os) (started : os.Started) (H : Type) (enc : TypeId × Value → H) :
    ReturnsInHanded {} Tryd.checked os 4 .any (fun w args => (Rows.storeTornSpec.pre enc Tryd.prog Tryd.f4 Rows.storeTornRow.domain false w args ∧ laidMetH Tryd.prog Rows.storeTornRow.laid w) ∧ sizedMet enc Tryd.prog Tryd.f4 (OpenSpec.ofChange Rows.storeTornSpec) false w args) (Rows.storeTornSpec.post enc Tryd.prog Tryd.f4 false true false false) := by
  refine returnsInHanded_of_change_and (C := Tryd.checked) (X := fun w _ => laidMetH Tryd.prog Rows.storeTornRow.laid w) (fun _ _ _ hh h => h.of_heap hh) own started (by kernel_rfl) Tryd.func4
    (ChangeSpec.witness_shaped (enc := enc) (C := Tryd.checked) (os := os) (X := fun w _ => laidMetH Tryd.prog Rows.storeTornRow.laid w) false (World.laidAll Tryd.prog os Rows.storeTornRow.laid) #[.slice none 0 0, .agg #[.int .i64 0, .int .i64 0, .int .i64 0, .string ByteArray.empty, .string ByteArray.empty, .int .i64 0, .int .i64 0], .int .i64 0] 8 (World.laidAll_os _ _ _)
      (World.shaped_of_ZipB (by kernel_rfl) (by kernel_rfl)) (by kernel_rfl) (by kernel_rfl) (by kernel_rfl)
      (by rw [MakeChecks.laidMetH_plain _ _ _ (by kernel_rfl)]; exact laidMet_laidAll _ (by kernel_rfl) (by kernel_rfl))) ?_
  intro W base args ds gs before hval0 hW0 _ hsz0 hL _
  have hval : ∀ (j : Nat) t v, Tryd.f4.params[j]? = some t → args[j]? = some v → Value.okWide Tryd.prog W .any base t v := hval0
  have hW : DataW.Whole enc Tryd.prog Tryd.f4.params.toList Rows.storeTornSpec.vars false W args.toList ds gs before := hW0
  have hlt : ∀ p ∈ before, p.block < W.heap.size := fun p hp => hW.lt p hp
  have hW1 := hW
  obtain ⟨p, q, hA0, hV, rfl, hfz, hnd⟩ := hW1
  have hA : DataW.TrodAll enc Tryd.prog W 0 (fun _ => true) true Tryd.f4.params.toList args.toList ds p := hA0
  obtain ⟨rfl, rfl⟩ := trodVars_none hV
  rw [Tryd.params4] at hA hval
  obtain ⟨v0, vs0, d0, ds0, p0, q0, hargs, rfl, rfl, h0, r0⟩ := trodAll_cons hA
  obtain ⟨v1, vs1, d1, ds1, p1, q1, rfl, rfl, rfl, h1, r1⟩ := trodAll_cons r0
  obtain ⟨v2, vs2, d2, ds2, p2, q2, rfl, rfl, rfl, h2, r2⟩ := trodAll_cons r1
  obtain ⟨rfl, rfl, rfl⟩ := trodAll_nil r2
  obtain rfl : args = #[v0, v1, v2] := by cases args; simp_all
  have hsz : (DataW.weightsEach Tryd.prog [22, 47, 3] [d0, d1, d2]).all (· ≤ reachBytes) = true := hsz0
  have close : ∀ e W', (e = Ending.returned (.bool true) ∧ Below W.heap.size W W') → ∃ v, e = .returned v ∧ Rows.storeTornSpec.post enc Tryd.prog Tryd.f4 false true false false W #[v0, v1, v2] v W' :=
    fun e W' ⟨he, hb⟩ => ⟨_, he, law_post laidOut (of_decide_eq_true (by kernel_rfl)) rfl rfl Tryd.underlying4 hW rfl hb⟩
  clear hA0 hsz0 hval0 hW0 hA hV hW hfz hnd
  obtain ⟨xs0, hr0, hf0, els0, sp0, he0⟩ := open_rows (ks := [.i .i64, .i .i64, .i .i64, .s, .s, .i .i64, .i .i64]) 9 Tryd.underlying22 (by kernel_rfl) (hval 0 22 v0 rfl rfl) h0 (fun x hx => hlt x (by simp [hx])) (by decide)
  have rb0 : xs0.length * 72 ≤ 140737488351232 := by
    rcases he0 with ⟨_, rfl⟩ | ⟨hd, hl⟩
    · simp
    · rw [hd] at hsz
      have := sized_slice hsz (j := 0) rfl rfl Tryd.underlying22
      rw [show Tryd.prog.bytesOf 47 = 72 from by kernel_rfl] at this
      simp only [reachBytes] at this
      rw [hl] at this
      exact Nat.le_trans (Nat.mul_le_mul_right _ (Nat.le_add_right _ _)) this
  obtain ⟨cs1, rfl, hf1⟩ := open_flat (ks := [.i .i64, .i .i64, .i .i64, .s, .s, .i .i64, .i .i64]) 9 Tryd.underlying47 (by kernel_rfl) (hval 1 47 v1 rfl rfl) h1
  obtain ⟨a2, rfl, hd2, _, wf2⟩ := open_int Tryd.underlying3 (hval 2 3 v2 rfl rfl) h2
  obtain ⟨l, rfl, hlo⟩ := typed (fun x hx => fitsTxn (hf0 x hx))
  have hs : Sl cTxn 7 W v0 l := hr0
  obtain ⟨x, hx, hxo⟩ := fitsTxn hf1
  subst hx
  simp only [List.length_map] at rb0
  exact (storeTorn_ok v0 l x a2 W hs (fun t ht => by have := (hlo t ht).2.2.2.1; simpa [maxLen] using this) rb0 (by have := hxo.2.2.2.1; simpa [maxLen] using this)).mono close
theorem proved : Rows.StoreTornSaid :=
  OpenClaim.holds_of_wide 4 Tryd.f4 rfl rfl rfl rfl rfl rfl rfl ⟨rfl, rfl, rfl, rfl, rfl⟩ rfl rfl rfl rfl rfl (by kernel_rfl) Tryd.func4 (by kernel_rfl)
    (of_decide_eq_true (by kernel_rfl)) (by unfold Func.isWrapper; first | (rw [if_pos (by decide +kernel)]; kernel_rfl) | (rw [if_neg (by decide +kernel)]; exact ⟨rfl, rfl⟩))
    (fun os started H enc _ => lifted os started H enc)
theorem card : Rows.StoreTornCardSaid :=
  Claim7.holds_tied_plain_at .later [] Rows.storeTornCard.laidKinds true Rows.storeTornCard.stood.harness false
    proved (fun _ h => by cases h) (by kernel_rfl) (fun _ h => by cases h) storeTorn_row_tie rfl ⟨rfl, rfl⟩ (by kernel_rfl) rfl
    (fun f fn hf hfn => by
      obtain rfl : f = 4 := Option.some.inj ((show Tryd.prog.funcNamed "aviary/aviarykeep.StoreTorn" = some 4 by kernel_rfl).symm.trans hf) |>.symm
      obtain rfl : fn = Tryd.f4 := (Option.some.inj (Tryd.func4.symm.trans hfn)).symm
      exact ⟨by kernel_rfl, fun j t ht => by
        rw [Tryd.params4] at ht
        have hm : t ∈ [22, 47, 3] := by simpa using Array.mem_of_getElem? ht
        have hall : ([22, 47, 3].all fun u => !Tryd.prog.wantsStandIn u) = true := by kernel_rfl
        exact (show Tryd.prog.wantsStandIn t = false by simpa using List.all_eq_true.1 hall t hm)⟩)
    (by kernel_rfl)
end storeTorn
end Go.Proofs.YtkoemhdchoicaaaDoor
