/- The law StoreSafe is true for every input; no conditions. -/
import Derived.Test.YtkoemhdchoicaaaDoorCards
import Derived.Test.YtkoemhdchoicaaaDoorTie
import Derived.Lay
import Derived.LaidMore
import Derived.SevenTiedAt
import Derived.Test.YtkoemhdchoicaaaDoorPt1
import Derived.Test.YtkoemhdchoicaaaDoorPt2
import Derived.Test.YtkoemhdchoicaaaDoorPt3
import Derived.Test.YtkoemhdchoicaaaDoorPt4
import Derived.Test.YtkoemhdchoicaaaDoorPt5
import Derived.Test.YtkoemhdchoicaaaDoorPt6
import Derived.Test.YtkoemhdchoicaaaDoorPt7
import Derived.Test.YtkoemhdchoicaaaDoorPt8
import Derived.Test.YtkoemhdchoicaaaDoorPt9
namespace Go.Proofs.YtkoemhdchoicaaaDoor
open Go.RowKit Go.ChangeShapes Go.WideShapes Go.ChangeAt
theorem crash_logF {m : List Txn} (h : (recs m).length ≤ 42271) (n : Nat) : crashE (logF m) n = 0 ∧ crashL (logF m) n = logF m := by
  have hz : (bS (recs m)).size + noB.size ≤ 1048576 := by rw [bS_size]; show _ + 0 ≤ _; omega
  have := one_crash hz n
  refine ⟨this.1, this.2.trans ?_⟩
  have e : noB.extract 0 (min n noB.size) = noB := ByteArray.ext (by simp)
  rw [e]
  have e2 : bS (recs m) ++ noB = bS (recs m) := by
    apply bs_inj
    rw [bs_append]
    exact List.append_nil _
  rw [e2]
theorem boot_logF {id : Int} {m : List Txn} (hm : LogOk m) (hz : (recs m).length ≤ 42271) {s : Srv} {c : Int} (h : BootIs id (logF m) s c) : c = 0 ∧ s = fillS id m := by
  obtain ⟨L, f', hr, hc⟩ := h
  obtain ⟨rfl, rfl, rfl⟩ := rec_one hm (S := bS (recs m)) (T := noB) (rest := []) (by rw [bS_size]; show _ + 0 ≤ _; omega) (by rw [bS_add]; rfl) (noNext_nil _) hr
  rcases hc with ⟨_, hs⟩ | ⟨h, _⟩
  · rw [epoch_log] at hs
    exact ⟨rfl, hs⟩
  · exact absurd rfl h
abbrev vDown (id : Int) (v : SrvV) : Value := .agg #[.bool false, .slice v.da 1 v.dc, .int .i64 id, .int .i64 0, .slice v.la 0 v.lc, .int .i64 0, .int .i64 0, .slice v.na 1 v.nc, .slice v.sa 0 v.sc, .slice v.wa 0 v.wc]
def DownRes (m : List Txn) (w : World) (e : Ending) (w' : World) : Prop := ∃ da dc la lc na nc sa sc wa wc, e = .returned (.tuple #[vDown 0 ⟨da, dc, la, lc, na, nc, sa, sc, wa, wc⟩, .int .i64 0]) ∧ SlA (fun q => q < w.heap.size) cFile 3 w' (.slice da 1 dc) (logF m) ∧ Below w.heap.size w w'
theorem crash_fill (m : List Txn) (p' : Nat → Prop) (v : SrvV) (n : Nat) (w : World) (h : SrvIn p' w (fillS 0 m) v) (hm : LogOk m) (hn : m.length ≤ 41) :
    Calls Tryd.prog 9 #[vFill 0 m.length v, .int .i64 n] w (DownRes m w) := by
  have hz := recs_small hm hn
  have h1 := storeCrash (fun q => q < w.heap.size) p' (fillS 0 m) v n w h (fun q h => h) (logF_sized _ hz)
  have h2 := crash_logF hz n
  unfold crashS at h1
  simp only at h1
  rw [h2.1, h2.2, if_pos rfl] at h1
  refine h1.mono fun e w' hh => ?_
  obtain ⟨⟨da, dc, la, lc, na, nc, sa, sc, wa, wc⟩, he, h3, h4⟩ := hh
  exact ⟨da, dc, la, lc, na, nc, sa, sc, wa, wc, he, h3.disk, h4⟩
def UpRes (id : Int) (m : List Txn) (w : World) (e : Ending) (w' : World) : Prop := ∃ da dc la lc na nc sa sc wa wc, e = .returned (.tuple #[vFill id m.length ⟨da, dc, la, lc, na, nc, sa, sc, wa, wc⟩, .int .i64 0]) ∧ SrvIn (fun q => q < w.heap.size) w' (fillS id m) ⟨da, dc, la, lc, na, nc, sa, sc, wa, wc⟩ ∧ Below w.heap.size w w'
theorem boot_fill (id : Int) (m : List Txn) (v : Value) (w : World) (h : Sl cFile 3 w v (logF m)) (hm : LogOk m) (hn : m.length ≤ 41) (h0 : 0 ≤ id) (h3 : id < 3) :
    Calls Tryd.prog 11 #[.int .i64 id, .agg #[v]] w (UpRes id m w) := by
  refine (storeBoot (fun q => q < w.heap.size) id v (logF m) w h (fun q h => h) (logF_sized _ (recs_small hm hn)) h0 h3).mono fun e w' hh => ?_
  obtain ⟨s, c, hb, ⟨da, dc, la, lc, na, nc, sa, sc, wa, wc⟩, he, h2, h3⟩ := hh
  obtain ⟨rfl, rfl⟩ := boot_logF hm (recs_small hm hn) hb
  exact ⟨da, dc, la, lc, na, nc, sa, sc, wa, wc, he, h2, h3⟩
set_option maxRecDepth 100000 in
set_option maxHeartbeats 4000000 in
theorem storeSafe_ok (v : Value) (l : List Txn) (keep : Int) (w : World) (h : Sl cTxn 7 w v l) (hz : ∀ t ∈ l, t.path.size ≤ 9223372036854775807) :
    Calls Tryd.prog 3 #[v, .int .i64 keep] w fun e w' => e = .returned (.bool true) ∧ Below w.heap.size w w' := by
  obtain ⟨A0, c0, rfl, hc1, hc2⟩ := h.form
  have H := Lib.hid h
  have HT := Lib.hid (fun (W : World) (v : Value) (h : Sl cTxn 7 W v l) => taken_any v l W h hz)
  have HF := Lib.hid @filled_is
  have HC := Lib.hid @crash_fill
  have HU := Lib.hid @boot_fill
  have HBS := Lib.hid boots_is
  have HP := Lib.hid (fun (W : World) => pickw_is keep 100 W (by decide) (by decide))
  clear h hz
  go_enter Tryd.func3, Tryd.ntmps3
  go_upto_region 2 with ((go_at_call 6; refine (HT.out _ _ (H.out.below (by repeat (first | with_reducible exact Below.refl _ _ | with_reducible assumption | with_reducible exact below_d1 _ _ _ _ _ | with_reducible exact below_d2 _ _ _ _ _ _ _ _ | with_reducible exact below_d3 _ _ _ _ _ | with_reducible exact below_d4 _ _ _ _ _ _ _ _ | with_reducible exact below_d5 _ _ | with_reducible refine Below.drew ?_ | with_reducible refine Below.drewN' ?_ _ | with_reducible refine below_grow0 _ _ ?_ | with_reducible refine below_alloc0 _ ?_ | with_reducible refine Below.setCell ?_ ?_ _ | with_reducible refine Below.alloc ?_ ?_ _ | with_reducible refine Below.grow _ _ _ ?_ ?_ | omega | (simp; done) | (simp; omega))))).mono ?_; rintro e w1 ⟨A, c, m, rfl, hok, h40, ho, hb⟩; obtain ⟨ext1, d1, rfl⟩ := Below.grown_eq _ hb; have HOK := Lib.hid hok; have HM := Lib.hid ho; clear ho hb hok HT))
  replace HF := Lib.hid (fun (W : World) (v : Value) (h : Sl cTxn 7 W v m) => (HF.out (fun q => q < W.heap.size) v m W h (fun q h => h) HOK.out (by omega)).mono (fun e w' hh => show ∃ da dc la lc na nc sa sc wa wc, e = .returned (.tuple #[vFill 0 m.length ⟨da, dc, la, lc, na, nc, sa, sc, wa, wc⟩, .bool true]) ∧ SrvIn (fun q => q < W.heap.size) w' (fillS 0 m) ⟨da, dc, la, lc, na, nc, sa, sc, wa, wc⟩ ∧ Below W.heap.size W w' from by
    obtain ⟨⟨da, dc, la, lc, na, nc, sa, sc, wa, wc⟩, he, h2, h3⟩ := hh
    exact ⟨da, dc, la, lc, na, nc, sa, sc, wa, wc, he, h2, h3⟩))
  replace HC := Lib.hid (fun (p' : Nat → Prop) (v : SrvV) (n : Nat) (W : World) (h : SrvIn p' W (fillS 0 m) v) => HC.out m p' v n W h HOK.out.1 (by omega))
  replace HU := Lib.hid (fun (v : Value) (W : World) (h : Sl cFile 3 W v (logF m)) => HU.out 2 m v W h HOK.out.1 (by omega) (by decide) (by decide))
  have HSL := Lib.hid (fun (W : World) (v v2 : Value) (h : Sl cTxn 7 W v m) (h2 : Sl cTxn 7 W v2 m) => sameLog_eq v v2 m W h h2 (by omega))
  unfold UpRes at HU
  generalize hn : m.length = n at *
  have HN := Lib.hid hn
  clear hn
  go_upto_region 5 with (first | (go_at_call 7; refine (HF.out _ _ (HM.out.below (by repeat (first | with_reducible exact Below.refl _ _ | with_reducible assumption | with_reducible exact below_d1 _ _ _ _ _ | with_reducible exact below_d2 _ _ _ _ _ _ _ _ | with_reducible exact below_d3 _ _ _ _ _ | with_reducible exact below_d4 _ _ _ _ _ _ _ _ | with_reducible exact below_d5 _ _ | with_reducible refine Below.drew ?_ | with_reducible refine Below.drewN' ?_ _ | with_reducible refine below_grow0 _ _ ?_ | with_reducible refine below_alloc0 _ ?_ | with_reducible refine Below.setCell ?_ ?_ _ | with_reducible refine Below.alloc ?_ ?_ _ | with_reducible refine Below.grow _ _ _ ?_ ?_ | omega | (simp; done) | (simp; omega))))).mono ?_; rintro e w1 ⟨da, dc, la, lc, na, nc, sa, sc, wa, wc, rfl, h1, hb1⟩; obtain ⟨ext2, d2, rfl⟩ := Below.grown_eq _ hb1; have HS := Lib.hid h1; clear h1 hb1 HF) | (go_at_call 8; refine (HBS.out _).mono ?_; rintro e w2 ⟨rfl, hb2⟩; obtain ⟨ext3, d3, rfl⟩ := Below.grown_eq _ hb2; clear hb2))
  refine wp_region_noPanic ?_
  refine wp_region_W (by kernel_rfl) (fun W hW => ?_)
  have cl0 : W.cell? ⟨w.heap.size + ext1.size + ext2.size, 0, none⟩ = some (.bool true) := by rw [hW.out]; go_simp
  have cl1 : W.cell? ⟨w.heap.size + ext1.size + ext2.size, 1, none⟩ = some (.slice da 1 dc) := by rw [hW.out]; go_simp
  have cl2 : W.cell? ⟨w.heap.size + ext1.size + ext2.size, 2, none⟩ = some (.int .i64 0) := by rw [hW.out]; go_simp
  have cl3 : W.cell? ⟨w.heap.size + ext1.size + ext2.size, 3, none⟩ = some (.int .i64 0) := by rw [hW.out]; go_simp
  have cl4 : W.cell? ⟨w.heap.size + ext1.size + ext2.size, 4, none⟩ = some (.slice la n lc) := by rw [hW.out]; go_simp
  have cl5 : W.cell? ⟨w.heap.size + ext1.size + ext2.size, 5, none⟩ = some (.int .i64 0) := by rw [hW.out]; go_simp
  have cl6 : W.cell? ⟨w.heap.size + ext1.size + ext2.size, 6, none⟩ = some (.int .i64 0) := by rw [hW.out]; go_simp
  have cl7 : W.cell? ⟨w.heap.size + ext1.size + ext2.size, 7, none⟩ = some (.slice na 1 nc) := by rw [hW.out]; go_simp
  have cl8 : W.cell? ⟨w.heap.size + ext1.size + ext2.size, 8, none⟩ = some (.slice sa 0 sc) := by rw [hW.out]; go_simp
  have cl9 : W.cell? ⟨w.heap.size + ext1.size + ext2.size, 9, none⟩ = some (.slice wa 0 wc) := by rw [hW.out]; go_simp
  have hsW := Lib.hid (HS.out.below (w' := W) (by rw [hW.out]; exact (by repeat (first | with_reducible exact Below.refl _ _ | with_reducible assumption | with_reducible exact below_d1 _ _ _ _ _ | with_reducible exact below_d2 _ _ _ _ _ _ _ _ | with_reducible exact below_d3 _ _ _ _ _ | with_reducible exact below_d4 _ _ _ _ _ _ _ _ | with_reducible exact below_d5 _ _ | with_reducible refine Below.drew ?_ | with_reducible refine Below.drewN' ?_ _ | with_reducible refine below_grow0 _ _ ?_ | with_reducible refine below_alloc0 _ ?_ | with_reducible refine Below.setCell ?_ ?_ _ | with_reducible refine Below.alloc ?_ ?_ _ | with_reducible refine Below.grow _ _ _ ?_ ?_ | omega | (simp; done) | (simp; omega)))))
  refine wpAny_S (fun w' => w'.cell? ⟨w.heap.size + ext1.size + ext2.size, 0, none⟩ = some (.bool true) ∧ w'.cell? ⟨w.heap.size + ext1.size + ext2.size, 1, none⟩ = some (.slice da 1 dc) ∧ w'.cell? ⟨w.heap.size + ext1.size + ext2.size, 2, none⟩ = some (.int .i64 0) ∧ w'.cell? ⟨w.heap.size + ext1.size + ext2.size, 3, none⟩ = some (.int .i64 0) ∧ w'.cell? ⟨w.heap.size + ext1.size + ext2.size, 4, none⟩ = some (.slice la n lc) ∧ w'.cell? ⟨w.heap.size + ext1.size + ext2.size, 5, none⟩ = some (.int .i64 0) ∧ w'.cell? ⟨w.heap.size + ext1.size + ext2.size, 6, none⟩ = some (.int .i64 0) ∧ w'.cell? ⟨w.heap.size + ext1.size + ext2.size, 7, none⟩ = some (.slice na 1 nc) ∧ w'.cell? ⟨w.heap.size + ext1.size + ext2.size, 8, none⟩ = some (.slice sa 0 sc) ∧ w'.cell? ⟨w.heap.size + ext1.size + ext2.size, 9, none⟩ = some (.slice wa 0 wc)) (fun i => i == 8) (by (try dsimp only); (refine ⟨?_, ?_, ?_, ?_, ?_, ?_, ?_, ?_, ?_, ?_⟩ <;> go_simp)) (fun hHeld => ?_)
  (refine wpE_take (i := 0) (v := ?gV1_1) (by simp only [List.getElem?_toArray]; rfl) (by kernel_rfl) (by kernel_rfl) (by kernel_rfl) (by kernel_rfl) (by kernel_rfl) (by rfl) (fun _ _ _ h => h) (Or.inl ⟨by rfl, ?gY1_1⟩) (by assumption) ?gR1_1; case gY1_1 => (intro w hSw; (try dsimp only at hSw); go_simp <;> with_reducible rfl))
  try simp only [Act.put, List.setIfInBounds_toArray, List.set_cons_zero, List.set_cons_succ]
  (refine wpE_takeP (i := 1) (v := ?gV1_2) (by simp only [List.getElem?_toArray]; rfl) (by kernel_rfl) (by kernel_rfl) (by kernel_rfl) (by rfl) (fun _ _ _ h => h) (Or.inl ⟨by rfl, ?gY1_2⟩) (by assumption) ?gR1_2; case gY1_2 => (intro w hSw; (try dsimp only at hSw); go_simp <;> with_reducible rfl))
  try simp only [Act.put, List.setIfInBounds_toArray, List.set_cons_zero, List.set_cons_succ]
  refine wpE_ready (rs := [2, 7]) (by kernel_rfl) (by simp) ?_
  refine AllE.cons (by simp only [List.getElem?_toArray]; rfl) (fun K hK => ?gO1_3) ?gL1_3
  case gO1_3 =>
    go_simp
    (go_at_call 10; refine (HP.out _).mono ?_; rintro e w3 ⟨f, hf, rfl, rfl⟩)
    refine hK.out _ _ ?gT1_3 (fun hHeld => ?_)
    case gT1_3 => ((try dsimp only); (refine ⟨?_, ?_, ?_, ?_, ?_, ?_, ?_, ?_, ?_, ?_⟩ <;> go_simp))
    clear hK K
    try simp only [Act.put, List.setIfInBounds_toArray, List.set_cons_zero, List.set_cons_succ]
    refine wpE_ready (rs := [3, 7]) (by kernel_rfl) (by simp) ?_
    refine AllE.cons (by simp only [List.getElem?_toArray]; rfl) (fun K hK => ?gO1_4) ?gL1_4
    case gO1_4 =>
      go_simp
      (go_at_call 9; refine (HC.out _ ⟨da, dc, la, lc, na, nc, sa, sc, wa, wc⟩ _ _ (hsW.out.below (by repeat (first | with_reducible exact Below.refl _ _ | with_reducible assumption | with_reducible exact below_d1 _ _ _ _ _ | with_reducible exact below_d2 _ _ _ _ _ _ _ _ | with_reducible exact below_d3 _ _ _ _ _ | with_reducible exact below_d4 _ _ _ _ _ _ _ _ | with_reducible exact below_d5 _ _ | with_reducible refine Below.drew ?_ | with_reducible refine Below.drewN' ?_ _ | with_reducible refine below_grow0 _ _ ?_ | with_reducible refine below_alloc0 _ ?_ | with_reducible refine Below.setCell ?_ ?_ _ | with_reducible refine Below.alloc ?_ ?_ _ | with_reducible refine Below.grow _ _ _ ?_ ?_ | omega | (simp; done) | (simp; omega))))).mono ?_; rintro e w4 ⟨da2, dc2, la2, lc2, na2, nc2, sa2, sc2, wa2, wc2, rfl, h3, hb3⟩; obtain ⟨ext4, d4, rfl⟩ := Below.grown_eq _ hb3; have H3 := Lib.hid h3; clear h3 hb3; have hWW := hW.out; subst hWW)
      refine hK.out _ _ ?gT1_4 (fun hHeld => ?_)
      case gT1_4 => ((try dsimp only); (refine ⟨?_, ?_, ?_, ?_, ?_, ?_, ?_, ?_, ?_, ?_⟩ <;> go_simp))
      clear hK K
      try simp only [Act.put, List.setIfInBounds_toArray, List.set_cons_zero, List.set_cons_succ]
      (refine wpE_takeP (i := 4) (v := ?gV1_5) (by simp only [List.getElem?_toArray]; rfl) (by kernel_rfl) (by kernel_rfl) (by kernel_rfl) (by rfl) (fun _ _ _ h => h) (Or.inl ⟨by rfl, ?gY1_5⟩) (by assumption) ?gR1_5; case gY1_5 => (intro w hSw; (try dsimp only at hSw); go_simp <;> with_reducible rfl))
      try simp only [Act.put, List.setIfInBounds_toArray, List.set_cons_zero, List.set_cons_succ]
      (refine wpE_takeP (i := 5) (v := ?gV1_6) (by simp only [List.getElem?_toArray]; rfl) (by kernel_rfl) (by kernel_rfl) (by kernel_rfl) (by rfl) (fun _ _ _ h => h) (Or.inl ⟨by rfl, ?gY1_6⟩) (by assumption) ?gR1_6; case gY1_6 => (intro w hSw; (try dsimp only at hSw); go_simp <;> with_reducible rfl))
      try simp only [Act.put, List.setIfInBounds_toArray, List.set_cons_zero, List.set_cons_succ]
      (refine wpE_takeP (i := 6) (v := ?gV1_7) (by simp only [List.getElem?_toArray]; rfl) (by kernel_rfl) (by kernel_rfl) (by kernel_rfl) (by rfl) (fun _ _ _ h => h) (Or.inl ⟨by rfl, ?gY1_7⟩) (by assumption) ?gR1_7; case gY1_7 => (intro w hSw; (try dsimp only at hSw); go_simp <;> with_reducible rfl))
      try simp only [Act.put, List.setIfInBounds_toArray, List.set_cons_zero, List.set_cons_succ]
      refine wpE_ready (rs := [7]) (by kernel_rfl) (by simp) ?_
      refine AllE.cons (by simp only [List.getElem?_toArray]; rfl) (fun K hK => ?_) AllE.nil
      go_simp
      refine hK.out _ _ ?gT1_8 (fun hHeld => ?_)
      case gT1_8 => ((try dsimp only); (refine ⟨?_, ?_, ?_, ?_, ?_, ?_, ?_, ?_, ?_, ?_⟩ <;> go_simp))
      clear hK K
      try simp only [Act.put, List.setIfInBounds_toArray, List.set_cons_zero, List.set_cons_succ]
      refine wpE_ready (rs := [8]) (by kernel_rfl) (by simp) ?_
      refine AllE.last (by simp only [List.getElem?_toArray]; rfl) (by kernel_rfl) (fun K hK => ?_) AllE.nil
      go_simp
      refine hK.out _ _ ?_
      clear hK K
      try simp only [Act.put, List.setIfInBounds_toArray, List.set_cons_zero, List.set_cons_succ]
      (refine wpE_takeQ (i := 9) (v := ?gV1_10) (by simp only [List.getElem?_toArray]; rfl) (by kernel_rfl) (by kernel_rfl) (by kernel_rfl) (by rfl) (fun _ _ _ h => h) (Or.inl ⟨by rfl, ?gY1_10⟩) (by kernel_rfl) ?gR1_10; case gY1_10 => (intro w hSw; (try dsimp only at hSw); go_simp <;> with_reducible rfl))
      try simp only [Act.put, List.setIfInBounds_toArray, List.set_cons_zero, List.set_cons_succ]
      refine wpE_done (by kernel_rfl) ?_ _
      refine NoPanic.normal ?_
      go_wp2_with (first | (go_at_call 11; (with_reducible refine (HU.out _ _ ?sl1_10).mono ?_); (case sl1_10 => (first | ((refine SlA.sl_swap H3.out ?_); (repeat (first | with_reducible exact Swap.refl _ _ | with_reducible refine Swap.drew1 ?_ | with_reducible refine Swap.drew2 ?_ | with_reducible refine Swap.drewN1 ?_ | with_reducible refine Swap.drewN2 ?_ | with_reducible refine Swap.grow ?_ _ _ _ | with_reducible refine Swap.alloc ?_ _ | with_reducible refine Swap.new ?_ _ _ ?_ | with_reducible refine Swap.set ?_ _ _ _ ?_ | (simp; done) | (simp; omega))); done) | ((refine SlA.sl_below H3.out ?_); (repeat (first | with_reducible exact Below.refl _ _ | with_reducible assumption | with_reducible exact below_d1 _ _ _ _ _ | with_reducible exact below_d2 _ _ _ _ _ _ _ _ | with_reducible exact below_d3 _ _ _ _ _ | with_reducible exact below_d4 _ _ _ _ _ _ _ _ | with_reducible exact below_d5 _ _ | with_reducible refine Below.drew ?_ | with_reducible refine Below.drewN' ?_ _ | with_reducible refine below_grow0 _ _ ?_ | with_reducible refine below_alloc0 _ ?_ | with_reducible refine Below.setCell ?_ ?_ _ | with_reducible refine Below.alloc ?_ ?_ _ | with_reducible refine Below.grow _ _ _ ?_ ?_ | omega | (simp; done) | (simp; omega))); done))); rintro e w5 ⟨da3, dc3, la3, lc3, na3, nc3, sa3, sc3, wa3, wc3, rfl, h5, hb5⟩; obtain ⟨ext5, d5, rfl⟩ := Below.grown_eq _ hb5; have H5 := Lib.hid h5.log.1; clear h5 hb5) | (go_at_call 12; (with_reducible refine (HSL.out _ (.slice la n lc) _ ?sm1_10 ?sn1_10).mono ?_); (case sm1_10 => (have hq := HS.out.log.1; simp only [HN.out] at hq; exact hq.below (by repeat (first | with_reducible exact Below.refl _ _ | with_reducible assumption | with_reducible exact below_d1 _ _ _ _ _ | with_reducible exact below_d2 _ _ _ _ _ _ _ _ | with_reducible exact below_d3 _ _ _ _ _ | with_reducible exact below_d4 _ _ _ _ _ _ _ _ | with_reducible exact below_d5 _ _ | with_reducible refine Below.drew ?_ | with_reducible refine Below.drewN' ?_ _ | with_reducible refine below_grow0 _ _ ?_ | with_reducible refine below_alloc0 _ ?_ | with_reducible refine Below.setCell ?_ ?_ _ | with_reducible refine Below.alloc ?_ ?_ _ | with_reducible refine Below.grow _ _ _ ?_ ?_ | omega | (simp; done) | (simp; omega))))); (case sn1_10 => exact HM.out.below (by repeat (first | with_reducible exact Below.refl _ _ | with_reducible assumption | with_reducible exact below_d1 _ _ _ _ _ | with_reducible exact below_d2 _ _ _ _ _ _ _ _ | with_reducible exact below_d3 _ _ _ _ _ | with_reducible exact below_d4 _ _ _ _ _ _ _ _ | with_reducible exact below_d5 _ _ | with_reducible refine Below.drew ?_ | with_reducible refine Below.drewN' ?_ _ | with_reducible refine below_grow0 _ _ ?_ | with_reducible refine below_alloc0 _ ?_ | with_reducible refine Below.setCell ?_ ?_ _ | with_reducible refine Below.alloc ?_ ?_ _ | with_reducible refine Below.grow _ _ _ ?_ ?_ | omega | (simp; done) | (simp; omega)))); rintro e w6 ⟨rfl, hb6⟩; obtain ⟨ext6, d6, rfl⟩ := Below.grown_eq _ hb6; clear hb6) | (go_at_call 12; (with_reducible refine (HSL.out _ (.slice la3 n lc3) _ ?so1_10 ?sp1_10).mono ?_); (case so1_10 => (have hq := H5.out; simp only [HN.out] at hq; exact hq.below (by repeat (first | with_reducible exact Below.refl _ _ | with_reducible assumption | with_reducible exact below_d1 _ _ _ _ _ | with_reducible exact below_d2 _ _ _ _ _ _ _ _ | with_reducible exact below_d3 _ _ _ _ _ | with_reducible exact below_d4 _ _ _ _ _ _ _ _ | with_reducible exact below_d5 _ _ | with_reducible refine Below.drew ?_ | with_reducible refine Below.drewN' ?_ _ | with_reducible refine below_grow0 _ _ ?_ | with_reducible refine below_alloc0 _ ?_ | with_reducible refine Below.setCell ?_ ?_ _ | with_reducible refine Below.alloc ?_ ?_ _ | with_reducible refine Below.grow _ _ _ ?_ ?_ | omega | (simp; done) | (simp; omega))))); (case sp1_10 => exact HM.out.below (by repeat (first | with_reducible exact Below.refl _ _ | with_reducible assumption | with_reducible exact below_d1 _ _ _ _ _ | with_reducible exact below_d2 _ _ _ _ _ _ _ _ | with_reducible exact below_d3 _ _ _ _ _ | with_reducible exact below_d4 _ _ _ _ _ _ _ _ | with_reducible exact below_d5 _ _ | with_reducible refine Below.drew ?_ | with_reducible refine Below.drewN' ?_ _ | with_reducible refine below_grow0 _ _ ?_ | with_reducible refine below_alloc0 _ ?_ | with_reducible refine Below.setCell ?_ ?_ _ | with_reducible refine Below.alloc ?_ ?_ _ | with_reducible refine Below.grow _ _ _ ?_ ?_ | omega | (simp; done) | (simp; omega)))); rintro e w6 ⟨rfl, hb6⟩; obtain ⟨ext7, d7, rfl⟩ := Below.grown_eq _ hb6; clear hb6))
      go_ret
      exact ⟨rfl, (by repeat (first | with_reducible exact Below.refl _ _ | with_reducible assumption | with_reducible exact below_d1 _ _ _ _ _ | with_reducible exact below_d2 _ _ _ _ _ _ _ _ | with_reducible exact below_d3 _ _ _ _ _ | with_reducible exact below_d4 _ _ _ _ _ _ _ _ | with_reducible exact below_d5 _ _ | with_reducible refine Below.drew ?_ | with_reducible refine Below.drewN' ?_ _ | with_reducible refine below_grow0 _ _ ?_ | with_reducible refine below_alloc0 _ ?_ | with_reducible refine Below.setCell ?_ ?_ _ | with_reducible refine Below.alloc ?_ ?_ _ | with_reducible refine Below.grow _ _ _ ?_ ?_ | omega | (simp; done) | (simp; omega)))⟩
    refine AllE.cons (by simp only [List.getElem?_toArray]; rfl) (fun K hK => ?gO1_11) ?gL1_11
    case gO1_11 =>
      go_simp
      refine hK.out _ _ ?gT1_11 (fun hHeld => ?_)
      case gT1_11 => ((try dsimp only); (refine ⟨?_, ?_, ?_, ?_, ?_, ?_, ?_, ?_, ?_, ?_⟩ <;> go_simp))
      clear hK K
      try simp only [Act.put, List.setIfInBounds_toArray, List.set_cons_zero, List.set_cons_succ]
      refine wpE_ready (rs := [3]) (by kernel_rfl) (by simp) ?_
      refine AllE.cons (by simp only [List.getElem?_toArray]; rfl) (fun K hK => ?_) AllE.nil
      go_simp
      (go_at_call 9; refine (HC.out _ ⟨da, dc, la, lc, na, nc, sa, sc, wa, wc⟩ _ _ (hsW.out.below (by repeat (first | with_reducible exact Below.refl _ _ | with_reducible assumption | with_reducible exact below_d1 _ _ _ _ _ | with_reducible exact below_d2 _ _ _ _ _ _ _ _ | with_reducible exact below_d3 _ _ _ _ _ | with_reducible exact below_d4 _ _ _ _ _ _ _ _ | with_reducible exact below_d5 _ _ | with_reducible refine Below.drew ?_ | with_reducible refine Below.drewN' ?_ _ | with_reducible refine below_grow0 _ _ ?_ | with_reducible refine below_alloc0 _ ?_ | with_reducible refine Below.setCell ?_ ?_ _ | with_reducible refine Below.alloc ?_ ?_ _ | with_reducible refine Below.grow _ _ _ ?_ ?_ | omega | (simp; done) | (simp; omega))))).mono ?_; rintro e w4 ⟨da2, dc2, la2, lc2, na2, nc2, sa2, sc2, wa2, wc2, rfl, h3, hb3⟩; obtain ⟨ext4, d4, rfl⟩ := Below.grown_eq _ hb3; have H3 := Lib.hid h3; clear h3 hb3; have hWW := hW.out; subst hWW)
      refine hK.out _ _ ?gT1_12 (fun hHeld => ?_)
      case gT1_12 => ((try dsimp only); (refine ⟨?_, ?_, ?_, ?_, ?_, ?_, ?_, ?_, ?_, ?_⟩ <;> go_simp))
      clear hK K
      try simp only [Act.put, List.setIfInBounds_toArray, List.set_cons_zero, List.set_cons_succ]
      (refine wpE_takeP (i := 4) (v := ?gV1_13) (by simp only [List.getElem?_toArray]; rfl) (by kernel_rfl) (by kernel_rfl) (by kernel_rfl) (by rfl) (fun _ _ _ h => h) (Or.inl ⟨by rfl, ?gY1_13⟩) (by assumption) ?gR1_13; case gY1_13 => (intro w hSw; (try dsimp only at hSw); go_simp <;> with_reducible rfl))
      try simp only [Act.put, List.setIfInBounds_toArray, List.set_cons_zero, List.set_cons_succ]
      (refine wpE_takeP (i := 5) (v := ?gV1_14) (by simp only [List.getElem?_toArray]; rfl) (by kernel_rfl) (by kernel_rfl) (by kernel_rfl) (by rfl) (fun _ _ _ h => h) (Or.inl ⟨by rfl, ?gY1_14⟩) (by assumption) ?gR1_14; case gY1_14 => (intro w hSw; (try dsimp only at hSw); go_simp <;> with_reducible rfl))
      try simp only [Act.put, List.setIfInBounds_toArray, List.set_cons_zero, List.set_cons_succ]
      (refine wpE_takeP (i := 6) (v := ?gV1_15) (by simp only [List.getElem?_toArray]; rfl) (by kernel_rfl) (by kernel_rfl) (by kernel_rfl) (by rfl) (fun _ _ _ h => h) (Or.inl ⟨by rfl, ?gY1_15⟩) (by assumption) ?gR1_15; case gY1_15 => (intro w hSw; (try dsimp only at hSw); go_simp <;> with_reducible rfl))
      try simp only [Act.put, List.setIfInBounds_toArray, List.set_cons_zero, List.set_cons_succ]
      refine wpE_ready (rs := [8]) (by kernel_rfl) (by simp) ?_
      refine AllE.last (by simp only [List.getElem?_toArray]; rfl) (by kernel_rfl) (fun K hK => ?_) AllE.nil
      go_simp
      refine hK.out _ _ ?_
      clear hK K
      try simp only [Act.put, List.setIfInBounds_toArray, List.set_cons_zero, List.set_cons_succ]
      (refine wpE_takeQ (i := 9) (v := ?gV1_17) (by simp only [List.getElem?_toArray]; rfl) (by kernel_rfl) (by kernel_rfl) (by kernel_rfl) (by rfl) (fun _ _ _ h => h) (Or.inl ⟨by rfl, ?gY1_17⟩) (by kernel_rfl) ?gR1_17; case gY1_17 => (intro w hSw; (try dsimp only at hSw); go_simp <;> with_reducible rfl))
      try simp only [Act.put, List.setIfInBounds_toArray, List.set_cons_zero, List.set_cons_succ]
      refine wpE_done (by kernel_rfl) ?_ _
      refine NoPanic.normal ?_
      go_wp2_with (first | (go_at_call 11; (with_reducible refine (HU.out _ _ ?sl1_17).mono ?_); (case sl1_17 => (first | ((refine SlA.sl_swap H3.out ?_); (repeat (first | with_reducible exact Swap.refl _ _ | with_reducible refine Swap.drew1 ?_ | with_reducible refine Swap.drew2 ?_ | with_reducible refine Swap.drewN1 ?_ | with_reducible refine Swap.drewN2 ?_ | with_reducible refine Swap.grow ?_ _ _ _ | with_reducible refine Swap.alloc ?_ _ | with_reducible refine Swap.new ?_ _ _ ?_ | with_reducible refine Swap.set ?_ _ _ _ ?_ | (simp; done) | (simp; omega))); done) | ((refine SlA.sl_below H3.out ?_); (repeat (first | with_reducible exact Below.refl _ _ | with_reducible assumption | with_reducible exact below_d1 _ _ _ _ _ | with_reducible exact below_d2 _ _ _ _ _ _ _ _ | with_reducible exact below_d3 _ _ _ _ _ | with_reducible exact below_d4 _ _ _ _ _ _ _ _ | with_reducible exact below_d5 _ _ | with_reducible refine Below.drew ?_ | with_reducible refine Below.drewN' ?_ _ | with_reducible refine below_grow0 _ _ ?_ | with_reducible refine below_alloc0 _ ?_ | with_reducible refine Below.setCell ?_ ?_ _ | with_reducible refine Below.alloc ?_ ?_ _ | with_reducible refine Below.grow _ _ _ ?_ ?_ | omega | (simp; done) | (simp; omega))); done))); rintro e w5 ⟨da3, dc3, la3, lc3, na3, nc3, sa3, sc3, wa3, wc3, rfl, h5, hb5⟩; obtain ⟨ext5, d5, rfl⟩ := Below.grown_eq _ hb5; have H5 := Lib.hid h5.log.1; clear h5 hb5) | (go_at_call 12; (with_reducible refine (HSL.out _ (.slice la n lc) _ ?sm1_17 ?sn1_17).mono ?_); (case sm1_17 => (have hq := HS.out.log.1; simp only [HN.out] at hq; exact hq.below (by repeat (first | with_reducible exact Below.refl _ _ | with_reducible assumption | with_reducible exact below_d1 _ _ _ _ _ | with_reducible exact below_d2 _ _ _ _ _ _ _ _ | with_reducible exact below_d3 _ _ _ _ _ | with_reducible exact below_d4 _ _ _ _ _ _ _ _ | with_reducible exact below_d5 _ _ | with_reducible refine Below.drew ?_ | with_reducible refine Below.drewN' ?_ _ | with_reducible refine below_grow0 _ _ ?_ | with_reducible refine below_alloc0 _ ?_ | with_reducible refine Below.setCell ?_ ?_ _ | with_reducible refine Below.alloc ?_ ?_ _ | with_reducible refine Below.grow _ _ _ ?_ ?_ | omega | (simp; done) | (simp; omega))))); (case sn1_17 => exact HM.out.below (by repeat (first | with_reducible exact Below.refl _ _ | with_reducible assumption | with_reducible exact below_d1 _ _ _ _ _ | with_reducible exact below_d2 _ _ _ _ _ _ _ _ | with_reducible exact below_d3 _ _ _ _ _ | with_reducible exact below_d4 _ _ _ _ _ _ _ _ | with_reducible exact below_d5 _ _ | with_reducible refine Below.drew ?_ | with_reducible refine Below.drewN' ?_ _ | with_reducible refine below_grow0 _ _ ?_ | with_reducible refine below_alloc0 _ ?_ | with_reducible refine Below.setCell ?_ ?_ _ | with_reducible refine Below.alloc ?_ ?_ _ | with_reducible refine Below.grow _ _ _ ?_ ?_ | omega | (simp; done) | (simp; omega)))); rintro e w6 ⟨rfl, hb6⟩; obtain ⟨ext6, d6, rfl⟩ := Below.grown_eq _ hb6; clear hb6) | (go_at_call 12; (with_reducible refine (HSL.out _ (.slice la3 n lc3) _ ?so1_17 ?sp1_17).mono ?_); (case so1_17 => (have hq := H5.out; simp only [HN.out] at hq; exact hq.below (by repeat (first | with_reducible exact Below.refl _ _ | with_reducible assumption | with_reducible exact below_d1 _ _ _ _ _ | with_reducible exact below_d2 _ _ _ _ _ _ _ _ | with_reducible exact below_d3 _ _ _ _ _ | with_reducible exact below_d4 _ _ _ _ _ _ _ _ | with_reducible exact below_d5 _ _ | with_reducible refine Below.drew ?_ | with_reducible refine Below.drewN' ?_ _ | with_reducible refine below_grow0 _ _ ?_ | with_reducible refine below_alloc0 _ ?_ | with_reducible refine Below.setCell ?_ ?_ _ | with_reducible refine Below.alloc ?_ ?_ _ | with_reducible refine Below.grow _ _ _ ?_ ?_ | omega | (simp; done) | (simp; omega))))); (case sp1_17 => exact HM.out.below (by repeat (first | with_reducible exact Below.refl _ _ | with_reducible assumption | with_reducible exact below_d1 _ _ _ _ _ | with_reducible exact below_d2 _ _ _ _ _ _ _ _ | with_reducible exact below_d3 _ _ _ _ _ | with_reducible exact below_d4 _ _ _ _ _ _ _ _ | with_reducible exact below_d5 _ _ | with_reducible refine Below.drew ?_ | with_reducible refine Below.drewN' ?_ _ | with_reducible refine below_grow0 _ _ ?_ | with_reducible refine below_alloc0 _ ?_ | with_reducible refine Below.setCell ?_ ?_ _ | with_reducible refine Below.alloc ?_ ?_ _ | with_reducible refine Below.grow _ _ _ ?_ ?_ | omega | (simp; done) | (simp; omega)))); rintro e w6 ⟨rfl, hb6⟩; obtain ⟨ext7, d7, rfl⟩ := Below.grown_eq _ hb6; clear hb6))
      go_ret
      exact ⟨rfl, (by repeat (first | with_reducible exact Below.refl _ _ | with_reducible assumption | with_reducible exact below_d1 _ _ _ _ _ | with_reducible exact below_d2 _ _ _ _ _ _ _ _ | with_reducible exact below_d3 _ _ _ _ _ | with_reducible exact below_d4 _ _ _ _ _ _ _ _ | with_reducible exact below_d5 _ _ | with_reducible refine Below.drew ?_ | with_reducible refine Below.drewN' ?_ _ | with_reducible refine below_grow0 _ _ ?_ | with_reducible refine below_alloc0 _ ?_ | with_reducible refine Below.setCell ?_ ?_ _ | with_reducible refine Below.alloc ?_ ?_ _ | with_reducible refine Below.grow _ _ _ ?_ ?_ | omega | (simp; done) | (simp; omega)))⟩
    exact AllE.nil
  refine AllE.cons (by simp only [List.getElem?_toArray]; rfl) (fun K hK => ?gO1_18) ?gL1_18
  case gO1_18 =>
    go_simp
    refine hK.out _ _ ?gT1_18 (fun hHeld => ?_)
    case gT1_18 => ((try dsimp only); (refine ⟨?_, ?_, ?_, ?_, ?_, ?_, ?_, ?_, ?_, ?_⟩ <;> go_simp))
    clear hK K
    try simp only [Act.put, List.setIfInBounds_toArray, List.set_cons_zero, List.set_cons_succ]
    refine wpE_ready (rs := [2]) (by kernel_rfl) (by simp) ?_
    refine AllE.cons (by simp only [List.getElem?_toArray]; rfl) (fun K hK => ?_) AllE.nil
    go_simp
    (go_at_call 10; refine (HP.out _).mono ?_; rintro e w3 ⟨f, hf, rfl, rfl⟩)
    refine hK.out _ _ ?gT1_19 (fun hHeld => ?_)
    case gT1_19 => ((try dsimp only); (refine ⟨?_, ?_, ?_, ?_, ?_, ?_, ?_, ?_, ?_, ?_⟩ <;> go_simp))
    clear hK K
    try simp only [Act.put, List.setIfInBounds_toArray, List.set_cons_zero, List.set_cons_succ]
    refine wpE_ready (rs := [3]) (by kernel_rfl) (by simp) ?_
    refine AllE.cons (by simp only [List.getElem?_toArray]; rfl) (fun K hK => ?_) AllE.nil
    go_simp
    (go_at_call 9; refine (HC.out _ ⟨da, dc, la, lc, na, nc, sa, sc, wa, wc⟩ _ _ (hsW.out.below (by repeat (first | with_reducible exact Below.refl _ _ | with_reducible assumption | with_reducible exact below_d1 _ _ _ _ _ | with_reducible exact below_d2 _ _ _ _ _ _ _ _ | with_reducible exact below_d3 _ _ _ _ _ | with_reducible exact below_d4 _ _ _ _ _ _ _ _ | with_reducible exact below_d5 _ _ | with_reducible refine Below.drew ?_ | with_reducible refine Below.drewN' ?_ _ | with_reducible refine below_grow0 _ _ ?_ | with_reducible refine below_alloc0 _ ?_ | with_reducible refine Below.setCell ?_ ?_ _ | with_reducible refine Below.alloc ?_ ?_ _ | with_reducible refine Below.grow _ _ _ ?_ ?_ | omega | (simp; done) | (simp; omega))))).mono ?_; rintro e w4 ⟨da2, dc2, la2, lc2, na2, nc2, sa2, sc2, wa2, wc2, rfl, h3, hb3⟩; obtain ⟨ext4, d4, rfl⟩ := Below.grown_eq _ hb3; have H3 := Lib.hid h3; clear h3 hb3; have hWW := hW.out; subst hWW)
    refine hK.out _ _ ?gT1_20 (fun hHeld => ?_)
    case gT1_20 => ((try dsimp only); (refine ⟨?_, ?_, ?_, ?_, ?_, ?_, ?_, ?_, ?_, ?_⟩ <;> go_simp))
    clear hK K
    try simp only [Act.put, List.setIfInBounds_toArray, List.set_cons_zero, List.set_cons_succ]
    (refine wpE_takeP (i := 4) (v := ?gV1_21) (by simp only [List.getElem?_toArray]; rfl) (by kernel_rfl) (by kernel_rfl) (by kernel_rfl) (by rfl) (fun _ _ _ h => h) (Or.inl ⟨by rfl, ?gY1_21⟩) (by assumption) ?gR1_21; case gY1_21 => (intro w hSw; (try dsimp only at hSw); go_simp <;> with_reducible rfl))
    try simp only [Act.put, List.setIfInBounds_toArray, List.set_cons_zero, List.set_cons_succ]
    (refine wpE_takeP (i := 5) (v := ?gV1_22) (by simp only [List.getElem?_toArray]; rfl) (by kernel_rfl) (by kernel_rfl) (by kernel_rfl) (by rfl) (fun _ _ _ h => h) (Or.inl ⟨by rfl, ?gY1_22⟩) (by assumption) ?gR1_22; case gY1_22 => (intro w hSw; (try dsimp only at hSw); go_simp <;> with_reducible rfl))
    try simp only [Act.put, List.setIfInBounds_toArray, List.set_cons_zero, List.set_cons_succ]
    (refine wpE_takeP (i := 6) (v := ?gV1_23) (by simp only [List.getElem?_toArray]; rfl) (by kernel_rfl) (by kernel_rfl) (by kernel_rfl) (by rfl) (fun _ _ _ h => h) (Or.inl ⟨by rfl, ?gY1_23⟩) (by assumption) ?gR1_23; case gY1_23 => (intro w hSw; (try dsimp only at hSw); go_simp <;> with_reducible rfl))
    try simp only [Act.put, List.setIfInBounds_toArray, List.set_cons_zero, List.set_cons_succ]
    refine wpE_ready (rs := [8]) (by kernel_rfl) (by simp) ?_
    refine AllE.last (by simp only [List.getElem?_toArray]; rfl) (by kernel_rfl) (fun K hK => ?_) AllE.nil
    go_simp
    refine hK.out _ _ ?_
    clear hK K
    try simp only [Act.put, List.setIfInBounds_toArray, List.set_cons_zero, List.set_cons_succ]
    (refine wpE_takeQ (i := 9) (v := ?gV1_25) (by simp only [List.getElem?_toArray]; rfl) (by kernel_rfl) (by kernel_rfl) (by kernel_rfl) (by rfl) (fun _ _ _ h => h) (Or.inl ⟨by rfl, ?gY1_25⟩) (by kernel_rfl) ?gR1_25; case gY1_25 => (intro w hSw; (try dsimp only at hSw); go_simp <;> with_reducible rfl))
    try simp only [Act.put, List.setIfInBounds_toArray, List.set_cons_zero, List.set_cons_succ]
    refine wpE_done (by kernel_rfl) ?_ _
    refine NoPanic.normal ?_
    go_wp2_with (first | (go_at_call 11; (with_reducible refine (HU.out _ _ ?sl1_25).mono ?_); (case sl1_25 => (first | ((refine SlA.sl_swap H3.out ?_); (repeat (first | with_reducible exact Swap.refl _ _ | with_reducible refine Swap.drew1 ?_ | with_reducible refine Swap.drew2 ?_ | with_reducible refine Swap.drewN1 ?_ | with_reducible refine Swap.drewN2 ?_ | with_reducible refine Swap.grow ?_ _ _ _ | with_reducible refine Swap.alloc ?_ _ | with_reducible refine Swap.new ?_ _ _ ?_ | with_reducible refine Swap.set ?_ _ _ _ ?_ | (simp; done) | (simp; omega))); done) | ((refine SlA.sl_below H3.out ?_); (repeat (first | with_reducible exact Below.refl _ _ | with_reducible assumption | with_reducible exact below_d1 _ _ _ _ _ | with_reducible exact below_d2 _ _ _ _ _ _ _ _ | with_reducible exact below_d3 _ _ _ _ _ | with_reducible exact below_d4 _ _ _ _ _ _ _ _ | with_reducible exact below_d5 _ _ | with_reducible refine Below.drew ?_ | with_reducible refine Below.drewN' ?_ _ | with_reducible refine below_grow0 _ _ ?_ | with_reducible refine below_alloc0 _ ?_ | with_reducible refine Below.setCell ?_ ?_ _ | with_reducible refine Below.alloc ?_ ?_ _ | with_reducible refine Below.grow _ _ _ ?_ ?_ | omega | (simp; done) | (simp; omega))); done))); rintro e w5 ⟨da3, dc3, la3, lc3, na3, nc3, sa3, sc3, wa3, wc3, rfl, h5, hb5⟩; obtain ⟨ext5, d5, rfl⟩ := Below.grown_eq _ hb5; have H5 := Lib.hid h5.log.1; clear h5 hb5) | (go_at_call 12; (with_reducible refine (HSL.out _ (.slice la n lc) _ ?sm1_25 ?sn1_25).mono ?_); (case sm1_25 => (have hq := HS.out.log.1; simp only [HN.out] at hq; exact hq.below (by repeat (first | with_reducible exact Below.refl _ _ | with_reducible assumption | with_reducible exact below_d1 _ _ _ _ _ | with_reducible exact below_d2 _ _ _ _ _ _ _ _ | with_reducible exact below_d3 _ _ _ _ _ | with_reducible exact below_d4 _ _ _ _ _ _ _ _ | with_reducible exact below_d5 _ _ | with_reducible refine Below.drew ?_ | with_reducible refine Below.drewN' ?_ _ | with_reducible refine below_grow0 _ _ ?_ | with_reducible refine below_alloc0 _ ?_ | with_reducible refine Below.setCell ?_ ?_ _ | with_reducible refine Below.alloc ?_ ?_ _ | with_reducible refine Below.grow _ _ _ ?_ ?_ | omega | (simp; done) | (simp; omega))))); (case sn1_25 => exact HM.out.below (by repeat (first | with_reducible exact Below.refl _ _ | with_reducible assumption | with_reducible exact below_d1 _ _ _ _ _ | with_reducible exact below_d2 _ _ _ _ _ _ _ _ | with_reducible exact below_d3 _ _ _ _ _ | with_reducible exact below_d4 _ _ _ _ _ _ _ _ | with_reducible exact below_d5 _ _ | with_reducible refine Below.drew ?_ | with_reducible refine Below.drewN' ?_ _ | with_reducible refine below_grow0 _ _ ?_ | with_reducible refine below_alloc0 _ ?_ | with_reducible refine Below.setCell ?_ ?_ _ | with_reducible refine Below.alloc ?_ ?_ _ | with_reducible refine Below.grow _ _ _ ?_ ?_ | omega | (simp; done) | (simp; omega)))); rintro e w6 ⟨rfl, hb6⟩; obtain ⟨ext6, d6, rfl⟩ := Below.grown_eq _ hb6; clear hb6) | (go_at_call 12; (with_reducible refine (HSL.out _ (.slice la3 n lc3) _ ?so1_25 ?sp1_25).mono ?_); (case so1_25 => (have hq := H5.out; simp only [HN.out] at hq; exact hq.below (by repeat (first | with_reducible exact Below.refl _ _ | with_reducible assumption | with_reducible exact below_d1 _ _ _ _ _ | with_reducible exact below_d2 _ _ _ _ _ _ _ _ | with_reducible exact below_d3 _ _ _ _ _ | with_reducible exact below_d4 _ _ _ _ _ _ _ _ | with_reducible exact below_d5 _ _ | with_reducible refine Below.drew ?_ | with_reducible refine Below.drewN' ?_ _ | with_reducible refine below_grow0 _ _ ?_ | with_reducible refine below_alloc0 _ ?_ | with_reducible refine Below.setCell ?_ ?_ _ | with_reducible refine Below.alloc ?_ ?_ _ | with_reducible refine Below.grow _ _ _ ?_ ?_ | omega | (simp; done) | (simp; omega))))); (case sp1_25 => exact HM.out.below (by repeat (first | with_reducible exact Below.refl _ _ | with_reducible assumption | with_reducible exact below_d1 _ _ _ _ _ | with_reducible exact below_d2 _ _ _ _ _ _ _ _ | with_reducible exact below_d3 _ _ _ _ _ | with_reducible exact below_d4 _ _ _ _ _ _ _ _ | with_reducible exact below_d5 _ _ | with_reducible refine Below.drew ?_ | with_reducible refine Below.drewN' ?_ _ | with_reducible refine below_grow0 _ _ ?_ | with_reducible refine below_alloc0 _ ?_ | with_reducible refine Below.setCell ?_ ?_ _ | with_reducible refine Below.alloc ?_ ?_ _ | with_reducible refine Below.grow _ _ _ ?_ ?_ | omega | (simp; done) | (simp; omega)))); rintro e w6 ⟨rfl, hb6⟩; obtain ⟨ext7, d7, rfl⟩ := Below.grown_eq _ hb6; clear hb6))
    go_ret
    exact ⟨rfl, (by repeat (first | with_reducible exact Below.refl _ _ | with_reducible assumption | with_reducible exact below_d1 _ _ _ _ _ | with_reducible exact below_d2 _ _ _ _ _ _ _ _ | with_reducible exact below_d3 _ _ _ _ _ | with_reducible exact below_d4 _ _ _ _ _ _ _ _ | with_reducible exact below_d5 _ _ | with_reducible refine Below.drew ?_ | with_reducible refine Below.drewN' ?_ _ | with_reducible refine below_grow0 _ _ ?_ | with_reducible refine below_alloc0 _ ?_ | with_reducible refine Below.setCell ?_ ?_ _ | with_reducible refine Below.alloc ?_ ?_ _ | with_reducible refine Below.grow _ _ _ ?_ ?_ | omega | (simp; done) | (simp; omega)))⟩
  exact AllE.nil
namespace storeSafe
theorem own : ownKnob Tryd.prog.godebug = none := by kernel_rfl
theorem laidOut : laidOutB Tryd.prog = true := by kernel_rfl
set_option maxRecDepth 100000 in
set_option maxHeartbeats 1000000 in
theorem lifted (os : Os) (started : os.Started) (H : Type) (enc : TypeId × Value → H) :
    ReturnsInHanded {} Tryd.checked os 3 .any (fun w args => (Rows.storeSafeSpec.pre enc Tryd.prog Tryd.f3 Rows.storeSafeRow.domain false w args ∧ laidMetH Tryd.prog Rows.storeSafeRow.laid w) ∧ sizedMet enc Tryd.prog Tryd.f3 (OpenSpec.ofChange Rows.storeSafeSpec) false w args) (Rows.storeSafeSpec.post enc Tryd.prog Tryd.f3 false true false false) := by
  refine returnsInHanded_of_change_and (C := Tryd.checked) (X := fun w _ => laidMetH Tryd.prog Rows.storeSafeRow.laid w) (fun _ _ _ hh h => h.of_heap hh) own started (by kernel_rfl) Tryd.func3
    (ChangeSpec.witness_shaped (enc := enc) (C := Tryd.checked) (os := os) (X := fun w _ => laidMetH Tryd.prog Rows.storeSafeRow.laid w) false (World.laidAll Tryd.prog os Rows.storeSafeRow.laid) #[.slice none 0 0, .int .i64 0] 8 (World.laidAll_os _ _ _)
      (World.shaped_of_ZipB (by kernel_rfl) (by kernel_rfl)) (by kernel_rfl) (by kernel_rfl) (by kernel_rfl)
      (by rw [MakeChecks.laidMetH_plain _ _ _ (by kernel_rfl)]; exact laidMet_laidAll _ (by kernel_rfl) (by kernel_rfl))) ?_
  intro W base args ds gs before hval0 hW0 _ hsz0 hL _
  have hval : ∀ (j : Nat) t v, Tryd.f3.params[j]? = some t → args[j]? = some v → Value.okWide Tryd.prog W .any base t v := hval0
  have hW : DataW.Whole enc Tryd.prog Tryd.f3.params.toList Rows.storeSafeSpec.vars false W args.toList ds gs before := hW0
  have hlt : ∀ p ∈ before, p.block < W.heap.size := fun p hp => hW.lt p hp
  have hW1 := hW
  obtain ⟨p, q, hA0, hV, rfl, hfz, hnd⟩ := hW1
  have hA : DataW.TrodAll enc Tryd.prog W 0 (fun _ => true) true Tryd.f3.params.toList args.toList ds p := hA0
  obtain ⟨rfl, rfl⟩ := trodVars_none hV
  rw [Tryd.params3] at hA hval
  obtain ⟨v0, vs0, d0, ds0, p0, q0, hargs, rfl, rfl, h0, r0⟩ := trodAll_cons hA
  obtain ⟨v1, vs1, d1, ds1, p1, q1, rfl, rfl, rfl, h1, r1⟩ := trodAll_cons r0
  obtain ⟨rfl, rfl, rfl⟩ := trodAll_nil r1
  obtain rfl : args = #[v0, v1] := by cases args; simp_all
  have hsz : (DataW.weightsEach Tryd.prog [22, 3] [d0, d1]).all (· ≤ reachBytes) = true := hsz0
  have close : ∀ e W', (e = Ending.returned (.bool true) ∧ Below W.heap.size W W') → ∃ v, e = .returned v ∧ Rows.storeSafeSpec.post enc Tryd.prog Tryd.f3 false true false false W #[v0, v1] v W' :=
    fun e W' ⟨he, hb⟩ => ⟨_, he, law_post laidOut (of_decide_eq_true (by kernel_rfl)) rfl rfl Tryd.underlying4 hW rfl hb⟩
  clear hA0 hsz0 hval0 hW0 hA hV hW hfz hnd
  obtain ⟨xs0, hr0, hf0, els0, sp0, he0⟩ := open_rows (ks := [.i .i64, .i .i64, .i .i64, .s, .s, .i .i64, .i .i64]) 9 Tryd.underlying22 (by kernel_rfl) (hval 0 22 v0 rfl rfl) h0 (fun x hx => hlt x (by simp [hx])) (by decide)
  have rb0 : xs0.length * 72 ≤ 140737488351232 := by
    rcases he0 with ⟨_, rfl⟩ | ⟨hd, hl⟩
    · simp
    · rw [hd] at hsz
      have := sized_slice hsz (j := 0) rfl rfl Tryd.underlying22
      rw [show Tryd.prog.bytesOf 47 = 72 from by kernel_rfl] at this
      simp only [reachBytes] at this
      rw [hl] at this
      exact Nat.le_trans (Nat.mul_le_mul_right _ (Nat.le_add_right _ _)) this
  obtain ⟨a1, rfl, hd1, _, wf1⟩ := open_int Tryd.underlying3 (hval 1 3 v1 rfl rfl) h1
  obtain ⟨l, rfl, hlo⟩ := typed (fun x hx => fitsTxn (hf0 x hx))
  have hs : Sl cTxn 7 W v0 l := hr0
  exact (storeSafe_ok v0 l a1 W hs (fun t ht => by have := (hlo t ht).2.2.2.1; simpa [maxLen] using this)).mono close
theorem proved : Rows.StoreSafeSaid :=
  OpenClaim.holds_of_wide 3 Tryd.f3 rfl rfl rfl rfl rfl rfl rfl ⟨rfl, rfl, rfl, rfl, rfl⟩ rfl rfl rfl rfl rfl (by kernel_rfl) Tryd.func3 (by kernel_rfl)
    (of_decide_eq_true (by kernel_rfl)) (by unfold Func.isWrapper; first | (rw [if_pos (by decide +kernel)]; kernel_rfl) | (rw [if_neg (by decide +kernel)]; exact ⟨rfl, rfl⟩))
    (fun os started H enc _ => lifted os started H enc)
theorem card : Rows.StoreSafeCardSaid :=
  Claim7.holds_tied_plain_at .later [] Rows.storeSafeCard.laidKinds true Rows.storeSafeCard.stood.harness false
    proved (fun _ h => by cases h) (by kernel_rfl) (fun _ h => by cases h) storeSafe_row_tie rfl ⟨rfl, rfl⟩ (by kernel_rfl) rfl
    (fun f fn hf hfn => by
      obtain rfl : f = 3 := Option.some.inj ((show Tryd.prog.funcNamed "aviary/aviarykeep.StoreSafe" = some 3 by kernel_rfl).symm.trans hf) |>.symm
      obtain rfl : fn = Tryd.f3 := (Option.some.inj (Tryd.func3.symm.trans hfn)).symm
      exact ⟨by kernel_rfl, fun j t ht => by
        rw [Tryd.params3] at ht
        have hm : t ∈ [22, 3] := by simpa using Array.mem_of_getElem? ht
        have hall : ([22, 3].all fun u => !Tryd.prog.wantsStandIn u) = true := by kernel_rfl
        exact (show Tryd.prog.wantsStandIn t = false by simpa using List.all_eq_true.1 hall t hm)⟩)
    (by kernel_rfl)
end storeSafe
end Go.Proofs.YtkoemhdchoicaaaDoor
