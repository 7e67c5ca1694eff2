/- The law StoreFollowed is true for every input; no conditions. -/
import Derived.Test.YtkoemhdchoicaaaDoorCards
import Derived.Test.YtkoemhdchoicaaaDoorTie
import Derived.Lay
import Derived.LaidMore
import Derived.SevenTiedAt
import Derived.Test.YtkoemhdchoicaaaDoorPt1
import Derived.Test.YtkoemhdchoicaaaDoorPt2
import Derived.Test.YtkoemhdchoicaaaDoorPt3
import Derived.Test.YtkoemhdchoicaaaDoorPt4
import Derived.Test.YtkoemhdchoicaaaDoorPt5
import Derived.Test.YtkoemhdchoicaaaDoorPt6
import Derived.Test.YtkoemhdchoicaaaDoorPt7
import Derived.Test.YtkoemhdchoicaaaDoorPt8
import Derived.Test.YtkoemhdchoicaaaDoorPt9
import Derived.Test.YtkoemhdchoicaaaDoorPt10
namespace Go.Proofs.YtkoemhdchoicaaaDoor
open Go.RowKit Go.ChangeShapes Go.WideShapes Go.ChangeAt
theorem cell_in {w w' : World} {p : Addr} {v : Value} (hb : Below w.heap.size w w') (h : w.cell? p = some v) : w'.cell? p = some v := by
  rw [hb.cell (block_lt_of_some (by rw [h]; rfl)), h]
theorem tab_third5 {W : World} {x y z u : String × DataW Unit} (h : laidMet Tryd.prog [x, y, ("internal/strconv.uint64pow10", Rows.laid_internal_strconv_uint64pow10), z, u] W) : Lib.TabIs Tryd.prog W "internal/strconv.uint64pow10" .u64 Lib.pow10Tab := by
  rw [pow_data] at h
  obtain ⟨ps, ⟨g0, t0, cs0, f0, p0, q0, _, _, _, _, ⟨g1, t1, cs1, f1, p1, q1, _, _, _, _, ⟨g2, t2, cs2, f2, p2, q2, hg2, ht2, hv2, hd2, _, _⟩, _⟩, _⟩, _⟩ := h
  obtain rfl := Option.some.inj (pow_global.symm.trans hg2)
  obtain rfl := Option.some.inj ((show (Tryd.prog.globals[3]?).map (·.type) = some 134 by kernel_rfl).symm.trans ht2)
  unfold Lib.TabIs
  rw [hv2, ← Lib.cells_of_tab (n := 20) (e := 122) Tryd.underlying134 Tryd.underlying122 (by kernel_rfl) (by kernel_rfl) hd2]
set_option maxRecDepth 100000 in
set_option maxHeartbeats 1000000 in
theorem storeFollowed_ok (v v2 : Value) (l m : List Txn) (ep keep : Int) (w : World) (h : Sl cTxn 7 w v l) (h2 : Sl cTxn 7 w v2 m) (hz : ∀ t ∈ l, t.path.size ≤ 9223372036854775807) (hz2 : ∀ t ∈ m, t.path.size ≤ 9223372036854775807) (ht : Tab w) :
    Calls Tryd.prog 5 #[v, v2, .int .i64 ep, .int .i64 keep] w fun e w' => e = .returned (.bool true) ∧ Below w.heap.size w w' := by
  obtain ⟨A0, c0, rfl, hc1, hc2⟩ := h.form
  obtain ⟨B0, k0, rfl, hk1, hk2⟩ := h2.form
  have H := Lib.hid h
  have H2 := Lib.hid h2
  have HT1 := Lib.hid (fun (W : World) (h : Sl cTxn 7 W (.slice A0 l.length c0) l) => taken_any (.slice A0 l.length c0) l W h hz)
  have HT2 := Lib.hid (fun (W : World) (h : Sl cTxn 7 W (.slice B0 m.length k0) m) => taken_any (.slice B0 m.length k0) m W h hz2)
  have HBS := Lib.hid boots_is
  have HTB := Lib.hid ht
  clear h h2 hz hz2 ht
  go_enter Tryd.func5, Tryd.ntmps5
  go_upto_region 2 with (first | (go_at_call 6; refine (HT1.out _ (H.out.below (by repeat (first | with_reducible exact Below.refl _ _ | with_reducible assumption | with_reducible exact below_d1 _ _ _ _ _ | with_reducible exact below_d2 _ _ _ _ _ _ _ _ | with_reducible exact below_d3 _ _ _ _ _ | with_reducible exact below_d4 _ _ _ _ _ _ _ _ | with_reducible exact below_d5 _ _ | with_reducible refine Below.drew ?_ | with_reducible refine Below.drewN' ?_ _ | with_reducible refine below_grow0 _ _ ?_ | with_reducible refine below_alloc0 _ ?_ | with_reducible refine Below.setCell ?_ ?_ _ | with_reducible refine Below.alloc ?_ ?_ _ | with_reducible refine Below.grow _ _ _ ?_ ?_ | omega | (simp; done) | (simp; omega))))).mono ?_; rintro e w1 ⟨A1, c1, a, rfl, hok1, ha40, ho1, hb1⟩; obtain ⟨ext1, d1, rfl⟩ := Below.grown_eq _ hb1; have HOA := Lib.hid hok1; have HA := Lib.hid ho1; clear ho1 hb1 hok1 HT1) | (go_at_call 6; refine (HT2.out _ (H2.out.below (by repeat (first | with_reducible exact Below.refl _ _ | with_reducible assumption | with_reducible exact below_d1 _ _ _ _ _ | with_reducible exact below_d2 _ _ _ _ _ _ _ _ | with_reducible exact below_d3 _ _ _ _ _ | with_reducible exact below_d4 _ _ _ _ _ _ _ _ | with_reducible exact below_d5 _ _ | with_reducible refine Below.drew ?_ | with_reducible refine Below.drewN' ?_ _ | with_reducible refine below_grow0 _ _ ?_ | with_reducible refine below_alloc0 _ ?_ | with_reducible refine Below.setCell ?_ ?_ _ | with_reducible refine Below.alloc ?_ ?_ _ | with_reducible refine Below.grow _ _ _ ?_ ?_ | omega | (simp; done) | (simp; omega))))).mono ?_; rintro e w1 ⟨A2, c2, b, rfl, hok2, hb40, ho2, hb2⟩; obtain ⟨ext2, d2, rfl⟩ := Below.grown_eq _ hb2; have HOB := Lib.hid hok2; have HB := Lib.hid ho2; clear ho2 hb2 hok2 HT2))
  have HF := Lib.hid (fun (W : World) (v : Value) (h : Sl cTxn 7 W v a) => (filled_is (fun q => q < W.heap.size) v a W h (fun q h => h) HOA.out (by omega)).mono (fun e w' hh => show ∃ da dc la lc na nc sa sc wa wc, e = .returned (.tuple #[vFill 0 a.length ⟨da, dc, la, lc, na, nc, sa, sc, wa, wc⟩, .bool true]) ∧ SrvIn (fun q => q < W.heap.size) w' (fillS 0 a) ⟨da, dc, la, lc, na, nc, sa, sc, wa, wc⟩ ∧ Below W.heap.size W w' from by
    obtain ⟨⟨da, dc, la, lc, na, nc, sa, sc, wa, wc⟩, he, h2, h3⟩ := hh
    exact ⟨da, dc, la, lc, na, nc, sa, sc, wa, wc, he, h2, h3⟩))
  obtain ⟨S, c, HIS, HFO⟩ : ∃ S c, Hid (FolIs b a ep S c) ∧ Hid (∀ (B : Nat) (v : SrvV) (u : Value) (W : World), SrvIn (fun q => B ≤ q) W (fillS 0 a) v → Sl cTxn 7 W u b → Tab W → Calls Tryd.prog 15 #[vFill 0 a.length v, u, .int .i64 ep] W (FolT B S c W)) := by
    obtain ⟨S, c, h1, h2⟩ := fol_any b a ep HOB.out HOA.out hb40 ha40
    exact ⟨S, c, Lib.hid h1, Lib.hid h2⟩
  clear H H2
  go_upto_region 5 with (first | (go_at_call 7; refine (HF.out _ _ (HA.out.below (by repeat (first | with_reducible exact Below.refl _ _ | with_reducible assumption | with_reducible exact below_d1 _ _ _ _ _ | with_reducible exact below_d2 _ _ _ _ _ _ _ _ | with_reducible exact below_d3 _ _ _ _ _ | with_reducible exact below_d4 _ _ _ _ _ _ _ _ | with_reducible exact below_d5 _ _ | with_reducible refine Below.drew ?_ | with_reducible refine Below.drewN' ?_ _ | with_reducible refine below_grow0 _ _ ?_ | with_reducible refine below_alloc0 _ ?_ | with_reducible refine Below.setCell ?_ ?_ _ | with_reducible refine Below.alloc ?_ ?_ _ | with_reducible refine Below.grow _ _ _ ?_ ?_ | omega | (simp; done) | (simp; omega))))).mono ?_; rintro e w1 ⟨da, dc, la, lc, na, nc, sa, sc, wa, wc, rfl, h1, hb1⟩; obtain ⟨ext3, d3, rfl⟩ := Below.grown_eq _ hb1; have HS := Lib.hid h1; clear h1 hb1 HF) | (go_at_call 8; refine (HBS.out _).mono ?_; rintro e w2 ⟨rfl, hb2⟩; obtain ⟨ext4, d4, rfl⟩ := Below.grown_eq _ hb2; clear hb2))
  refine gen_w (fun W0 hW0 => ?_)
  generalize hg : w.heap.size + ext1.size + ext2.size + ext3.size = g0 at *
  have hWb : Below w.heap.size w W0 := by rw [hW0.out]; exact (by repeat (first | with_reducible exact Below.refl _ _ | with_reducible assumption | with_reducible exact below_d1 _ _ _ _ _ | with_reducible exact below_d2 _ _ _ _ _ _ _ _ | with_reducible exact below_d3 _ _ _ _ _ | with_reducible exact below_d4 _ _ _ _ _ _ _ _ | with_reducible exact below_d5 _ _ | with_reducible refine Below.drew ?_ | with_reducible refine Below.drewN' ?_ _ | with_reducible refine below_grow0 _ _ ?_ | with_reducible refine below_alloc0 _ ?_ | with_reducible refine Below.setCell ?_ ?_ _ | with_reducible refine Below.alloc ?_ ?_ _ | with_reducible refine Below.grow _ _ _ ?_ ?_ | omega | (simp; done) | (simp; omega)))
  have k0 : W0.cell? ⟨g0, 0, none⟩ = some (.bool true) := by rw [hW0.out, ← hg]; go_simp
  have k1 : W0.cell? ⟨g0, 1, none⟩ = some (.slice da 1 dc) := by rw [hW0.out, ← hg]; go_simp
  have k2 : W0.cell? ⟨g0, 2, none⟩ = some (.int .i64 0) := by rw [hW0.out, ← hg]; go_simp
  have k3 : W0.cell? ⟨g0, 3, none⟩ = some (.int .i64 0) := by rw [hW0.out, ← hg]; go_simp
  have k4 : W0.cell? ⟨g0, 4, none⟩ = some (.slice la a.length lc) := by rw [hW0.out, ← hg]; go_simp
  have k5 : W0.cell? ⟨g0, 5, none⟩ = some (.int .i64 0) := by rw [hW0.out, ← hg]; go_simp
  have k6 : W0.cell? ⟨g0, 6, none⟩ = some (.int .i64 0) := by rw [hW0.out, ← hg]; go_simp
  have k7 : W0.cell? ⟨g0, 7, none⟩ = some (.slice na 1 nc) := by rw [hW0.out, ← hg]; go_simp
  have k8 : W0.cell? ⟨g0, 8, none⟩ = some (.slice sa 0 sc) := by rw [hW0.out, ← hg]; go_simp
  have k9 : W0.cell? ⟨g0, 9, none⟩ = some (.slice wa 0 wc) := by rw [hW0.out, ← hg]; go_simp
  have S0 := Lib.hid (HS.out.below (w' := W0) (by rw [hW0.out]; exact (by repeat (first | with_reducible exact Below.refl _ _ | with_reducible assumption | with_reducible exact below_d1 _ _ _ _ _ | with_reducible exact below_d2 _ _ _ _ _ _ _ _ | with_reducible exact below_d3 _ _ _ _ _ | with_reducible exact below_d4 _ _ _ _ _ _ _ _ | with_reducible exact below_d5 _ _ | with_reducible refine Below.drew ?_ | with_reducible refine Below.drewN' ?_ _ | with_reducible refine below_grow0 _ _ ?_ | with_reducible refine below_alloc0 _ ?_ | with_reducible refine Below.setCell ?_ ?_ _ | with_reducible refine Below.alloc ?_ ?_ _ | with_reducible refine Below.grow _ _ _ ?_ ?_ | omega | (simp; done) | (simp; omega)))))
  have HB0 := Lib.hid (HB.out.below (w' := W0) (by rw [hW0.out]; exact (by repeat (first | with_reducible exact Below.refl _ _ | with_reducible assumption | with_reducible exact below_d1 _ _ _ _ _ | with_reducible exact below_d2 _ _ _ _ _ _ _ _ | with_reducible exact below_d3 _ _ _ _ _ | with_reducible exact below_d4 _ _ _ _ _ _ _ _ | with_reducible exact below_d5 _ _ | with_reducible refine Below.drew ?_ | with_reducible refine Below.drewN' ?_ _ | with_reducible refine below_grow0 _ _ ?_ | with_reducible refine below_alloc0 _ ?_ | with_reducible refine Below.setCell ?_ ?_ _ | with_reducible refine Below.alloc ?_ ?_ _ | with_reducible refine Below.grow _ _ _ ?_ ?_ | omega | (simp; done) | (simp; omega)))))
  have HT0 := Lib.hid (HTB.out.below hWb)
  clear hg HS HB HA hW0
  go_cut [13, 14] (fun s13 s14 wx => ∃ (g : Nat) (da : Option Addr) (dc : Nat) (la : Option Addr) (lc : Nat) (na : Option Addr) (nc : Nat) (sa : Option Addr) (sc : Nat) (wa : Option Addr) (wc : Nat), s13 = .pointer (some ⟨g, 0, none⟩) ∧ s14 = .int .i64 c ∧ wx.cell? ⟨g, 0, none⟩ = some (.bool S.up) ∧ wx.cell? ⟨g, 1, none⟩ = some (.slice da S.disk.length dc) ∧ wx.cell? ⟨g, 2, none⟩ = some (.int .i64 S.id) ∧ wx.cell? ⟨g, 3, none⟩ = some (.int .i64 S.epoch) ∧ wx.cell? ⟨g, 4, none⟩ = some (.slice la S.log.length lc) ∧ wx.cell? ⟨g, 5, none⟩ = some (.int .i64 S.done_) ∧ wx.cell? ⟨g, 6, none⟩ = some (.int .i64 S.tz) ∧ wx.cell? ⟨g, 7, none⟩ = some (.slice na S.nodes.length nc) ∧ wx.cell? ⟨g, 8, none⟩ = some (.slice sa S.sess.length sc) ∧ wx.cell? ⟨g, 9, none⟩ = some (.slice wa S.watches.length wc) ∧ Hid (SrvIn (fun _ => False) wx S ⟨da, dc, la, lc, na, nc, sa, sc, wa, wc⟩) ∧ Hid (Sl cTxn 7 wx (.slice A2 b.length c2) b) ∧ Hid (Below W0.heap.size W0 wx))
  case first =>
    refine wp_region_noPanic ?_
    refine wp_region_W (by kernel_rfl) (fun W hW => ?_)
    have cl0 : W.cell? ⟨g0, 0, none⟩ = some (.bool true) := by rw [hW.out]; go_simp
    have cl1 : W.cell? ⟨g0, 1, none⟩ = some (.slice da 1 dc) := by rw [hW.out]; go_simp
    have cl2 : W.cell? ⟨g0, 2, none⟩ = some (.int .i64 0) := by rw [hW.out]; go_simp
    have cl3 : W.cell? ⟨g0, 3, none⟩ = some (.int .i64 0) := by rw [hW.out]; go_simp
    have cl4 : W.cell? ⟨g0, 4, none⟩ = some (.slice la a.length lc) := by rw [hW.out]; go_simp
    have cl5 : W.cell? ⟨g0, 5, none⟩ = some (.int .i64 0) := by rw [hW.out]; go_simp
    have cl6 : W.cell? ⟨g0, 6, none⟩ = some (.int .i64 0) := by rw [hW.out]; go_simp
    have cl7 : W.cell? ⟨g0, 7, none⟩ = some (.slice na 1 nc) := by rw [hW.out]; go_simp
    have cl8 : W.cell? ⟨g0, 8, none⟩ = some (.slice sa 0 sc) := by rw [hW.out]; go_simp
    have cl9 : W.cell? ⟨g0, 9, none⟩ = some (.slice wa 0 wc) := by rw [hW.out]; go_simp
    have hsW := Lib.hid ((S0.out.below (w' := W) (by rw [hW.out]; exact (by repeat (first | with_reducible exact Below.refl _ _ | with_reducible assumption | with_reducible exact below_d1 _ _ _ _ _ | with_reducible exact below_d2 _ _ _ _ _ _ _ _ | with_reducible exact below_d3 _ _ _ _ _ | with_reducible exact below_d4 _ _ _ _ _ _ _ _ | with_reducible exact below_d5 _ _ | with_reducible refine Below.drew ?_ | with_reducible refine Below.drewN' ?_ _ | with_reducible refine below_grow0 _ _ ?_ | with_reducible refine below_alloc0 _ ?_ | with_reducible refine Below.setCell ?_ ?_ _ | with_reducible refine Below.alloc ?_ ?_ _ | with_reducible refine Below.grow _ _ _ ?_ ?_ | omega | (simp; done) | (simp; omega))))).more (p' := fun q => W.heap.size ≤ q) (fun q hq => .inr hq))
    have hbW := Lib.hid (HB0.out.below (w' := W) (by rw [hW.out]; exact (by repeat (first | with_reducible exact Below.refl _ _ | with_reducible assumption | with_reducible exact below_d1 _ _ _ _ _ | with_reducible exact below_d2 _ _ _ _ _ _ _ _ | with_reducible exact below_d3 _ _ _ _ _ | with_reducible exact below_d4 _ _ _ _ _ _ _ _ | with_reducible exact below_d5 _ _ | with_reducible refine Below.drew ?_ | with_reducible refine Below.drewN' ?_ _ | with_reducible refine below_grow0 _ _ ?_ | with_reducible refine below_alloc0 _ ?_ | with_reducible refine Below.setCell ?_ ?_ _ | with_reducible refine Below.alloc ?_ ?_ _ | with_reducible refine Below.grow _ _ _ ?_ ?_ | omega | (simp; done) | (simp; omega)))))
    have htW := Lib.hid (HT0.out.below (w' := W) (by rw [hW.out]; exact (by repeat (first | with_reducible exact Below.refl _ _ | with_reducible assumption | with_reducible exact below_d1 _ _ _ _ _ | with_reducible exact below_d2 _ _ _ _ _ _ _ _ | with_reducible exact below_d3 _ _ _ _ _ | with_reducible exact below_d4 _ _ _ _ _ _ _ _ | with_reducible exact below_d5 _ _ | with_reducible refine Below.drew ?_ | with_reducible refine Below.drewN' ?_ _ | with_reducible refine below_grow0 _ _ ?_ | with_reducible refine below_alloc0 _ ?_ | with_reducible refine Below.setCell ?_ ?_ _ | with_reducible refine Below.alloc ?_ ?_ _ | with_reducible refine Below.grow _ _ _ ?_ ?_ | omega | (simp; done) | (simp; omega)))))
    refine wpAny_S (fun w' => w'.cell? ⟨g0, 0, none⟩ = some (.bool true) ∧ w'.cell? ⟨g0, 1, none⟩ = some (.slice da 1 dc) ∧ w'.cell? ⟨g0, 2, none⟩ = some (.int .i64 0) ∧ w'.cell? ⟨g0, 3, none⟩ = some (.int .i64 0) ∧ w'.cell? ⟨g0, 4, none⟩ = some (.slice la a.length lc) ∧ w'.cell? ⟨g0, 5, none⟩ = some (.int .i64 0) ∧ w'.cell? ⟨g0, 6, none⟩ = some (.int .i64 0) ∧ w'.cell? ⟨g0, 7, none⟩ = some (.slice na 1 nc) ∧ w'.cell? ⟨g0, 8, none⟩ = some (.slice sa 0 sc) ∧ w'.cell? ⟨g0, 9, none⟩ = some (.slice wa 0 wc)) (fun i => i == 9) (by (try dsimp only); (refine ⟨?_, ?_, ?_, ?_, ?_, ?_, ?_, ?_, ?_, ?_⟩ <;> go_simp)) (fun hHeld => ?_)
    (refine wpE_take (i := 0) (v := ?gV1_1) (by simp only [List.getElem?_toArray]; rfl) (by kernel_rfl) (by kernel_rfl) (by kernel_rfl) (by kernel_rfl) (by kernel_rfl) (by rfl) (fun _ _ _ h => h) (Or.inl ⟨by rfl, ?gY1_1⟩) (by assumption) ?gR1_1; case gY1_1 => (intro w hSw; (try dsimp only at hSw); go_simp <;> with_reducible rfl))
    try simp only [Act.put, List.setIfInBounds_toArray, List.set_cons_zero, List.set_cons_succ]
    (refine wpE_takeP (i := 1) (v := ?gV1_2) (by simp only [List.getElem?_toArray]; rfl) (by kernel_rfl) (by kernel_rfl) (by kernel_rfl) (by rfl) (fun _ _ _ h => h) (Or.inl ⟨by rfl, ?gY1_2⟩) (by assumption) ?gR1_2; case gY1_2 => (intro w hSw; (try dsimp only at hSw); go_simp <;> with_reducible rfl))
    try simp only [Act.put, List.setIfInBounds_toArray, List.set_cons_zero, List.set_cons_succ]
    (refine wpE_takeP (i := 3) (v := ?gV1_3) (by simp only [List.getElem?_toArray]; rfl) (by kernel_rfl) (by kernel_rfl) (by kernel_rfl) (by rfl) (fun _ _ _ h => h) (Or.inl ⟨by rfl, ?gY1_3⟩) (by assumption) ?gR1_3; case gY1_3 => (intro w hSw; (try dsimp only at hSw); go_simp <;> with_reducible rfl))
    try simp only [Act.put, List.setIfInBounds_toArray, List.set_cons_zero, List.set_cons_succ]
    refine wpE_ready (rs := [2, 8]) (by kernel_rfl) (by simp) ?_
    refine AllE.cons (by simp only [List.getElem?_toArray]; rfl) (fun K hK => ?gO1_4) ?gL1_4
    case gO1_4 =>
      (refine stepE_app (by rfl) (.const (.slice none 0 0)) (.tmp 37) _ rfl elTxn (B := W.heap.size) (v := .slice none 0 0) (l := []) (m := b) rfl rfl (Ow.nil _ _ _ _ _) (hbW.out.below (by repeat (first | with_reducible exact Below.refl _ _ | with_reducible assumption | with_reducible exact below_d1 _ _ _ _ _ | with_reducible exact below_d2 _ _ _ _ _ _ _ _ | with_reducible exact below_d3 _ _ _ _ _ | with_reducible exact below_d4 _ _ _ _ _ _ _ _ | with_reducible exact below_d5 _ _ | with_reducible refine Below.drew ?_ | with_reducible refine Below.drewN' ?_ _ | with_reducible refine below_grow0 _ _ ?_ | with_reducible refine below_alloc0 _ ?_ | with_reducible refine Below.setCell ?_ ?_ _ | with_reducible refine Below.alloc ?_ ?_ _ | with_reducible refine Below.grow _ _ _ ?_ ?_ | omega | (simp; done) | (simp; omega)))) cTxn_one (by simp [maxLen]; omega) (by simp; omega) (by simp <;> omega) ?_; intro v2 w2 hown2 hg2 _; rw [List.nil_append] at hown2; obtain ⟨A3, c3, rfl, _⟩ := hown2.form; obtain ⟨ext3, d3, rfl⟩ := Below.grown_eq _ (Below.of_grown hg2); have HA1 := Lib.hid hown2; clear hown2 hg2)
      refine hK.out _ _ ?gT1_4 (fun hHeld => ?_)
      case gT1_4 => ((try dsimp only); (refine ⟨?_, ?_, ?_, ?_, ?_, ?_, ?_, ?_, ?_, ?_⟩ <;> go_simp))
      clear hK K
      try simp only [Act.put, List.setIfInBounds_toArray, List.set_cons_zero, List.set_cons_succ]
      refine wpE_ready (rs := [4, 8]) (by kernel_rfl) (by simp) ?_
      refine AllE.cons (by simp only [List.getElem?_toArray]; rfl) (fun K hK => ?gO1_5) ?gL1_5
      case gO1_5 =>
        go_simp
        (go_at_call 15; (with_reducible refine (HFO.out W.heap.size ⟨da, dc, la, lc, na, nc, sa, sc, wa, wc⟩ _ _ ?p1 ?p2 ?p3).mono ?_); (case p1 => exact hsW.out.below (by repeat (first | with_reducible exact Below.refl _ _ | with_reducible assumption | with_reducible exact below_d1 _ _ _ _ _ | with_reducible exact below_d2 _ _ _ _ _ _ _ _ | with_reducible exact below_d3 _ _ _ _ _ | with_reducible exact below_d4 _ _ _ _ _ _ _ _ | with_reducible exact below_d5 _ _ | with_reducible refine Below.drew ?_ | with_reducible refine Below.drewN' ?_ _ | with_reducible refine below_grow0 _ _ ?_ | with_reducible refine below_alloc0 _ ?_ | with_reducible refine Below.setCell ?_ ?_ _ | with_reducible refine Below.alloc ?_ ?_ _ | with_reducible refine Below.grow _ _ _ ?_ ?_ | omega | (simp; done) | (simp; omega)))); (case p2 => exact HA1.out.sl.below (by repeat (first | with_reducible exact Below.refl _ _ | with_reducible assumption | with_reducible exact below_d1 _ _ _ _ _ | with_reducible exact below_d2 _ _ _ _ _ _ _ _ | with_reducible exact below_d3 _ _ _ _ _ | with_reducible exact below_d4 _ _ _ _ _ _ _ _ | with_reducible exact below_d5 _ _ | with_reducible refine Below.drew ?_ | with_reducible refine Below.drewN' ?_ _ | with_reducible refine below_grow0 _ _ ?_ | with_reducible refine below_alloc0 _ ?_ | with_reducible refine Below.setCell ?_ ?_ _ | with_reducible refine Below.alloc ?_ ?_ _ | with_reducible refine Below.grow _ _ _ ?_ ?_ | omega | (simp; done) | (simp; omega)))); (case p3 => exact htW.out.below (by repeat (first | with_reducible exact Below.refl _ _ | with_reducible assumption | with_reducible exact below_d1 _ _ _ _ _ | with_reducible exact below_d2 _ _ _ _ _ _ _ _ | with_reducible exact below_d3 _ _ _ _ _ | with_reducible exact below_d4 _ _ _ _ _ _ _ _ | with_reducible exact below_d5 _ _ | with_reducible refine Below.drew ?_ | with_reducible refine Below.drewN' ?_ _ | with_reducible refine below_grow0 _ _ ?_ | with_reducible refine below_alloc0 _ ?_ | with_reducible refine Below.setCell ?_ ?_ _ | with_reducible refine Below.alloc ?_ ?_ _ | with_reducible refine Below.grow _ _ _ ?_ ?_ | omega | (simp; done) | (simp; omega)))); rintro e w3 ⟨da2, dc2, la2, lc2, na2, nc2, sa2, sc2, wa2, wc2, rfl, h3, hb3⟩; obtain ⟨ext4, d4, rfl⟩ := Below.grown_eq _ hb3; have H3 := Lib.hid h3; clear h3 hb3; have hWW := hW.out; subst hWW)
        refine hK.out _ _ ?gT1_5 (fun hHeld => ?_)
        case gT1_5 => ((try dsimp only); (refine ⟨?_, ?_, ?_, ?_, ?_, ?_, ?_, ?_, ?_, ?_⟩ <;> go_simp))
        clear hK K
        try simp only [Act.put, List.setIfInBounds_toArray, List.set_cons_zero, List.set_cons_succ]
        (refine wpE_takeP (i := 5) (v := ?gV1_6) (by simp only [List.getElem?_toArray]; rfl) (by kernel_rfl) (by kernel_rfl) (by kernel_rfl) (by rfl) (fun _ _ _ h => h) (Or.inl ⟨by rfl, ?gY1_6⟩) (by assumption) ?gR1_6; case gY1_6 => (intro w hSw; (try dsimp only at hSw); go_simp <;> with_reducible rfl))
        try simp only [Act.put, List.setIfInBounds_toArray, List.set_cons_zero, List.set_cons_succ]
        (refine wpE_takeP (i := 6) (v := ?gV1_7) (by simp only [List.getElem?_toArray]; rfl) (by kernel_rfl) (by kernel_rfl) (by kernel_rfl) (by rfl) (fun _ _ _ h => h) (Or.inl ⟨by rfl, ?gY1_7⟩) (by assumption) ?gR1_7; case gY1_7 => (intro w hSw; (try dsimp only at hSw); go_simp <;> with_reducible rfl))
        try simp only [Act.put, List.setIfInBounds_toArray, List.set_cons_zero, List.set_cons_succ]
        (refine wpE_takeP (i := 7) (v := ?gV1_8) (by simp only [List.getElem?_toArray]; rfl) (by kernel_rfl) (by kernel_rfl) (by kernel_rfl) (by rfl) (fun _ _ _ h => h) (Or.inl ⟨by rfl, ?gY1_8⟩) (by assumption) ?gR1_8; case gY1_8 => (intro w hSw; (try dsimp only at hSw); go_simp <;> with_reducible rfl))
        try simp only [Act.put, List.setIfInBounds_toArray, List.set_cons_zero, List.set_cons_succ]
        refine wpE_ready (rs := [8]) (by kernel_rfl) (by simp) ?_
        refine AllE.cons (by simp only [List.getElem?_toArray]; rfl) (fun K hK => ?_) AllE.nil
        go_simp
        refine hK.out _ _ ?gT1_9 (fun hHeld => ?_)
        case gT1_9 => ((try dsimp only); (refine ⟨?_, ?_, ?_, ?_, ?_, ?_, ?_, ?_, ?_, ?_⟩ <;> go_simp))
        clear hK K
        try simp only [Act.put, List.setIfInBounds_toArray, List.set_cons_zero, List.set_cons_succ]
        refine wpE_ready (rs := [9]) (by kernel_rfl) (by simp) ?_
        refine AllE.last (by simp only [List.getElem?_toArray]; rfl) (by kernel_rfl) (fun K hK => ?_) AllE.nil
        go_simp
        refine hK.out _ _ ?_
        clear hK K
        try simp only [Act.put, List.setIfInBounds_toArray, List.set_cons_zero, List.set_cons_succ]
        (refine wpE_takeQ (i := 10) (v := ?gV1_11) (by simp only [List.getElem?_toArray]; rfl) (by kernel_rfl) (by kernel_rfl) (by kernel_rfl) (by rfl) (fun _ _ _ h => h) (Or.inl ⟨by rfl, ?gY1_11⟩) (by kernel_rfl) ?gR1_11; case gY1_11 => (intro w hSw; (try dsimp only at hSw); go_simp <;> with_reducible rfl))
        try simp only [Act.put, List.setIfInBounds_toArray, List.set_cons_zero, List.set_cons_succ]
        refine wpE_done (by kernel_rfl) ?_ _
        refine NoPanic.normal ?_
        go_wp2_with fail
        go_meet
        refine ⟨_, da2, dc2, la2, lc2, na2, nc2, sa2, sc2, wa2, wc2, rfl, rfl, by go_simp, by go_simp, by go_simp, by go_simp, by go_simp, by go_simp, by go_simp, by go_simp, by go_simp, by go_simp, Lib.hid (SrvIn.more (p := ?pp1_11) ?sv1_11 (fun q hq => hq.elim)), Lib.hid (HB0.out.below (by repeat (first | with_reducible exact Below.refl _ _ | with_reducible assumption | with_reducible exact below_d1 _ _ _ _ _ | with_reducible exact below_d2 _ _ _ _ _ _ _ _ | with_reducible exact below_d3 _ _ _ _ _ | with_reducible exact below_d4 _ _ _ _ _ _ _ _ | with_reducible exact below_d5 _ _ | with_reducible refine Below.drew ?_ | with_reducible refine Below.drewN' ?_ _ | with_reducible refine below_grow0 _ _ ?_ | with_reducible refine below_alloc0 _ ?_ | with_reducible refine Below.setCell ?_ ?_ _ | with_reducible refine Below.alloc ?_ ?_ _ | with_reducible refine Below.grow _ _ _ ?_ ?_ | omega | (simp; done) | (simp; omega)))), Lib.hid (by repeat (first | with_reducible exact Below.refl _ _ | with_reducible assumption | with_reducible exact below_d1 _ _ _ _ _ | with_reducible exact below_d2 _ _ _ _ _ _ _ _ | with_reducible exact below_d3 _ _ _ _ _ | with_reducible exact below_d4 _ _ _ _ _ _ _ _ | with_reducible exact below_d5 _ _ | with_reducible refine Below.drew ?_ | with_reducible refine Below.drewN' ?_ _ | with_reducible refine below_grow0 _ _ ?_ | with_reducible refine below_alloc0 _ ?_ | with_reducible refine Below.setCell ?_ ?_ _ | with_reducible refine Below.alloc ?_ ?_ _ | with_reducible refine Below.grow _ _ _ ?_ ?_ | omega | (simp; done) | (simp; omega)))⟩
        (case sv1_11 => (first | ((refine H3.out.below ?_); (repeat (first | with_reducible exact Below.refl _ _ | with_reducible assumption | with_reducible exact below_d1 _ _ _ _ _ | with_reducible exact below_d2 _ _ _ _ _ _ _ _ | with_reducible exact below_d3 _ _ _ _ _ | with_reducible exact below_d4 _ _ _ _ _ _ _ _ | with_reducible exact below_d5 _ _ | with_reducible refine Below.drew ?_ | with_reducible refine Below.drewN' ?_ _ | with_reducible refine below_grow0 _ _ ?_ | with_reducible refine below_alloc0 _ ?_ | with_reducible refine Below.setCell ?_ ?_ _ | with_reducible refine Below.alloc ?_ ?_ _ | with_reducible refine Below.grow _ _ _ ?_ ?_ | omega | (simp; done) | (simp; omega))); done) | ((refine H3.out.swap ?_); (repeat (first | with_reducible exact Swap.refl _ _ | with_reducible refine Swap.drew1 ?_ | with_reducible refine Swap.drew2 ?_ | with_reducible refine Swap.drewN1 ?_ | with_reducible refine Swap.drewN2 ?_ | with_reducible refine Swap.grow ?_ _ _ _ | with_reducible refine Swap.alloc ?_ _ | with_reducible refine Swap.new ?_ _ _ ?_ | with_reducible refine Swap.set ?_ _ _ _ ?_ | (simp; done) | (simp; omega))); done) | (have hq : SrvIn (fun q => W0.drew.heap.size ≤ q ∧ q < (grow W0.drew ext3 d3).heap.size) (grow (grow W0 ext3 d3) ext4 d4) S ⟨da2, dc2, la2, lc2, na2, nc2, sa2, sc2, wa2, wc2⟩ := (by have hq := H3.out; refine hq.swap ?_; (repeat (first | with_reducible exact Swap.refl _ _ | with_reducible refine Swap.drew1 ?_ | with_reducible refine Swap.drew2 ?_ | with_reducible refine Swap.drewN1 ?_ | with_reducible refine Swap.drewN2 ?_ | with_reducible refine Swap.grow ?_ _ _ _ | with_reducible refine Swap.alloc ?_ _ | with_reducible refine Swap.new ?_ _ _ ?_ | with_reducible refine Swap.set ?_ _ _ _ ?_ | (simp; done) | (simp; omega)))); (refine hq.below ?_); (repeat (first | with_reducible exact Below.refl _ _ | with_reducible assumption | with_reducible exact below_d1 _ _ _ _ _ | with_reducible exact below_d2 _ _ _ _ _ _ _ _ | with_reducible exact below_d3 _ _ _ _ _ | with_reducible exact below_d4 _ _ _ _ _ _ _ _ | with_reducible exact below_d5 _ _ | with_reducible refine Below.drew ?_ | with_reducible refine Below.drewN' ?_ _ | with_reducible refine below_grow0 _ _ ?_ | with_reducible refine below_alloc0 _ ?_ | with_reducible refine Below.setCell ?_ ?_ _ | with_reducible refine Below.alloc ?_ ?_ _ | with_reducible refine Below.grow _ _ _ ?_ ?_ | omega | (simp; done) | (simp; omega))); done)))
      refine AllE.cons (by simp only [List.getElem?_toArray]; rfl) (fun K hK => ?gO1_12) ?gL1_12
      case gO1_12 =>
        go_simp
        refine hK.out _ _ ?gT1_12 (fun hHeld => ?_)
        case gT1_12 => ((try dsimp only); (refine ⟨?_, ?_, ?_, ?_, ?_, ?_, ?_, ?_, ?_, ?_⟩ <;> go_simp))
        clear hK K
        try simp only [Act.put, List.setIfInBounds_toArray, List.set_cons_zero, List.set_cons_succ]
        refine wpE_ready (rs := [4]) (by kernel_rfl) (by simp) ?_
        refine AllE.cons (by simp only [List.getElem?_toArray]; rfl) (fun K hK => ?_) AllE.nil
        go_simp
        (go_at_call 15; (with_reducible refine (HFO.out W.heap.size ⟨da, dc, la, lc, na, nc, sa, sc, wa, wc⟩ _ _ ?p1 ?p2 ?p3).mono ?_); (case p1 => exact hsW.out.below (by repeat (first | with_reducible exact Below.refl _ _ | with_reducible assumption | with_reducible exact below_d1 _ _ _ _ _ | with_reducible exact below_d2 _ _ _ _ _ _ _ _ | with_reducible exact below_d3 _ _ _ _ _ | with_reducible exact below_d4 _ _ _ _ _ _ _ _ | with_reducible exact below_d5 _ _ | with_reducible refine Below.drew ?_ | with_reducible refine Below.drewN' ?_ _ | with_reducible refine below_grow0 _ _ ?_ | with_reducible refine below_alloc0 _ ?_ | with_reducible refine Below.setCell ?_ ?_ _ | with_reducible refine Below.alloc ?_ ?_ _ | with_reducible refine Below.grow _ _ _ ?_ ?_ | omega | (simp; done) | (simp; omega)))); (case p2 => exact HA1.out.sl.below (by repeat (first | with_reducible exact Below.refl _ _ | with_reducible assumption | with_reducible exact below_d1 _ _ _ _ _ | with_reducible exact below_d2 _ _ _ _ _ _ _ _ | with_reducible exact below_d3 _ _ _ _ _ | with_reducible exact below_d4 _ _ _ _ _ _ _ _ | with_reducible exact below_d5 _ _ | with_reducible refine Below.drew ?_ | with_reducible refine Below.drewN' ?_ _ | with_reducible refine below_grow0 _ _ ?_ | with_reducible refine below_alloc0 _ ?_ | with_reducible refine Below.setCell ?_ ?_ _ | with_reducible refine Below.alloc ?_ ?_ _ | with_reducible refine Below.grow _ _ _ ?_ ?_ | omega | (simp; done) | (simp; omega)))); (case p3 => exact htW.out.below (by repeat (first | with_reducible exact Below.refl _ _ | with_reducible assumption | with_reducible exact below_d1 _ _ _ _ _ | with_reducible exact below_d2 _ _ _ _ _ _ _ _ | with_reducible exact below_d3 _ _ _ _ _ | with_reducible exact below_d4 _ _ _ _ _ _ _ _ | with_reducible exact below_d5 _ _ | with_reducible refine Below.drew ?_ | with_reducible refine Below.drewN' ?_ _ | with_reducible refine below_grow0 _ _ ?_ | with_reducible refine below_alloc0 _ ?_ | with_reducible refine Below.setCell ?_ ?_ _ | with_reducible refine Below.alloc ?_ ?_ _ | with_reducible refine Below.grow _ _ _ ?_ ?_ | omega | (simp; done) | (simp; omega)))); rintro e w3 ⟨da2, dc2, la2, lc2, na2, nc2, sa2, sc2, wa2, wc2, rfl, h3, hb3⟩; obtain ⟨ext4, d4, rfl⟩ := Below.grown_eq _ hb3; have H3 := Lib.hid h3; clear h3 hb3; have hWW := hW.out; subst hWW)
        refine hK.out _ _ ?gT1_13 (fun hHeld => ?_)
        case gT1_13 => ((try dsimp only); (refine ⟨?_, ?_, ?_, ?_, ?_, ?_, ?_, ?_, ?_, ?_⟩ <;> go_simp))
        clear hK K
        try simp only [Act.put, List.setIfInBounds_toArray, List.set_cons_zero, List.set_cons_succ]
        (refine wpE_takeP (i := 5) (v := ?gV1_14) (by simp only [List.getElem?_toArray]; rfl) (by kernel_rfl) (by kernel_rfl) (by kernel_rfl) (by rfl) (fun _ _ _ h => h) (Or.inl ⟨by rfl, ?gY1_14⟩) (by assumption) ?gR1_14; case gY1_14 => (intro w hSw; (try dsimp only at hSw); go_simp <;> with_reducible rfl))
        try simp only [Act.put, List.setIfInBounds_toArray, List.set_cons_zero, List.set_cons_succ]
        (refine wpE_takeP (i := 6) (v := ?gV1_15) (by simp only [List.getElem?_toArray]; rfl) (by kernel_rfl) (by kernel_rfl) (by kernel_rfl) (by rfl) (fun _ _ _ h => h) (Or.inl ⟨by rfl, ?gY1_15⟩) (by assumption) ?gR1_15; case gY1_15 => (intro w hSw; (try dsimp only at hSw); go_simp <;> with_reducible rfl))
        try simp only [Act.put, List.setIfInBounds_toArray, List.set_cons_zero, List.set_cons_succ]
        (refine wpE_takeP (i := 7) (v := ?gV1_16) (by simp only [List.getElem?_toArray]; rfl) (by kernel_rfl) (by kernel_rfl) (by kernel_rfl) (by rfl) (fun _ _ _ h => h) (Or.inl ⟨by rfl, ?gY1_16⟩) (by assumption) ?gR1_16; case gY1_16 => (intro w hSw; (try dsimp only at hSw); go_simp <;> with_reducible rfl))
        try simp only [Act.put, List.setIfInBounds_toArray, List.set_cons_zero, List.set_cons_succ]
        refine wpE_ready (rs := [9]) (by kernel_rfl) (by simp) ?_
        refine AllE.last (by simp only [List.getElem?_toArray]; rfl) (by kernel_rfl) (fun K hK => ?_) AllE.nil
        go_simp
        refine hK.out _ _ ?_
        clear hK K
        try simp only [Act.put, List.setIfInBounds_toArray, List.set_cons_zero, List.set_cons_succ]
        (refine wpE_takeQ (i := 10) (v := ?gV1_18) (by simp only [List.getElem?_toArray]; rfl) (by kernel_rfl) (by kernel_rfl) (by kernel_rfl) (by rfl) (fun _ _ _ h => h) (Or.inl ⟨by rfl, ?gY1_18⟩) (by kernel_rfl) ?gR1_18; case gY1_18 => (intro w hSw; (try dsimp only at hSw); go_simp <;> with_reducible rfl))
        try simp only [Act.put, List.setIfInBounds_toArray, List.set_cons_zero, List.set_cons_succ]
        refine wpE_done (by kernel_rfl) ?_ _
        refine NoPanic.normal ?_
        go_wp2_with fail
        go_meet
        refine ⟨_, da2, dc2, la2, lc2, na2, nc2, sa2, sc2, wa2, wc2, rfl, rfl, by go_simp, by go_simp, by go_simp, by go_simp, by go_simp, by go_simp, by go_simp, by go_simp, by go_simp, by go_simp, Lib.hid (SrvIn.more (p := ?pp1_18) ?sv1_18 (fun q hq => hq.elim)), Lib.hid (HB0.out.below (by repeat (first | with_reducible exact Below.refl _ _ | with_reducible assumption | with_reducible exact below_d1 _ _ _ _ _ | with_reducible exact below_d2 _ _ _ _ _ _ _ _ | with_reducible exact below_d3 _ _ _ _ _ | with_reducible exact below_d4 _ _ _ _ _ _ _ _ | with_reducible exact below_d5 _ _ | with_reducible refine Below.drew ?_ | with_reducible refine Below.drewN' ?_ _ | with_reducible refine below_grow0 _ _ ?_ | with_reducible refine below_alloc0 _ ?_ | with_reducible refine Below.setCell ?_ ?_ _ | with_reducible refine Below.alloc ?_ ?_ _ | with_reducible refine Below.grow _ _ _ ?_ ?_ | omega | (simp; done) | (simp; omega)))), Lib.hid (by repeat (first | with_reducible exact Below.refl _ _ | with_reducible assumption | with_reducible exact below_d1 _ _ _ _ _ | with_reducible exact below_d2 _ _ _ _ _ _ _ _ | with_reducible exact below_d3 _ _ _ _ _ | with_reducible exact below_d4 _ _ _ _ _ _ _ _ | with_reducible exact below_d5 _ _ | with_reducible refine Below.drew ?_ | with_reducible refine Below.drewN' ?_ _ | with_reducible refine below_grow0 _ _ ?_ | with_reducible refine below_alloc0 _ ?_ | with_reducible refine Below.setCell ?_ ?_ _ | with_reducible refine Below.alloc ?_ ?_ _ | with_reducible refine Below.grow _ _ _ ?_ ?_ | omega | (simp; done) | (simp; omega)))⟩
        (case sv1_18 => (first | ((refine H3.out.below ?_); (repeat (first | with_reducible exact Below.refl _ _ | with_reducible assumption | with_reducible exact below_d1 _ _ _ _ _ | with_reducible exact below_d2 _ _ _ _ _ _ _ _ | with_reducible exact below_d3 _ _ _ _ _ | with_reducible exact below_d4 _ _ _ _ _ _ _ _ | with_reducible exact below_d5 _ _ | with_reducible refine Below.drew ?_ | with_reducible refine Below.drewN' ?_ _ | with_reducible refine below_grow0 _ _ ?_ | with_reducible refine below_alloc0 _ ?_ | with_reducible refine Below.setCell ?_ ?_ _ | with_reducible refine Below.alloc ?_ ?_ _ | with_reducible refine Below.grow _ _ _ ?_ ?_ | omega | (simp; done) | (simp; omega))); done) | ((refine H3.out.swap ?_); (repeat (first | with_reducible exact Swap.refl _ _ | with_reducible refine Swap.drew1 ?_ | with_reducible refine Swap.drew2 ?_ | with_reducible refine Swap.drewN1 ?_ | with_reducible refine Swap.drewN2 ?_ | with_reducible refine Swap.grow ?_ _ _ _ | with_reducible refine Swap.alloc ?_ _ | with_reducible refine Swap.new ?_ _ _ ?_ | with_reducible refine Swap.set ?_ _ _ _ ?_ | (simp; done) | (simp; omega))); done) | (have hq : SrvIn (fun q => W0.drew.heap.size ≤ q ∧ q < (grow W0.drew ext3 d3).heap.size) (grow (grow W0 ext3 d3) ext4 d4) S ⟨da2, dc2, la2, lc2, na2, nc2, sa2, sc2, wa2, wc2⟩ := (by have hq := H3.out; refine hq.swap ?_; (repeat (first | with_reducible exact Swap.refl _ _ | with_reducible refine Swap.drew1 ?_ | with_reducible refine Swap.drew2 ?_ | with_reducible refine Swap.drewN1 ?_ | with_reducible refine Swap.drewN2 ?_ | with_reducible refine Swap.grow ?_ _ _ _ | with_reducible refine Swap.alloc ?_ _ | with_reducible refine Swap.new ?_ _ _ ?_ | with_reducible refine Swap.set ?_ _ _ _ ?_ | (simp; done) | (simp; omega)))); (refine hq.below ?_); (repeat (first | with_reducible exact Below.refl _ _ | with_reducible assumption | with_reducible exact below_d1 _ _ _ _ _ | with_reducible exact below_d2 _ _ _ _ _ _ _ _ | with_reducible exact below_d3 _ _ _ _ _ | with_reducible exact below_d4 _ _ _ _ _ _ _ _ | with_reducible exact below_d5 _ _ | with_reducible refine Below.drew ?_ | with_reducible refine Below.drewN' ?_ _ | with_reducible refine below_grow0 _ _ ?_ | with_reducible refine below_alloc0 _ ?_ | with_reducible refine Below.setCell ?_ ?_ _ | with_reducible refine Below.alloc ?_ ?_ _ | with_reducible refine Below.grow _ _ _ ?_ ?_ | omega | (simp; done) | (simp; omega))); done)))
      exact AllE.nil
    refine AllE.cons (by simp only [List.getElem?_toArray]; rfl) (fun K hK => ?gO1_19) ?gL1_19
    case gO1_19 =>
      go_simp
      refine hK.out _ _ ?gT1_19 (fun hHeld => ?_)
      case gT1_19 => ((try dsimp only); (refine ⟨?_, ?_, ?_, ?_, ?_, ?_, ?_, ?_, ?_, ?_⟩ <;> go_simp))
      clear hK K
      try simp only [Act.put, List.setIfInBounds_toArray, List.set_cons_zero, List.set_cons_succ]
      refine wpE_ready (rs := [2]) (by kernel_rfl) (by simp) ?_
      refine AllE.cons (by simp only [List.getElem?_toArray]; rfl) (fun K hK => ?_) AllE.nil
      (refine stepE_app (by rfl) (.const (.slice none 0 0)) (.tmp 37) _ rfl elTxn (B := W.heap.size) (v := .slice none 0 0) (l := []) (m := b) rfl rfl (Ow.nil _ _ _ _ _) (hbW.out.below (by repeat (first | with_reducible exact Below.refl _ _ | with_reducible assumption | with_reducible exact below_d1 _ _ _ _ _ | with_reducible exact below_d2 _ _ _ _ _ _ _ _ | with_reducible exact below_d3 _ _ _ _ _ | with_reducible exact below_d4 _ _ _ _ _ _ _ _ | with_reducible exact below_d5 _ _ | with_reducible refine Below.drew ?_ | with_reducible refine Below.drewN' ?_ _ | with_reducible refine below_grow0 _ _ ?_ | with_reducible refine below_alloc0 _ ?_ | with_reducible refine Below.setCell ?_ ?_ _ | with_reducible refine Below.alloc ?_ ?_ _ | with_reducible refine Below.grow _ _ _ ?_ ?_ | omega | (simp; done) | (simp; omega)))) cTxn_one (by simp [maxLen]; omega) (by simp; omega) (by simp <;> omega) ?_; intro v2 w2 hown2 hg2 _; rw [List.nil_append] at hown2; obtain ⟨A3, c3, rfl, _⟩ := hown2.form; obtain ⟨ext3, d3, rfl⟩ := Below.grown_eq _ (Below.of_grown hg2); have HA1 := Lib.hid hown2; clear hown2 hg2)
      refine hK.out _ _ ?gT1_20 (fun hHeld => ?_)
      case gT1_20 => ((try dsimp only); (refine ⟨?_, ?_, ?_, ?_, ?_, ?_, ?_, ?_, ?_, ?_⟩ <;> go_simp))
      clear hK K
      try simp only [Act.put, List.setIfInBounds_toArray, List.set_cons_zero, List.set_cons_succ]
      refine wpE_ready (rs := [4]) (by kernel_rfl) (by simp) ?_
      refine AllE.cons (by simp only [List.getElem?_toArray]; rfl) (fun K hK => ?_) AllE.nil
      go_simp
      (go_at_call 15; (with_reducible refine (HFO.out W.heap.size ⟨da, dc, la, lc, na, nc, sa, sc, wa, wc⟩ _ _ ?p1 ?p2 ?p3).mono ?_); (case p1 => exact hsW.out.below (by repeat (first | with_reducible exact Below.refl _ _ | with_reducible assumption | with_reducible exact below_d1 _ _ _ _ _ | with_reducible exact below_d2 _ _ _ _ _ _ _ _ | with_reducible exact below_d3 _ _ _ _ _ | with_reducible exact below_d4 _ _ _ _ _ _ _ _ | with_reducible exact below_d5 _ _ | with_reducible refine Below.drew ?_ | with_reducible refine Below.drewN' ?_ _ | with_reducible refine below_grow0 _ _ ?_ | with_reducible refine below_alloc0 _ ?_ | with_reducible refine Below.setCell ?_ ?_ _ | with_reducible refine Below.alloc ?_ ?_ _ | with_reducible refine Below.grow _ _ _ ?_ ?_ | omega | (simp; done) | (simp; omega)))); (case p2 => exact HA1.out.sl.below (by repeat (first | with_reducible exact Below.refl _ _ | with_reducible assumption | with_reducible exact below_d1 _ _ _ _ _ | with_reducible exact below_d2 _ _ _ _ _ _ _ _ | with_reducible exact below_d3 _ _ _ _ _ | with_reducible exact below_d4 _ _ _ _ _ _ _ _ | with_reducible exact below_d5 _ _ | with_reducible refine Below.drew ?_ | with_reducible refine Below.drewN' ?_ _ | with_reducible refine below_grow0 _ _ ?_ | with_reducible refine below_alloc0 _ ?_ | with_reducible refine Below.setCell ?_ ?_ _ | with_reducible refine Below.alloc ?_ ?_ _ | with_reducible refine Below.grow _ _ _ ?_ ?_ | omega | (simp; done) | (simp; omega)))); (case p3 => exact htW.out.below (by repeat (first | with_reducible exact Below.refl _ _ | with_reducible assumption | with_reducible exact below_d1 _ _ _ _ _ | with_reducible exact below_d2 _ _ _ _ _ _ _ _ | with_reducible exact below_d3 _ _ _ _ _ | with_reducible exact below_d4 _ _ _ _ _ _ _ _ | with_reducible exact below_d5 _ _ | with_reducible refine Below.drew ?_ | with_reducible refine Below.drewN' ?_ _ | with_reducible refine below_grow0 _ _ ?_ | with_reducible refine below_alloc0 _ ?_ | with_reducible refine Below.setCell ?_ ?_ _ | with_reducible refine Below.alloc ?_ ?_ _ | with_reducible refine Below.grow _ _ _ ?_ ?_ | omega | (simp; done) | (simp; omega)))); rintro e w3 ⟨da2, dc2, la2, lc2, na2, nc2, sa2, sc2, wa2, wc2, rfl, h3, hb3⟩; obtain ⟨ext4, d4, rfl⟩ := Below.grown_eq _ hb3; have H3 := Lib.hid h3; clear h3 hb3; have hWW := hW.out; subst hWW)
      refine hK.out _ _ ?gT1_21 (fun hHeld => ?_)
      case gT1_21 => ((try dsimp only); (refine ⟨?_, ?_, ?_, ?_, ?_, ?_, ?_, ?_, ?_, ?_⟩ <;> go_simp))
      clear hK K
      try simp only [Act.put, List.setIfInBounds_toArray, List.set_cons_zero, List.set_cons_succ]
      (refine wpE_takeP (i := 5) (v := ?gV1_22) (by simp only [List.getElem?_toArray]; rfl) (by kernel_rfl) (by kernel_rfl) (by kernel_rfl) (by rfl) (fun _ _ _ h => h) (Or.inl ⟨by rfl, ?gY1_22⟩) (by assumption) ?gR1_22; case gY1_22 => (intro w hSw; (try dsimp only at hSw); go_simp <;> with_reducible rfl))
      try simp only [Act.put, List.setIfInBounds_toArray, List.set_cons_zero, List.set_cons_succ]
      (refine wpE_takeP (i := 6) (v := ?gV1_23) (by simp only [List.getElem?_toArray]; rfl) (by kernel_rfl) (by kernel_rfl) (by kernel_rfl) (by rfl) (fun _ _ _ h => h) (Or.inl ⟨by rfl, ?gY1_23⟩) (by assumption) ?gR1_23; case gY1_23 => (intro w hSw; (try dsimp only at hSw); go_simp <;> with_reducible rfl))
      try simp only [Act.put, List.setIfInBounds_toArray, List.set_cons_zero, List.set_cons_succ]
      (refine wpE_takeP (i := 7) (v := ?gV1_24) (by simp only [List.getElem?_toArray]; rfl) (by kernel_rfl) (by kernel_rfl) (by kernel_rfl) (by rfl) (fun _ _ _ h => h) (Or.inl ⟨by rfl, ?gY1_24⟩) (by assumption) ?gR1_24; case gY1_24 => (intro w hSw; (try dsimp only at hSw); go_simp <;> with_reducible rfl))
      try simp only [Act.put, List.setIfInBounds_toArray, List.set_cons_zero, List.set_cons_succ]
      refine wpE_ready (rs := [9]) (by kernel_rfl) (by simp) ?_
      refine AllE.last (by simp only [List.getElem?_toArray]; rfl) (by kernel_rfl) (fun K hK => ?_) AllE.nil
      go_simp
      refine hK.out _ _ ?_
      clear hK K
      try simp only [Act.put, List.setIfInBounds_toArray, List.set_cons_zero, List.set_cons_succ]
      (refine wpE_takeQ (i := 10) (v := ?gV1_26) (by simp only [List.getElem?_toArray]; rfl) (by kernel_rfl) (by kernel_rfl) (by kernel_rfl) (by rfl) (fun _ _ _ h => h) (Or.inl ⟨by rfl, ?gY1_26⟩) (by kernel_rfl) ?gR1_26; case gY1_26 => (intro w hSw; (try dsimp only at hSw); go_simp <;> with_reducible rfl))
      try simp only [Act.put, List.setIfInBounds_toArray, List.set_cons_zero, List.set_cons_succ]
      refine wpE_done (by kernel_rfl) ?_ _
      refine NoPanic.normal ?_
      go_wp2_with fail
      go_meet
      refine ⟨_, da2, dc2, la2, lc2, na2, nc2, sa2, sc2, wa2, wc2, rfl, rfl, by go_simp, by go_simp, by go_simp, by go_simp, by go_simp, by go_simp, by go_simp, by go_simp, by go_simp, by go_simp, Lib.hid (SrvIn.more (p := ?pp1_26) ?sv1_26 (fun q hq => hq.elim)), Lib.hid (HB0.out.below (by repeat (first | with_reducible exact Below.refl _ _ | with_reducible assumption | with_reducible exact below_d1 _ _ _ _ _ | with_reducible exact below_d2 _ _ _ _ _ _ _ _ | with_reducible exact below_d3 _ _ _ _ _ | with_reducible exact below_d4 _ _ _ _ _ _ _ _ | with_reducible exact below_d5 _ _ | with_reducible refine Below.drew ?_ | with_reducible refine Below.drewN' ?_ _ | with_reducible refine below_grow0 _ _ ?_ | with_reducible refine below_alloc0 _ ?_ | with_reducible refine Below.setCell ?_ ?_ _ | with_reducible refine Below.alloc ?_ ?_ _ | with_reducible refine Below.grow _ _ _ ?_ ?_ | omega | (simp; done) | (simp; omega)))), Lib.hid (by repeat (first | with_reducible exact Below.refl _ _ | with_reducible assumption | with_reducible exact below_d1 _ _ _ _ _ | with_reducible exact below_d2 _ _ _ _ _ _ _ _ | with_reducible exact below_d3 _ _ _ _ _ | with_reducible exact below_d4 _ _ _ _ _ _ _ _ | with_reducible exact below_d5 _ _ | with_reducible refine Below.drew ?_ | with_reducible refine Below.drewN' ?_ _ | with_reducible refine below_grow0 _ _ ?_ | with_reducible refine below_alloc0 _ ?_ | with_reducible refine Below.setCell ?_ ?_ _ | with_reducible refine Below.alloc ?_ ?_ _ | with_reducible refine Below.grow _ _ _ ?_ ?_ | omega | (simp; done) | (simp; omega)))⟩
      (case sv1_26 => (first | ((refine H3.out.below ?_); (repeat (first | with_reducible exact Below.refl _ _ | with_reducible assumption | with_reducible exact below_d1 _ _ _ _ _ | with_reducible exact below_d2 _ _ _ _ _ _ _ _ | with_reducible exact below_d3 _ _ _ _ _ | with_reducible exact below_d4 _ _ _ _ _ _ _ _ | with_reducible exact below_d5 _ _ | with_reducible refine Below.drew ?_ | with_reducible refine Below.drewN' ?_ _ | with_reducible refine below_grow0 _ _ ?_ | with_reducible refine below_alloc0 _ ?_ | with_reducible refine Below.setCell ?_ ?_ _ | with_reducible refine Below.alloc ?_ ?_ _ | with_reducible refine Below.grow _ _ _ ?_ ?_ | omega | (simp; done) | (simp; omega))); done) | ((refine H3.out.swap ?_); (repeat (first | with_reducible exact Swap.refl _ _ | with_reducible refine Swap.drew1 ?_ | with_reducible refine Swap.drew2 ?_ | with_reducible refine Swap.drewN1 ?_ | with_reducible refine Swap.drewN2 ?_ | with_reducible refine Swap.grow ?_ _ _ _ | with_reducible refine Swap.alloc ?_ _ | with_reducible refine Swap.new ?_ _ _ ?_ | with_reducible refine Swap.set ?_ _ _ _ ?_ | (simp; done) | (simp; omega))); done) | (have hq : SrvIn (fun q => W0.drew.heap.size ≤ q ∧ q < (grow W0.drew ext3 d3).heap.size) (grow (grow W0 ext3 d3) ext4 d4) S ⟨da2, dc2, la2, lc2, na2, nc2, sa2, sc2, wa2, wc2⟩ := (by have hq := H3.out; refine hq.swap ?_; (repeat (first | with_reducible exact Swap.refl _ _ | with_reducible refine Swap.drew1 ?_ | with_reducible refine Swap.drew2 ?_ | with_reducible refine Swap.drewN1 ?_ | with_reducible refine Swap.drewN2 ?_ | with_reducible refine Swap.grow ?_ _ _ _ | with_reducible refine Swap.alloc ?_ _ | with_reducible refine Swap.new ?_ _ _ ?_ | with_reducible refine Swap.set ?_ _ _ _ ?_ | (simp; done) | (simp; omega)))); (refine hq.below ?_); (repeat (first | with_reducible exact Below.refl _ _ | with_reducible assumption | with_reducible exact below_d1 _ _ _ _ _ | with_reducible exact below_d2 _ _ _ _ _ _ _ _ | with_reducible exact below_d3 _ _ _ _ _ | with_reducible exact below_d4 _ _ _ _ _ _ _ _ | with_reducible exact below_d5 _ _ | with_reducible refine Below.drew ?_ | with_reducible refine Below.drewN' ?_ _ | with_reducible refine below_grow0 _ _ ?_ | with_reducible refine below_alloc0 _ ?_ | with_reducible refine Below.setCell ?_ ?_ _ | with_reducible refine Below.alloc ?_ ?_ _ | with_reducible refine Below.grow _ _ _ ?_ ?_ | omega | (simp; done) | (simp; omega))); done)))
    exact AllE.nil
  case rest =>
    obtain ⟨W1, rfl⟩ : ∃ W1 : World, W1 = wc := ⟨_, rfl⟩
    obtain ⟨g, da, dc, la, lc, na, nc, sa, sc, wa, wc, rfl, rfl, x0, x1, x2, x3, x4, x5, x6, x7, x8, x9, S1, HB1, hb1⟩ := hcut
    have hb01 := hb1.out
    have hbw : Below w.heap.size w W1 := Below.own hWb hb01
    clear S0 HB0 HT0 k0 k1 k2 k3 k4 k5 k6 k7 k8 k9 hb1 HFO hb01 hWb
    rcases HIS.out with ⟨hep, rfl, rfl⟩ | ⟨hep, rfl, rfl⟩
    · clear HIS
      have hfl := folA_len b a
      have HFL := Lib.hid hfl
      have HZ := Lib.hid (fol_small HOB.out HOA.out hb40 ha40)
      have HFK := Lib.hid (folA_ok HOB.out HOA.out)
      have HZX := Lib.hid (fun (i : Nat) (x y : Txn) (hx : (folA b a)[i]? = some x) (hy : b[i]? = some y) => folA_zx hx hy)
      generalize folA b a = F at *
      clear hfl
      have hd1 : decide (ep < 0) = false := decide_eq_false (by unfold Half at hep; omega)
      have hd2 : decide (2147483647 < ep) = false := decide_eq_false (by unfold Half at hep; omega)
      have HC := Lib.hid (fun (v : SrvV) (n : Nat) (p : Nat → Prop) (W : World) (h : SrvIn p W (upE ep F) v) => by
        have h1 := crash_upE ep F v n p W h hep HZ.out
        rw [HFL.out] at h1
        unfold DownE at h1
        exact h1)
      have HU := Lib.hid (fun (v : Value) (W : World) (h : Sl cFile 3 W v (dskE ep F)) => by
        have h1 := boot_upE ep F v W h hep HFK.out HZ.out
        unfold UpE at h1
        rw [HFL.out] at h1
        exact h1)
      have HSL := Lib.hid (fun (W : World) (v v2 : Value) (h : Sl cTxn 7 W v F) (h2 : Sl cTxn 7 W v2 F) => sameLog_eq v v2 F W h h2 (by rw [HFL.out]; omega))
      have HPK := Lib.hid (fun (W : World) => pickI keep 50 W (by decide) (by decide))
      have HLG : Hid (Sl cTxn 7 W1 (.slice la b.length lc) F) := Lib.hid (by have hq := S1.out.log.1; simp only [HFL.out] at hq; exact hq)
      simp only [HFL.out] at x4
      replace x1 : W1.cell? ⟨g, 1, none⟩ = some (.slice da 2 dc) := x1
      simp only [List.length_nil, List.length_cons] at x7 x8 x9
      simp only at x0 x2 x3 x5 x6
      generalize dskE ep F = D at *
      go_upto_region 10 with fail
      go_cut [15, 16] (fun s15 s16 wx => ∃ (g' : Nat) (da' : Option Addr) (dc' : Nat), s15 = .pointer (some ⟨g', 0, none⟩) ∧ s16 = .int .i64 0 ∧ wx.cell? ⟨g', 1, none⟩ = some (.slice da' 2 dc') ∧ Hid (Sl cFile 3 wx (.slice da' 2 dc') D) ∧ Hid (Below W1.heap.size W1 wx))
      case first =>
        refine wp_region_noPanic ?_
        refine wp_region_W (by kernel_rfl) (fun W hW => ?_)
        have cl0 : W.cell? ⟨g, 0, none⟩ = some (.bool true) := by rw [hW.out]; go_simp
        have cl1 : W.cell? ⟨g, 1, none⟩ = some (.slice da 2 dc) := by rw [hW.out]; go_simp
        have cl2 : W.cell? ⟨g, 2, none⟩ = some (.int .i64 0) := by rw [hW.out]; go_simp
        have cl3 : W.cell? ⟨g, 3, none⟩ = some (.int .i64 ep) := by rw [hW.out]; go_simp
        have cl4 : W.cell? ⟨g, 4, none⟩ = some (.slice la b.length lc) := by rw [hW.out]; go_simp
        have cl5 : W.cell? ⟨g, 5, none⟩ = some (.int .i64 0) := by rw [hW.out]; go_simp
        have cl6 : W.cell? ⟨g, 6, none⟩ = some (.int .i64 0) := by rw [hW.out]; go_simp
        have cl7 : W.cell? ⟨g, 7, none⟩ = some (.slice na 1 nc) := by rw [hW.out]; go_simp
        have cl8 : W.cell? ⟨g, 8, none⟩ = some (.slice sa 0 sc) := by rw [hW.out]; go_simp
        have cl9 : W.cell? ⟨g, 9, none⟩ = some (.slice wa 0 wc) := by rw [hW.out]; go_simp
        have hsW := Lib.hid (S1.out.below (w' := W) (by rw [hW.out]; exact (by repeat (first | with_reducible exact Below.refl _ _ | with_reducible assumption | with_reducible exact below_d1 _ _ _ _ _ | with_reducible exact below_d2 _ _ _ _ _ _ _ _ | with_reducible exact below_d3 _ _ _ _ _ | with_reducible exact below_d4 _ _ _ _ _ _ _ _ | with_reducible exact below_d5 _ _ | with_reducible refine Below.drew ?_ | with_reducible refine Below.drewN' ?_ _ | with_reducible refine below_grow0 _ _ ?_ | with_reducible refine below_alloc0 _ ?_ | with_reducible refine Below.setCell ?_ ?_ _ | with_reducible refine Below.alloc ?_ ?_ _ | with_reducible refine Below.grow _ _ _ ?_ ?_ | omega | (simp; done) | (simp; omega)))))
        refine wpAny_S (fun w' => w'.cell? ⟨g, 0, none⟩ = some (.bool true) ∧ w'.cell? ⟨g, 1, none⟩ = some (.slice da 2 dc) ∧ w'.cell? ⟨g, 2, none⟩ = some (.int .i64 0) ∧ w'.cell? ⟨g, 3, none⟩ = some (.int .i64 ep) ∧ w'.cell? ⟨g, 4, none⟩ = some (.slice la b.length lc) ∧ w'.cell? ⟨g, 5, none⟩ = some (.int .i64 0) ∧ w'.cell? ⟨g, 6, none⟩ = some (.int .i64 0) ∧ w'.cell? ⟨g, 7, none⟩ = some (.slice na 1 nc) ∧ w'.cell? ⟨g, 8, none⟩ = some (.slice sa 0 sc) ∧ w'.cell? ⟨g, 9, none⟩ = some (.slice wa 0 wc)) (fun i => i == 8) (by (try dsimp only); (refine ⟨?_, ?_, ?_, ?_, ?_, ?_, ?_, ?_, ?_, ?_⟩ <;> go_simp)) (fun hHeld => ?_)
        (refine wpE_take (i := 0) (v := ?gV2_1) (by simp only [List.getElem?_toArray]; rfl) (by kernel_rfl) (by kernel_rfl) (by kernel_rfl) (by kernel_rfl) (by kernel_rfl) (by rfl) (fun _ _ _ h => h) (Or.inl ⟨by rfl, ?gY2_1⟩) (by assumption) ?gR2_1; case gY2_1 => (intro w hSw; (try dsimp only at hSw); go_simp <;> with_reducible rfl))
        try simp only [Act.put, List.setIfInBounds_toArray, List.set_cons_zero, List.set_cons_succ]
        (refine wpE_takeP (i := 1) (v := ?gV2_2) (by simp only [List.getElem?_toArray]; rfl) (by kernel_rfl) (by kernel_rfl) (by kernel_rfl) (by rfl) (fun _ _ _ h => h) (Or.inl ⟨by rfl, ?gY2_2⟩) (by assumption) ?gR2_2; case gY2_2 => (intro w hSw; (try dsimp only at hSw); go_simp <;> with_reducible rfl))
        try simp only [Act.put, List.setIfInBounds_toArray, List.set_cons_zero, List.set_cons_succ]
        refine wpE_ready (rs := [2, 7]) (by kernel_rfl) (by simp) ?_
        refine AllE.cons (by simp only [List.getElem?_toArray]; rfl) (fun K hK => ?gO2_3) ?gL2_3
        case gO2_3 =>
          go_simp
          (go_at_call 10; (with_reducible refine (HPK.out _).mono ?_); rintro e w3 ⟨f, hf, rfl, rfl⟩)
          refine hK.out _ _ ?gT2_3 (fun hHeld => ?_)
          case gT2_3 => ((try dsimp only); (refine ⟨?_, ?_, ?_, ?_, ?_, ?_, ?_, ?_, ?_, ?_⟩ <;> go_simp))
          clear hK K
          try simp only [Act.put, List.setIfInBounds_toArray, List.set_cons_zero, List.set_cons_succ]
          refine wpE_ready (rs := [3, 7]) (by kernel_rfl) (by simp) ?_
          refine AllE.cons (by simp only [List.getElem?_toArray]; rfl) (fun K hK => ?gO2_4) ?gL2_4
          case gO2_4 =>
            go_simp
            (go_at_call 9; (with_reducible refine (HC.out ⟨da, dc, la, lc, na, nc, sa, sc, wa, wc⟩ _ _ _ (hsW.out.below (by repeat (first | with_reducible exact Below.refl _ _ | with_reducible assumption | with_reducible exact below_d1 _ _ _ _ _ | with_reducible exact below_d2 _ _ _ _ _ _ _ _ | with_reducible exact below_d3 _ _ _ _ _ | with_reducible exact below_d4 _ _ _ _ _ _ _ _ | with_reducible exact below_d5 _ _ | with_reducible refine Below.drew ?_ | with_reducible refine Below.drewN' ?_ _ | with_reducible refine below_grow0 _ _ ?_ | with_reducible refine below_alloc0 _ ?_ | with_reducible refine Below.setCell ?_ ?_ _ | with_reducible refine Below.alloc ?_ ?_ _ | with_reducible refine Below.grow _ _ _ ?_ ?_ | omega | (simp; done) | (simp; omega))))).mono ?_); rintro e w4 ⟨da2, dc2, la2, lc2, na2, nc2, sa2, sc2, wa2, wc2, rfl, h3, hb3⟩; obtain ⟨ext4, d4, rfl⟩ := Below.grown_eq _ hb3; have H3 := Lib.hid h3; clear h3 hb3; have hWW := hW.out; subst hWW)
            refine hK.out _ _ ?gT2_4 (fun hHeld => ?_)
            case gT2_4 => ((try dsimp only); (refine ⟨?_, ?_, ?_, ?_, ?_, ?_, ?_, ?_, ?_, ?_⟩ <;> go_simp))
            clear hK K
            try simp only [Act.put, List.setIfInBounds_toArray, List.set_cons_zero, List.set_cons_succ]
            (refine wpE_takeP (i := 4) (v := ?gV2_5) (by simp only [List.getElem?_toArray]; rfl) (by kernel_rfl) (by kernel_rfl) (by kernel_rfl) (by rfl) (fun _ _ _ h => h) (Or.inl ⟨by rfl, ?gY2_5⟩) (by assumption) ?gR2_5; case gY2_5 => (intro w hSw; (try dsimp only at hSw); go_simp <;> with_reducible rfl))
            try simp only [Act.put, List.setIfInBounds_toArray, List.set_cons_zero, List.set_cons_succ]
            (refine wpE_takeP (i := 5) (v := ?gV2_6) (by simp only [List.getElem?_toArray]; rfl) (by kernel_rfl) (by kernel_rfl) (by kernel_rfl) (by rfl) (fun _ _ _ h => h) (Or.inl ⟨by rfl, ?gY2_6⟩) (by assumption) ?gR2_6; case gY2_6 => (intro w hSw; (try dsimp only at hSw); go_simp <;> with_reducible rfl))
            try simp only [Act.put, List.setIfInBounds_toArray, List.set_cons_zero, List.set_cons_succ]
            (refine wpE_takeP (i := 6) (v := ?gV2_7) (by simp only [List.getElem?_toArray]; rfl) (by kernel_rfl) (by kernel_rfl) (by kernel_rfl) (by rfl) (fun _ _ _ h => h) (Or.inl ⟨by rfl, ?gY2_7⟩) (by assumption) ?gR2_7; case gY2_7 => (intro w hSw; (try dsimp only at hSw); go_simp <;> with_reducible rfl))
            try simp only [Act.put, List.setIfInBounds_toArray, List.set_cons_zero, List.set_cons_succ]
            refine wpE_ready (rs := [7]) (by kernel_rfl) (by simp) ?_
            refine AllE.cons (by simp only [List.getElem?_toArray]; rfl) (fun K hK => ?_) AllE.nil
            go_simp
            refine hK.out _ _ ?gT2_8 (fun hHeld => ?_)
            case gT2_8 => ((try dsimp only); (refine ⟨?_, ?_, ?_, ?_, ?_, ?_, ?_, ?_, ?_, ?_⟩ <;> go_simp))
            clear hK K
            try simp only [Act.put, List.setIfInBounds_toArray, List.set_cons_zero, List.set_cons_succ]
            refine wpE_ready (rs := [8]) (by kernel_rfl) (by simp) ?_
            refine AllE.last (by simp only [List.getElem?_toArray]; rfl) (by kernel_rfl) (fun K hK => ?_) AllE.nil
            go_simp
            refine hK.out _ _ ?_
            clear hK K
            try simp only [Act.put, List.setIfInBounds_toArray, List.set_cons_zero, List.set_cons_succ]
            (refine wpE_takeQ (i := 9) (v := ?gV2_10) (by simp only [List.getElem?_toArray]; rfl) (by kernel_rfl) (by kernel_rfl) (by kernel_rfl) (by rfl) (fun _ _ _ h => h) (Or.inl ⟨by rfl, ?gY2_10⟩) (by kernel_rfl) ?gR2_10; case gY2_10 => (intro w hSw; (try dsimp only at hSw); go_simp <;> with_reducible rfl))
            try simp only [Act.put, List.setIfInBounds_toArray, List.set_cons_zero, List.set_cons_succ]
            refine wpE_done (by kernel_rfl) ?_ _
            refine NoPanic.normal ?_
            go_wp2_with fail
            go_meet
            refine ⟨_, da2, dc2, rfl, rfl, by go_simp, Lib.hid ?sv2_10, Lib.hid (by repeat (first | with_reducible exact Below.refl _ _ | with_reducible assumption | with_reducible exact below_d1 _ _ _ _ _ | with_reducible exact below_d2 _ _ _ _ _ _ _ _ | with_reducible exact below_d3 _ _ _ _ _ | with_reducible exact below_d4 _ _ _ _ _ _ _ _ | with_reducible exact below_d5 _ _ | with_reducible refine Below.drew ?_ | with_reducible refine Below.drewN' ?_ _ | with_reducible refine below_grow0 _ _ ?_ | with_reducible refine below_alloc0 _ ?_ | with_reducible refine Below.setCell ?_ ?_ _ | with_reducible refine Below.alloc ?_ ?_ _ | with_reducible refine Below.grow _ _ _ ?_ ?_ | omega | (simp; done) | (simp; omega)))⟩
            (case sv2_10 => (first | ((refine SlA.sl_swap H3.out ?_); (repeat (first | with_reducible exact Swap.refl _ _ | with_reducible refine Swap.drew1 ?_ | with_reducible refine Swap.drew2 ?_ | with_reducible refine Swap.drewN1 ?_ | with_reducible refine Swap.drewN2 ?_ | with_reducible refine Swap.grow ?_ _ _ _ | with_reducible refine Swap.alloc ?_ _ | with_reducible refine Swap.new ?_ _ _ ?_ | with_reducible refine Swap.set ?_ _ _ _ ?_ | (simp; done) | (simp; omega))); done) | ((refine SlA.sl_below H3.out ?_); (repeat (first | with_reducible exact Below.refl _ _ | with_reducible assumption | with_reducible exact below_d1 _ _ _ _ _ | with_reducible exact below_d2 _ _ _ _ _ _ _ _ | with_reducible exact below_d3 _ _ _ _ _ | with_reducible exact below_d4 _ _ _ _ _ _ _ _ | with_reducible exact below_d5 _ _ | with_reducible refine Below.drew ?_ | with_reducible refine Below.drewN' ?_ _ | with_reducible refine below_grow0 _ _ ?_ | with_reducible refine below_alloc0 _ ?_ | with_reducible refine Below.setCell ?_ ?_ _ | with_reducible refine Below.alloc ?_ ?_ _ | with_reducible refine Below.grow _ _ _ ?_ ?_ | omega | (simp; done) | (simp; omega))); done)))
          refine AllE.cons (by simp only [List.getElem?_toArray]; rfl) (fun K hK => ?gO2_11) ?gL2_11
          case gO2_11 =>
            go_simp
            refine hK.out _ _ ?gT2_11 (fun hHeld => ?_)
            case gT2_11 => ((try dsimp only); (refine ⟨?_, ?_, ?_, ?_, ?_, ?_, ?_, ?_, ?_, ?_⟩ <;> go_simp))
            clear hK K
            try simp only [Act.put, List.setIfInBounds_toArray, List.set_cons_zero, List.set_cons_succ]
            refine wpE_ready (rs := [3]) (by kernel_rfl) (by simp) ?_
            refine AllE.cons (by simp only [List.getElem?_toArray]; rfl) (fun K hK => ?_) AllE.nil
            go_simp
            (go_at_call 9; (with_reducible refine (HC.out ⟨da, dc, la, lc, na, nc, sa, sc, wa, wc⟩ _ _ _ (hsW.out.below (by repeat (first | with_reducible exact Below.refl _ _ | with_reducible assumption | with_reducible exact below_d1 _ _ _ _ _ | with_reducible exact below_d2 _ _ _ _ _ _ _ _ | with_reducible exact below_d3 _ _ _ _ _ | with_reducible exact below_d4 _ _ _ _ _ _ _ _ | with_reducible exact below_d5 _ _ | with_reducible refine Below.drew ?_ | with_reducible refine Below.drewN' ?_ _ | with_reducible refine below_grow0 _ _ ?_ | with_reducible refine below_alloc0 _ ?_ | with_reducible refine Below.setCell ?_ ?_ _ | with_reducible refine Below.alloc ?_ ?_ _ | with_reducible refine Below.grow _ _ _ ?_ ?_ | omega | (simp; done) | (simp; omega))))).mono ?_); rintro e w4 ⟨da2, dc2, la2, lc2, na2, nc2, sa2, sc2, wa2, wc2, rfl, h3, hb3⟩; obtain ⟨ext4, d4, rfl⟩ := Below.grown_eq _ hb3; have H3 := Lib.hid h3; clear h3 hb3; have hWW := hW.out; subst hWW)
            refine hK.out _ _ ?gT2_12 (fun hHeld => ?_)
            case gT2_12 => ((try dsimp only); (refine ⟨?_, ?_, ?_, ?_, ?_, ?_, ?_, ?_, ?_, ?_⟩ <;> go_simp))
            clear hK K
            try simp only [Act.put, List.setIfInBounds_toArray, List.set_cons_zero, List.set_cons_succ]
            (refine wpE_takeP (i := 4) (v := ?gV2_13) (by simp only [List.getElem?_toArray]; rfl) (by kernel_rfl) (by kernel_rfl) (by kernel_rfl) (by rfl) (fun _ _ _ h => h) (Or.inl ⟨by rfl, ?gY2_13⟩) (by assumption) ?gR2_13; case gY2_13 => (intro w hSw; (try dsimp only at hSw); go_simp <;> with_reducible rfl))
            try simp only [Act.put, List.setIfInBounds_toArray, List.set_cons_zero, List.set_cons_succ]
            (refine wpE_takeP (i := 5) (v := ?gV2_14) (by simp only [List.getElem?_toArray]; rfl) (by kernel_rfl) (by kernel_rfl) (by kernel_rfl) (by rfl) (fun _ _ _ h => h) (Or.inl ⟨by rfl, ?gY2_14⟩) (by assumption) ?gR2_14; case gY2_14 => (intro w hSw; (try dsimp only at hSw); go_simp <;> with_reducible rfl))
            try simp only [Act.put, List.setIfInBounds_toArray, List.set_cons_zero, List.set_cons_succ]
            (refine wpE_takeP (i := 6) (v := ?gV2_15) (by simp only [List.getElem?_toArray]; rfl) (by kernel_rfl) (by kernel_rfl) (by kernel_rfl) (by rfl) (fun _ _ _ h => h) (Or.inl ⟨by rfl, ?gY2_15⟩) (by assumption) ?gR2_15; case gY2_15 => (intro w hSw; (try dsimp only at hSw); go_simp <;> with_reducible rfl))
            try simp only [Act.put, List.setIfInBounds_toArray, List.set_cons_zero, List.set_cons_succ]
            refine wpE_ready (rs := [8]) (by kernel_rfl) (by simp) ?_
            refine AllE.last (by simp only [List.getElem?_toArray]; rfl) (by kernel_rfl) (fun K hK => ?_) AllE.nil
            go_simp
            refine hK.out _ _ ?_
            clear hK K
            try simp only [Act.put, List.setIfInBounds_toArray, List.set_cons_zero, List.set_cons_succ]
            (refine wpE_takeQ (i := 9) (v := ?gV2_17) (by simp only [List.getElem?_toArray]; rfl) (by kernel_rfl) (by kernel_rfl) (by kernel_rfl) (by rfl) (fun _ _ _ h => h) (Or.inl ⟨by rfl, ?gY2_17⟩) (by kernel_rfl) ?gR2_17; case gY2_17 => (intro w hSw; (try dsimp only at hSw); go_simp <;> with_reducible rfl))
            try simp only [Act.put, List.setIfInBounds_toArray, List.set_cons_zero, List.set_cons_succ]
            refine wpE_done (by kernel_rfl) ?_ _
            refine NoPanic.normal ?_
            go_wp2_with fail
            go_meet
            refine ⟨_, da2, dc2, rfl, rfl, by go_simp, Lib.hid ?sv2_17, Lib.hid (by repeat (first | with_reducible exact Below.refl _ _ | with_reducible assumption | with_reducible exact below_d1 _ _ _ _ _ | with_reducible exact below_d2 _ _ _ _ _ _ _ _ | with_reducible exact below_d3 _ _ _ _ _ | with_reducible exact below_d4 _ _ _ _ _ _ _ _ | with_reducible exact below_d5 _ _ | with_reducible refine Below.drew ?_ | with_reducible refine Below.drewN' ?_ _ | with_reducible refine below_grow0 _ _ ?_ | with_reducible refine below_alloc0 _ ?_ | with_reducible refine Below.setCell ?_ ?_ _ | with_reducible refine Below.alloc ?_ ?_ _ | with_reducible refine Below.grow _ _ _ ?_ ?_ | omega | (simp; done) | (simp; omega)))⟩
            (case sv2_17 => (first | ((refine SlA.sl_swap H3.out ?_); (repeat (first | with_reducible exact Swap.refl _ _ | with_reducible refine Swap.drew1 ?_ | with_reducible refine Swap.drew2 ?_ | with_reducible refine Swap.drewN1 ?_ | with_reducible refine Swap.drewN2 ?_ | with_reducible refine Swap.grow ?_ _ _ _ | with_reducible refine Swap.alloc ?_ _ | with_reducible refine Swap.new ?_ _ _ ?_ | with_reducible refine Swap.set ?_ _ _ _ ?_ | (simp; done) | (simp; omega))); done) | ((refine SlA.sl_below H3.out ?_); (repeat (first | with_reducible exact Below.refl _ _ | with_reducible assumption | with_reducible exact below_d1 _ _ _ _ _ | with_reducible exact below_d2 _ _ _ _ _ _ _ _ | with_reducible exact below_d3 _ _ _ _ _ | with_reducible exact below_d4 _ _ _ _ _ _ _ _ | with_reducible exact below_d5 _ _ | with_reducible refine Below.drew ?_ | with_reducible refine Below.drewN' ?_ _ | with_reducible refine below_grow0 _ _ ?_ | with_reducible refine below_alloc0 _ ?_ | with_reducible refine Below.setCell ?_ ?_ _ | with_reducible refine Below.alloc ?_ ?_ _ | with_reducible refine Below.grow _ _ _ ?_ ?_ | omega | (simp; done) | (simp; omega))); done)))
          exact AllE.nil
        refine AllE.cons (by simp only [List.getElem?_toArray]; rfl) (fun K hK => ?gO2_18) ?gL2_18
        case gO2_18 =>
          go_simp
          refine hK.out _ _ ?gT2_18 (fun hHeld => ?_)
          case gT2_18 => ((try dsimp only); (refine ⟨?_, ?_, ?_, ?_, ?_, ?_, ?_, ?_, ?_, ?_⟩ <;> go_simp))
          clear hK K
          try simp only [Act.put, List.setIfInBounds_toArray, List.set_cons_zero, List.set_cons_succ]
          refine wpE_ready (rs := [2]) (by kernel_rfl) (by simp) ?_
          refine AllE.cons (by simp only [List.getElem?_toArray]; rfl) (fun K hK => ?_) AllE.nil
          go_simp
          (go_at_call 10; (with_reducible refine (HPK.out _).mono ?_); rintro e w3 ⟨f, hf, rfl, rfl⟩)
          refine hK.out _ _ ?gT2_19 (fun hHeld => ?_)
          case gT2_19 => ((try dsimp only); (refine ⟨?_, ?_, ?_, ?_, ?_, ?_, ?_, ?_, ?_, ?_⟩ <;> go_simp))
          clear hK K
          try simp only [Act.put, List.setIfInBounds_toArray, List.set_cons_zero, List.set_cons_succ]
          refine wpE_ready (rs := [3]) (by kernel_rfl) (by simp) ?_
          refine AllE.cons (by simp only [List.getElem?_toArray]; rfl) (fun K hK => ?_) AllE.nil
          go_simp
          (go_at_call 9; (with_reducible refine (HC.out ⟨da, dc, la, lc, na, nc, sa, sc, wa, wc⟩ _ _ _ (hsW.out.below (by repeat (first | with_reducible exact Below.refl _ _ | with_reducible assumption | with_reducible exact below_d1 _ _ _ _ _ | with_reducible exact below_d2 _ _ _ _ _ _ _ _ | with_reducible exact below_d3 _ _ _ _ _ | with_reducible exact below_d4 _ _ _ _ _ _ _ _ | with_reducible exact below_d5 _ _ | with_reducible refine Below.drew ?_ | with_reducible refine Below.drewN' ?_ _ | with_reducible refine below_grow0 _ _ ?_ | with_reducible refine below_alloc0 _ ?_ | with_reducible refine Below.setCell ?_ ?_ _ | with_reducible refine Below.alloc ?_ ?_ _ | with_reducible refine Below.grow _ _ _ ?_ ?_ | omega | (simp; done) | (simp; omega))))).mono ?_); rintro e w4 ⟨da2, dc2, la2, lc2, na2, nc2, sa2, sc2, wa2, wc2, rfl, h3, hb3⟩; obtain ⟨ext4, d4, rfl⟩ := Below.grown_eq _ hb3; have H3 := Lib.hid h3; clear h3 hb3; have hWW := hW.out; subst hWW)
          refine hK.out _ _ ?gT2_20 (fun hHeld => ?_)
          case gT2_20 => ((try dsimp only); (refine ⟨?_, ?_, ?_, ?_, ?_, ?_, ?_, ?_, ?_, ?_⟩ <;> go_simp))
          clear hK K
          try simp only [Act.put, List.setIfInBounds_toArray, List.set_cons_zero, List.set_cons_succ]
          (refine wpE_takeP (i := 4) (v := ?gV2_21) (by simp only [List.getElem?_toArray]; rfl) (by kernel_rfl) (by kernel_rfl) (by kernel_rfl) (by rfl) (fun _ _ _ h => h) (Or.inl ⟨by rfl, ?gY2_21⟩) (by assumption) ?gR2_21; case gY2_21 => (intro w hSw; (try dsimp only at hSw); go_simp <;> with_reducible rfl))
          try simp only [Act.put, List.setIfInBounds_toArray, List.set_cons_zero, List.set_cons_succ]
          (refine wpE_takeP (i := 5) (v := ?gV2_22) (by simp only [List.getElem?_toArray]; rfl) (by kernel_rfl) (by kernel_rfl) (by kernel_rfl) (by rfl) (fun _ _ _ h => h) (Or.inl ⟨by rfl, ?gY2_22⟩) (by assumption) ?gR2_22; case gY2_22 => (intro w hSw; (try dsimp only at hSw); go_simp <;> with_reducible rfl))
          try simp only [Act.put, List.setIfInBounds_toArray, List.set_cons_zero, List.set_cons_succ]
          (refine wpE_takeP (i := 6) (v := ?gV2_23) (by simp only [List.getElem?_toArray]; rfl) (by kernel_rfl) (by kernel_rfl) (by kernel_rfl) (by rfl) (fun _ _ _ h => h) (Or.inl ⟨by rfl, ?gY2_23⟩) (by assumption) ?gR2_23; case gY2_23 => (intro w hSw; (try dsimp only at hSw); go_simp <;> with_reducible rfl))
          try simp only [Act.put, List.setIfInBounds_toArray, List.set_cons_zero, List.set_cons_succ]
          refine wpE_ready (rs := [8]) (by kernel_rfl) (by simp) ?_
          refine AllE.last (by simp only [List.getElem?_toArray]; rfl) (by kernel_rfl) (fun K hK => ?_) AllE.nil
          go_simp
          refine hK.out _ _ ?_
          clear hK K
          try simp only [Act.put, List.setIfInBounds_toArray, List.set_cons_zero, List.set_cons_succ]
          (refine wpE_takeQ (i := 9) (v := ?gV2_25) (by simp only [List.getElem?_toArray]; rfl) (by kernel_rfl) (by kernel_rfl) (by kernel_rfl) (by rfl) (fun _ _ _ h => h) (Or.inl ⟨by rfl, ?gY2_25⟩) (by kernel_rfl) ?gR2_25; case gY2_25 => (intro w hSw; (try dsimp only at hSw); go_simp <;> with_reducible rfl))
          try simp only [Act.put, List.setIfInBounds_toArray, List.set_cons_zero, List.set_cons_succ]
          refine wpE_done (by kernel_rfl) ?_ _
          refine NoPanic.normal ?_
          go_wp2_with fail
          go_meet
          refine ⟨_, da2, dc2, rfl, rfl, by go_simp, Lib.hid ?sv2_25, Lib.hid (by repeat (first | with_reducible exact Below.refl _ _ | with_reducible assumption | with_reducible exact below_d1 _ _ _ _ _ | with_reducible exact below_d2 _ _ _ _ _ _ _ _ | with_reducible exact below_d3 _ _ _ _ _ | with_reducible exact below_d4 _ _ _ _ _ _ _ _ | with_reducible exact below_d5 _ _ | with_reducible refine Below.drew ?_ | with_reducible refine Below.drewN' ?_ _ | with_reducible refine below_grow0 _ _ ?_ | with_reducible refine below_alloc0 _ ?_ | with_reducible refine Below.setCell ?_ ?_ _ | with_reducible refine Below.alloc ?_ ?_ _ | with_reducible refine Below.grow _ _ _ ?_ ?_ | omega | (simp; done) | (simp; omega)))⟩
          (case sv2_25 => (first | ((refine SlA.sl_swap H3.out ?_); (repeat (first | with_reducible exact Swap.refl _ _ | with_reducible refine Swap.drew1 ?_ | with_reducible refine Swap.drew2 ?_ | with_reducible refine Swap.drewN1 ?_ | with_reducible refine Swap.drewN2 ?_ | with_reducible refine Swap.grow ?_ _ _ _ | with_reducible refine Swap.alloc ?_ _ | with_reducible refine Swap.new ?_ _ _ ?_ | with_reducible refine Swap.set ?_ _ _ _ ?_ | (simp; done) | (simp; omega))); done) | ((refine SlA.sl_below H3.out ?_); (repeat (first | with_reducible exact Below.refl _ _ | with_reducible assumption | with_reducible exact below_d1 _ _ _ _ _ | with_reducible exact below_d2 _ _ _ _ _ _ _ _ | with_reducible exact below_d3 _ _ _ _ _ | with_reducible exact below_d4 _ _ _ _ _ _ _ _ | with_reducible exact below_d5 _ _ | with_reducible refine Below.drew ?_ | with_reducible refine Below.drewN' ?_ _ | with_reducible refine below_grow0 _ _ ?_ | with_reducible refine below_alloc0 _ ?_ | with_reducible refine Below.setCell ?_ ?_ _ | with_reducible refine Below.alloc ?_ ?_ _ | with_reducible refine Below.grow _ _ _ ?_ ?_ | omega | (simp; done) | (simp; omega))); done)))
        exact AllE.nil
      case rest =>
        obtain ⟨W2, rfl⟩ : ∃ W2 : World, W2 = wc := ⟨_, rfl⟩
        obtain ⟨g', da', dc', rfl, rfl, y1, HD2, hb2⟩ := hcut
        have hb12 := hb2.out
        have z4 := cell_in hb12 x4
        have HLG2 := Lib.hid (HLG.out.below hb12)
        have HB2 := Lib.hid (HB1.out.below hb12)
        have hbw2 : Below w.heap.size w W2 := Below.own hbw hb12
        clear x0 x1 x2 x3 x4 x5 x6 x7 x8 x9 S1 HLG HB1 hb2 hb12 hbw HC HPK
        go_upto_region 14 with (first | (go_at_call 11; (with_reducible refine (HU.out _ _ (HD2.out.below (by repeat (first | with_reducible exact Below.refl _ _ | with_reducible assumption | with_reducible exact below_d1 _ _ _ _ _ | with_reducible exact below_d2 _ _ _ _ _ _ _ _ | with_reducible exact below_d3 _ _ _ _ _ | with_reducible exact below_d4 _ _ _ _ _ _ _ _ | with_reducible exact below_d5 _ _ | with_reducible refine Below.drew ?_ | with_reducible refine Below.drewN' ?_ _ | with_reducible refine below_grow0 _ _ ?_ | with_reducible refine below_alloc0 _ ?_ | with_reducible refine Below.setCell ?_ ?_ _ | with_reducible refine Below.alloc ?_ ?_ _ | with_reducible refine Below.grow _ _ _ ?_ ?_ | omega | (simp; done) | (simp; omega))))).mono ?_); rintro e w5 ⟨da3, dc3, la3, lc3, na3, nc3, sa3, sc3, wa3, wc3, rfl, h5, hb5⟩; obtain ⟨ext5, d5, rfl⟩ := Below.grown_eq _ hb5; have H5 := Lib.hid h5; clear h5 hb5) | (go_at_call 12; (with_reducible refine (HSL.out _ (.slice la3 b.length lc3) (.slice la b.length lc) (H5.out.below (by repeat (first | with_reducible exact Below.refl _ _ | with_reducible assumption | with_reducible exact below_d1 _ _ _ _ _ | with_reducible exact below_d2 _ _ _ _ _ _ _ _ | with_reducible exact below_d3 _ _ _ _ _ | with_reducible exact below_d4 _ _ _ _ _ _ _ _ | with_reducible exact below_d5 _ _ | with_reducible refine Below.drew ?_ | with_reducible refine Below.drewN' ?_ _ | with_reducible refine below_grow0 _ _ ?_ | with_reducible refine below_alloc0 _ ?_ | with_reducible refine Below.setCell ?_ ?_ _ | with_reducible refine Below.alloc ?_ ?_ _ | with_reducible refine Below.grow _ _ _ ?_ ?_ | omega | (simp; done) | (simp; omega)))) (HLG2.out.below (by repeat (first | with_reducible exact Below.refl _ _ | with_reducible assumption | with_reducible exact below_d1 _ _ _ _ _ | with_reducible exact below_d2 _ _ _ _ _ _ _ _ | with_reducible exact below_d3 _ _ _ _ _ | with_reducible exact below_d4 _ _ _ _ _ _ _ _ | with_reducible exact below_d5 _ _ | with_reducible refine Below.drew ?_ | with_reducible refine Below.drewN' ?_ _ | with_reducible refine below_grow0 _ _ ?_ | with_reducible refine below_alloc0 _ ?_ | with_reducible refine Below.setCell ?_ ?_ _ | with_reducible refine Below.alloc ?_ ?_ _ | with_reducible refine Below.grow _ _ _ ?_ ?_ | omega | (simp; done) | (simp; omega))))).mono ?_); rintro e w6 ⟨rfl, hb6⟩; obtain ⟨ext6, d6, rfl⟩ := Below.grown_eq _ hb6; clear hb6))
        refine gen_w (fun W3 hW3 => ?_)
        have hb23 : Below W2.heap.size W2 W3 := by rw [hW3.out]; exact (by repeat (first | with_reducible exact Below.refl _ _ | with_reducible assumption | with_reducible exact below_d1 _ _ _ _ _ | with_reducible exact below_d2 _ _ _ _ _ _ _ _ | with_reducible exact below_d3 _ _ _ _ _ | with_reducible exact below_d4 _ _ _ _ _ _ _ _ | with_reducible exact below_d5 _ _ | with_reducible refine Below.drew ?_ | with_reducible refine Below.drewN' ?_ _ | with_reducible refine below_grow0 _ _ ?_ | with_reducible refine below_alloc0 _ ?_ | with_reducible refine Below.setCell ?_ ?_ _ | with_reducible refine Below.alloc ?_ ?_ _ | with_reducible refine Below.grow _ _ _ ?_ ?_ | omega | (simp; done) | (simp; omega)))
        have y4 := cell_in hb23 z4
        have HLG3 := Lib.hid (HLG2.out.below hb23)
        have HB3 := Lib.hid (HB2.out.below hb23)
        have hbw3 : Below w.heap.size w W3 := Below.own hbw2 hb23
        clear hW3 hb23 hbw2 z4 HLG2 HB2 HU HSL HD2 H5
        go_wp2_with fail
        go_loopw [19] (fun i wr => ∃ (k n : Nat), k ≤ b.length ∧ i = .int .i64 k ∧ wr = W3.drewN n) (fun i _ => b.length - (intOf i).toNat)
        case atStart => exact ⟨0, 0, Nat.zero_le _, rfl, rfl⟩
        case round =>
          obtain ⟨k, n, hk, rfl, rfl⟩ := hrel
          by_cases hlt : k < b.length
          · have hx : F[k]? = some (F[k]'(by rw [HFL.out]; exact hlt)) := List.getElem?_eq_getElem _
            have hy : b[k]? = some (b[k]'hlt) := List.getElem?_eq_getElem _
            have he := HZX.out k _ _ hx hy
            obtain ⟨bb, off, rfl, hbb, u0, _⟩ := HB3.out.Txn_at hy
            obtain ⟨bb2, off2, rfl, hbb2, v0, _⟩ := HLG3.out.Txn_at hx
            rw [he] at v0
            generalize (b[k]'hlt).zxid = z at *
            clear hx hy he
            go_wp2_with fail
            go_quiet (fail)
            go_wp2_with fail
            go_roundw
            case rel => exact ⟨k + 1, _, by omega, by go_num, rfl⟩
            case measure => simp [intOf]; omega
          · have hkb : k = b.length := by omega
            subst hkb
            go_wp2_with fail
            go_ret
            exact ⟨rfl, (by repeat (first | with_reducible exact Below.refl _ _ | with_reducible assumption | with_reducible exact below_d1 _ _ _ _ _ | with_reducible exact below_d2 _ _ _ _ _ _ _ _ | with_reducible exact below_d3 _ _ _ _ _ | with_reducible exact below_d4 _ _ _ _ _ _ _ _ | with_reducible exact below_d5 _ _ | with_reducible refine Below.drew ?_ | with_reducible refine Below.drewN' ?_ _ | with_reducible refine below_grow0 _ _ ?_ | with_reducible refine below_alloc0 _ ?_ | with_reducible refine Below.setCell ?_ ?_ _ | with_reducible refine Below.alloc ?_ ?_ _ | with_reducible refine Below.grow _ _ _ ?_ ?_ | omega | (simp; done) | (simp; omega)))⟩
    · clear HIS HB1 S1 x1 x2 x3 x4 x5 x6 x7 x8 x9
      simp only at x0
      by_cases h0 : ep < 0
      · have hd1 : decide (ep < 0) = true := decide_eq_true h0
        clear h0 hep
        go_wp2_with fail
        go_ret
        exact ⟨rfl, (by repeat (first | with_reducible exact Below.refl _ _ | with_reducible assumption | with_reducible exact below_d1 _ _ _ _ _ | with_reducible exact below_d2 _ _ _ _ _ _ _ _ | with_reducible exact below_d3 _ _ _ _ _ | with_reducible exact below_d4 _ _ _ _ _ _ _ _ | with_reducible exact below_d5 _ _ | with_reducible refine Below.drew ?_ | with_reducible refine Below.drewN' ?_ _ | with_reducible refine below_grow0 _ _ ?_ | with_reducible refine below_alloc0 _ ?_ | with_reducible refine Below.setCell ?_ ?_ _ | with_reducible refine Below.alloc ?_ ?_ _ | with_reducible refine Below.grow _ _ _ ?_ ?_ | omega | (simp; done) | (simp; omega)))⟩
      · have hd1 : decide (ep < 0) = false := decide_eq_false h0
        have hd2 : decide (2147483647 < ep) = true := decide_eq_true (by unfold Half at hep; omega)
        clear h0 hep
        go_wp2_with fail
        go_ret
        exact ⟨rfl, (by repeat (first | with_reducible exact Below.refl _ _ | with_reducible assumption | with_reducible exact below_d1 _ _ _ _ _ | with_reducible exact below_d2 _ _ _ _ _ _ _ _ | with_reducible exact below_d3 _ _ _ _ _ | with_reducible exact below_d4 _ _ _ _ _ _ _ _ | with_reducible exact below_d5 _ _ | with_reducible refine Below.drew ?_ | with_reducible refine Below.drewN' ?_ _ | with_reducible refine below_grow0 _ _ ?_ | with_reducible refine below_alloc0 _ ?_ | with_reducible refine Below.setCell ?_ ?_ _ | with_reducible refine Below.alloc ?_ ?_ _ | with_reducible refine Below.grow _ _ _ ?_ ?_ | omega | (simp; done) | (simp; omega)))⟩
namespace storeFollowed
theorem own : ownKnob Tryd.prog.godebug = none := by kernel_rfl
theorem laidOut : laidOutB Tryd.prog = true := by kernel_rfl
set_option maxRecDepth 100000 in
set_option maxHeartbeats 1000000 in
theorem lifted (os : Os) (started : os.Started) (H : Type) (enc : TypeId × Value → H) :
    ReturnsInHanded {} Tryd.checked os 5 .any (fun w args => (Rows.storeFollowedSpec.pre enc Tryd.prog Tryd.f5 Rows.storeFollowedRow.domain false w args ∧ laidMetH Tryd.prog Rows.storeFollowedRow.laid w) ∧ sizedMet enc Tryd.prog Tryd.f5 (OpenSpec.ofChange Rows.storeFollowedSpec) false w args) (Rows.storeFollowedSpec.post enc Tryd.prog Tryd.f5 false true false false) := by
  refine returnsInHanded_of_change_and (C := Tryd.checked) (X := fun w _ => laidMetH Tryd.prog Rows.storeFollowedRow.laid w) (fun _ _ _ hh h => h.of_heap hh) own started (by kernel_rfl) Tryd.func5
    (ChangeSpec.witness_shaped (enc := enc) (C := Tryd.checked) (os := os) (X := fun w _ => laidMetH Tryd.prog Rows.storeFollowedRow.laid w) false (World.laidAll Tryd.prog os Rows.storeFollowedRow.laid) #[.slice none 0 0, .slice none 0 0, .int .i64 0, .int .i64 0] 8 (World.laidAll_os _ _ _)
      (World.shaped_of_ZipB (by kernel_rfl) (by kernel_rfl)) (by kernel_rfl) (by kernel_rfl) (by kernel_rfl)
      (by rw [MakeChecks.laidMetH_plain _ _ _ (by kernel_rfl)]; exact laidMet_laidAll _ (by kernel_rfl) (by kernel_rfl))) ?_
  intro W base args ds gs before hval0 hW0 _ hsz0 hL _
  have hval : ∀ (j : Nat) t v, Tryd.f5.params[j]? = some t → args[j]? = some v → Value.okWide Tryd.prog W .any base t v := hval0
  have hW : DataW.Whole enc Tryd.prog Tryd.f5.params.toList Rows.storeFollowedSpec.vars false W args.toList ds gs before := hW0
  have hlt : ∀ p ∈ before, p.block < W.heap.size := fun p hp => hW.lt p hp
  have hW1 := hW
  obtain ⟨p, q, hA0, hV, rfl, hfz, hnd⟩ := hW1
  have hA : DataW.TrodAll enc Tryd.prog W 0 (fun _ => true) true Tryd.f5.params.toList args.toList ds p := hA0
  obtain ⟨rfl, rfl⟩ := trodVars_none hV
  rw [Tryd.params5] at hA hval
  obtain ⟨v0, vs0, d0, ds0, p0, q0, hargs, rfl, rfl, h0, r0⟩ := trodAll_cons hA
  obtain ⟨v1, vs1, d1, ds1, p1, q1, rfl, rfl, rfl, h1, r1⟩ := trodAll_cons r0
  obtain ⟨v2, vs2, d2, ds2, p2, q2, rfl, rfl, rfl, h2, r2⟩ := trodAll_cons r1
  obtain ⟨v3, vs3, d3, ds3, p3, q3, rfl, rfl, rfl, h3, r3⟩ := trodAll_cons r2
  obtain ⟨rfl, rfl, rfl⟩ := trodAll_nil r3
  obtain rfl : args = #[v0, v1, v2, v3] := by cases args; simp_all
  have hsz : (DataW.weightsEach Tryd.prog [22, 22, 3, 3] [d0, d1, d2, d3]).all (· ≤ reachBytes) = true := hsz0
  have close : ∀ e W', (e = Ending.returned (.bool true) ∧ Below W.heap.size W W') → ∃ v, e = .returned v ∧ Rows.storeFollowedSpec.post enc Tryd.prog Tryd.f5 false true false false W #[v0, v1, v2, v3] v W' :=
    fun e W' ⟨he, hb⟩ => ⟨_, he, law_post laidOut (of_decide_eq_true (by kernel_rfl)) rfl rfl Tryd.underlying4 hW rfl hb⟩
  clear hA0 hsz0 hval0 hW0 hA hV hW hfz hnd
  obtain ⟨xs0, hr0, hf0, els0, sp0, he0⟩ := open_rows (ks := [.i .i64, .i .i64, .i .i64, .s, .s, .i .i64, .i .i64]) 9 Tryd.underlying22 (by kernel_rfl) (hval 0 22 v0 rfl rfl) h0 (fun x hx => hlt x (by simp [hx])) (by decide)
  have rb0 : xs0.length * 72 ≤ 140737488351232 := by
    rcases he0 with ⟨_, rfl⟩ | ⟨hd, hl⟩
    · simp
    · rw [hd] at hsz
      have := sized_slice hsz (j := 0) rfl rfl Tryd.underlying22
      rw [show Tryd.prog.bytesOf 47 = 72 from by kernel_rfl] at this
      simp only [reachBytes] at this
      rw [hl] at this
      exact Nat.le_trans (Nat.mul_le_mul_right _ (Nat.le_add_right _ _)) this
  obtain ⟨xs1, hr1, hf1, els1, sp1, he1⟩ := open_rows (ks := [.i .i64, .i .i64, .i .i64, .s, .s, .i .i64, .i .i64]) 9 Tryd.underlying22 (by kernel_rfl) (hval 1 22 v1 rfl rfl) h1 (fun x hx => hlt x (by simp [hx])) (by decide)
  have rb1 : xs1.length * 72 ≤ 140737488351232 := by
    rcases he1 with ⟨_, rfl⟩ | ⟨hd, hl⟩
    · simp
    · rw [hd] at hsz
      have := sized_slice hsz (j := 1) rfl rfl Tryd.underlying22
      rw [show Tryd.prog.bytesOf 47 = 72 from by kernel_rfl] at this
      simp only [reachBytes] at this
      rw [hl] at this
      exact Nat.le_trans (Nat.mul_le_mul_right _ (Nat.le_add_right _ _)) this
  obtain ⟨a2, rfl, hd2, _, wf2⟩ := open_int Tryd.underlying3 (hval 2 3 v2 rfl rfl) h2
  obtain ⟨a3, rfl, hd3, _, wf3⟩ := open_int Tryd.underlying3 (hval 3 3 v3 rfl rfl) h3
  have hlaid : laidMet Tryd.prog [("math/bits.deBruijn32tab", Rows.laid_math_bits_deBruijn32tab), ("math/bits.deBruijn64tab", Rows.laid_math_bits_deBruijn64tab), ("internal/strconv.uint64pow10", Rows.laid_internal_strconv_uint64pow10), ("unicode/utf8.acceptRanges", Rows.laid_unicode_utf8_acceptRanges), ("unicode/utf8.first", Rows.laid_unicode_utf8_first)] W := by
    have h1 := hL
    rw [MakeChecks.laidMetH_plain _ _ _ (by kernel_rfl)] at h1
    exact h1
  obtain ⟨l, rfl, hlo⟩ := typed (fun x hx => fitsTxn (hf0 x hx))
  obtain ⟨m, rfl, hmo⟩ := typed (fun x hx => fitsTxn (hf1 x hx))
  have hs : Sl cTxn 7 W v0 l := hr0
  have hs2 : Sl cTxn 7 W v1 m := hr1
  exact (storeFollowed_ok v0 v1 l m a2 a3 W hs hs2 (fun t ht => by have := (hlo t ht).2.2.2.1; simpa [maxLen] using this) (fun t ht => by have := (hmo t ht).2.2.2.1; simpa [maxLen] using this) ⟨tab_third5 hlaid, _, pow_global⟩).mono close
theorem proved : Rows.StoreFollowedSaid :=
  OpenClaim.holds_of_wide 5 Tryd.f5 rfl rfl rfl rfl rfl rfl rfl ⟨rfl, rfl, rfl, rfl, rfl⟩ rfl rfl rfl rfl rfl (by kernel_rfl) Tryd.func5 (by kernel_rfl)
    (of_decide_eq_true (by kernel_rfl)) (by unfold Func.isWrapper; first | (rw [if_pos (by decide +kernel)]; kernel_rfl) | (rw [if_neg (by decide +kernel)]; exact ⟨rfl, rfl⟩))
    (fun os started H enc _ => lifted os started H enc)
theorem card : Rows.StoreFollowedCardSaid :=
  Claim7.holds_tied_plain_at .later [] Rows.storeFollowedCard.laidKinds true Rows.storeFollowedCard.stood.harness false
    proved (fun _ h => by cases h) (by kernel_rfl) (fun _ h => by cases h) storeFollowed_row_tie rfl ⟨rfl, rfl⟩ (by kernel_rfl) rfl
    (fun f fn hf hfn => by
      obtain rfl : f = 5 := Option.some.inj ((show Tryd.prog.funcNamed "aviary/aviarykeep.StoreFollowed" = some 5 by kernel_rfl).symm.trans hf) |>.symm
      obtain rfl : fn = Tryd.f5 := (Option.some.inj (Tryd.func5.symm.trans hfn)).symm
      exact ⟨by kernel_rfl, fun j t ht => by
        rw [Tryd.params5] at ht
        have hm : t ∈ [22, 22, 3, 3] := by simpa using Array.mem_of_getElem? ht
        have hall : ([22, 22, 3, 3].all fun u => !Tryd.prog.wantsStandIn u) = true := by kernel_rfl
        exact (show Tryd.prog.wantsStandIn t = false by simpa using List.all_eq_true.1 hall t hm)⟩)
    (by kernel_rfl)
end storeFollowed
end Go.Proofs.YtkoemhdchoicaaaDoor
