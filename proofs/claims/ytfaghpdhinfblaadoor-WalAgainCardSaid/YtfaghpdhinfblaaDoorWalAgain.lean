/- The law WalAgain is true for every input; no conditions. -/
import Derived.Deep.RegionHeld3
import Derived.Deep.DeepCutAuto
import Derived.Test.YtfaghpdhinfblaaDoorCards
import Derived.Test.YtfaghpdhinfblaaDoorTie
import Derived.Lay
import Derived.LaidMore
import Derived.SevenTiedAt
import Derived.Test.YtfaghpdhinfblaaDoorPt1
import Derived.Test.YtfaghpdhinfblaaDoorPt2
import Derived.Test.YtfaghpdhinfblaaDoorPt3
import Derived.Test.YtfaghpdhinfblaaDoorPt4
import Derived.Test.YtfaghpdhinfblaaDoorPt5
import Derived.Test.YtfaghpdhinfblaaDoorPt6
import Derived.Test.YtfaghpdhinfblaaDoorPt7
namespace Go.Proofs.YtfaghpdhinfblaaDoor
open Go.RowKit Go.ChangeShapes Go.WideShapes Go.ChangeAt
theorem rec_not {f : List File} {l : List Txn} {f' : List File} {e : Int} (h : RecIs f l f' e) (he : e ≠ 0) : l = [] ∧ f' = [] := by
  rcases h with ⟨_, rfl, rfl, rfl⟩ | ⟨_, _, rfl, rfl, _⟩ | ⟨_, rfl, _⟩
  · exact ⟨rfl, write_not he⟩
  · exact ⟨rfl, rfl⟩
  · exact absurd rfl he
theorem take_bS {l : List Txn} {k : Nat} {t : Txn} (h : l[k]? = some t) : bS (recs (l.take (k + 1))) = bS (recs (l.take k)) ++ bS (recT t) := by
  rw [List.take_add_one, h]
  exact recs_snoc (l.take k) t
set_option maxRecDepth 100000 in
set_option maxHeartbeats 4000000 in
theorem walAgain_ok (v : Value) (l : List File) (w : World) (h : Sl cFile 3 w v l) (hz : ∀ x ∈ l, x.sized) (hn : l.length * 48 ≤ 140737488355328) :
    Calls Tryd.prog 3 #[.agg #[v]] w fun e w' => e = .returned (.bool true) ∧ Below w.heap.size w w' := by
  obtain ⟨A0, c0, rfl, hc1, hc2⟩ := h.form
  have H := Lib.hid h
  have HCP := Lib.hid (fun (W : World) (v : Value) (h : Sl cFile 3 W v l) => lawCopied v l W h hn)
  have HR := Lib.hid (fun (W : World) (v : Value) (h : Sl cFile 3 W v l) => recover_any v l W h hz)
  have HLG := Lib.hid logs_is
  clear h hz
  go_enter Tryd.func3, Tryd.ntmps3
  go_upto_region 2 with (first | (go_at_call 8; refine (HCP.out _ _ (H.out.below (by repeat (first | exact Below.refl _ _ | assumption | refine Below.drew ?_ | refine Below.drewN' ?_ _ | refine below_grow0 _ _ ?_ | refine below_alloc0 _ ?_ | refine Below.alloc ?_ (by first | omega | (simp; done) | (simp; omega)) _ | refine Below.setCell ?_ (by first | omega | (simp; done) | (simp; omega)) _ | refine Below.grow _ _ _ ?_ (by first | omega | (simp; done) | (simp; omega)))))).mono ?_; rintro e w3 ⟨A3, c3, rfl, ho3, hb3⟩; obtain ⟨ext3, d3, rfl⟩ := Below.grown_eq _ hb3; have HO3 := Lib.hid ho3.sl; clear ho3 hb3) | (go_at_call 7; refine (HR.out _ _ (HO3.out.below (by repeat (first | exact Below.refl _ _ | assumption | refine Below.drew ?_ | refine Below.drewN' ?_ _ | refine below_grow0 _ _ ?_ | refine below_alloc0 _ ?_ | refine Below.alloc ?_ (by first | omega | (simp; done) | (simp; omega)) _ | refine Below.setCell ?_ (by first | omega | (simp; done) | (simp; omega)) _ | refine Below.grow _ _ _ ?_ (by first | omega | (simp; done) | (simp; omega)))))).mono ?_; rintro e w4 ⟨A, c, a, B, k, b, code, rfl, hr, ho4, ho4b, hb4⟩; obtain ⟨ext4, d4, rfl⟩ := Below.grown_eq _ hb4; have HI := Lib.hid hr; have HA := Lib.hid ho4.sl; have HB := Lib.hid ho4b.sl; clear hr ho4 ho4b hb4))
  by_cases h0 : code = 0
  · subst h0
    obtain ⟨hlog, hgb, hrd, hrs, hmem⟩ := rec_again HI.out
    have hb16 := goodD_len hgb
    have hbz : ∀ x ∈ b, x.sized := fun x hx => (goodD_sized hgb x hx).1
    have hrz := readS_size hrd
    rw [hrs, bS_size] at hrz
    have ha : a.length ≤ 140737488355328 := by have := (recs_len hlog.1).2; omega
    have HCP2 := Lib.hid (fun (W : World) (v : Value) (h : Sl cFile 3 W v b) => lawCopied v b W h (by omega))
    have HR2 := Lib.hid (fun (W : World) (v : Value) (h : Sl cFile 3 W v b) => (recover_any v b W h hbz).mono (fun e w' hh => show RecD a b W e w' from by
      obtain ⟨A, c, L, B, k, f', cd, rfl, hr, h1, h2, h3⟩ := hh
      obtain ⟨rfl, rfl, rfl⟩ := rec_fix hlog hgb hrd hrs hmem hr
      exact ⟨A, c, B, k, rfl, h1, h2, h3⟩))
    have HD := Lib.hid (fun (W : World) (v : Value) (h : Sl cFile 3 W v b) => by
      have h1 := dkRead v b logN W h hbz
      rw [hrs, hrd] at h1
      exact h1)
    have HE := Lib.hid (fun (t : Txn) (ht : t ∈ a) (W : World) => by
      have h1 := encode_any t W (good_path (hlog.1 t ht))
      rw [show encR t = bS (recT t) from if_pos (hlog.1 t ht), hlog.1 t ht] at h1
      exact h1)
    have HSL := Lib.hid (fun (W : World) (v v2 : Value) (h : Sl cTxn 7 W v a) (h2 : Sl cTxn 7 W v2 a) => sameLog_eq v v2 a W h h2 ha)
    have HSD := Lib.hid (fun (W : World) (v v2 : Value) (h : Sl cFile 3 W v b) (h2 : Sl cFile 3 W v2 b) => sameDisk_eq v v2 b W h h2 (by omega))
    have HP := Lib.hid (fun (j : Nat) (x y : Txn) (hx : a[j]? = some x) (hy : a[j + 1]? = some y) => show x.zxid < y.zxid from by
      obtain ⟨h1, e1⟩ := List.getElem?_eq_some_iff.1 hx
      obtain ⟨h2, e2⟩ := List.getElem?_eq_some_iff.1 hy
      rw [← e1, ← e2]
      exact List.pairwise_iff_getElem.1 hlog.2 j (j + 1) h1 h2 (by omega))
    have HRZ := Lib.hid hrz
    clear hlog hgb hrd hrs hmem hbz hrz hb16
    go_upto_region 6 with (first | (go_at_call 9; refine (HLG.out _).mono ?_; rintro e w2 ⟨rfl, hb2⟩; obtain ⟨ext5, d5, rfl⟩ := Below.grown_eq _ hb2; clear hb2) | (go_at_call 8; refine (HCP2.out _ _ (HB.out.below (by repeat (first | exact Below.refl _ _ | assumption | refine Below.drew ?_ | refine Below.drewN' ?_ _ | refine below_grow0 _ _ ?_ | refine below_alloc0 _ ?_ | refine Below.alloc ?_ (by first | omega | (simp; done) | (simp; omega)) _ | refine Below.setCell ?_ (by first | omega | (simp; done) | (simp; omega)) _ | refine Below.grow _ _ _ ?_ (by first | omega | (simp; done) | (simp; omega)))))).mono ?_; rintro e w3 ⟨A6, c6, rfl, ho6, hb6⟩; obtain ⟨ext6, d6, rfl⟩ := Below.grown_eq _ hb6; have HO6 := Lib.hid ho6.sl; clear ho6 hb6) | (go_at_call 7; refine (HR2.out _ _ (HO6.out.below (by repeat (first | exact Below.refl _ _ | assumption | refine Below.drew ?_ | refine Below.drewN' ?_ _ | refine below_grow0 _ _ ?_ | refine below_alloc0 _ ?_ | refine Below.alloc ?_ (by first | omega | (simp; done) | (simp; omega)) _ | refine Below.setCell ?_ (by first | omega | (simp; done) | (simp; omega)) _ | refine Below.grow _ _ _ ?_ (by first | omega | (simp; done) | (simp; omega)))))).mono ?_; rintro e w4 ⟨A7, c7, B7, k7, rfl, ho7, ho7b, hb7⟩; obtain ⟨ext7, d7, rfl⟩ := Below.grown_eq _ hb7; have HA7 := Lib.hid ho7.sl; have HB7 := Lib.hid ho7b.sl; clear ho7 ho7b hb7) | (go_at_call 10; refine (HD.out _ _ (HB.out.below (by repeat (first | exact Below.refl _ _ | assumption | refine Below.drew ?_ | refine Below.drewN' ?_ _ | refine below_grow0 _ _ ?_ | refine below_alloc0 _ ?_ | refine Below.alloc ?_ (by first | omega | (simp; done) | (simp; omega)) _ | refine Below.setCell ?_ (by first | omega | (simp; done) | (simp; omega)) _ | refine Below.grow _ _ _ ?_ (by first | omega | (simp; done) | (simp; omega)))))).mono ?_; rintro e w1 ⟨rfl, hb8⟩; obtain ⟨ext8, d8, rfl⟩ := Below.grown_eq _ hb8; clear hb8))
    go_cut [11] (fun s11 wx => s11 = .string ⟨#[]⟩ ∧ wx.cell? ⟨w.heap.size + 1 + ext3.size + ext4.size, 0, none⟩ = some (.slice B b.length k) ∧ wx.cell? ⟨w.heap.size + 1 + ext3.size + ext4.size + 1 + ext5.size + ext6.size + ext7.size, 0, none⟩ = some (.slice B7 b.length k7) ∧ Hid (Sl cTxn 7 wx (.slice A a.length c) a) ∧ Hid (Sl cTxn 7 wx (.slice A7 a.length c7) a) ∧ Hid (Sl cFile 3 wx (.slice B b.length k) b) ∧ Hid (Sl cFile 3 wx (.slice B7 b.length k7) b) ∧ Below w.heap.size w wx)
    case first =>
      go_wp2_with fail
      go_meet
      exact ⟨rfl, by go_simp, by go_simp, Lib.hid (HA.out.below (by repeat (first | exact Below.refl _ _ | assumption | refine Below.drew ?_ | refine Below.drewN' ?_ _ | refine below_grow0 _ _ ?_ | refine below_alloc0 _ ?_ | refine Below.alloc ?_ (by first | omega | (simp; done) | (simp; omega)) _ | refine Below.setCell ?_ (by first | omega | (simp; done) | (simp; omega)) _ | refine Below.grow _ _ _ ?_ (by first | omega | (simp; done) | (simp; omega))))), Lib.hid (HA7.out.below (by repeat (first | exact Below.refl _ _ | assumption | refine Below.drew ?_ | refine Below.drewN' ?_ _ | refine below_grow0 _ _ ?_ | refine below_alloc0 _ ?_ | refine Below.alloc ?_ (by first | omega | (simp; done) | (simp; omega)) _ | refine Below.setCell ?_ (by first | omega | (simp; done) | (simp; omega)) _ | refine Below.grow _ _ _ ?_ (by first | omega | (simp; done) | (simp; omega))))), Lib.hid (HB.out.below (by repeat (first | exact Below.refl _ _ | assumption | refine Below.drew ?_ | refine Below.drewN' ?_ _ | refine below_grow0 _ _ ?_ | refine below_alloc0 _ ?_ | refine Below.alloc ?_ (by first | omega | (simp; done) | (simp; omega)) _ | refine Below.setCell ?_ (by first | omega | (simp; done) | (simp; omega)) _ | refine Below.grow _ _ _ ?_ (by first | omega | (simp; done) | (simp; omega))))), Lib.hid (HB7.out.below (by repeat (first | exact Below.refl _ _ | assumption | refine Below.drew ?_ | refine Below.drewN' ?_ _ | refine below_grow0 _ _ ?_ | refine below_alloc0 _ ?_ | refine Below.alloc ?_ (by first | omega | (simp; done) | (simp; omega)) _ | refine Below.setCell ?_ (by first | omega | (simp; done) | (simp; omega)) _ | refine Below.grow _ _ _ ?_ (by first | omega | (simp; done) | (simp; omega))))), (by repeat (first | exact Below.refl _ _ | assumption | refine Below.drew ?_ | refine Below.drewN' ?_ _ | refine below_grow0 _ _ ?_ | refine below_alloc0 _ ?_ | refine Below.alloc ?_ (by first | omega | (simp; done) | (simp; omega)) _ | refine Below.setCell ?_ (by first | omega | (simp; done) | (simp; omega)) _ | refine Below.grow _ _ _ ?_ (by first | omega | (simp; done) | (simp; omega))))⟩
    case rest =>
      obtain ⟨rfl, hg4, hg7, SA, SA7, SB, SB7, hbw⟩ := hcut
      clear HA HA7 HB HB7 H HO3 HO6 HR HCP HCP2 HR2 HD HI
      generalize w.heap.size + 1 + ext3.size + ext4.size + 1 + ext5.size + ext6.size + ext7.size = g7 at *
      generalize w.heap.size + 1 + ext3.size + ext4.size = g4 at *
      go_wp2_with fail
      go_loopw [11, 12] (fun o i wr => ∃ (k0 : Nat) (ext : Array Obj) (d : Nat), k0 ≤ a.length ∧ i = .int .i64 k0 ∧ o = .string (bS (recs (a.take k0))) ∧ wr = grow wc ext d) (fun _ i _ => a.length - (intOf i).toNat)
      case atStart => exact ⟨0, _, _, Nat.zero_le _, rfl, rfl, grown_of (by repeat (first | exact Below.refl _ _ | assumption | refine Below.drew ?_ | refine Below.drewN' ?_ _ | refine below_grow0 _ _ ?_ | refine below_alloc0 _ ?_ | refine Below.alloc ?_ (by first | omega | (simp; done) | (simp; omega)) _ | refine Below.setCell ?_ (by first | omega | (simp; done) | (simp; omega)) _ | refine Below.grow _ _ _ ?_ (by first | omega | (simp; done) | (simp; omega))))⟩
      case round =>
        obtain ⟨k0, ext, d, hk, rfl, rfl, rfl⟩ := hrel
        by_cases hlt : k0 < a.length
        · have hy : a[k0]? = some (a[k0]'hlt) := List.getElem?_eq_getElem _
          have HEX := Lib.hid (HE.out _ (List.getElem_mem hlt))
          have HTK := Lib.hid (take_bS hy)
          have hle1 := recs_take_le a (k0 + 1)
          have hs1 := bS_size (recs (a.take (k0 + 1)))
          rw [HTK.out, ByteArray.size_append] at hs1
          have hrz := HRZ.out
          rcases Nat.eq_zero_or_pos k0 with rfl | h1
          · obtain ⟨b1, off, rfl, hb, y0, y1, y2, y3, y4, y5, y6⟩ := SA.out.Txn_at hy
            generalize a[0]'hlt = y at *
            simp only [Nat.zero_mul, Nat.add_zero] at y0 y1 y2 y3 y4 y5 y6
            rw [show ((0 : Nat) : Int) = 0 from rfl]
            generalize bS (recT y) = r at *
            generalize bS (recs (a.take 0)) = q at *
            have hqr : q.size + r.size ≤ 1048576 := by omega
            clear hy hle1 hs1 hrz
            go_wp2_with ((go_at_call 11; refine (HEX.out _).mono ?_; rintro e w1 ⟨rfl, hb1⟩; obtain ⟨ext2, d2, rfl⟩ := Below.grown_eq _ hb1; clear hb1))
            go_quiet (fail)
            go_wp2_with fail
            go_roundw
            case rel => exact ⟨1, _, _, by omega, by go_num, by rw [HTK.out], grown_of (by repeat (first | exact Below.refl _ _ | assumption | refine Below.drew ?_ | refine Below.drewN' ?_ _ | refine below_grow0 _ _ ?_ | refine below_alloc0 _ ?_ | refine Below.alloc ?_ (by first | omega | (simp; done) | (simp; omega)) _ | refine Below.setCell ?_ (by first | omega | (simp; done) | (simp; omega)) _ | refine Below.grow _ _ _ ?_ (by first | omega | (simp; done) | (simp; omega))))⟩
            case measure => simp [intOf]; omega
          · obtain ⟨j, rfl⟩ : ∃ j, k0 = j + 1 := ⟨k0 - 1, by omega⟩
            have hx : a[j]? = some (a[j]'(by omega)) := List.getElem?_eq_getElem _
            have hlt2 := HP.out j _ _ hx hy
            obtain ⟨b1, off, rfl, hb, y0, y1, y2, y3, y4, y5, y6⟩ := SA.out.Txn_at hy
            obtain ⟨b2, off2, e2, hb2, x0, xr⟩ := SA.out.Txn_at hx
            clear xr
            simp only [Option.some.injEq, Addr.mk.injEq, and_true] at e2
            obtain ⟨rfl, rfl⟩ := e2
            generalize a[j + 1]'hlt = y at *
            generalize a[j]'(by omega) = x at *
            have hle : decide (y.zxid ≤ x.zxid) = false := decide_eq_false (by omega)
            have hw1 : IntKind.i64.wrap ((j : Int) + 1 - 1) = (j : Int) := by unfold IntKind.wrap; simp [IntKind.signed, IntKind.bits]; omega
            generalize bS (recT y) = r at *
            generalize bS (recs (a.take (j + 1))) = q at *
            have hqr : q.size + r.size ≤ 1048576 := by omega
            clear hx hy hle1 hs1 hrz hlt2
            go_wp2_with ((go_at_call 11; refine (HEX.out _).mono ?_; rintro e w1 ⟨rfl, hb1⟩; obtain ⟨ext2, d2, rfl⟩ := Below.grown_eq _ hb1; clear hb1))
            go_quiet (fail)
            go_wp2_with fail
            go_roundw
            case rel => exact ⟨j + 1 + 1, _, _, by omega, by go_num, by rw [HTK.out], grown_of (by repeat (first | exact Below.refl _ _ | assumption | refine Below.drew ?_ | refine Below.drewN' ?_ _ | refine below_grow0 _ _ ?_ | refine below_alloc0 _ ?_ | refine Below.alloc ?_ (by first | omega | (simp; done) | (simp; omega)) _ | refine Below.setCell ?_ (by first | omega | (simp; done) | (simp; omega)) _ | refine Below.grow _ _ _ ?_ (by first | omega | (simp; done) | (simp; omega))))⟩
            case measure => simp [intOf]; omega
        · have hkl : k0 = a.length := by omega
          subst hkl
          rw [List.take_length]
          go_wp2_with (first | (go_at_call 12; refine (HSL.out _ _ _ (SA.out.below (by repeat (first | exact Below.refl _ _ | assumption | refine Below.drew ?_ | refine Below.drewN' ?_ _ | refine below_grow0 _ _ ?_ | refine below_alloc0 _ ?_ | refine Below.alloc ?_ (by first | omega | (simp; done) | (simp; omega)) _ | refine Below.setCell ?_ (by first | omega | (simp; done) | (simp; omega)) _ | refine Below.grow _ _ _ ?_ (by first | omega | (simp; done) | (simp; omega))))) (SA7.out.below (by repeat (first | exact Below.refl _ _ | assumption | refine Below.drew ?_ | refine Below.drewN' ?_ _ | refine below_grow0 _ _ ?_ | refine below_alloc0 _ ?_ | refine Below.alloc ?_ (by first | omega | (simp; done) | (simp; omega)) _ | refine Below.setCell ?_ (by first | omega | (simp; done) | (simp; omega)) _ | refine Below.grow _ _ _ ?_ (by first | omega | (simp; done) | (simp; omega)))))).mono ?_; rintro e w1 ⟨rfl, hb1⟩; obtain ⟨ext6, d6, rfl⟩ := Below.grown_eq _ hb1; clear hb1) | (go_at_call 13; refine (HSD.out _ _ _ (SB.out.below (by repeat (first | exact Below.refl _ _ | assumption | refine Below.drew ?_ | refine Below.drewN' ?_ _ | refine below_grow0 _ _ ?_ | refine below_alloc0 _ ?_ | refine Below.alloc ?_ (by first | omega | (simp; done) | (simp; omega)) _ | refine Below.setCell ?_ (by first | omega | (simp; done) | (simp; omega)) _ | refine Below.grow _ _ _ ?_ (by first | omega | (simp; done) | (simp; omega))))) (SB7.out.below (by repeat (first | exact Below.refl _ _ | assumption | refine Below.drew ?_ | refine Below.drewN' ?_ _ | refine below_grow0 _ _ ?_ | refine below_alloc0 _ ?_ | refine Below.alloc ?_ (by first | omega | (simp; done) | (simp; omega)) _ | refine Below.setCell ?_ (by first | omega | (simp; done) | (simp; omega)) _ | refine Below.grow _ _ _ ?_ (by first | omega | (simp; done) | (simp; omega)))))).mono ?_; rintro e w1 ⟨rfl, hb1⟩; obtain ⟨ext9, d9, rfl⟩ := Below.grown_eq _ hb1; clear hb1))
          go_ret
          exact ⟨rfl, (by repeat (first | exact Below.refl _ _ | assumption | refine Below.drew ?_ | refine Below.drewN' ?_ _ | refine below_grow0 _ _ ?_ | refine below_alloc0 _ ?_ | refine Below.alloc ?_ (by first | omega | (simp; done) | (simp; omega)) _ | refine Below.setCell ?_ (by first | omega | (simp; done) | (simp; omega)) _ | refine Below.grow _ _ _ ?_ (by first | omega | (simp; done) | (simp; omega))))⟩
  · obtain ⟨rfl, rfl⟩ := rec_not HI.out h0
    have hne : (code != 0) = true := bne_iff_ne.2 h0
    simp only [List.length_nil]
    clear h0
    go_wp2_with ((go_at_call 9; refine (HLG.out _).mono ?_; rintro e w2 ⟨rfl, hb2⟩; obtain ⟨ext5, d5, rfl⟩ := Below.grown_eq _ hb2; clear hb2))
    go_ret
    exact ⟨rfl, (by repeat (first | exact Below.refl _ _ | assumption | refine Below.drew ?_ | refine Below.drewN' ?_ _ | refine below_grow0 _ _ ?_ | refine below_alloc0 _ ?_ | refine Below.alloc ?_ (by first | omega | (simp; done) | (simp; omega)) _ | refine Below.setCell ?_ (by first | omega | (simp; done) | (simp; omega)) _ | refine Below.grow _ _ _ ?_ (by first | omega | (simp; done) | (simp; omega))))⟩
namespace walAgain
theorem own : ownKnob Tryd.prog.godebug = none := by kernel_rfl
theorem laidOut : laidOutB Tryd.prog = true := by kernel_rfl
set_option maxRecDepth 100000 in
set_option maxHeartbeats 1000000 in
theorem lifted (os : Os) (started : os.Started) (H : Type) (enc : TypeId × Value → H) :
    ReturnsInHanded {} Tryd.checked os 3 .any (fun w args => (Rows.walAgainSpec.pre enc Tryd.prog Tryd.f3 Rows.walAgainRow.domain false w args ∧ laidMetH Tryd.prog Rows.walAgainRow.laid w) ∧ sizedMet enc Tryd.prog Tryd.f3 (OpenSpec.ofChange Rows.walAgainSpec) false w args) (Rows.walAgainSpec.post enc Tryd.prog Tryd.f3 false true false false) := by
  refine returnsInHanded_of_change_and (C := Tryd.checked) (X := fun w _ => laidMetH Tryd.prog Rows.walAgainRow.laid w) (fun _ _ _ hh h => h.of_heap hh) own started (by kernel_rfl) Tryd.func3
    (ChangeSpec.witness_shaped (enc := enc) (C := Tryd.checked) (os := os) (X := fun w _ => laidMetH Tryd.prog Rows.walAgainRow.laid w) false (World.laidAll Tryd.prog os Rows.walAgainRow.laid) #[.agg #[.slice none 0 0]] 8 (World.laidAll_os _ _ _)
      (World.shaped_of_ZipB (by kernel_rfl) (by kernel_rfl)) (by kernel_rfl) (by kernel_rfl) (by kernel_rfl)
      (by rw [MakeChecks.laidMetH_plain _ _ _ (by kernel_rfl)]; exact laidMet_laidAll _ (by kernel_rfl) (by kernel_rfl))) ?_
  intro W base args ds gs before hval0 hW0 _ hsz0 hL _
  have hval : ∀ (j : Nat) t v, Tryd.f3.params[j]? = some t → args[j]? = some v → Value.okWide Tryd.prog W .any base t v := hval0
  have hW : DataW.Whole enc Tryd.prog Tryd.f3.params.toList Rows.walAgainSpec.vars false W args.toList ds gs before := hW0
  have hlt : ∀ p ∈ before, p.block < W.heap.size := fun p hp => hW.lt p hp
  have hW1 := hW
  obtain ⟨p, q, hA0, hV, rfl, hfz, hnd⟩ := hW1
  have hA : DataW.TrodAll enc Tryd.prog W 0 (fun _ => true) true Tryd.f3.params.toList args.toList ds p := hA0
  obtain ⟨rfl, rfl⟩ := trodVars_none hV
  rw [Tryd.params3] at hA hval
  obtain ⟨v0, vs0, d0, ds0, p0, q0, hargs, rfl, rfl, h0, r0⟩ := trodAll_cons hA
  obtain ⟨rfl, rfl, rfl⟩ := trodAll_nil r0
  obtain rfl : args = #[v0] := by cases args; simp_all
  have hsz : (DataW.weightsEach Tryd.prog [24] [d0]).all (· ≤ reachBytes) = true := hsz0
  have close : ∀ e W', (e = Ending.returned (.bool true) ∧ Below W.heap.size W W') → ∃ v, e = .returned v ∧ Rows.walAgainSpec.post enc Tryd.prog Tryd.f3 false true false false W #[v0] v W' :=
    fun e W' ⟨he, hb⟩ => ⟨_, he, law_post laidOut (of_decide_eq_true (by kernel_rfl)) rfl rfl Tryd.underlying4 hW rfl hb⟩
  clear hA0 hsz0 hval0 hW0 hA hV hW hfz hnd
  obtain ⟨cs, rfl, _⟩ := okWide_struct Tryd.underlying24 (hval 0 _ v0 rfl rfl)
  obtain ⟨v, l, hp, hin, hz, hn⟩ := open_disk (n := 0) (open_deep 10 h0 (sized_arg hsz 0 rfl rfl))
  obtain rfl : cs = #[v] := by simpa [Value.cells] using congrArg List.toArray hp
  exact (walAgain_ok v l W hin hz hn).mono close
theorem proved : Rows.WalAgainSaid :=
  OpenClaim.holds_of_wide 3 Tryd.f3 rfl rfl rfl rfl rfl rfl rfl ⟨rfl, rfl, rfl, rfl, rfl⟩ rfl rfl rfl rfl rfl (by kernel_rfl) Tryd.func3 (by kernel_rfl)
    (of_decide_eq_true (by kernel_rfl)) (by unfold Func.isWrapper; first | (rw [if_pos (by decide +kernel)]; kernel_rfl) | (rw [if_neg (by decide +kernel)]; exact ⟨rfl, rfl⟩))
    (fun os started H enc _ => lifted os started H enc)
theorem card : Rows.WalAgainCardSaid :=
  Claim7.holds_tied_plain_at .later [] Rows.walAgainCard.laidKinds true Rows.walAgainCard.stood.harness false
    proved (fun _ h => by cases h) (by kernel_rfl) (fun _ h => by cases h) walAgain_row_tie rfl ⟨rfl, rfl⟩ (by kernel_rfl) rfl
    (fun f fn hf hfn => by
      obtain rfl : f = 3 := Option.some.inj ((show Tryd.prog.funcNamed "aviary/aviarykeep.WalAgain" = some 3 by kernel_rfl).symm.trans hf) |>.symm
      obtain rfl : fn = Tryd.f3 := (Option.some.inj (Tryd.func3.symm.trans hfn)).symm
      exact ⟨by kernel_rfl, fun j t ht => by
        rw [Tryd.params3] at ht
        have hm : t ∈ [24] := by simpa using Array.mem_of_getElem? ht
        have hall : ([24].all fun u => !Tryd.prog.wantsStandIn u) = true := by kernel_rfl
        exact (show Tryd.prog.wantsStandIn t = false by simpa using List.all_eq_true.1 hall t hm)⟩)
    (by kernel_rfl)
end walAgain
end Go.Proofs.YtfaghpdhinfblaaDoor
