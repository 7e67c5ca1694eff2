/- Lemmas for the statement: Commit, Played, Taken, SameT, Pick, ReqArg. -/
import Derived.Deep.Cut
import Derived.Deep.CutBlock
import Derived.Deep.CutRange
import Derived.Deep.DeepCutAuto
import Derived.Test.YtchgpijfebilbaaGreatDoorPt1
import Derived.Test.YtchgpijfebilbaaGreatDoorPt2
import Derived.Test.YtchgpijfebilbaaGreatDoorPt3
import Derived.Test.YtchgpijfebilbaaGreatDoorPt4
import Derived.Test.YtchgpijfebilbaaGreatDoorPt5
import Derived.Test.YtchgpijfebilbaaGreatDoorPt6
import Derived.Test.YtchgpijfebilbaaGreatDoorPt7
import Derived.Test.YtchgpijfebilbaaGreatDoorPt8
import Derived.Test.YtchgpijfebilbaaGreatDoorPt9
import Derived.Test.YtchgpijfebilbaaGreatDoorPt10
import Derived.Test.YtchgpijfebilbaaGreatDoorPt11
import Derived.Test.YtchgpijfebilbaaGreatDoorPt12
/- store.Commit. -/
namespace Go.Proofs.YtchgpijfebilbaaGreatDoor
open Go.RowKit Go.ChangeShapes Go.WideShapes Go.ChangeAt
theorem Sl.dropKk {α : Type} {f : α → List Value} {s : Nat} {w : World} {b off n c : Nat} {l : List α} (h : Sl f s w (.slice (some ⟨b, off, none⟩) n c) l) {K : Nat} (hK : K ≤ l.length) (hn : n = l.length) : Sl f s w (.slice (some ⟨b, off + K * s, none⟩) (n - K) (c - K)) (l.drop K) := by
  subst hn
  obtain ⟨A, c', he, h1, h2, h3, h4⟩ := h
  injection he with e1 e2 e3
  subst e3
  simp only [List.length_map] at h1 h4
  refine ⟨some ⟨b, off + K * s, none⟩, c - K, by simp, by simp; omega, by omega, fun y hy => h3 y ?_, fun h0 => ?_⟩
  · rw [List.map_drop] at hy
    exact List.mem_of_mem_drop hy
  · obtain ⟨b', off', hA, hb, hc⟩ := h4 (by simp at h0; omega)
    rw [hA] at e1
    injection e1 with e1
    injection e1 with e4 e5
    subst e4 e5
    refine ⟨b, off + K * s, rfl, hb, fun i y hy j u hu => ?_⟩
    rw [List.map_drop, List.getElem?_drop] at hy
    have := hc (K + i) y hy j u hu
    rw [show off + K * s + i * s + j = off + (K + i) * s + j from by rw [Nat.add_mul]; omega]
    exact this
theorem txn_size {X : Txn} (h : goodT X = 0) : X.path.size ≤ 9223372036854775807 := by
  obtain ⟨x1, x2, x3, x4, x5, x6, x7, x8, x9, x10, x11, x12⟩ := goodT_inv h
  by_cases h2 : X.op ≤ 2
  · rw [(x7 h2).1]
    exact Nat.zero_le _
  · exact Nat.le_trans (goodP_size (x8 (by omega))).2 (by decide)
theorem measK {k M : Nat} (h : k < M) : M - (intOf (.int .i64 ((k : Int) + 1))).toNat < M - (intOf (.int .i64 (k : Int))).toNat := by
  simp [intOf]
  omega
def segL (L : List Txn) (d n : Nat) : List Txn := (L.drop d).take (n - d)
def comSrv (S : Srv) (d n : Nat) : Srv :=
  let r := comL (⟨S.tz, S.nodes, S.sess⟩, S.watches, []) (segL S.log d n)
  { S with done_ := n, tz := r.1.zxid, nodes := r.1.nodes, sess := r.1.sess, watches := r.2.1 }
def comNotes (S : Srv) (d n : Nat) : List Note := (comL (⟨S.tz, S.nodes, S.sess⟩, S.watches, []) (segL S.log d n)).2.2
def CommitRes (p0 : Nat → Prop) (S : Srv) (d n : Nat) (w : World) (e : Ending) (w' : World) : Prop :=
  ∃ v A c, e = .returned (.tuple #[vSrv (comSrv S d n) v, .slice A (comNotes S d n).length c, .int .i64 0]) ∧ SrvIn p0 w' (comSrv S d n) v ∧ Below w.heap.size w w'
set_option maxHeartbeats 2000000 in
theorem trCommit (p0 : Nat → Prop) (S : Srv) (v : SrvV) (d n : Nat) (w : World) (h : SrvIn p0 w S v) (hp0 : ∀ q, p0 q → q < w.heap.size) (hd : S.done_ = (d : Int)) (hdn : d ≤ n) (hn : n ≤ S.log.length) (hl : S.log.length ≤ 1000) (hw : (S.watches.length + 1) * 32 ≤ 140737488355328) (hg : goodTree ⟨S.tz, S.nodes, S.sess⟩ = true) (hr : OkRun ⟨S.tz, S.nodes, S.sess⟩ (segL S.log d n)) (hgt : ∀ x ∈ S.log, goodT x = 0) :
    Calls Tryz.prog 9 #[vSrv S v, .int .i64 n] w (CommitRes p0 S d n w) := by
  obtain ⟨up, D, id, ep, L, dn, tz, nodes, sess, wat⟩ := S
  obtain ⟨da, dc, la, lc, na, nc, sa, sc, wa, wc⟩ := v
  simp only at hd hn hl hw hg hr hgt
  subst hd
  have HP0 := Lib.hid hp0
  clear hp0
  have H := Lib.hid h
  obtain ⟨hD, hL, hN, hS, hW⟩ := h
  simp only at hD hL hN hS hW
  have hcap : L.length ≤ lc := by obtain ⟨_, _, e, h1, _⟩ := hL.1.form; injection e with _ _ e; omega
  have HLC : Hid (lc ≤ maxLen) := Lib.hid (by obtain ⟨_, _, e, _, h2⟩ := hL.1.form; injection e with _ _ e; omega)
  have HL := Lib.hid hL.1
  clear hD hL hN hS hW
  have hi1 : (decide ((n : Int) < (d : Int))) = false := decide_eq_false (by omega)
  have hi2 : (decide ((L.length : Int) < (n : Int))) = false := decide_eq_false (by omega)
  have hi3 : (decide ((d : Int) < 0)) = false := decide_eq_false (by omega)
  go_enter Tryz.func9, Tryz.ntmps9
  go_upto_region 4 with fail
  refine gen_w (fun W1 hW1 => ?_)
  have hb1 : Below w.heap.size w W1 := by rw [hW1.out]; exact (by repeat (first | with_reducible (first | exact bA .. | assumption | exact bJ .. | exact bK .. | exact bL .. | exact bM .. | exact bN .. | refine bB ?_ | refine bC ?_ _ | refine bD _ _ ?_ | refine bE _ ?_ | refine bF ?_ ?_ _ | refine bG ?_ ?_ _ | refine bH _ _ _ ?_ ?_) | omega | (simp; done) | (simp; omega)))
  have hbox : Bk W1 w.heap.size [.bool up, .slice da D.length dc, .int .i64 id, .int .i64 ep, .slice la L.length lc, .int .i64 d, .int .i64 tz, .slice na nodes.length nc, .slice sa sess.length sc, .slice wa wat.length wc] 36 := by rw [hW1.out]; exact Bk.below (Bk.new _ _ _ rfl) (by repeat (first | with_reducible (first | exact bA .. | assumption | exact bJ .. | exact bK .. | exact bL .. | exact bM .. | exact bN .. | refine bB ?_ | refine bC ?_ _ | refine bD _ _ ?_ | refine bE _ ?_ | refine bF ?_ ?_ _ | refine bG ?_ ?_ _ | refine bH _ _ _ ?_ ?_) | omega | (simp; done) | (simp; omega)))
  have hres : Bk W1 (w.heap.size + 1) srvZ 36 := by rw [hW1.out]; exact Bk.new _ _ _ (by simp)
  have HI := H.out.more (p' := pS p0 w.heap.size (w.heap.size + 1) (.slice none 0 0)) (fun q hq => by
    rcases hq with hq | rfl | rfl | hq
    · exact .inl hq
    · exact .inr (Nat.le_refl _)
    · exact .inr (by omega)
    · cases hq)
  have HC : Hid (Cm p0 w w.heap.size (w.heap.size + 1) up (.slice da D.length dc) (.slice la L.length lc) id ep d D L W1 ⟨tz, nodes, sess⟩ (.slice na nodes.length nc) (.slice sa sess.length sc) (.slice wa wat.length wc) wat (.slice none 0 0) []) := Lib.hid ⟨by omega, Nat.le_refl _, by omega, hb1, hbox, hres, HI.disk.below hb1, HI.log.below hb1, HI.nodes.below hb1, HI.sess.below hb1, HI.watches.below hb1, Ow.nil _ _ _ _ _⟩
  clear HI hb1 hbox hres hW1 H
  have b4 : W1.cell? ⟨w.heap.size, 4, none⟩ = some (.slice la L.length lc) := HC.out.box.cell 4
  have b5 : W1.cell? ⟨w.heap.size, 5, none⟩ = some (.int .i64 d) := HC.out.box.cell 5
  clear hi1 hi2 hi3
  go_cut [42, 43, 44] (fun s42 s43 s44 wx => ∃ A' c', s42 = .slice A' (n - d) c' ∧ s43 = .int .i64 ((n - d : Nat) : Int) ∧ s44 = .int .i64 0 ∧ Hid (Sl cTxn 7 w (.slice A' (n - d) c') (segL L d n)) ∧ wx = W1)
  case first =>
    clear hg hr hgt hl hw
    have h0n : (0 : Int) ≤ (d : Int) := by omega
    by_cases hdc : d = lc
    · obtain rfl : n = d := by omega
      have hsg : segL L n n = [] := by unfold segL; rw [Nat.sub_self]; rfl
      have HSG := Lib.hid hsg
      clear hsg
      subst hdc
      go_wp2_with fail
      go_meet
      exact ⟨la, 0, by rw [Nat.sub_self], by rw [Nat.sub_self]; rfl, rfl, Lib.hid (by rw [HSG.out, Nat.sub_self]; exact Sl.empty _ _ _ _ (by simp [maxLen])), rfl⟩
    · have hdc2 : d < lc := by omega
      clear hdc
      cases la with
      | none =>
        obtain rfl := HL.out.none_nil
        simp only [List.length_nil] at *
        obtain rfl : n = 0 := by omega
        obtain rfl : d = 0 := by omega
        go_wp2_with fail
        go_meet
        exact ⟨none, lc, rfl, rfl, rfl, Lib.hid (Sl.empty _ _ _ _ HLC.out), rfl⟩
      | some a =>
        have hspot : ∃ b off, a = ⟨b, off, none⟩ ∨ L = [] := by
          rcases L with _ | ⟨x, r⟩
          · exact ⟨0, 0, .inr rfl⟩
          · obtain ⟨b, off, hA, _⟩ := HL.out.at_ (i := 0) rfl
            injection hA with hA
            exact ⟨b, off, .inl hA⟩
        obtain ⟨b, off, hs⟩ := hspot
        rcases hs with rfl | rfl
        · have HSD := Lib.hid (HL.out.dropKk (show d ≤ L.length by omega) rfl)
          have HSD2 : Hid (Sl cTxn 7 w (.slice (some ⟨b, off + d * 7, none⟩) (n - d) (lc - d)) (segL L d n)) := Lib.hid (by
            have hp := HSD.out.pre2 (List.take_prefix (n - d) (L.drop d))
            rw [List.length_take, List.length_drop, Nat.min_eq_left (by omega)] at hp
            exact hp)
          go_wp2_with fail
          go_meet
          exact ⟨_, _, rfl, rfl, rfl, HSD2, rfl⟩
        · simp only [List.length_nil] at *
          obtain rfl : n = 0 := by omega
          obtain rfl : d = 0 := by omega
          go_wp2_with fail
          go_meet
          exact ⟨_, _, rfl, rfl, rfl, Lib.hid (Sl.empty _ _ _ _ HLC.out), rfl⟩
  case rest =>
    obtain ⟨A', c', rfl, rfl, rfl, HSL, rfl⟩ := hcut
    have hsl : (segL L d n).length = n - d := by unfold segL; rw [List.length_take, List.length_drop]; omega
    have HSG : Hid (∀ x ∈ segL L d n, goodT x = 0) := Lib.hid (fun x hx => hgt x (List.mem_of_mem_drop (List.mem_of_mem_take hx)))
    have HR := Lib.hid hr
    have HGD := Lib.hid hg
    have HW := Lib.hid hw
    clear hr hg hgt b4 b5 hw HL HLC
    obtain ⟨sg, hsg⟩ : ∃ sg, sg = segL L d n := ⟨_, rfl⟩
    rw [← hsg] at HSL HSG hsl HR
    have HSG2 := Lib.hid hsg
    clear hsg
    obtain ⟨M, hM⟩ : ∃ M, M = n - d := ⟨_, rfl⟩
    rw [← hM] at HSL hsl ⊢
    have hM4 : M ≤ 1000 := by omega
    clear hM
    obtain ⟨W1, rfl⟩ : ∃ W, W = wc := ⟨_, rfl⟩
    go_wp2_with fail
    go_loopw [7, 44] (fun av i wr => ∃ (k : Nat) (t : Tr) (nv sv wv : Value) (ws : List Watch) (notes : List Note), k ≤ M ∧ i = .int .i64 k ∧ Hid ((t, ws, notes) = comL (⟨tz, nodes, sess⟩, wat, []) (sg.take k)) ∧ Hid (Cm p0 w w.heap.size (w.heap.size + 1) up (.slice da D.length dc) (.slice la L.length lc) id ep d D L wr t nv sv wv ws av notes)) (fun _ i _ => M - (intOf i).toNat)
    case atStart => exact ⟨0, _, _, _, _, _, _, Nat.zero_le _, rfl, Lib.hid rfl, HC⟩
    case round =>
      obtain ⟨k, t, nv, sv, wv, ws, notes, hk, rfl, hst, hC⟩ := hrel
      obtain ⟨Aa, ca, rfl, _⟩ := hC.out.all.form
      by_cases hlt : k < M
      · have hx : sg[k]? = some (sg[k]'(by omega)) := List.getElem?_eq_getElem _
        have hxg := HSG.out _ (List.mem_of_getElem? hx)
        have hruneq : runT ⟨tz, nodes, sess⟩ (sg.take k) = t := by
          have := comL_tree (sg.take k) (⟨tz, nodes, sess⟩, wat, [])
          rw [← hst.out] at this
          exact this.symm
        have hE := okRun_take sg ⟨tz, nodes, sess⟩ k _ HR.out hx
        rw [hruneq] at hE
        have hok := snap_ok (apply_good hE).2.1
        have hlen := comL_len (sg.take k) (⟨tz, nodes, sess⟩, wat, [])
        rw [← hst.out] at hlen
        simp only [List.length_nil, Nat.add_zero] at hlen
        have hst2 := comL_take (⟨tz, nodes, sess⟩, wat, []) hx
        rw [← hst.out] at hst2
        obtain ⟨b, off, hA, hb, x0, x1, x2, x3, x4, x5, x6⟩ := (HSL.out.below hC.out.bel).Txn_at hx
        subst hA
        generalize sg[k]'(by omega) = x at *
        have HST2 := Lib.hid hst2
        have HLN := Lib.hid hlen
        have hvl := applyV_len x hok.nn
        obtain ⟨An, cn, rfl, _⟩ := hC.out.nod.1.form
        obtain ⟨As, cs, rfl, _⟩ := hC.out.ses.1.form
        obtain ⟨Aw, cw, rfl, _⟩ := hC.out.wat.1.form
        have HAP := Lib.hid (fun (W : World) (h1 : Sl cNode 9 W (.slice An t.nodes.length cn) t.nodes) (h2 : Sl cInt 1 W (.slice As t.sess.length cs) t.sess) => show Calls Tryz.prog 13 #[.agg #[.int .i64 t.zxid, .slice An t.nodes.length cn, .slice As t.sess.length cs], txnV x] W (ApplyRes t x W) from trApply t.zxid _ _ t.nodes t.sess x W h1 h2 (by have := hok.nn; omega) (by have := hok.ns; omega) (fun n hn => by have := (hok.n n hn).1; omega) (txn_size hxg))
        unfold ApplyRes txnV at HAP
        rw [hE] at HAP
        unfold comS at HST2
        dsimp only at HST2
        clear hst hst2 hx hxg hruneq hE hok hlen
        generalize applyT t x = t' at *
        generalize applyV t x = ev at *
        obtain ⟨xz, xo, xs, xp, xd, xv, xw⟩ := x
        dsimp only at *
        go_upto_region 7 with fail
        refine gen_w (fun W2 hW2 => ?_)
        have hC2 : Hid (Cm p0 w w.heap.size (w.heap.size + 1) up (.slice da D.length dc) (.slice la L.length lc) id ep d D L W2 t (.slice An t.nodes.length cn) (.slice As t.sess.length cs) (.slice Aw ws.length cw) ws (.slice Aa notes.length ca) notes) := Lib.hid (hC.out.below (by rw [hW2.out]; exact (by repeat (first | with_reducible (first | exact bA .. | assumption | exact bJ .. | exact bK .. | exact bL .. | exact bM .. | exact bN .. | refine bB ?_ | refine bC ?_ _ | refine bD _ _ ?_ | refine bE _ ?_ | refine bF ?_ ?_ _ | refine bG ?_ ?_ _ | refine bH _ _ _ ?_ ?_) | omega | (simp; done) | (simp; omega)))))
        have hX2 : Hid (Bk W2 wr.heap.size [.int .i64 xz, .int .i64 xo, .int .i64 xs, .string xp, .string xd, .int .i64 xv, .int .i64 xw] 53) := Lib.hid (by rw [hW2.out]; exact Bk.new _ _ _ rfl)
        have hAo : Hid (∀ q, (Value.slice Aa notes.length ca).ownBlock = some q → q < wr.heap.size) := Lib.hid (fun q hq => (hC.out.all.own_in hq).2)
        have hsz := hC.out.bel.size
        have hgs := hC.out.box.lt
        have hgr := hC.out.res.lt
        clear hW2 hC x0 x1 x2 x3 x4 x5 x6 hb
        have y0 : W2.cell? ⟨wr.heap.size, 0, none⟩ = some (.int .i64 xz) := hX2.out.cell 0
        have y1 : W2.cell? ⟨wr.heap.size, 1, none⟩ = some (.int .i64 xo) := hX2.out.cell 1
        have y2 : W2.cell? ⟨wr.heap.size, 2, none⟩ = some (.int .i64 xs) := hX2.out.cell 2
        have y3 : W2.cell? ⟨wr.heap.size, 3, none⟩ = some (.string xp) := hX2.out.cell 3
        have y4 : W2.cell? ⟨wr.heap.size, 4, none⟩ = some (.string xd) := hX2.out.cell 4
        have y5 : W2.cell? ⟨wr.heap.size, 5, none⟩ = some (.int .i64 xv) := hX2.out.cell 5
        have y6 : W2.cell? ⟨wr.heap.size, 6, none⟩ = some (.int .i64 xw) := hX2.out.cell 6
        have c6 : W2.cell? ⟨w.heap.size, 6, none⟩ = some (.int .i64 t.zxid) := hC2.out.box.cell 6
        have c7 : W2.cell? ⟨w.heap.size, 7, none⟩ = some (.slice An t.nodes.length cn) := hC2.out.box.cell 7
        have c8 : W2.cell? ⟨w.heap.size, 8, none⟩ = some (.slice As t.sess.length cs) := hC2.out.box.cell 8
        have hgx := hX2.out.lt
        have hgle : wr.heap.size ≤ W2.heap.size := by omega
        have hN2 := Lib.hid hC2.out.nod.1
        have hS2 := Lib.hid hC2.out.ses.1
        go_upto_region 8 with (go_at_call 13; (with_reducible refine (HAP.out _ hN2.out hS2.out).mono ?_); rintro e w3 ⟨nv, sv, vv, rfl, hn3, hs3, hv3, hb3⟩; obtain ⟨Bn, bn, rfl, _⟩ := hn3.form; obtain ⟨Bs, bs, rfl, _⟩ := hs3.form; obtain ⟨Bv, bv, rfl, _⟩ := hv3.form; have HN3 := Lib.hid hn3; have HS3 := Lib.hid hs3; have HV3 := Lib.hid hv3; have HB3 := Lib.hid hb3; clear hn3 hs3 hv3 hb3 HAP)
        refine gen_w (fun W4 hW4 => ?_)
        have hb34 : Below w3.heap.size w3 W4 := by rw [hW4.out]; exact (by repeat (first | with_reducible (first | exact bA .. | assumption | exact bJ .. | exact bK .. | exact bL .. | exact bM .. | exact bN .. | refine bB ?_ | refine bC ?_ _ | refine bD _ _ ?_ | refine bE _ ?_ | refine bF ?_ ?_ _ | refine bG ?_ ?_ _ | refine bH _ _ _ ?_ ?_) | omega | (simp; done) | (simp; omega)))
        have HT4 : Hid (Bk W4 w3.heap.size [.int .i64 t'.zxid, .slice Bn t'.nodes.length bn, .slice Bs t'.sess.length bs] 34) := Lib.hid (by rw [hW4.out]; exact Bk.new _ _ _ rfl)
        have h23 := HB3.out.size
        have h34 := hb34.size
        have hb24 : Below W2.heap.size W2 W4 := HB3.out.trans (hb34.mono h23)
        have HC4 := Lib.hid (hC2.out.below hb24)
        have HX4 := Lib.hid (hX2.out.below hb24)
        have HN4 := Lib.hid (HN3.out.below hb34)
        have HS4 := Lib.hid (HS3.out.below hb34)
        have HV4 := Lib.hid (HV3.out.below hb34).sl
        clear hW4 hb34 hb24 HB3 hC2 hX2 HN3 HS3 HV3 hN2 hS2 y0 y1 y2 y3 y4 y5 y6 c6 c7 c8
        have c9 : W4.cell? ⟨w.heap.size, 9, none⟩ = some (.slice Aw ws.length cw) := HC4.out.box.cell 9
        have hfl := fireS_len ws ev
        have HFI := Lib.hid (fire_at (.slice Aw ws.length cw) (.slice Bv ev.length bv) ws ev W4 HC4.out.wat.1 HV4.out (by have := HLN.out; have := HW.out; omega) (by omega))
        unfold FireAt at HFI
        generalize fireS ws ev = fr at *
        obtain ⟨fn, fl⟩ := fr
        dsimp only at *
        go_upto_if 69 with (go_at_call 17; (with_reducible refine HFI.out.mono ?_); rintro e w5 ⟨Cn, cn5, Cl, rfl, hnf, hlf, hb5, hfr⟩; have HC5 := Lib.hid (HC4.out.below hb5); have HT5 := Lib.hid (HT4.out.below hb5); have HX5 := Lib.hid (HX4.out.below hb5); have HN5 := Lib.hid (HN4.out.below hb5); have HS5 := Lib.hid (HS4.out.below hb5); have HNF := Lib.hid hnf; have HLF := Lib.hid hlf; have HFR := Lib.hid hfr; have h45 := hb5.size; have y1 : w5.cell? ⟨wr.heap.size, 1, none⟩ = some (.int .i64 xo) := HX5.out.cell 1; have y2 : w5.cell? ⟨wr.heap.size, 2, none⟩ = some (.int .i64 xs) := HX5.out.cell 2; clear hnf hlf hb5 hfr HFI)
        clear HC4 HT4 HX4 HN4 HS4 HV4 c9
        have hgx5 := HX5.out.lt
        obtain ⟨lw, hlw⟩ : ∃ lw, lw = if xo = 2 then dropL fl xs else fl := ⟨_, rfl⟩
        rw [← hlw] at HST2
        have HLW0 := Lib.hid hlw
        clear hlw
        go_cut [14] from 45 to 81 (fun s14 wx => ∃ (Al : Option Addr) (cl : Nat), s14 = .slice Al lw.length cl ∧ Hid (SlA (fun q => q < W4.heap.size) cWatch 3 wx (.slice Al lw.length cl) lw) ∧ Hid (Below w5.heap.size w5 wx))
        case first =>
          by_cases o2 : xo = 2
          · have hlw := HLW0.out
            rw [if_pos o2] at hlw
            clear HLW0
            subst hlw
            have hq : (xo == 2) = true := beq_iff_eq.2 o2
            have HDR := Lib.hid (drop_is (.slice Cl fl.length fl.length) fl xs w5 HLF.out (by have := HLN.out; have := HW.out; omega))
            clear o2
            go_wp2_with (go_at_call 18; (with_reducible refine HDR.out.mono ?_); rintro e w6 ⟨Dl, dl, rfl, ho6, hb6⟩)
            go_meet
            case rel => exact ⟨Dl, dl, rfl, Lib.hid (ho6.sla (fun q hq => Nat.lt_of_lt_of_le hq h45)), Lib.hid hb6⟩
          · have hlw := HLW0.out
            rw [if_neg o2] at hlw
            clear HLW0
            subst hlw
            have hq : (xo == 2) = false := beq_eq_false_iff_ne.2 o2
            go_wp2_with fail
            go_meet
            case rel =>
              refine ⟨Cl, _, rfl, Lib.hid ⟨HLF.out, ?_⟩, Lib.hid (Below.refl _ _)⟩
              rcases HFR.out with e | ⟨g, e, hg⟩
              · exact .inl e
              · refine .inr fun q hq hv => ?_
                subst e
                have e1 : g = q := by simpa [Value.ownBlock] using hv
                omega
        case rest =>
          obtain ⟨Al, cl, rfl, HLW, HB6⟩ := hcut
          obtain ⟨W6, rfl⟩ : ∃ W, W = wc := ⟨_, rfl⟩
          have HC6 := Lib.hid (HC5.out.below HB6.out)
          have HT6 := Lib.hid (HT5.out.below HB6.out)
          have HN6 := Lib.hid (HN5.out.below HB6.out)
          have HS6 := Lib.hid (HS5.out.below HB6.out)
          have HF6 := Lib.hid (HNF.out.below HB6.out)
          have h56 := HB6.out.size
          clear HC5 HT5 HN5 HS5 HNF HB6 HX5 y1 y2 HLF HFR HLW0 hgx5
          have z0 : W6.cell? ⟨w3.heap.size, 0, none⟩ = some (.int .i64 t'.zxid) := HT6.out.cell 0
          have z1 : W6.cell? ⟨w3.heap.size, 1, none⟩ = some (.slice Bn t'.nodes.length bn) := HT6.out.cell 1
          have z2 : W6.cell? ⟨w3.heap.size, 2, none⟩ = some (.slice Bs t'.sess.length bs) := HT6.out.cell 2
          have g6 : W6.cell? ⟨w.heap.size, 6, none⟩ = some (.int .i64 t.zxid) := HC6.out.box.cell 6
          have g7 : W6.cell? ⟨w.heap.size, 7, none⟩ = some (.slice An t.nodes.length cn) := HC6.out.box.cell 7
          have g8 : W6.cell? ⟨w.heap.size, 8, none⟩ = some (.slice As t.sess.length cs) := HC6.out.box.cell 8
          have g9 : W6.cell? ⟨w.heap.size, 9, none⟩ = some (.slice Aw ws.length cw) := HC6.out.box.cell 9
          have f6 := HC6.out.box.frozen 6
          have f7 := HC6.out.box.frozen 7
          have f8 := HC6.out.box.frozen 8
          have f9 := HC6.out.box.frozen 9
          go_upto_region 14 with fail
          refine gen_w (fun W7 hW7 => ?_)
          have hpS : ∀ (B : Nat), wr.heap.size ≤ B → ∀ q, pS p0 w.heap.size (w.heap.size + 1) (.slice Aa notes.length ca) q → q < B := by
            intro B hB q hq
            rcases hq with hq | rfl | rfl | hq
            · have := HP0.out q hq
              omega
            · omega
            · omega
            · exact Nat.lt_of_lt_of_le (hAo.out q hq) hB
          have hLWp : SlA (pS p0 w.heap.size (w.heap.size + 1) (.slice Aa notes.length ca)) cWatch 3 W6 (.slice Al lw.length cl) lw := HLW.out.more (fun q hq => .inl (hpS W4.heap.size (by omega) q hq))
          have HC7 : Hid (Cm p0 w w.heap.size (w.heap.size + 1) up (.slice da D.length dc) (.slice la L.length lc) id ep d D L W7 t' (.slice Bn t'.nodes.length bn) (.slice Bs t'.sess.length bs) (.slice Al lw.length cl) lw (.slice Aa notes.length ca) notes) := Lib.hid (by
            rw [hW7.out]
            exact HC6.out.put (HN6.out.sla (hpS _ hgle)) (HS6.out.sla (hpS _ hgle)) hLWp)
          have HF7 : Hid (Ow cNote 3 102 W7 W4.heap.size (.slice Cn fn.length cn5) fn) := Lib.hid (by
            have k := ow_typeC HF6.out HC6.out.box (by decide)
            rw [hW7.out]
            exact (((HF6.out.far2 k).far2 k).far2 k).far2 k)
          clear hW7 hpS hLWp HC6 HT6 HN6 HS6 HF6 z0 z1 z2 g6 g7 g8 g9 f6 f7 f8 f9 HLW hAo
          have HAPP : Hid (∀ (v20 : Value) (w20 : World), Ow cNote 3 102 w20 w.heap.size v20 (notes ++ fn) → W7.grownBy w20 (Value.slice Aa notes.length ca).ownBlock → (v20.ownBlock = (Value.slice Aa notes.length ca).ownBlock ∨ v20.ownBlock = some W7.heap.size) → Cm p0 w w.heap.size (w.heap.size + 1) up (.slice da D.length dc) (.slice la L.length lc) id ep d D L w20 t' (.slice Bn t'.nodes.length bn) (.slice Bs t'.sess.length bs) (.slice Al lw.length cl) lw v20 (notes ++ fn)) := Lib.hid (fun v20 w20 ho hg hat => HC7.out.push hg ho (hat.imp (fun e => e) (fun e => ⟨_, e, Nat.le_refl _⟩)))
          go_wp2_with (at_builtin; refine wpList_app _ rfl (.tmp 78) (.tmp 79) _ rfl elNote (f := cNote) (B := w.heap.size) (v := .slice Aa notes.length ca) (l := notes) (m := fn) rfl rfl ?o1 ?o2 cNote_one ?o3 ?o4 ?o5 ?o6; (case o1 => exact HC7.out.all); (case o2 => exact HF7.out.sl); (case o3 => (have := HLN.out; have := HW.out; simp [maxLen] <;> omega)); (case o4 => (have := HLN.out; have := HW.out; simp <;> omega)); (case o5 => exact HC7.out.bel.size); intro v20 w20 ho20 hg20 hat20; have HC20 := Lib.hid (HAPP.out v20 w20 ho20 hg20 hat20); clear hg20 hat20 ho20)
          go_roundw
          case rel => exact ⟨k + 1, t', _, _, _, lw, notes ++ fn, by omega, by go_num, Lib.hid HST2.out.symm, HC20⟩
          case measure => exact measK hlt
      · obtain rfl : k = M := by omega
        clear hlt hk
        obtain ⟨An, cn, rfl, _⟩ := hC.out.nod.1.form
        obtain ⟨As, cs, rfl, _⟩ := hC.out.ses.1.form
        obtain ⟨Aw, cw, rfl, _⟩ := hC.out.wat.1.form
        have hsf : Hid (comL (⟨tz, nodes, sess⟩, wat, []) (segL L d n) = (t, ws, notes)) := Lib.hid (by
          have h1 := hst.out
          rw [← hsl, List.take_length, HSG2.out] at h1
          exact h1.symm)
        clear hst
        have g0 : wr.cell? ⟨w.heap.size, 0, none⟩ = some (.bool up) := hC.out.box.cell 0
        have g1 : wr.cell? ⟨w.heap.size, 1, none⟩ = some (.slice da D.length dc) := hC.out.box.cell 1
        have g2 : wr.cell? ⟨w.heap.size, 2, none⟩ = some (.int .i64 id) := hC.out.box.cell 2
        have g3 : wr.cell? ⟨w.heap.size, 3, none⟩ = some (.int .i64 ep) := hC.out.box.cell 3
        have g4 : wr.cell? ⟨w.heap.size, 4, none⟩ = some (.slice la L.length lc) := hC.out.box.cell 4
        have g5 : wr.cell? ⟨w.heap.size, 5, none⟩ = some (.int .i64 d) := hC.out.box.cell 5
        have g6 : wr.cell? ⟨w.heap.size, 6, none⟩ = some (.int .i64 t.zxid) := hC.out.box.cell 6
        have g7 : wr.cell? ⟨w.heap.size, 7, none⟩ = some (.slice An t.nodes.length cn) := hC.out.box.cell 7
        have g8 : wr.cell? ⟨w.heap.size, 8, none⟩ = some (.slice As t.sess.length cs) := hC.out.box.cell 8
        have g9 : wr.cell? ⟨w.heap.size, 9, none⟩ = some (.slice Aw ws.length cw) := hC.out.box.cell 9
        have gf5 := hC.out.box.frozen 5
        have hgrl : w.heap.size + 1 < wr.heap.size := hC.out.res.lt
        have r0 : wr.cell? ⟨w.heap.size + 1, 0, none⟩ = some (.bool false) := hC.out.res.cell 0
        have rf0 := hC.out.res.frozen 0
        have r1 : wr.cell? ⟨w.heap.size + 1, 1, none⟩ = some (.slice none 0 0) := hC.out.res.cell 1
        have rf1 := hC.out.res.frozen 1
        have r2 : wr.cell? ⟨w.heap.size + 1, 2, none⟩ = some (.int .i64 0) := hC.out.res.cell 2
        have rf2 := hC.out.res.frozen 2
        have r3 : wr.cell? ⟨w.heap.size + 1, 3, none⟩ = some (.int .i64 0) := hC.out.res.cell 3
        have rf3 := hC.out.res.frozen 3
        have r4 : wr.cell? ⟨w.heap.size + 1, 4, none⟩ = some (.slice none 0 0) := hC.out.res.cell 4
        have rf4 := hC.out.res.frozen 4
        have r5 : wr.cell? ⟨w.heap.size + 1, 5, none⟩ = some (.int .i64 0) := hC.out.res.cell 5
        have rf5 := hC.out.res.frozen 5
        have r6 : wr.cell? ⟨w.heap.size + 1, 6, none⟩ = some (.int .i64 0) := hC.out.res.cell 6
        have rf6 := hC.out.res.frozen 6
        have r7 : wr.cell? ⟨w.heap.size + 1, 7, none⟩ = some (.slice none 0 0) := hC.out.res.cell 7
        have rf7 := hC.out.res.frozen 7
        have r8 : wr.cell? ⟨w.heap.size + 1, 8, none⟩ = some (.slice none 0 0) := hC.out.res.cell 8
        have rf8 := hC.out.res.frozen 8
        have r9 : wr.cell? ⟨w.heap.size + 1, 9, none⟩ = some (.slice none 0 0) := hC.out.res.cell 9
        have rf9 := hC.out.res.frozen 9
        go_wp2_with fail
        refine gen_e (fun W9 hW9 => ?_)
        have hk9 : Bk W9 (w.heap.size + 1) [.bool up, .slice da D.length dc, .int .i64 id, .int .i64 ep, .slice la L.length lc, .int .i64 n, .int .i64 t.zxid, .slice An t.nodes.length cn, .slice As t.sess.length cs, .slice Aw ws.length cw] 36 := by
          rw [hW9.out]
          exact ((((((((((hC.out.res.far (j := 5) (v := .int .i64 n) hC.out.ne.symm).put 0 (.bool up)).put 1 (.slice da D.length dc)).put 2 (.int .i64 id)).put 3 (.int .i64 ep)).put 4 (.slice la L.length lc)).put 5 (.int .i64 n)).put 6 (.int .i64 t.zxid)).put 7 (.slice An t.nodes.length cn)).put 8 (.slice As t.sess.length cs)).put 9 (.slice Aw ws.length cw)
        have hsw : Swap (pS p0 w.heap.size (w.heap.size + 1) (.slice Aa notes.length ca)) wr W9 := by
          rw [hW9.out]
          exact (((((((((((Swap.refl (pS p0 w.heap.size (w.heap.size + 1) (.slice Aa notes.length ca)) wr).set w.heap.size 5 (.int .i64 n) (.inr (.inl rfl))).set (w.heap.size + 1) 0 (.bool up) (.inr (.inr (.inl rfl)))).set (w.heap.size + 1) 1 (.slice da D.length dc) (.inr (.inr (.inl rfl)))).set (w.heap.size + 1) 2 (.int .i64 id) (.inr (.inr (.inl rfl)))).set (w.heap.size + 1) 3 (.int .i64 ep) (.inr (.inr (.inl rfl)))).set (w.heap.size + 1) 4 (.slice la L.length lc) (.inr (.inr (.inl rfl)))).set (w.heap.size + 1) 5 (.int .i64 n) (.inr (.inr (.inl rfl)))).set (w.heap.size + 1) 6 (.int .i64 t.zxid) (.inr (.inr (.inl rfl)))).set (w.heap.size + 1) 7 (.slice An t.nodes.length cn) (.inr (.inr (.inl rfl)))).set (w.heap.size + 1) 8 (.slice As t.sess.length cs) (.inr (.inr (.inl rfl)))).set (w.heap.size + 1) 9 (.slice Aw ws.length cw) (.inr (.inr (.inl rfl)))
        have hb9 : Below w.heap.size w W9 := by
          rw [hW9.out]
          exact below_set (j := 9) (u := (.slice Aw ws.length cw)) (below_set (j := 8) (u := (.slice As t.sess.length cs)) (below_set (j := 7) (u := (.slice An t.nodes.length cn)) (below_set (j := 6) (u := (.int .i64 t.zxid)) (below_set (j := 5) (u := (.int .i64 n)) (below_set (j := 4) (u := (.slice la L.length lc)) (below_set (j := 3) (u := (.int .i64 ep)) (below_set (j := 2) (u := (.int .i64 id)) (below_set (j := 1) (u := (.slice da D.length dc)) (below_set (j := 0) (u := (.bool up)) (below_set (j := 5) (u := .int .i64 n) hC.out.bel hC.out.o1) hC.out.o2) hC.out.o2) hC.out.o2) hC.out.o2) hC.out.o2) hC.out.o2) hC.out.o2) hC.out.o2) hC.out.o2) hC.out.o2
        have pp0 : W9.cell? ⟨w.heap.size + 1, 0, none⟩ = some (.bool up) := hk9.cell 0
        have pp1 : W9.cell? ⟨w.heap.size + 1, 1, none⟩ = some (.slice da D.length dc) := hk9.cell 1
        have pp2 : W9.cell? ⟨w.heap.size + 1, 2, none⟩ = some (.int .i64 id) := hk9.cell 2
        have pp3 : W9.cell? ⟨w.heap.size + 1, 3, none⟩ = some (.int .i64 ep) := hk9.cell 3
        have pp4 : W9.cell? ⟨w.heap.size + 1, 4, none⟩ = some (.slice la L.length lc) := hk9.cell 4
        have pp5 : W9.cell? ⟨w.heap.size + 1, 5, none⟩ = some (.int .i64 n) := hk9.cell 5
        have pp6 : W9.cell? ⟨w.heap.size + 1, 6, none⟩ = some (.int .i64 t.zxid) := hk9.cell 6
        have pp7 : W9.cell? ⟨w.heap.size + 1, 7, none⟩ = some (.slice An t.nodes.length cn) := hk9.cell 7
        have pp8 : W9.cell? ⟨w.heap.size + 1, 8, none⟩ = some (.slice As t.sess.length cs) := hk9.cell 8
        have pp9 : W9.cell? ⟨w.heap.size + 1, 9, none⟩ = some (.slice Aw ws.length cw) := hk9.cell 9
        have hin : SrvIn p0 W9 ⟨up, D, id, ep, L, n, t.zxid, t.nodes, t.sess, ws⟩ ⟨da, dc, la, lc, An, cn, As, cs, Aw, cw⟩ :=
          ⟨(hC.out.dsk.swap hsw).more (fun q hq => .inl (.inl hq)), (hC.out.log.swap hsw).more (fun q hq => .inl (.inl hq)), (hC.out.nod.swap hsw).more (fun q hq => .inl (.inl hq)), (hC.out.ses.swap hsw).more (fun q hq => .inl (.inl hq)), (hC.out.wat.swap hsw).more (fun q hq => .inl (.inl hq))⟩
        clear hW9 hsw hk9
        refine bodyPost_ret (v := .tuple #[.agg #[.bool up, .slice da D.length dc, .int .i64 id, .int .i64 ep, .slice la L.length lc, .int .i64 n, .int .i64 t.zxid, .slice An t.nodes.length cn, .slice As t.sess.length cs, .slice Aw ws.length cw], .slice Aa notes.length ca, .int .i64 0]) (by simp [results, Tryz.results9, go_sem, pp0, pp1, pp2, pp3, pp4, pp5, pp6, pp7, pp8, pp9]) rfl ?_
        have e1 : comSrv ⟨up, D, id, ep, L, d, tz, nodes, sess, wat⟩ d n = ⟨up, D, id, ep, L, n, t.zxid, t.nodes, t.sess, ws⟩ := by
          unfold comSrv
          simp only
          rw [hsf.out]
        have e2 : comNotes ⟨up, D, id, ep, L, d, tz, nodes, sess, wat⟩ d n = notes := by
          unfold comNotes
          simp only
          rw [hsf.out]
        unfold CommitRes
        rw [e1, e2]
        exact ⟨⟨da, dc, la, lc, An, cn, As, cs, Aw, cw⟩, Aa, ca, rfl, hin, hb9⟩
end Go.Proofs.YtchgpijfebilbaaGreatDoor

/- the law's played: the log of requests that can be done. -/
namespace Go.Proofs.YtchgpijfebilbaaGreatDoor
open Go.RowKit Go.ChangeShapes Go.WideShapes Go.ChangeAt
structure Pl (W1 : World) (bt : Nat) (w : World) (T : Tr) (nv sv av : Value) (m : List Txn) : Prop where
  o1 : W1.heap.size ≤ bt
  bel : Below W1.heap.size W1 w
  box : Bk w bt [.int .i64 T.zxid, nv, sv] 34
  nod : Ow cNode 9 68 w W1.heap.size nv T.nodes
  ses : Ow cInt 1 3 w W1.heap.size sv T.sess
  all : Ow cTxn 7 53 w W1.heap.size av m
section
variable {W1 : World} {bt : Nat} {w w' : World} {T T' : Tr} {nv sv av nv' sv' av' : Value} {m m' : List Txn}
theorem Pl.below (h : Pl W1 bt w T nv sv av m) (hb : Below w.heap.size w w') : Pl W1 bt w' T nv sv av m :=
  ⟨h.o1, h.bel.trans (hb.mono h.bel.size), h.box.below hb, h.nod.below hb, h.ses.below hb, h.all.below hb⟩
theorem Pl.put (h : Pl W1 bt w T nv sv av m) (hn : Ow cNode 9 68 w W1.heap.size nv' T'.nodes) (hs : Ow cInt 1 3 w W1.heap.size sv' T'.sess) :
    Pl W1 bt (((w.setCell ⟨bt, 0, none⟩ (.int .i64 T'.zxid)).setCell ⟨bt, 1, none⟩ nv').setCell ⟨bt, 2, none⟩ sv') T' nv' sv' av m := by
  have k1 := ow_typeC hn h.box (by decide)
  have k2 := ow_typeC hs h.box (by decide)
  have k3 := ow_typeC h.all h.box (by decide)
  exact ⟨h.o1, below_set (below_set (below_set h.bel h.o1) h.o1) h.o1, ((h.box.put 0 _).put 1 _).put 2 _, ((hn.far2 k1).far2 k1).far2 k1, ((hs.far2 k2).far2 k2).far2 k2, ((h.all.far2 k3).far2 k3).far2 k3⟩
theorem bk_typeC {w : World} {g g2 : Nat} {p1 p2 : List Value} {t1 t2 : TypeId} (h : Bk w g p1 t1) (h2 : Bk w g2 p2 t2) (ht : t1 ≠ t2) : g ≠ g2 := by
  rintro rfl
  unfold Bk at h h2
  rw [h] at h2
  injection h2 with hb
  injection hb with _ hb _
  exact ht hb
theorem ow_owC {α β : Type} {f : α → List Value} {f2 : β → List Value} {s1 s2 : Nat} {e e2 : TypeId} {w : World} {B B2 : Nat} {v v2 : Value} {L : List α} {L2 : List β} (ho : Ow f s1 e w B v L) (h2 : Ow f2 s2 e2 w B2 v2 L2) (ht : e ≠ e2) : v.ownBlock = none ∨ v.ownBlock ≠ v2.ownBlock := by
  rcases ho.1.2 with ⟨rfl, _⟩ | ⟨k, cap, cur, rfl, hb2, hg, _⟩
  · exact .inl rfl
  · refine .inr ?_
    intro hq
    rcases h2.1.2 with ⟨rfl, _⟩ | ⟨k2, cap2, cur2, rfl, hb3, hg2, _⟩
    · cases hq
    · have e1 : k = k2 := by simpa [Value.ownBlock] using hq
      subst e1
      rw [hg] at hg2
      injection hg2 with hb
      injection hb with _ hb _
      exact ht hb
theorem Pl.push (h : Pl W1 bt w T nv sv av m) (hg : w.grownBy w' av.ownBlock) (ho : Ow cTxn 7 53 w' W1.heap.size av' m') : Pl W1 bt w' T nv sv av' m' :=
  ⟨h.o1, h.bel.grown hg h.bel.size (fun k hk => (h.all.own_in hk).1), h.box.grown hg (fun e => ow_typeC h.all h.box (by decide) e.symm), h.nod.kept hg (ow_owC h.nod h.all (by decide)), h.ses.kept hg (ow_owC h.ses h.all (by decide)), ho⟩
end
theorem wrap64_small {n : Nat} (h : n < 40) : wrap64 (1 + (n : Int)) = 1 + (n : Int) := by unfold wrap64; omega
theorem wrapI_small {n : Nat} (h : n < 40) : IntKind.i64.wrap (1 + (n : Int)) = 1 + (n : Int) := by
  unfold IntKind.wrap
  simp [IntKind.signed, IntKind.bits]
  omega
theorem played_step {l : List Request} {k : Nat} {r : Request} (h : l[k]? = some r) : playedS (l.take (k + 1)) = playS (playedS (l.take k)) r := by
  rw [List.take_add_one, h]
  exact playedS_snoc _ _
theorem playS_no {s : List Txn × Tr} {r : Request} (h : prepE s.2 (1 + s.1.length) r ≠ 0) : playS s r = s := by unfold playS; rw [if_neg (fun e => h e.2)]
theorem playS_yes {s : List Txn × Tr} {r : Request} (h : s.1.length < 40) (h2 : prepE s.2 (1 + s.1.length) r = 0) : playS s r = (s.1 ++ [prepX s.2 (1 + s.1.length) r], applyT s.2 (prepX s.2 (1 + s.1.length) r)) := by unfold playS; rw [if_pos ⟨h, h2⟩]
theorem played_full : ∀ (r : List Request) (s : List Txn × Tr), 40 ≤ s.1.length → r.foldl playS s = s
  | [], _, _ => rfl
  | x :: r, s, h => by
    have e : playS s x = s := by unfold playS; rw [if_neg (fun e => by omega)]
    rw [List.foldl_cons, e]
    exact played_full r s h
theorem played_stop {l : List Request} {k : Nat} (h : 40 ≤ (playedS (l.take k)).1.length) : playedS l = playedS (l.take k) := by
  have e : playedS l = (l.drop k).foldl playS (playedS (l.take k)) := by unfold playedS; rw [← List.foldl_append, List.take_append_drop]
  rw [e]
  exact played_full _ _ h
set_option maxHeartbeats 1000000 in
theorem trPlayed (v : Value) (l : List Request) (w : World) (h : Sl cRequest 6 w v l) (hz : ∀ r ∈ l, r.path.size ≤ 4611686018427387904) (hn : l.length ≤ 140737488355328) :
    Calls Tryz.prog 4 #[v] w fun e w' => ∃ A c, e = .returned (.slice A (playedS l).1.length c) ∧ Ow cTxn 7 53 w' w.heap.size (.slice A (playedS l).1.length c) (playedS l).1 ∧ Below w.heap.size w w' := by
  obtain ⟨A, c, rfl, _, _⟩ := h.form
  have H := Lib.hid h
  have HZ := Lib.hid hz
  clear h hz
  go_enter Tryz.func4, Tryz.ntmps4
  go_upto_region 3 with (go_at_call 12; (refine (treeNew _).mono ?_); rintro e w1 ⟨A1, c1, rfl, ho1, hb1⟩; have HO1 := Lib.hid ho1; have HB1 := Lib.hid hb1; clear ho1 hb1)
  refine gen_w (fun W1 hW1 => ?_)
  have HP : Hid (Pl w w1.heap.size W1 newTr (.slice A1 1 c1) (.slice none 0 0) (.slice none 0 0) []) := Lib.hid (by
    have hs := HB1.out.size
    refine ⟨hs, ?_, ?_, ?_, Ow.nil _ _ _ _ _, Ow.nil _ _ _ _ _⟩
    · rw [hW1.out]; exact HB1.out.trans (Below.mono (show Below w1.heap.size w1 _ from (by repeat (first | with_reducible (first | exact bA .. | assumption | exact bJ .. | exact bK .. | exact bL .. | exact bM .. | exact bN .. | refine bB ?_ | refine bC ?_ _ | refine bD _ _ ?_ | refine bE _ ?_ | refine bF ?_ ?_ _ | refine bG ?_ ?_ _ | refine bH _ _ _ ?_ ?_) | omega | (simp; done) | (simp; omega)))) hs)
    · rw [hW1.out]; exact Bk.new _ _ _ rfl
    · rw [hW1.out]; exact HO1.out.below (by repeat (first | with_reducible (first | exact bA .. | assumption | exact bJ .. | exact bK .. | exact bL .. | exact bM .. | exact bN .. | refine bB ?_ | refine bC ?_ _ | refine bD _ _ ?_ | refine bE _ ?_ | refine bF ?_ ?_ _ | refine bG ?_ ?_ _ | refine bH _ _ _ ?_ ?_) | omega | (simp; done) | (simp; omega))))
  clear hW1 HO1 HB1
  generalize w1.heap.size = bt at *
  go_wp2_with fail
  go_loopw [4, 5] (fun av i wr => ∃ (k : Nat) (nv sv : Value), k ≤ l.length ∧ i = .int .i64 k ∧ Hid (Pl w bt wr (playedS (l.take k)).2 nv sv av (playedS (l.take k)).1)) (fun _ i _ => l.length - (intOf i).toNat)
  case atStart => exact ⟨0, _, _, Nat.zero_le _, rfl, HP⟩
  case round =>
    obtain ⟨k, nv, sv, hk, rfl, hP⟩ := hrel
    have hpl := played_ok (l.take k)
    have HSTOP := Lib.hid (fun h => played_stop (l := l) (k := k) h)
    by_cases hlt : k < l.length
    · have hx : l[k]? = some (l[k]'hlt) := List.getElem?_eq_getElem _
      have hrz := HZ.out _ (List.mem_of_getElem? hx)
      have hstep := played_step hx
      obtain ⟨b, off, hA, hb, x0, x1, x2, x3, x4, x5⟩ := (H.out.below hP.out.bel).Request_at hx
      subst hA
      generalize l[k]'hlt = r at *
      generalize playedS (l.take k) = s0 at *
      obtain ⟨m, T⟩ := s0
      dsimp only at *
      obtain ⟨Aa, ca, rfl, _⟩ := hP.out.all.form
      obtain ⟨An, cn, rfl, _⟩ := hP.out.nod.form
      obtain ⟨As, cs, rfl, _⟩ := hP.out.ses.form
      have hi1 : (decide ((k : Int) < (l.length : Int))) = true := decide_eq_true (by omega)
      by_cases h40 : m.length < 40
      · have hi2 : (decide ((m.length : Int) < 40)) = true := decide_eq_true (by omega)
        have hok : SnapOk T := snap_ok hpl.good
        have HPR := Lib.hid (fun (W : World) (h1 : Sl cNode 9 W (.slice An T.nodes.length cn) T.nodes) (h2 : Sl cInt 1 W (.slice As T.sess.length cs) T.sess) => show Calls Tryz.prog 14 #[.agg #[.int .i64 T.zxid, .slice An T.nodes.length cn, .slice As T.sess.length cs], .int .i64 (1 + m.length), reqV r] W (PrepIs T (1 + m.length) r W) from trPrepare T.zxid _ _ T.nodes T.sess (1 + m.length) r W h1 h2 (by have := hok.nn; omega) (by have := hok.ns; omega) (fun n hn => by have := (hok.n n hn).1; omega) hrz)
        unfold PrepIs reqV at HPR
        have hw1 : wrap64 (1 + (m.length : Int)) = 1 + (m.length : Int) := wrap64_small h40
        have HWI : Hid (IntKind.i64.wrap (1 + (m.length : Int)) = 1 + (m.length : Int)) := Lib.hid (wrapI_small h40)
        have HNO := Lib.hid (fun h => playS_no (s := (m, T)) (r := r) h)
        have HYES := Lib.hid (fun h => playS_yes (s := (m, T)) (r := r) h40 h)
        have HFIT := Lib.hid (fun (h : prepE T (1 + m.length) r = 0) => prep_fits h)
        dsimp only at HNO HYES
        have hap := fun (h : prepE T (1 + m.length) r = 0) => (prep_fits h).1
        have HAPF := Lib.hid hap
        have HSP := Lib.hid hstep
        have hbt := hP.out.box.lt
        have c0 : wr.cell? ⟨bt, 0, none⟩ = some (.int .i64 T.zxid) := hP.out.box.cell 0
        have c1 : wr.cell? ⟨bt, 1, none⟩ = some (.slice An T.nodes.length cn) := hP.out.box.cell 1
        have c2 : wr.cell? ⟨bt, 2, none⟩ = some (.slice As T.sess.length cs) := hP.out.box.cell 2
        clear hap hstep hx HSTOP hrz
        have HAPG : Hid (∀ (W : World) (X : Txn), goodT X = 0 → Sl cNode 9 W (.slice An T.nodes.length cn) T.nodes → Sl cInt 1 W (.slice As T.sess.length cs) T.sess → Calls Tryz.prog 13 #[.agg #[.int .i64 T.zxid, .slice An T.nodes.length cn, .slice As T.sess.length cs], txnV X] W (ApplyRes T X W)) := Lib.hid (fun W X hX h1 h2 => trApply T.zxid _ _ T.nodes T.sess X W h1 h2 (by have := hok.nn; omega) (by have := hok.ns; omega) (fun n hn => by have := (hok.n n hn).1; omega) (txn_size hX))
        clear hok
        generalize prepX T (1 + m.length) r = X at *
        generalize prepE T (1 + m.length) r = E at *
        obtain ⟨xz, xo, xs, xp, xd, xv, xw⟩ := X
        obtain ⟨ro, rs, rp, rd, rv, rf⟩ := r
        dsimp only at *
        have hNr := Lib.hid hP.out.nod.sl
        have hSr := Lib.hid hP.out.ses.sl
        go_upto_region 6 with fail
        go_cut [6, 7] from 9 to 46 (fun s6 s7 wx => ∃ gx, s6 = .pointer (some ⟨gx, 0, none⟩) ∧ s7 = .int .i64 E ∧ Below wr.heap.size wr wx ∧ Hid (Bk wx gx [.int .i64 xz, .int .i64 xo, .int .i64 xs, .string xp, .string xd, .int .i64 xv, .int .i64 xw] 53))
        case first =>
          refine wp_region_noPanic ?_
          refine wp_region_W (by kernel_rfl) (fun W hW => ?_)
          have cl0 : W.cell? ⟨bt, 0, none⟩ = some (.int .i64 T.zxid) := by rw [hW.out]; go_simp
          have cl1 : W.cell? ⟨bt, 1, none⟩ = some (.slice An T.nodes.length cn) := by rw [hW.out]; go_simp
          have cl2 : W.cell? ⟨bt, 2, none⟩ = some (.slice As T.sess.length cs) := by rw [hW.out]; go_simp
          have cl3 : W.cell? ⟨b, off + k * 6, none⟩ = some (.int .i64 ro) := by rw [hW.out]; go_simp
          have cl4 : W.cell? ⟨b, off + k * 6 + 1, none⟩ = some (.int .i64 rs) := by rw [hW.out]; go_simp
          have cl5 : W.cell? ⟨b, off + k * 6 + 2, none⟩ = some (.string rp) := by rw [hW.out]; go_simp
          have cl6 : W.cell? ⟨b, off + k * 6 + 3, none⟩ = some (.string rd) := by rw [hW.out]; go_simp
          have cl7 : W.cell? ⟨b, off + k * 6 + 4, none⟩ = some (.int .i64 rv) := by rw [hW.out]; go_simp
          have cl8 : W.cell? ⟨b, off + k * 6 + 5, none⟩ = some (.int .i64 rf) := by rw [hW.out]; go_simp
          have HNW := Lib.hid (hNr.out.below (w' := W) (by rw [hW.out]; exact (by repeat (first | with_reducible (first | exact bA .. | assumption | exact bJ .. | exact bK .. | exact bL .. | exact bM .. | exact bN .. | refine bB ?_ | refine bC ?_ _ | refine bD _ _ ?_ | refine bE _ ?_ | refine bF ?_ ?_ _ | refine bG ?_ ?_ _ | refine bH _ _ _ ?_ ?_) | omega | (simp; done) | (simp; omega)))))
          have HSW := Lib.hid (hSr.out.below (w' := W) (by rw [hW.out]; exact (by repeat (first | with_reducible (first | exact bA .. | assumption | exact bJ .. | exact bK .. | exact bL .. | exact bM .. | exact bN .. | refine bB ?_ | refine bC ?_ _ | refine bD _ _ ?_ | refine bE _ ?_ | refine bF ?_ ?_ _ | refine bG ?_ ?_ _ | refine bH _ _ _ ?_ ?_) | omega | (simp; done) | (simp; omega)))))
          have hWs1 : W.heap.size = wr.heap.size := by rw [hW.out]; simp
          have hW1W : Below wr.heap.size wr W := by rw [hW.out]; exact (by repeat (first | with_reducible (first | exact bA .. | assumption | exact bJ .. | exact bK .. | exact bL .. | exact bM .. | exact bN .. | refine bB ?_ | refine bC ?_ _ | refine bD _ _ ?_ | refine bE _ ?_ | refine bF ?_ ?_ _ | refine bG ?_ ?_ _ | refine bH _ _ _ ?_ ?_) | omega | (simp; done) | (simp; omega)))
          have hbW : b < W.heap.size := by omega
          have hbtW : bt < W.heap.size := by omega
          refine wpAny_S (fun w' => w'.cell? ⟨bt, 0, none⟩ = some (.int .i64 T.zxid) ∧ w'.cell? ⟨bt, 1, none⟩ = some (.slice An T.nodes.length cn) ∧ w'.cell? ⟨bt, 2, none⟩ = some (.slice As T.sess.length cs) ∧ w'.cell? ⟨b, off + k * 6, none⟩ = some (.int .i64 ro) ∧ w'.cell? ⟨b, off + k * 6 + 1, none⟩ = some (.int .i64 rs) ∧ w'.cell? ⟨b, off + k * 6 + 2, none⟩ = some (.string rp) ∧ w'.cell? ⟨b, off + k * 6 + 3, none⟩ = some (.string rd) ∧ w'.cell? ⟨b, off + k * 6 + 4, none⟩ = some (.int .i64 rv) ∧ w'.cell? ⟨b, off + k * 6 + 5, none⟩ = some (.int .i64 rf)) (fun i => i == 13) (by (try dsimp only); (refine ⟨?_, ?_, ?_, ?_, ?_, ?_, ?_, ?_, ?_⟩ <;> go_simp)) (fun hHeld => ?_)
          (refine wpE_take (i := 0) (v := ?gV1_1) (by simp only [zD]; rfl) (by kernel_rfl) (by kernel_rfl) (by kernel_rfl) (by kernel_rfl) (by kernel_rfl) (by rfl) (fun _ _ _ h => h) (Or.inl ⟨by rfl, ?gY1_1⟩) (by assumption) ?gR1_1; case gY1_1 => (intro w hSw; (try dsimp only at hSw); go_simp <;> with_reducible rfl))
          try simp only [Act.put, zA, zB, zC]
          (refine wpE_takeP (i := 1) (v := ?gV1_2) (by simp only [zD]; rfl) (by kernel_rfl) (by kernel_rfl) (by kernel_rfl) (by rfl) (fun _ _ _ h => h) (Or.inl ⟨by rfl, ?gY1_2⟩) (by assumption) ?gR1_2; case gY1_2 => (intro w hSw; (try dsimp only at hSw); go_simp <;> with_reducible rfl))
          try simp only [Act.put, zA, zB, zC]
          (refine wpE_takeP (i := 2) (v := ?gV1_3) (by simp only [zD]; rfl) (by kernel_rfl) (by kernel_rfl) (by kernel_rfl) (by rfl) (fun _ _ _ h => h) (Or.inl ⟨by rfl, ?gY1_3⟩) (by assumption) ?gR1_3; case gY1_3 => (intro w hSw; (try dsimp only at hSw); go_simp <;> with_reducible rfl))
          try simp only [Act.put, zA, zB, zC]
          (refine wpE_takeP (i := 3) (v := ?gV1_4) (by simp only [zD]; rfl) (by kernel_rfl) (by kernel_rfl) (by kernel_rfl) (by rfl) (fun _ _ _ h => h) (Or.inl ⟨by rfl, ?gY1_4⟩) (by assumption) ?gR1_4; case gY1_4 => (intro w hSw; (try dsimp only at hSw); go_simp <;> with_reducible rfl))
          try simp only [Act.put, zA, zB, zC]
          (refine wpE_takeP (i := 4) (v := ?gV1_5) (by simp only [zD]; rfl) (by kernel_rfl) (by kernel_rfl) (by kernel_rfl) (by rfl) (fun _ _ _ h => h) (Or.inl ⟨by rfl, ?gY1_5⟩) (by assumption) ?gR1_5; case gY1_5 => (intro w hSw; (try dsimp only at hSw); go_simp <;> with_reducible rfl))
          try simp only [Act.put, zA, zB, zC]
          (refine wpE_takeP (i := 5) (v := ?gV1_6) (by simp only [zD]; rfl) (by kernel_rfl) (by kernel_rfl) (by kernel_rfl) (by rfl) (fun _ _ _ h => h) (Or.inl ⟨by rfl, ?gY1_6⟩) (by assumption) ?gR1_6; case gY1_6 => (intro w hSw; (try dsimp only at hSw); go_simp <;> with_reducible rfl))
          try simp only [Act.put, zA, zB, zC]
          (refine wpE_takeP (i := 6) (v := ?gV1_7) (by simp only [zD]; rfl) (by kernel_rfl) (by kernel_rfl) (by kernel_rfl) (by rfl) (fun _ _ _ h => h) (Or.inl ⟨by rfl, ?gY1_7⟩) (by assumption) ?gR1_7; case gY1_7 => (intro w hSw; (try dsimp only at hSw); go_simp <;> with_reducible rfl))
          try simp only [Act.put, zA, zB, zC]
          (refine wpE_take (i := 7) (v := ?gV1_8) (by simp only [zD]; rfl) (by kernel_rfl) (by kernel_rfl) (by kernel_rfl) (by kernel_rfl) (by kernel_rfl) (by rfl) (fun _ _ _ h => h) (Or.inl ⟨by rfl, ?gY1_8⟩) (by assumption) ?gR1_8; case gY1_8 => (intro w hSw; (try dsimp only at hSw); go_simp <;> with_reducible rfl))
          try simp only [Act.put, zA, zB, zC]
          refine wpE_ready (rs := [8, 12]) (by kernel_rfl) (by simp) ?_
          refine AllE.cons (by simp only [zD]; rfl) (fun K hK => ?gO1_9) ?gL1_9
          case gO1_9 =>
            go_simp
            (go_at_call 14; (try rw [HWI.out]); (with_reducible refine (HPR.out _ (HNW.out.below (by repeat (first | with_reducible (first | exact bA .. | assumption | exact bJ .. | exact bK .. | exact bL .. | exact bM .. | exact bN .. | refine bB ?_ | refine bC ?_ _ | refine bD _ _ ?_ | refine bE _ ?_ | refine bF ?_ ?_ _ | refine bG ?_ ?_ _ | refine bH _ _ _ ?_ ?_) | omega | (simp; done) | (simp; omega)))) (HSW.out.below (by repeat (first | with_reducible (first | exact bA .. | assumption | exact bJ .. | exact bK .. | exact bL .. | exact bM .. | exact bN .. | refine bB ?_ | refine bC ?_ _ | refine bD _ _ ?_ | refine bE _ ?_ | refine bF ?_ ?_ _ | refine bG ?_ ?_ _ | refine bH _ _ _ ?_ ?_) | omega | (simp; done) | (simp; omega))))).mono ?_); rintro e w3 ⟨rfl, hb3⟩; obtain ⟨ext3, d3, rfl⟩ := Below.grown_eq _ hb3; clear hb3)
            refine hK.out _ _ ?gT1_9 (fun hHeld => ?_)
            case gT1_9 => ((try dsimp only); (refine ⟨?_, ?_, ?_, ?_, ?_, ?_, ?_, ?_, ?_⟩ <;> go_simp))
            clear hK K
            try simp only [Act.put, zA, zB, zC]
            (refine wpE_takeP (i := 9) (v := ?gV1_10) (by simp only [zD]; rfl) (by kernel_rfl) (by kernel_rfl) (by kernel_rfl) (by rfl) (fun _ _ _ h => h) (Or.inl ⟨by rfl, ?gY1_10⟩) (by assumption) ?gR1_10; case gY1_10 => (intro w hSw; (try dsimp only at hSw); go_simp <;> with_reducible rfl))
            try simp only [Act.put, zA, zB, zC]
            (refine wpE_takeP (i := 10) (v := ?gV1_11) (by simp only [zD]; rfl) (by kernel_rfl) (by kernel_rfl) (by kernel_rfl) (by rfl) (fun _ _ _ h => h) (Or.inl ⟨by rfl, ?gY1_11⟩) (by assumption) ?gR1_11; case gY1_11 => (intro w hSw; (try dsimp only at hSw); go_simp <;> with_reducible rfl))
            try simp only [Act.put, zA, zB, zC]
            (refine wpE_takeP (i := 11) (v := ?gV1_12) (by simp only [zD]; rfl) (by kernel_rfl) (by kernel_rfl) (by kernel_rfl) (by rfl) (fun _ _ _ h => h) (Or.inl ⟨by rfl, ?gY1_12⟩) (by assumption) ?gR1_12; case gY1_12 => (intro w hSw; (try dsimp only at hSw); go_simp <;> with_reducible rfl))
            try simp only [Act.put, zA, zB, zC]
            refine wpE_ready (rs := [12]) (by kernel_rfl) (by simp) ?_
            refine AllE.cons (by simp only [zD]; rfl) (fun K hK => ?_) AllE.nil
            go_simp
            refine hK.out _ _ ?gT1_13 (fun hHeld => ?_)
            case gT1_13 => ((try dsimp only); (refine ⟨?_, ?_, ?_, ?_, ?_, ?_, ?_, ?_, ?_⟩ <;> go_simp))
            clear hK K
            try simp only [Act.put, zA, zB, zC]
            refine wpE_ready (rs := [13]) (by kernel_rfl) (by simp) ?_
            refine AllE.last (by simp only [zD]; rfl) (by kernel_rfl) (fun K hK => ?_) AllE.nil
            go_simp
            refine hK.out _ _ ?_
            clear hK K
            try simp only [Act.put, zA, zB, zC]
            (refine wpE_takeQ (i := 14) (v := ?gV1_15) (by simp only [zD]; rfl) (by kernel_rfl) (by kernel_rfl) (by kernel_rfl) (by rfl) (fun _ _ _ h => h) (Or.inl ⟨by rfl, ?gY1_15⟩) (by kernel_rfl) ?gR1_15; case gY1_15 => (intro w hSw; (try dsimp only at hSw); go_simp <;> with_reducible rfl))
            try simp only [Act.put, zA, zB, zC]
            refine wpE_done (by kernel_rfl) ?_ _
            refine NoPanic.normal ?_
            go_wp2_with fail
            go_meet
            refine ⟨_, rfl, rfl, ?_, Lib.hid ?n1_15⟩
            · exact Below.own hW1W (by repeat (first | with_reducible (first | exact bA .. | assumption | exact bJ .. | exact bK .. | exact bL .. | exact bM .. | exact bN .. | refine bB ?_ | refine bC ?_ _ | refine bD _ _ ?_ | refine bE _ ?_ | refine bF ?_ ?_ _ | refine bG ?_ ?_ _ | refine bH _ _ _ ?_ ?_) | omega | (simp; done) | (simp; omega)))
            case n1_15 => first | exact Bk.new _ _ _ (by simp [hWs1]) | exact (Bk.new W _ _ hWs1.symm).below (by repeat (first | with_reducible (first | exact bA .. | assumption | exact bJ .. | exact bK .. | exact bL .. | exact bM .. | exact bN .. | refine bB ?_ | refine bC ?_ _ | refine bD _ _ ?_ | refine bE _ ?_ | refine bF ?_ ?_ _ | refine bG ?_ ?_ _ | refine bH _ _ _ ?_ ?_) | omega | (simp; done) | (simp; omega))) | exact (Bk.new (grow W ext3 d3) _ _ (by simp [hWs1])).below (by repeat (first | with_reducible (first | exact bA .. | assumption | exact bJ .. | exact bK .. | exact bL .. | exact bM .. | exact bN .. | refine bB ?_ | refine bC ?_ _ | refine bD _ _ ?_ | refine bE _ ?_ | refine bF ?_ ?_ _ | refine bG ?_ ?_ _ | refine bH _ _ _ ?_ ?_) | omega | (simp; done) | (simp; omega)))
          refine AllE.cons (by simp only [zD]; rfl) (fun K hK => ?gO1_16) ?gL1_16
          case gO1_16 =>
            go_simp
            refine hK.out _ _ ?gT1_16 (fun hHeld => ?_)
            case gT1_16 => ((try dsimp only); (refine ⟨?_, ?_, ?_, ?_, ?_, ?_, ?_, ?_, ?_⟩ <;> go_simp))
            clear hK K
            try simp only [Act.put, zA, zB, zC]
            refine wpE_ready (rs := [8]) (by kernel_rfl) (by simp) ?_
            refine AllE.cons (by simp only [zD]; rfl) (fun K hK => ?_) AllE.nil
            go_simp
            (go_at_call 14; (try rw [HWI.out]); (with_reducible refine (HPR.out _ (HNW.out.below (by repeat (first | with_reducible (first | exact bA .. | assumption | exact bJ .. | exact bK .. | exact bL .. | exact bM .. | exact bN .. | refine bB ?_ | refine bC ?_ _ | refine bD _ _ ?_ | refine bE _ ?_ | refine bF ?_ ?_ _ | refine bG ?_ ?_ _ | refine bH _ _ _ ?_ ?_) | omega | (simp; done) | (simp; omega)))) (HSW.out.below (by repeat (first | with_reducible (first | exact bA .. | assumption | exact bJ .. | exact bK .. | exact bL .. | exact bM .. | exact bN .. | refine bB ?_ | refine bC ?_ _ | refine bD _ _ ?_ | refine bE _ ?_ | refine bF ?_ ?_ _ | refine bG ?_ ?_ _ | refine bH _ _ _ ?_ ?_) | omega | (simp; done) | (simp; omega))))).mono ?_); rintro e w3 ⟨rfl, hb3⟩; obtain ⟨ext3, d3, rfl⟩ := Below.grown_eq _ hb3; clear hb3)
            refine hK.out _ _ ?gT1_17 (fun hHeld => ?_)
            case gT1_17 => ((try dsimp only); (refine ⟨?_, ?_, ?_, ?_, ?_, ?_, ?_, ?_, ?_⟩ <;> go_simp))
            clear hK K
            try simp only [Act.put, zA, zB, zC]
            (refine wpE_takeP (i := 9) (v := ?gV1_18) (by simp only [zD]; rfl) (by kernel_rfl) (by kernel_rfl) (by kernel_rfl) (by rfl) (fun _ _ _ h => h) (Or.inl ⟨by rfl, ?gY1_18⟩) (by assumption) ?gR1_18; case gY1_18 => (intro w hSw; (try dsimp only at hSw); go_simp <;> with_reducible rfl))
            try simp only [Act.put, zA, zB, zC]
            (refine wpE_takeP (i := 10) (v := ?gV1_19) (by simp only [zD]; rfl) (by kernel_rfl) (by kernel_rfl) (by kernel_rfl) (by rfl) (fun _ _ _ h => h) (Or.inl ⟨by rfl, ?gY1_19⟩) (by assumption) ?gR1_19; case gY1_19 => (intro w hSw; (try dsimp only at hSw); go_simp <;> with_reducible rfl))
            try simp only [Act.put, zA, zB, zC]
            (refine wpE_takeP (i := 11) (v := ?gV1_20) (by simp only [zD]; rfl) (by kernel_rfl) (by kernel_rfl) (by kernel_rfl) (by rfl) (fun _ _ _ h => h) (Or.inl ⟨by rfl, ?gY1_20⟩) (by assumption) ?gR1_20; case gY1_20 => (intro w hSw; (try dsimp only at hSw); go_simp <;> with_reducible rfl))
            try simp only [Act.put, zA, zB, zC]
            refine wpE_ready (rs := [13]) (by kernel_rfl) (by simp) ?_
            refine AllE.last (by simp only [zD]; rfl) (by kernel_rfl) (fun K hK => ?_) AllE.nil
            go_simp
            refine hK.out _ _ ?_
            clear hK K
            try simp only [Act.put, zA, zB, zC]
            (refine wpE_takeQ (i := 14) (v := ?gV1_22) (by simp only [zD]; rfl) (by kernel_rfl) (by kernel_rfl) (by kernel_rfl) (by rfl) (fun _ _ _ h => h) (Or.inl ⟨by rfl, ?gY1_22⟩) (by kernel_rfl) ?gR1_22; case gY1_22 => (intro w hSw; (try dsimp only at hSw); go_simp <;> with_reducible rfl))
            try simp only [Act.put, zA, zB, zC]
            refine wpE_done (by kernel_rfl) ?_ _
            refine NoPanic.normal ?_
            go_wp2_with fail
            go_meet
            refine ⟨_, rfl, rfl, ?_, Lib.hid ?n1_22⟩
            · exact Below.own hW1W (by repeat (first | with_reducible (first | exact bA .. | assumption | exact bJ .. | exact bK .. | exact bL .. | exact bM .. | exact bN .. | refine bB ?_ | refine bC ?_ _ | refine bD _ _ ?_ | refine bE _ ?_ | refine bF ?_ ?_ _ | refine bG ?_ ?_ _ | refine bH _ _ _ ?_ ?_) | omega | (simp; done) | (simp; omega)))
            case n1_22 => first | exact Bk.new _ _ _ (by simp [hWs1]) | exact (Bk.new W _ _ hWs1.symm).below (by repeat (first | with_reducible (first | exact bA .. | assumption | exact bJ .. | exact bK .. | exact bL .. | exact bM .. | exact bN .. | refine bB ?_ | refine bC ?_ _ | refine bD _ _ ?_ | refine bE _ ?_ | refine bF ?_ ?_ _ | refine bG ?_ ?_ _ | refine bH _ _ _ ?_ ?_) | omega | (simp; done) | (simp; omega))) | exact (Bk.new (grow W ext3 d3) _ _ (by simp [hWs1])).below (by repeat (first | with_reducible (first | exact bA .. | assumption | exact bJ .. | exact bK .. | exact bL .. | exact bM .. | exact bN .. | refine bB ?_ | refine bC ?_ _ | refine bD _ _ ?_ | refine bE _ ?_ | refine bF ?_ ?_ _ | refine bG ?_ ?_ _ | refine bH _ _ _ ?_ ?_) | omega | (simp; done) | (simp; omega)))
          exact AllE.nil
        case rest =>
          obtain ⟨gx, rfl, rfl, hbx, HBX⟩ := hcut
          obtain ⟨W3, rfl⟩ : ∃ W, W = wc := ⟨_, rfl⟩
          have HP3 := Lib.hid (hP.out.below hbx)
          clear c0 c1 c2 hNr hSr x0 x1 x2 x3 x4 x5 hP hbx HPR hw1 HWI hi2
          by_cases hE : E = 0
          · subst hE
            have hap := HAPF.out rfl
            have hgt := (HFIT.out rfl).2.2.2.2.2.1
            have hys := HYES.out rfl
            have HA := Lib.hid (HAPG.out W3 _ hgt HP3.out.nod.sl HP3.out.ses.sl)
            unfold ApplyRes at HA
            rw [hap] at HA
            have HYS := Lib.hid hys
            clear HAPF HFIT HYES HAPG HNO hap hgt hys
            generalize applyT T ⟨xz, xo, xs, xp, xd, xv, xw⟩ = T' at *
            generalize applyV T ⟨xz, xo, xs, xp, xd, xv, xw⟩ = ev at *
            unfold txnV at HA
            dsimp only at HA
            have c0 : W3.cell? ⟨bt, 0, none⟩ = some (.int .i64 T.zxid) := HP3.out.box.cell 0
            have c1 : W3.cell? ⟨bt, 1, none⟩ = some (.slice An T.nodes.length cn) := HP3.out.box.cell 1
            have c2 : W3.cell? ⟨bt, 2, none⟩ = some (.slice As T.sess.length cs) := HP3.out.box.cell 2
            have y0 : W3.cell? ⟨gx, 0, none⟩ = some (.int .i64 xz) := HBX.out.cell 0
            have y1 : W3.cell? ⟨gx, 1, none⟩ = some (.int .i64 xo) := HBX.out.cell 1
            have y2 : W3.cell? ⟨gx, 2, none⟩ = some (.int .i64 xs) := HBX.out.cell 2
            have y3 : W3.cell? ⟨gx, 3, none⟩ = some (.string xp) := HBX.out.cell 3
            have y4 : W3.cell? ⟨gx, 4, none⟩ = some (.string xd) := HBX.out.cell 4
            have y5 : W3.cell? ⟨gx, 5, none⟩ = some (.int .i64 xv) := HBX.out.cell 5
            have y6 : W3.cell? ⟨gx, 6, none⟩ = some (.int .i64 xw) := HBX.out.cell 6
            go_upto_region 9 with (go_at_call 13; (with_reducible refine HA.out.mono ?_); rintro e w4 ⟨nv, sv, vv, rfl, hn4, hs4, hv4, hb4⟩; obtain ⟨Bn, bn, rfl, _⟩ := hn4.form; obtain ⟨Bs, bs, rfl, _⟩ := hs4.form; have HN4 := Lib.hid hn4; have HS4 := Lib.hid hs4; have h34 := hb4.size; have HP4 := Lib.hid (HP3.out.below hb4); have HB4 := Lib.hid (HBX.out.below hb4); have d0 : w4.cell? ⟨bt, 0, none⟩ = some (.int .i64 T.zxid) := HP4.out.box.cell 0; have d1 : w4.cell? ⟨bt, 1, none⟩ = some (.slice An T.nodes.length cn) := HP4.out.box.cell 1; have d2 : w4.cell? ⟨bt, 2, none⟩ = some (.slice As T.sess.length cs) := HP4.out.box.cell 2; have f0 := HP4.out.box.frozen 0; have f1 := HP4.out.box.frozen 1; have f2 := HP4.out.box.frozen 2; clear hn4 hs4 hv4 hb4 HA)
            refine gen_w (fun W5 hW5 => ?_)
            have hbs := HP3.out.bel.size
            have HP5 : Hid (Pl w bt W5 T' (.slice Bn T'.nodes.length bn) (.slice Bs T'.sess.length bs) (.slice Aa m.length ca) m) := Lib.hid (by
              rw [hW5.out]
              exact HP4.out.put (HN4.out.mono hbs) (HS4.out.mono hbs))
            have HB5 : Hid (Bk W5 gx [.int .i64 xz, .int .i64 xo, .int .i64 xs, .string xp, .string xd, .int .i64 xv, .int .i64 xw] 53) := Lib.hid (by
              have k := bk_typeC HB4.out HP4.out.box (by decide)
              rw [hW5.out]
              exact ((HB4.out.far k).far k).far k)
            clear hW5 HP3 HP4 HBX HB4 HN4 HS4 c0 c1 c2 y0 y1 y2 y3 y4 y5 y6 d0 d1 d2 f0 f1 f2
            have y0 : W5.cell? ⟨gx, 0, none⟩ = some (.int .i64 xz) := HB5.out.cell 0
            have y1 : W5.cell? ⟨gx, 1, none⟩ = some (.int .i64 xo) := HB5.out.cell 1
            have y2 : W5.cell? ⟨gx, 2, none⟩ = some (.int .i64 xs) := HB5.out.cell 2
            have y3 : W5.cell? ⟨gx, 3, none⟩ = some (.string xp) := HB5.out.cell 3
            have y4 : W5.cell? ⟨gx, 4, none⟩ = some (.string xd) := HB5.out.cell 4
            have y5 : W5.cell? ⟨gx, 5, none⟩ = some (.int .i64 xv) := HB5.out.cell 5
            have y6 : W5.cell? ⟨gx, 6, none⟩ = some (.int .i64 xw) := HB5.out.cell 6
            have hb5 := HP5.out.bel.size
            have HAPP : Hid (∀ (W6 : World) (v20 : Value) (w20 : World), Below W5.heap.size W5 W6 → Ow cTxn 7 53 w20 w.heap.size v20 (m ++ [⟨xz, xo, xs, xp, xd, xv, xw⟩]) → W6.grownBy w20 (Value.slice Aa m.length ca).ownBlock → Pl w bt w20 T' (.slice Bn T'.nodes.length bn) (.slice Bs T'.sess.length bs) v20 (m ++ [⟨xz, xo, xs, xp, xd, xv, xw⟩])) := Lib.hid (fun W6 v20 w20 hb ho hg => (HP5.out.below hb).push hg ho)
            go_wp2_with (at_builtin; refine wpList_app _ rfl (.tmp 43) (.tmp 45) _ rfl elTxn (f := cTxn) (B := w.heap.size) (v := .slice Aa m.length ca) (l := m) (m := [⟨xz, xo, xs, xp, xd, xv, xw⟩]) rfl rfl ?o1 ?o2 cTxn_one ?o3 ?o4 ?o5 ?o6; (case o1 => exact HP5.out.all.below ((by repeat (first | with_reducible (first | exact bA .. | assumption | exact bJ .. | exact bK .. | exact bL .. | exact bM .. | exact bN .. | refine bB ?_ | refine bC ?_ _ | refine bD _ _ ?_ | refine bE _ ?_ | refine bF ?_ ?_ _ | refine bG ?_ ?_ _ | refine bH _ _ _ ?_ ?_) | omega | (simp; done) | (simp; omega))))); (case o2 => exact Sl.one_at cTxn 7 _ _ _ rfl _ rfl (by omega) (by simp)); (case o3 => (simp [maxLen] <;> omega)); (case o4 => (simp <;> omega)); (case o5 => (simp <;> omega)); intro v20 w20 ho20 hg20 _; have HC20 := Lib.hid (HAPP.out _ v20 w20 ((by repeat (first | with_reducible (first | exact bA .. | assumption | exact bJ .. | exact bK .. | exact bL .. | exact bM .. | exact bN .. | refine bB ?_ | refine bC ?_ _ | refine bD _ _ ?_ | refine bE _ ?_ | refine bF ?_ ?_ _ | refine bG ?_ ?_ _ | refine bH _ _ _ ?_ ?_) | omega | (simp; done) | (simp; omega)))) ho20 hg20); clear hg20 ho20)
            go_roundw
            case rel => exact ⟨k + 1, _, _, by omega, by go_num, Lib.hid (by rw [HSP.out, HYS.out]; exact HC20.out)⟩
            case measure => exact measK hlt
          · have hE1 : (E != 0) = true := bne_iff_ne.2 hE
            have hno := HNO.out hE
            have HNN := Lib.hid hno
            clear HAPF HFIT HYES HAPG HNO hE hno
            go_wp2_with fail
            go_roundw
            case rel => exact ⟨k + 1, _, _, by omega, by go_num, Lib.hid (by rw [HSP.out, HNN.out]; exact HP3.out)⟩
            case measure => exact measK hlt
      · have hi2 : (decide ((m.length : Int) < 40)) = false := decide_eq_false (by omega)
        have hst := HSTOP.out (by omega)
        go_wp2_with fail
        refine bodyPost_ret (v := .slice Aa m.length ca) (by simp [results, Tryz.results4, go_sem]) rfl ?_
        rw [hst]
        exact ⟨Aa, ca, rfl, hP.out.all, hP.out.bel⟩
    · obtain rfl : k = l.length := by omega
      rw [List.take_length] at hP
      obtain ⟨Aa, ca, rfl, _⟩ := hP.out.all.form
      have hi1 : (decide ((l.length : Int) < (l.length : Int))) = false := decide_eq_false (by omega)
      go_wp2_with fail
      refine bodyPost_ret (v := .slice Aa (playedS l).1.length ca) (by simp [results, Tryz.results4, go_sem]) rfl ?_
      exact ⟨Aa, ca, rfl, hP.out.all, hP.out.bel⟩
end Go.Proofs.YtchgpijfebilbaaGreatDoor

/- the laws' boots, taken. -/
namespace Go.Proofs.YtchgpijfebilbaaGreatDoor
open Go.RowKit Go.ChangeShapes Go.WideShapes Go.ChangeAt
theorem boots_is (w : World) : Calls Tryz.prog 6 #[] w fun e w' => e = .returned (.bool true) ∧ Below w.heap.size w w' := by
  have HB := Lib.hid (fun (W : World) => (storeBoot (fun _ => False) 1 (.slice none 0 0) [] W (Sl.nil _ _ _) (by simp) (by simp) (by decide) (by decide)).mono (fun e w' hh => show ∃ da dc la lc na nc sa sc wa wc, e = .returned (.tuple #[vFill 1 0 ⟨da, dc, la, lc, na, nc, sa, sc, wa, wc⟩, .int .i64 0]) ∧ Below W.heap.size W w' from by
    obtain ⟨s, c, hb, ⟨da, dc, la, lc, na, nc, sa, sc, wa, wc⟩, he, h2, h3⟩ := hh
    obtain ⟨rfl, rfl⟩ := boot_nil hb
    exact ⟨da, dc, la, lc, na, nc, sa, sc, wa, wc, he, h3⟩))
  go_enter Tryz.func6, Tryz.ntmps6
  go_wp2_with ((go_at_call 15; refine (HB.out _).mono ?_; rintro e w1 ⟨da, dc, la, lc, na, nc, sa, sc, wa, wc, rfl, hb1⟩; obtain ⟨ext1, d1, rfl⟩ := Below.grown_eq _ hb1; clear hb1))
  go_ret
  exact ⟨rfl, (by repeat (first | with_reducible (first | exact bA .. | assumption | exact bJ .. | exact bK .. | exact bL .. | exact bM .. | exact bN .. | refine bB ?_ | refine bC ?_ _ | refine bD _ _ ?_ | refine bE _ ?_ | refine bF ?_ ?_ _ | refine bG ?_ ?_ _ | refine bH _ _ _ ?_ ?_) | omega | (simp; done) | (simp; omega)))⟩
theorem Sl.tail {α : Type} {f : α → List Value} {s : Nat} {w : World} {b off n c o : Nat} {x : α} {r : List α} (h : Sl f s w (.slice (some ⟨b, off, none⟩) n c) (x :: r)) (hn : n = r.length + 1) {m k : Nat} (hm : m = r.length) (hk : c = k + 1) (ho : o = off + s) : Sl f s w (.slice (some ⟨b, o, none⟩) m k) r := by
  subst hm hk ho
  obtain ⟨A, c', he, h1, h2, h3, h4⟩ := h
  injection he with e1 e2 e3
  subst e3
  simp only [List.map_cons, List.length_cons, List.length_map] at h1 h4
  obtain ⟨b', off', hA, hb, hc⟩ := h4 (by omega)
  rw [hA] at e1
  injection e1 with e1
  injection e1 with e4 e5
  subst e4 e5
  refine ⟨some ⟨b, off + s, none⟩, k, by simp, by simp; omega, by omega, fun y hy => h3 y (by simp only [List.map_cons]; exact List.mem_cons_of_mem _ hy), fun _ => ⟨b, off + s, rfl, hb, fun i y hy j u hu => ?_⟩⟩
  have := hc (i + 1) y (by simpa using hy) j u hu
  rw [show off + s + i * s + j = off + (i + 1) * s + j from by rw [Nat.succ_mul]; omega]
  exact this
end Go.Proofs.YtchgpijfebilbaaGreatDoor

/- aviarykeep.sameTree at two trees that are the same. -/
namespace Go.Proofs.YtchgpijfebilbaaGreatDoor
open Go.RowKit Go.ChangeShapes Go.WideShapes Go.ChangeAt
set_option maxHeartbeats 1000000 in
theorem same_tree (z : Int) (v v2 u u2 : Value) (l : List Node) (ss : List Int) (w : World) (h : Sl cNode 9 w v l) (h2 : Sl cInt 1 w v2 ss) (k : Sl cNode 9 w u l) (k2 : Sl cInt 1 w u2 ss) (hn : l.length ≤ 4611686018427387904) (hn2 : ss.length ≤ 4611686018427387904) :
    Calls Tryz.prog 10 #[.agg #[.int .i64 z, v, v2], .agg #[.int .i64 z, u, u2]] w fun e w' => e = .returned (.bool true) ∧ Below w.heap.size w w' := by
  obtain ⟨A, c, rfl, _, _⟩ := h.form
  obtain ⟨A2, c2, rfl, _, _⟩ := h2.form
  obtain ⟨B, d, rfl, _, _⟩ := k.form
  obtain ⟨B2, d2, rfl, _, _⟩ := k2.form
  have H := Lib.hid h
  have H2 := Lib.hid h2
  have K := Lib.hid k
  have K2 := Lib.hid k2
  clear h h2 k k2
  go_enter Tryz.func10, Tryz.ntmps10
  go_upto_region 4 with fail
  refine gen_w (fun W hW => ?_)
  have hb : Below w.heap.size w W := by rw [hW.out]; exact (by repeat (first | with_reducible (first | exact bA .. | assumption | exact bJ .. | exact bK .. | exact bL .. | exact bM .. | exact bN .. | refine bB ?_ | refine bC ?_ _ | refine bD _ _ ?_ | refine bE _ ?_ | refine bF ?_ ?_ _ | refine bG ?_ ?_ _ | refine bH _ _ _ ?_ ?_) | omega | (simp; done) | (simp; omega)))
  have a1 : W.cell? ⟨w.heap.size, 1, none⟩ = some (.slice A l.length c) := by rw [hW.out]; go_simp
  have a2 : W.cell? ⟨w.heap.size, 2, none⟩ = some (.slice A2 ss.length c2) := by rw [hW.out]; go_simp
  have b1 : W.cell? ⟨w.heap.size + 1, 1, none⟩ = some (.slice B l.length d) := by rw [hW.out]; go_simp
  have b2 : W.cell? ⟨w.heap.size + 1, 2, none⟩ = some (.slice B2 ss.length d2) := by rw [hW.out]; go_simp
  have HB := Lib.hid hb
  have hz : w.heap.size + 1 < W.heap.size := by rw [hW.out]; simp
  clear hb hW
  have e9 : ∀ (p d : ByteArray) (q2 q3 q4 q5 q6 q7 q8 : Int) (w : World), (binOp .eql 68 (.agg #[.string p, .string d, .int .i64 q2, .int .i64 q3, .int .i64 q4, .int .i64 q5, .int .i64 q6, .int .i64 q7, .int .i64 q8]) (.agg #[.string p, .string d, .int .i64 q2, .int .i64 q3, .int .i64 q4, .int .i64 q5, .int .i64 q6, .int .i64 q7, .int .i64 q8])).run Tryz.prog w = .ok (.bool true) w := by
    intros
    simp [go_sem]
  go_wp2_with fail
  go_loopw [5] (fun i wr => ∃ k : Nat, k ≤ l.length ∧ i = .int .i64 k ∧ Hid (Below W.heap.size W wr)) (fun i _ => l.length - (intOf i).toNat)
  case atStart => exact ⟨0, Nat.zero_le _, rfl, Lib.hid (Below.refl _ _)⟩
  case round =>
    obtain ⟨k, hk, rfl, hbl⟩ := hrel
    have a1' := (hbl.out.cell (p := ⟨w.heap.size, 1, none⟩) (by simp only; omega)).trans a1
    have b1' := (hbl.out.cell (p := ⟨w.heap.size + 1, 1, none⟩) (by simp only; omega)).trans b1
    have a2' := (hbl.out.cell (p := ⟨w.heap.size, 2, none⟩) (by simp only; omega)).trans a2
    have b2' := (hbl.out.cell (p := ⟨w.heap.size + 1, 2, none⟩) (by simp only; omega)).trans b2
    have hB2 := Lib.hid (HB.out.trans (hbl.out.mono HB.out.size))
    by_cases hlt : k < l.length
    · have hx : l[k]? = some (l[k]'hlt) := List.getElem?_eq_getElem _
      obtain ⟨g1, o1, hA, hg1, n0, n1, n2, n3, n4, n5, n6, n7, n8⟩ := (H.out.below hB2.out).Node_at hx
      obtain ⟨g2, o2, hB, hg2, m0, m1, m2, m3, m4, m5, m6, m7, m8⟩ := (K.out.below hB2.out).Node_at hx
      subst hA hB
      generalize l[k]'hlt = x at *
      obtain ⟨p, d, q2, q3, q4, q5, q6, q7, q8⟩ := x
      simp only at n0 n1 n2 n3 n4 n5 n6 n7 n8 m0 m1 m2 m3 m4 m5 m6 m7 m8
      have qE := fun w => e9 p d q2 q3 q4 q5 q6 q7 q8 w
      clear hx e9
      go_wp2_with fail
      go_quiet (fail)
      go_wp2_with fail
      go_roundw
      case rel => exact ⟨k + 1, by omega, by go_num, Lib.hid (hbl.out.trans (Below.mono (show Below wr.heap.size wr _ from (by repeat (first | with_reducible (first | exact bA .. | assumption | exact bJ .. | exact bK .. | exact bL .. | exact bM .. | exact bN .. | refine bB ?_ | refine bC ?_ _ | refine bD _ _ ?_ | refine bE _ ?_ | refine bF ?_ ?_ _ | refine bG ?_ ?_ _ | refine bH _ _ _ ?_ ?_) | omega | (simp; done) | (simp; omega)))) hbl.out.size))⟩
      case measure => simp [intOf]; omega
    · obtain rfl : k = l.length := by omega
      clear hlt hk b1'
      have hnk : (decide ((l.length : Int) < (l.length : Int))) = false := decide_eq_false (by omega)
      obtain ⟨Wb, rfl⟩ : ∃ Wb, Wb = wr := ⟨_, rfl⟩
      go_wp2_with fail
      go_loopw [6] (fun i wr => ∃ k : Nat, k ≤ ss.length ∧ i = .int .i64 k ∧ Hid (Below Wb.heap.size Wb wr)) (fun i _ => ss.length - (intOf i).toNat)
      case atStart => exact ⟨0, Nat.zero_le _, rfl, Lib.hid (Below.refl _ _)⟩
      case round =>
        obtain ⟨k, hk, rfl, hbk⟩ := hrel
        have hzb := hbl.out.size
        have a3 := (hbk.out.cell (p := ⟨w.heap.size, 2, none⟩) (by simp only; omega)).trans a2'
        have b3 := (hbk.out.cell (p := ⟨w.heap.size + 1, 2, none⟩) (by simp only; omega)).trans b2'
        have hB3 := Lib.hid (hB2.out.trans (hbk.out.mono hB2.out.size))
        by_cases hlt : k < ss.length
        · have hx : ss[k]? = some (ss[k]'hlt) := List.getElem?_eq_getElem _
          obtain ⟨g1, o1, hA, hg1, n0⟩ := (H2.out.below hB3.out).Int_at hx
          obtain ⟨g2, o2, hB, hg2, m0⟩ := (K2.out.below hB3.out).Int_at hx
          subst hA hB
          generalize ss[k]'hlt = x at *
          clear hx a2' b2'
          go_wp2_with fail
          go_quiet (fail)
          go_wp2_with fail
          go_roundw
          case rel => exact ⟨k + 1, by omega, by go_num, Lib.hid (hbk.out.trans (Below.mono (show Below wr.heap.size wr _ from (by repeat (first | with_reducible (first | exact bA .. | assumption | exact bJ .. | exact bK .. | exact bL .. | exact bM .. | exact bN .. | refine bB ?_ | refine bC ?_ _ | refine bD _ _ ?_ | refine bE _ ?_ | refine bF ?_ ?_ _ | refine bG ?_ ?_ _ | refine bH _ _ _ ?_ ?_) | omega | (simp; done) | (simp; omega)))) hbk.out.size))⟩
          case measure => simp [intOf]; omega
        · obtain rfl : k = ss.length := by omega
          clear hlt hk
          go_wp2_with fail
          go_ret
          exact ⟨rfl, hB3.out⟩
end Go.Proofs.YtchgpijfebilbaaGreatDoor

/- aviarykeep: a number brought to 0 to n - 1. -/
namespace Go.Proofs.YtchgpijfebilbaaGreatDoor
open Go.RowKit Go.ChangeShapes Go.WideShapes Go.ChangeAt
def pickV (k : Int) (n : Nat) : Int := if k.tmod n < 0 then k.tmod n + n else k.tmod n
theorem pickV_range (k : Int) {n : Nat} (h0 : 0 < n) : 0 ≤ pickV k n ∧ pickV k n < n := by
  have ht1 : -(n : Int) < k.tmod n := by
    have := Int.tmod_lt_of_pos (-k) (show (0 : Int) < n by omega)
    rw [Int.neg_tmod] at this
    omega
  have ht2 : k.tmod n < (n : Int) := Int.tmod_lt_of_pos _ (by omega)
  unfold pickV
  split <;> omega
theorem pick_eq (k : Int) (n : Nat) (w : World) (h0 : 0 < n) (h1 : n ≤ 140737488355328) :
    Calls Tryz.prog 8 #[.int .i64 k, .int .i64 n] w fun e w' => e = .returned (.int .i64 (pickV k n)) ∧ w = w' := by
  have ht1 : -(n : Int) < k.tmod n := by
    have := Int.tmod_lt_of_pos (-k) (show (0 : Int) < n by omega)
    rw [Int.neg_tmod] at this
    omega
  have ht2 : k.tmod n < (n : Int) := Int.tmod_lt_of_pos _ (by omega)
  unfold pickV
  generalize hq : k.tmod n = q at *
  by_cases hn : q < 0
  · rw [if_pos hn]
    go_enter Tryz.func8, Tryz.ntmps8
    go_wp2
    go_ret
    exact ⟨rfl, rfl⟩
  · rw [if_neg hn]
    go_enter Tryz.func8, Tryz.ntmps8
    go_wp2
    go_ret
    exact ⟨rfl, rfl⟩
end Go.Proofs.YtchgpijfebilbaaGreatDoor

/- A request that comes from outside, opened. -/
namespace Go.Proofs.YtchgpijfebilbaaGreatDoor
open Go.RowKit Go.ChangeShapes Go.WideShapes Go.ChangeAt
set_option maxRecDepth 100000 in
theorem open_request {w : World} {n : Nat} {cs : List Value} (h : Deep Tryz.prog w (n + 10) 58 cs) : ∃ r : Request, cs = cRequest r ∧ r.path.size ≤ 140737488351232 := by
  obtain ⟨hl, hf⟩ := deep_struct Tryz.underlying58 h
  rw [show Tryz.prog.cellsOf 58 = 6 from by kernel_rfl] at hl
  obtain ⟨c0, c1, c2, c3, c4, c5, rfl⟩ : ∃ a b c d e f, cs = [a, b, c, d, e, f] := by
    rcases cs with _ | ⟨a, _ | ⟨b, _ | ⟨c, _ | ⟨d, _ | ⟨e, _ | ⟨f, _ | ⟨g, cs⟩⟩⟩⟩⟩⟩⟩ <;> simp at hl
    exact ⟨a, b, c, d, e, f, rfl⟩
  obtain ⟨z0, e0, _⟩ := deep_int Tryz.underlying3 (deep_at hf 0 3 0 1 rfl (by kernel_rfl))
  obtain ⟨z1, e1, _⟩ := deep_int Tryz.underlying3 (deep_at hf 1 3 1 1 rfl (by kernel_rfl))
  obtain ⟨p, e2, hp⟩ := deep_string Tryz.underlying9 (deep_at hf 2 9 2 1 rfl (by kernel_rfl))
  obtain ⟨d, e3, _⟩ := deep_string Tryz.underlying9 (deep_at hf 3 9 3 1 rfl (by kernel_rfl))
  obtain ⟨z4, e4, _⟩ := deep_int Tryz.underlying3 (deep_at hf 4 3 4 1 rfl (by kernel_rfl))
  obtain ⟨z5, e5, _⟩ := deep_int Tryz.underlying3 (deep_at hf 5 3 5 1 rfl (by kernel_rfl))
  simp only [List.drop_zero, List.drop_succ_cons, List.take_succ_cons, List.take_zero, List.cons.injEq, and_true] at e0 e1 e2 e3 e4 e5
  subst e0 e1 e2 e3 e4 e5
  simp only [reachBytes] at hp
  exact ⟨⟨z0, z1, p, d, z4, z5⟩, rfl, hp⟩
end Go.Proofs.YtchgpijfebilbaaGreatDoor
