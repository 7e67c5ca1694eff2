/- Lemmas for the statement: Filled, Fire, Fire2, Fire3, Watch, DropW, SnapM, ReplayL, T3N, TreeA, T4N, T5N, QG. -/
import Derived.Deep.RegionHeld3
import Derived.Deep.CutBlock
import Derived.BigQuiet
import Derived.Test.YtchgpijfebilbaaGreatDoorPt1
import Derived.Test.YtchgpijfebilbaaGreatDoorPt2
import Derived.Test.YtchgpijfebilbaaGreatDoorPt3
import Derived.Test.YtchgpijfebilbaaGreatDoorPt4
import Derived.Test.YtchgpijfebilbaaGreatDoorPt5
import Derived.Test.YtchgpijfebilbaaGreatDoorPt6
/- the laws' filled, boots, taken. -/
namespace Go.Proofs.YtchgpijfebilbaaGreatDoor
open Go.RowKit Go.ChangeShapes Go.WideShapes Go.ChangeAt
abbrev fillS (id : Int) (m : List Txn) : Srv := ⟨true, logF m, id, 0, m, 0, 0, [rootN], [], []⟩
theorem take_fill {id : Int} {m : List Txn} {t : Txn} (hg : goodT t = 0) (hz : lastZ m < t.zxid) (hs : (recs (m ++ [t])).length ≤ 42271) : takeE (fillS id m) t true = 0 ∧ takeS (fillS id m) t true = fillS id (m ++ [t]) := by
  have h := app_F (m := m) hg (by omega)
  have e : takeE (fillS id m) t true = 0 := by
    unfold takeE
    simp only
    rw [if_neg (by omega)]
    exact h.2
  refine ⟨e, ?_⟩
  unfold takeS
  rw [if_pos e]
  simp only
  rw [h.1, ← logF_D]
theorem epoch_none {f : List File} (h : readE f epN ≠ 0) : epochF f = 0 := by unfold epochF; rw [if_neg h]
theorem epoch_nil : epochF [] = 0 := by
  refine epoch_none ?_
  rw [(read_none nil_good (by simp)).1]
  decide
theorem boot_nil {id : Int} {s : Srv} {c : Int} (h : BootIs id [] s c) : c = 0 ∧ s = fillS id [] := by
  obtain ⟨L, f', hr, hc⟩ := h
  obtain ⟨rfl, rfl, rfl⟩ := rec_log (m := []) ⟨by simp, List.Pairwise.nil⟩ (by decide) hr
  rcases hc with ⟨_, hs⟩ | ⟨h, _⟩
  · rw [epoch_nil] at hs
    exact ⟨rfl, hs⟩
  · exact absurd rfl h
def LogP (m : List Txn) : Prop := LogOk m ∧ ∀ t ∈ m, 1 ≤ t.zxid
theorem last_lt {m : List Txn} (h : LogP m) {k : Nat} {x : Txn} (hx : m[k]? = some x) : lastZ (m.take k) < x.zxid := by
  obtain ⟨hk, rfl⟩ := List.getElem?_eq_some_iff.1 hx
  by_cases h0 : m.take k = []
  · rw [h0, lastZ_nil]
    have := h.2 _ (List.getElem_mem hk)
    omega
  · obtain ⟨t, ht, e⟩ := lastZ_mem h0
    rw [e]
    obtain ⟨i, hi⟩ := List.mem_iff_getElem?.1 ht
    rw [List.getElem?_take] at hi
    split at hi
    · obtain ⟨hi2, rfl⟩ := List.getElem?_eq_some_iff.1 hi
      exact List.pairwise_iff_getElem.1 h.1.2 i k hi2 hk (by assumption)
    · cases hi
def FillRes (p : Nat → Prop) (m : List Txn) (w : World) (e : Ending) (w' : World) : Prop := ∃ v, e = .returned (.tuple #[vSrv (fillS 0 m) v, .bool true]) ∧ SrvIn p w' (fillS 0 m) v ∧ Below w.heap.size w w'
theorem take_step {m : List Txn} (h : LogP m) (h40 : m.length ≤ 41) {k : Nat} {x : Txn} (hx : m[k]? = some x) (id : Int) : takeE (fillS id (m.take k)) x true = 0 ∧ takeS (fillS id (m.take k)) x true = fillS id (m.take (k + 1)) := by
  have e : m.take k ++ [x] = m.take (k + 1) := by rw [List.take_add_one, hx]; rfl
  have := take_fill (id := id) (m := m.take k) (h.1.1 x (List.mem_of_getElem? hx)) (last_lt h hx) (by rw [e]; exact recs_small (logOk_take h.1 _) (by rw [List.length_take]; omega))
  rw [e] at this
  exact this
abbrev vFill (id : Int) (k : Nat) (v : SrvV) : Value := .agg #[.bool true, .slice v.da 1 v.dc, .int .i64 id, .int .i64 0, .slice v.la k v.lc, .int .i64 0, .int .i64 0, .slice v.na 1 v.nc, .slice v.sa 0 v.sc, .slice v.wa 0 v.wc]
theorem vFill_take {l : List Txn} {k : Nat} (hk : k ≤ l.length) (id : Int) (v : SrvV) : vSrv (fillS id (l.take k)) v = vFill id k v := by
  have e : (l.take k).length = k := by rw [List.length_take]; omega
  simp only [vSrv, e]
  rfl
def TkRes (p : Nat → Prop) (l : List Txn) (k : Nat) (w : World) (e : Ending) (w' : World) : Prop := ∃ da dc la lc na nc sa sc wa wc, e = .returned (.tuple #[vFill 0 k ⟨da, dc, la, lc, na, nc, sa, sc, wa, wc⟩, .int .i64 0]) ∧ SrvIn p w' (fillS 0 (l.take k)) ⟨da, dc, la, lc, na, nc, sa, sc, wa, wc⟩ ∧ Below w.heap.size w w'
set_option maxRecDepth 100000 in
set_option maxHeartbeats 4000000 in
theorem filled_is (p : Nat → Prop) (v : Value) (l : List Txn) (w : World) (h : Sl cTxn 7 w v l) (hp : ∀ q, p q → q < w.heap.size) (hl : LogP l) (hn : l.length ≤ 41) :
    Calls Tryz.prog 5 #[v] w (FillRes p l w) := by
  obtain ⟨A, c, rfl, hc1, hc2⟩ := h.form
  have H := Lib.hid h
  have HP := Lib.hid hp
  have HB := Lib.hid (fun (p : Nat → Prop) (W : World) (hp : ∀ q, p q → q < W.heap.size) => (storeBoot p 0 (.slice none 0 0) [] W (Sl.nil _ _ _) hp (by simp) (by decide) (by decide)).mono (fun e w' hh => show TkRes p l 0 W e w' from by
    obtain ⟨s, c, hb, ⟨da, dc, la, lc, na, nc, sa, sc, wa, wc⟩, he, h2, h3⟩ := hh
    obtain ⟨rfl, rfl⟩ := boot_nil hb
    exact ⟨da, dc, la, lc, na, nc, sa, sc, wa, wc, he, h2, h3⟩))
  have HT := Lib.hid (fun (k : Nat) (x : Txn) (hx : l[k]? = some x) (p : Nat → Prop) (W : World) (v : SrvV) (h : SrvIn p W (fillS 0 (l.take k)) v) (hp : ∀ q, p q → q < W.heap.size) => show Calls Tryz.prog 16 #[vFill 0 k v, vTxn x, .bool true] W (TkRes p l (k + 1) W) from by
    have hk : k < l.length := (List.getElem?_eq_some_iff.1 hx).1
    have h1 := storeTake p (fillS 0 (l.take k)) v x true W h hp (logF_sized _ (recs_small (logOk_take hl.1 k) (by rw [List.length_take]; omega))) (by simp only [List.length_take]; omega) (good_path (hl.1.1 x (List.mem_of_getElem? hx)))
    have h2 := take_step hl hn hx 0
    rw [h2.1, h2.2, vFill_take (by omega)] at h1
    refine h1.mono fun e w' hh => ?_
    obtain ⟨⟨da, dc, la, lc, na, nc, sa, sc, wa, wc⟩, he, h3, h4⟩ := hh
    exact ⟨da, dc, la, lc, na, nc, sa, sc, wa, wc, by rw [he, vFill_take (by omega)], h3, h4⟩)
  have HE := Lib.hid (show l.take l.length = l from List.take_length)
  clear h hl hp
  go_enter Tryz.func5, Tryz.ntmps5
  go_wp2_with ((go_at_call 15; refine (HB.out (fun q => p q ∨ q = w.heap.size) _ (by rintro q (hq | rfl); exact Nat.lt_of_lt_of_le (HP.out q hq) (by simp); simp)).mono ?_; rintro e w1 ⟨da, dc, la, lc, na, nc, sa, sc, wa, wc, rfl, h1, hb1⟩; obtain ⟨ext1, d1, rfl⟩ := Below.grown_eq _ hb1; have H1 := Lib.hid h1; clear h1 hb1))
  go_loopw [5, 6] (fun e i wr => ∃ (k : Nat) (da : Option Addr) (dc : Nat) (la : Option Addr) (lc : Nat) (na : Option Addr) (nc : Nat) (sa : Option Addr) (sc : Nat) (wa : Option Addr) (wc : Nat) (ext : Array Obj) (d : Nat), k ≤ l.length ∧ e = .int .i64 0 ∧ i = .int .i64 k ∧
     wr = grow ((grow (w.alloc (.cells #[.bool false, .slice none 0 0, .int .i64 0, .int .i64 0, .slice none 0 0, .int .i64 0, .int .i64 0, .slice none 0 0, .slice none 0 0, .slice none 0 0] 36)) ext1 d1).alloc (.cells #[.bool true, .slice da 1 dc, .int .i64 0, .int .i64 0, .slice la k lc, .int .i64 0, .int .i64 0, .slice na 1 nc, .slice sa 0 sc, .slice wa 0 wc] 36)) ext d ∧ Hid (SrvIn (fun q => p q ∨ q = w.heap.size ∨ q = w.heap.size + 1 + ext1.size) wr (fillS 0 (l.take k)) ⟨da, dc, la, lc, na, nc, sa, sc, wa, wc⟩)) (fun _ i _ => l.length - (intOf i).toNat)
  case atStart => exact ⟨0, da, dc, la, lc, na, nc, sa, sc, wa, wc, _, _, Nat.zero_le _, rfl, rfl, grown_of (by repeat (first | with_reducible (first | exact bA .. | assumption | exact bJ .. | exact bK .. | exact bL .. | exact bM .. | exact bN .. | refine bB ?_ | refine bC ?_ _ | refine bD _ _ ?_ | refine bE _ ?_ | refine bF ?_ ?_ _ | refine bG ?_ ?_ _ | refine bH _ _ _ ?_ ?_) | omega | (simp; done) | (simp; omega))), Lib.hid ((H1.out.more (p' := fun q => p q ∨ q = w.heap.size ∨ q = w.heap.size + 1 + ext1.size) (by rintro q (hq | rfl | rfl); exact .inl (.inl hq); exact .inl (.inr rfl); exact .inr (by simp))).below (by repeat (first | with_reducible (first | exact bA .. | assumption | exact bJ .. | exact bK .. | exact bL .. | exact bM .. | exact bN .. | refine bB ?_ | refine bC ?_ _ | refine bD _ _ ?_ | refine bE _ ?_ | refine bF ?_ ?_ _ | refine bG ?_ ?_ _ | refine bH _ _ _ ?_ ?_) | omega | (simp; done) | (simp; omega))))⟩
  case round =>
    obtain ⟨k, da, dc, la, lc, na, nc, sa, sc, wa, wc, ext, d, hk, rfl, rfl, rfl, hs⟩ := hrel
    clear H1
    by_cases hlt : k < l.length
    · have hx : l[k]? = some (l[k]'hlt) := List.getElem?_eq_getElem _
      obtain ⟨b, off, rfl, hb, x0, x1, x2, x3, x4, x5, x6⟩ := H.out.Txn_at hx
      have HX := Lib.hid (HT.out k _ hx)
      generalize l[k]'hlt = x at *
      clear hx
      go_wp2_with fail
      refine wp_region_noPanic ?_
      refine wp_region_W (by kernel_rfl) (fun W hW => ?_)
      have cl0 : W.cell? ⟨w.heap.size + 1 + ext1.size, 0, none⟩ = some (.bool true) := by rw [hW.out]; go_simp
      have cl1 : W.cell? ⟨w.heap.size + 1 + ext1.size, 1, none⟩ = some (.slice da 1 dc) := by rw [hW.out]; go_simp
      have cl2 : W.cell? ⟨w.heap.size + 1 + ext1.size, 2, none⟩ = some (.int .i64 0) := by rw [hW.out]; go_simp
      have cl3 : W.cell? ⟨w.heap.size + 1 + ext1.size, 3, none⟩ = some (.int .i64 0) := by rw [hW.out]; go_simp
      have cl4 : W.cell? ⟨w.heap.size + 1 + ext1.size, 4, none⟩ = some (.slice la k lc) := by rw [hW.out]; go_simp
      have cl5 : W.cell? ⟨w.heap.size + 1 + ext1.size, 5, none⟩ = some (.int .i64 0) := by rw [hW.out]; go_simp
      have cl6 : W.cell? ⟨w.heap.size + 1 + ext1.size, 6, none⟩ = some (.int .i64 0) := by rw [hW.out]; go_simp
      have cl7 : W.cell? ⟨w.heap.size + 1 + ext1.size, 7, none⟩ = some (.slice na 1 nc) := by rw [hW.out]; go_simp
      have cl8 : W.cell? ⟨w.heap.size + 1 + ext1.size, 8, none⟩ = some (.slice sa 0 sc) := by rw [hW.out]; go_simp
      have cl9 : W.cell? ⟨w.heap.size + 1 + ext1.size, 9, none⟩ = some (.slice wa 0 wc) := by rw [hW.out]; go_simp
      have cl10 : W.cell? ⟨b, off + k * 7, none⟩ = some (.int .i64 x.zxid) := by rw [hW.out]; go_simp
      have cl11 : W.cell? ⟨b, off + k * 7 + 1, none⟩ = some (.int .i64 x.op) := by rw [hW.out]; go_simp
      have cl12 : W.cell? ⟨b, off + k * 7 + 2, none⟩ = some (.int .i64 x.session) := by rw [hW.out]; go_simp
      have cl13 : W.cell? ⟨b, off + k * 7 + 3, none⟩ = some (.string x.path) := by rw [hW.out]; go_simp
      have cl14 : W.cell? ⟨b, off + k * 7 + 4, none⟩ = some (.string x.data) := by rw [hW.out]; go_simp
      have cl15 : W.cell? ⟨b, off + k * 7 + 5, none⟩ = some (.int .i64 x.version) := by rw [hW.out]; go_simp
      have cl16 : W.cell? ⟨b, off + k * 7 + 6, none⟩ = some (.int .i64 x.owner) := by rw [hW.out]; go_simp
      have HPW : Hid (∀ q, (p q ∨ q = w.heap.size ∨ q = w.heap.size + 1 + ext1.size) → q < W.heap.size) := Lib.hid (by rw [hW.out]; rintro q (hq | rfl | rfl); have := HP.out q hq; simp; omega; simp; omega; simp; omega)
      have hsW := Lib.hid (hs.out.below (w' := W) (by rw [hW.out]; exact (by repeat (first | with_reducible (first | exact bA .. | assumption | exact bJ .. | exact bK .. | exact bL .. | exact bM .. | exact bN .. | refine bB ?_ | refine bC ?_ _ | refine bD _ _ ?_ | refine bE _ ?_ | refine bF ?_ ?_ _ | refine bG ?_ ?_ _ | refine bH _ _ _ ?_ ?_) | omega | (simp; done) | (simp; omega)))))
      refine wpAny_S (fun w' => w'.cell? ⟨w.heap.size + 1 + ext1.size, 0, none⟩ = some (.bool true) ∧ w'.cell? ⟨w.heap.size + 1 + ext1.size, 1, none⟩ = some (.slice da 1 dc) ∧ w'.cell? ⟨w.heap.size + 1 + ext1.size, 2, none⟩ = some (.int .i64 0) ∧ w'.cell? ⟨w.heap.size + 1 + ext1.size, 3, none⟩ = some (.int .i64 0) ∧ w'.cell? ⟨w.heap.size + 1 + ext1.size, 4, none⟩ = some (.slice la k lc) ∧ w'.cell? ⟨w.heap.size + 1 + ext1.size, 5, none⟩ = some (.int .i64 0) ∧ w'.cell? ⟨w.heap.size + 1 + ext1.size, 6, none⟩ = some (.int .i64 0) ∧ w'.cell? ⟨w.heap.size + 1 + ext1.size, 7, none⟩ = some (.slice na 1 nc) ∧ w'.cell? ⟨w.heap.size + 1 + ext1.size, 8, none⟩ = some (.slice sa 0 sc) ∧ w'.cell? ⟨w.heap.size + 1 + ext1.size, 9, none⟩ = some (.slice wa 0 wc) ∧ w'.cell? ⟨b, off + k * 7, none⟩ = some (.int .i64 x.zxid) ∧ w'.cell? ⟨b, off + k * 7 + 1, none⟩ = some (.int .i64 x.op) ∧ w'.cell? ⟨b, off + k * 7 + 2, none⟩ = some (.int .i64 x.session) ∧ w'.cell? ⟨b, off + k * 7 + 3, none⟩ = some (.string x.path) ∧ w'.cell? ⟨b, off + k * 7 + 4, none⟩ = some (.string x.data) ∧ w'.cell? ⟨b, off + k * 7 + 5, none⟩ = some (.int .i64 x.version) ∧ w'.cell? ⟨b, off + k * 7 + 6, none⟩ = some (.int .i64 x.owner)) (fun i => i == 9) (by (try dsimp only); (refine ⟨?_, ?_, ?_, ?_, ?_, ?_, ?_, ?_, ?_, ?_, ?_, ?_, ?_, ?_, ?_, ?_, ?_⟩ <;> go_simp)) (fun hHeld => ?_)
      (refine wpE_take (i := 0) (v := ?gV1_1) (by simp only [zD]; rfl) (by kernel_rfl) (by kernel_rfl) (by kernel_rfl) (by kernel_rfl) (by kernel_rfl) (by rfl) (fun _ _ _ h => h) (Or.inl ⟨by rfl, ?gY1_1⟩) (by assumption) ?gR1_1; case gY1_1 => (intro w hSw; (try dsimp only at hSw); go_simp <;> with_reducible rfl))
      try simp only [Act.put, zA, zB, zC]
      (refine wpE_takeP (i := 1) (v := ?gV1_2) (by simp only [zD]; rfl) (by kernel_rfl) (by kernel_rfl) (by kernel_rfl) (by rfl) (fun _ _ _ h => h) (Or.inl ⟨by rfl, ?gY1_2⟩) (by assumption) ?gR1_2; case gY1_2 => (intro w hSw; (try dsimp only at hSw); go_simp <;> with_reducible rfl))
      try simp only [Act.put, zA, zB, zC]
      (refine wpE_takeP (i := 2) (v := ?gV1_3) (by simp only [zD]; rfl) (by kernel_rfl) (by kernel_rfl) (by kernel_rfl) (by rfl) (fun _ _ _ h => h) (Or.inl ⟨by rfl, ?gY1_3⟩) (by assumption) ?gR1_3; case gY1_3 => (intro w hSw; (try dsimp only at hSw); go_simp <;> with_reducible rfl))
      try simp only [Act.put, zA, zB, zC]
      (refine wpE_takeP (i := 3) (v := ?gV1_4) (by simp only [zD]; rfl) (by kernel_rfl) (by kernel_rfl) (by kernel_rfl) (by rfl) (fun _ _ _ h => h) (Or.inl ⟨by rfl, ?gY1_4⟩) (by assumption) ?gR1_4; case gY1_4 => (intro w hSw; (try dsimp only at hSw); go_simp <;> with_reducible rfl))
      try simp only [Act.put, zA, zB, zC]
      (refine wpE_take (i := 4) (v := ?gV1_5) (by simp only [zD]; rfl) (by kernel_rfl) (by kernel_rfl) (by kernel_rfl) (by kernel_rfl) (by kernel_rfl) (by rfl) (fun _ _ _ h => h) (Or.inl ⟨by rfl, ?gY1_5⟩) (by assumption) ?gR1_5; case gY1_5 => (intro w hSw; (try dsimp only at hSw); go_simp <;> with_reducible rfl))
      try simp only [Act.put, zA, zB, zC]
      refine wpE_ready (rs := [5]) (by kernel_rfl) (by simp) ?_
      refine AllE.cons (by simp only [zD]; rfl) (fun K hK => ?_) AllE.nil
      go_simp
      (go_at_call 16; refine (HX.out (fun q => p q ∨ q = w.heap.size ∨ q = w.heap.size + 1 + ext1.size) _ ⟨da, dc, la, lc, na, nc, sa, sc, wa, wc⟩ (hsW.out.below (by repeat (first | with_reducible (first | exact bA .. | assumption | exact bJ .. | exact bK .. | exact bL .. | exact bM .. | exact bN .. | refine bB ?_ | refine bC ?_ _ | refine bD _ _ ?_ | refine bE _ ?_ | refine bF ?_ ?_ _ | refine bG ?_ ?_ _ | refine bH _ _ _ ?_ ?_) | omega | (simp; done) | (simp; omega)))) (HPW.out)).mono ?_; rintro e w3 ⟨da2, dc2, la2, lc2, na2, nc2, sa2, sc2, wa2, wc2, rfl, h3, hb3⟩; obtain ⟨ext3, d3, rfl⟩ := Below.grown_eq W (Below.own (by repeat (first | with_reducible (first | exact bA .. | assumption | exact bJ .. | exact bK .. | exact bL .. | exact bM .. | exact bN .. | refine bB ?_ | refine bC ?_ _ | refine bD _ _ ?_ | refine bE _ ?_ | refine bF ?_ ?_ _ | refine bG ?_ ?_ _ | refine bH _ _ _ ?_ ?_) | omega | (simp; done) | (simp; omega))) hb3); have H3 := Lib.hid h3; clear h3 hb3; have hWW := hW.out; subst hWW)
      refine hK.out _ _ ?gT1_6 (fun hHeld => ?_)
      case gT1_6 => ((try dsimp only); (refine ⟨?_, ?_, ?_, ?_, ?_, ?_, ?_, ?_, ?_, ?_, ?_, ?_, ?_, ?_, ?_, ?_, ?_⟩ <;> go_simp))
      clear hK K
      try simp only [Act.put, zA, zB, zC]
      (refine wpE_takeP (i := 6) (v := ?gV1_7) (by simp only [zD]; rfl) (by kernel_rfl) (by kernel_rfl) (by kernel_rfl) (by rfl) (fun _ _ _ h => h) (Or.inl ⟨by rfl, ?gY1_7⟩) (by assumption) ?gR1_7; case gY1_7 => (intro w hSw; (try dsimp only at hSw); go_simp <;> with_reducible rfl))
      try simp only [Act.put, zA, zB, zC]
      (refine wpE_takeP (i := 7) (v := ?gV1_8) (by simp only [zD]; rfl) (by kernel_rfl) (by kernel_rfl) (by kernel_rfl) (by rfl) (fun _ _ _ h => h) (Or.inl ⟨by rfl, ?gY1_8⟩) (by assumption) ?gR1_8; case gY1_8 => (intro w hSw; (try dsimp only at hSw); go_simp <;> with_reducible rfl))
      try simp only [Act.put, zA, zB, zC]
      (refine wpE_takeP (i := 8) (v := ?gV1_9) (by simp only [zD]; rfl) (by kernel_rfl) (by kernel_rfl) (by kernel_rfl) (by rfl) (fun _ _ _ h => h) (Or.inl ⟨by rfl, ?gY1_9⟩) (by assumption) ?gR1_9; case gY1_9 => (intro w hSw; (try dsimp only at hSw); go_simp <;> with_reducible rfl))
      try simp only [Act.put, zA, zB, zC]
      refine wpE_ready (rs := [9]) (by kernel_rfl) (by simp) ?_
      refine AllE.last (by simp only [zD]; rfl) (by kernel_rfl) (fun K hK => ?_) AllE.nil
      go_simp
      refine hK.out _ _ ?_
      clear hK K
      try simp only [Act.put, zA, zB, zC]
      (refine wpE_takeQ (i := 10) (v := ?gV1_11) (by simp only [zD]; rfl) (by kernel_rfl) (by kernel_rfl) (by kernel_rfl) (by rfl) (fun _ _ _ h => h) (Or.inl ⟨by rfl, ?gY1_11⟩) (by kernel_rfl) ?gR1_11; case gY1_11 => (intro w hSw; (try dsimp only at hSw); go_simp <;> with_reducible rfl))
      try simp only [Act.put, zA, zB, zC]
      refine wpE_done (by kernel_rfl) ?_ _
      refine NoPanic.normal ?_
      go_wp2_with fail
      go_roundw
      case rel => exact ⟨k + 1, da2, dc2, la2, lc2, na2, nc2, sa2, sc2, wa2, wc2, _, _, by omega, rfl, by go_num, grown_of (by repeat (first | with_reducible (first | exact bA .. | assumption | exact bJ .. | exact bK .. | exact bL .. | exact bM .. | exact bN .. | refine bB ?_ | refine bC ?_ _ | refine bD _ _ ?_ | refine bE _ ?_ | refine bF ?_ ?_ _ | refine bG ?_ ?_ _ | refine bH _ _ _ ?_ ?_) | omega | (simp; done) | (simp; omega))), Lib.hid (H3.out.swap (by repeat (first | with_reducible exact Swap.refl _ _ | with_reducible refine Swap.drew1 ?_ | with_reducible refine Swap.drew2 ?_ | with_reducible refine Swap.drewN1 ?_ | with_reducible refine Swap.drewN2 ?_ | with_reducible refine Swap.grow ?_ _ _ _ | with_reducible refine Swap.alloc ?_ _ | with_reducible refine Swap.new ?_ _ _ ?_ | with_reducible refine Swap.set ?_ _ _ _ ?_ | (simp; done) | (simp; omega))))⟩
      case measure => simp [intOf]; omega
    · have hkl : k = l.length := by omega
      subst hkl
      have hs2 := hs.out
      rw [HE.out] at hs2
      have HS2 := Lib.hid hs2
      clear hs2 hs
      go_wp2_with fail
      refine bodyPost_ret (v := .tuple #[vFill 0 l.length ⟨da, dc, la, lc, na, nc, sa, sc, wa, wc⟩, .bool true]) (by simp [results, Tryz.results5, go_sem]) rfl ⟨⟨da, dc, la, lc, na, nc, sa, sc, wa, wc⟩, ?_, (HS2.out.swap (by repeat (first | with_reducible exact Swap.refl _ _ | with_reducible refine Swap.drew1 ?_ | with_reducible refine Swap.drew2 ?_ | with_reducible refine Swap.drewN1 ?_ | with_reducible refine Swap.drewN2 ?_ | with_reducible refine Swap.grow ?_ _ _ _ | with_reducible refine Swap.alloc ?_ _ | with_reducible refine Swap.new ?_ _ _ ?_ | with_reducible refine Swap.set ?_ _ _ _ ?_ | (simp; done) | (simp; omega)))).more (fun q hq => .inl (.inl hq)), (by repeat (first | with_reducible (first | exact bA .. | assumption | exact bJ .. | exact bK .. | exact bL .. | exact bM .. | exact bN .. | refine bB ?_ | refine bC ?_ _ | refine bD _ _ ?_ | refine bE _ ?_ | refine bF ?_ ?_ _ | refine bG ?_ ?_ _ | refine bH _ _ _ ?_ ?_) | omega | (simp; done) | (simp; omega)))⟩
      rw [← vFill_take (Nat.le_refl _), HE.out]
end Go.Proofs.YtchgpijfebilbaaGreatDoor

/- watch.Fire: its closure, slices.IndexFunc and slices.DeleteFunc at that closure, Clip. -/
namespace Go.Proofs.YtchgpijfebilbaaGreatDoor
open Go.RowKit Go.ChangeShapes Go.WideShapes Go.ChangeAt
@[go_sem] theorem bytes_beq (a b : ByteArray) : (a.toList == b.toList) = decide (a = b) := by
  rw [ByteArray.toList_eq, ByteArray.toList_eq]
  by_cases h : a = b
  · subst h; simp
  · rw [decide_eq_false h, beq_eq_false_iff_ne]
    intro e
    exact h (ByteArray.ext (Array.toList_inj.mp e))
theorem ret_boolF {a b : Bool} (h : a = b) : Ending.returned (.bool a) = Ending.returned (.bool b) := by rw [h]
def touchB (x : Watch) (e : Event) : Bool := if x.path = e.path then (if x.kind = 2 then (e.kind == 4 || e.kind == 2) else (e.kind == 1 || e.kind == 2 || e.kind == 3)) else false
theorem touches_is (x : Watch) (ev : Event) (w : World) :
    Calls Tryz.prog 40 #[.agg #[.int .i64 x.session, .int .i64 x.kind, .string x.path], .agg #[.int .i64 ev.kind, .string ev.path]] w fun e w' => e = .returned (.bool (touchB x ev)) ∧ Below w.heap.size w w' := by
  unfold touchB
  obtain ⟨s, k, p⟩ := x
  obtain ⟨ek, ep⟩ := ev
  simp only
  by_cases hp : p = ep
  · subst hp
    rw [if_pos rfl]
    by_cases hk : k = 2
    · subst hk
      rw [if_pos rfl]
      go_enter Tryz.func40, Tryz.ntmps40
      go_wp2
      all_goals
        go_ret
        exact ⟨ret_boolF (by first | rfl | simp_all), (by repeat (first | exact bA .. | assumption | refine bB ?_ | refine bC ?_ _ | refine bD _ _ ?_ | refine bE _ ?_ | refine bG ?_ (by first | omega | (simp; done) | (simp; omega)) _ | refine Below.setCell ?_ (by first | omega | (simp; done) | (simp; omega)) _ | refine Below.grow _ _ _ ?_ (by first | omega | (simp; done) | (simp; omega))))⟩
    · rw [if_neg hk]
      go_enter Tryz.func40, Tryz.ntmps40
      go_wp2
      all_goals
        go_ret
        exact ⟨ret_boolF (by first | rfl | simp_all), (by repeat (first | exact bA .. | assumption | refine bB ?_ | refine bC ?_ _ | refine bD _ _ ?_ | refine bE _ ?_ | refine bG ?_ (by first | omega | (simp; done) | (simp; omega)) _ | refine Below.setCell ?_ (by first | omega | (simp; done) | (simp; omega)) _ | refine Below.grow _ _ _ ?_ (by first | omega | (simp; done) | (simp; omega))))⟩
  · rw [if_neg hp]
    go_enter Tryz.func40, Tryz.ntmps40
    go_wp2
    go_ret
    exact ⟨rfl, (by repeat (first | exact bA .. | assumption | refine bB ?_ | refine bC ?_ _ | refine bD _ _ ?_ | refine bE _ ?_ | refine bG ?_ (by first | omega | (simp; done) | (simp; omega)) _ | refine Below.setCell ?_ (by first | omega | (simp; done) | (simp; omega)) _ | refine Below.grow _ _ _ ?_ (by first | omega | (simp; done) | (simp; omega))))⟩
/-! ### the state that Fire's closure works on: the notes' variable, and blocks that it leaves as they are -/
def FSat (w W : World) (bn : Nat) (notes : List Note) (bs : List (Nat × List Value × TypeId)) (A : Option Addr) (c : Nat) : Prop :=
  Below w.heap.size w W ∧ w.heap.size ≤ bn ∧ Bk W bn [.slice A notes.length c] 42 ∧ Ow cNote 3 102 W w.heap.size (.slice A notes.length c) notes ∧ (Value.slice A notes.length c).ownBlock ≠ some bn ∧
    ∀ b ∈ bs, Bk W b.1 b.2.1 b.2.2 ∧ b.1 ≠ bn ∧ (Value.slice A notes.length c).ownBlock ≠ some b.1
def FS (w W : World) (bn : Nat) (notes : List Note) (bs : List (Nat × List Value × TypeId)) : Prop := ∃ A c, FSat w W bn notes bs A c
section
variable {w W W' : World} {bn : Nat} {notes : List Note} {bs bs' : List (Nat × List Value × TypeId)}
theorem FS.below (h : FS w W bn notes bs) (hb : Below W.heap.size W W') : FS w W' bn notes bs := by
  obtain ⟨A, c, h1, h2, h3, h4, h5, h6⟩ := h
  exact ⟨A, c, Below.own h1 hb, h2, h3.below hb, h4.below hb, h5, fun b hm => ⟨(h6 b hm).1.below hb, (h6 b hm).2⟩⟩
theorem FS.sub (h : FS w W bn notes bs) (hs : ∀ b ∈ bs', b ∈ bs) : FS w W bn notes bs' := by
  obtain ⟨A, c, h1, h2, h3, h4, h5, h6⟩ := h
  exact ⟨A, c, h1, h2, h3, h4, h5, fun b hm => h6 b (hs b hm)⟩
theorem FS.base (h : FS w W bn notes bs) : Below w.heap.size w W := h.choose_spec.choose_spec.1
theorem FS.bk (h : FS w W bn notes bs) {g : Nat} {cs : List Value} {t : TypeId} (hm : (g, cs, t) ∈ bs) : Bk W g cs t := (h.choose_spec.choose_spec.2.2.2.2.2 _ hm).1
theorem FS.push (h : FS w W bn notes bs) (cs : List Value) (t : TypeId) : FS w (W.alloc (.cells cs.toArray t)) bn notes ((W.heap.size, cs, t) :: bs) := by
  have h' := h.below (W' := W.alloc (.cells cs.toArray t)) (below_alloc0 _ (Below.refl _ _))
  obtain ⟨A, c, h1, h2, h3, h4, h5, h6⟩ := h
  obtain ⟨_, _, h1', h2', _, _, _, h6'⟩ := h'
  have hb : Below W.heap.size W (W.alloc (.cells cs.toArray t)) := below_alloc0 _ (Below.refl _ _)
  refine ⟨A, c, Below.own h1 hb, h2, h3.below hb, h4.below hb, h5, fun b hm => ?_⟩
  rcases List.mem_cons.1 hm with rfl | hm
  · refine ⟨by unfold Bk; show (W.heap.push _)[W.heap.size]? = _; simp, by have := h3.lt; omega, fun e => ?_⟩
    have := (h4.own_in e).2
    omega
  · exact ⟨(h6 b hm).1.below hb, (h6 b hm).2⟩
theorem FS.put {g : Nat} {cs : List Value} {t : TypeId} (h : FS w W bn notes ((g, cs, t) :: bs)) (hg : w.heap.size ≤ g) (hne : ∀ b ∈ bs, b.1 ≠ g) (j : Nat) (v : Value) : FS w (W.setCell ⟨g, j, none⟩ v) bn notes ((g, cs.set j v, t) :: bs) := by
  obtain ⟨A, c, h1, h2, h3, h4, h5, h6⟩ := h
  obtain ⟨k1, k2, k3⟩ := h6 _ List.mem_cons_self
  have hgr := grownBy_setCell W g j v
  refine ⟨A, c, Below.put h1 hg, h2, h3.grown hgr (by simpa using Ne.symm k2), h4.kept hgr (.inr k3), h5, fun b hm => ?_⟩
  rcases List.mem_cons.1 hm with rfl | hm
  · exact ⟨k1.put j v, k2, k3⟩
  · obtain ⟨q1, q2, q3⟩ := h6 b (List.mem_cons_of_mem _ hm)
    exact ⟨q1.grown hgr (by simpa using hne b hm), q2, q3⟩
theorem FSat.note {W4 w5 : World} {A A' : Option Addr} {c c' : Nat} {x : Note} (h : FSat w W bn notes bs A c) (hb : Below W.heap.size W W4) (hown : Ow cNote 3 102 w5 w.heap.size (.slice A' (notes ++ [x]).length c') (notes ++ [x]))
    (hg : W4.grownBy w5 (Value.slice A notes.length c).ownBlock) (hat : (Value.slice A' (notes ++ [x]).length c').ownBlock = (Value.slice A notes.length c).ownBlock ∨ (Value.slice A' (notes ++ [x]).length c').ownBlock = some W4.heap.size) :
    FS w (w5.setCell ⟨bn, 0, none⟩ (.slice A' (notes ++ [x]).length c')) bn (notes ++ [x]) bs := by
  obtain ⟨h1, h2, h3, h4, h5, h6⟩ := h
  have hlt := h3.lt
  have hsz := hb.size
  have hne : (Value.slice A' (notes ++ [x]).length c').ownBlock ≠ some bn := by
    rcases hat with e | e
    · rw [e]; exact h5
    · rw [e]; intro e'; injection e' with e'; omega
  have hbase : Below w.heap.size w w5 := (Below.own h1 hb).grown hg (by have := h1.size; omega) (fun k hk => (h4.own_in hk).1)
  have hgr := grownBy_setCell w5 bn 0 (.slice A' (notes ++ [x]).length c')
  refine ⟨A', c', Below.put hbase h2, h2, ?_, hown.kept hgr (.inr hne), hne, fun b hm => ?_⟩
  · exact ((h3.below hb).grown hg (fun e => h5 e.symm)).put 0 _
  · obtain ⟨q1, q2, q3⟩ := h6 b hm
    refine ⟨((q1.below hb).grown hg (fun e => q3 e.symm)).grown hgr (by simpa using q2), q2, ?_⟩
    rcases hat with e | e
    · rw [e]; exact q3
    · rw [e]; intro e'; injection e' with e'; have := q1.lt; omega
end
def noteOf (ev : Event) (x : Watch) : Note := ⟨x.session, ev.kind, ev.path⟩
def notesOf (ev : Event) (l : List Watch) : List Note := (l.filter (fun x => touchB x ev)).map (noteOf ev)
set_option maxHeartbeats 1000000 in
theorem fireClosure (x : Watch) (ev : Event) (w W : World) (bn be : Nat) (notes : List Note) (bs : List (Nat × List Value × TypeId)) (h : FS w W bn notes bs) (he : (be, cEvent ev, 84) ∈ bs) (hn : (notes.length + 1) * 32 ≤ 140737488355328) :
    Calls Tryz.prog 39 #[.agg #[.int .i64 x.session, .int .i64 x.kind, .string x.path], .pointer (some ⟨be, 0, none⟩), .pointer (some ⟨bn, 0, none⟩)] W
      fun e W' => e = .returned (.bool (touchB x ev)) ∧ FS w W' bn (notes ++ notesOf ev [x]) bs := by
  have HF := Lib.hid h
  obtain ⟨A, c, hat0⟩ := h
  have HA0 := Lib.hid hat0
  obtain ⟨h1, h2, h3, h4, h5, h6⟩ := hat0
  have HT := Lib.hid (fun (W' : World) => touches_is x ev W')
  have e0 : W.cell? ⟨be, 0, none⟩ = some (.int .i64 ev.kind) := (h6 _ he).1.cell 0
  have e1 : W.cell? ⟨be, 1, none⟩ = some (.string ev.path) := (h6 _ he).1.cell 1
  have n0 : W.cell? ⟨bn, 0, none⟩ = some (.slice A notes.length c) := h3.cell 0
  have H3 := Lib.hid h3
  have H4 := Lib.hid h4
  have H5 := Lib.hid h5
  have hbW : w.heap.size ≤ W.heap.size := h1.size
  have hxn : notesOf ev [x] = if touchB x ev then [noteOf ev x] else [] := by
    unfold notesOf
    cases hh : touchB x ev <;> simp [hh]
  rw [hxn]
  clear h1 h2 h3 h4 h5 h6 hxn
  generalize touchB x ev = tb at *
  cases tb with
  | false =>
    simp only [Bool.false_eq_true, if_false, List.append_nil]
    go_enter Tryz.func39, Tryz.ntmps39
    go_wp2_with (first | (go_at_call 40; refine (HT.out _).mono ?_; rintro e w1 ⟨rfl, hb⟩; obtain ⟨ext, d, rfl⟩ := Below.grown_eq _ hb; clear hb))
    go_ret
    exact ⟨rfl, HF.out.below (by repeat (first | exact bA .. | assumption | refine bB ?_ | refine bC ?_ _ | refine bD _ _ ?_ | refine bE _ ?_ | refine bG ?_ (by first | omega | (simp; done) | (simp; omega)) _ | refine Below.setCell ?_ (by first | omega | (simp; done) | (simp; omega)) _ | refine Below.grow _ _ _ ?_ (by first | omega | (simp; done) | (simp; omega))))⟩
  | true =>
    simp only [if_true]
    go_enter Tryz.func39, Tryz.ntmps39
    go_wp2_with (first | (go_at_call 40; refine (HT.out _).mono ?_; rintro e w1 ⟨rfl, hb⟩; obtain ⟨ext, d, rfl⟩ := Below.grown_eq _ hb; clear hb) | (at_builtin; refine wpList_app _ rfl (.tmp 10) (.tmp 15) _ rfl elNote (B := w.heap.size) (l := notes) (m := [noteOf ev x]) rfl rfl (H4.out.below (by repeat (first | exact bA .. | assumption | refine bB ?_ | refine bC ?_ _ | refine bD _ _ ?_ | refine bE _ ?_ | refine bG ?_ (by first | omega | (simp; done) | (simp; omega)) _ | refine Below.setCell ?_ (by first | omega | (simp; done) | (simp; omega)) _ | refine Below.grow _ _ _ ?_ (by first | omega | (simp; done) | (simp; omega))))) (Sl.one_at cNote 3 _ _ _ rfl _ rfl (by omega) (by simp)) cNote_one (by simp [maxLen]; omega) (by simp; omega) (by simp; omega) ?_; intro v2 w2 hown2 hg2 hat2; obtain ⟨A2, c2, rfl, _⟩ := hown2.form; have HO2 := Lib.hid hown2; have HG2 : Hid (World.grownBy _ w2 (Value.slice A notes.length c).ownBlock) := Lib.hid hg2; have HA2 : Hid (_ = (Value.slice A notes.length c).ownBlock ∨ _ = some _) := Lib.hid hat2; have hb2 := (H3.out.below (by repeat (first | exact bA .. | assumption | refine bB ?_ | refine bC ?_ _ | refine bD _ _ ?_ | refine bE _ ?_ | refine bG ?_ (by first | omega | (simp; done) | (simp; omega)) _ | refine Below.setCell ?_ (by first | omega | (simp; done) | (simp; omega)) _ | refine Below.grow _ _ _ ?_ (by first | omega | (simp; done) | (simp; omega))))).grown HG2.out (fun e => H5.out e.symm); have cN : w2.cell? ⟨bn, 0, none⟩ = some (.slice A notes.length c) := hb2.cell 0; have fN : w2.frozen? ⟨bn, 0, none⟩ = false := hb2.frozen 0; clear hown2 hg2 hat2 hb2))
    go_ret
    have hf := HA0.out.note (by repeat (first | exact bA .. | assumption | refine bB ?_ | refine bC ?_ _ | refine bD _ _ ?_ | refine bE _ ?_ | refine bG ?_ (by first | omega | (simp; done) | (simp; omega)) _ | refine Below.setCell ?_ (by first | omega | (simp; done) | (simp; omega)) _ | refine Below.grow _ _ _ ?_ (by first | omega | (simp; done) | (simp; omega)))) HO2.out HG2.out HA2.out
    rw [List.length_append, List.length_singleton] at hf
    exact ⟨rfl, hf⟩
theorem bk_watch {W : World} {g k : Nat} {l : List Watch} {J : List Value} {t : TypeId} {x : Watch} (h : Bk W g (l.flatMap cWatch ++ J) t) (hx : l[k]? = some x) :
    W.cell? ⟨g, k * 3, none⟩ = some (.int .i64 x.session) ∧ W.cell? ⟨g, k * 3 + 1, none⟩ = some (.int .i64 x.kind) ∧ W.cell? ⟨g, k * 3 + 2, none⟩ = some (.string x.path) := by
  have key : ∀ j u, (cWatch x)[j]? = some u → W.cell? ⟨g, k * 3 + j, none⟩ = some u := by
    intro j u hu
    have h0 : (l.flatMap cWatch)[k * 3 + j]? = some u := flatMap_get (f := cWatch) (s := 3) (fun y _ => rfl) hx hu
    rw [h.cell, List.getElem?_append_left (List.getElem?_eq_some_iff.1 h0).1, h0]
  exact ⟨key 0 _ rfl, key 1 _ rfl, key 2 _ rfl⟩
theorem notesOf_one (ev : Event) (x : Watch) : notesOf ev [x] = if touchB x ev then [noteOf ev x] else [] := by
  unfold notesOf
  cases hh : touchB x ev <;> simp [hh]
theorem notesOf_append (ev : Event) (a b : List Watch) : notesOf ev (a ++ b) = notesOf ev a ++ notesOf ev b := by unfold notesOf; simp
def IdxIs (ev : Event) (w : World) (bn : Nat) (notes : List Note) (bs : List (Nat × List Value × TypeId)) (l : List Watch) (e : Ending) (W' : World) : Prop :=
  ((∀ x ∈ l, touchB x ev = false) ∧ e = .returned (.int .i64 (-1)) ∧ FS w W' bn notes bs) ∨
  (∃ (i : Nat) (x : Watch), (∀ x ∈ l.take i, touchB x ev = false) ∧ l[i]? = some x ∧ touchB x ev = true ∧ e = .returned (.int .i64 i) ∧ FS w W' bn (notes ++ [noteOf ev x]) bs)
set_option maxHeartbeats 1000000 in
theorem indexFire (ev : Event) (w W : World) (bn be gL c : Nat) (l : List Watch) (J : List Value) (notes : List Note) (bs : List (Nat × List Value × TypeId)) (h : FS w W bn notes bs) (he : (be, cEvent ev, 84) ∈ bs) (hl : (gL, l.flatMap cWatch ++ J, 70) ∈ bs)
    (hn : (notes.length + 1) * 32 ≤ 140737488355328) (hm : l.length ≤ 140737488355328) :
    Calls Tryz.prog 71 #[.slice (some ⟨gL, 0, none⟩) l.length c, .func (.func 39) #[] #[.pointer (some ⟨be, 0, none⟩), .pointer (some ⟨bn, 0, none⟩)]] W (IdxIs ev w bn notes bs l) := by
  have HF := Lib.hid h
  have HLm := Lib.hid hl
  have HC := Lib.hid (fun (x : Watch) (W' : World) (hf : FS w W' bn notes bs) => fireClosure x ev w W' bn be notes bs hf he hn)
  clear h hl he
  go_enter Tryz.func71, Tryz.ntmps71
  go_wp2_with fail
  go_loopw [8] (fun i wr => ∃ (k : Nat), k ≤ l.length ∧ i = .int .i64 k ∧ Hid (FS w wr bn notes bs) ∧ Hid (∀ x ∈ l.take k, touchB x ev = false)) (fun i _ => l.length - (intOf i).toNat)
  case atStart => exact ⟨0, Nat.zero_le _, rfl, HF, Lib.hid (by simp)⟩
  case round =>
    obtain ⟨k, hk, rfl, hf, hno⟩ := hrel
    by_cases hlt : k < l.length
    · have hx : l[k]? = some (l[k]'hlt) := List.getElem?_eq_getElem _
      obtain ⟨c0, c1, c2⟩ := bk_watch (hf.out.bk HLm.out) hx
      generalize hxe : l[k]'hlt = x at hx c0 c1 c2
      have HCX := Lib.hid (HC.out x _ hf.out)
      rw [notesOf_one] at HCX
      cases htb : touchB x ev with
      | true =>
        rw [htb] at HCX
        simp only [if_true] at HCX
        have HTB := Lib.hid htb
        clear htb
        go_wp2_with (first | (go_at_call 39; refine (HCX.out).mono ?_; rintro e w1 ⟨rfl, hf1⟩; have HF1 := Lib.hid hf1; clear hf1))
        go_ret
        exact .inr ⟨k, x, hno.out, hx, HTB.out, rfl, HF1.out⟩
      | false =>
        rw [htb] at HCX
        simp only [Bool.false_eq_true, if_false, List.append_nil] at HCX
        have HTB := Lib.hid htb
        clear htb
        go_wp2_with (first | (go_at_call 39; refine (HCX.out).mono ?_; rintro e w1 ⟨rfl, hf1⟩; have HF1 := Lib.hid hf1; clear hf1))
        go_roundw
        case rel => exact ⟨k + 1, by omega, by go_num, HF1, Lib.hid (fun y hy => by
          rw [List.take_add_one, hx, List.mem_append] at hy
          rcases hy with hy | hy
          · exact hno.out y hy
          · obtain rfl := List.mem_singleton.1 hy
            exact HTB.out)⟩
        case measure => simp [intOf]; omega
    · have hk' : k = l.length := by omega
      subst hk'
      go_wp2_with fail
      go_ret
      refine .inl ⟨fun x hx => hno.out x (by rw [List.take_length]; exact hx), rfl, hf.out⟩
theorem splice_nil (cs : List Value) (o : Nat) : splice cs o [] = cs := by simp [splice]
theorem splice_cons (cs : List Value) (o : Nat) (v : Value) (r : List Value) (hl : o + (r.length + 1) ≤ cs.length) : splice (cs.set o v) (o + 1) r = splice cs o (v :: r) := by
  unfold splice
  have h1 : (cs.set o v).take (o + 1) = cs.take o ++ [v] := by
    rw [List.take_add_one, List.getElem?_set_self (by omega), List.take_set_of_le (by omega)]
    rfl
  rw [h1, List.drop_set_of_lt (by omega), List.length_cons, show o + (r.length + 1) = o + 1 + r.length from by omega]
  simp
theorem set3 {l : List Watch} {J : List Value} {a : Nat} (ha : a < l.length) (x : Watch) :
    ((((l.flatMap cWatch ++ J).set (a * 3) (.int .i64 x.session)).set (a * 3 + 1) (.int .i64 x.kind)).set (a * 3 + 2) (.string x.path)) = (l.set a x).flatMap cWatch ++ J := by
  have hlen : (l.flatMap cWatch).length = l.length * 3 := flatMap_length (fun y _ => rfl)
  have hle : a * 3 + 3 ≤ (l.flatMap cWatch ++ J).length := by rw [List.length_append, hlen]; omega
  rw [← flatMap_set (f := cWatch) (s := 3) (fun y _ => rfl) ha x rfl J]
  show _ = splice _ (a * 3) [Value.int .i64 x.session, Value.int .i64 x.kind, Value.string x.path]
  rw [← splice_cons _ _ _ _ (by simpa using hle), ← splice_cons _ _ _ _ (by rw [List.length_set]; simpa using hle), ← splice_cons _ _ _ _ (by rw [List.length_set, List.length_set]; simpa using hle), splice_nil]
theorem FS.clr {w W W' : World} {bn g : Nat} {notes : List Note} {bs : List (Nat × List Value × TypeId)} {cs cs' : List Value} {t : TypeId} (h : FS w W bn notes ((g, cs, t) :: bs)) (hg : w.heap.size ≤ g) (hne : ∀ b ∈ bs, b.1 ≠ g) (hb : Bk W' g cs' t) (hgr : W.grownBy W' (some g)) : FS w W' bn notes ((g, cs', t) :: bs) := by
  obtain ⟨A, c, h1, h2, h3, h4, h5, h6⟩ := h
  obtain ⟨k1, k2, k3⟩ := h6 _ List.mem_cons_self
  refine ⟨A, c, h1.grown hgr h1.size (by rintro k ⟨⟩; exact hg), h2, h3.grown hgr (by simpa using Ne.symm k2), h4.kept hgr (.inr k3), h5, fun b hm => ?_⟩
  rcases List.mem_cons.1 hm with rfl | hm
  · exact ⟨hb, k2, k3⟩
  · obtain ⟨q1, q2, q3⟩ := h6 b (List.mem_cons_of_mem _ hm)
    exact ⟨q1.grown hgr (by simpa using hne b hm), q2, q3⟩
def keptOf (ev : Event) (l : List Watch) : List Watch := l.filter (fun x => !touchB x ev)
theorem kept_none {ev : Event} {l : List Watch} (h : ∀ x ∈ l, touchB x ev = false) : keptOf ev l = l ∧ notesOf ev l = [] := by
  constructor
  · exact List.filter_eq_self.2 (fun x hx => by simp [h x hx])
  · unfold notesOf
    rw [List.filter_eq_nil_iff.2 (fun x hx => by simp [h x hx])]
    rfl
theorem keptOf_append (ev : Event) (a b : List Watch) : keptOf ev (a ++ b) = keptOf ev a ++ keptOf ev b := by unfold keptOf; simp
def DelIs (ev : Event) (w : World) (bn gL c : Nat) (notes : List Note) (bs : List (Nat × List Value × TypeId)) (l : List Watch) (N : Nat) (e : Ending) (W' : World) : Prop :=
  ∃ J', e = .returned (.slice (some ⟨gL, 0, none⟩) (keptOf ev l).length c) ∧ FS w W' bn (notes ++ notesOf ev l) ((gL, (keptOf ev l).flatMap cWatch ++ J', 70) :: bs) ∧ ((keptOf ev l).flatMap cWatch ++ J').length = N
def Mid (ev : Event) (l cur : List Watch) (a j : Nat) : Prop := a < j ∧ j ≤ l.length ∧ cur.length = l.length ∧ cur.take a = keptOf ev (l.take j) ∧ cur.drop j = l.drop j
theorem Mid.first {ev : Event} {l : List Watch} {i : Nat} {x : Watch} (h : ∀ x ∈ l.take i, touchB x ev = false) (hx : l[i]? = some x) (ht : touchB x ev = true) : Mid ev l l i (i + 1) ∧ notesOf ev (l.take (i + 1)) = [noteOf ev x] := by
  have hi : i < l.length := (List.getElem?_eq_some_iff.1 hx).1
  have e : l.take (i + 1) = l.take i ++ [x] := by rw [List.take_add_one, hx]; rfl
  refine ⟨⟨by omega, hi, rfl, ?_, rfl⟩, ?_⟩
  · rw [e, keptOf_append, (kept_none h).1]; simp [keptOf, ht]
  · rw [e, notesOf_append, (kept_none h).2, notesOf_one, ht]; rfl
theorem Mid.at_ {ev : Event} {l cur : List Watch} {a j : Nat} (h : Mid ev l cur a j) (_hj : j < l.length) : cur[j]? = l[j]? := by
  have := congrArg (fun q => q[0]?) h.2.2.2.2
  simpa using this
theorem Mid.hit {ev : Event} {l cur : List Watch} {a j : Nat} {x : Watch} (h : Mid ev l cur a j) (hx : l[j]? = some x) (ht : touchB x ev = true) : Mid ev l cur a (j + 1) := by
  obtain ⟨h1, h2, h3, h4, h5⟩ := h
  have hj : j < l.length := (List.getElem?_eq_some_iff.1 hx).1
  refine ⟨by omega, hj, h3, ?_, ?_⟩
  · rw [List.take_add_one, hx, keptOf_append, ← h4]; simp [keptOf, ht]
  · rw [← List.drop_drop, h5, List.drop_drop]
theorem Mid.miss {ev : Event} {l cur : List Watch} {a j : Nat} {x : Watch} (h : Mid ev l cur a j) (hx : l[j]? = some x) (ht : touchB x ev = false) : Mid ev l (cur.set a x) (a + 1) (j + 1) := by
  obtain ⟨h1, h2, h3, h4, h5⟩ := h
  have hj : j < l.length := (List.getElem?_eq_some_iff.1 hx).1
  refine ⟨by omega, hj, by rw [List.length_set]; exact h3, ?_, ?_⟩
  · rw [List.take_add_one, List.getElem?_set_self (by omega), List.take_set_of_le (by omega), List.take_add_one, hx, keptOf_append, ← h4]; simp [keptOf, ht]
  · rw [List.drop_set_of_lt (by omega), ← List.drop_drop, h5, List.drop_drop]
end Go.Proofs.YtchgpijfebilbaaGreatDoor

/- slices.DeleteFunc at Fire's closure. -/
namespace Go.Proofs.YtchgpijfebilbaaGreatDoor
open Go.RowKit Go.ChangeShapes Go.WideShapes Go.ChangeAt
theorem take_rows {l : List Watch} {a : Nat} (ha : a ≤ l.length) (J : List Value) : (l.flatMap cWatch ++ J).take (a * 3) = (l.take a).flatMap cWatch := by
  have hlen : ((l.take a).flatMap cWatch).length = a * 3 := by rw [flatMap_length (f := cWatch) (s := 3) (fun y _ => rfl), List.length_take, Nat.min_eq_left ha]
  conv => lhs; rw [← List.take_append_drop a l]
  rw [List.flatMap_append, List.append_assoc, ← hlen, List.take_left]
set_option maxHeartbeats 2000000 in
theorem deleteFire (ev : Event) (w W : World) (bn be gL c N : Nat) (l : List Watch) (J : List Value) (notes : List Note) (bs : List (Nat × List Value × TypeId)) (h : FS w W bn notes ((gL, l.flatMap cWatch ++ J, 70) :: bs)) (he : (be, cEvent ev, 84) ∈ bs)
    (hg : w.heap.size ≤ gL) (hne : ∀ b ∈ bs, b.1 ≠ gL) (hN : (l.flatMap cWatch ++ J).length = N) (hc : l.length ≤ c) (hcm : c ≤ 9223372036854775807) (hn : (notes.length + l.length + 1) * 32 ≤ 140737488355328) :
    Calls Tryz.prog 38 #[.slice (some ⟨gL, 0, none⟩) l.length c, .func (.func 39) #[] #[.pointer (some ⟨be, 0, none⟩), .pointer (some ⟨bn, 0, none⟩)]] W (DelIs ev w bn gL c notes bs l N) := by
  have HF := Lib.hid h
  have HN := Lib.hid hN
  have hm1 : (notes.length + 1) * 32 ≤ 140737488355328 := Nat.le_trans (Nat.mul_le_mul_right 32 (by omega)) hn
  have hm2 : l.length ≤ 140737488355328 := Nat.le_trans (show l.length ≤ (notes.length + l.length + 1) * 32 by omega) hn
  have HC : Hid (∀ (x : Watch) (W' : World) (ns : List Note) (bs' : List (Nat × List Value × TypeId)), FS w W' bn ns bs' → (be, cEvent ev, 84) ∈ bs' → (ns.length + 1) * 32 ≤ 140737488355328 → Calls Tryz.prog 39 #[.agg #[.int .i64 x.session, .int .i64 x.kind, .string x.path], .pointer (some ⟨be, 0, none⟩), .pointer (some ⟨bn, 0, none⟩)] W' fun e W'' => e = .returned (.bool (touchB x ev)) ∧ FS w W'' bn (ns ++ notesOf ev [x]) bs') := Lib.hid (fun (x : Watch) (W' : World) (ns : List Note) (bs' : List (Nat × List Value × TypeId)) (hf : FS w W' bn ns bs') (hm : (be, cEvent ev, 84) ∈ bs') (hns : (ns.length + 1) * 32 ≤ 140737488355328) => fireClosure x ev w W' bn be ns bs' hf hm hns)
  have HI : Hid (Calls Tryz.prog 71 #[.slice (some ⟨gL, 0, none⟩) l.length c, .func (.func 39) #[] #[.pointer (some ⟨be, 0, none⟩), .pointer (some ⟨bn, 0, none⟩)]] W (IdxIs ev w bn notes ((gL, l.flatMap cWatch ++ J, 70) :: bs) l)) := Lib.hid (indexFire ev w W bn be gL c l J notes _ h (List.mem_cons_of_mem _ he) List.mem_cons_self hm1 hm2)
  have HE := Lib.hid he
  have HNE := Lib.hid hne
  clear h he hN hne
  go_enter Tryz.func38, Tryz.ntmps38
  go_wp2_with fail
  refine HI.out.mono ?_
  rintro e W1 (⟨hno, rfl, hf⟩ | ⟨i, x0, hno, hx0, ht0, rfl, hf⟩)
  · have HF1 := Lib.hid hf
    have HNO := Lib.hid hno
    clear hf hno
    go_wp2_with fail
    obtain ⟨hk, hnn⟩ := kept_none HNO.out
    refine bodyPost_ret (v := .slice (some ⟨gL, 0, none⟩) l.length c) (by simp [results, Tryz.results38, go_sem]) rfl ⟨J, by rw [hk], by rw [hk, hnn, List.append_nil]; exact HF1.out, by rw [hk]; exact HN.out⟩
  · obtain ⟨hmid, hnn⟩ := Mid.first hno hx0 ht0
    have hi : i < l.length := (List.getElem?_eq_some_iff.1 hx0).1
    have hi2 : ((i : Int) == -1) = false := by simp
    rw [← hnn] at hf
    have HF1 := Lib.hid hf
    have HM := Lib.hid hmid
    clear hf hmid hno hx0 ht0 hnn
    go_wp2_with fail
    go_loopw [5, 6] (fun i j wr => ∃ (a k : Nat) (cur : List Watch), i = .int .i64 a ∧ j = .int .i64 k ∧ a < k ∧ k ≤ l.length ∧ Hid (Mid ev l cur a k) ∧ Hid (FS w wr bn (notes ++ notesOf ev (l.take k)) ((gL, cur.flatMap cWatch ++ J, 70) :: bs))) (fun _ j _ => l.length - (intOf j).toNat)
    case atStart => exact ⟨i, i + 1, l, rfl, by go_num, by omega, by omega, HM, HF1⟩
    case round =>
      obtain ⟨a, k, cur, rfl, rfl, hak, hk, hm, hf⟩ := hrel
      by_cases hlt : k < l.length
      · have hx : l[k]? = some (l[k]'hlt) := List.getElem?_eq_getElem _
        have hxc := (hm.out.at_ hlt).trans hx
        obtain ⟨c0, c1, c2⟩ := bk_watch (hf.out.bk List.mem_cons_self) hxc
        generalize hxe : l[k]'hlt = x at hx hxc c0 c1 c2
        have hft := hf.out.push (cWatch x) 70
        have hnl : ((notes ++ notesOf ev (l.take k)).length + 1) * 32 ≤ 140737488355328 := by
          have h1 : (notesOf ev (l.take k)).length ≤ (l.take k).length := by unfold notesOf; rw [List.length_map]; exact List.length_filter_le _ _
          rw [List.length_take] at h1
          rw [List.length_append]
          exact Nat.le_trans (Nat.mul_le_mul_right 32 (by omega)) hn
        have HCX := Lib.hid (HC.out x _ _ _ hft (List.mem_cons_of_mem _ (List.mem_cons_of_mem _ HE.out)) hnl)
        have hnt : notesOf ev (l.take (k + 1)) = notesOf ev (l.take k) ++ notesOf ev [x] := by rw [List.take_add_one, hx, notesOf_append]; rfl
        have HNT := Lib.hid hnt
        have HX := Lib.hid hx
        clear hnl hnt hft hx hxc hxe
        rw [List.append_assoc, ← HNT.out] at HCX
        cases htb : touchB x ev with
        | true =>
          rw [htb] at HCX
          have HTB := Lib.hid htb
          clear htb
          go_wp2_with (first | (go_at_call 39; refine (HCX.out).mono ?_; rintro e w1 ⟨rfl, hf1⟩; have HF2 := Lib.hid hf1; clear hf1))
          go_roundw
          case rel => exact ⟨a, k + 1, cur, rfl, by go_num, by omega, by omega, Lib.hid (hm.out.hit HX.out HTB.out), Lib.hid (HF2.out.sub (fun b hb => List.mem_cons_of_mem _ hb))⟩
          case measure => simp [intOf]; omega
        | false =>
          rw [htb] at HCX
          have HTB := Lib.hid htb
          clear htb
          have hac : a < cur.length := by have := hm.out.2.2.1; omega
          have hya : cur[a]? = some (cur[a]'hac) := List.getElem?_eq_getElem _
          generalize hye : cur[a]'hac = y at hya
          have HYA := Lib.hid hya
          have HAC := Lib.hid hac
          clear hya hye hac
          go_wp2_with (first | (go_at_call 39; refine (HCX.out).mono ?_; rintro e w1 ⟨rfl, hf1⟩; have hv := hf1.bk List.mem_cons_self; have v0 : w1.cell? ⟨wr.heap.size, 0, none⟩ = some (.int .i64 x.session) := hv.cell 0; have v1 : w1.cell? ⟨wr.heap.size, 1, none⟩ = some (.int .i64 x.kind) := hv.cell 1; have v2 : w1.cell? ⟨wr.heap.size, 2, none⟩ = some (.string x.path) := hv.cell 2; have hr := hf1.bk (List.mem_cons_of_mem _ List.mem_cons_self); obtain ⟨r0, r1, r2⟩ := bk_watch hr HYA.out; have q0 := hr.frozen (a * 3); have q1 := hr.frozen (a * 3 + 1); have q2 := hr.frozen (a * 3 + 2); have HF2 := Lib.hid hf1; clear hf1 hv hr))
          have p0 := HF2.out.sub (bs' := (gL, cur.flatMap cWatch ++ J, 70) :: bs) (fun b hb => List.mem_cons_of_mem _ hb)
          have p3 := ((p0.put hg HNE.out (a * 3) (.int .i64 x.session)).put hg HNE.out (a * 3 + 1) (.int .i64 x.kind)).put hg HNE.out (a * 3 + 2) (.string x.path)
          rw [set3 HAC.out x] at p3
          have HP3 := Lib.hid p3
          clear p0 p3
          go_roundw
          case rel => exact ⟨a + 1, k + 1, cur.set a x, by go_num, by go_num, by omega, by omega, Lib.hid (hm.out.miss HX.out HTB.out), HP3⟩
          case measure => simp [intOf]; omega
      · have hk' : k = l.length := by omega
        subst hk'
        have hm0 := hm.out
        rw [Mid, List.take_length] at hm0
        rw [List.take_length] at hf
        obtain ⟨_, _, m3, m4, _⟩ := hm0
        have hbk := hf.out.bk List.mem_cons_self
        have hal : a ≤ l.length := by omega
        have hkl : (keptOf ev l).length = a := by rw [← m4, List.length_take, m3]; omega
        have hcur : (cur.flatMap cWatch ++ J).length = N := by
          rw [← HN.out, List.length_append, List.length_append, flatMap_length (f := cWatch) (s := 3) (fun y _ => rfl), flatMap_length (f := cWatch) (s := 3) (fun y _ => rfl), m3]
        have hfit : a * 3 + (l.length - a) * 3 ≤ (cur.flatMap cWatch ++ J).length := by
          rw [List.length_append, flatMap_length (f := cWatch) (s := 3) (fun y _ => rfl), m3]
          omega
        have HB := Lib.hid hbk
        have HM4 := Lib.hid m4
        have HKL := Lib.hid hkl
        have HCUR := Lib.hid hcur
        have HFIT := Lib.hid hfit
        have hna : ((l.length : Int) - (a : Int)) = ((l.length - a : Nat) : Int) := by omega
        clear hbk m3 m4 hkl hcur hfit
        go_wp2_with (first | (with_reducible refine wpList_atclr ?_); go_loud (refine wpList_clr rfl (.tmp 38) _ rfl elWatch (off := a * 3) (n := l.length - a) rfl HB.out (by decide) HFIT.out ?_; intro w' cur' hb' hl' ht' hg' _; have HB2 := Lib.hid hb'; have HL2 := Lib.hid hl'; have HT2 := Lib.hid ht'; have HG2 := Lib.hid hg'; clear hb' hl' ht' hg'))
        have htk : (keptOf ev l).flatMap cWatch ++ cur'.drop (a * 3) = cur' := by
          rw [← HM4.out, ← take_rows (by have := hm.out.2.2.1; omega) J, ← HT2.out, List.take_append_drop]
        have hfs := hf.out.clr hg HNE.out HB2.out HG2.out
        refine bodyPost_ret (v := .slice (some ⟨gL, 0, none⟩) a c) (by simp [results, Tryz.results38, go_sem]) rfl ⟨cur'.drop (a * 3), by rw [HKL.out], ?_, ?_⟩
        · rw [htk]; exact hfs
        · rw [htk, HL2.out, HCUR.out]
end Go.Proofs.YtchgpijfebilbaaGreatDoor

/- watch.Fire whole. -/
namespace Go.Proofs.YtchgpijfebilbaaGreatDoor
open Go.RowKit Go.ChangeShapes Go.WideShapes Go.ChangeAt
theorem clipWatch (A : Option Addr) (n c : Nat) (w : World) (hc : n ≤ c) (hA : A = none → c = 0) (hcm : c ≤ 9223372036854775807) :
    Calls Tryz.prog 41 #[.slice A n c] w fun e w' => e = .returned (.slice A n n) ∧ w = w' := by
  cases A with
  | none =>
    obtain rfl := hA rfl
    obtain rfl : n = 0 := by omega
    go_enter Tryz.func41, Tryz.ntmps41
    go_wp2
    go_ret
    exact ⟨rfl, rfl⟩
  | some a =>
    obtain ⟨b, o, sp⟩ := a
    go_enter Tryz.func41, Tryz.ntmps41
    go_wp2
    go_ret
    exact ⟨rfl, rfl⟩
theorem deleteNone (A : Option Addr) (c : Nat) (fn : Value) (w : World) :
    Calls Tryz.prog 38 #[.slice A 0 c, fn] w fun e w' => e = .returned (.slice A 0 c) ∧ w = w' := by
  have hi : Calls Tryz.prog 71 #[.slice A 0 c, fn] w fun e w' => e = .returned (.int .i64 (-1)) ∧ w = w' := by
    go_enter Tryz.func71, Tryz.ntmps71
    go_wp2_with fail
    refine wp_loop_rounds 1 ?_
    rw [rounds_succ]
    go_wp2
    go_ret
    exact ⟨rfl, rfl⟩
  have HI := Lib.hid hi
  clear hi
  go_enter Tryz.func38, Tryz.ntmps38
  go_wp2_with fail
  refine HI.out.mono ?_
  rintro e w1 ⟨rfl, rfl⟩
  go_wp2_with fail
  refine bodyPost_ret (v := .slice A 0 c) (by simp [results, Tryz.results38, go_sem]) rfl ⟨rfl, rfl⟩
def fireS (l : List Watch) (evs : List Event) : List Note × List Watch := evs.foldl (fun s e => (s.1 ++ notesOf e s.2, keptOf e s.2)) ([], l)
theorem fireS_succ {l : List Watch} {evs : List Event} {k : Nat} {e : Event} (h : evs[k]? = some e) : fireS l (evs.take (k + 1)) = ((fireS l (evs.take k)).1 ++ notesOf e (fireS l (evs.take k)).2, keptOf e (fireS l (evs.take k)).2) := by
  unfold fireS
  rw [List.take_add_one, h]
  simp
theorem fireS_len (l : List Watch) (evs : List Event) : (fireS l evs).1.length + (fireS l evs).2.length = l.length := by
  have key : ∀ (evs : List Event) (s : List Note × List Watch), (evs.foldl (fun s e => (s.1 ++ notesOf e s.2, keptOf e s.2)) s).1.length + (evs.foldl (fun s e => (s.1 ++ notesOf e s.2, keptOf e s.2)) s).2.length = s.1.length + s.2.length := by
    intro evs
    induction evs with
    | nil => intro s; rfl
    | cons e evs ih =>
      intro s
      rw [List.foldl_cons, ih]
      simp only [List.length_append, notesOf, keptOf, List.length_map]
      have : (s.2.filter (fun x => touchB x e)).length + (s.2.filter (fun x => !touchB x e)).length = s.2.length := by
        generalize s.2 = q
        induction q with
        | nil => rfl
        | cons x q ih2 => cases hh : touchB x e <;> simp [hh] <;> omega
      omega
  have := key evs ([], l)
  simpa [fireS] using this
def LeftIs (w W : World) (bn : Nat) (A : Option Addr) (c : Nat) (notes : List Note) (l : List Watch) : Prop :=
  (l = [] ∧ (A = none → c = 0) ∧ FS w W bn notes []) ∨ (∃ gL J, A = some ⟨gL, 0, none⟩ ∧ w.heap.size ≤ gL ∧ FS w W bn notes [(gL, l.flatMap cWatch ++ J, 70)])
theorem deleteLeft (ev : Event) (w W : World) (bn be c : Nat) (A : Option Addr) (l : List Watch) (notes : List Note) (cs : List Value) (hcs : cs = cEvent ev) (h : LeftIs w W bn A c notes l) (hbe : be = W.heap.size) (hc : l.length ≤ c) (hcm : c ≤ 9223372036854775807) (hn : (notes.length + l.length + 1) * 32 ≤ 140737488355328) :
    Calls Tryz.prog 38 #[.slice A l.length c, .func (.func 39) #[] #[.pointer (some ⟨be, 0, none⟩), .pointer (some ⟨bn, 0, none⟩)]] (W.alloc (.cells cs.toArray 84))
      fun e W' => ∃ c', e = .returned (.slice A (keptOf ev l).length c') ∧ (keptOf ev l).length ≤ c' ∧ c' ≤ 9223372036854775807 ∧ Hid (LeftIs w W' bn A c' (notes ++ notesOf ev l) (keptOf ev l)) := by
  subst hcs
  subst hbe
  rcases h with ⟨rfl, hA, hf⟩ | ⟨gL, J, rfl, hg, hf⟩
  · refine (deleteNone A c _ _).mono ?_
    rintro e w' ⟨rfl, rfl⟩
    refine ⟨c, rfl, hc, hcm, Lib.hid (.inl ⟨rfl, hA, ?_⟩)⟩
    have := hf.push (cEvent ev) 84
    show FS w _ bn (notes ++ []) []
    rw [List.append_nil]
    exact this.sub (by simp)
  · have hlt := (hf.bk List.mem_cons_self).lt
    have hp := hf.push (cEvent ev) 84
    refine (deleteFire ev w _ bn W.heap.size gL c _ l J notes [(W.heap.size, cEvent ev, 84)] (hp.sub (by intro b hb; simp at hb ⊢; rcases hb with rfl | rfl <;> simp)) List.mem_cons_self hg (by intro b hb; simp at hb; subst hb; show W.heap.size ≠ gL; omega) rfl hc hcm hn).mono ?_
    rintro e w' ⟨J', rfl, hf', _⟩
    exact ⟨c, rfl, Nat.le_trans (List.length_filter_le _ _) hc, hcm, Lib.hid (.inr ⟨gL, J', rfl, hg, hf'.sub (by intro b hb; simp at hb ⊢; exact .inl hb)⟩)⟩
theorem Sl.of_bk {α : Type} {f : α → List Value} {s : Nat} {W : World} {g c : Nat} {l : List α} {J : List Value} {t : TypeId} (hb : Bk W g (l.flatMap f ++ J) t) (hf : ∀ x, (f x).length = s) (hc : l.length ≤ c) (hm : c ≤ maxLen) : Sl f s W (.slice (some ⟨g, 0, none⟩) l.length c) l := by
  refine ⟨_, c, by simp, by simpa using hc, hm, by simpa using fun x _ => hf x, fun _ => ⟨g, 0, rfl, hb.lt, fun i y hy j u hu => ?_⟩⟩
  simp only [List.getElem?_map, Option.map_eq_some_iff] at hy
  obtain ⟨x, hx, rfl⟩ := hy
  have h0 : (l.flatMap f)[i * s + j]? = some u := flatMap_get (fun y _ => hf y) hx hu
  rw [show 0 + i * s + j = i * s + j from by omega, hb.cell, List.getElem?_append_left (List.getElem?_eq_some_iff.1 h0).1, h0]
end Go.Proofs.YtchgpijfebilbaaGreatDoor

/- the laws' helpers on watches: kept, sameWatches, tells. -/
namespace Go.Proofs.YtchgpijfebilbaaGreatDoor
open Go.RowKit Go.ChangeShapes Go.WideShapes Go.ChangeAt
theorem kept_is (v : Value) (l : List Watch) (w : World) (h : Sl cWatch 3 w v l) (hn : l.length * 32 ≤ 140737488355328) :
    Calls Tryz.prog 7 #[v] w (Owned cWatch 3 70 l w) := by
  have H := Lib.hid h
  clear h
  go_enter Tryz.func7, Tryz.ntmps7
  go_wp2_with (at_builtin; refine wpList_app _ rfl (.const (.slice none 0 0)) (.tmp 3) _ rfl elWatch (B := w.heap.size) (m := l) rfl rfl (Ow.nil _ _ _ _ _) H.out cWatch_one (by simp [maxLen]; omega) (by simpa using hn) (Nat.le_refl _) ?_; intro v1 w1 hown1 hg1 _)
  rw [List.nil_append] at hown1
  obtain ⟨A1, c1, rfl, _⟩ := hown1.form
  refine bodyPost_ret (v := .slice A1 l.length c1) (by simp [results, Tryz.results7, go_sem]) rfl (Owned.mk hown1 (Below.of_grown hg1))
theorem sameWatches_eq (v v2 : Value) (l : List Watch) (w : World) (h : Sl cWatch 3 w v l) (h2 : Sl cWatch 3 w v2 l) (hn : l.length ≤ 140737488355328) :
    Calls Tryz.prog 11 #[v, v2] w fun e w' => e = .returned (.bool true) ∧ Below w.heap.size w w' := by
  obtain ⟨A, c, rfl, hc1, hc2⟩ := h.form
  obtain ⟨A2, c2, rfl, hc3, hc4⟩ := h2.form
  have H := Lib.hid h
  have H2 := Lib.hid h2
  clear h h2
  go_enter Tryz.func11, Tryz.ntmps11
  go_wp2_with fail
  go_loopw [5] (fun i wr => ∃ (k : Nat) (ext : Array Obj) (d : Nat), k ≤ l.length ∧ i = .int .i64 k ∧ wr = grow w ext d) (fun i _ => l.length - (intOf i).toNat)
  case atStart => exact ⟨0, _, _, Nat.zero_le _, rfl, grown_of (by repeat (first | exact bA .. | assumption | refine bB ?_ | refine bC ?_ _ | refine bD _ _ ?_ | refine bE _ ?_ | refine bG ?_ (by first | omega | (simp; done) | (simp; omega)) _ | refine Below.setCell ?_ (by first | omega | (simp; done) | (simp; omega)) _ | refine Below.grow _ _ _ ?_ (by first | omega | (simp; done) | (simp; omega))))⟩
  case round =>
    obtain ⟨k, ext, d, hk, rfl, rfl⟩ := hrel
    by_cases hlt : k < l.length
    · have hx : l[k]? = some (l[k]'hlt) := List.getElem?_eq_getElem _
      obtain ⟨b, off, rfl, _, x0, x1, x2⟩ := H.out.Watch_at hx
      obtain ⟨b2, off2, rfl, _, y0, y1, y2⟩ := H2.out.Watch_at hx
      generalize l[k]'hlt = x at *
      clear hx
      go_wp2_with fail
      go_quiet (fail)
      go_wp2_with fail
      go_roundw
      case rel => exact ⟨k + 1, _, _, by omega, by go_num, grown_of (by repeat (first | exact bA .. | assumption | refine bB ?_ | refine bC ?_ _ | refine bD _ _ ?_ | refine bE _ ?_ | refine bG ?_ (by first | omega | (simp; done) | (simp; omega)) _ | refine Below.setCell ?_ (by first | omega | (simp; done) | (simp; omega)) _ | refine Below.grow _ _ _ ?_ (by first | omega | (simp; done) | (simp; omega))))⟩
      case measure => simp [intOf]; omega
    · go_wp2_with fail
      go_ret
      exact ⟨rfl, (by repeat (first | exact bA .. | assumption | refine bB ?_ | refine bC ?_ _ | refine bD _ _ ?_ | refine bE _ ?_ | refine bG ?_ (by first | omega | (simp; done) | (simp; omega)) _ | refine Below.setCell ?_ (by first | omega | (simp; done) | (simp; omega)) _ | refine Below.grow _ _ _ ?_ (by first | omega | (simp; done) | (simp; omega))))⟩
end Go.Proofs.YtchgpijfebilbaaGreatDoor

/- watch.Drop (as in the law WatchDropped). -/
namespace Go.Proofs.YtchgpijfebilbaaGreatDoor
open Go.RowKit Go.ChangeShapes Go.WideShapes Go.ChangeAt
def dropL (l : List Watch) (s : Int) : List Watch := l.filter (fun x => x.session != s)
theorem dropL_succ {l : List Watch} {s : Int} {k : Nat} {x : Watch} (h : l[k]? = some x) : dropL (l.take (k + 1)) s = if x.session = s then dropL (l.take k) s else dropL (l.take k) s ++ [x] := by
  unfold dropL
  rw [List.take_add_one, h, List.filter_append]
  by_cases hs : x.session = s <;> simp [hs]
theorem dropL_len (l : List Watch) (s : Int) : (dropL l s).length ≤ l.length := List.length_filter_le _ _
set_option maxHeartbeats 1000000 in
theorem drop_is (v : Value) (l : List Watch) (s : Int) (w : World) (h : Sl cWatch 3 w v l) (hn : l.length * 32 ≤ 140737488355328) :
    Calls Tryz.prog 18 #[v, .int .i64 s] w (Owned cWatch 3 70 (dropL l s) w) := by
  obtain ⟨A, c, rfl, hc1, hc2⟩ := h.form
  have H := Lib.hid h
  clear h
  go_enter Tryz.func18, Tryz.ntmps18
  go_wp2_with fail
  go_loopw [5, 10] (fun o i wr => ∃ (k n : Nat) (A' : Option Addr) (c' : Nat) (ext : Array Obj) (d : Nat), k ≤ l.length ∧ i = .int .i64 k ∧ o = .slice A' n c' ∧ wr = grow w ext d ∧ Hid (n = (dropL (l.take k) s).length ∧ Ow cWatch 3 70 wr w.heap.size (.slice A' n c') (dropL (l.take k) s))) (fun _ i _ => l.length - (intOf i).toNat)
  case atStart => exact ⟨0, 0, none, 0, _, _, Nat.zero_le _, rfl, rfl, grown_of (by repeat (first | exact bA .. | assumption | refine bB ?_ | refine bC ?_ _ | refine bD _ _ ?_ | refine bE _ ?_ | refine bG ?_ (by first | omega | (simp; done) | (simp; omega)) _ | refine Below.setCell ?_ (by first | omega | (simp; done) | (simp; omega)) _ | refine Below.grow _ _ _ ?_ (by first | omega | (simp; done) | (simp; omega)))), Lib.hid ⟨rfl, Ow.nil _ _ _ _ _⟩⟩
  case round =>
    obtain ⟨k, n, A', c', ext, d, hk, rfl, rfl, rfl, ho⟩ := hrel
    by_cases hlt : k < l.length
    · have hx : l[k]? = some (l[k]'hlt) := List.getElem?_eq_getElem _
      obtain ⟨b, off, rfl, _, x0, x1, x2⟩ := H.out.Watch_at hx
      have HSU := Lib.hid (fun (s : Int) => dropL_succ (s := s) hx)
      have hlen := dropL_len (l.take k) s
      rw [List.length_take] at hlen
      have HLE := Lib.hid (show (dropL (l.take k) s).length ≤ k by omega)
      generalize l[k]'hlt = x at *
      generalize hL : dropL (l.take k) s = L at *
      have HL := Lib.hid hL
      clear hx hlen hL
      by_cases hs : x.session = s
      · go_wp2_with fail
        go_roundw
        case rel => exact ⟨k + 1, n, A', c', _, _, by omega, by go_num, rfl, grown_of (by repeat (first | exact bA .. | assumption | refine bB ?_ | refine bC ?_ _ | refine bD _ _ ?_ | refine bE _ ?_ | refine bG ?_ (by first | omega | (simp; done) | (simp; omega)) _ | refine Below.setCell ?_ (by first | omega | (simp; done) | (simp; omega)) _ | refine Below.grow _ _ _ ?_ (by first | omega | (simp; done) | (simp; omega)))), Lib.hid (by rw [HSU.out s, if_pos hs, HL.out]; exact ⟨ho.out.1, ho.out.2.below (by repeat (first | exact bA .. | assumption | refine bB ?_ | refine bC ?_ _ | refine bD _ _ ?_ | refine bE _ ?_ | refine bG ?_ (by first | omega | (simp; done) | (simp; omega)) _ | refine Below.setCell ?_ (by first | omega | (simp; done) | (simp; omega)) _ | refine Below.grow _ _ _ ?_ (by first | omega | (simp; done) | (simp; omega))))⟩)⟩
        case measure => simp [intOf]; omega
      · go_wp2_with (at_builtin; refine wpList_app _ rfl (.tmp 18) (.tmp 20) _ rfl elWatch (B := w.heap.size) (l := L) (m := [x]) rfl rfl (ho.out.2.below (by repeat (first | exact bA .. | assumption | refine bB ?_ | refine bC ?_ _ | refine bD _ _ ?_ | refine bE _ ?_ | refine bG ?_ (by first | omega | (simp; done) | (simp; omega)) _ | refine Below.setCell ?_ (by first | omega | (simp; done) | (simp; omega)) _ | refine Below.grow _ _ _ ?_ (by first | omega | (simp; done) | (simp; omega))))) (Sl.one_at cWatch 3 _ _ _ rfl _ rfl (by omega) (by simp)) cWatch_one (by have := HLE.out; simp [maxLen]; omega) (by have := HLE.out; simp; omega) (by simp <;> omega) ?_; intro v2 w2 hown2 hg2 hat2; obtain ⟨A2, c2, rfl, _⟩ := hown2.form; have HO2 := Lib.hid hown2; have HG2 : Hid (World.grownBy _ w2 (Value.slice A' n c').ownBlock) := Lib.hid hg2; clear hown2 hg2 hat2)
        have hwb : Below w.heap.size w w2 := Below.grown (by repeat (first | exact bA .. | assumption | refine bB ?_ | refine bC ?_ _ | refine bD _ _ ?_ | refine bE _ ?_ | refine bG ?_ (by first | omega | (simp; done) | (simp; omega)) _ | refine Below.setCell ?_ (by first | omega | (simp; done) | (simp; omega)) _ | refine Below.grow _ _ _ ?_ (by first | omega | (simp; done) | (simp; omega)))) HG2.out (by simp; omega) (fun g hg => (Ow.own_in ho.out.2 hg).1)
        go_roundw
        case rel => exact ⟨k + 1, (L ++ [x]).length, A2, c2, _, _, by omega, by go_num, by simp, grown_of hwb, Lib.hid (by rw [HSU.out s, if_neg hs, HL.out]; exact ⟨rfl, HO2.out⟩)⟩
        case measure => simp [intOf]; omega
    · have hk' : k = l.length := by omega
      subst hk'
      rw [List.take_length] at ho
      obtain rfl := ho.out.1
      go_wp2_with fail
      refine bodyPost_ret (v := .slice A' (dropL l s).length c') (by simp [results, Tryz.results18, go_sem]) rfl (Owned.mk ho.out.2 (by repeat (first | exact bA .. | assumption | refine bB ?_ | refine bC ?_ _ | refine bD _ _ ?_ | refine bE _ ?_ | refine bG ?_ (by first | omega | (simp; done) | (simp; omega)) _ | refine Below.setCell ?_ (by first | omega | (simp; done) | (simp; omega)) _ | refine Below.grow _ _ _ ?_ (by first | omega | (simp; done) | (simp; omega)))))
end Go.Proofs.YtchgpijfebilbaaGreatDoor

/- package snap: what its functions compute, in plain words. -/
namespace Go.Proofs.YtchgpijfebilbaaGreatDoor
open Go.RowKit
theorem rising_len : ∀ (l : List Int) (lo hi : Int), l.Pairwise (· < ·) → (∀ s ∈ l, lo ≤ s ∧ s ≤ hi) → lo ≤ hi + 1 → (l.length : Int) ≤ hi + 1 - lo
  | [], lo, hi, _, _, h => by simp; omega
  | a :: l, lo, hi, hp, hb, h => by
    rw [List.pairwise_cons] at hp
    have ha := hb a (by simp)
    have := rising_len l (a + 1) hi hp.2 (fun s hs => ⟨hp.1 s hs, (hb s (by simp [hs])).2⟩) (by omega)
    rw [List.length_cons]
    omega
structure SnapOk (t : Tr) : Prop where
  ns : t.sess.length ≤ 2147483647
  nn : t.nodes.length ≤ 400
  z : 0 ≤ t.zxid ∧ t.zxid < 4611686018427387904
  s : ∀ s ∈ t.sess, 1 ≤ s ∧ s ≤ 2147483647
  n : ∀ n ∈ t.nodes, n.path.size ≤ 200 ∧ n.data.size ≤ 256 ∧ (0 ≤ n.czxid ∧ n.czxid < 4611686018427387904) ∧ (0 ≤ n.mzxid ∧ n.mzxid < 4611686018427387904) ∧ (0 ≤ n.pzxid ∧ n.pzxid < 4611686018427387904) ∧ (0 ≤ n.version ∧ n.version ≤ 2147483647) ∧ (0 ≤ n.cversion ∧ n.cversion ≤ 2147483647) ∧ (0 ≤ n.owner ∧ n.owner ≤ 2147483647) ∧ (0 ≤ n.kids ∧ n.kids ≤ 400)
theorem snap_ok {t : Tr} (h : goodTree t = true) : SnapOk t := by
  obtain ⟨g, f⟩ := good_parts h
  refine ⟨?_, g.len, g.zx, g.sessB, fun n hn => ?_⟩
  · have := rising_len t.sess 1 2147483647 g.sess g.sessB (by decide)
    omega
  · have a := goodP_size (g.path n hn).1
    have b := (g.path n hn).2
    have c := g.stat n hn
    have d := full_no.1 f n hn
    have e := g.own n hn
    have k := g.kids n hn
    have k2 : t.nodes.countP (kidB n.path) ≤ 400 := Nat.le_trans List.countP_le_length g.len
    have hz := g.zx
    refine ⟨a.2, b, by omega, by omega, by omega, by omega, by omega, ?_, by omega⟩
    rcases e with e | ⟨e, _⟩
    · omega
    · have := g.sessB _ e
      omega
end Go.Proofs.YtchgpijfebilbaaGreatDoor

/- StoreReplays in plain words: the log that is played, and committing it in parts. -/
namespace Go.Proofs.YtchgpijfebilbaaGreatDoor
open Go.RowKit
def playS (s : List Txn × Tr) (r : Request) : List Txn × Tr :=
  if s.1.length < 40 ∧ prepE s.2 (1 + s.1.length) r = 0 then (s.1 ++ [prepX s.2 (1 + s.1.length) r], applyT s.2 (prepX s.2 (1 + s.1.length) r)) else s
def playedS (l : List Request) : List Txn × Tr := l.foldl playS ([], newTr)
theorem playedS_snoc (l : List Request) (r : Request) : playedS (l ++ [r]) = playS (playedS l) r := by unfold playedS; rw [List.foldl_append]; rfl
def runT (t : Tr) (m : List Txn) : Tr := m.foldl applyT t
def OkRun : Tr → List Txn → Prop
  | _, [] => True
  | t, x :: m => applyE t x = 0 ∧ OkRun (applyT t x) m
theorem okRun_snoc : ∀ (m : List Txn) (t : Tr) (x : Txn), OkRun t m → applyE (runT t m) x = 0 → OkRun t (m ++ [x])
  | [], _, _, _, h => ⟨h, trivial⟩
  | y :: m, t, x, h, hx => ⟨h.1, okRun_snoc m (applyT t y) x h.2 hx⟩
theorem runT_snoc (t : Tr) (m : List Txn) (x : Txn) : runT t (m ++ [x]) = applyT (runT t m) x := by unfold runT; rw [List.foldl_append]; rfl
theorem okRun_take : ∀ (m : List Txn) (t : Tr) (k : Nat) (x : Txn), OkRun t m → m[k]? = some x → applyE (runT t (m.take k)) x = 0
  | y :: m, t, 0, x, h, hx => by
    injection hx with hx
    subst hx
    exact h.1
  | y :: m, t, k + 1, x, h, hx => okRun_take m (applyT t y) k x h.2 hx
structure Played (s : List Txn × Tr) : Prop where
  len : s.1.length ≤ 40
  good : goodTree s.2 = true
  run : runT newTr s.1 = s.2
  ok : OkRun newTr s.1
  zx : ∀ (i : Nat) (x : Txn), s.1[i]? = some x → x.zxid = 1 + (i : Int)
  gt : ∀ x ∈ s.1, goodT x = 0
theorem Played.nil : Played ([], newTr) := ⟨by simp, new_good, rfl, trivial, fun i x h => by simp at h, fun x h => by simp at h⟩
theorem Played.step {s : List Txn × Tr} (h : Played s) (r : Request) : Played (playS s r) := by
  unfold playS
  split
  · rename_i hc
    obtain ⟨h1, h2⟩ := hc
    obtain ⟨f1, f2, f3, f4, f5, f6, f7⟩ := prep_fits h2
    refine ⟨?_, ?_, ?_, ?_, ?_, ?_⟩
    · simp only [List.length_append, List.length_singleton]; omega
    · exact (apply_good f1).1
    · simp only [runT_snoc, h.run]
    · exact okRun_snoc _ _ _ h.ok (by rw [h.run]; exact f1)
    · intro i x hx
      by_cases hi : i < s.1.length
      · rw [List.getElem?_append_left hi] at hx
        exact h.zx i x hx
      · rw [List.getElem?_append_right (by omega)] at hx
        have hi2 : i = s.1.length := by
          by_cases hj : i = s.1.length
          · exact hj
          · rw [List.getElem?_eq_none (by simp; omega)] at hx
            cases hx
        subst hi2
        rw [Nat.sub_self] at hx
        injection hx with hx
        rw [← hx]
        exact f3
    · intro x hx
      rcases List.mem_append.1 hx with hx | hx
      · exact h.gt x hx
      · rw [List.mem_singleton.1 hx]; exact f6
  · exact h
theorem played_ok (l : List Request) : Played (playedS l) := by
  refine list_snoc_rec' (P := fun l => Played (playedS l)) Played.nil (fun l r ih => ?_) l
  rw [playedS_snoc]
  exact ih.step r
where
  list_snoc_rec' {P : List Request → Prop} (h0 : P []) (h1 : ∀ l c, P l → P (l ++ [c])) (l : List Request) : P l := by
    rw [← List.reverse_reverse l]
    induction l.reverse with
    | nil => exact h0
    | cons c r ih => rw [List.reverse_cons]; exact h1 _ _ ih
theorem Played.logP {s : List Txn × Tr} (h : Played s) : LogP s.1 := by
  refine ⟨⟨h.gt, ?_⟩, ?_⟩
  · rw [List.pairwise_iff_getElem]
    intro i j hi hj hij
    rw [h.zx i _ (List.getElem?_eq_getElem hi), h.zx j _ (List.getElem?_eq_getElem hj)]
    omega
  · intro t ht
    obtain ⟨i, hi⟩ := List.mem_iff_getElem?.1 ht
    rw [h.zx i t hi]
    omega
def comS (s : Tr × List Watch × List Note) (x : Txn) : Tr × List Watch × List Note :=
  (applyT s.1 x, (if x.op = 2 then dropL (fireS s.2.1 (applyV s.1 x)).2 x.session else (fireS s.2.1 (applyV s.1 x)).2), s.2.2 ++ (fireS s.2.1 (applyV s.1 x)).1)
def comL (s : Tr × List Watch × List Note) (m : List Txn) : Tr × List Watch × List Note := m.foldl comS s
theorem comL_tree : ∀ (m : List Txn) (s : Tr × List Watch × List Note), (comL s m).1 = runT s.1 m
  | [], _ => rfl
  | x :: m, s => comL_tree m (comS s x)
theorem comL_notes : ∀ (m : List Txn) (t : Tr) (w : List Watch) (a b : List Note), (comL (t, w, a ++ b) m).1 = (comL (t, w, b) m).1 ∧ (comL (t, w, a ++ b) m).2.1 = (comL (t, w, b) m).2.1 ∧ (comL (t, w, a ++ b) m).2.2 = a ++ (comL (t, w, b) m).2.2
  | [], _, _, _, _ => ⟨rfl, rfl, rfl⟩
  | x :: m, t, w, a, b => by
    have e : comS (t, w, a ++ b) x = ((comS (t, w, b) x).1, (comS (t, w, b) x).2.1, a ++ (comS (t, w, b) x).2.2) := by
      unfold comS
      simp only [List.append_assoc]
    have k := comL_notes m (comS (t, w, b) x).1 (comS (t, w, b) x).2.1 a (comS (t, w, b) x).2.2
    show (comL (comS (t, w, a ++ b) x) m).1 = (comL (comS (t, w, b) x) m).1 ∧ (comL (comS (t, w, a ++ b) x) m).2.1 = (comL (comS (t, w, b) x) m).2.1 ∧ (comL (comS (t, w, a ++ b) x) m).2.2 = a ++ (comL (comS (t, w, b) x) m).2.2
    rw [e]
    exact k
theorem comL_split (s : Tr × List Watch × List Note) (m : List Txn) (n : Nat) : comL s m = comL (comL s (m.take n)) (m.drop n) := by
  unfold comL
  rw [← List.foldl_append, List.take_append_drop]
theorem com_parts (t : Tr) (w : List Watch) (m : List Txn) (n : Nat) :
    (comL (t, w, []) m).1 = (comL ((comL (t, w, []) (m.take n)).1, (comL (t, w, []) (m.take n)).2.1, []) (m.drop n)).1 ∧
    (comL (t, w, []) m).2.1 = (comL ((comL (t, w, []) (m.take n)).1, (comL (t, w, []) (m.take n)).2.1, []) (m.drop n)).2.1 ∧
    (comL (t, w, []) m).2.2 = (comL (t, w, []) (m.take n)).2.2 ++ (comL ((comL (t, w, []) (m.take n)).1, (comL (t, w, []) (m.take n)).2.1, []) (m.drop n)).2.2 := by
  have k := comL_notes (m.drop n) (comL (t, w, []) (m.take n)).1 (comL (t, w, []) (m.take n)).2.1 (comL (t, w, []) (m.take n)).2.2 []
  rw [List.append_nil] at k
  rw [comL_split _ m n]
  exact k
theorem comS_len (s : Tr × List Watch × List Note) (x : Txn) : (comS s x).2.1.length + (comS s x).2.2.length ≤ s.2.1.length + s.2.2.length := by
  have h := fireS_len s.2.1 (applyV s.1 x)
  have h2 := dropL_len (fireS s.2.1 (applyV s.1 x)).2 x.session
  unfold comS
  simp only [List.length_append]
  split <;> omega
theorem comL_len : ∀ (m : List Txn) (s : Tr × List Watch × List Note), (comL s m).2.1.length + (comL s m).2.2.length ≤ s.2.1.length + s.2.2.length
  | [], _ => Nat.le_refl _
  | x :: m, s => Nat.le_trans (comL_len m (comS s x)) (comS_len s x)
theorem owned_len (l : List Node) (s : Int) : (ownedL l s).length ≤ l.length := by
  unfold ownedL
  rw [List.length_map]
  exact List.length_filter_le _ _
theorem gone_len (ps : List ByteArray) : (ps.flatMap goneV).length = ps.length * 2 := by
  induction ps with
  | nil => rfl
  | cons p ps ih => rw [List.flatMap_cons, List.length_append, ih, List.length_cons]; show 2 + _ = _; omega
theorem applyV_len {t : Tr} (x : Txn) (h : t.nodes.length ≤ 400) : (applyV t x).length ≤ 800 := by
  have h1 := owned_len t.nodes x.session
  have h2 := gone_len (ownedL t.nodes x.session)
  unfold applyV doV closeV
  split
  · split
    · omega
    · split
      · show 2 ≤ 800
        omega
      · split
        · show 2 ≤ 800
          omega
        · split
          · show 1 ≤ 800
            omega
          · show 0 ≤ 800
            omega
  · show 0 ≤ 800
    omega
theorem okRun_good : ∀ (m : List Txn) (t : Tr), goodTree t = true → OkRun t m → goodTree (runT t m) = true
  | [], _, h, _ => h
  | x :: m, t, _, h => okRun_good m (applyT t x) (apply_good h.1).1 h.2
theorem okRun_pre : ∀ (m : List Txn) (t : Tr) (k : Nat), OkRun t m → OkRun t (m.take k)
  | [], _, _, _ => by simp [OkRun]
  | _ :: _, _, 0, _ => trivial
  | _ :: m, _, k + 1, h => ⟨h.1, okRun_pre m _ k h.2⟩
theorem okRun_suf : ∀ (m : List Txn) (t : Tr) (k : Nat), OkRun t m → OkRun (runT t (m.take k)) (m.drop k)
  | [], _, _, _ => by simp [OkRun]
  | _ :: _, _, 0, h => h
  | _ :: m, _, k + 1, h => okRun_suf m _ k h.2
theorem comL_snoc (s : Tr × List Watch × List Note) (m : List Txn) (x : Txn) : comL s (m ++ [x]) = comS (comL s m) x := by unfold comL; rw [List.foldl_append]; rfl
theorem comL_take {m : List Txn} {k : Nat} {x : Txn} (s : Tr × List Watch × List Note) (h : m[k]? = some x) : comL s (m.take (k + 1)) = comS (comL s (m.take k)) x := by
  rw [List.take_add_one, h]
  exact comL_snoc s _ x
end Go.Proofs.YtchgpijfebilbaaGreatDoor

/- made by geninst.py from XT3.src -/
namespace Go.Proofs.YtchgpijfebilbaaGreatDoor
open Go.RowKit
theorem cmpNode (x : Node) (p : ByteArray) (w : World) :
    Calls Tryz.prog 56 #[.agg #[.string x.path, .string x.data, .int .i64 x.czxid, .int .i64 x.mzxid, .int .i64 x.pzxid, .int .i64 x.version, .int .i64 x.cversion, .int .i64 x.owner, .int .i64 x.kids], .string p] w fun e w' => e = .returned (.int .i64 (cmpB x.path p)) ∧ Below w.heap.size w w' := by
  go_enter Tryz.func56, Tryz.ntmps56
  go_wp2_with (go_at_call 57; refine (Tryz.strings_Compare _ _ _).mono ?_; rintro e w1 ⟨rfl, rfl⟩)
  go_ret
  exact ⟨rfl, (by repeat (first | exact bA .. | assumption | refine bB ?_ | refine bC ?_ _ | refine bD _ _ ?_ | refine bE _ ?_ | refine bG ?_ (by first | omega | (simp; done) | (simp; omega)) _ | refine Below.setCell ?_ (by first | omega | (simp; done) | (simp; omega)) _ | refine Below.grow _ _ _ ?_ (by first | omega | (simp; done) | (simp; omega))))⟩

set_option maxHeartbeats 1000000 in
theorem bsfNode (v : Value) (l : List Node) (p : ByteArray) (w : World) (h : Sl cNode 9 w v l) (hn : l.length ≤ 140737488355328) :
    Calls Tryz.prog 55 #[v, .string p, .func (.func 56) #[] #[]] w fun e w' => e = .returned (.tuple #[.int .i64 (posK (l.map Node.path) p), .bool (isK (l.map Node.path) p)]) ∧ Below w.heap.size w w' := by
  obtain ⟨A, c, rfl, hc1, hc2⟩ := h.form
  have H := Lib.hid h
  clear h
  go_enter Tryz.func55, Tryz.ntmps55
  go_wp2
  go_loopw [9, 10] (fun i j wr => ∃ (a b : Nat), a ≤ b ∧ b ≤ l.length ∧ i = .int .i64 a ∧ j = .int .i64 b ∧ Hid (bsr (ltK (l.map Node.path) p) a b = posK (l.map Node.path) p) ∧ Below w.heap.size w wr) (fun i j _ => (intOf j - intOf i).toNat)
  case atStart => exact ⟨0, l.length, Nat.zero_le _, Nat.le_refl _, rfl, rfl, (by simp [posK] : bsr (ltK (l.map Node.path) p) 0 l.length = posK (l.map Node.path) p), Below.refl _ _⟩
  case round =>
    obtain ⟨a, b, hab, hbl, rfl, rfl, hr, hb⟩ := hrel
    by_cases hlt : a < b
    · have hx : l[(a + b) / 2]? = some (l[(a + b) / 2]'(by omega)) := List.getElem?_eq_getElem _
      obtain ⟨bk, off, rfl, hbw, c0, c1, c2, c3, c4, c5, c6, c7, c8⟩ := (H.out.below hb).Node_at hx
      generalize hxe : l[(a + b) / 2]'(by omega) = x at hx c0 c1 c2 c3 c4 c5 c6 c7 c8
      have HX := Lib.hid hx
      clear hx hxe
      go_wp2_with (go_at_call 56; refine (cmpNode _ _ _).mono ?_; rintro e w1 ⟨rfl, hb1⟩; obtain ⟨ext1, d1, rfl⟩ := Below.grown_eq _ hb1)
      all_goals
        have hcmp := ltK_of (g := Node.path) HX.out p
        go_roundw
      case rel =>
        have hlt2 : cmpB x.path p < 0 := by assumption
        exact ⟨(a + b) / 2 + 1, b, by omega, by omega, by go_num, rfl, Eq.trans (bsr_up _ _ _ hlt (by rw [hcmp]; simpa using hlt2)).symm hr.out, (by repeat (first | exact bA .. | assumption | refine bB ?_ | refine bC ?_ _ | refine bD _ _ ?_ | refine bE _ ?_ | refine bG ?_ (by first | omega | (simp; done) | (simp; omega)) _ | refine Below.setCell ?_ (by first | omega | (simp; done) | (simp; omega)) _ | refine Below.grow _ _ _ ?_ (by first | omega | (simp; done) | (simp; omega))))⟩
      case measure => simp [intOf]; omega
      case rel =>
        have hge2 : 0 ≤ cmpB x.path p := by assumption
        exact ⟨a, (a + b) / 2, by omega, by omega, rfl, by go_num, Eq.trans (bsr_down _ _ _ hlt (by rw [hcmp]; simpa using hge2)).symm hr.out, (by repeat (first | exact bA .. | assumption | refine bB ?_ | refine bC ?_ _ | refine bD _ _ ?_ | refine bE _ ?_ | refine bG ?_ (by first | omega | (simp; done) | (simp; omega)) _ | refine Below.setCell ?_ (by first | omega | (simp; done) | (simp; omega)) _ | refine Below.grow _ _ _ ?_ (by first | omega | (simp; done) | (simp; omega))))⟩
      case measure => simp [intOf]; omega
    · obtain rfl : a = b := by omega
      have hpos : posK (l.map Node.path) p = a := by rw [← hr.out]; exact bsr_end _ _ _ hlt
      have HP := Lib.hid hpos
      clear hpos hr
      by_cases han : a < l.length
      · have hx : l[a]? = some (l[a]'(by omega)) := List.getElem?_eq_getElem _
        obtain ⟨bk, off, rfl, hbw, c0, c1, c2, c3, c4, c5, c6, c7, c8⟩ := (H.out.below hb).Node_at hx
        generalize hxe : l[a]'(by omega) = x at hx c0 c1 c2 c3 c4 c5 c6 c7 c8
        have HX := Lib.hid hx
        clear hx hxe
        go_wp2_with (go_at_call 56; refine (cmpNode _ _ _).mono ?_; rintro e w1 ⟨rfl, hb1⟩; obtain ⟨ext1, d1, rfl⟩ := Below.grown_eq _ hb1)
        go_ret2
        refine ⟨?_, (by repeat (first | exact bA .. | assumption | refine bB ?_ | refine bC ?_ _ | refine bD _ _ ?_ | refine bE _ ?_ | refine bG ?_ (by first | omega | (simp; done) | (simp; omega)) _ | refine Below.setCell ?_ (by first | omega | (simp; done) | (simp; omega)) _ | refine Below.grow _ _ _ ?_ (by first | omega | (simp; done) | (simp; omega))))⟩
        rw [isK_in HP.out HX.out, HP.out]
        rfl
      · go_wp2
        go_ret2
        refine ⟨?_, (by repeat (first | exact bA .. | assumption | refine bB ?_ | refine bC ?_ _ | refine bD _ _ ?_ | refine bE _ ?_ | refine bG ?_ (by first | omega | (simp; done) | (simp; omega)) _ | refine Below.setCell ?_ (by first | omega | (simp; done) | (simp; omega)) _ | refine Below.grow _ _ _ ?_ (by first | omega | (simp; done) | (simp; omega))))⟩
        rw [isK_out HP.out han, HP.out]
        rfl
end Go.Proofs.YtchgpijfebilbaaGreatDoor

/- package tree: find, Get, Open, copied. -/
namespace Go.Proofs.YtchgpijfebilbaaGreatDoor
open Go.RowKit Go.ChangeShapes Go.WideShapes Go.ChangeAt
theorem trFind (z : Int) (v : Value) (sa : Option Addr) (sn sc : Nat) (l : List Node) (p : ByteArray) (w : World) (h : Sl cNode 9 w v l) (hn : l.length ≤ 140737488355328) :
    Calls Tryz.prog 26 #[.agg #[.int .i64 z, v, .slice sa sn sc], .string p] w fun e w' => e = .returned (.tuple #[.int .i64 (posN l p), .bool (hasN l p)]) ∧ Below w.heap.size w w' := by
  obtain ⟨A, c, rfl, h1, h2⟩ := h.form
  have H := Lib.hid h
  clear h
  unfold posN hasN
  go_enter Tryz.func26, Tryz.ntmps26
  go_wp2_with (go_at_call 55; refine (bsfNode _ _ _ _ (H.out.alloc _) hn).mono ?_; rintro e w1 ⟨rfl, hb⟩; obtain ⟨ext, d, rfl⟩ := Below.grown_eq _ hb)
  go_ret2
  exact ⟨rfl, (by repeat (first | exact bA .. | assumption | refine bB ?_ | refine bC ?_ _ | refine bD _ _ ?_ | refine bE _ ?_ | refine bG ?_ (by first | omega | (simp; done) | (simp; omega)) _ | refine Below.setCell ?_ (by first | omega | (simp; done) | (simp; omega)) _ | refine Below.grow _ _ _ ?_ (by first | omega | (simp; done) | (simp; omega))))⟩
theorem hasN_lt {l : List Node} {p : ByteArray} (h : hasN l p = true) : posN l p < l.length := by
  unfold hasN isK at h
  simp at h
  exact h.1
theorem getN_at {l : List Node} {p : ByteArray} (h : hasN l p = true) : l[posN l p]? = some (getN l p) := by
  have hlt := hasN_lt h
  unfold getN
  rw [if_pos h, List.getD_eq_getElem?_getD, List.getElem?_eq_getElem hlt]
  rfl
abbrev vNode (x : Node) : Value := .agg #[.string x.path, .string x.data, .int .i64 x.czxid, .int .i64 x.mzxid, .int .i64 x.pzxid, .int .i64 x.version, .int .i64 x.cversion, .int .i64 x.owner, .int .i64 x.kids]
set_option maxHeartbeats 400000 in
theorem trGet (z : Int) (v : Value) (sa : Option Addr) (sn sc : Nat) (l : List Node) (p : ByteArray) (w : World) (h : Sl cNode 9 w v l) (hn : l.length ≤ 140737488355328) :
    Calls Tryz.prog 44 #[.agg #[.int .i64 z, v, .slice sa sn sc], .string p] w fun e w' => e = .returned (.tuple #[vNode (getN l p), .int .i64 (getE l p)]) ∧ Below w.heap.size w w' := by
  obtain ⟨A, c, rfl, h1, h2⟩ := h.form
  have H := Lib.hid h
  clear h
  unfold getE
  cases hk : hasN l p with
  | true =>
    have hlt := hasN_lt hk
    obtain ⟨bk, off, rfl, hbw, c0, c1, c2, c3, c4, c5, c6, c7, c8⟩ := H.out.Node_at (getN_at hk)
    rw [if_pos rfl]
    have hcall := fun w' (hs : Sl cNode 9 w' (.slice (some ⟨bk, off, none⟩) l.length c) l) => trFind z _ sa sn sc l p w' hs hn
    rw [hk] at hcall
    generalize getN l p = x at *
    generalize posN l p = q at *
    have HC := Lib.hid hcall
    clear hcall hk
    go_enter Tryz.func44, Tryz.ntmps44
    go_wp2_with (go_at_call 26; refine (HC.out _ (H.out.below (by repeat (first | exact bA .. | assumption | refine bB ?_ | refine bC ?_ _ | refine bD _ _ ?_ | refine bE _ ?_ | refine bG ?_ (by first | omega | (simp; done) | (simp; omega)) _ | refine Below.setCell ?_ (by first | omega | (simp; done) | (simp; omega)) _ | refine Below.grow _ _ _ ?_ (by first | omega | (simp; done) | (simp; omega)))))).mono ?_; rintro e w1 ⟨rfl, hb⟩; obtain ⟨ext, d, rfl⟩ := Below.grown_eq _ hb)
    refine bodyPost_ret (v := .tuple #[vNode x, .int .i64 0]) (by simp [results, Tryz.results44, go_sem]) rfl ⟨rfl, (by repeat (first | exact bA .. | assumption | refine bB ?_ | refine bC ?_ _ | refine bD _ _ ?_ | refine bE _ ?_ | refine bG ?_ (by first | omega | (simp; done) | (simp; omega)) _ | refine Below.setCell ?_ (by first | omega | (simp; done) | (simp; omega)) _ | refine Below.grow _ _ _ ?_ (by first | omega | (simp; done) | (simp; omega))))⟩
  | false =>
    have hL : getN l p = noNode := by unfold getN; rw [hk]; rfl
    rw [hL, if_neg (by simp)]
    have hcall := fun w' (hs : Sl cNode 9 w' (.slice A l.length c) l) => trFind z _ sa sn sc l p w' hs hn
    rw [hk] at hcall
    clear hk hL
    generalize posN l p = q at *
    have HC := Lib.hid hcall
    clear hcall
    go_enter Tryz.func44, Tryz.ntmps44
    go_wp2_with (go_at_call 26; refine (HC.out _ (H.out.below (by repeat (first | exact bA .. | assumption | refine bB ?_ | refine bC ?_ _ | refine bD _ _ ?_ | refine bE _ ?_ | refine bG ?_ (by first | omega | (simp; done) | (simp; omega)) _ | refine Below.setCell ?_ (by first | omega | (simp; done) | (simp; omega)) _ | refine Below.grow _ _ _ ?_ (by first | omega | (simp; done) | (simp; omega)))))).mono ?_; rintro e w1 ⟨rfl, hb⟩; obtain ⟨ext, d, rfl⟩ := Below.grown_eq _ hb)
    refine bodyPost_ret (v := .tuple #[vNode noNode, .int .i64 7]) (by simp [results, Tryz.results44, go_sem]) rfl ⟨rfl, (by repeat (first | exact bA .. | assumption | refine bB ?_ | refine bC ?_ _ | refine bD _ _ ?_ | refine bE _ ?_ | refine bG ?_ (by first | omega | (simp; done) | (simp; omega)) _ | refine Below.setCell ?_ (by first | omega | (simp; done) | (simp; omega)) _ | refine Below.grow _ _ _ ?_ (by first | omega | (simp; done) | (simp; omega))))⟩
def TrIs (t : Tr) (w : World) (e : Ending) (w' : World) : Prop := ∃ A c A2 c2, e = .returned (.agg #[.int .i64 t.zxid, .slice A t.nodes.length c, .slice A2 t.sess.length c2]) ∧ Ow cNode 9 68 w' w.heap.size (.slice A t.nodes.length c) t.nodes ∧ Ow cInt 1 3 w' w.heap.size (.slice A2 t.sess.length c2) t.sess ∧ Below w.heap.size w w'
set_option maxHeartbeats 400000 in
theorem trCopied (t : Tr) (v v2 : Value) (w : World) (h : Sl cNode 9 w v t.nodes) (h2 : Sl cInt 1 w v2 t.sess) (hn : t.nodes.length * 88 ≤ 140737488355328) (hn2 : t.sess.length * 8 ≤ 140737488355328) :
    Calls Tryz.prog 20 #[.agg #[.int .i64 t.zxid, v, v2]] w (TrIs t w) := by
  obtain ⟨A, c, rfl, h1, h1b⟩ := h.form
  obtain ⟨A2, c2, rfl, h3, h3b⟩ := h2.form
  have H := Lib.hid h
  have H2 := Lib.hid h2
  clear h h2
  obtain ⟨z, l, ss⟩ := t
  simp only at *
  go_enter Tryz.func20, Tryz.ntmps20
  go_upto_region 1 with fail
  refine wp_region_noPanic ?_
  refine wp_region_W (by kernel_rfl) (fun W hW => ?_)
  have cl0 : W.cell? ⟨w.heap.size, 0, none⟩ = some (.int .i64 z) := by rw [hW.out]; go_simp
  have cl1 : W.cell? ⟨w.heap.size, 1, none⟩ = some (.slice A l.length c) := by rw [hW.out]; go_simp
  have cl2 : W.cell? ⟨w.heap.size, 2, none⟩ = some (.slice A2 ss.length c2) := by rw [hW.out]; go_simp
  have hnW := Lib.hid (H.out.below (w' := W) (by rw [hW.out]; exact (by repeat (first | with_reducible (first | exact bA .. | assumption | exact bJ .. | exact bK .. | exact bL .. | exact bM .. | exact bN .. | refine bB ?_ | refine bC ?_ _ | refine bD _ _ ?_ | refine bE _ ?_ | refine bF ?_ ?_ _ | refine bG ?_ ?_ _ | refine bH _ _ _ ?_ ?_) | omega | (simp; done) | (simp; omega)))))
  have hsW := Lib.hid (H2.out.below (w' := W) (by rw [hW.out]; exact (by repeat (first | with_reducible (first | exact bA .. | assumption | exact bJ .. | exact bK .. | exact bL .. | exact bM .. | exact bN .. | refine bB ?_ | refine bC ?_ _ | refine bD _ _ ?_ | refine bE _ ?_ | refine bF ?_ ?_ _ | refine bG ?_ ?_ _ | refine bH _ _ _ ?_ ?_) | omega | (simp; done) | (simp; omega)))))
  refine wpAny_S (fun w' => w'.cell? ⟨w.heap.size, 0, none⟩ = some (.int .i64 z) ∧ w'.cell? ⟨w.heap.size, 1, none⟩ = some (.slice A l.length c) ∧ w'.cell? ⟨w.heap.size, 2, none⟩ = some (.slice A2 ss.length c2)) (fun i => i == 7 || i == 9) (by (try dsimp only); (refine ⟨?_, ?_, ?_⟩ <;> go_simp)) (fun hHeld => ?_)
  (refine wpE_takeP (i := 0) (v := ?gV1_1) (by simp only [zD]; rfl) (by kernel_rfl) (by kernel_rfl) (by kernel_rfl) (by rfl) (fun _ _ _ h => h) (Or.inl ⟨by rfl, ?gY1_1⟩) (by assumption) ?gR1_1; case gY1_1 => (intro w hSw; (try dsimp only at hSw); go_simp <;> with_reducible rfl))
  try simp only [Act.put, zA, zB, zC]
  (refine wpE_take (i := 1) (v := ?gV1_2) (by simp only [zD]; rfl) (by kernel_rfl) (by kernel_rfl) (by kernel_rfl) (by kernel_rfl) (by kernel_rfl) (by rfl) (fun _ _ _ h => h) (Or.inl ⟨by rfl, ?gY1_2⟩) (by assumption) ?gR1_2; case gY1_2 => (intro w hSw; (try dsimp only at hSw); go_simp <;> with_reducible rfl))
  try simp only [Act.put, zA, zB, zC]
  (refine wpE_takeP (i := 3) (v := ?gV1_3) (by simp only [zD]; rfl) (by kernel_rfl) (by kernel_rfl) (by kernel_rfl) (by rfl) (fun _ _ _ h => h) (Or.inl ⟨by rfl, ?gY1_3⟩) (by assumption) ?gR1_3; case gY1_3 => (intro w hSw; (try dsimp only at hSw); go_simp <;> with_reducible rfl))
  try simp only [Act.put, zA, zB, zC]
  (refine wpE_take (i := 4) (v := ?gV1_4) (by simp only [zD]; rfl) (by kernel_rfl) (by kernel_rfl) (by kernel_rfl) (by kernel_rfl) (by kernel_rfl) (by rfl) (fun _ _ _ h => h) (Or.inl ⟨by rfl, ?gY1_4⟩) (by assumption) ?gR1_4; case gY1_4 => (intro w hSw; (try dsimp only at hSw); go_simp <;> with_reducible rfl))
  try simp only [Act.put, zA, zB, zC]
  refine wpE_ready (rs := [2]) (by kernel_rfl) (by simp) ?_
  refine AllE.cons (by simp only [zD]; rfl) (fun K hK => ?_) AllE.nil
  go_simp
  (go_at_call 46; (with_reducible refine (cloneNode _ _ _ (hnW.out.below (by repeat (first | with_reducible (first | exact bA .. | assumption | exact bJ .. | exact bK .. | exact bL .. | exact bM .. | exact bN .. | refine bB ?_ | refine bC ?_ _ | refine bD _ _ ?_ | refine bE _ ?_ | refine bF ?_ ?_ _ | refine bG ?_ ?_ _ | refine bH _ _ _ ?_ ?_) | omega | (simp; done) | (simp; omega)))) hn (by simp [maxLen]; omega)).mono ?_); rintro e w1 ⟨A', c', rfl, hown, hb⟩; obtain ⟨ext, d, rfl⟩ := Below.grown_eq _ hb; have HO := Lib.hid hown; clear hown hb)
  refine hK.out _ _ ?gT1_5 (fun hHeld => ?_)
  case gT1_5 => ((try dsimp only); (refine ⟨?_, ?_, ?_⟩ <;> go_simp))
  clear hK K
  try simp only [Act.put, zA, zB, zC]
  (refine wpE_takeP (i := 6) (v := ?gV1_6) (by simp only [zD]; rfl) (by kernel_rfl) (by kernel_rfl) (by kernel_rfl) (by rfl) (fun _ _ _ h => h) (Or.inl ⟨by rfl, ?gY1_6⟩) (by assumption) ?gR1_6; case gY1_6 => (intro w hSw; (try dsimp only at hSw); go_simp <;> with_reducible rfl))
  try simp only [Act.put, zA, zB, zC]
  refine wpE_ready (rs := [5]) (by kernel_rfl) (by simp) ?_
  refine AllE.cons (by simp only [zD]; rfl) (fun K hK => ?_) AllE.nil
  go_simp
  (go_at_call 47; (with_reducible refine (cloneInts _ _ _ (hsW.out.below (by repeat (first | with_reducible (first | exact bA .. | assumption | exact bJ .. | exact bK .. | exact bL .. | exact bM .. | exact bN .. | refine bB ?_ | refine bC ?_ _ | refine bD _ _ ?_ | refine bE _ ?_ | refine bF ?_ ?_ _ | refine bG ?_ ?_ _ | refine bH _ _ _ ?_ ?_) | omega | (simp; done) | (simp; omega)))) hn2 (by simp [maxLen]; omega)).mono ?_); rintro e w3 ⟨A3, c3, rfl, hown3, hb3⟩; obtain ⟨ext3, d3, rfl⟩ := Below.grown_eq _ hb3; have HO3 := Lib.hid hown3; clear hown3 hb3; have hWW := hW.out; subst hWW)
  refine hK.out _ _ ?gT1_7 (fun hHeld => ?_)
  case gT1_7 => ((try dsimp only); (refine ⟨?_, ?_, ?_⟩ <;> go_simp))
  clear hK K
  try simp only [Act.put, zA, zB, zC]
  refine wpE_ready (rs := [7]) (by kernel_rfl) (by simp) ?_
  refine AllE.last (by simp only [zD]; rfl) (by kernel_rfl) (fun K hK => ?_) AllE.nil
  go_simp
  refine hK.out _ _ ?_
  clear hK K
  try simp only [Act.put, zA, zB, zC]
  (refine wpE_takeQ (i := 8) (v := ?gV1_9) (by simp only [zD]; rfl) (by kernel_rfl) (by kernel_rfl) (by kernel_rfl) (by rfl) (fun _ _ _ h => h) (Or.inl ⟨by rfl, ?gY1_9⟩) (by kernel_rfl) ?gR1_9; case gY1_9 => (intro w hSw; (try dsimp only at hSw); go_simp <;> with_reducible rfl))
  try simp only [Act.put, zA, zB, zC]
  refine wpE_ready (rs := [9]) (by kernel_rfl) (by simp) ?_
  refine AllE.last (by simp only [zD]; rfl) (by kernel_rfl) (fun K hK => ?_) AllE.nil
  go_simp
  refine hK.out _ _ ?_
  clear hK K
  try simp only [Act.put, zA, zB, zC]
  refine wpE_done (by kernel_rfl) ?_ _
  refine NoPanic.normal ?_
  go_wp2_with fail
  refine bodyPost_ret (v := .agg #[.int .i64 z, .slice A' l.length c', .slice A3 ss.length c3]) (by simp [results, Tryz.results20, go_sem]) rfl ⟨A', c', A3, c3, rfl, ?_, ?_, (by repeat (first | with_reducible (first | exact bA .. | assumption | exact bJ .. | exact bK .. | exact bL .. | exact bM .. | exact bN .. | refine bB ?_ | refine bC ?_ _ | refine bD _ _ ?_ | refine bE _ ?_ | refine bF ?_ ?_ _ | refine bG ?_ ?_ _ | refine bH _ _ _ ?_ ?_) | omega | (simp; done) | (simp; omega)))⟩
  · refine Ow.mono (Ow.moved (W' := ?w9) (d' := ?x9) HO.out (Nat.le_refl _) ?b9 ?z9) (by simp <;> omega)
    case b9 => exact (by repeat (first | with_reducible (first | exact bA .. | assumption | exact bJ .. | exact bK .. | exact bL .. | exact bM .. | exact bN .. | refine bB ?_ | refine bC ?_ _ | refine bD _ _ ?_ | refine bE _ ?_ | refine bF ?_ ?_ _ | refine bG ?_ ?_ _ | refine bH _ _ _ ?_ ?_) | omega | (simp; done) | (simp; omega)))
    case z9 => simp
  · refine Ow.mono (Ow.moved (W' := ?w8) (d' := ?x8) HO3.out (Nat.le_refl _) ?b8 ?z8) (by simp <;> omega)
    case b8 => exact (by repeat (first | with_reducible (first | exact bA .. | assumption | exact bJ .. | exact bK .. | exact bL .. | exact bM .. | exact bN .. | refine bB ?_ | refine bC ?_ _ | refine bD _ _ ?_ | refine bE _ ?_ | refine bF ?_ ?_ _ | refine bG ?_ ?_ _ | refine bH _ _ _ ?_ ?_) | omega | (simp; done) | (simp; omega)))
    case z8 => simp
end Go.Proofs.YtchgpijfebilbaaGreatDoor

/- made by geninst.py from XT4.src -/
namespace Go.Proofs.YtchgpijfebilbaaGreatDoor
open Go.RowKit
set_option maxHeartbeats 1000000 in
theorem insNode_end (A : Option Addr) (n c : Nat) (l : List Node) (x : Node) (w : World) (B vb : Nat) (hown : Ow cNode 9 68 w B (.slice A n c) l) (hl : n = l.length) (hv : Bk w vb (cNode x) 68)
    (hB : B ≤ w.heap.size) (hn : (n + 1) * 88 ≤ 140737488355328) :
    Calls Tryz.prog 54 #[.slice A n c, .int .i64 n, .slice (some ⟨vb, 0, none⟩) 1 1] w (Rowed cNode 9 68 B (n + 1) (l ++ [x]) (Value.slice A n c).ownBlock w) := by
  have H := Lib.hid hown
  obtain ⟨A', c', hf1, hf2, hf3, hf4, hf5⟩ := hown.form
  injection hf1 with e1 e2 e3
  subst e1; subst e3
  have HL := Lib.hid hl
  rw [← hl] at hf2
  have HN := Lib.hid hf4
  clear hl e2 hown hf4 hf5
  by_cases hcn : c = n
  · subst hcn
    go_enter Tryz.func54, Tryz.ntmps54
    go_wp2_with (at_builtin; refine wpList_app _ rfl (.tmp 23) (.tmp 24) _ rfl elNode (l := l) (m := [x]) rfl rfl H.out (Sl.blk rfl hv) cNode_one (by have := HL.out; simp [maxLen]; omega) (by have := HL.out; simp; omega) hB ?_; intro v' w1 hown1 hg1 hat1; obtain ⟨A1, c1, rfl⟩ := Ow.is_slice (m := c + 1) hown1 (by simpa using HL.out.symm); have HO := Lib.hid hown1; have HG := Lib.hid hg1; have HT := Lib.hid hat1; clear hown1 hg1 hat1)
    go_ret
    exact ⟨A1, c1, rfl, HO.out, HG.out, HT.out⟩
  · go_enter Tryz.func54, Tryz.ntmps54
    go_wp2_with (at_builtin; refine wpList_app _ rfl (.tmp 23) (.tmp 24) _ rfl elNode (l := l) (m := [x]) rfl rfl H.out (Sl.blk rfl hv) cNode_one (by have := HL.out; simp [maxLen]; omega) (by have := HL.out; simp; omega) hB ?_; intro v' w1 hown1 hg1 hat1; obtain ⟨A1, c1, rfl⟩ := Ow.is_slice (m := n + 1) hown1 (by simpa using HL.out.symm); have HO := Lib.hid hown1; have HG := Lib.hid hg1; have HT := Lib.hid hat1; clear hown1 hg1 hat1)
    go_ret
    exact ⟨A1, c1, rfl, HO.out, HG.out, HT.out⟩
set_option maxRecDepth 100000 in
set_option maxHeartbeats 1000000 in
theorem insNode_grow (A : Option Addr) (n k : Nat) (l : List Node) (x : Node) (w : World) (B vb : Nat) (hown : Ow cNode 9 68 w B (.slice A n n) l) (hk : k < n) (hv : Bk w vb (cNode x) 68)
    (hB : B ≤ w.heap.size) (hn : (n + 1) * 88 ≤ 140737488355328) :
    Calls Tryz.prog 54 #[.slice A n n, .int .i64 k, .slice (some ⟨vb, 0, none⟩) 1 1] w (Rowed cNode 9 68 B (n + 1) (l.take k ++ x :: l.drop k) (Value.slice A n n).ownBlock w) := by
  obtain ⟨g, J, rfl, hBg, hbk, hbl, _, hcm, hnl⟩ := hown.blk (by omega)
  have H2 := Lib.hid hown.2
  generalize hcur : l.flatMap cNode ++ J = cur at hbk hbl
  have HC := Lib.hid hcur
  have HL := Lib.hid hnl
  have HBL := Lib.hid hbl
  clear hcur hown hnl hbl
  have ecnt := Lib.hid (show (((n + 1 - k : Nat) : Nat) : Int) = (n : Int) + 1 - (k : Int) by omega)
  have hne : ((k : Int) == (n : Int)) = false := by simp; omega
  have F1 := Lib.hid (flatMap_split H2.out k)
  go_enter Tryz.func54, Tryz.ntmps54
  have hkc : k + (n + 1 - k) = n + 1 := by omega
  have hvg : g < w.heap.size := hbk.lt
  have hvv : vb < w.heap.size := hv.lt
  go_wp2_with (first | (with_reducible refine wpList_atcp ?_); go_loud (refine wpList_cp rfl (.tmp 43) (.tmp 44) _ _ rfl elNode (cs := cNode x) rfl rfl hb1 (by rw [show ∀ q, 1 ≤ q → Nat.min 1 q = 1 from fun q h => Nat.min_eq_left h] <;> first | rfl | omega) (fun j v hj => by show w1.cell? _ = _; rw [Addr.add_lit, Nat.zero_add, (hv.grown hg1 (by simp)).cell]; exact hj) (by have := HBL.out; simp [hz1, cNode]; omega) (cNode_one x) ?_; intro w2 hb2 hg2 hs2) | at_builtin; go_loud (refine wpList_appz rfl (.tmp 34) (.tmp 39) _ _ rfl elNode Tryz.underlying3 (k := k) (c := n) (cnt := n + 1 - k) rfl (by show Value.int _ _ = _; rw [ecnt.out]) hbk (by have := HBL.out; omega) (by omega) (by omega) (by simp [maxLen]; omega) (by omega) ?_; intro w1 Z cap hb1 hz1 hc1 hc2 hg1 hs1))
  have e1 : IntKind.i64.wrap ((k : Int) + 1) = (k : Int) + 1 := by rw [IntKind.wrap_i64]; simp [maxLen] at hcm; omega
  have e2 : ((k : Int) + 1).toNat = k + 1 := by omega
  have e3 : (0 : Int) ≤ (k : Int) + 1 := by omega
  have e4 : (k : Int) + 1 ≤ (n : Int) + 1 := by omega
  have e5 : ¬ cap = k + 1 := by omega
  have e6 : ¬ n = k := by omega
  have e7 : k ≤ n := by omega
  have hcsl : ((l.drop k).flatMap cNode).length = (n - k) * 9 := by rw [flatMap_length (fun y hy => H2.out y (List.mem_of_mem_drop hy)), List.length_drop, HL.out]
  have hcs1 : ∀ v ∈ (l.drop k).flatMap cNode, v.oneCell' = true := by intro v hv; obtain ⟨y, _, hy⟩ := List.mem_flatMap.1 hv; exact cNode_one y v hy
  have hlt : (cur.take (k * 9)).length = k * 9 := by rw [List.length_take, HBL.out]; omega
  have hsl : (splice (cur.take (k * 9) ++ Z) (k * 9) (cNode x)).length = k * 9 + (cap - k) * 9 := by rw [splice_length _ _ _ (by simp only [List.length_append, hlt, hz1]; show k * 9 + 9 ≤ _; omega), List.length_append, hlt, hz1]
  have hgs : Bk w2 g cur 68 := (hbk.grown hg1 (by simp)).grown hg2 (by simp; omega)
  have hsrc : ∀ (j : Nat) (v : Value), ((l.drop k).flatMap cNode)[j]? = some v → cur[k * 9 + j]? = some v := by
    intro j v hj
    rw [F1.out.2, List.getElem?_drop] at hj
    rw [← HC.out, List.getElem?_append_left (List.getElem?_eq_some_iff.1 hj).1]
    exact hj
  have HS := Lib.hid hsl
  have HSR := Lib.hid hsrc
  have HCL := Lib.hid hcsl
  clear hsl hsrc hcsl
  have hb2d : Bk w2.drew w.heap.size (splice (cur.take (k * 9) ++ Z) (k * 9) (cNode x)) 68 := hb2
  go_region_law (go_loud (refine step_cp rfl _ _ _ _ rfl elNode (cs := (l.drop k).flatMap cNode) (off := (k + 1) * 9) (dLen := n + 1 - (k + 1)) (dCap := cap - (k + 1)) (ad := ⟨g, k * 9, none⟩) (sLen := n - k) (sCap := n - k) (by simp [Act.eval, Act.put]) (by simp [Act.eval, Act.put]) hb2d (by rw [HCL.out, show Nat.min (n - k) (n + 1 - (k + 1)) = n - k from Nat.min_eq_left (by omega)]) (fun j v hj => by show w2.cell? _ = _; rw [Addr.add_lit, hgs.cell]; exact HSR.out j v hj) (by rw [HS.out, HCL.out]; omega) hcs1 ?_; intro w3 hb3 hg3 hs3))
  go_wp2
  go_ret
  refine ⟨some ⟨w.heap.size, 0, none⟩, cap, rfl, ?_, ((hg1.but _).andThen hg2 (by simp)).andThen (show w2.grownBy w3 (some w.heap.size) from ⟨hg3.os, hg3.tape, hg3.output, hg3.size, hg3.block⟩) (by simp), .inr rfl⟩
  have hta : cur.take (k * 9) = (l.take k).flatMap cNode := by rw [F1.out.1, ← HC.out, List.take_append_of_le_length (by rw [flatMap_length H2.out, ← HL.out]; omega)]
  have hall : ∀ y ∈ l.take k ++ x :: l.drop k, (cNode y).length = 9 := fun y _ => rfl
  have hlen : (l.take k ++ x :: l.drop k).length = n + 1 := by rw [List.length_append, List.length_take, List.length_cons, List.length_drop, ← HL.out]; omega
  have := Ow.of_blk (B := B) (g := w.heap.size) (c := cap) (J := Z.drop (9 + ((l.drop k).flatMap cNode).length)) hall hB hb3 (by
    have h := ins2 (cur.take (k * 9)) Z ((l.drop k).flatMap cNode) (cNode x)
    rw [hlt] at h
    rw [show (k + 1) * 9 = k * 9 + (cNode x).length from by show _ = k * 9 + 9; omega, h, hta, List.flatMap_append, List.flatMap_cons]
    simp only [List.append_assoc]
    rfl) (by rw [splice_length _ _ _ (by rw [HS.out, HCL.out]; omega), HS.out]; omega) (by rw [hlen]; omega) hc2
  rw [hlen] at this
  exact this
set_option maxRecDepth 100000 in
set_option maxHeartbeats 1000000 in
theorem insNode_room (A : Option Addr) (n k c : Nat) (l : List Node) (x : Node) (w : World) (B vb : Nat) (hown : Ow cNode 9 68 w B (.slice A n c) l) (hk : k < n) (hc : n < c) (hv : Bk w vb (cNode x) 68) (hvA : (Value.slice A n c).ownBlock ≠ some vb) :
    Calls Tryz.prog 54 #[.slice A n c, .int .i64 k, .slice (some ⟨vb, 0, none⟩) 1 1] w (Rowed cNode 9 68 B (n + 1) (l.take k ++ x :: l.drop k) (Value.slice A n c).ownBlock w) := by
  obtain ⟨g, J, rfl, hBg, hbk, hbl, _, hcm, hnl⟩ := hown.blk (by omega)
  have H2 := Lib.hid hown.2
  have hvg : vb ≠ g := by intro h; exact hvA (by rw [h]; rfl)
  generalize hcur : l.flatMap cNode ++ J = cur at hbk hbl
  have HC := Lib.hid hcur
  have HL := Lib.hid hnl
  have HBL := Lib.hid hbl
  clear hcur hown hnl hbl
  have hne : ((k : Int) == (n : Int)) = false := by simp; omega
  have F1 := Lib.hid (flatMap_split H2.out k)
  have d1 : IntKind.i64.wrap ((n : Int) + 1) = (n : Int) + 1 := by rw [IntKind.wrap_i64]; simp [maxLen] at hcm; omega
  have d2 : ((n : Int) + 1).toNat = n + 1 := by omega
  have d3 : (0 : Int) ≤ (n : Int) + 1 := by omega
  have d4 : (n : Int) + 1 ≤ (c : Int) := by omega
  have d5 : ¬ (c : Int) < (n : Int) + 1 := by omega
  have e1 : IntKind.i64.wrap ((k : Int) + 1) = (k : Int) + 1 := by rw [IntKind.wrap_i64]; simp [maxLen] at hcm; omega
  have e2 : ((k : Int) + 1).toNat = k + 1 := by omega
  have e3 : (0 : Int) ≤ (k : Int) + 1 := by omega
  have e4 : (k : Int) + 1 ≤ (n : Int) + 1 := by omega
  have e5 : ¬ c = k + 1 := by omega
  have e6 : ¬ c = k := by omega
  have e7 : (k : Int) ≤ (n : Int) + 1 := by omega
  have e8 : k ≤ n := by omega
  have hov := fun (off lb cb : Nat) => overlaps_no elNode Tryz.func74 (by kernel_rfl) (by kernel_rfl) (by kernel_rfl) (tB := 4) (by kernel_rfl) hv hbk hvg (by have := HBL.out; omega) off 1 1 lb cb
  go_enter Tryz.func54, Tryz.ntmps54
  go_wp2_with (simp only [hov])
  have hcsl : ((l.drop k).flatMap cNode).length = (n - k) * 9 := by rw [flatMap_length (fun y hy => H2.out y (List.mem_of_mem_drop hy)), List.length_drop, HL.out]
  have hcs1 : ∀ v ∈ (l.drop k).flatMap cNode, v.oneCell' = true := by intro v hv; obtain ⟨y, _, hy⟩ := List.mem_flatMap.1 hv; exact cNode_one y v hy
  have hsl : (splice cur ((k + 1) * 9) ((l.drop k).flatMap cNode)).length = c * 9 := by rw [splice_length _ _ _ (by rw [hcsl, HBL.out]; omega), HBL.out]
  have hsrc : ∀ (j : Nat) (v : Value), ((l.drop k).flatMap cNode)[j]? = some v → cur[k * 9 + j]? = some v := by
    intro j v hj
    rw [F1.out.2, List.getElem?_drop] at hj
    rw [← HC.out, List.getElem?_append_left (List.getElem?_eq_some_iff.1 hj).1]
    exact hj
  have HS := Lib.hid hsl
  have HSR := Lib.hid hsrc
  have HCL := Lib.hid hcsl
  clear hsl hsrc hcsl
  have hbd : Bk w.drew g cur 68 := hbk
  have hvd : Bk w.drew vb (cNode x) 68 := hv
  go_region_law (go_loud (refine step_cp rfl _ _ _ _ rfl elNode (cs := (l.drop k).flatMap cNode) (off := (k + 1) * 9) (dLen := n - k) (dCap := c - (k + 1)) (ad := ⟨g, k * 9, none⟩) (sLen := n + 1 - k) (sCap := c - k) (by simp [Act.eval, Act.put]) (by simp [Act.eval, Act.put]) hbd (by rw [HCL.out, show Nat.min (n + 1 - k) (n - k) = n - k from Nat.min_eq_right (by omega)]) (fun j v hj => by rw [Addr.add_lit, hbd.cell]; exact HSR.out j v hj) (by rw [HBL.out, HCL.out]; omega) hcs1 ?_; intro w3 hb3 hg3 hs3))
  go_wp2_with (first | (with_reducible refine wpList_atcp ?_); go_loud (refine wpList_cp rfl (.tmp 80) (.tmp 81) _ _ rfl elNode (cs := cNode x) (off := k * 9) (dLen := n + 1 - k) (dCap := c - k) rfl rfl hb3 (by rw [show ∀ q, 1 ≤ q → Nat.min 1 q = 1 from fun q h => Nat.min_eq_left h] <;> first | rfl | omega) (fun j v hj => by rw [Addr.add_lit, Nat.zero_add, (hvd.grown hg3 (by simp; exact hvg)).cell]; exact hj) (by rw [HS.out]; show k * 9 + 9 ≤ _; omega) (cNode_one x) ?_; intro w4 hb4 hg4 hs4))
  go_ret
  refine ⟨some ⟨g, 0, none⟩, c, rfl, ?_, (show w.grownBy w3 (some g) from ⟨hg3.os, hg3.tape, hg3.output, hg3.size, hg3.block⟩).trans hg4, .inl rfl⟩
  have hta : cur = (l.take k).flatMap cNode ++ (l.drop k).flatMap cNode ++ J := by rw [← List.flatMap_append, List.take_append_drop, HC.out]
  have hlt : ((l.take k).flatMap cNode).length = k * 9 := by rw [flatMap_length (fun y hy => H2.out y (List.mem_of_mem_take hy)), List.length_take, ← HL.out, Nat.min_eq_left (by omega)]
  have hJ : (cNode x).length ≤ J.length := by
    have h := HBL.out
    rw [hta, List.length_append, List.length_append, hlt, HCL.out] at h
    show 9 ≤ _
    omega
  have hall : ∀ y ∈ l.take k ++ x :: l.drop k, (cNode y).length = 9 := fun y _ => rfl
  have hlen : (l.take k ++ x :: l.drop k).length = n + 1 := by rw [List.length_append, List.length_take, List.length_cons, List.length_drop, ← HL.out]; omega
  have := Ow.of_blk (B := B) (g := g) (c := c) (J := J.drop (cNode x).length) hall hBg hb4 (by
    have h := ins1 ((l.take k).flatMap cNode) ((l.drop k).flatMap cNode) J (cNode x) hJ
    rw [hlt, ← hta] at h
    rw [show (k + 1) * 9 = k * 9 + (cNode x).length from by show _ = k * 9 + 9; omega, h, List.flatMap_append, List.flatMap_cons]
    simp only [List.append_assoc]) (by rw [splice_length _ _ _ (by rw [HS.out]; show k * 9 + 9 ≤ _; omega), HS.out]) (by rw [hlen]; omega) hcm
  rw [hlen] at this
  exact this
theorem insNode (v : Value) (k : Nat) (l : List Node) (x : Node) (w : World) (B vb : Nat) (hown : Ow cNode 9 68 w B v l) (hk : k ≤ l.length) (hv : Bk w vb (cNode x) 68) (hvA : v.ownBlock ≠ some vb)
    (hB : B ≤ w.heap.size) (hn : (l.length + 1) * 88 ≤ 140737488355328) :
    Calls Tryz.prog 54 #[v, .int .i64 k, .slice (some ⟨vb, 0, none⟩) 1 1] w (Rowed cNode 9 68 B (l.length + 1) (l.take k ++ x :: l.drop k) v.ownBlock w) := by
  obtain ⟨A, c, rfl, h2⟩ := hown.form
  rcases Nat.lt_or_ge k l.length with h | h
  · obtain ⟨g, J, rfl, _, _, _, hnc, _, _⟩ := hown.blk (by omega)
    by_cases hc : c = l.length
    · subst hc
      exact insNode_grow _ _ k l x w B vb hown h hv hB hn
    · exact insNode_room _ _ k c l x w B vb hown h (by omega) hv hvA
  · obtain rfl : k = l.length := by omega
    rw [List.take_length, List.drop_length]
    exact insNode_end _ _ c l x w B vb hown rfl hv hB hn
end Go.Proofs.YtchgpijfebilbaaGreatDoor

/- made by geninst.py from XT5.src -/
namespace Go.Proofs.YtchgpijfebilbaaGreatDoor
open Go.RowKit
set_option maxRecDepth 100000 in
set_option maxHeartbeats 1000000 in
theorem delNode_core (g n c k j m q : Nat) (cur news : List Value) (w : World) (hb : Bk w g cur 68) (hnews : news.length = m * 9) (hsrc : ∀ (i : Nat) (v : Value), news[i]? = some v → cur[j * 9 + i]? = some v)
    (hone : ∀ v ∈ news, v.oneCell' = true) (hlen : cur.length = c * 9) (hj : j = k + 1) (hm : k + m = q) (hn : n = q + 1) (hnc : n ≤ c) (hc : c ≤ 9223372036854775807) :
    Calls Tryz.prog 52 #[.slice (some ⟨g, 0, none⟩) n c, .int .i64 k, .int .i64 j] w fun e w' => e = .returned (.slice (some ⟨g, 0, none⟩) q c) ∧
      Hid (∃ cur', Bk w' g cur' 68 ∧ cur'.length = cur.length ∧ cur'.take (q * 9) = (splice cur (k * 9) news).take (q * 9) ∧ w.grownBy w' (some g)) := by
  have HB := Lib.hid hb
  have HO := Lib.hid hone
  have HN := Lib.hid hnews
  have HS := Lib.hid hsrc
  have HL := Lib.hid hlen
  have hkc : (k : Int) ≤ (c : Int) := by omega
  have hjn : (j : Int) ≤ (n : Int) := by omega
  have hnci : (n : Int) ≤ (c : Int) := by omega
  have hqn : (q : Int) ≤ (n : Int) := by omega
  have hqc : (q : Int) ≤ (c : Int) := by omega
  have hkj : (k : Int) ≤ (j : Int) := by omega
  have hkk : ((k : Int) == (j : Int)) = false := beq_eq_false_iff_ne.2 (by omega)
  have hnq : n - q = 1 := by omega
  have HQ := Lib.hid hn
  have HJ := Lib.hid hj
  have HBD : Hid (Bk w.drew g cur 68) := HB
  clear hb hone hnews hsrc hlen
  by_cases hcj : c = j
  · have hm0 : m = 0 := by omega
    subst hm0
    rw [Nat.add_zero] at hm
    subst hm
    have hn0 : news = [] := List.eq_nil_of_length_eq_zero (by simpa using HN.out)
    have HN0 := Lib.hid hn0
    have hnj : n = j := by omega
    subst hnj
    subst hcj
    clear hn hj hn0
    go_enter Tryz.func52, Tryz.ntmps52
    go_wp2_with fail
    go_region_law (first | (refine step_apr rfl (.tmp 22) (.tmp 25) _ rfl elNode (g := g) (k := k) (c := c) (off := 0) (m := 0) (cc := 0) (news := news) (by simp [Act.eval, Act.put]) (by simp [Act.eval, Act.put]) HBD.out (by rw [HN0.out]; rfl) (by rw [HN0.out]; simp) (by omega) (by rw [HN0.out, HL.out]; simp; omega) HO.out ?_; intro w2 hb2 hg2 hz2; have HB2 := Lib.hid hb2; have HG2 := Lib.hid hg2; have HZ2 := Lib.hid hz2; clear hb2 hg2 hz2))
    have hsl : (splice cur (k * 9) news).length = c * 9 := by rw [splice_length _ _ _ (by rw [HN0.out, HL.out]; simp; omega), HL.out]
    have HSL := Lib.hid hsl
    clear hsl
    go_wp2_with (first | (with_reducible refine wpList_atclr ?_); (refine wpList_clr rfl (.tmp 31) _ rfl elNode (off := k * 9) (n := 1) rfl HB2.out (by decide) (by rw [HSL.out]; omega) ?_; intro w3 cur3 hb3 hl3 ht3 hg3 _; have HB3 := Lib.hid hb3; have HL3 := Lib.hid hl3; have HT3 := Lib.hid ht3; have HG3 := Lib.hid hg3; clear hb3 hl3 ht3 hg3))
    refine bodyPost_ret (v := .slice (some ⟨g, 0, none⟩) k c) (by simp [results, Tryz.results52, go_sem]) rfl ⟨rfl, Lib.hid ⟨cur3, HB3.out, by rw [HL3.out, HSL.out, HL.out], HT3.out, ?_⟩⟩
    exact (show w.grownBy w2 (some g) from ⟨HG2.out.os, HG2.out.tape, HG2.out.output, HG2.out.size, HG2.out.block⟩).trans HG3.out
  · clear hn hj
    go_enter Tryz.func52, Tryz.ntmps52
    go_wp2_with fail
    go_region_law (first | (refine step_apr rfl (.tmp 22) (.tmp 25) _ rfl elNode (g := g) (k := k) (c := c) (off := j * 9) (m := m) (cc := c - j) (news := news) (by simp [Act.eval, Act.put]) (by simp [Act.eval, Act.put]; have := HQ.out; have := HJ.out; omega) HBD.out HN.out HS.out (by have := HQ.out; omega) (by rw [HN.out, HL.out]; have := HQ.out; omega) HO.out ?_; intro w2 hb2 hg2 hz2; have HB2 := Lib.hid hb2; have HG2 := Lib.hid hg2; have HZ2 := Lib.hid hz2; clear hb2 hg2 hz2))
    have hsl : (splice cur (k * 9) news).length = c * 9 := by rw [splice_length _ _ _ (by rw [HN.out, HL.out]; have := HQ.out; omega), HL.out]
    have HSL := Lib.hid hsl
    clear hsl
    go_wp2_with (first | (with_reducible refine wpList_atclr ?_); (refine wpList_clr rfl (.tmp 31) _ rfl elNode (off := q * 9) (n := 1) rfl HB2.out (by decide) (by rw [HSL.out]; have := HQ.out; omega) ?_; intro w3 cur3 hb3 hl3 ht3 hg3 _; have HB3 := Lib.hid hb3; have HL3 := Lib.hid hl3; have HT3 := Lib.hid ht3; have HG3 := Lib.hid hg3; clear hb3 hl3 ht3 hg3))
    refine bodyPost_ret (v := .slice (some ⟨g, 0, none⟩) q c) (by simp [results, Tryz.results52, go_sem]) rfl ⟨rfl, Lib.hid ⟨cur3, HB3.out, by rw [HL3.out, HSL.out, HL.out], HT3.out, ?_⟩⟩
    exact (show w.grownBy w2 (some g) from ⟨HG2.out.os, HG2.out.tape, HG2.out.output, HG2.out.size, HG2.out.block⟩).trans HG3.out
theorem delNode (A : Option Addr) (n c k : Nat) (l : List Node) (w : World) (B : Nat) (hown : Ow cNode 9 68 w B (.slice A n c) l) (hk : k < l.length) (hc : c ≤ 9223372036854775807) :
    Calls Tryz.prog 52 #[.slice A n c, .int .i64 k, .int .i64 (k + 1)] w fun e w' => e = .returned (.slice A (n - 1) c) ∧ Hid (Ow cNode 9 68 w' B (.slice A (n - 1) c) (l.take k ++ l.drop (k + 1)) ∧ w.grownBy w' (Value.slice A n c).ownBlock) := by
  have hnl : n = l.length := by obtain ⟨_, _, h, _⟩ := hown.form; injection h
  obtain ⟨g, J, rfl, hBg, hbk, hbl, hnc, hcm, _⟩ := hown.blk (by omega)
  have hf : ∀ x ∈ l, (cNode x).length = 9 := fun _ _ => rfl
  have hsp := drop_rows hf (k + 1)
  have hnews : ((l.drop (k + 1)).flatMap cNode).length = (n - (k + 1)) * 9 := by rw [flatMap_length (f := cNode) (s := 9) (fun _ _ => rfl), List.length_drop, hnl]
  have hsrc : ∀ (i : Nat) (v : Value), ((l.drop (k + 1)).flatMap cNode)[i]? = some v → (l.flatMap cNode ++ J)[(k + 1) * 9 + i]? = some v := by
    intro i v hj
    rw [← hsp, List.getElem?_drop] at hj
    rw [List.getElem?_append_left (List.getElem?_eq_some_iff.1 hj).1]
    exact hj
  have hone : ∀ v ∈ (l.drop (k + 1)).flatMap cNode, v.oneCell' = true := by intro v hv; obtain ⟨y, _, hy⟩ := List.mem_flatMap.1 hv; exact cNode_one y v hy
  have htake := take_rows2 hf (Nat.le_of_lt hk) J
  have hlen : (l.take k ++ l.drop (k + 1)).length = n - 1 := by rw [List.length_append, List.length_take, List.length_drop]; omega
  rw [show (k : Int) + 1 = ((k + 1 : Nat) : Int) from by omega]
  refine (delNode_core g n c k (k + 1) (n - (k + 1)) (n - 1) _ _ w hbk hnews hsrc hone hbl rfl (by omega) (by omega) hnc hc).mono ?_
  rintro e w' ⟨rfl, h⟩
  obtain ⟨cur', hb', hl', ht', hg'⟩ := h.out
  refine ⟨rfl, Lib.hid ⟨?_, hg'⟩⟩
  have hlt : ((l.take k).flatMap cNode).length = k * 9 := by rw [flatMap_length (f := cNode) (s := 9) (fun _ _ => rfl), List.length_take, Nat.min_eq_left (by omega)]
  have hpre : cur'.take ((n - 1) * 9) = (l.take k ++ l.drop (k + 1)).flatMap cNode := by
    rw [ht']
    unfold splice
    rw [htake, List.flatMap_append]
    have e : (n - 1) * 9 = ((l.take k).flatMap cNode ++ (l.drop (k + 1)).flatMap cNode).length := by rw [List.length_append, hlt, hnews]; omega
    rw [e, ← List.append_assoc, List.take_left]
  have hcur : cur' = (l.take k ++ l.drop (k + 1)).flatMap cNode ++ cur'.drop ((n - 1) * 9) := by rw [← hpre, List.take_append_drop]
  have := Ow.of_blk (f := cNode) (s := 9) (B := B) (fun _ _ => rfl) hBg hb' hcur (by rw [hl']; exact hbl) (by rw [hlen]; omega) hcm
  rw [hlen] at this
  exact this
end Go.Proofs.YtchgpijfebilbaaGreatDoor

/- Regions that draw their order, whose operations read, and whose calls leave the memory as it was but for what they made anew: the lexical walk serves every order. -/
namespace Go.Proofs.YtchgpijfebilbaaGreatDoor
open Go.RowKit
structure Grn where
  ext : Array Obj
  d : Nat
instance : Nonempty Grn := ⟨⟨#[], 0⟩⟩
theorem grow_nil (W : World) (d : Nat) : grow W #[] d = { W with drawn := d } := by simp [grow]
theorem wp_region_grow {P : Program} {id : Nat} {Q : Exit → Act → World → Prop} {a : Act} {w : World} {l : List Oper} (hm : P.follows .mixedOrders = true) (hB : Region.lexB .any l.toArray = true)
    (h : wpQuiet P l.toArray (fun w' => ∃ p : Grn, w' = grow w p.ext p.d) (fun a' => ∀ w', (∃ p : Grn, w' = grow w p.ext p.d) → Q .normal a' w') l a) : (Code.region id l.toArray true).wp P Q a w :=
  wp_region_quiet (C := fun w' => ∃ p : Grn, w' = grow w p.ext p.d) hm hB ⟨⟨#[], w.drawn + 1⟩, (grow_nil w _).symm⟩ (by simpa using h)
theorem Calls.grow_of {P : Program} {f : FuncId} {args : Array Value} {w : World} {p : Grn} {v : Value}
    (h : Calls P f args (grow w p.ext p.d) fun e w' => e = .returned v ∧ Below (grow w p.ext p.d).heap.size (grow w p.ext p.d) w') : Calls P f args (grow w p.ext p.d) fun e w'' => e = .returned v ∧ ∃ p : Grn, w'' = grow w p.ext p.d :=
  h.mono fun _ _ ⟨he, hb⟩ => ⟨he, by
    obtain ⟨ext, d, h⟩ := Below.grown_eq w (Below.own (Below.grow w p.ext p.d (Below.refl _ _) (Nat.le_refl _)) hb)
    exact ⟨⟨ext, d⟩, h⟩⟩
/-! a cut inside such a walk: the scratch slots from lo on are forgotten, but for the last of them, that holds a Bool -/
def junk : Nat → Nat → (Nat → Value) → List Value
  | 0, _, _ => []
  | n + 1, i, m => m i :: junk n (i + 1) m
theorem junk_get (m : Nat → Value) : ∀ (n i k : Nat), (junk n i m)[k]? = if k < n then some (m (i + k)) else none
  | 0, i, k => by simp [junk]
  | n + 1, i, 0 => by simp [junk]
  | n + 1, i, k + 1 => by
    unfold junk
    rw [List.getElem?_cons_succ, junk_get m n (i + 1) k]
    by_cases h : k < n
    · rw [if_pos h, if_pos (by omega), show i + 1 + k = i + (k + 1) from by omega]
    · rw [if_neg h, if_neg (by omega)]
theorem junk_of (l : List Value) : junk l.length 0 (fun i => l.getD i undef) = l := by
  apply List.ext_getElem?
  intro k
  rw [junk_get]
  by_cases h : k < l.length
  · rw [if_pos h, Nat.zero_add, List.getD_eq_getElem?_getD, List.getElem?_eq_getElem h]
    rfl
  · rw [if_neg h, List.getElem?_eq_none (by omega)]
theorem act_of {a' : Act} {L : List Value} {ds : List Deferred} {lo len : Nat} {v : Value} (h0 : a'.defers = ds) (h1 : a'.tmps.toList.take lo = L.take lo) (h2 : a'.tmps.toList.drop (lo + len + 1) = L.drop (lo + len + 1)) (h3 : a'.tmps.toList[lo + len]? = some v) :
    ∃ m, a' = ⟨(L.take lo ++ (junk len 0 m ++ v :: L.drop (lo + len + 1))).toArray, ds⟩ := by
  have hlt := (List.getElem?_eq_some_iff.1 h3).1
  refine ⟨fun i => ((a'.tmps.toList.drop lo).take len).getD i undef, ?_⟩
  have hj := junk_of ((a'.tmps.toList.drop lo).take len)
  rw [List.length_take, List.length_drop, Nat.min_eq_left (by omega)] at hj
  rw [hj, ← h1, ← h2]
  have e1 : v :: a'.tmps.toList.drop (lo + len + 1) = a'.tmps.toList.drop (lo + len) := by
    rw [List.drop_eq_getElem_cons hlt]
    congr 1
    rw [List.getElem?_eq_getElem hlt] at h3
    injection h3 with h3
    exact h3.symm
  have e2 : (a'.tmps.toList.drop lo).take len ++ a'.tmps.toList.drop (lo + len) = a'.tmps.toList.drop lo := by
    rw [← List.drop_drop, List.take_append_drop]
  rw [e1, e2, List.take_append_drop]
  cases a'
  subst h0
  simp
section
variable {P : Program} {ops : Array Oper} {C : World → Prop}
theorem wpQuiet_two {Q R : Act → Prop} : ∀ (l1 l2 : List Oper) (a : Act), wpQuiet P ops C R l1 a → (∀ a', R a' → wpQuiet P ops C Q l2 a') → wpQuiet P ops C Q (l1 ++ l2) a
  | [], l2, a, h1, h2 => h2 a h1
  | o :: l1, l2, a, h1, h2 => by
    rw [List.cons_append]
    unfold wpQuiet at h1 ⊢
    split
    · rename_i hw
      rw [if_pos hw] at h1
      exact Oper.quiet_mono (fun a h => wpQuiet_two l1 l2 a h h2) h1
    · rename_i hw
      rw [if_neg hw] at h1
      exact wpQuiet_two l1 l2 _ h1 h2
theorem wpQuiet_cut {Q : Act → Prop} {l : List Oper} {L : List Value} {ds : List Deferred} (n lo len : Nat) (v : Bool)
    (h1 : wpQuiet P ops C (fun a' => a'.defers = ds ∧ a'.tmps.toList.take lo = L.take lo ∧ a'.tmps.toList.drop (lo + len + 1) = L.drop (lo + len + 1) ∧ a'.tmps.toList[lo + len]? = some (.bool v)) (l.take n) ⟨L.toArray, ds⟩)
    (h2 : ∀ m b, Hid (v = b) → wpQuiet P ops C Q (l.drop n) ⟨(L.take lo ++ (junk len 0 m ++ .bool b :: L.drop (lo + len + 1))).toArray, ds⟩) : wpQuiet P ops C Q l ⟨L.toArray, ds⟩ := by
  rw [← List.take_append_drop n l]
  refine wpQuiet_two _ _ _ h1 (fun a' h => ?_)
  obtain ⟨m, e⟩ := act_of h.1 h.2.1 h.2.2.1 h.2.2.2
  rw [e]
  exact h2 m v (Lib.hid rfl)
end
end Go.Proofs.YtchgpijfebilbaaGreatDoor
