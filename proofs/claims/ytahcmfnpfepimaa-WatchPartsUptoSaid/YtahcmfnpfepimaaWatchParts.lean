/- The law WatchParts is true for every input; no conditions. -/
import Derived.Test.YtahcmfnpfepimaaWatchOnce
import Derived.Deep.CondSized
namespace Go.Proofs.Ytahcmfnpfepimaa
open Go.RowKit Go.ChangeShapes Go.WideShapes Go.ChangeAt
theorem fireS_append (l : List Watch) (a b : List Event) : fireS l (a ++ b) = ((fireS l a).1 ++ (fireS (fireS l a).2 b).1, (fireS (fireS l a).2 b).2) := by
  have : fireS l (a ++ b) = b.foldl (fun s e => (s.1 ++ notesOf e s.2, keptOf e s.2)) (fireS l a) := by unfold fireS; rw [List.foldl_append]
  rw [this, fireS_cons l]
/-! ### lengths out of the bulk -/
theorem bulk_pos {H : Type} : ∀ d : DataW H, 1 ≤ Rows.uptoBulk d := by
  intro d
  cases d with
  | lit x => cases x <;> simp [Rows.uptoBulk]
  | nil => simp [Rows.uptoBulk]
  | ptr d => simp [Rows.uptoBulk]
  | slice a b => simp [Rows.uptoBulk]
  | agg p => simp [Rows.uptoBulk]
  | iface t d => simp [Rows.uptoBulk]
  | map e => simp [Rows.uptoBulk]
  | held h => simp [Rows.uptoBulk]
theorem bulk_len {H : Type} : ∀ l : List (DataW H), l.length ≤ Rows.uptoBulkAll l
  | [] => by simp
  | d :: l => by
    have h1 := bulk_pos d
    have h2 := bulk_len l
    rw [List.length_cons, Rows.uptoBulkAll]
    omega
theorem bulk_mem {H : Type} {d : DataW H} : ∀ {l : List (DataW H)}, d ∈ l → Rows.uptoBulk d ≤ Rows.uptoBulkAll l
  | x :: l, h => by
    rw [Rows.uptoBulkAll]
    rcases List.mem_cons.1 h with rfl | h
    · omega
    · have := bulk_mem h
      omega
theorem upto_len {H : Type} {ds : List (DataW H)} {d : DataW H} {els sp : List (DataW H)} {N : Nat} (hm : d ∈ ds) (hk : Rows.uptoBulkAll ds ≤ N) (hd : d = .slice els sp) : els.length ≤ N := by
  subst hd
  have h1 := bulk_mem hm
  have h2 := bulk_len els
  rw [Rows.uptoBulk] at h1
  omega
set_option maxHeartbeats 4000000 in
theorem watchParts_ok (v v2 v3 : Value) (l : List Watch) (a b : List Event) (w : World) (h : Sl cWatch 3 w v l) (h2 : Sl cEvent 2 w v2 a) (h3 : Sl cEvent 2 w v3 b) (hn : (l.length + 1) * 32 ≤ 140737488355328) (hm : (a.length + b.length) * 24 ≤ 140737488355328) :
    Calls Try.prog 10 #[v, v2, v3] w fun e w' => e = .returned (.bool true) ∧ Below w.heap.size w w' := by
  obtain ⟨A, c, rfl, hc1, hc2⟩ := h.form
  obtain ⟨A2, c2, rfl, hc3, hc4⟩ := h2.form
  obtain ⟨A3, c3, rfl, hc5, hc6⟩ := h3.form
  have H := Lib.hid h
  have H2 := Lib.hid h2
  have H3 := Lib.hid h3
  have ha24 : a.length * 24 ≤ 140737488355328 := Nat.le_trans (Nat.mul_le_mul_right 24 (Nat.le_add_right _ _)) hm
  have hb24 : b.length * 24 ≤ 140737488355328 := Nat.le_trans (Nat.mul_le_mul_right 24 (Nat.le_add_left _ _)) hm
  have hab1 : a.length + b.length ≤ 140737488355328 := Nat.le_trans (Nat.le_mul_of_pos_right _ (by decide)) hm
  have HM := Lib.hid hm
  clear hm
  have hab : (a ++ b).length = a.length + b.length := List.length_append
  have hlen := fireS_len l a
  have HF1 := Lib.hid (fun (W : World) (v v2 : Value) (h : Sl cWatch 3 W v l) (h2 : Sl cEvent 2 W v2 (a ++ b)) => fire_is v v2 l (a ++ b) W h h2 hn (by rw [hab]; exact hab1))
  have HF2 := Lib.hid (fun (W : World) (v v2 : Value) (h : Sl cWatch 3 W v l) (h2 : Sl cEvent 2 W v2 a) => fire_is v v2 l a W h h2 hn (by omega))
  have HF3 := Lib.hid (fun (W : World) (v v2 : Value) (h : Sl cWatch 3 W v (fireS l a).2) (h2 : Sl cEvent 2 W v2 b) => fire_is v v2 (fireS l a).2 b W h h2 (Nat.le_trans (Nat.mul_le_mul_right 32 (by omega)) hn) (by omega))
  have hlen2 := fireS_len (fireS l a).2 b
  unfold FireIs at HF1 HF2 HF3
  rw [fireS_append] at HF1
  simp only at HF1
  generalize (fireS (fireS l a).2 b).1 = NY at *
  generalize (fireS (fireS l a).2 b).2 = M at *
  generalize (fireS l a).1 = NX at *
  generalize (fireS l a).2 = L at *
  clear h h2 h3
  have hl2 : l.length * 32 ≤ 140737488355328 := Nat.le_trans (Nat.mul_le_mul_right 32 (by omega)) hn
  go_enter Try.func10, Try.ntmps10
  go_wp2_with fail
  refine (kept_is _ l _ H.out hl2).mono ?_
  rintro e w1 ⟨A1, c1, rfl, ho1, hb1⟩
  obtain ⟨ext, d, rfl⟩ := Below.grown_eq w hb1
  have HK := Lib.hid ho1.sl
  clear hb1 ho1
  go_wp2_with (first | (at_builtin; refine wpList_app _ rfl (.const (.slice none 0 0)) (.tmp 16) _ rfl elEvent (B := w.heap.size + ext.size) (m := a) rfl rfl (Ow.nil _ _ _ _ _) (H2.out.below (by repeat (first | exact Below.refl _ _ | assumption | refine Below.drew ?_ | refine Below.drewN' ?_ _ | refine below_grow0 _ _ ?_ | refine below_alloc0 _ ?_ | refine Below.alloc ?_ (by first | omega | (simp; done) | (simp; omega)) _ | refine Below.setCell ?_ (by first | omega | (simp; done) | (simp; omega)) _ | refine Below.grow _ _ _ ?_ (by first | omega | (simp; done) | (simp; omega))))) cEvent_one (by simp [maxLen]; omega) (by simp; omega) (by simp <;> omega) ?_; intro v3 w3 hown3 hg3 _; rw [List.nil_append] at hown3; obtain ⟨A3, c3, rfl, _⟩ := hown3.form; have HG3 := Lib.hid (Below.of_grown hg3); have HOE3 := Lib.hid hown3; obtain ⟨ext3, d3, rfl⟩ := Below.grown_eq w (Below.own (by repeat (first | exact Below.refl _ _ | assumption | refine Below.drew ?_ | refine Below.drewN' ?_ _ | refine below_grow0 _ _ ?_ | refine below_alloc0 _ ?_ | refine Below.alloc ?_ (by first | omega | (simp; done) | (simp; omega)) _ | refine Below.setCell ?_ (by first | omega | (simp; done) | (simp; omega)) _ | refine Below.grow _ _ _ ?_ (by first | omega | (simp; done) | (simp; omega)))) HG3.out); clear hown3 hg3) | (at_builtin; refine wpList_app _ rfl (.tmp 17) (.tmp 18) _ rfl elEvent (B := w.heap.size + ext.size) (l := a) (m := b) rfl rfl HOE3.out (H3.out.below (by repeat (first | exact Below.refl _ _ | assumption | refine Below.drew ?_ | refine Below.drewN' ?_ _ | refine below_grow0 _ _ ?_ | refine below_alloc0 _ ?_ | refine Below.alloc ?_ (by first | omega | (simp; done) | (simp; omega)) _ | refine Below.setCell ?_ (by first | omega | (simp; done) | (simp; omega)) _ | refine Below.grow _ _ _ ?_ (by first | omega | (simp; done) | (simp; omega))))) cEvent_one (by simp [maxLen]; omega) (by simpa using HM.out) (by have := HG3.out.size; simp at this ⊢; omega) ?_; intro v4 w4 hown4 hg4 _; obtain ⟨A4, c4, rfl, _⟩ := hown4.form; have HG4 : Hid (World.grownBy _ w4 (Value.slice A3 a.length c3).ownBlock) := Lib.hid hg4; have HOE4 := Lib.hid hown4; clear hown4 hg4))
  have hb34 : Below (grow w ext d).heap.size (grow w ext d) w4 := Below.grown HG3.out HG4.out HG3.out.size (fun g hg => by have := (Ow.own_in HOE3.out hg).1; simpa using this)
  have HE4 : Hid (Sl cEvent 2 w4 (.slice A4 (a.length + b.length) c4) (a ++ b)) := Lib.hid (by have := HOE4.out.sl; rwa [List.length_append] at this)
  have HK4 := Lib.hid (HK.out.below hb34)
  obtain ⟨ext4, d4, rfl⟩ := Below.grown_eq w (Below.own (by repeat (first | exact Below.refl _ _ | assumption | refine Below.drew ?_ | refine Below.drewN' ?_ _ | refine below_grow0 _ _ ?_ | refine below_alloc0 _ ?_ | refine Below.alloc ?_ (by first | omega | (simp; done) | (simp; omega)) _ | refine Below.setCell ?_ (by first | omega | (simp; done) | (simp; omega)) _ | refine Below.grow _ _ _ ?_ (by first | omega | (simp; done) | (simp; omega)))) hb34)
  clear hb34 HG4 HOE4 HOE3 HG3 HK
  refine (HF1.out _ _ _ HK4.out HE4.out).mono ?_
  rintro e w5 ⟨An, cn, Al, rfl, hon, hsl, hb5⟩
  obtain ⟨ext5, d5, rfl⟩ := Below.grown_eq w (Below.own (by repeat (first | exact Below.refl _ _ | assumption | refine Below.drew ?_ | refine Below.drewN' ?_ _ | refine below_grow0 _ _ ?_ | refine below_alloc0 _ ?_ | refine Below.alloc ?_ (by first | omega | (simp; done) | (simp; omega)) _ | refine Below.setCell ?_ (by first | omega | (simp; done) | (simp; omega)) _ | refine Below.grow _ _ _ ?_ (by first | omega | (simp; done) | (simp; omega)))) hb5)
  have HN := Lib.hid hon.sl
  have HL := Lib.hid hsl
  clear hb5 hon hsl HK4 HE4
  go_wp2_with fail
  refine (kept_is _ l _ (H.out.below (by repeat (first | exact Below.refl _ _ | assumption | refine Below.drew ?_ | refine Below.drewN' ?_ _ | refine below_grow0 _ _ ?_ | refine below_alloc0 _ ?_ | refine Below.alloc ?_ (by first | omega | (simp; done) | (simp; omega)) _ | refine Below.setCell ?_ (by first | omega | (simp; done) | (simp; omega)) _ | refine Below.grow _ _ _ ?_ (by first | omega | (simp; done) | (simp; omega))))) hl2).mono ?_
  rintro e w6 ⟨A6, c6, rfl, ho6, hb6⟩
  have HN6 := Lib.hid (HN.out.below hb6)
  have HL6 := Lib.hid (HL.out.below hb6)
  obtain ⟨ext6, d6, rfl⟩ := Below.grown_eq w (Below.own (by repeat (first | exact Below.refl _ _ | assumption | refine Below.drew ?_ | refine Below.drewN' ?_ _ | refine below_grow0 _ _ ?_ | refine below_alloc0 _ ?_ | refine Below.alloc ?_ (by first | omega | (simp; done) | (simp; omega)) _ | refine Below.setCell ?_ (by first | omega | (simp; done) | (simp; omega)) _ | refine Below.grow _ _ _ ?_ (by first | omega | (simp; done) | (simp; omega)))) hb6)
  have HK := Lib.hid ho6.sl
  clear hb6 ho6 HN HL
  go_wp2_with (at_builtin; refine wpList_app _ rfl (.const (.slice none 0 0)) (.tmp 26) _ rfl elEvent (B := w.heap.size) (m := a) rfl rfl (Ow.nil _ _ _ _ _) (H2.out.below (by repeat (first | exact Below.refl _ _ | assumption | refine Below.drew ?_ | refine Below.drewN' ?_ _ | refine below_grow0 _ _ ?_ | refine below_alloc0 _ ?_ | refine Below.alloc ?_ (by first | omega | (simp; done) | (simp; omega)) _ | refine Below.setCell ?_ (by first | omega | (simp; done) | (simp; omega)) _ | refine Below.grow _ _ _ ?_ (by first | omega | (simp; done) | (simp; omega))))) cEvent_one (by simp [maxLen]; omega) (by simp; omega) (by simp <;> omega) ?_; intro v7 w7 hown7 hg7 _; rw [List.nil_append] at hown7; obtain ⟨A7, c7, rfl, _⟩ := hown7.form; have HG7 := Lib.hid (Below.of_grown hg7); have HOE7 := Lib.hid hown7; obtain ⟨ext7, d7, rfl⟩ := Below.grown_eq w (Below.own (by repeat (first | exact Below.refl _ _ | assumption | refine Below.drew ?_ | refine Below.drewN' ?_ _ | refine below_grow0 _ _ ?_ | refine below_alloc0 _ ?_ | refine Below.alloc ?_ (by first | omega | (simp; done) | (simp; omega)) _ | refine Below.setCell ?_ (by first | omega | (simp; done) | (simp; omega)) _ | refine Below.grow _ _ _ ?_ (by first | omega | (simp; done) | (simp; omega)))) HG7.out); clear hown7 hg7)
  have HK7 := Lib.hid (HK.out.below HG7.out)
  have HN7 := Lib.hid (HN6.out.below HG7.out)
  have HL7 := Lib.hid (HL6.out.below HG7.out)
  have HE7 := Lib.hid HOE7.out.sl
  clear HK HN6 HL6 HOE7 HG7
  refine (HF2.out _ _ _ HK7.out HE7.out).mono ?_
  rintro e w8 ⟨Ax, cx, Am, rfl, hon, hsl, hb8⟩
  have HX := Lib.hid hon.sl
  have HM8 := Lib.hid hsl
  have HN8 := Lib.hid (HN7.out.below hb8)
  have HL8 := Lib.hid (HL7.out.below hb8)
  obtain ⟨ext8, d8, rfl⟩ := Below.grown_eq w (Below.own (by repeat (first | exact Below.refl _ _ | assumption | refine Below.drew ?_ | refine Below.drewN' ?_ _ | refine below_grow0 _ _ ?_ | refine below_alloc0 _ ?_ | refine Below.alloc ?_ (by first | omega | (simp; done) | (simp; omega)) _ | refine Below.setCell ?_ (by first | omega | (simp; done) | (simp; omega)) _ | refine Below.grow _ _ _ ?_ (by first | omega | (simp; done) | (simp; omega)))) hb8)
  clear hb8 hon hsl HK7 HE7 HN7 HL7
  go_wp2_with (at_builtin; refine wpList_app _ rfl (.const (.slice none 0 0)) (.tmp 33) _ rfl elEvent (B := w.heap.size) (m := b) rfl rfl (Ow.nil _ _ _ _ _) (H3.out.below (by repeat (first | exact Below.refl _ _ | assumption | refine Below.drew ?_ | refine Below.drewN' ?_ _ | refine below_grow0 _ _ ?_ | refine below_alloc0 _ ?_ | refine Below.alloc ?_ (by first | omega | (simp; done) | (simp; omega)) _ | refine Below.setCell ?_ (by first | omega | (simp; done) | (simp; omega)) _ | refine Below.grow _ _ _ ?_ (by first | omega | (simp; done) | (simp; omega))))) cEvent_one (by simp [maxLen]; omega) (by simp; omega) (by simp <;> omega) ?_; intro v9 w9 hown9 hg9 _; rw [List.nil_append] at hown9; obtain ⟨A9, c9, rfl, _⟩ := hown9.form; have HG9 := Lib.hid (Below.of_grown hg9); have HOE9 := Lib.hid hown9; obtain ⟨ext9, d9, rfl⟩ := Below.grown_eq w (Below.own (by repeat (first | exact Below.refl _ _ | assumption | refine Below.drew ?_ | refine Below.drewN' ?_ _ | refine below_grow0 _ _ ?_ | refine below_alloc0 _ ?_ | refine Below.alloc ?_ (by first | omega | (simp; done) | (simp; omega)) _ | refine Below.setCell ?_ (by first | omega | (simp; done) | (simp; omega)) _ | refine Below.grow _ _ _ ?_ (by first | omega | (simp; done) | (simp; omega)))) HG9.out); clear hown9 hg9)
  have HX9 := Lib.hid (HX.out.below HG9.out)
  have HM9 := Lib.hid (HM8.out.below HG9.out)
  have HN9 := Lib.hid (HN8.out.below HG9.out)
  have HL9 := Lib.hid (HL8.out.below HG9.out)
  have HE9 := Lib.hid HOE9.out.sl
  clear HX HM8 HN8 HL8 HOE9 HG9
  refine (HF3.out _ _ _ HM9.out HE9.out).mono ?_
  rintro e wa ⟨Ay, cy, Am2, rfl, hon, hsl, hba⟩
  have HY := Lib.hid hon.sl
  have HMa := Lib.hid hsl
  have HXa := Lib.hid (HX9.out.below hba)
  have HNa := Lib.hid (HN9.out.below hba)
  have HLa := Lib.hid (HL9.out.below hba)
  obtain ⟨exta, da, rfl⟩ := Below.grown_eq w (Below.own (by repeat (first | exact Below.refl _ _ | assumption | refine Below.drew ?_ | refine Below.drewN' ?_ _ | refine below_grow0 _ _ ?_ | refine below_alloc0 _ ?_ | refine Below.alloc ?_ (by first | omega | (simp; done) | (simp; omega)) _ | refine Below.setCell ?_ (by first | omega | (simp; done) | (simp; omega)) _ | refine Below.grow _ _ _ ?_ (by first | omega | (simp; done) | (simp; omega)))) hba)
  clear hba hon hsl HX9 HM9 HN9 HL9 HE9
  go_wp2_with fail
  refine (tells_any _).mono ?_
  rintro e wb ⟨rfl, hbb⟩
  have HYb := Lib.hid (HY.out.below hbb)
  have HMb := Lib.hid (HMa.out.below hbb)
  have HXb := Lib.hid (HXa.out.below hbb)
  have HNb := Lib.hid (HNa.out.below hbb)
  have HLb := Lib.hid (HLa.out.below hbb)
  obtain ⟨extb, db, rfl⟩ := Below.grown_eq w (Below.own (by repeat (first | exact Below.refl _ _ | assumption | refine Below.drew ?_ | refine Below.drewN' ?_ _ | refine below_grow0 _ _ ?_ | refine below_alloc0 _ ?_ | refine Below.alloc ?_ (by first | omega | (simp; done) | (simp; omega)) _ | refine Below.setCell ?_ (by first | omega | (simp; done) | (simp; omega)) _ | refine Below.grow _ _ _ ?_ (by first | omega | (simp; done) | (simp; omega)))) hbb)
  clear hbb HY HMa HXa HNa HLa
  go_wp2_with fail
  refine (sameWatches_eq _ _ M _ HLb.out HMb.out (by omega)).mono ?_
  rintro e wc ⟨rfl, hbc⟩
  have HYc := Lib.hid (HYb.out.below hbc)
  have HXc := Lib.hid (HXb.out.below hbc)
  have HNc := Lib.hid (HNb.out.below hbc)
  obtain ⟨extc, dc, rfl⟩ := Below.grown_eq w (Below.own (by repeat (first | exact Below.refl _ _ | assumption | refine Below.drew ?_ | refine Below.drewN' ?_ _ | refine below_grow0 _ _ ?_ | refine below_alloc0 _ ?_ | refine Below.alloc ?_ (by first | omega | (simp; done) | (simp; omega)) _ | refine Below.setCell ?_ (by first | omega | (simp; done) | (simp; omega)) _ | refine Below.grow _ _ _ ?_ (by first | omega | (simp; done) | (simp; omega)))) hbc)
  clear hbc HYb HMb HXb HNb HLb
  have hxl : NX.length ≤ 140737488355328 := by omega
  have hyl : NY.length ≤ 140737488355328 := by omega
  go_wp2_with fail
  go_loopw [12] (fun i wr => ∃ (k : Nat), k ≤ NX.length + NY.length ∧ i = .int .i64 k ∧ Hid (Below (grow w extc dc).heap.size (grow w extc dc) wr)) (fun i _ => NX.length + NY.length - (intOf i).toNat)
  case atStart => exact ⟨0, Nat.zero_le _, rfl, Lib.hid (Below.refl _ _)⟩
  case round =>
    obtain ⟨k, hk, rfl, hbw⟩ := hrel
    by_cases hlt : k < NX.length + NY.length
    · by_cases hkx : k < NX.length
      · have hx : NX[k]? = some (NX[k]'hkx) := List.getElem?_eq_getElem _
        have hall : (NX ++ NY)[k]? = some (NX[k]'hkx) := by rw [List.getElem?_append_left hkx]; exact hx
        obtain ⟨b1, off1, rfl, _, x0, x1, x2⟩ := (HXc.out.below hbw.out).Note_at hx
        obtain ⟨b2, off2, rfl, _, y0, y1, y2⟩ := (HNc.out.below hbw.out).Note_at hall
        generalize NX[k]'hkx = x at *
        have hg1 : (decide (NX.length ≤ k)) = false := by simp; omega
        have hg2 : (decide ((NX.length : Int) ≤ (k : Int))) = false := by simp; omega
        have hg3 : (decide (k < NX.length)) = true := by simp; omega
        clear hx hall
        go_wp2_with fail
        go_quiet (fail)
        go_wp2_with fail
        go_roundw
        case rel => exact ⟨k + 1, by omega, by go_num, Lib.hid (Below.drewN' hbw.out _)⟩
        case measure => simp [intOf]; omega
      · obtain ⟨j, rfl⟩ : ∃ j, k = NX.length + j := ⟨k - NX.length, by omega⟩
        have hjy : j < NY.length := by omega
        have hx : NY[j]? = some (NY[j]'hjy) := List.getElem?_eq_getElem _
        have hall : (NX ++ NY)[NX.length + j]? = some (NY[j]'hjy) := by rw [List.getElem?_append_right (by omega), Nat.add_sub_cancel_left]; exact hx
        obtain ⟨b1, off1, rfl, _, x0, x1, x2⟩ := (HYc.out.below hbw.out).Note_at hx
        obtain ⟨b2, off2, rfl, _, y0, y1, y2⟩ := (HNc.out.below hbw.out).Note_at hall
        generalize NY[j]'hjy = x at *
        have hsub : (((NX.length + j : Nat) : Int) - (NX.length : Int)) = (j : Int) := by omega
        clear hx hall
        generalize hkk : NX.length + j = kk at *
        have hg1 : (decide (NX.length ≤ kk)) = true := by simp; omega
        have hg2 : (decide ((NX.length : Int) ≤ (kk : Int))) = true := by simp; omega
        have hg3 : (decide (kk < NX.length)) = false := by simp; omega
        clear hkk hkx
        go_wp2_with fail
        go_quiet (fail)
        go_wp2_with fail
        go_roundw
        case rel => exact ⟨kk + 1, by omega, by go_num, Lib.hid (Below.drewN' hbw.out _)⟩
        case measure => simp [intOf]; omega
    · have hbase : Below w.heap.size w wr := Below.own (show Below w.heap.size w (grow w extc dc) from (by repeat (first | exact Below.refl _ _ | assumption | refine Below.drew ?_ | refine Below.drewN' ?_ _ | refine below_grow0 _ _ ?_ | refine below_alloc0 _ ?_ | refine Below.alloc ?_ (by first | omega | (simp; done) | (simp; omega)) _ | refine Below.setCell ?_ (by first | omega | (simp; done) | (simp; omega)) _ | refine Below.grow _ _ _ ?_ (by first | omega | (simp; done) | (simp; omega))))) hbw.out
      have HBA := Lib.hid hbase
      clear hbase
      go_wp2_with fail
      go_ret
      exact ⟨rfl, HBA.out⟩
namespace watchPartsUpto
theorem own : ownKnob Try.prog.godebug = none := by kernel_rfl
theorem laidOut : laidOutB Try.prog = true := by kernel_rfl
set_option maxRecDepth 100000 in
set_option maxHeartbeats 1000000 in
theorem lifted (os : Os) (started : os.Started) (H : Type) (enc : TypeId × Value → H) (F : Stop.Interp) :
    ReturnsInHanded {} Try.checked os 10 .any ((Rows.OpenSpec.upto Rows.watchPartsSpec).pre6 enc Try.prog Try.f10 Rows.watchPartsUptoRow.domain false) (((Rows.OpenSpec.upto Rows.watchPartsSpec).at F).post enc Try.prog Try.f10 false true false false) := by
  refine returnsInHanded_of_cond_sized (C := Try.checked) (s := Rows.OpenSpec.upto Rows.watchPartsSpec) (k := Rows.uptoSmall) rfl own started (by kernel_rfl) Try.func10
    (OpenSpec.witness (enc := enc) (C := Try.checked) (s := Rows.OpenSpec.upto Rows.watchPartsSpec) (k := Rows.uptoSmall) rfl false ⟨#[], #[.slice none 0 0, .slice none 0 0, .slice none 0 0], []⟩ 8 (by kernel_rfl) (by kernel_rfl) (by kernel_rfl)
      (x := ([.nil, .nil, .nil], [], [])) (by kernel_rfl) rfl (by kernel_rfl)) ?_
  intro W base args ds gs before hval0 hW0 _ hk0 hsz0 _
  have hval : ∀ (j : Nat) t v, Try.f10.params[j]? = some t → args[j]? = some v → Value.okWide Try.prog W .any base t v := hval0
  have hW : DataW.Whole enc Try.prog Try.f10.params.toList Rows.watchPartsSpec.vars false W args.toList ds gs before := hW0
  have hlt : ∀ p ∈ before, p.block < W.heap.size := fun p hp => hW.lt p hp
  have hW1 := hW
  obtain ⟨p, q, hA0, hV, rfl, hfz, hnd⟩ := hW1
  have hA : DataW.TrodAll enc Try.prog W 0 (fun _ => true) true Try.f10.params.toList args.toList ds p := hA0
  obtain ⟨rfl, rfl⟩ := trodVars_none hV
  rw [Try.params10] at hA hval
  obtain ⟨v0, vs0, d0, ds0, p0, q0, hargs, rfl, rfl, h0, r0⟩ := trodAll_cons hA
  obtain ⟨v1, vs1, d1, ds1, p1, q1, rfl, rfl, rfl, h1, r1⟩ := trodAll_cons r0
  obtain ⟨v2, vs2, d2, ds2, p2, q2, rfl, rfl, rfl, h2, r2⟩ := trodAll_cons r1
  obtain ⟨rfl, rfl, rfl⟩ := trodAll_nil r2
  obtain rfl : args = #[v0, v1, v2] := by cases args; simp_all
  have hsz : (DataW.weightsEach Try.prog [54, 55, 55] [d0, d1, d2]).all (· ≤ reachBytes) = true := hsz0
  have hk : Rows.uptoBulkAll [d0, d1, d2] ≤ 1048576 := of_decide_eq_true hk0
  have close : ∀ e W', (e = Ending.returned (.bool true) ∧ Below W.heap.size W W') → ∃ v, e = .returned v ∧ Rows.watchPartsSpec.post enc Try.prog Try.f10 false true false false W #[v0, v1, v2] v W' :=
    fun e W' ⟨he, hb⟩ => ⟨_, he, law_post laidOut (of_decide_eq_true (by kernel_rfl)) rfl rfl Try.underlying4 hW rfl hb⟩
  clear hA0 hsz0 hval0 hW0 hA hV hW hfz hnd hk0
  obtain ⟨xs0, hr0, hf0, els0, sp0, he0⟩ := open_rows (ks := [.i .i64, .i .i64, .s]) 9 Try.underlying54 (by kernel_rfl) (hval 0 54 v0 rfl rfl) h0 (fun x hx => hlt x (by simp [hx])) (by decide)
  have rb0 : xs0.length * 32 ≤ 140737488351232 := by
    rcases he0 with ⟨_, rfl⟩ | ⟨hd, hl⟩
    · simp
    · rw [hd] at hsz
      have := sized_slice hsz (j := 0) rfl rfl Try.underlying54
      rw [show Try.prog.bytesOf 62 = 32 from by kernel_rfl] at this
      simp only [reachBytes] at this
      rw [hl] at this
      exact Nat.le_trans (Nat.mul_le_mul_right _ (Nat.le_add_right _ _)) this
  obtain ⟨xs1, hr1, hf1, els1, sp1, he1⟩ := open_rows (ks := [.i .i64, .s]) 9 Try.underlying55 (by kernel_rfl) (hval 1 55 v1 rfl rfl) h1 (fun x hx => hlt x (by simp [hx])) (by decide)
  have rb1 : xs1.length * 24 ≤ 140737488351232 := by
    rcases he1 with ⟨_, rfl⟩ | ⟨hd, hl⟩
    · simp
    · rw [hd] at hsz
      have := sized_slice hsz (j := 1) rfl rfl Try.underlying55
      rw [show Try.prog.bytesOf 64 = 24 from by kernel_rfl] at this
      simp only [reachBytes] at this
      rw [hl] at this
      exact Nat.le_trans (Nat.mul_le_mul_right _ (Nat.le_add_right _ _)) this
  obtain ⟨xs2, hr2, hf2, els2, sp2, he2⟩ := open_rows (ks := [.i .i64, .s]) 9 Try.underlying55 (by kernel_rfl) (hval 2 55 v2 rfl rfl) h2 (fun x hx => hlt x (by simp [hx])) (by decide)
  have rb2 : xs2.length * 24 ≤ 140737488351232 := by
    rcases he2 with ⟨_, rfl⟩ | ⟨hd, hl⟩
    · simp
    · rw [hd] at hsz
      have := sized_slice hsz (j := 2) rfl rfl Try.underlying55
      rw [show Try.prog.bytesOf 64 = 24 from by kernel_rfl] at this
      simp only [reachBytes] at this
      rw [hl] at this
      exact Nat.le_trans (Nat.mul_le_mul_right _ (Nat.le_add_right _ _)) this
  obtain ⟨l, rfl, _⟩ := typed (fun x hx => fitsWatch (hf0 x hx))
  have hs : Sl cWatch 3 W v0 l := hr0
  obtain ⟨a, rfl, _⟩ := typed (fun x hx => fitsEvent (hf1 x hx))
  have hs1 : Sl cEvent 2 W v1 a := hr1
  obtain ⟨b, rfl, _⟩ := typed (fun x hx => fitsEvent (hf2 x hx))
  have hs2 : Sl cEvent 2 W v2 b := hr2
  simp only [List.length_map] at rb0 rb1 rb2
  have hb1 : a.length ≤ 1048576 := by
    rcases he1 with ⟨_, h⟩ | ⟨hd, hl⟩
    · rw [List.map_eq_nil_iff.1 h]
      exact Nat.zero_le _
    · have h1 := upto_len (d := d1) (List.mem_cons_of_mem _ List.mem_cons_self) hk hd
      rw [hl, List.length_map] at h1
      exact h1
  have hb2 : b.length ≤ 1048576 := by
    rcases he2 with ⟨_, h⟩ | ⟨hd, hl⟩
    · rw [List.map_eq_nil_iff.1 h]
      exact Nat.zero_le _
    · have h1 := upto_len (d := d2) (List.mem_cons_of_mem _ (List.mem_cons_of_mem _ List.mem_cons_self)) hk hd
      rw [hl, List.length_map] at h1
      exact h1
  exact (watchParts_ok v0 v1 v2 l a b W hs hs1 hs2 (by omega) (by omega)).mono close
theorem proved : Rows.WatchPartsUptoSaid :=
  OpenClaim.holds_of_cond 10 Try.f10 rfl rfl rfl rfl rfl rfl rfl ⟨rfl, rfl, rfl, rfl, rfl⟩ rfl rfl rfl rfl rfl (by kernel_rfl) Try.func10 (by kernel_rfl)
    (of_decide_eq_true (by kernel_rfl)) (by unfold Func.isWrapper; first | (rw [if_pos (by decide +kernel)]; kernel_rfl) | (rw [if_neg (by decide +kernel)]; exact ⟨rfl, rfl⟩))
    (fun os started H enc _ F => lifted os started H enc F)
end watchPartsUpto
end Go.Proofs.Ytahcmfnpfepimaa
