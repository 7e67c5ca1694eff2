/- The law WatchAdded is true for every input; no conditions. -/
import Derived.Test.YtkogdnkifnhljaaDoorAdd
import Derived.Test.YtkogdnkifnhljaaDoorPathB
import Derived.Test.YtkogdnkifnhljaaDoorCards
import Derived.Test.YtkogdnkifnhljaaDoorTie
import Derived.Lay
import Derived.LaidMore
import Derived.SevenTiedAt
import Derived.Deep.RegionHeld3
namespace Go.Proofs.YtkogdnkifnhljaaDoor
open Go.RowKit Go.ChangeShapes Go.WideShapes Go.ChangeAt
theorem Sl.pre {α : Type} {f : α → List Value} {s : Nat} {w : World} {A : Option Addr} {n c : Nat} {l m : List α} (h : Sl f s w (.slice A n c) m) (hp : l <+: m) : Sl f s w (.slice A l.length c) l := by
  obtain ⟨t, rfl⟩ := hp
  obtain ⟨A', c', he, h1, h2, h3, h4⟩ := h
  injection he with e1 e2 e3
  subst e1; subst e3
  refine ⟨A, c, by simp, by simp at h1 ⊢; omega, h2, fun x hx => h3 x (by rw [List.map_append]; exact List.mem_append_left _ hx), fun hpos => ?_⟩
  obtain ⟨b, off, r1, r2, r3⟩ := h4 (by simp at hpos ⊢; omega)
  refine ⟨b, off, r1, r2, fun i x hx j u hu => r3 i x ?_ j u hu⟩
  rw [List.map_append, List.getElem?_append_left (List.getElem?_eq_some_iff.1 hx).1, hx]
theorem hasW_take {l : List Watch} {x y : Watch} {k : Nat} (h : l[k]? = some y) : hasW (l.take (k + 1)) x = (hasW (l.take k) x || sameW x y) := by
  unfold hasW
  rw [List.take_add_one, h, List.any_append]
  simp
theorem sameW_comm (x y : Watch) : sameW x y = sameW y x := by
  cases h : sameW x y with
  | true => rw [sameW_iff.1 h, sameW_iff.2 rfl]
  | false =>
    cases k : sameW y x with
    | false => rfl
    | true => rw [sameW_iff.1 k, sameW_iff.2 rfl] at h; cases h
set_option maxHeartbeats 2000000 in
theorem watchAdded_no (v : Value) (l : List Watch) (x : Watch) (w : World) (h : Sl cWatch 3 w v l) (hn : (l.length + 2) * 32 ≤ 140737488355328) (hp : x.path.size ≤ 9223372036854775807) (he : addE l x ≠ 0) :
    Calls Tryd.prog 6 #[v, .agg #[.int .i64 x.session, .int .i64 x.kind, .string x.path]] w fun e w' => e = .returned (.bool true) ∧ Below w.heap.size w w' := by
  obtain ⟨A, c, rfl, hc1, hc2⟩ := h.form
  have H := Lib.hid h
  have HK := Lib.hid (fun (W : World) (v : Value) (h : Sl cWatch 3 W v l) => kept_is v l W h (by omega))
  have HA := Lib.hid (fun (W : World) (v : Value) (h : Sl cWatch 3 W v l) => by
    have h1 := add_any v l x W h (by omega) hp
    rw [addE_no he] at h1
    exact h1)
  have HT := Lib.hid tells_any
  generalize addE l x = code at *
  have hce : (code != 0) = true := by simpa using he
  clear h he
  go_enter Tryd.func6, Tryd.ntmps6
  go_wp2_with fail
  go_region_held3 (fun w' => w'.cell? ⟨w.heap.size, 0, none⟩ = some (.int .i64 x.session) ∧ w'.cell? ⟨w.heap.size, 1, none⟩ = some (.int .i64 x.kind) ∧ w'.cell? ⟨w.heap.size, 2, none⟩ = some (.string x.path)) (refine ⟨?_, ?_, ?_⟩ <;> go_simp) (first | (go_at_call 21; refine (HK.out _ _ (H.out.below (by repeat (first | exact Below.refl _ _ | assumption | refine Below.drew ?_ | refine Below.drewN' ?_ _ | refine below_grow0 _ _ ?_ | refine below_alloc0 _ ?_ | refine Below.alloc ?_ (by first | omega | (simp; done) | (simp; omega)) _ | refine Below.setCell ?_ (by first | omega | (simp; done) | (simp; omega)) _ | refine Below.grow _ _ _ ?_ (by first | omega | (simp; done) | (simp; omega)))))).mono ?_; rintro e w1 ⟨A1, c1, rfl, ho1, hb1⟩; obtain ⟨ext1, d1, rfl⟩ := Below.grown_eq _ hb1; have HO1 := Lib.hid ho1.sl; clear ho1 hb1) | (go_at_call 20; refine (HA.out _ _ (HO1.out.below (by repeat (first | exact Below.refl _ _ | assumption | refine Below.drew ?_ | refine Below.drewN' ?_ _ | refine below_grow0 _ _ ?_ | refine below_alloc0 _ ?_ | refine Below.alloc ?_ (by first | omega | (simp; done) | (simp; omega)) _ | refine Below.setCell ?_ (by first | omega | (simp; done) | (simp; omega)) _ | refine Below.grow _ _ _ ?_ (by first | omega | (simp; done) | (simp; omega)))))).mono ?_; rintro e w1 ⟨A2, c2, rfl, ho2, hb2⟩; obtain ⟨ext2, d2, rfl⟩ := Below.grown_eq _ hb2; clear ho2 hb2; simp only [List.length_nil]))
  all_goals
    go_wp2_with (first | (go_at_call 22; refine (HT.out _).mono ?_; rintro e w1 ⟨rfl, hb4⟩; obtain ⟨ext4, d4, rfl⟩ := Below.grown_eq _ hb4; clear hb4))
    go_ret
    exact ⟨rfl, (by repeat (first | exact Below.refl _ _ | assumption | refine Below.drew ?_ | refine Below.drewN' ?_ _ | refine below_grow0 _ _ ?_ | refine below_alloc0 _ ?_ | refine Below.alloc ?_ (by first | omega | (simp; done) | (simp; omega)) _ | refine Below.setCell ?_ (by first | omega | (simp; done) | (simp; omega)) _ | refine Below.grow _ _ _ ?_ (by first | omega | (simp; done) | (simp; omega))))⟩
set_option maxHeartbeats 4000000 in
theorem watchAdded_ok (v : Value) (l : List Watch) (x : Watch) (w : World) (h : Sl cWatch 3 w v l) (hn : (l.length + 2) * 32 ≤ 140737488355328) (hp : x.path.size ≤ 9223372036854775807) :
    Calls Tryd.prog 6 #[v, .agg #[.int .i64 x.session, .int .i64 x.kind, .string x.path]] w fun e w' => e = .returned (.bool true) ∧ Below w.heap.size w w' := by
  by_cases he : addE l x ≠ 0
  · exact watchAdded_no v l x w h hn hp he
  have he : addE l x = 0 := by simpa using he
  obtain ⟨A, c, rfl, hc1, hc2⟩ := h.form
  obtain ⟨g1, g2, g3, g4⟩ := addE_0 he
  have hal : (addL l x).length ≤ l.length + 1 := by
    unfold addL
    split
    · split
      · omega
      · split <;> simp
    · simp
  have hll := g2.length_le
  have H := Lib.hid h
  have HK := Lib.hid (fun (W : World) (v : Value) (h : Sl cWatch 3 W v l) => kept_is v l W h (by omega))
  have HA := Lib.hid (fun (W : World) (v : Value) (h : Sl cWatch 3 W v l) => by
    have h1 := add_any v l x W h (by omega) hp
    rw [he] at h1
    exact h1)
  have HK2 := Lib.hid (fun (W : World) (v : Value) (h : Sl cWatch 3 W v (addL l x)) => kept_is v _ W h (by omega))
  have HA2 := Lib.hid (fun (W : World) (v : Value) (h : Sl cWatch 3 W v (addL l x)) => by
    have h1 := add_any v _ x W h (Nat.le_trans (Nat.mul_le_mul_right 32 (show (addL l x).length + 1 ≤ l.length + 2 by omega)) hn) hp
    rw [g3, g4] at h1
    exact h1)
  have HM1 := Lib.hid (fun (W : World) (v v2 : Value) (h : Sl cWatch 3 W v (addL l x)) (h2 : Sl cWatch 3 W v2 (addL l x)) => sameWatches_eq v v2 _ W h h2 (by omega))
  have HM2 := Lib.hid (fun (W : World) (v v2 : Value) (h : Sl cWatch 3 W v l) (h2 : Sl cWatch 3 W v2 l) => sameWatches_eq v v2 _ W h h2 (by omega))
  have HT := Lib.hid tells_any
  have HIN := Lib.hid g1
  have HPR := Lib.hid g2
  clear he g1 g2 g3 g4
  generalize addL l x = a at *
  clear h
  go_enter Tryd.func6, Tryd.ntmps6
  go_wp2_with fail
  go_region_held3 (fun w' => w'.cell? ⟨w.heap.size, 0, none⟩ = some (.int .i64 x.session) ∧ w'.cell? ⟨w.heap.size, 1, none⟩ = some (.int .i64 x.kind) ∧ w'.cell? ⟨w.heap.size, 2, none⟩ = some (.string x.path)) (refine ⟨?_, ?_, ?_⟩ <;> go_simp) (first | (go_at_call 21; refine (HK.out _ _ (H.out.below (by repeat (first | exact Below.refl _ _ | assumption | refine Below.drew ?_ | refine Below.drewN' ?_ _ | refine below_grow0 _ _ ?_ | refine below_alloc0 _ ?_ | refine Below.alloc ?_ (by first | omega | (simp; done) | (simp; omega)) _ | refine Below.setCell ?_ (by first | omega | (simp; done) | (simp; omega)) _ | refine Below.grow _ _ _ ?_ (by first | omega | (simp; done) | (simp; omega)))))).mono ?_; rintro e w1 ⟨A1, c1, rfl, ho1, hb1⟩; obtain ⟨ext1, d1, rfl⟩ := Below.grown_eq _ hb1; have HO1 := Lib.hid ho1.sl; clear ho1 hb1) | (go_at_call 20; refine (HA.out _ _ (HO1.out.below (by repeat (first | exact Below.refl _ _ | assumption | refine Below.drew ?_ | refine Below.drewN' ?_ _ | refine below_grow0 _ _ ?_ | refine below_alloc0 _ ?_ | refine Below.alloc ?_ (by first | omega | (simp; done) | (simp; omega)) _ | refine Below.setCell ?_ (by first | omega | (simp; done) | (simp; omega)) _ | refine Below.grow _ _ _ ?_ (by first | omega | (simp; done) | (simp; omega)))))).mono ?_; rintro e w1 ⟨A2, c2, rfl, ho2, hb2⟩; obtain ⟨ext2, d2, rfl⟩ := Below.grown_eq _ hb2; have HO2 := Lib.hid ho2.sl; clear ho2 hb2))
  go_wp2_with (first | (go_at_call 22; refine (HT.out _).mono ?_; rintro e w1 ⟨rfl, hb4⟩; obtain ⟨ext4, d4, rfl⟩ := Below.grown_eq _ hb4; clear hb4))
  have j0 : (grow (grow (grow (w.alloc (.cells #[.int .i64 x.session, .int .i64 x.kind, .string x.path] 35)).drew ext1 d1) ext2 d2) ext4 d4).cell? ⟨w.heap.size, 0, none⟩ = some (.int .i64 x.session) := by go_simp
  have j1 : (grow (grow (grow (w.alloc (.cells #[.int .i64 x.session, .int .i64 x.kind, .string x.path] 35)).drew ext1 d1) ext2 d2) ext4 d4).cell? ⟨w.heap.size, 1, none⟩ = some (.int .i64 x.kind) := by go_simp
  have j2 : (grow (grow (grow (w.alloc (.cells #[.int .i64 x.session, .int .i64 x.kind, .string x.path] 35)).drew ext1 d1) ext2 d2) ext4 d4).cell? ⟨w.heap.size, 2, none⟩ = some (.string x.path) := by go_simp
  have hB0 : Below w.heap.size w (grow (grow (grow (w.alloc (.cells #[.int .i64 x.session, .int .i64 x.kind, .string x.path] 35)).drew ext1 d1) ext2 d2) ext4 d4) := (by repeat (first | exact Below.refl _ _ | assumption | refine Below.drew ?_ | refine Below.drewN' ?_ _ | refine below_grow0 _ _ ?_ | refine below_alloc0 _ ?_ | refine Below.alloc ?_ (by first | omega | (simp; done) | (simp; omega)) _ | refine Below.setCell ?_ (by first | omega | (simp; done) | (simp; omega)) _ | refine Below.grow _ _ _ ?_ (by first | omega | (simp; done) | (simp; omega))))
  have G0 := Lib.hid (show Sl cWatch 3 (grow (grow (grow (w.alloc (.cells #[.int .i64 x.session, .int .i64 x.kind, .string x.path] 35)).drew ext1 d1) ext2 d2) ext4 d4) (.slice A l.length c) l from H.out.below (by repeat (first | exact Below.refl _ _ | assumption | refine Below.drew ?_ | refine Below.drewN' ?_ _ | refine below_grow0 _ _ ?_ | refine below_alloc0 _ ?_ | refine Below.alloc ?_ (by first | omega | (simp; done) | (simp; omega)) _ | refine Below.setCell ?_ (by first | omega | (simp; done) | (simp; omega)) _ | refine Below.grow _ _ _ ?_ (by first | omega | (simp; done) | (simp; omega)))))
  have G2 := Lib.hid (show Sl cWatch 3 (grow (grow (grow (w.alloc (.cells #[.int .i64 x.session, .int .i64 x.kind, .string x.path] 35)).drew ext1 d1) ext2 d2) ext4 d4) (.slice A2 a.length c2) a from HO2.out.below (by repeat (first | exact Below.refl _ _ | assumption | refine Below.drew ?_ | refine Below.drewN' ?_ _ | refine below_grow0 _ _ ?_ | refine below_alloc0 _ ?_ | refine Below.alloc ?_ (by first | omega | (simp; done) | (simp; omega)) _ | refine Below.setCell ?_ (by first | omega | (simp; done) | (simp; omega)) _ | refine Below.grow _ _ _ ?_ (by first | omega | (simp; done) | (simp; omega)))))
  have hbs : w.heap.size < (grow (grow (grow (w.alloc (.cells #[.int .i64 x.session, .int .i64 x.kind, .string x.path] 35)).drew ext1 d1) ext2 d2) ext4 d4).heap.size := by simp <;> omega
  clear H HO1 HO2
  generalize (grow (grow (grow (w.alloc (.cells #[.int .i64 x.session, .int .i64 x.kind, .string x.path] 35)).drew ext1 d1) ext2 d2) ext4 d4) = W0 at *
  go_region_held3 (fun w' => w'.cell? ⟨w.heap.size, 0, none⟩ = some (.int .i64 x.session) ∧ w'.cell? ⟨w.heap.size, 1, none⟩ = some (.int .i64 x.kind) ∧ w'.cell? ⟨w.heap.size, 2, none⟩ = some (.string x.path)) (refine ⟨?_, ?_, ?_⟩ <;> go_simp) (first | (go_at_call 21; refine (HK2.out _ _ (G2.out.below (by repeat (first | exact Below.refl _ _ | assumption | refine Below.drew ?_ | refine Below.drewN' ?_ _ | refine below_grow0 _ _ ?_ | refine below_alloc0 _ ?_ | refine Below.alloc ?_ (by first | omega | (simp; done) | (simp; omega)) _ | refine Below.setCell ?_ (by first | omega | (simp; done) | (simp; omega)) _ | refine Below.grow _ _ _ ?_ (by first | omega | (simp; done) | (simp; omega)))))).mono ?_; rintro e w1 ⟨A3, c3, rfl, ho1, hb1⟩; obtain ⟨ext5, d5, rfl⟩ := Below.grown_eq _ hb1; have HO3 := Lib.hid ho1.sl; clear ho1 hb1) | (go_at_call 20; refine (HA2.out _ _ (HO3.out.below (by repeat (first | exact Below.refl _ _ | assumption | refine Below.drew ?_ | refine Below.drewN' ?_ _ | refine below_grow0 _ _ ?_ | refine below_alloc0 _ ?_ | refine Below.alloc ?_ (by first | omega | (simp; done) | (simp; omega)) _ | refine Below.setCell ?_ (by first | omega | (simp; done) | (simp; omega)) _ | refine Below.grow _ _ _ ?_ (by first | omega | (simp; done) | (simp; omega)))))).mono ?_; rintro e w1 ⟨A4, c4, rfl, ho2, hb2⟩; obtain ⟨ext6, d6, rfl⟩ := Below.grown_eq _ hb2; have HO4 := Lib.hid ho2.sl; clear ho2 hb2))
  have k0 : (grow (grow W0.drew ext5 d5) ext6 d6).cell? ⟨w.heap.size, 0, none⟩ = some (.int .i64 x.session) := by go_simp
  have k1 : (grow (grow W0.drew ext5 d5) ext6 d6).cell? ⟨w.heap.size, 1, none⟩ = some (.int .i64 x.kind) := by go_simp
  have k2 : (grow (grow W0.drew ext5 d5) ext6 d6).cell? ⟨w.heap.size, 2, none⟩ = some (.string x.path) := by go_simp
  have hB1 : Below w.heap.size w (grow (grow W0.drew ext5 d5) ext6 d6) := Below.own hB0 (by repeat (first | exact Below.refl _ _ | assumption | refine Below.drew ?_ | refine Below.drewN' ?_ _ | refine below_grow0 _ _ ?_ | refine below_alloc0 _ ?_ | refine Below.alloc ?_ (by first | omega | (simp; done) | (simp; omega)) _ | refine Below.setCell ?_ (by first | omega | (simp; done) | (simp; omega)) _ | refine Below.grow _ _ _ ?_ (by first | omega | (simp; done) | (simp; omega))))
  have K0 := Lib.hid (show Sl cWatch 3 (grow (grow W0.drew ext5 d5) ext6 d6) (.slice A l.length c) l from G0.out.below (by repeat (first | exact Below.refl _ _ | assumption | refine Below.drew ?_ | refine Below.drewN' ?_ _ | refine below_grow0 _ _ ?_ | refine below_alloc0 _ ?_ | refine Below.alloc ?_ (by first | omega | (simp; done) | (simp; omega)) _ | refine Below.setCell ?_ (by first | omega | (simp; done) | (simp; omega)) _ | refine Below.grow _ _ _ ?_ (by first | omega | (simp; done) | (simp; omega)))))
  have K2 := Lib.hid (show Sl cWatch 3 (grow (grow W0.drew ext5 d5) ext6 d6) (.slice A2 a.length c2) a from G2.out.below (by repeat (first | exact Below.refl _ _ | assumption | refine Below.drew ?_ | refine Below.drewN' ?_ _ | refine below_grow0 _ _ ?_ | refine below_alloc0 _ ?_ | refine Below.alloc ?_ (by first | omega | (simp; done) | (simp; omega)) _ | refine Below.setCell ?_ (by first | omega | (simp; done) | (simp; omega)) _ | refine Below.grow _ _ _ ?_ (by first | omega | (simp; done) | (simp; omega)))))
  rename_i hHeld
  clear G0 G2 HO3 j0 j1 j2 hB0 hHeld
  generalize (grow (grow W0.drew ext5 d5) ext6 d6) = V0 at *
  go_wp2_with fail
  go_loopw [9, 10] (fun tin i wr => ∃ (k : Nat) (ext : Array Obj) (d : Nat), k ≤ a.length ∧ tin = .bool (hasW (a.take k) x) ∧ i = .int .i64 k ∧ wr = grow V0 ext d) (fun _ i _ => a.length - (intOf i).toNat)
  case atStart => exact ⟨0, _, _, Nat.zero_le _, rfl, rfl, grown_of (by repeat (first | exact Below.refl _ _ | assumption | refine Below.drew ?_ | refine Below.drewN' ?_ _ | refine below_grow0 _ _ ?_ | refine below_alloc0 _ ?_ | refine Below.alloc ?_ (by first | omega | (simp; done) | (simp; omega)) _ | refine Below.setCell ?_ (by first | omega | (simp; done) | (simp; omega)) _ | refine Below.grow _ _ _ ?_ (by first | omega | (simp; done) | (simp; omega))))⟩
  case round =>
    obtain ⟨k, ext, d, hk, rfl, rfl, rfl⟩ := hrel
    by_cases hlt : k < a.length
    · have hx : a[k]? = some (a[k]'hlt) := List.getElem?_eq_getElem _
      have htk := hasW_take (x := x) hx
      obtain ⟨b, off, rfl, _, x0, x1, x2⟩ := K2.out.Watch_at hx
      generalize a[k]'hlt = y at *
      have qE := fun w => eql_watch y x w
      rw [sameW_comm x y] at htk
      generalize sameW y x = tb at *
      generalize hasW (a.take k) x = t0 at *
      have HTK := Lib.hid htk
      clear htk hx
      cases t0 with
      | true =>
        go_wp2_with fail
        go_quiet (fail)
        go_wp2_with fail
        go_roundw
        case rel => exact ⟨k + 1, _, _, by omega, by rw [HTK.out]; rfl, by go_num, grown_of (by repeat (first | exact Below.refl _ _ | assumption | refine Below.drew ?_ | refine Below.drewN' ?_ _ | refine below_grow0 _ _ ?_ | refine below_alloc0 _ ?_ | refine Below.alloc ?_ (by first | omega | (simp; done) | (simp; omega)) _ | refine Below.setCell ?_ (by first | omega | (simp; done) | (simp; omega)) _ | refine Below.grow _ _ _ ?_ (by first | omega | (simp; done) | (simp; omega))))⟩
        case measure => simp [intOf]; omega
      | false =>
        go_wp2_with fail
        go_quiet (fail)
        go_wp2_with fail
        go_roundw
        case rel => exact ⟨k + 1, _, _, by omega, by rw [HTK.out]; cases tb <;> rfl, by go_num, grown_of (by repeat (first | exact Below.refl _ _ | assumption | refine Below.drew ?_ | refine Below.drewN' ?_ _ | refine below_grow0 _ _ ?_ | refine below_alloc0 _ ?_ | refine Below.alloc ?_ (by first | omega | (simp; done) | (simp; omega)) _ | refine Below.setCell ?_ (by first | omega | (simp; done) | (simp; omega)) _ | refine Below.grow _ _ _ ?_ (by first | omega | (simp; done) | (simp; omega))))⟩
        case measure => simp [intOf]; omega
    · have hk' : k = a.length := by omega
      subst hk'
      rw [List.take_length, hasW_iff.2 HIN.out]
      have hge : (decide ((l.length : Int) ≤ (a.length : Int))) = true := decide_eq_true (by omega)
      have KP := Lib.hid (K2.out.pre HPR.out)
      obtain ⟨_, _, _, hc2l, hc2m⟩ := K2.out.form
      go_wp2_with (first | (go_at_call 23; refine (HM1.out _ _ _ (K2.out.below (by repeat (first | exact Below.refl _ _ | assumption | refine Below.drew ?_ | refine Below.drewN' ?_ _ | refine below_grow0 _ _ ?_ | refine below_alloc0 _ ?_ | refine Below.alloc ?_ (by first | omega | (simp; done) | (simp; omega)) _ | refine Below.setCell ?_ (by first | omega | (simp; done) | (simp; omega)) _ | refine Below.grow _ _ _ ?_ (by first | omega | (simp; done) | (simp; omega))))) (HO4.out.below (by repeat (first | exact Below.refl _ _ | assumption | refine Below.drew ?_ | refine Below.drewN' ?_ _ | refine below_grow0 _ _ ?_ | refine below_alloc0 _ ?_ | refine Below.alloc ?_ (by first | omega | (simp; done) | (simp; omega)) _ | refine Below.setCell ?_ (by first | omega | (simp; done) | (simp; omega)) _ | refine Below.grow _ _ _ ?_ (by first | omega | (simp; done) | (simp; omega)))))).mono ?_; rintro e w1 ⟨rfl, hb7⟩; obtain ⟨ext8, d8, rfl⟩ := Below.grown_eq _ hb7; clear hb7 HM1) | (go_at_call 23; refine (HM2.out _ _ _ (KP.out.below (by repeat (first | exact Below.refl _ _ | assumption | refine Below.drew ?_ | refine Below.drewN' ?_ _ | refine below_grow0 _ _ ?_ | refine below_alloc0 _ ?_ | refine Below.alloc ?_ (by first | omega | (simp; done) | (simp; omega)) _ | refine Below.setCell ?_ (by first | omega | (simp; done) | (simp; omega)) _ | refine Below.grow _ _ _ ?_ (by first | omega | (simp; done) | (simp; omega))))) (K0.out.below (by repeat (first | exact Below.refl _ _ | assumption | refine Below.drew ?_ | refine Below.drewN' ?_ _ | refine below_grow0 _ _ ?_ | refine below_alloc0 _ ?_ | refine Below.alloc ?_ (by first | omega | (simp; done) | (simp; omega)) _ | refine Below.setCell ?_ (by first | omega | (simp; done) | (simp; omega)) _ | refine Below.grow _ _ _ ?_ (by first | omega | (simp; done) | (simp; omega)))))).mono ?_; rintro e w1 ⟨rfl, hb7⟩; obtain ⟨ext9, d9, rfl⟩ := Below.grown_eq _ hb7; clear hb7 HM2))
      go_ret
      exact ⟨rfl, (by repeat (first | exact Below.refl _ _ | assumption | refine Below.drew ?_ | refine Below.drewN' ?_ _ | refine below_grow0 _ _ ?_ | refine below_alloc0 _ ?_ | refine Below.alloc ?_ (by first | omega | (simp; done) | (simp; omega)) _ | refine Below.setCell ?_ (by first | omega | (simp; done) | (simp; omega)) _ | refine Below.grow _ _ _ ?_ (by first | omega | (simp; done) | (simp; omega))))⟩
namespace watchAdded
theorem own : ownKnob Tryd.prog.godebug = none := by kernel_rfl
theorem laidOut : laidOutB Tryd.prog = true := by kernel_rfl
set_option maxRecDepth 100000 in
set_option maxHeartbeats 1000000 in
theorem lifted (os : Os) (started : os.Started) (H : Type) (enc : TypeId × Value → H) :
    ReturnsInHanded {} Tryd.checked os 6 .any (fun w args => (Rows.watchAddedSpec.pre enc Tryd.prog Tryd.f6 Rows.watchAddedRow.domain false w args ∧ laidMetH Tryd.prog Rows.watchAddedRow.laid w) ∧ sizedMet enc Tryd.prog Tryd.f6 (OpenSpec.ofChange Rows.watchAddedSpec) false w args) (Rows.watchAddedSpec.post enc Tryd.prog Tryd.f6 false true false false) := by
  refine returnsInHanded_of_change_and (C := Tryd.checked) (X := fun w _ => laidMetH Tryd.prog Rows.watchAddedRow.laid w) (fun _ _ _ hh h => h.of_heap hh) own started (by kernel_rfl) Tryd.func6
    (ChangeSpec.witness_shaped (enc := enc) (C := Tryd.checked) (os := os) (X := fun w _ => laidMetH Tryd.prog Rows.watchAddedRow.laid w) false (World.laidAll Tryd.prog os Rows.watchAddedRow.laid) #[.slice none 0 0, .agg #[.int .i64 0, .int .i64 0, .string ByteArray.empty]] 8 (World.laidAll_os _ _ _)
      (World.shaped_of_ZipB (by kernel_rfl) (by kernel_rfl)) (by kernel_rfl) (by kernel_rfl) (by kernel_rfl)
      (by rw [MakeChecks.laidMetH_plain _ _ _ (by kernel_rfl)]; exact laidMet_laidAll _ (by kernel_rfl) (by kernel_rfl))) ?_
  intro W base args ds gs before hval0 hW0 _ hsz0 hL _
  have hval : ∀ (j : Nat) t v, Tryd.f6.params[j]? = some t → args[j]? = some v → Value.okWide Tryd.prog W .any base t v := hval0
  have hW : DataW.Whole enc Tryd.prog Tryd.f6.params.toList Rows.watchAddedSpec.vars false W args.toList ds gs before := hW0
  have hlt : ∀ p ∈ before, p.block < W.heap.size := fun p hp => hW.lt p hp
  have hW1 := hW
  obtain ⟨p, q, hA0, hV, rfl, hfz, hnd⟩ := hW1
  have hA : DataW.TrodAll enc Tryd.prog W 0 (fun _ => true) true Tryd.f6.params.toList args.toList ds p := hA0
  obtain ⟨rfl, rfl⟩ := trodVars_none hV
  rw [Tryd.params6] at hA hval
  obtain ⟨v0, vs0, d0, ds0, p0, q0, hargs, rfl, rfl, h0, r0⟩ := trodAll_cons hA
  obtain ⟨v1, vs1, d1, ds1, p1, q1, rfl, rfl, rfl, h1, r1⟩ := trodAll_cons r0
  obtain ⟨rfl, rfl, rfl⟩ := trodAll_nil r1
  obtain rfl : args = #[v0, v1] := by cases args; simp_all
  have hsz : (DataW.weightsEach Tryd.prog [33, 35] [d0, d1]).all (· ≤ reachBytes) = true := hsz0
  have close : ∀ e W', (e = Ending.returned (.bool true) ∧ Below W.heap.size W W') → ∃ v, e = .returned v ∧ Rows.watchAddedSpec.post enc Tryd.prog Tryd.f6 false true false false W #[v0, v1] v W' :=
    fun e W' ⟨he, hb⟩ => ⟨_, he, law_post laidOut (of_decide_eq_true (by kernel_rfl)) rfl rfl Tryd.underlying4 hW rfl hb⟩
  clear hA0 hsz0 hval0 hW0 hA hV hW hfz hnd
  obtain ⟨xs0, hr0, hf0, els0, sp0, he0⟩ := open_rows (ks := [.i .i64, .i .i64, .s]) 9 Tryd.underlying33 (by kernel_rfl) (hval 0 33 v0 rfl rfl) h0 (fun x hx => hlt x (by simp [hx])) (by decide)
  have rb0 : xs0.length * 32 ≤ 140737488351232 := by
    rcases he0 with ⟨_, rfl⟩ | ⟨hd, hl⟩
    · simp
    · rw [hd] at hsz
      have := sized_slice hsz (j := 0) rfl rfl Tryd.underlying33
      rw [show Tryd.prog.bytesOf 35 = 32 from by kernel_rfl] at this
      simp only [reachBytes] at this
      rw [hl] at this
      exact Nat.le_trans (Nat.mul_le_mul_right _ (Nat.le_add_right _ _)) this
  obtain ⟨cs1, rfl, hf1⟩ := open_flat (ks := [.i .i64, .i .i64, .s]) 9 Tryd.underlying35 (by kernel_rfl) (hval 1 35 v1 rfl rfl) h1
  obtain ⟨l, rfl, _⟩ := typed (fun x hx => fitsWatch (hf0 x hx))
  have hs : Sl cWatch 3 W v0 l := hr0
  obtain ⟨x, hx, hxo⟩ := fitsWatch hf1
  subst hx
  simp only [List.length_map] at rb0
  have hxp : x.path.size ≤ 9223372036854775807 := by have := hxo.2.2; simpa [maxLen] using this
  exact (watchAdded_ok v0 l x W hs (by omega) hxp).mono close
theorem proved : Rows.WatchAddedSaid :=
  OpenClaim.holds_of_wide 6 Tryd.f6 rfl rfl rfl rfl rfl rfl rfl ⟨rfl, rfl, rfl, rfl, rfl⟩ rfl rfl rfl rfl rfl (by kernel_rfl) Tryd.func6 (by kernel_rfl)
    (of_decide_eq_true (by kernel_rfl)) (by unfold Func.isWrapper; first | (rw [if_pos (by decide +kernel)]; kernel_rfl) | (rw [if_neg (by decide +kernel)]; exact ⟨rfl, rfl⟩))
    (fun os started H enc _ => lifted os started H enc)
theorem card : Rows.WatchAddedCardSaid :=
  Claim7.holds_tied_plain_at .later [] Rows.watchAddedCard.laidKinds true Rows.watchAddedCard.stood.harness false
    proved (fun _ h => by cases h) (by kernel_rfl) (fun _ h => by cases h) watchAdded_row_tie rfl ⟨rfl, rfl⟩ (by kernel_rfl) rfl
    (fun f fn hf hfn => by
      obtain rfl : f = 6 := Option.some.inj ((show Tryd.prog.funcNamed "aviary/aviarykeep.WatchAdded" = some 6 by kernel_rfl).symm.trans hf) |>.symm
      obtain rfl : fn = Tryd.f6 := (Option.some.inj (Tryd.func6.symm.trans hfn)).symm
      exact ⟨by kernel_rfl, fun j t ht => by
        rw [Tryd.params6] at ht
        have hm : t ∈ [33, 35] := by simpa using Array.mem_of_getElem? ht
        have hall : ([33, 35].all fun u => !Tryd.prog.wantsStandIn u) = true := by kernel_rfl
        exact (show Tryd.prog.wantsStandIn t = false by simpa using List.all_eq_true.1 hall t hm)⟩)
    (by kernel_rfl)
end watchAdded
end Go.Proofs.YtkogdnkifnhljaaDoor