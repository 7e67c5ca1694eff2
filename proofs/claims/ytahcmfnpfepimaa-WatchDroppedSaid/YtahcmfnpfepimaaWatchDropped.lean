/- The law WatchDropped is true for every input; no conditions. -/
import Derived.Test.YtahcmfnpfepimaaWatch
namespace Go.Proofs.Ytahcmfnpfepimaa
open Go.RowKit Go.ChangeShapes Go.WideShapes Go.ChangeAt
def dropL (l : List Watch) (s : Int) : List Watch := l.filter (fun x => x.session != s)
theorem dropL_succ {l : List Watch} {s : Int} {k : Nat} {x : Watch} (h : l[k]? = some x) : dropL (l.take (k + 1)) s = if x.session = s then dropL (l.take k) s else dropL (l.take k) s ++ [x] := by
  unfold dropL
  rw [List.take_add_one, h, List.filter_append]
  by_cases hs : x.session = s <;> simp [hs]
theorem dropL_at {l : List Watch} {s : Int} {k : Nat} {x : Watch} (h : l[k]? = some x) (hs : x.session ≠ s) : (dropL l s)[(dropL (l.take k) s).length]? = some x := by
  have e : l = l.take k ++ x :: l.drop (k + 1) := by
    have hk : k < l.length := (List.getElem?_eq_some_iff.1 h).1
    have hx : l[k] = x := (List.getElem?_eq_some_iff.1 h).2
    rw [← hx, List.getElem_cons_drop, List.take_append_drop]
  have e2 : dropL l s = dropL (l.take k) s ++ x :: dropL (l.drop (k + 1)) s := by
    conv => lhs; rw [e]
    unfold dropL
    rw [List.filter_append, List.filter_cons, if_pos (by simpa using hs)]
  rw [e2, List.getElem?_append_right (Nat.le_refl _), Nat.sub_self]
  rfl
theorem dropL_again (l : List Watch) (s : Int) : dropL (dropL l s) s = dropL l s := by unfold dropL; simp
theorem dropL_len (l : List Watch) (s : Int) : (dropL l s).length ≤ l.length := List.length_filter_le _ _
set_option maxHeartbeats 1000000 in
theorem drop_is (v : Value) (l : List Watch) (s : Int) (w : World) (h : Sl cWatch 3 w v l) (hn : l.length * 32 ≤ 140737488355328) :
    Calls Try.prog 39 #[v, .int .i64 s] w (Owned cWatch 3 62 (dropL l s) w) := by
  obtain ⟨A, c, rfl, hc1, hc2⟩ := h.form
  have H := Lib.hid h
  clear h
  go_enter Try.func39, Try.ntmps39
  go_wp2_with fail
  go_loopw [5, 10] (fun o i wr => ∃ (k n : Nat) (A' : Option Addr) (c' : Nat) (ext : Array Obj) (d : Nat), k ≤ l.length ∧ i = .int .i64 k ∧ o = .slice A' n c' ∧ wr = grow w ext d ∧ Hid (n = (dropL (l.take k) s).length ∧ Ow cWatch 3 62 wr w.heap.size (.slice A' n c') (dropL (l.take k) s))) (fun _ i _ => l.length - (intOf i).toNat)
  case atStart => exact ⟨0, 0, none, 0, _, _, Nat.zero_le _, rfl, rfl, grown_of (by repeat (first | exact Below.refl _ _ | assumption | refine Below.drew ?_ | refine Below.drewN' ?_ _ | refine below_grow0 _ _ ?_ | refine below_alloc0 _ ?_ | refine Below.alloc ?_ (by first | omega | (simp; done) | (simp; omega)) _ | refine Below.setCell ?_ (by first | omega | (simp; done) | (simp; omega)) _ | refine Below.grow _ _ _ ?_ (by first | omega | (simp; done) | (simp; omega)))), Lib.hid ⟨rfl, Ow.nil _ _ _ _ _⟩⟩
  case round =>
    obtain ⟨k, n, A', c', ext, d, hk, rfl, rfl, rfl, ho⟩ := hrel
    by_cases hlt : k < l.length
    · have hx : l[k]? = some (l[k]'hlt) := List.getElem?_eq_getElem _
      obtain ⟨b, off, rfl, _, x0, x1, x2⟩ := H.out.Watch_at hx
      have HSU := Lib.hid (fun (s : Int) => dropL_succ (s := s) hx)
      have hlen := dropL_len (l.take k) s
      rw [List.length_take] at hlen
      have HLE := Lib.hid (show (dropL (l.take k) s).length ≤ k by omega)
      generalize l[k]'hlt = x at *
      generalize hL : dropL (l.take k) s = L at *
      have HL := Lib.hid hL
      clear hx hlen hL
      by_cases hs : x.session = s
      · go_wp2_with fail
        go_roundw
        case rel => exact ⟨k + 1, n, A', c', _, _, by omega, by go_num, rfl, grown_of (by repeat (first | exact Below.refl _ _ | assumption | refine Below.drew ?_ | refine Below.drewN' ?_ _ | refine below_grow0 _ _ ?_ | refine below_alloc0 _ ?_ | refine Below.alloc ?_ (by first | omega | (simp; done) | (simp; omega)) _ | refine Below.setCell ?_ (by first | omega | (simp; done) | (simp; omega)) _ | refine Below.grow _ _ _ ?_ (by first | omega | (simp; done) | (simp; omega)))), Lib.hid (by rw [HSU.out s, if_pos hs, HL.out]; exact ⟨ho.out.1, ho.out.2.below (by repeat (first | exact Below.refl _ _ | assumption | refine Below.drew ?_ | refine Below.drewN' ?_ _ | refine below_grow0 _ _ ?_ | refine below_alloc0 _ ?_ | refine Below.alloc ?_ (by first | omega | (simp; done) | (simp; omega)) _ | refine Below.setCell ?_ (by first | omega | (simp; done) | (simp; omega)) _ | refine Below.grow _ _ _ ?_ (by first | omega | (simp; done) | (simp; omega))))⟩)⟩
        case measure => simp [intOf]; omega
      · go_wp2_with (at_builtin; refine wpList_app _ rfl (.tmp 18) (.tmp 20) _ rfl elWatch (B := w.heap.size) (l := L) (m := [x]) rfl rfl (ho.out.2.below (by repeat (first | exact Below.refl _ _ | assumption | refine Below.drew ?_ | refine Below.drewN' ?_ _ | refine below_grow0 _ _ ?_ | refine below_alloc0 _ ?_ | refine Below.alloc ?_ (by first | omega | (simp; done) | (simp; omega)) _ | refine Below.setCell ?_ (by first | omega | (simp; done) | (simp; omega)) _ | refine Below.grow _ _ _ ?_ (by first | omega | (simp; done) | (simp; omega))))) (Sl.one_at cWatch 3 _ _ _ rfl _ rfl (by omega) (by simp)) cWatch_one (by have := HLE.out; simp [maxLen]; omega) (by have := HLE.out; simp; omega) (by simp <;> omega) ?_; intro v2 w2 hown2 hg2 hat2; obtain ⟨A2, c2, rfl, _⟩ := hown2.form; have HO2 := Lib.hid hown2; have HG2 : Hid (World.grownBy _ w2 (Value.slice A' n c').ownBlock) := Lib.hid hg2; clear hown2 hg2 hat2)
        have hwb : Below w.heap.size w w2 := Below.grown (by repeat (first | exact Below.refl _ _ | assumption | refine Below.drew ?_ | refine Below.drewN' ?_ _ | refine below_grow0 _ _ ?_ | refine below_alloc0 _ ?_ | refine Below.alloc ?_ (by first | omega | (simp; done) | (simp; omega)) _ | refine Below.setCell ?_ (by first | omega | (simp; done) | (simp; omega)) _ | refine Below.grow _ _ _ ?_ (by first | omega | (simp; done) | (simp; omega)))) HG2.out (by simp; omega) (fun g hg => (Ow.own_in ho.out.2 hg).1)
        go_roundw
        case rel => exact ⟨k + 1, (L ++ [x]).length, A2, c2, _, _, by omega, by go_num, by simp, grown_of hwb, Lib.hid (by rw [HSU.out s, if_neg hs, HL.out]; exact ⟨rfl, HO2.out⟩)⟩
        case measure => simp [intOf]; omega
    · have hk' : k = l.length := by omega
      subst hk'
      rw [List.take_length] at ho
      obtain rfl := ho.out.1
      go_wp2_with fail
      refine bodyPost_ret (v := .slice A' (dropL l s).length c') (by simp [results, Try.results39, go_sem]) rfl (Owned.mk ho.out.2 (by repeat (first | exact Below.refl _ _ | assumption | refine Below.drew ?_ | refine Below.drewN' ?_ _ | refine below_grow0 _ _ ?_ | refine below_alloc0 _ ?_ | refine Below.alloc ?_ (by first | omega | (simp; done) | (simp; omega)) _ | refine Below.setCell ?_ (by first | omega | (simp; done) | (simp; omega)) _ | refine Below.grow _ _ _ ?_ (by first | omega | (simp; done) | (simp; omega)))))
set_option maxHeartbeats 2000000 in
theorem watchDropped_ok (v : Value) (l : List Watch) (s : Int) (w : World) (h : Sl cWatch 3 w v l) (hn : l.length * 32 ≤ 140737488355328) :
    Calls Try.prog 12 #[v, .int .i64 s] w fun e w' => e = .returned (.bool true) ∧ Below w.heap.size w w' := by
  obtain ⟨A, c, rfl, hc1, hc2⟩ := h.form
  have H := Lib.hid h
  have hdl := dropL_len l s
  have HAT := Lib.hid (fun (k : Nat) (x : Watch) (hx : l[k]? = some x) (hs : x.session ≠ s) => dropL_at hx hs)
  have HSU := Lib.hid (fun (k : Nat) (x : Watch) (hx : l[k]? = some x) => dropL_succ (s := s) hx)
  have HD := Lib.hid (fun (W : World) (v' : Value) (hs : Sl cWatch 3 W v' l) => drop_is v' l s W hs hn)
  have HD2 := Lib.hid (fun (W : World) (v' : Value) (hs : Sl cWatch 3 W v' (dropL l s)) => show Calls Try.prog 39 #[v', .int .i64 s] W (Owned cWatch 3 62 (dropL l s) W) from by
    have := drop_is v' (dropL l s) s W hs (by omega)
    rwa [dropL_again] at this)
  have H0 := Lib.hid (show dropL (l.take l.length) s = dropL l s by rw [List.take_length])
  generalize hD : dropL l s = D at *
  clear h hD
  go_enter Try.func12, Try.ntmps12
  go_wp2_with fail
  refine (kept_is _ l _ H.out hn).mono ?_
  rintro e w1 ⟨A1, c1, rfl, ho1, hb1⟩
  obtain ⟨ext, d, rfl⟩ := Below.grown_eq w hb1
  have HO1 := Lib.hid ho1.sl
  clear hb1 ho1
  go_wp2_with fail
  refine (HD.out _ _ HO1.out).mono ?_
  rintro e w2 ⟨A2, c2, rfl, ho2, hb2⟩
  obtain ⟨ext2, d2, rfl⟩ := Below.grown_eq w (Below.own (by repeat (first | exact Below.refl _ _ | assumption | refine Below.drew ?_ | refine Below.drewN' ?_ _ | refine below_grow0 _ _ ?_ | refine below_alloc0 _ ?_ | refine Below.alloc ?_ (by first | omega | (simp; done) | (simp; omega)) _ | refine Below.setCell ?_ (by first | omega | (simp; done) | (simp; omega)) _ | refine Below.grow _ _ _ ?_ (by first | omega | (simp; done) | (simp; omega)))) hb2)
  have HS2 := Lib.hid ho2.sl
  clear hb2 HO1 ho2
  go_wp2_with fail
  go_loopw [6, 7] (fun q i wr => ∃ (k : Nat), k ≤ l.length ∧ i = .int .i64 k ∧ q = .int .i64 (dropL (l.take k) s).length ∧ Hid (Below (grow w ext2 d2).heap.size (grow w ext2 d2) wr)) (fun _ i _ => l.length - (intOf i).toNat)
  case atStart => exact ⟨0, Nat.zero_le _, rfl, rfl, Lib.hid (Below.refl _ _)⟩
  case round =>
    obtain ⟨k, hk, rfl, rfl, hbw⟩ := hrel
    have HBW := Lib.hid (Below.own (show Below w.heap.size w (grow w ext2 d2) from (by repeat (first | exact Below.refl _ _ | assumption | refine Below.drew ?_ | refine Below.drewN' ?_ _ | refine below_grow0 _ _ ?_ | refine below_alloc0 _ ?_ | refine Below.alloc ?_ (by first | omega | (simp; done) | (simp; omega)) _ | refine Below.setCell ?_ (by first | omega | (simp; done) | (simp; omega)) _ | refine Below.grow _ _ _ ?_ (by first | omega | (simp; done) | (simp; omega))))) hbw.out)
    by_cases hlt : k < l.length
    · have hx : l[k]? = some (l[k]'hlt) := List.getElem?_eq_getElem _
      obtain ⟨b, off, rfl, _, x0, x1, x2⟩ := (H.out.below HBW.out).Watch_at hx
      have HSX := Lib.hid (HSU.out _ _ hx)
      have HAX := Lib.hid (HAT.out _ _ hx)
      generalize l[k]'hlt = x at *
      generalize dropL (l.take k) s = q at *
      clear hx
      by_cases hs : x.session = s
      · go_wp2_with fail
        go_roundw
        case rel => exact ⟨k + 1, by omega, by go_num, by rw [HSX.out, if_pos hs], hbw⟩
        case measure => simp [intOf]; omega
      · have hy := HAX.out hs
        have hqd : q.length < D.length := (List.getElem?_eq_some_iff.1 hy).1
        obtain ⟨b2, off2, rfl, _, y0, y1, y2⟩ := (HS2.out.below hbw.out).Watch_at hy
        have HY := Lib.hid hy
        clear hy
        go_wp2_with fail
        go_quiet (fail)
        go_wp2_with fail
        go_roundw
        case rel => exact ⟨k + 1, by omega, by go_num, by rw [HSX.out, if_neg hs, List.length_append, List.length_singleton]; go_num, Lib.hid (Below.drewN' hbw.out _)⟩
        case measure => simp [intOf]; omega
    · have hk' : k = l.length := by omega
      subst hk'
      rw [H0.out]
      obtain ⟨ext3, d3, rfl⟩ := Below.grown_eq w HBW.out
      have HS3 := Lib.hid (HS2.out.below hbw.out)
      clear HS2 hbw HBW
      go_wp2_with fail
      refine (kept_is _ D _ HS3.out (by omega)).mono ?_
      rintro e w4 ⟨A4, c4, rfl, ho4, hb4⟩
      have HS4 := Lib.hid (HS3.out.below hb4)
      obtain ⟨ext4, d4, rfl⟩ := Below.grown_eq w (Below.own (by repeat (first | exact Below.refl _ _ | assumption | refine Below.drew ?_ | refine Below.drewN' ?_ _ | refine below_grow0 _ _ ?_ | refine below_alloc0 _ ?_ | refine Below.alloc ?_ (by first | omega | (simp; done) | (simp; omega)) _ | refine Below.setCell ?_ (by first | omega | (simp; done) | (simp; omega)) _ | refine Below.grow _ _ _ ?_ (by first | omega | (simp; done) | (simp; omega)))) hb4)
      have HO4 := Lib.hid ho4.sl
      clear hb4 HS3 ho4
      go_wp2_with fail
      refine (HD2.out _ _ HO4.out).mono ?_
      rintro e w5 ⟨A5, c5, rfl, ho5, hb5⟩
      have HS5 := Lib.hid (HS4.out.below hb5)
      obtain ⟨ext5, d5, rfl⟩ := Below.grown_eq w (Below.own (by repeat (first | exact Below.refl _ _ | assumption | refine Below.drew ?_ | refine Below.drewN' ?_ _ | refine below_grow0 _ _ ?_ | refine below_alloc0 _ ?_ | refine Below.alloc ?_ (by first | omega | (simp; done) | (simp; omega)) _ | refine Below.setCell ?_ (by first | omega | (simp; done) | (simp; omega)) _ | refine Below.grow _ _ _ ?_ (by first | omega | (simp; done) | (simp; omega)))) hb5)
      have HO5 := Lib.hid ho5.sl
      clear hb5 HS4 ho5 HO4
      go_wp2_with fail
      refine (sameWatches_eq _ _ D _ HO5.out HS5.out (by omega)).mono ?_
      rintro e w6 ⟨rfl, hb6⟩
      obtain ⟨ext6, d6, rfl⟩ := Below.grown_eq w (Below.own (by repeat (first | exact Below.refl _ _ | assumption | refine Below.drew ?_ | refine Below.drewN' ?_ _ | refine below_grow0 _ _ ?_ | refine below_alloc0 _ ?_ | refine Below.alloc ?_ (by first | omega | (simp; done) | (simp; omega)) _ | refine Below.setCell ?_ (by first | omega | (simp; done) | (simp; omega)) _ | refine Below.grow _ _ _ ?_ (by first | omega | (simp; done) | (simp; omega)))) hb6)
      clear hb6 HS5 HO5
      go_wp2_with (first | (go_at_call 37; refine (tells_any _).mono ?_; rintro e w7 ⟨rfl, hb7⟩; obtain ⟨ext7, d7, rfl⟩ := Below.grown_eq w (Below.own (by repeat (first | exact Below.refl _ _ | assumption | refine Below.drew ?_ | refine Below.drewN' ?_ _ | refine below_grow0 _ _ ?_ | refine below_alloc0 _ ?_ | refine Below.alloc ?_ (by first | omega | (simp; done) | (simp; omega)) _ | refine Below.setCell ?_ (by first | omega | (simp; done) | (simp; omega)) _ | refine Below.grow _ _ _ ?_ (by first | omega | (simp; done) | (simp; omega)))) hb7); clear hb7))
      go_ret
      exact ⟨rfl, (by repeat (first | exact Below.refl _ _ | assumption | refine Below.drew ?_ | refine Below.drewN' ?_ _ | refine below_grow0 _ _ ?_ | refine below_alloc0 _ ?_ | refine Below.alloc ?_ (by first | omega | (simp; done) | (simp; omega)) _ | refine Below.setCell ?_ (by first | omega | (simp; done) | (simp; omega)) _ | refine Below.grow _ _ _ ?_ (by first | omega | (simp; done) | (simp; omega))))⟩
namespace watchDropped
theorem own : ownKnob Try.prog.godebug = none := by kernel_rfl
theorem laidOut : laidOutB Try.prog = true := by kernel_rfl
set_option maxRecDepth 100000 in
set_option maxHeartbeats 1000000 in
theorem lifted (os : Os) (started : os.Started) (H : Type) (enc : TypeId × Value → H) :
    ReturnsInHanded {} Try.checked os 12 .any (Rows.watchDroppedSpec.pre6 enc Try.prog Try.f12 Rows.watchDroppedRow.domain false) (Rows.watchDroppedSpec.post enc Try.prog Try.f12 false true false false) := by
  refine returnsInHanded_of_change_sized (C := Try.checked) own started (by kernel_rfl) Try.func12
    (ChangeSpec.witness6 (enc := enc) (C := Try.checked) false ⟨#[], #[.slice none 0 0, .int .i64 0], []⟩ 8 (by kernel_rfl) (by kernel_rfl) (by kernel_rfl) (by kernel_rfl)) ?_
  intro W base args ds gs before hval0 hW0 _ hsz0 _
  have hval : ∀ (j : Nat) t v, Try.f12.params[j]? = some t → args[j]? = some v → Value.okWide Try.prog W .any base t v := hval0
  have hW : DataW.Whole enc Try.prog Try.f12.params.toList Rows.watchDroppedSpec.vars false W args.toList ds gs before := hW0
  have hlt : ∀ p ∈ before, p.block < W.heap.size := fun p hp => hW.lt p hp
  have hW1 := hW
  obtain ⟨p, q, hA0, hV, rfl, hfz, hnd⟩ := hW1
  have hA : DataW.TrodAll enc Try.prog W 0 (fun _ => true) true Try.f12.params.toList args.toList ds p := hA0
  obtain ⟨rfl, rfl⟩ := trodVars_none hV
  rw [Try.params12] at hA hval
  obtain ⟨v0, vs0, d0, ds0, p0, q0, hargs, rfl, rfl, h0, r0⟩ := trodAll_cons hA
  obtain ⟨v1, vs1, d1, ds1, p1, q1, rfl, rfl, rfl, h1, r1⟩ := trodAll_cons r0
  obtain ⟨rfl, rfl, rfl⟩ := trodAll_nil r1
  obtain rfl : args = #[v0, v1] := by cases args; simp_all
  have hsz : (DataW.weightsEach Try.prog [54, 3] [d0, d1]).all (· ≤ reachBytes) = true := hsz0
  have close : ∀ e W', (e = Ending.returned (.bool true) ∧ Below W.heap.size W W') → ∃ v, e = .returned v ∧ Rows.watchDroppedSpec.post enc Try.prog Try.f12 false true false false W #[v0, v1] v W' :=
    fun e W' ⟨he, hb⟩ => ⟨_, he, law_post laidOut (of_decide_eq_true (by kernel_rfl)) rfl rfl Try.underlying4 hW rfl hb⟩
  clear hA0 hsz0 hval0 hW0 hA hV hW hfz hnd
  obtain ⟨xs0, hr0, hf0, els0, sp0, he0⟩ := open_rows (ks := [.i .i64, .i .i64, .s]) 9 Try.underlying54 (by kernel_rfl) (hval 0 54 v0 rfl rfl) h0 (fun x hx => hlt x (by simp [hx])) (by decide)
  have rb0 : xs0.length * 32 ≤ 140737488351232 := by
    rcases he0 with ⟨_, rfl⟩ | ⟨hd, hl⟩
    · simp
    · rw [hd] at hsz
      have := sized_slice hsz (j := 0) rfl rfl Try.underlying54
      rw [show Try.prog.bytesOf 62 = 32 from by kernel_rfl] at this
      simp only [reachBytes] at this
      rw [hl] at this
      exact Nat.le_trans (Nat.mul_le_mul_right _ (Nat.le_add_right _ _)) this
  obtain ⟨a1, rfl, hd1, _, wf1⟩ := open_int Try.underlying3 (hval 1 3 v1 rfl rfl) h1
  obtain ⟨l, rfl, _⟩ := typed (fun x hx => fitsWatch (hf0 x hx))
  have hs : Sl cWatch 3 W v0 l := hr0
  simp only [List.length_map] at rb0
  exact (watchDropped_ok v0 l a1 W hs (by omega)).mono close
theorem proved : Rows.WatchDroppedSaid :=
  OpenClaim.holds_of_wide 12 Try.f12 rfl rfl rfl rfl rfl rfl rfl ⟨rfl, rfl, rfl, rfl, rfl⟩ rfl rfl rfl rfl rfl (by kernel_rfl) Try.func12 (by kernel_rfl)
    (of_decide_eq_true (by kernel_rfl)) (by unfold Func.isWrapper; first | (rw [if_pos (by decide +kernel)]; kernel_rfl) | (rw [if_neg (by decide +kernel)]; exact ⟨rfl, rfl⟩))
    (fun os started H enc _ => lifted os started H enc)
end watchDropped
end Go.Proofs.Ytahcmfnpfepimaa
