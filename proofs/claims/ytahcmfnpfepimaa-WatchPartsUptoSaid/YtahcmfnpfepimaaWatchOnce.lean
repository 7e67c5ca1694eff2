/- The law WatchOnce is true for every input; no conditions. -/
import Derived.Test.YtahcmfnpfepimaaWatch
namespace Go.Proofs.Ytahcmfnpfepimaa
open Go.RowKit Go.ChangeShapes Go.WideShapes Go.ChangeAt
/-! ### plain law -/
theorem notesOf_nil {ev : Event} {l : List Watch} (h : ∀ x ∈ l, touchB x ev = false) : notesOf ev l = [] := (kept_none h).2
theorem fireS_cons (_l : List Watch) (s : List Note × List Watch) (evs : List Event) : evs.foldl (fun s e => (s.1 ++ notesOf e s.2, keptOf e s.2)) s = (s.1 ++ (fireS s.2 evs).1, (fireS s.2 evs).2) := by
  unfold fireS
  induction evs generalizing s with
  | nil => simp
  | cons e evs ih =>
    rw [List.foldl_cons, ih, List.foldl_cons, ih ([] ++ notesOf e s.2, keptOf e s.2)]
    simp
theorem fireS_step (l : List Watch) (e : Event) (evs : List Event) : fireS l (e :: evs) = (notesOf e l ++ (fireS (keptOf e l) evs).1, (fireS (keptOf e l) evs).2) := by
  have := fireS_cons l (([] : List Note) ++ notesOf e l, keptOf e l) evs
  simpa [fireS] using this
theorem fireS_left_sub {l : List Watch} {evs : List Event} {x : Watch} (h : x ∈ (fireS l evs).2) : x ∈ l ∧ ∀ e ∈ evs, touchB x e = false := by
  induction evs generalizing l with
  | nil => exact ⟨h, by simp⟩
  | cons e evs ih =>
    rw [fireS_step] at h
    obtain ⟨h1, h2⟩ := ih h
    have h3 := List.mem_filter.1 h1
    refine ⟨h3.1, fun e' he' => ?_⟩
    rcases List.mem_cons.1 he' with rfl | he'
    · simpa using h3.2
    · exact h2 e' he'
theorem fireS_quiet {l : List Watch} {evs : List Event} (h : ∀ x ∈ l, ∀ e ∈ evs, touchB x e = false) : fireS l evs = ([], l) := by
  induction evs with
  | nil => rfl
  | cons e evs ih =>
    have h0 : ∀ x ∈ l, touchB x e = false := fun x hx => h x hx e List.mem_cons_self
    rw [fireS_step, (kept_none h0).1, (kept_none h0).2, ih (fun x hx e' he' => h x hx e' (List.mem_cons_of_mem _ he'))]
    rfl
/-- the same events again tell nobody -/
theorem fireS_again (l : List Watch) (evs : List Event) : fireS (fireS l evs).2 evs = ([], (fireS l evs).2) := fireS_quiet fun _ hx e he => (fireS_left_sub hx).2 e he
theorem touch_path {x : Watch} {e : Event} (h : touchB x e = true) : x.path = e.path := by
  unfold touchB at h
  split at h
  · assumption
  · cases h
theorem fireS_told {l : List Watch} {evs : List Event} {n : Note} (h : n ∈ (fireS l evs).1) : ∃ x ∈ l, x.session = n.session ∧ x.path = n.path := by
  induction evs generalizing l with
  | nil => simp [fireS] at h
  | cons e evs ih =>
    rw [fireS_step] at h
    rcases List.mem_append.1 h with h | h
    · unfold notesOf at h
      obtain ⟨x, hx, rfl⟩ := List.mem_map.1 h
      have := List.mem_filter.1 hx
      exact ⟨x, this.1, rfl, touch_path this.2⟩
    · obtain ⟨x, hx, h1⟩ := ih h
      exact ⟨x, (List.mem_filter.1 hx).1, h1⟩
set_option maxHeartbeats 2000000 in
theorem watchOnce_ok (v v2 : Value) (l : List Watch) (evs : List Event) (w : World) (h : Sl cWatch 3 w v l) (h2 : Sl cEvent 2 w v2 evs) (hn : (l.length + 1) * 32 ≤ 140737488355328) (hm : evs.length * 24 ≤ 140737488355328) :
    Calls Try.prog 9 #[v, v2] w fun e w' => e = .returned (.bool true) ∧ Below w.heap.size w w' := by
  obtain ⟨A, c, rfl, hc1, hc2⟩ := h.form
  obtain ⟨A2, c2, rfl, hc3, hc4⟩ := h2.form
  have H := Lib.hid h
  have H2 := Lib.hid h2
  have hlen := fireS_len l evs
  have hm2 : evs.length ≤ 140737488355328 := by omega
  have HF := Lib.hid (fun (W : World) (v v2 : Value) (h : Sl cWatch 3 W v l) (h2 : Sl cEvent 2 W v2 evs) => fire_is v v2 l evs W h h2 hn hm2)
  have HF2 := Lib.hid (fun (W : World) (v v2 : Value) (h : Sl cWatch 3 W v (fireS l evs).2) (h2 : Sl cEvent 2 W v2 evs) => fire_is v v2 (fireS l evs).2 evs W h h2 (Nat.le_trans (Nat.mul_le_mul_right 32 (by omega)) hn) hm2)
  have HAG := Lib.hid (fireS_again l evs)
  have HTO := Lib.hid (fun (n : Note) (h : n ∈ (fireS l evs).1) => fireS_told h)
  unfold FireIs at HF HF2
  rw [HAG.out] at HF2
  generalize hNS : (fireS l evs).1 = NS at *
  generalize hL : (fireS l evs).2 = L at *
  clear h h2 hNS hL HAG
  have hl2 : l.length * 32 ≤ 140737488355328 := Nat.le_trans (Nat.mul_le_mul_right 32 (by omega)) hn
  have hL2 : L.length * 32 ≤ 140737488355328 := Nat.le_trans (Nat.mul_le_mul_right 32 (by omega)) hl2
  go_enter Try.func9, Try.ntmps9
  go_wp2_with fail
  refine (kept_is _ l _ H.out hl2).mono ?_
  rintro e w1 ⟨A1, c1, rfl, ho1, hb1⟩
  obtain ⟨ext, d, rfl⟩ := Below.grown_eq w hb1
  have HK := Lib.hid ho1.sl
  clear hb1 ho1
  go_wp2_with
    (at_builtin; refine wpList_app _ rfl (.const (.slice none 0 0)) (.tmp 15) _ rfl elEvent (B := w.heap.size) (m := evs) rfl rfl (Ow.nil _ _ _ _ _) (H2.out.below (by repeat (first | exact Below.refl _ _ | assumption | refine Below.drew ?_ | refine Below.drewN' ?_ _ | refine below_grow0 _ _ ?_ | refine below_alloc0 _ ?_ | refine Below.alloc ?_ (by first | omega | (simp; done) | (simp; omega)) _ | refine Below.setCell ?_ (by first | omega | (simp; done) | (simp; omega)) _ | refine Below.grow _ _ _ ?_ (by first | omega | (simp; done) | (simp; omega))))) cEvent_one (by simp [maxLen]; omega) (by simp; omega) (by simp <;> omega) ?_; intro v3 w3 hown3 hg3 _; rw [List.nil_append] at hown3; obtain ⟨A3, c3, rfl, _⟩ := hown3.form; have HE3 := Lib.hid hown3.sl; have HK3 := Lib.hid (HK.out.below (Below.of_grown hg3)); have HG3 := Lib.hid (Below.of_grown hg3); obtain ⟨ext3, d3, rfl⟩ := Below.grown_eq w (Below.own (by repeat (first | exact Below.refl _ _ | assumption | refine Below.drew ?_ | refine Below.drewN' ?_ _ | refine below_grow0 _ _ ?_ | refine below_alloc0 _ ?_ | refine Below.alloc ?_ (by first | omega | (simp; done) | (simp; omega)) _ | refine Below.setCell ?_ (by first | omega | (simp; done) | (simp; omega)) _ | refine Below.grow _ _ _ ?_ (by first | omega | (simp; done) | (simp; omega)))) HG3.out); clear hown3 hg3)
  refine (HF.out _ _ _ HK3.out HE3.out).mono ?_
  rintro e w4 ⟨An, cn, Al, rfl, hon, hsl, hb4⟩
  obtain ⟨ext4, d4, rfl⟩ := Below.grown_eq w (Below.own (by repeat (first | exact Below.refl _ _ | assumption | refine Below.drew ?_ | refine Below.drewN' ?_ _ | refine below_grow0 _ _ ?_ | refine below_alloc0 _ ?_ | refine Below.alloc ?_ (by first | omega | (simp; done) | (simp; omega)) _ | refine Below.setCell ?_ (by first | omega | (simp; done) | (simp; omega)) _ | refine Below.grow _ _ _ ?_ (by first | omega | (simp; done) | (simp; omega)))) hb4)
  have HN4 := Lib.hid hon.sl
  have HL4 := Lib.hid hsl
  clear hb4 hon hsl HK3 HE3
  go_wp2_with fail
  refine (kept_is _ L _ HL4.out hL2).mono ?_
  rintro e w5 ⟨A5, c5, rfl, ho5, hb5⟩
  have HN5 := Lib.hid (HN4.out.below hb5)
  have HL5 := Lib.hid (HL4.out.below hb5)
  obtain ⟨ext5, d5, rfl⟩ := Below.grown_eq w (Below.own (by repeat (first | exact Below.refl _ _ | assumption | refine Below.drew ?_ | refine Below.drewN' ?_ _ | refine below_grow0 _ _ ?_ | refine below_alloc0 _ ?_ | refine Below.alloc ?_ (by first | omega | (simp; done) | (simp; omega)) _ | refine Below.setCell ?_ (by first | omega | (simp; done) | (simp; omega)) _ | refine Below.grow _ _ _ ?_ (by first | omega | (simp; done) | (simp; omega)))) hb5)
  clear HK HN4 HL4
  have HK := Lib.hid ho5.sl
  clear hb5 ho5
  go_wp2_with
    (at_builtin; refine wpList_app _ rfl (.const (.slice none 0 0)) (.tmp 23) _ rfl elEvent (B := w.heap.size) (m := evs) rfl rfl (Ow.nil _ _ _ _ _) (H2.out.below (by repeat (first | exact Below.refl _ _ | assumption | refine Below.drew ?_ | refine Below.drewN' ?_ _ | refine below_grow0 _ _ ?_ | refine below_alloc0 _ ?_ | refine Below.alloc ?_ (by first | omega | (simp; done) | (simp; omega)) _ | refine Below.setCell ?_ (by first | omega | (simp; done) | (simp; omega)) _ | refine Below.grow _ _ _ ?_ (by first | omega | (simp; done) | (simp; omega))))) cEvent_one (by simp [maxLen]; omega) (by simp; omega) (by simp <;> omega) ?_; intro v6 w6 hown6 hg6 _; rw [List.nil_append] at hown6; obtain ⟨A6, c6, rfl, _⟩ := hown6.form; have HE6 := Lib.hid hown6.sl; have HK6 := Lib.hid (HK.out.below (Below.of_grown hg6)); have HG6 := Lib.hid (Below.of_grown hg6); obtain ⟨ext6, d6, rfl⟩ := Below.grown_eq w (Below.own (by repeat (first | exact Below.refl _ _ | assumption | refine Below.drew ?_ | refine Below.drewN' ?_ _ | refine below_grow0 _ _ ?_ | refine below_alloc0 _ ?_ | refine Below.alloc ?_ (by first | omega | (simp; done) | (simp; omega)) _ | refine Below.setCell ?_ (by first | omega | (simp; done) | (simp; omega)) _ | refine Below.grow _ _ _ ?_ (by first | omega | (simp; done) | (simp; omega)))) HG6.out); clear hown6 hg6)
  refine (HF2.out _ _ _ HK6.out HE6.out).mono ?_
  rintro e w7 ⟨Am, cm, Al2, rfl, _, hsl, hb7⟩
  have HN7 := Lib.hid ((HN5.out.below HG6.out).below hb7)
  have HL7 := Lib.hid ((HL5.out.below HG6.out).below hb7)
  have HM7 := Lib.hid hsl
  obtain ⟨ext7, d7, rfl⟩ := Below.grown_eq w (Below.own (by repeat (first | exact Below.refl _ _ | assumption | refine Below.drew ?_ | refine Below.drewN' ?_ _ | refine below_grow0 _ _ ?_ | refine below_alloc0 _ ?_ | refine Below.alloc ?_ (by first | omega | (simp; done) | (simp; omega)) _ | refine Below.setCell ?_ (by first | omega | (simp; done) | (simp; omega)) _ | refine Below.grow _ _ _ ?_ (by first | omega | (simp; done) | (simp; omega)))) hb7)
  clear hb7 hsl HN5 HL5 HK HK6 HE6 HG6
  go_wp2_with fail
  refine (sameWatches_eq _ _ L _ HL7.out HM7.out (by omega)).mono ?_
  rintro e w8 ⟨rfl, hb8⟩
  have HN8 := Lib.hid (HN7.out.below hb8)
  obtain ⟨ext8, d8, rfl⟩ := Below.grown_eq w (Below.own (by repeat (first | exact Below.refl _ _ | assumption | refine Below.drew ?_ | refine Below.drewN' ?_ _ | refine below_grow0 _ _ ?_ | refine below_alloc0 _ ?_ | refine Below.alloc ?_ (by first | omega | (simp; done) | (simp; omega)) _ | refine Below.setCell ?_ (by first | omega | (simp; done) | (simp; omega)) _ | refine Below.grow _ _ _ ?_ (by first | omega | (simp; done) | (simp; omega)))) hb8)
  clear hb8 HN7 HL7 HM7
  have hsum : ((NS.length : Int) + (L.length : Int)) = (l.length : Int) := by omega
  go_wp2_with fail
  refine (tells_any _).mono ?_
  rintro e w9 ⟨rfl, hb9⟩
  have HN9 := Lib.hid (HN8.out.below hb9)
  obtain ⟨ext9, d9, rfl⟩ := Below.grown_eq w (Below.own (by repeat (first | exact Below.refl _ _ | assumption | refine Below.drew ?_ | refine Below.drewN' ?_ _ | refine below_grow0 _ _ ?_ | refine below_alloc0 _ ?_ | refine Below.alloc ?_ (by first | omega | (simp; done) | (simp; omega)) _ | refine Below.setCell ?_ (by first | omega | (simp; done) | (simp; omega)) _ | refine Below.grow _ _ _ ?_ (by first | omega | (simp; done) | (simp; omega)))) hb9)
  clear hb9 HN8
  go_wp2_with fail
  go_loopw [9] (fun i wr => ∃ (k : Nat), k ≤ NS.length ∧ i = .int .i64 k ∧ Hid (Below (grow w ext9 d9).heap.size (grow w ext9 d9) wr)) (fun i _ => NS.length - (intOf i).toNat)
  case atStart => exact ⟨0, Nat.zero_le _, rfl, Lib.hid (Below.refl _ _)⟩
  case round =>
    obtain ⟨k, hk, rfl, hbw⟩ := hrel
    obtain ⟨wo, rfl⟩ : ∃ x, x = wr := ⟨_, rfl⟩
    by_cases hlt : k < NS.length
    · have hx : NS[k]? = some (NS[k]'hlt) := List.getElem?_eq_getElem _
      have HTX := Lib.hid (HTO.out _ (List.mem_of_getElem? hx))
      have HX := Lib.hid hx
      generalize NS[k]'hlt = x at *
      clear hx
      go_wp2_with fail
      go_loopw [10, 11] (fun t i wr2 => ∃ (m : Nat) (b : Bool), m ≤ l.length ∧ i = .int .i64 m ∧ t = .bool b ∧ Hid (Below wo.heap.size wo wr2) ∧ Hid (∀ (q : Nat) (y : Watch), q < m → l[q]? = some y → y.session = x.session → y.path = x.path → b = true)) (fun _ i _ => l.length - (intOf i).toNat)
      case atStart => exact ⟨0, false, Nat.zero_le _, rfl, rfl, Lib.hid (Below.refl _ _), Lib.hid (fun q y hq => absurd hq (by omega))⟩
      case round =>
        obtain ⟨m, b, hm', rfl, rfl, hbw2, htold⟩ := hrel
        have hbase : Below w.heap.size w wr := Below.own (Below.own (show Below w.heap.size w (grow w ext9 d9) from (by repeat (first | exact Below.refl _ _ | assumption | refine Below.drew ?_ | refine Below.drewN' ?_ _ | refine below_grow0 _ _ ?_ | refine below_alloc0 _ ?_ | refine Below.alloc ?_ (by first | omega | (simp; done) | (simp; omega)) _ | refine Below.setCell ?_ (by first | omega | (simp; done) | (simp; omega)) _ | refine Below.grow _ _ _ ?_ (by first | omega | (simp; done) | (simp; omega))))) hbw.out) hbw2.out
        by_cases hlt2 : m < l.length
        · have hy : l[m]? = some (l[m]'hlt2) := List.getElem?_eq_getElem _
          obtain ⟨b1, off1, rfl, _, y0, y1, y2⟩ := (H.out.below hbase).Watch_at hy
          obtain ⟨b2, off2, rfl, _, x0, x1, x2⟩ := ((HN9.out.below hbw.out).below hbw2.out).Note_at HX.out
          have HY := Lib.hid hy
          generalize l[m]'hlt2 = y at *
          clear hy hbase
          cases b with
          | true =>
            go_wp2_with fail
            go_quiet (fail)
            go_wp2_with fail
            go_roundw
            case rel => exact ⟨m + 1, true, by omega, by go_num, rfl, Lib.hid (Below.drewN' hbw2.out _), Lib.hid (fun _ _ _ _ _ _ => rfl)⟩
            case measure => simp [intOf]; omega
          | false =>
            by_cases hs : y.session = x.session
            · by_cases hp : y.path = x.path
              · go_wp2_with fail
                go_quiet (fail)
                go_wp2_with fail
                go_roundw
                case rel => exact ⟨m + 1, true, by omega, by go_num, by rfl, Lib.hid (Below.drewN' hbw2.out _), Lib.hid (fun _ _ _ _ _ _ => rfl)⟩
                case measure => simp [intOf]; omega
              · go_wp2_with fail
                go_quiet (fail)
                go_wp2_with fail
                go_roundw
                case rel => exact ⟨m + 1, false, by omega, by go_num, by rfl, Lib.hid (Below.drewN' hbw2.out _), Lib.hid (fun q z hq hz h1 h2 => by
                  rcases Nat.lt_or_ge q m with h | h
                  · exact htold.out q z h hz h1 h2
                  · obtain rfl : q = m := by omega
                    rw [HY.out] at hz
                    cases hz
                    exact absurd h2 hp)⟩
                case measure => simp [intOf]; omega
            · go_wp2_with fail
              go_quiet (fail)
              go_wp2_with fail
              go_roundw
              case rel => exact ⟨m + 1, false, by omega, by go_num, by rfl, Lib.hid (Below.drewN' hbw2.out _), Lib.hid (fun q z hq hz h1 h2 => by
                rcases Nat.lt_or_ge q m with h | h
                · exact htold.out q z h hz h1 h2
                · obtain rfl : q = m := by omega
                  rw [HY.out] at hz
                  cases hz
                  exact absurd h1 hs)⟩
              case measure => simp [intOf]; omega
        · obtain ⟨y, hy, e1, e2⟩ := HTX.out
          obtain ⟨q, hq⟩ := List.getElem?_of_mem hy
          obtain rfl := htold.out q y (by have := (List.getElem?_eq_some_iff.1 hq).1; omega) hq e1 e2
          clear hbase hy hq e1 e2
          go_wp2_with fail
          go_roundw
          case rel => exact ⟨k + 1, by omega, by go_num, Lib.hid (Below.own hbw.out hbw2.out)⟩
          case measure => simp [intOf]; omega
    · have hbase : Below w.heap.size w wo := Below.own (show Below w.heap.size w (grow w ext9 d9) from (by repeat (first | exact Below.refl _ _ | assumption | refine Below.drew ?_ | refine Below.drewN' ?_ _ | refine below_grow0 _ _ ?_ | refine below_alloc0 _ ?_ | refine Below.alloc ?_ (by first | omega | (simp; done) | (simp; omega)) _ | refine Below.setCell ?_ (by first | omega | (simp; done) | (simp; omega)) _ | refine Below.grow _ _ _ ?_ (by first | omega | (simp; done) | (simp; omega))))) hbw.out
      have HBA := Lib.hid hbase
      clear hbase
      go_wp2_with fail
      go_ret
      exact ⟨rfl, HBA.out⟩
namespace watchOnce
theorem own : ownKnob Try.prog.godebug = none := by kernel_rfl
theorem laidOut : laidOutB Try.prog = true := by kernel_rfl
set_option maxRecDepth 100000 in
set_option maxHeartbeats 1000000 in
theorem lifted (os : Os) (started : os.Started) (H : Type) (enc : TypeId × Value → H) :
    ReturnsInHanded {} Try.checked os 9 .any (Rows.watchOnceSpec.pre6 enc Try.prog Try.f9 Rows.watchOnceRow.domain false) (Rows.watchOnceSpec.post enc Try.prog Try.f9 false true false false) := by
  refine returnsInHanded_of_change_sized (C := Try.checked) own started (by kernel_rfl) Try.func9
    (ChangeSpec.witness6 (enc := enc) (C := Try.checked) false ⟨#[], #[.slice none 0 0, .slice none 0 0], []⟩ 8 (by kernel_rfl) (by kernel_rfl) (by kernel_rfl) (by kernel_rfl)) ?_
  intro W base args ds gs before hval0 hW0 _ hsz0 _
  have hval : ∀ (j : Nat) t v, Try.f9.params[j]? = some t → args[j]? = some v → Value.okWide Try.prog W .any base t v := hval0
  have hW : DataW.Whole enc Try.prog Try.f9.params.toList Rows.watchOnceSpec.vars false W args.toList ds gs before := hW0
  have hlt : ∀ p ∈ before, p.block < W.heap.size := fun p hp => hW.lt p hp
  have hW1 := hW
  obtain ⟨p, q, hA0, hV, rfl, hfz, hnd⟩ := hW1
  have hA : DataW.TrodAll enc Try.prog W 0 (fun _ => true) true Try.f9.params.toList args.toList ds p := hA0
  obtain ⟨rfl, rfl⟩ := trodVars_none hV
  rw [Try.params9] at hA hval
  obtain ⟨v0, vs0, d0, ds0, p0, q0, hargs, rfl, rfl, h0, r0⟩ := trodAll_cons hA
  obtain ⟨v1, vs1, d1, ds1, p1, q1, rfl, rfl, rfl, h1, r1⟩ := trodAll_cons r0
  obtain ⟨rfl, rfl, rfl⟩ := trodAll_nil r1
  obtain rfl : args = #[v0, v1] := by cases args; simp_all
  have hsz : (DataW.weightsEach Try.prog [54, 55] [d0, d1]).all (· ≤ reachBytes) = true := hsz0
  have close : ∀ e W', (e = Ending.returned (.bool true) ∧ Below W.heap.size W W') → ∃ v, e = .returned v ∧ Rows.watchOnceSpec.post enc Try.prog Try.f9 false true false false W #[v0, v1] v W' :=
    fun e W' ⟨he, hb⟩ => ⟨_, he, law_post laidOut (of_decide_eq_true (by kernel_rfl)) rfl rfl Try.underlying4 hW rfl hb⟩
  clear hA0 hsz0 hval0 hW0 hA hV hW hfz hnd
  obtain ⟨xs0, hr0, hf0, els0, sp0, he0⟩ := open_rows (ks := [.i .i64, .i .i64, .s]) 9 Try.underlying54 (by kernel_rfl) (hval 0 54 v0 rfl rfl) h0 (fun x hx => hlt x (by simp [hx])) (by decide)
  have rb0 : xs0.length * 32 ≤ 140737488351232 := by
    rcases he0 with ⟨_, rfl⟩ | ⟨hd, hl⟩
    · simp
    · rw [hd] at hsz
      have := sized_slice hsz (j := 0) rfl rfl Try.underlying54
      rw [show Try.prog.bytesOf 62 = 32 from by kernel_rfl] at this
      simp only [reachBytes] at this
      rw [hl] at this
      exact Nat.le_trans (Nat.mul_le_mul_right _ (Nat.le_add_right _ _)) this
  obtain ⟨xs1, hr1, hf1, els1, sp1, he1⟩ := open_rows (ks := [.i .i64, .s]) 9 Try.underlying55 (by kernel_rfl) (hval 1 55 v1 rfl rfl) h1 (fun x hx => hlt x (by simp [hx])) (by decide)
  have rb1 : xs1.length * 24 ≤ 140737488351232 := by
    rcases he1 with ⟨_, rfl⟩ | ⟨hd, hl⟩
    · simp
    · rw [hd] at hsz
      have := sized_slice hsz (j := 1) rfl rfl Try.underlying55
      rw [show Try.prog.bytesOf 64 = 24 from by kernel_rfl] at this
      simp only [reachBytes] at this
      rw [hl] at this
      exact Nat.le_trans (Nat.mul_le_mul_right _ (Nat.le_add_right _ _)) this
  obtain ⟨l, rfl, _⟩ := typed (fun x hx => fitsWatch (hf0 x hx))
  have hs : Sl cWatch 3 W v0 l := hr0
  obtain ⟨evs, rfl, _⟩ := typed (fun x hx => fitsEvent (hf1 x hx))
  have hs2 : Sl cEvent 2 W v1 evs := hr1
  simp only [List.length_map] at rb0 rb1
  exact (watchOnce_ok v0 v1 l evs W hs hs2 (by omega) (by omega)).mono close
theorem proved : Rows.WatchOnceSaid :=
  OpenClaim.holds_of_wide 9 Try.f9 rfl rfl rfl rfl rfl rfl rfl ⟨rfl, rfl, rfl, rfl, rfl⟩ rfl rfl rfl rfl rfl (by kernel_rfl) Try.func9 (by kernel_rfl)
    (of_decide_eq_true (by kernel_rfl)) (by unfold Func.isWrapper; first | (rw [if_pos (by decide +kernel)]; kernel_rfl) | (rw [if_neg (by decide +kernel)]; exact ⟨rfl, rfl⟩))
    (fun os started H enc _ => lifted os started H enc)
end watchOnce
end Go.Proofs.Ytahcmfnpfepimaa
