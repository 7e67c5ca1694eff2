/- watch.Fire whole. -/
import Derived.Test.YtkogdnkifnhljaaDoorFire2
namespace Go.Proofs.YtkogdnkifnhljaaDoor
open Go.RowKit Go.ChangeShapes Go.WideShapes Go.ChangeAt
theorem clipWatch (A : Option Addr) (n c : Nat) (w : World) (hc : n ≤ c) (hA : A = none → c = 0) (hcm : c ≤ 9223372036854775807) :
    Calls Tryd.prog 62 #[.slice A n c] w fun e w' => e = .returned (.slice A n n) ∧ w = w' := by
  cases A with
  | none =>
    obtain rfl := hA rfl
    obtain rfl : n = 0 := by omega
    go_enter Tryd.func62, Tryd.ntmps62
    go_wp2
    go_ret
    exact ⟨rfl, rfl⟩
  | some a =>
    obtain ⟨b, o, sp⟩ := a
    go_enter Tryd.func62, Tryd.ntmps62
    go_wp2
    go_ret
    exact ⟨rfl, rfl⟩
theorem deleteNone (A : Option Addr) (c : Nat) (fn : Value) (w : World) :
    Calls Tryd.prog 59 #[.slice A 0 c, fn] w fun e w' => e = .returned (.slice A 0 c) ∧ w = w' := by
  have hi : Calls Tryd.prog 68 #[.slice A 0 c, fn] w fun e w' => e = .returned (.int .i64 (-1)) ∧ w = w' := by
    go_enter Tryd.func68, Tryd.ntmps68
    go_wp2_with fail
    refine wp_loop_rounds 1 ?_
    rw [rounds_succ]
    go_wp2
    go_ret
    exact ⟨rfl, rfl⟩
  have HI := Lib.hid hi
  clear hi
  go_enter Tryd.func59, Tryd.ntmps59
  go_wp2_with fail
  refine HI.out.mono ?_
  rintro e w1 ⟨rfl, rfl⟩
  go_wp2_with fail
  refine bodyPost_ret (v := .slice A 0 c) (by simp [results, Tryd.results59, go_sem]) rfl ⟨rfl, rfl⟩
/-- what Fire tells and leaves -/
def fireS (l : List Watch) (evs : List Event) : List Note × List Watch := evs.foldl (fun s e => (s.1 ++ notesOf e s.2, keptOf e s.2)) ([], l)
theorem fireS_succ {l : List Watch} {evs : List Event} {k : Nat} {e : Event} (h : evs[k]? = some e) : fireS l (evs.take (k + 1)) = ((fireS l (evs.take k)).1 ++ notesOf e (fireS l (evs.take k)).2, keptOf e (fireS l (evs.take k)).2) := by
  unfold fireS
  rw [List.take_add_one, h]
  simp
theorem fireS_len (l : List Watch) (evs : List Event) : (fireS l evs).1.length + (fireS l evs).2.length = l.length := by
  have key : ∀ (evs : List Event) (s : List Note × List Watch), (evs.foldl (fun s e => (s.1 ++ notesOf e s.2, keptOf e s.2)) s).1.length + (evs.foldl (fun s e => (s.1 ++ notesOf e s.2, keptOf e s.2)) s).2.length = s.1.length + s.2.length := by
    intro evs
    induction evs with
    | nil => intro s; rfl
    | cons e evs ih =>
      intro s
      rw [List.foldl_cons, ih]
      simp only [List.length_append, notesOf, keptOf, List.length_map]
      have : (s.2.filter (fun x => touchB x e)).length + (s.2.filter (fun x => !touchB x e)).length = s.2.length := by
        generalize s.2 = q
        induction q with
        | nil => rfl
        | cons x q ih2 => cases hh : touchB x e <;> simp [hh] <;> omega
      omega
  have := key evs ([], l)
  simpa [fireS] using this
/-- the watches that are left, as they lie while Fire works -/
def LeftIs (w W : World) (bn : Nat) (A : Option Addr) (c : Nat) (notes : List Note) (l : List Watch) : Prop :=
  (l = [] ∧ (A = none → c = 0) ∧ FS w W bn notes []) ∨ (∃ gL J, A = some ⟨gL, 0, none⟩ ∧ w.heap.size ≤ gL ∧ FS w W bn notes [(gL, l.flatMap cWatch ++ J, 35)])
/-- one event, behind a new block for it -/
theorem deleteLeft (ev : Event) (w W : World) (bn be c : Nat) (A : Option Addr) (l : List Watch) (notes : List Note) (cs : List Value) (hcs : cs = cEvent ev) (h : LeftIs w W bn A c notes l) (hbe : be = W.heap.size) (hc : l.length ≤ c) (hcm : c ≤ 9223372036854775807) (hn : (notes.length + l.length + 1) * 32 ≤ 140737488355328) :
    Calls Tryd.prog 59 #[.slice A l.length c, .func (.func 60) #[] #[.pointer (some ⟨be, 0, none⟩), .pointer (some ⟨bn, 0, none⟩)]] (W.alloc (.cells cs.toArray 65))
      fun e W' => ∃ c', e = .returned (.slice A (keptOf ev l).length c') ∧ (keptOf ev l).length ≤ c' ∧ c' ≤ 9223372036854775807 ∧ Hid (LeftIs w W' bn A c' (notes ++ notesOf ev l) (keptOf ev l)) := by
  subst hcs
  subst hbe
  rcases h with ⟨rfl, hA, hf⟩ | ⟨gL, J, rfl, hg, hf⟩
  · refine (deleteNone A c _ _).mono ?_
    rintro e w' ⟨rfl, rfl⟩
    refine ⟨c, rfl, hc, hcm, Lib.hid (.inl ⟨rfl, hA, ?_⟩)⟩
    have := hf.push (cEvent ev) 65
    show FS w _ bn (notes ++ []) []
    rw [List.append_nil]
    exact this.sub (by simp)
  · have hlt := (hf.bk List.mem_cons_self).lt
    have hp := hf.push (cEvent ev) 65
    refine (deleteFire ev w _ bn W.heap.size gL c _ l J notes [(W.heap.size, cEvent ev, 65)] (hp.sub (by intro b hb; simp at hb ⊢; rcases hb with rfl | rfl <;> simp)) List.mem_cons_self hg (by intro b hb; simp at hb; subst hb; show W.heap.size ≠ gL; omega) rfl hc hcm hn).mono ?_
    rintro e w' ⟨J', rfl, hf', _⟩
    exact ⟨c, rfl, Nat.le_trans (List.length_filter_le _ _) hc, hcm, Lib.hid (.inr ⟨gL, J', rfl, hg, hf'.sub (by intro b hb; simp at hb ⊢; exact .inl hb)⟩)⟩
def FireIs (l : List Watch) (evs : List Event) (w : World) (e : Ending) (w' : World) : Prop :=
  ∃ A c A2, e = .returned (.tuple #[.slice A (fireS l evs).1.length c, .slice A2 (fireS l evs).2.length (fireS l evs).2.length]) ∧ Ow cNote 3 85 w' w.heap.size (.slice A (fireS l evs).1.length c) (fireS l evs).1 ∧ Sl cWatch 3 w' (.slice A2 (fireS l evs).2.length (fireS l evs).2.length) (fireS l evs).2 ∧ Below w.heap.size w w'
theorem Sl.of_bk {α : Type} {f : α → List Value} {s : Nat} {W : World} {g c : Nat} {l : List α} {J : List Value} {t : TypeId} (hb : Bk W g (l.flatMap f ++ J) t) (hf : ∀ x, (f x).length = s) (hc : l.length ≤ c) (hm : c ≤ maxLen) : Sl f s W (.slice (some ⟨g, 0, none⟩) l.length c) l := by
  refine ⟨_, c, by simp, by simpa using hc, hm, by simpa using fun x _ => hf x, fun _ => ⟨g, 0, rfl, hb.lt, fun i y hy j u hu => ?_⟩⟩
  simp only [List.getElem?_map, Option.map_eq_some_iff] at hy
  obtain ⟨x, hx, rfl⟩ := hy
  have h0 : (l.flatMap f)[i * s + j]? = some u := flatMap_get (fun y _ => hf y) hx hu
  rw [show 0 + i * s + j = i * s + j from by omega, hb.cell, List.getElem?_append_left (List.getElem?_eq_some_iff.1 h0).1, h0]
set_option maxHeartbeats 2000000 in
theorem fire_is (v v2 : Value) (l : List Watch) (evs : List Event) (w : World) (h : Sl cWatch 3 w v l) (h2 : Sl cEvent 2 w v2 evs) (hn : (l.length + 1) * 32 ≤ 140737488355328) (hm : evs.length ≤ 140737488355328) :
    Calls Tryd.prog 42 #[v, v2] w (FireIs l evs w) := by
  obtain ⟨A, c, rfl, hc1, hc2⟩ := h.form
  obtain ⟨A2, c2, rfl, hc3, hc4⟩ := h2.form
  have H := Lib.hid h
  have H2 := Lib.hid h2
  have HD := Lib.hid (fun (ev : Event) (W : World) (bn be c : Nat) (A : Option Addr) (l : List Watch) (notes : List Note) (cs : List Value) (hcs : cs = cEvent ev) (h : LeftIs w W bn A c notes l) (hbe : be = W.heap.size) (hc : l.length ≤ c) (hcm : c ≤ 9223372036854775807) (hn : (notes.length + l.length + 1) * 32 ≤ 140737488355328) => deleteLeft ev w W bn be c A l notes cs hcs h hbe hc hcm hn)
  clear h h2
  go_enter Tryd.func42, Tryd.ntmps42
  go_wp2_with fail
  refine (cloneWatch _ l _ H.out (by omega) (by simp [maxLen]; omega)).mono ?_
  rintro e w1 ⟨A1, c1, rfl, ho, hb⟩
  have hW2 : Below w.heap.size w (w1.alloc (.cells #[.slice none 0 0] 61)) := hb.alloc hb.size _
  have hstart : (A1 = none → c1 = 0) ∧ l.length ≤ c1 ∧ c1 ≤ maxLen ∧ LeftIs w (w1.alloc (.cells #[.slice none 0 0] 61)) w1.heap.size A1 c1 [] l := by
    have hbn : Bk (w1.alloc (.cells #[.slice none 0 0] 61)) w1.heap.size [.slice none 0 0] 61 := by unfold Bk; show (w1.heap.push _)[w1.heap.size]? = _; simp
    have hsz := hb.size
    obtain ⟨A', c', e1, f1, f2, f3, f4⟩ := ho.form
    injection e1 with e1 e2 e3
    subst e1
    subst e3
    refine ⟨fun e => (f3 e).2, f1, f2, ?_⟩
    rcases Nat.eq_zero_or_pos l.length with h0 | h0
    · obtain rfl := List.eq_nil_of_length_eq_zero h0
      exact .inl ⟨rfl, fun e => (f3 e).2, none, 0, hW2, hsz, hbn, Ow.nil _ _ _ _ _, by simp [Value.ownBlock], by simp⟩
    · obtain ⟨g, J, rfl, hg, hbk, _, _, _, _⟩ := ho.blk h0
      have hbk2 := hbk.below (below_alloc0 (.cells #[.slice none 0 0] 61) (Below.refl _ _))
      refine .inr ⟨g, J, rfl, hg, none, 0, hW2, hsz, hbn, Ow.nil _ _ _ _ _, by simp [Value.ownBlock], fun b hm => ?_⟩
      obtain rfl := List.mem_singleton.1 hm
      exact ⟨hbk2, by have := hbk.lt; show g ≠ _; omega, by simp [Value.ownBlock]⟩
  have HST := Lib.hid hstart
  have HSZ := Lib.hid hb.size
  clear hb hW2 hstart ho
  go_wp2_with fail
  have hl0 : l = (fireS l (evs.take 0)).2 := rfl
  go_loopw [6, 14] (fun s i wr => ∃ (k : Nat) (A' : Option Addr) (c' : Nat), k ≤ evs.length ∧ i = .int .i64 k ∧ s = .slice A' (fireS l (evs.take k)).2.length c' ∧ (fireS l (evs.take k)).2.length ≤ c' ∧ c' ≤ 9223372036854775807 ∧ Hid (LeftIs w wr w1.heap.size A' c' (fireS l (evs.take k)).1 (fireS l (evs.take k)).2)) (fun _ i _ => evs.length - (intOf i).toNat)
  case atStart => exact ⟨0, A1, c1, Nat.zero_le _, rfl, rfl, HST.out.2.1, Nat.le_trans HST.out.2.2.1 (by decide), Lib.hid HST.out.2.2.2⟩
  case round =>
    obtain ⟨k, A', c', hk, rfl, rfl, hc', hcm', hleft⟩ := hrel
    clear hl0
    have HLEN := Lib.hid (fireS_len l (evs.take k))
    have hbase : Below w.heap.size w wr := by
      rcases hleft.out with ⟨_, _, hf⟩ | ⟨_, _, _, _, hf⟩ <;> exact hf.base
    by_cases hlt : k < evs.length
    · have hx : evs[k]? = some (evs[k]'hlt) := List.getElem?_eq_getElem _
      have HSUC := Lib.hid (fireS_succ (l := l) hx)
      obtain ⟨b, off, rfl, _, c0, c1'⟩ := (H2.out.below hbase).Event_at hx
      generalize hxe : evs[k]'hlt = x at hx c0 c1' HSUC
      generalize hNS : (fireS l (evs.take k)).1 = NS at *
      generalize hL : (fireS l (evs.take k)).2 = L at *
      have hbound : (NS.length + L.length + 1) * 32 ≤ 140737488355328 := by rw [HLEN.out]; exact hn
      have HCALL := Lib.hid (HD.out x wr w1.heap.size wr.heap.size c' A' L NS (cEvent x) rfl hleft.out rfl hc' hcm' hbound)
      have HXE := Lib.hid hx
      clear hbase hx hxe hNS hL hbound
      go_wp2_with (first | (go_at_call 59; refine (HCALL.out).mono ?_; rintro e w2 ⟨c5, rfl, hc5, hcm5, hl5⟩; skip))
      go_roundw
      case rel => exact ⟨k + 1, A', c5, by omega, by go_num, by rw [HSUC.out], by rw [HSUC.out]; exact hc5, hcm5, by rw [HSUC.out]; exact hl5⟩
      case measure => simp [intOf]; omega
    · have hk' : k = evs.length := by omega
      subst hk'
      rw [List.take_length] at hleft hc' HLEN ⊢
      have hA : A' = none → c' = 0 := by
        rcases hleft.out with ⟨_, h, _⟩ | ⟨_, _, h, _⟩
        · exact h
        · intro e; rw [e] at h; cases h
      have hsl : Sl cWatch 3 wr (.slice A' (fireS l evs).2.length (fireS l evs).2.length) (fireS l evs).2 := by
        rcases hleft.out with ⟨h, _, _⟩ | ⟨g, J, rfl, _, hf⟩
        · rw [h]; exact Sl.empty _ _ _ _ (by decide)
        · exact Sl.of_bk (hf.bk List.mem_cons_self) (fun _ => rfl) (Nat.le_refl _) (by have := HLEN.out; simp [maxLen]; omega)
      have hfs : FS w wr w1.heap.size (fireS l evs).1 [] := by
        rcases hleft.out with ⟨_, _, hf⟩ | ⟨_, _, _, _, hf⟩
        · exact hf
        · exact hf.sub (by simp)
      obtain ⟨An, cn, _, _, hnb, hown, _, _⟩ := hfs
      have n0 : wr.cell? ⟨w1.heap.size, 0, none⟩ = some (.slice An (fireS l evs).1.length cn) := hnb.cell 0
      have HCL := Lib.hid (fun (W : World) => clipWatch A' (fireS l evs).2.length c' W hc' hA hcm')
      have HSL := Lib.hid hsl
      have HOW := Lib.hid hown
      have HBA := Lib.hid hbase
      clear hA hsl hnb hown hbase
      generalize hS : fireS l evs = S at *
      have HSE := Lib.hid hS
      clear hS
      go_wp2_with fail
      go_quiet (first | (go_at_call 62; with_reducible refine Calls.quiet_of_same ((HCL.out _).mono fun e w' h => ⟨h.1, h.2.symm⟩)))
      go_wp2_with fail
      refine bodyPost_ret (v := .tuple #[.slice An S.1.length cn, .slice A' S.2.length S.2.length]) (by simp [results, Tryd.results42, go_sem]) rfl ?_
      unfold FireIs
      rw [HSE.out]
      exact ⟨An, cn, A', rfl, HOW.out.drewN _, HSL.out.drewN _, Below.drewN' HBA.out _⟩
end Go.Proofs.YtkogdnkifnhljaaDoor
