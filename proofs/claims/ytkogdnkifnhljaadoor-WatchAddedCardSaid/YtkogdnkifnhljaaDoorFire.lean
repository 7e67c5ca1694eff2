/- watch.Fire: its closure, slices.IndexFunc and slices.DeleteFunc at that closure, Clip. -/
import Derived.Test.YtkogdnkifnhljaaDoorClear
import Derived.Test.YtkogdnkifnhljaaDoorClone
import Derived.Deep.RegionHeld3
namespace Go.Proofs.YtkogdnkifnhljaaDoor
open Go.RowKit Go.ChangeShapes Go.WideShapes Go.ChangeAt
@[go_sem] theorem bytes_beq (a b : ByteArray) : (a.toList == b.toList) = decide (a = b) := by
  rw [ByteArray.toList_eq, ByteArray.toList_eq]
  by_cases h : a = b
  · subst h; simp
  · rw [decide_eq_false h, beq_eq_false_iff_ne]
    intro e
    exact h (ByteArray.ext (Array.toList_inj.mp e))
theorem ret_bool' {a b : Bool} (h : a = b) : Ending.returned (.bool a) = Ending.returned (.bool b) := by rw [h]
def touchB (x : Watch) (e : Event) : Bool := if x.path = e.path then (if x.kind = 2 then (e.kind == 4 || e.kind == 2) else (e.kind == 1 || e.kind == 2 || e.kind == 3)) else false
theorem touches_is (x : Watch) (ev : Event) (w : World) :
    Calls Tryd.prog 61 #[.agg #[.int .i64 x.session, .int .i64 x.kind, .string x.path], .agg #[.int .i64 ev.kind, .string ev.path]] w fun e w' => e = .returned (.bool (touchB x ev)) ∧ Below w.heap.size w w' := by
  unfold touchB
  obtain ⟨s, k, p⟩ := x
  obtain ⟨ek, ep⟩ := ev
  simp only
  by_cases hp : p = ep
  · subst hp
    rw [if_pos rfl]
    by_cases hk : k = 2
    · subst hk
      rw [if_pos rfl]
      go_enter Tryd.func61, Tryd.ntmps61
      go_wp2
      all_goals
        go_ret
        exact ⟨ret_bool' (by first | rfl | simp_all), (by repeat (first | exact Below.refl _ _ | assumption | refine Below.drew ?_ | refine Below.drewN' ?_ _ | refine below_grow0 _ _ ?_ | refine below_alloc0 _ ?_ | refine Below.alloc ?_ (by first | omega | (simp; done) | (simp; omega)) _ | refine Below.setCell ?_ (by first | omega | (simp; done) | (simp; omega)) _ | refine Below.grow _ _ _ ?_ (by first | omega | (simp; done) | (simp; omega))))⟩
    · rw [if_neg hk]
      go_enter Tryd.func61, Tryd.ntmps61
      go_wp2
      all_goals
        go_ret
        exact ⟨ret_bool' (by first | rfl | simp_all), (by repeat (first | exact Below.refl _ _ | assumption | refine Below.drew ?_ | refine Below.drewN' ?_ _ | refine below_grow0 _ _ ?_ | refine below_alloc0 _ ?_ | refine Below.alloc ?_ (by first | omega | (simp; done) | (simp; omega)) _ | refine Below.setCell ?_ (by first | omega | (simp; done) | (simp; omega)) _ | refine Below.grow _ _ _ ?_ (by first | omega | (simp; done) | (simp; omega))))⟩
  · rw [if_neg hp]
    go_enter Tryd.func61, Tryd.ntmps61
    go_wp2
    go_ret
    exact ⟨rfl, (by repeat (first | exact Below.refl _ _ | assumption | refine Below.drew ?_ | refine Below.drewN' ?_ _ | refine below_grow0 _ _ ?_ | refine below_alloc0 _ ?_ | refine Below.alloc ?_ (by first | omega | (simp; done) | (simp; omega)) _ | refine Below.setCell ?_ (by first | omega | (simp; done) | (simp; omega)) _ | refine Below.grow _ _ _ ?_ (by first | omega | (simp; done) | (simp; omega))))⟩
/-! ### the state that Fire's closure works on: the notes' variable, and blocks that it leaves as they are -/
def FSat (w W : World) (bn : Nat) (notes : List Note) (bs : List (Nat × List Value × TypeId)) (A : Option Addr) (c : Nat) : Prop :=
  Below w.heap.size w W ∧ w.heap.size ≤ bn ∧ Bk W bn [.slice A notes.length c] 61 ∧ Ow cNote 3 85 W w.heap.size (.slice A notes.length c) notes ∧ (Value.slice A notes.length c).ownBlock ≠ some bn ∧
    ∀ b ∈ bs, Bk W b.1 b.2.1 b.2.2 ∧ b.1 ≠ bn ∧ (Value.slice A notes.length c).ownBlock ≠ some b.1
def FS (w W : World) (bn : Nat) (notes : List Note) (bs : List (Nat × List Value × TypeId)) : Prop := ∃ A c, FSat w W bn notes bs A c
section
variable {w W W' : World} {bn : Nat} {notes : List Note} {bs bs' : List (Nat × List Value × TypeId)}
theorem FS.below (h : FS w W bn notes bs) (hb : Below W.heap.size W W') : FS w W' bn notes bs := by
  obtain ⟨A, c, h1, h2, h3, h4, h5, h6⟩ := h
  exact ⟨A, c, Below.own h1 hb, h2, h3.below hb, h4.below hb, h5, fun b hm => ⟨(h6 b hm).1.below hb, (h6 b hm).2⟩⟩
theorem FS.sub (h : FS w W bn notes bs) (hs : ∀ b ∈ bs', b ∈ bs) : FS w W bn notes bs' := by
  obtain ⟨A, c, h1, h2, h3, h4, h5, h6⟩ := h
  exact ⟨A, c, h1, h2, h3, h4, h5, fun b hm => h6 b (hs b hm)⟩
theorem FS.base (h : FS w W bn notes bs) : Below w.heap.size w W := h.choose_spec.choose_spec.1
theorem FS.bk (h : FS w W bn notes bs) {g : Nat} {cs : List Value} {t : TypeId} (hm : (g, cs, t) ∈ bs) : Bk W g cs t := (h.choose_spec.choose_spec.2.2.2.2.2 _ hm).1
/-- a new block beside -/
theorem FS.push (h : FS w W bn notes bs) (cs : List Value) (t : TypeId) : FS w (W.alloc (.cells cs.toArray t)) bn notes ((W.heap.size, cs, t) :: bs) := by
  have h' := h.below (W' := W.alloc (.cells cs.toArray t)) (below_alloc0 _ (Below.refl _ _))
  obtain ⟨A, c, h1, h2, h3, h4, h5, h6⟩ := h
  obtain ⟨_, _, h1', h2', _, _, _, h6'⟩ := h'
  have hb : Below W.heap.size W (W.alloc (.cells cs.toArray t)) := below_alloc0 _ (Below.refl _ _)
  refine ⟨A, c, Below.own h1 hb, h2, h3.below hb, h4.below hb, h5, fun b hm => ?_⟩
  rcases List.mem_cons.1 hm with rfl | hm
  · refine ⟨by unfold Bk; show (W.heap.push _)[W.heap.size]? = _; simp, by have := h3.lt; omega, fun e => ?_⟩
    have := (h4.own_in e).2
    omega
  · exact ⟨(h6 b hm).1.below hb, (h6 b hm).2⟩
/-- a store into one of these blocks -/
theorem FS.put {g : Nat} {cs : List Value} {t : TypeId} (h : FS w W bn notes ((g, cs, t) :: bs)) (hg : w.heap.size ≤ g) (hne : ∀ b ∈ bs, b.1 ≠ g) (j : Nat) (v : Value) : FS w (W.setCell ⟨g, j, none⟩ v) bn notes ((g, cs.set j v, t) :: bs) := by
  obtain ⟨A, c, h1, h2, h3, h4, h5, h6⟩ := h
  obtain ⟨k1, k2, k3⟩ := h6 _ List.mem_cons_self
  have hgr := grownBy_setCell W g j v
  refine ⟨A, c, Below.put h1 hg, h2, h3.grown hgr (by simpa using Ne.symm k2), h4.kept hgr (.inr k3), h5, fun b hm => ?_⟩
  rcases List.mem_cons.1 hm with rfl | hm
  · exact ⟨k1.put j v, k2, k3⟩
  · obtain ⟨q1, q2, q3⟩ := h6 b (List.mem_cons_of_mem _ hm)
    exact ⟨q1.grown hgr (by simpa using hne b hm), q2, q3⟩
/-- one note more, stored -/
theorem FSat.note {W4 w5 : World} {A A' : Option Addr} {c c' : Nat} {x : Note} (h : FSat w W bn notes bs A c) (hb : Below W.heap.size W W4) (hown : Ow cNote 3 85 w5 w.heap.size (.slice A' (notes ++ [x]).length c') (notes ++ [x]))
    (hg : W4.grownBy w5 (Value.slice A notes.length c).ownBlock) (hat : (Value.slice A' (notes ++ [x]).length c').ownBlock = (Value.slice A notes.length c).ownBlock ∨ (Value.slice A' (notes ++ [x]).length c').ownBlock = some W4.heap.size) :
    FS w (w5.setCell ⟨bn, 0, none⟩ (.slice A' (notes ++ [x]).length c')) bn (notes ++ [x]) bs := by
  obtain ⟨h1, h2, h3, h4, h5, h6⟩ := h
  have hlt := h3.lt
  have hsz := hb.size
  have hne : (Value.slice A' (notes ++ [x]).length c').ownBlock ≠ some bn := by
    rcases hat with e | e
    · rw [e]; exact h5
    · rw [e]; intro e'; injection e' with e'; omega
  have hbase : Below w.heap.size w w5 := (Below.own h1 hb).grown hg (by have := h1.size; omega) (fun k hk => (h4.own_in hk).1)
  have hgr := grownBy_setCell w5 bn 0 (.slice A' (notes ++ [x]).length c')
  refine ⟨A', c', Below.put hbase h2, h2, ?_, hown.kept hgr (.inr hne), hne, fun b hm => ?_⟩
  · exact ((h3.below hb).grown hg (fun e => h5 e.symm)).put 0 _
  · obtain ⟨q1, q2, q3⟩ := h6 b hm
    refine ⟨((q1.below hb).grown hg (fun e => q3 e.symm)).grown hgr (by simpa using q2), q2, ?_⟩
    rcases hat with e | e
    · rw [e]; exact q3
    · rw [e]; intro e'; injection e' with e'; have := q1.lt; omega
end
def noteOf (ev : Event) (x : Watch) : Note := ⟨x.session, ev.kind, ev.path⟩
def notesOf (ev : Event) (l : List Watch) : List Note := (l.filter (fun x => touchB x ev)).map (noteOf ev)
set_option maxHeartbeats 1000000 in
theorem fireClosure (x : Watch) (ev : Event) (w W : World) (bn be : Nat) (notes : List Note) (bs : List (Nat × List Value × TypeId)) (h : FS w W bn notes bs) (he : (be, cEvent ev, 65) ∈ bs) (hn : (notes.length + 1) * 32 ≤ 140737488355328) :
    Calls Tryd.prog 60 #[.agg #[.int .i64 x.session, .int .i64 x.kind, .string x.path], .pointer (some ⟨be, 0, none⟩), .pointer (some ⟨bn, 0, none⟩)] W
      fun e W' => e = .returned (.bool (touchB x ev)) ∧ FS w W' bn (notes ++ notesOf ev [x]) bs := by
  have HF := Lib.hid h
  obtain ⟨A, c, hat0⟩ := h
  have HA0 := Lib.hid hat0
  obtain ⟨h1, h2, h3, h4, h5, h6⟩ := hat0
  have HT := Lib.hid (fun (W' : World) => touches_is x ev W')
  have e0 : W.cell? ⟨be, 0, none⟩ = some (.int .i64 ev.kind) := (h6 _ he).1.cell 0
  have e1 : W.cell? ⟨be, 1, none⟩ = some (.string ev.path) := (h6 _ he).1.cell 1
  have n0 : W.cell? ⟨bn, 0, none⟩ = some (.slice A notes.length c) := h3.cell 0
  have H3 := Lib.hid h3
  have H4 := Lib.hid h4
  have H5 := Lib.hid h5
  have hbW : w.heap.size ≤ W.heap.size := h1.size
  have hxn : notesOf ev [x] = if touchB x ev then [noteOf ev x] else [] := by
    unfold notesOf
    cases hh : touchB x ev <;> simp [hh]
  rw [hxn]
  clear h1 h2 h3 h4 h5 h6 hxn
  generalize touchB x ev = tb at *
  cases tb with
  | false =>
    simp only [Bool.false_eq_true, if_false, List.append_nil]
    go_enter Tryd.func60, Tryd.ntmps60
    go_wp2_with (first | (go_at_call 61; refine (HT.out _).mono ?_; rintro e w1 ⟨rfl, hb⟩; obtain ⟨ext, d, rfl⟩ := Below.grown_eq _ hb; clear hb))
    go_ret
    exact ⟨rfl, HF.out.below (by repeat (first | exact Below.refl _ _ | assumption | refine Below.drew ?_ | refine Below.drewN' ?_ _ | refine below_grow0 _ _ ?_ | refine below_alloc0 _ ?_ | refine Below.alloc ?_ (by first | omega | (simp; done) | (simp; omega)) _ | refine Below.setCell ?_ (by first | omega | (simp; done) | (simp; omega)) _ | refine Below.grow _ _ _ ?_ (by first | omega | (simp; done) | (simp; omega))))⟩
  | true =>
    simp only [if_true]
    go_enter Tryd.func60, Tryd.ntmps60
    go_wp2_with (first | (go_at_call 61; refine (HT.out _).mono ?_; rintro e w1 ⟨rfl, hb⟩; obtain ⟨ext, d, rfl⟩ := Below.grown_eq _ hb; clear hb) | (at_builtin; refine wpList_app _ rfl (.tmp 10) (.tmp 15) _ rfl elNote (B := w.heap.size) (l := notes) (m := [noteOf ev x]) rfl rfl (H4.out.below (by repeat (first | exact Below.refl _ _ | assumption | refine Below.drew ?_ | refine Below.drewN' ?_ _ | refine below_grow0 _ _ ?_ | refine below_alloc0 _ ?_ | refine Below.alloc ?_ (by first | omega | (simp; done) | (simp; omega)) _ | refine Below.setCell ?_ (by first | omega | (simp; done) | (simp; omega)) _ | refine Below.grow _ _ _ ?_ (by first | omega | (simp; done) | (simp; omega))))) (Sl.one_at cNote 3 _ _ _ rfl _ rfl (by omega) (by simp)) cNote_one (by simp [maxLen]; omega) (by simp; omega) (by simp; omega) ?_; intro v2 w2 hown2 hg2 hat2; obtain ⟨A2, c2, rfl, _⟩ := hown2.form; have HO2 := Lib.hid hown2; have HG2 : Hid (World.grownBy _ w2 (Value.slice A notes.length c).ownBlock) := Lib.hid hg2; have HA2 : Hid (_ = (Value.slice A notes.length c).ownBlock ∨ _ = some _) := Lib.hid hat2; have hb2 := (H3.out.below (by repeat (first | exact Below.refl _ _ | assumption | refine Below.drew ?_ | refine Below.drewN' ?_ _ | refine below_grow0 _ _ ?_ | refine below_alloc0 _ ?_ | refine Below.alloc ?_ (by first | omega | (simp; done) | (simp; omega)) _ | refine Below.setCell ?_ (by first | omega | (simp; done) | (simp; omega)) _ | refine Below.grow _ _ _ ?_ (by first | omega | (simp; done) | (simp; omega))))).grown HG2.out (fun e => H5.out e.symm); have cN : w2.cell? ⟨bn, 0, none⟩ = some (.slice A notes.length c) := hb2.cell 0; have fN : w2.frozen? ⟨bn, 0, none⟩ = false := hb2.frozen 0; clear hown2 hg2 hat2 hb2))
    go_ret
    have hf := HA0.out.note (by repeat (first | exact Below.refl _ _ | assumption | refine Below.drew ?_ | refine Below.drewN' ?_ _ | refine below_grow0 _ _ ?_ | refine below_alloc0 _ ?_ | refine Below.alloc ?_ (by first | omega | (simp; done) | (simp; omega)) _ | refine Below.setCell ?_ (by first | omega | (simp; done) | (simp; omega)) _ | refine Below.grow _ _ _ ?_ (by first | omega | (simp; done) | (simp; omega)))) HO2.out HG2.out HA2.out
    rw [List.length_append, List.length_singleton] at hf
    exact ⟨rfl, hf⟩
theorem bk_watch {W : World} {g k : Nat} {l : List Watch} {J : List Value} {t : TypeId} {x : Watch} (h : Bk W g (l.flatMap cWatch ++ J) t) (hx : l[k]? = some x) :
    W.cell? ⟨g, k * 3, none⟩ = some (.int .i64 x.session) ∧ W.cell? ⟨g, k * 3 + 1, none⟩ = some (.int .i64 x.kind) ∧ W.cell? ⟨g, k * 3 + 2, none⟩ = some (.string x.path) := by
  have key : ∀ j u, (cWatch x)[j]? = some u → W.cell? ⟨g, k * 3 + j, none⟩ = some u := by
    intro j u hu
    have h0 : (l.flatMap cWatch)[k * 3 + j]? = some u := flatMap_get (f := cWatch) (s := 3) (fun y _ => rfl) hx hu
    rw [h.cell, List.getElem?_append_left (List.getElem?_eq_some_iff.1 h0).1, h0]
  exact ⟨key 0 _ rfl, key 1 _ rfl, key 2 _ rfl⟩
theorem notesOf_one (ev : Event) (x : Watch) : notesOf ev [x] = if touchB x ev then [noteOf ev x] else [] := by
  unfold notesOf
  cases hh : touchB x ev <;> simp [hh]
theorem notesOf_append (ev : Event) (a b : List Watch) : notesOf ev (a ++ b) = notesOf ev a ++ notesOf ev b := by unfold notesOf; simp
def IdxIs (ev : Event) (w : World) (bn : Nat) (notes : List Note) (bs : List (Nat × List Value × TypeId)) (l : List Watch) (e : Ending) (W' : World) : Prop :=
  ((∀ x ∈ l, touchB x ev = false) ∧ e = .returned (.int .i64 (-1)) ∧ FS w W' bn notes bs) ∨
  (∃ (i : Nat) (x : Watch), (∀ x ∈ l.take i, touchB x ev = false) ∧ l[i]? = some x ∧ touchB x ev = true ∧ e = .returned (.int .i64 i) ∧ FS w W' bn (notes ++ [noteOf ev x]) bs)
set_option maxHeartbeats 1000000 in
theorem indexFire (ev : Event) (w W : World) (bn be gL c : Nat) (l : List Watch) (J : List Value) (notes : List Note) (bs : List (Nat × List Value × TypeId)) (h : FS w W bn notes bs) (he : (be, cEvent ev, 65) ∈ bs) (hl : (gL, l.flatMap cWatch ++ J, 35) ∈ bs)
    (hn : (notes.length + 1) * 32 ≤ 140737488355328) (hm : l.length ≤ 140737488355328) :
    Calls Tryd.prog 68 #[.slice (some ⟨gL, 0, none⟩) l.length c, .func (.func 60) #[] #[.pointer (some ⟨be, 0, none⟩), .pointer (some ⟨bn, 0, none⟩)]] W (IdxIs ev w bn notes bs l) := by
  have HF := Lib.hid h
  have HLm := Lib.hid hl
  have HC := Lib.hid (fun (x : Watch) (W' : World) (hf : FS w W' bn notes bs) => fireClosure x ev w W' bn be notes bs hf he hn)
  clear h hl he
  go_enter Tryd.func68, Tryd.ntmps68
  go_wp2_with fail
  go_loopw [8] (fun i wr => ∃ (k : Nat), k ≤ l.length ∧ i = .int .i64 k ∧ Hid (FS w wr bn notes bs) ∧ Hid (∀ x ∈ l.take k, touchB x ev = false)) (fun i _ => l.length - (intOf i).toNat)
  case atStart => exact ⟨0, Nat.zero_le _, rfl, HF, Lib.hid (by simp)⟩
  case round =>
    obtain ⟨k, hk, rfl, hf, hno⟩ := hrel
    by_cases hlt : k < l.length
    · have hx : l[k]? = some (l[k]'hlt) := List.getElem?_eq_getElem _
      obtain ⟨c0, c1, c2⟩ := bk_watch (hf.out.bk HLm.out) hx
      generalize hxe : l[k]'hlt = x at hx c0 c1 c2
      have HCX := Lib.hid (HC.out x _ hf.out)
      rw [notesOf_one] at HCX
      cases htb : touchB x ev with
      | true =>
        rw [htb] at HCX
        simp only [if_true] at HCX
        have HTB := Lib.hid htb
        clear htb
        go_wp2_with (first | (go_at_call 60; refine (HCX.out).mono ?_; rintro e w1 ⟨rfl, hf1⟩; have HF1 := Lib.hid hf1; clear hf1))
        go_ret
        exact .inr ⟨k, x, hno.out, hx, HTB.out, rfl, HF1.out⟩
      | false =>
        rw [htb] at HCX
        simp only [Bool.false_eq_true, if_false, List.append_nil] at HCX
        have HTB := Lib.hid htb
        clear htb
        go_wp2_with (first | (go_at_call 60; refine (HCX.out).mono ?_; rintro e w1 ⟨rfl, hf1⟩; have HF1 := Lib.hid hf1; clear hf1))
        go_roundw
        case rel => exact ⟨k + 1, by omega, by go_num, HF1, Lib.hid (fun y hy => by
          rw [List.take_add_one, hx, List.mem_append] at hy
          rcases hy with hy | hy
          · exact hno.out y hy
          · obtain rfl := List.mem_singleton.1 hy
            exact HTB.out)⟩
        case measure => simp [intOf]; omega
    · have hk' : k = l.length := by omega
      subst hk'
      go_wp2_with fail
      go_ret
      refine .inl ⟨fun x hx => hno.out x (by rw [List.take_length]; exact hx), rfl, hf.out⟩
theorem splice_nil (cs : List Value) (o : Nat) : splice cs o [] = cs := by simp [splice]
theorem splice_cons (cs : List Value) (o : Nat) (v : Value) (r : List Value) (hl : o + (r.length + 1) ≤ cs.length) : splice (cs.set o v) (o + 1) r = splice cs o (v :: r) := by
  unfold splice
  have h1 : (cs.set o v).take (o + 1) = cs.take o ++ [v] := by
    rw [List.take_add_one, List.getElem?_set_self (by omega), List.take_set_of_le (by omega)]
    rfl
  rw [h1, List.drop_set_of_lt (by omega), List.length_cons, show o + (r.length + 1) = o + 1 + r.length from by omega]
  simp
theorem set3 {l : List Watch} {J : List Value} {a : Nat} (ha : a < l.length) (x : Watch) :
    ((((l.flatMap cWatch ++ J).set (a * 3) (.int .i64 x.session)).set (a * 3 + 1) (.int .i64 x.kind)).set (a * 3 + 2) (.string x.path)) = (l.set a x).flatMap cWatch ++ J := by
  have hlen : (l.flatMap cWatch).length = l.length * 3 := flatMap_length (fun y _ => rfl)
  have hle : a * 3 + 3 ≤ (l.flatMap cWatch ++ J).length := by rw [List.length_append, hlen]; omega
  rw [← flatMap_set (f := cWatch) (s := 3) (fun y _ => rfl) ha x rfl J]
  show _ = splice _ (a * 3) [Value.int .i64 x.session, Value.int .i64 x.kind, Value.string x.path]
  rw [← splice_cons _ _ _ _ (by simpa using hle), ← splice_cons _ _ _ _ (by rw [List.length_set]; simpa using hle), ← splice_cons _ _ _ _ (by rw [List.length_set, List.length_set]; simpa using hle), splice_nil]
theorem FS.clr {w W W' : World} {bn g : Nat} {notes : List Note} {bs : List (Nat × List Value × TypeId)} {cs cs' : List Value} {t : TypeId} (h : FS w W bn notes ((g, cs, t) :: bs)) (hg : w.heap.size ≤ g) (hne : ∀ b ∈ bs, b.1 ≠ g) (hb : Bk W' g cs' t) (hgr : W.grownBy W' (some g)) : FS w W' bn notes ((g, cs', t) :: bs) := by
  obtain ⟨A, c, h1, h2, h3, h4, h5, h6⟩ := h
  obtain ⟨k1, k2, k3⟩ := h6 _ List.mem_cons_self
  refine ⟨A, c, h1.grown hgr h1.size (by rintro k ⟨⟩; exact hg), h2, h3.grown hgr (by simpa using Ne.symm k2), h4.kept hgr (.inr k3), h5, fun b hm => ?_⟩
  rcases List.mem_cons.1 hm with rfl | hm
  · exact ⟨hb, k2, k3⟩
  · obtain ⟨q1, q2, q3⟩ := h6 b (List.mem_cons_of_mem _ hm)
    exact ⟨q1.grown hgr (by simpa using hne b hm), q2, q3⟩
def keptOf (ev : Event) (l : List Watch) : List Watch := l.filter (fun x => !touchB x ev)
theorem kept_none {ev : Event} {l : List Watch} (h : ∀ x ∈ l, touchB x ev = false) : keptOf ev l = l ∧ notesOf ev l = [] := by
  constructor
  · exact List.filter_eq_self.2 (fun x hx => by simp [h x hx])
  · unfold notesOf
    rw [List.filter_eq_nil_iff.2 (fun x hx => by simp [h x hx])]
    rfl
theorem keptOf_append (ev : Event) (a b : List Watch) : keptOf ev (a ++ b) = keptOf ev a ++ keptOf ev b := by unfold keptOf; simp
def DelIs (ev : Event) (w : World) (bn gL c : Nat) (notes : List Note) (bs : List (Nat × List Value × TypeId)) (l : List Watch) (N : Nat) (e : Ending) (W' : World) : Prop :=
  ∃ J', e = .returned (.slice (some ⟨gL, 0, none⟩) (keptOf ev l).length c) ∧ FS w W' bn (notes ++ notesOf ev l) ((gL, (keptOf ev l).flatMap cWatch ++ J', 35) :: bs) ∧ ((keptOf ev l).flatMap cWatch ++ J').length = N
/-- the loop's state: 'a' places hold what stays of the first j, from j on all is as it was -/
def Mid (ev : Event) (l cur : List Watch) (a j : Nat) : Prop := a < j ∧ j ≤ l.length ∧ cur.length = l.length ∧ cur.take a = keptOf ev (l.take j) ∧ cur.drop j = l.drop j
theorem Mid.first {ev : Event} {l : List Watch} {i : Nat} {x : Watch} (h : ∀ x ∈ l.take i, touchB x ev = false) (hx : l[i]? = some x) (ht : touchB x ev = true) : Mid ev l l i (i + 1) ∧ notesOf ev (l.take (i + 1)) = [noteOf ev x] := by
  have hi : i < l.length := (List.getElem?_eq_some_iff.1 hx).1
  have e : l.take (i + 1) = l.take i ++ [x] := by rw [List.take_add_one, hx]; rfl
  refine ⟨⟨by omega, hi, rfl, ?_, rfl⟩, ?_⟩
  · rw [e, keptOf_append, (kept_none h).1]; simp [keptOf, ht]
  · rw [e, notesOf_append, (kept_none h).2, notesOf_one, ht]; rfl
theorem Mid.at_ {ev : Event} {l cur : List Watch} {a j : Nat} (h : Mid ev l cur a j) (_hj : j < l.length) : cur[j]? = l[j]? := by
  have := congrArg (fun q => q[0]?) h.2.2.2.2
  simpa using this
theorem Mid.hit {ev : Event} {l cur : List Watch} {a j : Nat} {x : Watch} (h : Mid ev l cur a j) (hx : l[j]? = some x) (ht : touchB x ev = true) : Mid ev l cur a (j + 1) := by
  obtain ⟨h1, h2, h3, h4, h5⟩ := h
  have hj : j < l.length := (List.getElem?_eq_some_iff.1 hx).1
  refine ⟨by omega, hj, h3, ?_, ?_⟩
  · rw [List.take_add_one, hx, keptOf_append, ← h4]; simp [keptOf, ht]
  · rw [← List.drop_drop, h5, List.drop_drop]
theorem Mid.miss {ev : Event} {l cur : List Watch} {a j : Nat} {x : Watch} (h : Mid ev l cur a j) (hx : l[j]? = some x) (ht : touchB x ev = false) : Mid ev l (cur.set a x) (a + 1) (j + 1) := by
  obtain ⟨h1, h2, h3, h4, h5⟩ := h
  have hj : j < l.length := (List.getElem?_eq_some_iff.1 hx).1
  refine ⟨by omega, hj, by rw [List.length_set]; exact h3, ?_, ?_⟩
  · rw [List.take_add_one, List.getElem?_set_self (by omega), List.take_set_of_le (by omega), List.take_add_one, hx, keptOf_append, ← h4]; simp [keptOf, ht]
  · rw [List.drop_set_of_lt (by omega), ← List.drop_drop, h5, List.drop_drop]
end Go.Proofs.YtkogdnkifnhljaaDoor
