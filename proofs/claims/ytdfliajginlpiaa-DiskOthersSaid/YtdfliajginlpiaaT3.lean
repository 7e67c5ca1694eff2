import Derived.Test.YtdfliajginlpiaaBs
namespace Go.Proofs.Ytdfliajginlpiaa
open Go.RowKit
def bs3 (s : ByteArray) : List UInt8 := s.data.toList
def cmpB (a b : ByteArray) : Int := Lib.compareBytes a.data.toList b.data.toList
/-- is the k-th of these texts less? -/
def ltK (ks : List ByteArray) (p : ByteArray) (k : Nat) : Bool := decide (cmpB (ks.getD k ByteArray.empty) p < 0)
def posK (ks : List ByteArray) (p : ByteArray) : Nat := bsr (ltK ks p) 0 ks.length
def isK (ks : List ByteArray) (p : ByteArray) : Bool := decide (posK ks p < ks.length) && decide (cmpB (ks.getD (posK ks p) ByteArray.empty) p = 0)

theorem cmpEntry (x : Entry) (p : ByteArray) (w : World) :
    Calls Try.prog 39 #[.agg #[.string x.path, .string x.data, .bool x.there_], .string p] w fun e w' => e = .returned (.int .i64 (cmpB x.path p)) ∧ Below w.heap.size w w' := by
  go_enter Try.func39, Try.ntmps39
  go_wp2_with (go_at_call 40; refine (Try.strings_Compare _ _ _).mono ?_; rintro e w1 ⟨rfl, rfl⟩)
  go_ret
  exact ⟨rfl, (by repeat (first | exact Below.refl _ _ | assumption | refine Below.drew ?_ | refine Below.drewN' ?_ _ | refine below_grow0 _ _ ?_ | refine below_alloc0 _ ?_ | refine Below.alloc ?_ (by first | omega | (simp; done) | (simp; omega)) _ | refine Below.setCell ?_ (by first | omega | (simp; done) | (simp; omega)) _ | refine Below.grow _ _ _ ?_ (by first | omega | (simp; done) | (simp; omega))))⟩

theorem ltK_of {α : Type} {g : α → ByteArray} {l : List α} {k : Nat} {x : α} (h : l[k]? = some x) (p : ByteArray) : ltK (l.map g) p k = decide (cmpB (g x) p < 0) := by
  unfold ltK
  rw [List.getD_eq_getElem?_getD, List.getElem?_map, h]
  rfl
theorem isK_in {α : Type} {g : α → ByteArray} {l : List α} {p : ByteArray} {k : Nat} {x : α} (hp : posK (l.map g) p = k) (h : l[k]? = some x) : isK (l.map g) p = (cmpB (g x) p == 0) := by
  have hk : k < l.length := (List.getElem?_eq_some_iff.1 h).1
  unfold isK
  rw [hp, List.getD_eq_getElem?_getD, List.getElem?_map, h]
  simp [hk]
  rfl
theorem isK_out {α : Type} {g : α → ByteArray} {l : List α} {p : ByteArray} {k : Nat} (hp : posK (l.map g) p = k) (h : ¬ k < l.length) : isK (l.map g) p = false := by
  unfold isK
  rw [hp]
  simp
  omega
set_option maxHeartbeats 1000000 in
theorem bsfEntry (v : Value) (l : List Entry) (p : ByteArray) (w : World) (h : Sl cEntry 3 w v l) (hn : l.length ≤ 140737488355328) :
    Calls Try.prog 38 #[v, .string p, .func (.func 39) #[] #[]] w fun e w' => e = .returned (.tuple #[.int .i64 (posK (l.map Entry.path) p), .bool (isK (l.map Entry.path) p)]) ∧ Below w.heap.size w w' := by
  obtain ⟨A, c, rfl, hc1, hc2⟩ := h.form
  have H := Lib.hid h
  clear h
  go_enter Try.func38, Try.ntmps38
  go_wp2
  go_loopw [9, 10] (fun i j wr => ∃ (a b : Nat), a ≤ b ∧ b ≤ l.length ∧ i = .int .i64 a ∧ j = .int .i64 b ∧ Hid (bsr (ltK (l.map Entry.path) p) a b = posK (l.map Entry.path) p) ∧ Below w.heap.size w wr) (fun i j _ => (intOf j - intOf i).toNat)
  case atStart => exact ⟨0, l.length, Nat.zero_le _, Nat.le_refl _, rfl, rfl, (by simp [posK] : bsr (ltK (l.map Entry.path) p) 0 l.length = posK (l.map Entry.path) p), Below.refl _ _⟩
  case round =>
    obtain ⟨a, b, hab, hbl, rfl, rfl, hr, hb⟩ := hrel
    by_cases hlt : a < b
    · have hx : l[(a + b) / 2]? = some (l[(a + b) / 2]'(by omega)) := List.getElem?_eq_getElem _
      obtain ⟨bk, off, rfl, hbw, c0, c1, c2⟩ := (H.out.below hb).Entry_at hx
      generalize hxe : l[(a + b) / 2]'(by omega) = x at hx c0 c1 c2
      have HX := Lib.hid hx
      clear hx hxe
      go_wp2_with (go_at_call 39; refine (cmpEntry _ _ _).mono ?_; rintro e w1 ⟨rfl, hb1⟩; obtain ⟨ext1, d1, rfl⟩ := Below.grown_eq _ hb1)
      all_goals
        have hcmp := ltK_of (g := Entry.path) HX.out p
        go_roundw
      case rel =>
        have hlt2 : cmpB x.path p < 0 := by assumption
        exact ⟨(a + b) / 2 + 1, b, by omega, by omega, by go_num, rfl, Eq.trans (bsr_up _ _ _ hlt (by rw [hcmp]; simpa using hlt2)).symm hr.out, (by repeat (first | exact Below.refl _ _ | assumption | refine Below.drew ?_ | refine Below.drewN' ?_ _ | refine below_grow0 _ _ ?_ | refine below_alloc0 _ ?_ | refine Below.alloc ?_ (by first | omega | (simp; done) | (simp; omega)) _ | refine Below.setCell ?_ (by first | omega | (simp; done) | (simp; omega)) _ | refine Below.grow _ _ _ ?_ (by first | omega | (simp; done) | (simp; omega))))⟩
      case measure => simp [intOf]; omega
      case rel =>
        have hge2 : 0 ≤ cmpB x.path p := by assumption
        exact ⟨a, (a + b) / 2, by omega, by omega, rfl, by go_num, Eq.trans (bsr_down _ _ _ hlt (by rw [hcmp]; simpa using hge2)).symm hr.out, (by repeat (first | exact Below.refl _ _ | assumption | refine Below.drew ?_ | refine Below.drewN' ?_ _ | refine below_grow0 _ _ ?_ | refine below_alloc0 _ ?_ | refine Below.alloc ?_ (by first | omega | (simp; done) | (simp; omega)) _ | refine Below.setCell ?_ (by first | omega | (simp; done) | (simp; omega)) _ | refine Below.grow _ _ _ ?_ (by first | omega | (simp; done) | (simp; omega))))⟩
      case measure => simp [intOf]; omega
    · obtain rfl : a = b := by omega
      have hpos : posK (l.map Entry.path) p = a := by rw [← hr.out]; exact bsr_end _ _ _ hlt
      have HP := Lib.hid hpos
      clear hpos hr
      by_cases han : a < l.length
      · have hx : l[a]? = some (l[a]'(by omega)) := List.getElem?_eq_getElem _
        obtain ⟨bk, off, rfl, hbw, c0, c1, c2⟩ := (H.out.below hb).Entry_at hx
        generalize hxe : l[a]'(by omega) = x at hx c0 c1 c2
        have HX := Lib.hid hx
        clear hx hxe
        go_wp2_with (go_at_call 39; refine (cmpEntry _ _ _).mono ?_; rintro e w1 ⟨rfl, hb1⟩; obtain ⟨ext1, d1, rfl⟩ := Below.grown_eq _ hb1)
        go_ret2
        refine ⟨?_, (by repeat (first | exact Below.refl _ _ | assumption | refine Below.drew ?_ | refine Below.drewN' ?_ _ | refine below_grow0 _ _ ?_ | refine below_alloc0 _ ?_ | refine Below.alloc ?_ (by first | omega | (simp; done) | (simp; omega)) _ | refine Below.setCell ?_ (by first | omega | (simp; done) | (simp; omega)) _ | refine Below.grow _ _ _ ?_ (by first | omega | (simp; done) | (simp; omega))))⟩
        rw [isK_in HP.out HX.out, HP.out]
        rfl
      · go_wp2
        go_ret2
        refine ⟨?_, (by repeat (first | exact Below.refl _ _ | assumption | refine Below.drew ?_ | refine Below.drewN' ?_ _ | refine below_grow0 _ _ ?_ | refine below_alloc0 _ ?_ | refine Below.alloc ?_ (by first | omega | (simp; done) | (simp; omega)) _ | refine Below.setCell ?_ (by first | omega | (simp; done) | (simp; omega)) _ | refine Below.grow _ _ _ ?_ (by first | omega | (simp; done) | (simp; omega))))⟩
        rw [isK_out HP.out han, HP.out]
        rfl
end Go.Proofs.Ytdfliajginlpiaa
