/- watch.Add: slices.Index, slices.Contains at api.Watch; Add. -/
import Derived.Test.YtkogdnkifnhljaaDoorWatch
import Derived.Test.YtkogdnkifnhljaaDoorPath
namespace Go.Proofs.YtkogdnkifnhljaaDoor
open Go.RowKit Go.ChangeShapes Go.WideShapes Go.ChangeAt
def sameW (x y : Watch) : Bool := decide (x.session = y.session) && (decide (x.kind = y.kind) && decide (x.path = y.path))
theorem eql_watch (x y : Watch) (w : World) : (binOp .eql 35 (.agg #[.int .i64 x.session, .int .i64 x.kind, .string x.path]) (.agg #[.int .i64 y.session, .int .i64 y.kind, .string y.path])).run Tryd.prog w = .ok (.bool (sameW x y)) w := by
  simp [go_sem]
  unfold sameW
  (repeat' split) <;> simp_all
theorem sameW_iff {x y : Watch} : sameW x y = true ↔ x = y := by
  obtain ⟨a, b, c⟩ := x
  obtain ⟨d, e, f⟩ := y
  simp [sameW]
def hasW (l : List Watch) (x : Watch) : Bool := l.any (sameW x)
theorem hasW_iff {l : List Watch} {x : Watch} : hasW l x = true ↔ x ∈ l := by
  unfold hasW
  rw [List.any_eq_true]
  constructor
  · rintro ⟨y, hy, h⟩
    rw [sameW_iff.1 h]
    exact hy
  · intro h
    exact ⟨x, h, sameW_iff.2 rfl⟩
theorem hasW_no {l : List Watch} {x : Watch} (h : ∀ (j : Nat) (y : Watch), l[j]? = some y → sameW x y = false) : hasW l x = false := by
  unfold hasW
  rw [List.any_eq_false]
  intro y hy
  obtain ⟨j, hj⟩ := List.mem_iff_getElem?.1 hy
  rw [h j y hj]
  simp
theorem hasW_yes {l : List Watch} {x y : Watch} {j : Nat} (hj : l[j]? = some y) (h : sameW x y = true) : hasW l x = true := by
  unfold hasW
  rw [List.any_eq_true]
  exact ⟨y, List.mem_of_getElem? hj, h⟩
set_option maxHeartbeats 1000000 in
theorem indexW (v : Value) (l : List Watch) (x : Watch) (w : World) (h : Sl cWatch 3 w v l) (hn : l.length ≤ 140737488355328) :
    Calls Tryd.prog 57 #[v, .agg #[.int .i64 x.session, .int .i64 x.kind, .string x.path]] w fun e w' => (∃ i : Int, e = .returned (.int .i64 i) ∧ decide (i ≥ 0) = hasW l x) ∧ Below w.heap.size w w' := by
  obtain ⟨A, c, rfl, hc1, hc2⟩ := h.form
  have H := Lib.hid h
  clear h
  go_enter Tryd.func57, Tryd.ntmps57
  go_wp2_with fail
  go_loopw [8] (fun i wr => ∃ (k : Nat) (ext : Array Obj) (d : Nat), k ≤ l.length ∧ i = .int .i64 k ∧ wr = grow (w.alloc (.cells #[.int .i64 x.session, .int .i64 x.kind, .string x.path] 35)) ext d ∧ Hid (∀ (j : Nat) (y : Watch), j < k → l[j]? = some y → sameW x y = false)) (fun i _ => l.length - (intOf i).toNat)
  case atStart => exact ⟨0, _, _, Nat.zero_le _, rfl, grown_of (by repeat (first | exact Below.refl _ _ | assumption | refine Below.drew ?_ | refine Below.drewN' ?_ _ | refine below_grow0 _ _ ?_ | refine below_alloc0 _ ?_ | refine Below.alloc ?_ (by first | omega | (simp; done) | (simp; omega)) _ | refine Below.setCell ?_ (by first | omega | (simp; done) | (simp; omega)) _ | refine Below.grow _ _ _ ?_ (by first | omega | (simp; done) | (simp; omega)))), Lib.hid (fun j _ hj => absurd hj (by omega))⟩
  case round =>
    obtain ⟨k, ext, d, hk, rfl, rfl, hno⟩ := hrel
    by_cases hlt : k < l.length
    · have hx : l[k]? = some (l[k]'hlt) := List.getElem?_eq_getElem _
      obtain ⟨b, off, rfl, _, x0, x1, x2⟩ := H.out.Watch_at hx
      generalize l[k]'hlt = y at *
      have HX := Lib.hid hx
      clear hx
      have qE := fun w => eql_watch x y w
      generalize hsm : sameW x y = tb at *
      have HSM := Lib.hid hsm
      clear hsm
      cases tb with
      | true =>
        go_wp2_with fail
        go_quiet (fail)
        go_wp2_with fail
        go_ret
        exact ⟨⟨_, rfl, by rw [hasW_yes HX.out HSM.out]; simp⟩, (by repeat (first | exact Below.refl _ _ | assumption | refine Below.drew ?_ | refine Below.drewN' ?_ _ | refine below_grow0 _ _ ?_ | refine below_alloc0 _ ?_ | refine Below.alloc ?_ (by first | omega | (simp; done) | (simp; omega)) _ | refine Below.setCell ?_ (by first | omega | (simp; done) | (simp; omega)) _ | refine Below.grow _ _ _ ?_ (by first | omega | (simp; done) | (simp; omega))))⟩
      | false =>
        go_wp2_with fail
        go_quiet (fail)
        go_wp2_with fail
        go_roundw
        case rel => exact ⟨k + 1, _, _, by omega, by go_num, grown_of (by repeat (first | exact Below.refl _ _ | assumption | refine Below.drew ?_ | refine Below.drewN' ?_ _ | refine below_grow0 _ _ ?_ | refine below_alloc0 _ ?_ | refine Below.alloc ?_ (by first | omega | (simp; done) | (simp; omega)) _ | refine Below.setCell ?_ (by first | omega | (simp; done) | (simp; omega)) _ | refine Below.grow _ _ _ ?_ (by first | omega | (simp; done) | (simp; omega)))), Lib.hid (fun j z hj hz => by
          rcases Nat.lt_or_ge j k with h | h
          · exact hno.out j z h hz
          · obtain rfl : j = k := by omega
            rw [HX.out] at hz
            injection hz with hz
            rw [← hz]
            exact HSM.out)⟩
        case measure => simp [intOf]; omega
    · go_wp2_with fail
      go_ret
      exact ⟨⟨_, rfl, by rw [hasW_no (fun j y hj => hno.out j y (by have := (List.getElem?_eq_some_iff.1 hj).1; omega) hj)]; simp⟩, (by repeat (first | exact Below.refl _ _ | assumption | refine Below.drew ?_ | refine Below.drewN' ?_ _ | refine below_grow0 _ _ ?_ | refine below_alloc0 _ ?_ | refine Below.alloc ?_ (by first | omega | (simp; done) | (simp; omega)) _ | refine Below.setCell ?_ (by first | omega | (simp; done) | (simp; omega)) _ | refine Below.grow _ _ _ ?_ (by first | omega | (simp; done) | (simp; omega))))⟩
theorem containsW (v : Value) (l : List Watch) (x : Watch) (w : World) (h : Sl cWatch 3 w v l) (hn : l.length ≤ 140737488355328) :
    Calls Tryd.prog 41 #[v, .agg #[.int .i64 x.session, .int .i64 x.kind, .string x.path]] w fun e w' => e = .returned (.bool (hasW l x)) ∧ Below w.heap.size w w' := by
  obtain ⟨A, c, rfl, hc1, hc2⟩ := h.form
  have H := Lib.hid h
  clear h
  go_enter Tryd.func41, Tryd.ntmps41
  go_wp2_with (go_at_call 57; refine (indexW _ l x _ (H.out.alloc _) hn).mono ?_; rintro e w1 ⟨⟨i, rfl, hi⟩, hb⟩; obtain ⟨ext1, d1, rfl⟩ := Below.grown_eq _ hb; clear hb)
  go_ret
  exact ⟨rfl, (by repeat (first | exact Below.refl _ _ | assumption | refine Below.drew ?_ | refine Below.drewN' ?_ _ | refine below_grow0 _ _ ?_ | refine below_alloc0 _ ?_ | refine Below.alloc ?_ (by first | omega | (simp; done) | (simp; omega)) _ | refine Below.setCell ?_ (by first | omega | (simp; done) | (simp; omega)) _ | refine Below.grow _ _ _ ?_ (by first | omega | (simp; done) | (simp; omega))))⟩
theorem wpList_mk {P : Program} {w : World} {ops : Array Oper} {rest : List Oper} {o : Oper} {a : Act} {Q : Exit → Act → World → Prop} (hgd : o.guard = none) (x y : Operand) (t : TypeId) (ho : o.op = Op.makeSlice t x y)
    {α : Type} {f : α → List Value} {s : Nat} {e : TypeId} {z : Value} {bytes : Nat} (E : El P t e z s bytes) {B n : Nat} {C : Int} (hx : a.eval x = .int .i64 0) (hy : a.eval y = .int .i64 C) (hC : C = (n : Int))
    (hbytes : n * bytes ≤ 140737488355328) (hn : n ≤ maxLen) (hbase : B ≤ w.heap.size)
    (h : ∀ w', Ow f s e w' B (.slice (some ⟨w.heap.size, 0, none⟩) 0 n) [] → w.grownBy w' none → wpList P ops Q rest (a.put o.dst (.slice (some ⟨w.heap.size, 0, none⟩) 0 n)) w') : wpList P ops Q (o :: rest) a w := by
  obtain ⟨i, hi, hz⟩ := Option.map_eq_some_iff.1 E.info
  simp only [Prod.mk.injEq] at hz
  obtain ⟨z1, z2, z3⟩ := hz
  refine wpList_make_own w hgd x y t ho B e i z s E.slice hi z1 z2 .i64 .i64 C n hx hy hC ?_ hn hbase ?_
  · rw [z3, Nat.mul_comm]; omega
  · intro w' h1 h2
    exact h w' ⟨h1, by simp⟩ h2
/-- a list of watches of the call's own, and an error's number -/
def WtRes (l : List Watch) (c : Int) (w : World) (e : Ending) (w' : World) : Prop := ∃ A k, e = .returned (.tuple #[.slice A l.length k, .int .i64 c]) ∧ Ow cWatch 3 35 w' w.heap.size (.slice A l.length k) l ∧ Below w.heap.size w w'
def kindW (x : Watch) : Bool := decide (x.kind = 1) || decide (x.kind = 2)
def okW (x : Watch) : Prop := kindW x = true ∧ goodP x.path = true ∧ 1 ≤ x.session ∧ x.session ≤ 2147483647
instance (x : Watch) : Decidable (okW x) := by unfold okW; exact inferInstance
def addE (l : List Watch) (x : Watch) : Int := if okW x then (if hasW l x then 0 else if 400 ≤ l.length then 6 else 0) else (if kindW x then (if goodP x.path then 3 else 2) else 4)
def addL (l : List Watch) (x : Watch) : List Watch := if okW x then (if hasW l x then l else if 400 ≤ l.length then [] else l ++ [x]) else []
set_option maxHeartbeats 1000000 in
theorem add_no (v : Value) (x : Watch) (w : World) (hp : x.path.size ≤ 9223372036854775807) (hno : ¬ okW x) :
    Calls Tryd.prog 20 #[v, .agg #[.int .i64 x.session, .int .i64 x.kind, .string x.path]] w (WtRes [] (if kindW x then (if goodP x.path then 3 else 2) else 4) w) := by
  have HG := Lib.hid (fun (W : World) => good_any x.path W hp)
  by_cases k1 : x.kind = 1
  · have hk : kindW x = true := by unfold kindW; rw [k1]; rfl
    have b1 : (x.kind != 1) = false := by rw [k1]; rfl
    rw [if_pos hk]
    cases hg : goodP x.path with
    | false =>
      rw [hg] at HG
      simp only [Bool.false_eq_true, if_false]
      clear hg hno hk k1
      go_enter Tryd.func20, Tryd.ntmps20
      go_wp2_with (go_at_call 16; refine (HG.out _).mono ?_; rintro e w1 ⟨rfl, hb⟩; obtain ⟨ext1, d1, rfl⟩ := Below.grown_eq _ hb; clear hb HG)
      refine bodyPost_ret (v := .tuple #[.slice none 0 0, .int .i64 2]) (by simp [results, Tryd.results20, go_sem]) rfl ⟨none, 0, rfl, Ow.nil _ _ _ _ _, (by repeat (first | exact Below.refl _ _ | assumption | refine Below.drew ?_ | refine Below.drewN' ?_ _ | refine below_grow0 _ _ ?_ | refine below_alloc0 _ ?_ | refine Below.alloc ?_ (by first | omega | (simp; done) | (simp; omega)) _ | refine Below.setCell ?_ (by first | omega | (simp; done) | (simp; omega)) _ | refine Below.grow _ _ _ ?_ (by first | omega | (simp; done) | (simp; omega))))⟩
    | true =>
      rw [hg] at HG
      rw [if_pos rfl]
      have hs : x.session < 1 ∨ (1 ≤ x.session ∧ 2147483647 < x.session) := by
        unfold okW at hno
        rcases Int.lt_or_le x.session 1 with h | h
        · exact .inl h
        · refine .inr ⟨h, Int.not_le.1 fun h2 => hno ⟨hk, hg, h, h2⟩⟩
      clear hg hno hk k1
      rcases hs with hs | ⟨hs1, hs2⟩
      · go_enter Tryd.func20, Tryd.ntmps20
        go_wp2_with (go_at_call 16; refine (HG.out _).mono ?_; rintro e w1 ⟨rfl, hb⟩; obtain ⟨ext1, d1, rfl⟩ := Below.grown_eq _ hb; clear hb HG)
        refine bodyPost_ret (v := .tuple #[.slice none 0 0, .int .i64 3]) (by simp [results, Tryd.results20, go_sem]) rfl ⟨none, 0, rfl, Ow.nil _ _ _ _ _, (by repeat (first | exact Below.refl _ _ | assumption | refine Below.drew ?_ | refine Below.drewN' ?_ _ | refine below_grow0 _ _ ?_ | refine below_alloc0 _ ?_ | refine Below.alloc ?_ (by first | omega | (simp; done) | (simp; omega)) _ | refine Below.setCell ?_ (by first | omega | (simp; done) | (simp; omega)) _ | refine Below.grow _ _ _ ?_ (by first | omega | (simp; done) | (simp; omega))))⟩
      · go_enter Tryd.func20, Tryd.ntmps20
        go_wp2_with (go_at_call 16; refine (HG.out _).mono ?_; rintro e w1 ⟨rfl, hb⟩; obtain ⟨ext1, d1, rfl⟩ := Below.grown_eq _ hb; clear hb HG)
        refine bodyPost_ret (v := .tuple #[.slice none 0 0, .int .i64 3]) (by simp [results, Tryd.results20, go_sem]) rfl ⟨none, 0, rfl, Ow.nil _ _ _ _ _, (by repeat (first | exact Below.refl _ _ | assumption | refine Below.drew ?_ | refine Below.drewN' ?_ _ | refine below_grow0 _ _ ?_ | refine below_alloc0 _ ?_ | refine Below.alloc ?_ (by first | omega | (simp; done) | (simp; omega)) _ | refine Below.setCell ?_ (by first | omega | (simp; done) | (simp; omega)) _ | refine Below.grow _ _ _ ?_ (by first | omega | (simp; done) | (simp; omega))))⟩
  · have b1 : (x.kind != 1) = true := by simpa using k1
    by_cases k2 : x.kind = 2
    · have hk : kindW x = true := by unfold kindW; rw [k2]; rfl
      have b2 : (x.kind != 2) = false := by rw [k2]; rfl
      rw [if_pos hk]
      cases hg : goodP x.path with
      | false =>
        rw [hg] at HG
        simp only [Bool.false_eq_true, if_false]
        clear hg hno hk k1 k2
        go_enter Tryd.func20, Tryd.ntmps20
        go_wp2_with (go_at_call 16; refine (HG.out _).mono ?_; rintro e w1 ⟨rfl, hb⟩; obtain ⟨ext1, d1, rfl⟩ := Below.grown_eq _ hb; clear hb HG)
        refine bodyPost_ret (v := .tuple #[.slice none 0 0, .int .i64 2]) (by simp [results, Tryd.results20, go_sem]) rfl ⟨none, 0, rfl, Ow.nil _ _ _ _ _, (by repeat (first | exact Below.refl _ _ | assumption | refine Below.drew ?_ | refine Below.drewN' ?_ _ | refine below_grow0 _ _ ?_ | refine below_alloc0 _ ?_ | refine Below.alloc ?_ (by first | omega | (simp; done) | (simp; omega)) _ | refine Below.setCell ?_ (by first | omega | (simp; done) | (simp; omega)) _ | refine Below.grow _ _ _ ?_ (by first | omega | (simp; done) | (simp; omega))))⟩
      | true =>
        rw [hg] at HG
        rw [if_pos rfl]
        have hs : x.session < 1 ∨ (1 ≤ x.session ∧ 2147483647 < x.session) := by
          unfold okW at hno
          rcases Int.lt_or_le x.session 1 with h | h
          · exact .inl h
          · refine .inr ⟨h, Int.not_le.1 fun h2 => hno ⟨hk, hg, h, h2⟩⟩
        clear hg hno hk k1 k2
        rcases hs with hs | ⟨hs1, hs2⟩
        · go_enter Tryd.func20, Tryd.ntmps20
          go_wp2_with (go_at_call 16; refine (HG.out _).mono ?_; rintro e w1 ⟨rfl, hb⟩; obtain ⟨ext1, d1, rfl⟩ := Below.grown_eq _ hb; clear hb HG)
          refine bodyPost_ret (v := .tuple #[.slice none 0 0, .int .i64 3]) (by simp [results, Tryd.results20, go_sem]) rfl ⟨none, 0, rfl, Ow.nil _ _ _ _ _, (by repeat (first | exact Below.refl _ _ | assumption | refine Below.drew ?_ | refine Below.drewN' ?_ _ | refine below_grow0 _ _ ?_ | refine below_alloc0 _ ?_ | refine Below.alloc ?_ (by first | omega | (simp; done) | (simp; omega)) _ | refine Below.setCell ?_ (by first | omega | (simp; done) | (simp; omega)) _ | refine Below.grow _ _ _ ?_ (by first | omega | (simp; done) | (simp; omega))))⟩
        · go_enter Tryd.func20, Tryd.ntmps20
          go_wp2_with (go_at_call 16; refine (HG.out _).mono ?_; rintro e w1 ⟨rfl, hb⟩; obtain ⟨ext1, d1, rfl⟩ := Below.grown_eq _ hb; clear hb HG)
          refine bodyPost_ret (v := .tuple #[.slice none 0 0, .int .i64 3]) (by simp [results, Tryd.results20, go_sem]) rfl ⟨none, 0, rfl, Ow.nil _ _ _ _ _, (by repeat (first | exact Below.refl _ _ | assumption | refine Below.drew ?_ | refine Below.drewN' ?_ _ | refine below_grow0 _ _ ?_ | refine below_alloc0 _ ?_ | refine Below.alloc ?_ (by first | omega | (simp; done) | (simp; omega)) _ | refine Below.setCell ?_ (by first | omega | (simp; done) | (simp; omega)) _ | refine Below.grow _ _ _ ?_ (by first | omega | (simp; done) | (simp; omega))))⟩
    · have b2 : (x.kind != 2) = true := by simpa using k2
      have hk : kindW x = false := by unfold kindW; rw [decide_eq_false k1, decide_eq_false k2]; rfl
      rw [hk]
      simp only [Bool.false_eq_true, if_false]
      clear hno hk k1 k2
      go_enter Tryd.func20, Tryd.ntmps20
      go_wp2_with fail
      refine bodyPost_ret (v := .tuple #[.slice none 0 0, .int .i64 4]) (by simp [results, Tryd.results20, go_sem]) rfl ⟨none, 0, rfl, Ow.nil _ _ _ _ _, (by repeat (first | exact Below.refl _ _ | assumption | refine Below.drew ?_ | refine Below.drewN' ?_ _ | refine below_grow0 _ _ ?_ | refine below_alloc0 _ ?_ | refine Below.alloc ?_ (by first | omega | (simp; done) | (simp; omega)) _ | refine Below.setCell ?_ (by first | omega | (simp; done) | (simp; omega)) _ | refine Below.grow _ _ _ ?_ (by first | omega | (simp; done) | (simp; omega))))⟩
set_option maxRecDepth 100000 in
set_option maxHeartbeats 1000000 in
theorem add_yes (v : Value) (l : List Watch) (x : Watch) (w : World) (h : Sl cWatch 3 w v l) (hn : (l.length + 1) * 32 ≤ 140737488355328) (hp : x.path.size ≤ 9223372036854775807) (hok : okW x) :
    Calls Tryd.prog 20 #[v, .agg #[.int .i64 x.session, .int .i64 x.kind, .string x.path]] w (WtRes (if hasW l x then l else if 400 ≤ l.length then [] else l ++ [x]) (if hasW l x then 0 else if 400 ≤ l.length then 6 else 0) w) := by
  obtain ⟨A, c, rfl, hc1, hc2⟩ := h.form
  have H := Lib.hid h
  obtain ⟨hk, hg, hs1, hs2⟩ := hok
  have HG := Lib.hid (fun (W : World) => by
    have h := good_any x.path W hp
    rw [hg] at h
    exact h)
  have HC := Lib.hid (fun (W : World) (hs : Sl cWatch 3 W (.slice A l.length c) l) => containsW _ l x W hs (by omega))
  clear h
  generalize hasW l x = hw at *
  clear hg
  have hkk : (x.kind != 1) = false ∨ ((x.kind != 1) = true ∧ (x.kind != 2) = false) := by
    unfold kindW at hk
    simp only [Bool.or_eq_true, decide_eq_true_iff] at hk
    by_cases k1 : x.kind = 1
    · left; rw [k1]; rfl
    · rcases hk with h | h
      · exact absurd h k1
      · right; exact ⟨by simpa using k1, by rw [h]; rfl⟩
  clear hk
  cases hw with
  | true =>
    simp only [if_true]
    rcases hkk with b1 | ⟨b1, b2⟩
    · go_enter Tryd.func20, Tryd.ntmps20
      go_wp2_with (first | (go_at_call 16; refine (HG.out _).mono ?_; rintro e w1 ⟨rfl, hb⟩; obtain ⟨ext1, d1, rfl⟩ := Below.grown_eq _ hb; clear hb HG) | (refine wpList_mk rfl (.const (.int .i64 0)) (.tmp 32) 33 rfl elWatch (f := cWatch) (B := w.heap.size + 1) (n := l.length + 1) rfl rfl (by simp) hn (by simp [maxLen] <;> omega) (by simp <;> omega) ?_; intro w1 hown1 hg1; obtain ⟨ext2, d2, rfl⟩ := Below.grown_eq _ (Below.of_grown hg1); clear hg1) | (at_builtin; refine wpList_app _ rfl (.tmp 33) (.tmp 34) _ rfl elWatch (m := l) (v := .slice (some ⟨w.heap.size + 1 + ext1.size, 0, none⟩) 0 (l.length + 1)) rfl rfl (by simpa using hown1) (H.out.below (by repeat (first | exact Below.refl _ _ | assumption | refine Below.drew ?_ | refine Below.drewN' ?_ _ | refine below_grow0 _ _ ?_ | refine below_alloc0 _ ?_ | refine Below.alloc ?_ (by first | omega | (simp; done) | (simp; omega)) _ | refine Below.setCell ?_ (by first | omega | (simp; done) | (simp; omega)) _ | refine Below.grow _ _ _ ?_ (by first | omega | (simp; done) | (simp; omega))))) cWatch_one (by simp [maxLen] <;> omega) (by simp <;> omega) (by simp <;> omega) ?_; intro v2 w2 hown2 hg2 _; rw [List.nil_append] at hown2; obtain ⟨A2, k2, rfl, _⟩ := hown2.form; obtain ⟨ext3, d3, rfl⟩ := grown_after (W := w.alloc (.cells #[.int .i64 x.session, .int .i64 x.kind, .string x.path] 35)) (by repeat (first | exact Below.refl _ _ | assumption | refine Below.drew ?_ | refine Below.drewN' ?_ _ | refine below_grow0 _ _ ?_ | refine below_alloc0 _ ?_ | refine Below.alloc ?_ (by first | omega | (simp; done) | (simp; omega)) _ | refine Below.setCell ?_ (by first | omega | (simp; done) | (simp; omega)) _ | refine Below.grow _ _ _ ?_ (by first | omega | (simp; done) | (simp; omega)))) hg2 (by intro k hk; simp [Value.ownBlock] at hk ⊢; omega); have HO2 := Lib.hid hown2; clear hown1 hown2 hg2))
      refine (HC.out _ (H.out.below (by repeat (first | exact Below.refl _ _ | assumption | refine Below.drew ?_ | refine Below.drewN' ?_ _ | refine below_grow0 _ _ ?_ | refine below_alloc0 _ ?_ | refine Below.alloc ?_ (by first | omega | (simp; done) | (simp; omega)) _ | refine Below.setCell ?_ (by first | omega | (simp; done) | (simp; omega)) _ | refine Below.grow _ _ _ ?_ (by first | omega | (simp; done) | (simp; omega)))))).mono ?_
      rintro e w4 ⟨rfl, hb4⟩
      obtain ⟨ext4, d4, rfl⟩ := Below.grown_eq _ hb4
      clear hb4
      go_wp2_with fail
      refine bodyPost_ret (v := .tuple #[.slice A2 l.length k2, .int .i64 0]) (by simp [results, Tryd.results20, go_sem]) rfl ⟨A2, k2, rfl, (HO2.out.below (by repeat (first | exact Below.refl _ _ | assumption | refine Below.drew ?_ | refine Below.drewN' ?_ _ | refine below_grow0 _ _ ?_ | refine below_alloc0 _ ?_ | refine Below.alloc ?_ (by first | omega | (simp; done) | (simp; omega)) _ | refine Below.setCell ?_ (by first | omega | (simp; done) | (simp; omega)) _ | refine Below.grow _ _ _ ?_ (by first | omega | (simp; done) | (simp; omega))))).mono (by omega), (by repeat (first | exact Below.refl _ _ | assumption | refine Below.drew ?_ | refine Below.drewN' ?_ _ | refine below_grow0 _ _ ?_ | refine below_alloc0 _ ?_ | refine Below.alloc ?_ (by first | omega | (simp; done) | (simp; omega)) _ | refine Below.setCell ?_ (by first | omega | (simp; done) | (simp; omega)) _ | refine Below.grow _ _ _ ?_ (by first | omega | (simp; done) | (simp; omega))))⟩
    · go_enter Tryd.func20, Tryd.ntmps20
      go_wp2_with (first | (go_at_call 16; refine (HG.out _).mono ?_; rintro e w1 ⟨rfl, hb⟩; obtain ⟨ext1, d1, rfl⟩ := Below.grown_eq _ hb; clear hb HG) | (refine wpList_mk rfl (.const (.int .i64 0)) (.tmp 32) 33 rfl elWatch (f := cWatch) (B := w.heap.size + 1) (n := l.length + 1) rfl rfl (by simp) hn (by simp [maxLen] <;> omega) (by simp <;> omega) ?_; intro w1 hown1 hg1; obtain ⟨ext2, d2, rfl⟩ := Below.grown_eq _ (Below.of_grown hg1); clear hg1) | (at_builtin; refine wpList_app _ rfl (.tmp 33) (.tmp 34) _ rfl elWatch (m := l) (v := .slice (some ⟨w.heap.size + 1 + ext1.size, 0, none⟩) 0 (l.length + 1)) rfl rfl (by simpa using hown1) (H.out.below (by repeat (first | exact Below.refl _ _ | assumption | refine Below.drew ?_ | refine Below.drewN' ?_ _ | refine below_grow0 _ _ ?_ | refine below_alloc0 _ ?_ | refine Below.alloc ?_ (by first | omega | (simp; done) | (simp; omega)) _ | refine Below.setCell ?_ (by first | omega | (simp; done) | (simp; omega)) _ | refine Below.grow _ _ _ ?_ (by first | omega | (simp; done) | (simp; omega))))) cWatch_one (by simp [maxLen] <;> omega) (by simp <;> omega) (by simp <;> omega) ?_; intro v2 w2 hown2 hg2 _; rw [List.nil_append] at hown2; obtain ⟨A2, k2, rfl, _⟩ := hown2.form; obtain ⟨ext3, d3, rfl⟩ := grown_after (W := w.alloc (.cells #[.int .i64 x.session, .int .i64 x.kind, .string x.path] 35)) (by repeat (first | exact Below.refl _ _ | assumption | refine Below.drew ?_ | refine Below.drewN' ?_ _ | refine below_grow0 _ _ ?_ | refine below_alloc0 _ ?_ | refine Below.alloc ?_ (by first | omega | (simp; done) | (simp; omega)) _ | refine Below.setCell ?_ (by first | omega | (simp; done) | (simp; omega)) _ | refine Below.grow _ _ _ ?_ (by first | omega | (simp; done) | (simp; omega)))) hg2 (by intro k hk; simp [Value.ownBlock] at hk ⊢; omega); have HO2 := Lib.hid hown2; clear hown1 hown2 hg2))
      refine (HC.out _ (H.out.below (by repeat (first | exact Below.refl _ _ | assumption | refine Below.drew ?_ | refine Below.drewN' ?_ _ | refine below_grow0 _ _ ?_ | refine below_alloc0 _ ?_ | refine Below.alloc ?_ (by first | omega | (simp; done) | (simp; omega)) _ | refine Below.setCell ?_ (by first | omega | (simp; done) | (simp; omega)) _ | refine Below.grow _ _ _ ?_ (by first | omega | (simp; done) | (simp; omega)))))).mono ?_
      rintro e w4 ⟨rfl, hb4⟩
      obtain ⟨ext4, d4, rfl⟩ := Below.grown_eq _ hb4
      clear hb4
      go_wp2_with fail
      refine bodyPost_ret (v := .tuple #[.slice A2 l.length k2, .int .i64 0]) (by simp [results, Tryd.results20, go_sem]) rfl ⟨A2, k2, rfl, (HO2.out.below (by repeat (first | exact Below.refl _ _ | assumption | refine Below.drew ?_ | refine Below.drewN' ?_ _ | refine below_grow0 _ _ ?_ | refine below_alloc0 _ ?_ | refine Below.alloc ?_ (by first | omega | (simp; done) | (simp; omega)) _ | refine Below.setCell ?_ (by first | omega | (simp; done) | (simp; omega)) _ | refine Below.grow _ _ _ ?_ (by first | omega | (simp; done) | (simp; omega))))).mono (by omega), (by repeat (first | exact Below.refl _ _ | assumption | refine Below.drew ?_ | refine Below.drewN' ?_ _ | refine below_grow0 _ _ ?_ | refine below_alloc0 _ ?_ | refine Below.alloc ?_ (by first | omega | (simp; done) | (simp; omega)) _ | refine Below.setCell ?_ (by first | omega | (simp; done) | (simp; omega)) _ | refine Below.grow _ _ _ ?_ (by first | omega | (simp; done) | (simp; omega))))⟩
  | false =>
    simp only [Bool.false_eq_true, if_false]
    by_cases h400 : 400 ≤ l.length
    · have hi4 : (decide ((400 : Int) ≤ (l.length : Int))) = true := decide_eq_true (by omega)
      simp only [if_pos h400]
      rcases hkk with b1 | ⟨b1, b2⟩
      · go_enter Tryd.func20, Tryd.ntmps20
        go_wp2_with (first | (go_at_call 16; refine (HG.out _).mono ?_; rintro e w1 ⟨rfl, hb⟩; obtain ⟨ext1, d1, rfl⟩ := Below.grown_eq _ hb; clear hb HG) | (refine wpList_mk rfl (.const (.int .i64 0)) (.tmp 32) 33 rfl elWatch (f := cWatch) (B := w.heap.size + 1) (n := l.length + 1) rfl rfl (by simp) hn (by simp [maxLen] <;> omega) (by simp <;> omega) ?_; intro w1 hown1 hg1; obtain ⟨ext2, d2, rfl⟩ := Below.grown_eq _ (Below.of_grown hg1); clear hg1) | (at_builtin; refine wpList_app _ rfl (.tmp 33) (.tmp 34) _ rfl elWatch (m := l) (v := .slice (some ⟨w.heap.size + 1 + ext1.size, 0, none⟩) 0 (l.length + 1)) rfl rfl (by simpa using hown1) (H.out.below (by repeat (first | exact Below.refl _ _ | assumption | refine Below.drew ?_ | refine Below.drewN' ?_ _ | refine below_grow0 _ _ ?_ | refine below_alloc0 _ ?_ | refine Below.alloc ?_ (by first | omega | (simp; done) | (simp; omega)) _ | refine Below.setCell ?_ (by first | omega | (simp; done) | (simp; omega)) _ | refine Below.grow _ _ _ ?_ (by first | omega | (simp; done) | (simp; omega))))) cWatch_one (by simp [maxLen] <;> omega) (by simp <;> omega) (by simp <;> omega) ?_; intro v2 w2 hown2 hg2 _; rw [List.nil_append] at hown2; obtain ⟨A2, k2, rfl, _⟩ := hown2.form; obtain ⟨ext3, d3, rfl⟩ := grown_after (W := w.alloc (.cells #[.int .i64 x.session, .int .i64 x.kind, .string x.path] 35)) (by repeat (first | exact Below.refl _ _ | assumption | refine Below.drew ?_ | refine Below.drewN' ?_ _ | refine below_grow0 _ _ ?_ | refine below_alloc0 _ ?_ | refine Below.alloc ?_ (by first | omega | (simp; done) | (simp; omega)) _ | refine Below.setCell ?_ (by first | omega | (simp; done) | (simp; omega)) _ | refine Below.grow _ _ _ ?_ (by first | omega | (simp; done) | (simp; omega)))) hg2 (by intro k hk; simp [Value.ownBlock] at hk ⊢; omega); have HO2 := Lib.hid hown2; clear hown1 hown2 hg2))
        refine (HC.out _ (H.out.below (by repeat (first | exact Below.refl _ _ | assumption | refine Below.drew ?_ | refine Below.drewN' ?_ _ | refine below_grow0 _ _ ?_ | refine below_alloc0 _ ?_ | refine Below.alloc ?_ (by first | omega | (simp; done) | (simp; omega)) _ | refine Below.setCell ?_ (by first | omega | (simp; done) | (simp; omega)) _ | refine Below.grow _ _ _ ?_ (by first | omega | (simp; done) | (simp; omega)))))).mono ?_
        rintro e w4 ⟨rfl, hb4⟩
        obtain ⟨ext4, d4, rfl⟩ := Below.grown_eq _ hb4
        clear hb4
        go_wp2_with fail
        refine bodyPost_ret (v := .tuple #[.slice none 0 0, .int .i64 6]) (by simp [results, Tryd.results20, go_sem]) rfl ⟨none, 0, rfl, Ow.nil _ _ _ _ _, (by repeat (first | exact Below.refl _ _ | assumption | refine Below.drew ?_ | refine Below.drewN' ?_ _ | refine below_grow0 _ _ ?_ | refine below_alloc0 _ ?_ | refine Below.alloc ?_ (by first | omega | (simp; done) | (simp; omega)) _ | refine Below.setCell ?_ (by first | omega | (simp; done) | (simp; omega)) _ | refine Below.grow _ _ _ ?_ (by first | omega | (simp; done) | (simp; omega))))⟩
      · go_enter Tryd.func20, Tryd.ntmps20
        go_wp2_with (first | (go_at_call 16; refine (HG.out _).mono ?_; rintro e w1 ⟨rfl, hb⟩; obtain ⟨ext1, d1, rfl⟩ := Below.grown_eq _ hb; clear hb HG) | (refine wpList_mk rfl (.const (.int .i64 0)) (.tmp 32) 33 rfl elWatch (f := cWatch) (B := w.heap.size + 1) (n := l.length + 1) rfl rfl (by simp) hn (by simp [maxLen] <;> omega) (by simp <;> omega) ?_; intro w1 hown1 hg1; obtain ⟨ext2, d2, rfl⟩ := Below.grown_eq _ (Below.of_grown hg1); clear hg1) | (at_builtin; refine wpList_app _ rfl (.tmp 33) (.tmp 34) _ rfl elWatch (m := l) (v := .slice (some ⟨w.heap.size + 1 + ext1.size, 0, none⟩) 0 (l.length + 1)) rfl rfl (by simpa using hown1) (H.out.below (by repeat (first | exact Below.refl _ _ | assumption | refine Below.drew ?_ | refine Below.drewN' ?_ _ | refine below_grow0 _ _ ?_ | refine below_alloc0 _ ?_ | refine Below.alloc ?_ (by first | omega | (simp; done) | (simp; omega)) _ | refine Below.setCell ?_ (by first | omega | (simp; done) | (simp; omega)) _ | refine Below.grow _ _ _ ?_ (by first | omega | (simp; done) | (simp; omega))))) cWatch_one (by simp [maxLen] <;> omega) (by simp <;> omega) (by simp <;> omega) ?_; intro v2 w2 hown2 hg2 _; rw [List.nil_append] at hown2; obtain ⟨A2, k2, rfl, _⟩ := hown2.form; obtain ⟨ext3, d3, rfl⟩ := grown_after (W := w.alloc (.cells #[.int .i64 x.session, .int .i64 x.kind, .string x.path] 35)) (by repeat (first | exact Below.refl _ _ | assumption | refine Below.drew ?_ | refine Below.drewN' ?_ _ | refine below_grow0 _ _ ?_ | refine below_alloc0 _ ?_ | refine Below.alloc ?_ (by first | omega | (simp; done) | (simp; omega)) _ | refine Below.setCell ?_ (by first | omega | (simp; done) | (simp; omega)) _ | refine Below.grow _ _ _ ?_ (by first | omega | (simp; done) | (simp; omega)))) hg2 (by intro k hk; simp [Value.ownBlock] at hk ⊢; omega); have HO2 := Lib.hid hown2; clear hown1 hown2 hg2))
        refine (HC.out _ (H.out.below (by repeat (first | exact Below.refl _ _ | assumption | refine Below.drew ?_ | refine Below.drewN' ?_ _ | refine below_grow0 _ _ ?_ | refine below_alloc0 _ ?_ | refine Below.alloc ?_ (by first | omega | (simp; done) | (simp; omega)) _ | refine Below.setCell ?_ (by first | omega | (simp; done) | (simp; omega)) _ | refine Below.grow _ _ _ ?_ (by first | omega | (simp; done) | (simp; omega)))))).mono ?_
        rintro e w4 ⟨rfl, hb4⟩
        obtain ⟨ext4, d4, rfl⟩ := Below.grown_eq _ hb4
        clear hb4
        go_wp2_with fail
        refine bodyPost_ret (v := .tuple #[.slice none 0 0, .int .i64 6]) (by simp [results, Tryd.results20, go_sem]) rfl ⟨none, 0, rfl, Ow.nil _ _ _ _ _, (by repeat (first | exact Below.refl _ _ | assumption | refine Below.drew ?_ | refine Below.drewN' ?_ _ | refine below_grow0 _ _ ?_ | refine below_alloc0 _ ?_ | refine Below.alloc ?_ (by first | omega | (simp; done) | (simp; omega)) _ | refine Below.setCell ?_ (by first | omega | (simp; done) | (simp; omega)) _ | refine Below.grow _ _ _ ?_ (by first | omega | (simp; done) | (simp; omega))))⟩
    · have hi4 : (decide ((400 : Int) ≤ (l.length : Int))) = false := decide_eq_false (by omega)
      simp only [if_neg h400]
      rcases hkk with b1 | ⟨b1, b2⟩
      · go_enter Tryd.func20, Tryd.ntmps20
        go_wp2_with (first | (go_at_call 16; refine (HG.out _).mono ?_; rintro e w1 ⟨rfl, hb⟩; obtain ⟨ext1, d1, rfl⟩ := Below.grown_eq _ hb; clear hb HG) | (refine wpList_mk rfl (.const (.int .i64 0)) (.tmp 32) 33 rfl elWatch (f := cWatch) (B := w.heap.size + 1) (n := l.length + 1) rfl rfl (by simp) hn (by simp [maxLen] <;> omega) (by simp <;> omega) ?_; intro w1 hown1 hg1; obtain ⟨ext2, d2, rfl⟩ := Below.grown_eq _ (Below.of_grown hg1); clear hg1) | (at_builtin; refine wpList_app _ rfl (.tmp 33) (.tmp 34) _ rfl elWatch (m := l) (v := .slice (some ⟨w.heap.size + 1 + ext1.size, 0, none⟩) 0 (l.length + 1)) rfl rfl (by simpa using hown1) (H.out.below (by repeat (first | exact Below.refl _ _ | assumption | refine Below.drew ?_ | refine Below.drewN' ?_ _ | refine below_grow0 _ _ ?_ | refine below_alloc0 _ ?_ | refine Below.alloc ?_ (by first | omega | (simp; done) | (simp; omega)) _ | refine Below.setCell ?_ (by first | omega | (simp; done) | (simp; omega)) _ | refine Below.grow _ _ _ ?_ (by first | omega | (simp; done) | (simp; omega))))) cWatch_one (by simp [maxLen] <;> omega) (by simp <;> omega) (by simp <;> omega) ?_; intro v2 w2 hown2 hg2 _; rw [List.nil_append] at hown2; obtain ⟨A2, k2, rfl, _⟩ := hown2.form; obtain ⟨ext3, d3, rfl⟩ := grown_after (W := w.alloc (.cells #[.int .i64 x.session, .int .i64 x.kind, .string x.path] 35)) (by repeat (first | exact Below.refl _ _ | assumption | refine Below.drew ?_ | refine Below.drewN' ?_ _ | refine below_grow0 _ _ ?_ | refine below_alloc0 _ ?_ | refine Below.alloc ?_ (by first | omega | (simp; done) | (simp; omega)) _ | refine Below.setCell ?_ (by first | omega | (simp; done) | (simp; omega)) _ | refine Below.grow _ _ _ ?_ (by first | omega | (simp; done) | (simp; omega)))) hg2 (by intro k hk; simp [Value.ownBlock] at hk ⊢; omega); have HO2 := Lib.hid hown2; clear hown1 hown2 hg2))
        refine (HC.out _ (H.out.below (by repeat (first | exact Below.refl _ _ | assumption | refine Below.drew ?_ | refine Below.drewN' ?_ _ | refine below_grow0 _ _ ?_ | refine below_alloc0 _ ?_ | refine Below.alloc ?_ (by first | omega | (simp; done) | (simp; omega)) _ | refine Below.setCell ?_ (by first | omega | (simp; done) | (simp; omega)) _ | refine Below.grow _ _ _ ?_ (by first | omega | (simp; done) | (simp; omega)))))).mono ?_
        rintro e w4 ⟨rfl, hb4⟩
        obtain ⟨ext4, d4, rfl⟩ := Below.grown_eq _ hb4
        clear hb4
        go_wp2_with (at_builtin; refine wpList_app _ rfl (.tmp 43) (.tmp 45) _ rfl elWatch (m := [x]) (v := .slice A2 l.length k2) rfl rfl (by exact (HO2.out.below (by repeat (first | exact Below.refl _ _ | assumption | refine Below.drew ?_ | refine Below.drewN' ?_ _ | refine below_grow0 _ _ ?_ | refine below_alloc0 _ ?_ | refine Below.alloc ?_ (by first | omega | (simp; done) | (simp; omega)) _ | refine Below.setCell ?_ (by first | omega | (simp; done) | (simp; omega)) _ | refine Below.grow _ _ _ ?_ (by first | omega | (simp; done) | (simp; omega))))).alloc _) (by exact Sl.one_at cWatch 3 _ _ _ rfl _ rfl (by omega) (by simp)) cWatch_one (by simp [maxLen] <;> omega) (by simp <;> omega) (by simp <;> omega) ?_; intro v5 w5 hown5 hg5 _)
        obtain ⟨A5, k5, rfl, _⟩ := hown5.form
        obtain ⟨ext5, d5, rfl⟩ := grown_after (W := w.alloc (.cells #[.int .i64 x.session, .int .i64 x.kind, .string x.path] 35)) (by repeat (first | exact Below.refl _ _ | assumption | refine Below.drew ?_ | refine Below.drewN' ?_ _ | refine below_grow0 _ _ ?_ | refine below_alloc0 _ ?_ | refine Below.alloc ?_ (by first | omega | (simp; done) | (simp; omega)) _ | refine Below.setCell ?_ (by first | omega | (simp; done) | (simp; omega)) _ | refine Below.grow _ _ _ ?_ (by first | omega | (simp; done) | (simp; omega)))) hg5 (by intro k hk; have := (HO2.out.own_in hk).1; simp at this ⊢; omega)
        refine bodyPost_ret (v := .tuple #[.slice A5 (l ++ [x]).length k5, .int .i64 0]) (by simp [results, Tryd.results20, go_sem]) rfl ⟨A5, k5, rfl, hown5.mono (by omega), (by repeat (first | exact Below.refl _ _ | assumption | refine Below.drew ?_ | refine Below.drewN' ?_ _ | refine below_grow0 _ _ ?_ | refine below_alloc0 _ ?_ | refine Below.alloc ?_ (by first | omega | (simp; done) | (simp; omega)) _ | refine Below.setCell ?_ (by first | omega | (simp; done) | (simp; omega)) _ | refine Below.grow _ _ _ ?_ (by first | omega | (simp; done) | (simp; omega))))⟩
      · go_enter Tryd.func20, Tryd.ntmps20
        go_wp2_with (first | (go_at_call 16; refine (HG.out _).mono ?_; rintro e w1 ⟨rfl, hb⟩; obtain ⟨ext1, d1, rfl⟩ := Below.grown_eq _ hb; clear hb HG) | (refine wpList_mk rfl (.const (.int .i64 0)) (.tmp 32) 33 rfl elWatch (f := cWatch) (B := w.heap.size + 1) (n := l.length + 1) rfl rfl (by simp) hn (by simp [maxLen] <;> omega) (by simp <;> omega) ?_; intro w1 hown1 hg1; obtain ⟨ext2, d2, rfl⟩ := Below.grown_eq _ (Below.of_grown hg1); clear hg1) | (at_builtin; refine wpList_app _ rfl (.tmp 33) (.tmp 34) _ rfl elWatch (m := l) (v := .slice (some ⟨w.heap.size + 1 + ext1.size, 0, none⟩) 0 (l.length + 1)) rfl rfl (by simpa using hown1) (H.out.below (by repeat (first | exact Below.refl _ _ | assumption | refine Below.drew ?_ | refine Below.drewN' ?_ _ | refine below_grow0 _ _ ?_ | refine below_alloc0 _ ?_ | refine Below.alloc ?_ (by first | omega | (simp; done) | (simp; omega)) _ | refine Below.setCell ?_ (by first | omega | (simp; done) | (simp; omega)) _ | refine Below.grow _ _ _ ?_ (by first | omega | (simp; done) | (simp; omega))))) cWatch_one (by simp [maxLen] <;> omega) (by simp <;> omega) (by simp <;> omega) ?_; intro v2 w2 hown2 hg2 _; rw [List.nil_append] at hown2; obtain ⟨A2, k2, rfl, _⟩ := hown2.form; obtain ⟨ext3, d3, rfl⟩ := grown_after (W := w.alloc (.cells #[.int .i64 x.session, .int .i64 x.kind, .string x.path] 35)) (by repeat (first | exact Below.refl _ _ | assumption | refine Below.drew ?_ | refine Below.drewN' ?_ _ | refine below_grow0 _ _ ?_ | refine below_alloc0 _ ?_ | refine Below.alloc ?_ (by first | omega | (simp; done) | (simp; omega)) _ | refine Below.setCell ?_ (by first | omega | (simp; done) | (simp; omega)) _ | refine Below.grow _ _ _ ?_ (by first | omega | (simp; done) | (simp; omega)))) hg2 (by intro k hk; simp [Value.ownBlock] at hk ⊢; omega); have HO2 := Lib.hid hown2; clear hown1 hown2 hg2))
        refine (HC.out _ (H.out.below (by repeat (first | exact Below.refl _ _ | assumption | refine Below.drew ?_ | refine Below.drewN' ?_ _ | refine below_grow0 _ _ ?_ | refine below_alloc0 _ ?_ | refine Below.alloc ?_ (by first | omega | (simp; done) | (simp; omega)) _ | refine Below.setCell ?_ (by first | omega | (simp; done) | (simp; omega)) _ | refine Below.grow _ _ _ ?_ (by first | omega | (simp; done) | (simp; omega)))))).mono ?_
        rintro e w4 ⟨rfl, hb4⟩
        obtain ⟨ext4, d4, rfl⟩ := Below.grown_eq _ hb4
        clear hb4
        go_wp2_with (at_builtin; refine wpList_app _ rfl (.tmp 43) (.tmp 45) _ rfl elWatch (m := [x]) (v := .slice A2 l.length k2) rfl rfl (by exact (HO2.out.below (by repeat (first | exact Below.refl _ _ | assumption | refine Below.drew ?_ | refine Below.drewN' ?_ _ | refine below_grow0 _ _ ?_ | refine below_alloc0 _ ?_ | refine Below.alloc ?_ (by first | omega | (simp; done) | (simp; omega)) _ | refine Below.setCell ?_ (by first | omega | (simp; done) | (simp; omega)) _ | refine Below.grow _ _ _ ?_ (by first | omega | (simp; done) | (simp; omega))))).alloc _) (by exact Sl.one_at cWatch 3 _ _ _ rfl _ rfl (by omega) (by simp)) cWatch_one (by simp [maxLen] <;> omega) (by simp <;> omega) (by simp <;> omega) ?_; intro v5 w5 hown5 hg5 _)
        obtain ⟨A5, k5, rfl, _⟩ := hown5.form
        obtain ⟨ext5, d5, rfl⟩ := grown_after (W := w.alloc (.cells #[.int .i64 x.session, .int .i64 x.kind, .string x.path] 35)) (by repeat (first | exact Below.refl _ _ | assumption | refine Below.drew ?_ | refine Below.drewN' ?_ _ | refine below_grow0 _ _ ?_ | refine below_alloc0 _ ?_ | refine Below.alloc ?_ (by first | omega | (simp; done) | (simp; omega)) _ | refine Below.setCell ?_ (by first | omega | (simp; done) | (simp; omega)) _ | refine Below.grow _ _ _ ?_ (by first | omega | (simp; done) | (simp; omega)))) hg5 (by intro k hk; have := (HO2.out.own_in hk).1; simp at this ⊢; omega)
        refine bodyPost_ret (v := .tuple #[.slice A5 (l ++ [x]).length k5, .int .i64 0]) (by simp [results, Tryd.results20, go_sem]) rfl ⟨A5, k5, rfl, hown5.mono (by omega), (by repeat (first | exact Below.refl _ _ | assumption | refine Below.drew ?_ | refine Below.drewN' ?_ _ | refine below_grow0 _ _ ?_ | refine below_alloc0 _ ?_ | refine Below.alloc ?_ (by first | omega | (simp; done) | (simp; omega)) _ | refine Below.setCell ?_ (by first | omega | (simp; done) | (simp; omega)) _ | refine Below.grow _ _ _ ?_ (by first | omega | (simp; done) | (simp; omega))))⟩
theorem add_any (v : Value) (l : List Watch) (x : Watch) (w : World) (h : Sl cWatch 3 w v l) (hn : (l.length + 1) * 32 ≤ 140737488355328) (hp : x.path.size ≤ 9223372036854775807) :
    Calls Tryd.prog 20 #[v, .agg #[.int .i64 x.session, .int .i64 x.kind, .string x.path]] w (WtRes (addL l x) (addE l x) w) := by
  unfold addL addE
  by_cases hok : okW x
  · rw [if_pos hok, if_pos hok]
    exact add_yes v l x w h hn hp hok
  · rw [if_neg hok, if_neg hok]
    exact add_no v x w hp hok
theorem addE_0 {l : List Watch} {x : Watch} (h : addE l x = 0) : x ∈ addL l x ∧ l <+: addL l x ∧ addE (addL l x) x = 0 ∧ addL (addL l x) x = addL l x := by
  unfold addE at h
  unfold addL
  by_cases hok : okW x
  · rw [if_pos hok] at h ⊢
    cases hw : hasW l x with
    | true =>
      simp only [if_true]
      refine ⟨hasW_iff.1 hw, List.prefix_refl _, ?_, ?_⟩
      · unfold addE; rw [if_pos hok, if_pos hw]
      · rw [if_pos hok, if_pos hw]
    | false =>
      rw [hw] at h
      simp only [Bool.false_eq_true, if_false] at h ⊢
      by_cases h4 : 400 ≤ l.length
      · rw [if_pos h4] at h; cases h
      · rw [if_neg h4]
        have hw2 : hasW (l ++ [x]) x = true := hasW_iff.2 (by simp)
        refine ⟨by simp, List.prefix_append _ _, ?_, ?_⟩
        · unfold addE; rw [if_pos hok, if_pos hw2]
        · rw [if_pos hok, if_pos hw2]
  · rw [if_neg hok] at h
    split at h
    · split at h <;> cases h
    · cases h
theorem addE_no {l : List Watch} {x : Watch} (h : addE l x ≠ 0) : addL l x = [] := by
  unfold addE at h
  unfold addL
  by_cases hok : okW x
  · rw [if_pos hok] at h ⊢
    cases hw : hasW l x with
    | true => rw [hw] at h; simp at h
    | false =>
      rw [hw] at h
      simp only [Bool.false_eq_true, if_false] at h ⊢
      by_cases h4 : 400 ≤ l.length
      · rw [if_pos h4]
      · rw [if_neg h4] at h; simp at h
  · rw [if_neg hok]
end Go.Proofs.YtkogdnkifnhljaaDoor
