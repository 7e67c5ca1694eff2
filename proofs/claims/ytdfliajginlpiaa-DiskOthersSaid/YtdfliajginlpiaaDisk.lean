/- package disk: find, copied, Good. -/
import Derived.Test.YtdfliajginlpiaaT5F
import Derived.Test.YtdfliajginlpiaaT3F
import Derived.Test.YtdfliajginlpiaaOrder
import Derived.Test.YtdfliajginlpiaaPathA
namespace Go.Proofs.Ytdfliajginlpiaa
open Go.RowKit Go.ChangeShapes Go.WideShapes Go.ChangeAt
theorem dkFind (v : Value) (l : List File) (p : ByteArray) (w : World) (h : Sl cFile 3 w v l) (hn : l.length ≤ 140737488355328) :
    Calls Try.prog 31 #[.agg #[v], .string p] w fun e w' => e = .returned (.tuple #[.int .i64 (posK (l.map File.name) p), .bool (isK (l.map File.name) p)]) ∧ Below w.heap.size w w' := by
  obtain ⟨A, c, rfl, h1, h2⟩ := h.form
  have H := Lib.hid h
  clear h
  go_enter Try.func31, Try.ntmps31
  go_wp2_with (go_at_call 43; refine (bsfFile _ _ _ _ (H.out.alloc _) hn).mono ?_; rintro e w1 ⟨rfl, hb⟩; obtain ⟨ext, d, rfl⟩ := Below.grown_eq _ hb)
  go_ret2
  exact ⟨rfl, (by repeat (first | exact Below.refl _ _ | assumption | refine Below.drew ?_ | refine Below.drewN' ?_ _ | refine below_grow0 _ _ ?_ | refine below_alloc0 _ ?_ | refine Below.alloc ?_ (by first | omega | (simp; done) | (simp; omega)) _ | refine Below.setCell ?_ (by first | omega | (simp; done) | (simp; omega)) _ | refine Below.grow _ _ _ ?_ (by first | omega | (simp; done) | (simp; omega))))⟩
/-- a disk of the call's own -/
def DkIs (l : List File) (w : World) (e : Ending) (w' : World) : Prop := ∃ A c, e = .returned (.agg #[.slice A l.length c]) ∧ Ow cFile 3 47 w' w.heap.size (.slice A l.length c) l ∧ Below w.heap.size w w'
set_option maxHeartbeats 400000 in
theorem dkCopied (v : Value) (l : List File) (w : World) (h : Sl cFile 3 w v l) (hn : l.length * 48 ≤ 140737488355328) (hm : l.length ≤ maxLen) :
    Calls Try.prog 29 #[.agg #[v]] w (DkIs l w) := by
  obtain ⟨A, c, rfl, h1, h2⟩ := h.form
  have H := Lib.hid h
  clear h
  go_enter Try.func29, Try.ntmps29
  go_wp2_with (go_at_call 42; refine (cloneFile _ _ _ ((H.out.alloc _).alloc _) hn hm).mono ?_; rintro e w1 ⟨A', c', rfl, hown, hb⟩; obtain ⟨ext, d, rfl⟩ := Below.grown_eq _ hb)
  refine bodyPost_ret (v := .agg #[.slice A' l.length c']) (by simp [results, Try.results29, go_sem]) rfl ⟨A', c', rfl, ?_, ?_⟩
  · exact (hown.regrow (Nat.le_refl _) (by simp)).mono (by simp; omega)
  · exact (by repeat (first | exact Below.refl _ _ | assumption | refine Below.drew ?_ | refine Below.drewN' ?_ _ | refine below_grow0 _ _ ?_ | refine below_alloc0 _ ?_ | refine Below.alloc ?_ (by first | omega | (simp; done) | (simp; omega)) _ | refine Below.setCell ?_ (by first | omega | (simp; done) | (simp; omega)) _ | refine Below.grow _ _ _ ?_ (by first | omega | (simp; done) | (simp; omega))))
theorem not_less_of_cmp {a b : ByteArray} (h : ¬ cmpB a b < 0) : Op.bytesLess a.toList b.toList = false := by
  rw [ByteArray.toList_eq, ByteArray.toList_eq, less_of_cb]
  exact decide_eq_false h
theorem retB {a b : Bool} (h : a = b) : Ending.returned (.bool a) = Ending.returned (.bool b) := by rw [h]
def okF (x : File) : Bool := named (bs x.name) && decide (x.safe.size + x.tail.size ≤ 1048576)
def stepF (l : List File) (i : Nat) : Bool := match l[i]? with
  | none => true
  | some x => okF x && (match i with | 0 => true | j + 1 => match l[j]? with | some y => decide (cmpB y.name x.name < 0) | none => true)
def goodD (l : List File) : Bool := decide (l.length ≤ 16) && (List.range l.length).all (stepF l)
theorem goodD_no {l : List File} {i : Nat} (h : stepF l i = false) : goodD l = false := by
  have hi : i < l.length := by
    apply Classical.byContradiction
    intro hn
    unfold stepF at h
    rw [List.getElem?_eq_none (by omega)] at h
    cases h
  unfold goodD
  rw [Bool.and_eq_false_iff]
  refine .inr ?_
  rw [List.all_eq_false]
  exact ⟨i, List.mem_range.2 hi, by simp [h]⟩
theorem goodD_yes {l : List File} (h : ∀ i, i < l.length → stepF l i = true) (h16 : l.length ≤ 16) : goodD l = true := by
  unfold goodD
  rw [Bool.and_eq_true, List.all_eq_true]
  exact ⟨decide_eq_true h16, fun i hi => h i (List.mem_range.1 hi)⟩
def File.sized (x : File) : Prop := x.name.size ≤ 9223372036854775807 ∧ x.safe.size ≤ 140737488355328 ∧ x.tail.size ≤ 140737488355328
set_option maxHeartbeats 2000000 in
theorem dkGood (v : Value) (l : List File) (w : World) (h : Sl cFile 3 w v l) (hz : ∀ x ∈ l, x.sized) :
    Calls Try.prog 21 #[.agg #[v]] w fun e w' => e = .returned (.bool (goodD l)) ∧ Below w.heap.size w w' := by
  obtain ⟨A, c, rfl, hc1, hc2⟩ := h.form
  have H := Lib.hid h
  have HZ := Lib.hid hz
  clear h hz
  by_cases h16 : l.length ≤ 16
  · have h16i : (decide ((16 : Int) < (l.length : Int))) = false := decide_eq_false (by omega)
    go_enter Try.func21, Try.ntmps21
    go_wp2_with fail
    go_loopw [12] (fun i wr => ∃ (k : Nat) (ext : Array Obj) (d : Nat), k ≤ l.length ∧ i = .int .i64 k ∧ wr = grow (w.alloc (.cells #[.slice A l.length c] 40)) ext d ∧ Hid (∀ j, j < k → stepF l j = true)) (fun i _ => l.length - (intOf i).toNat)
    case atStart => exact ⟨0, _, _, Nat.zero_le _, rfl, grown_of (by repeat (first | exact Below.refl _ _ | assumption | refine Below.drew ?_ | refine Below.drewN' ?_ _ | refine below_grow0 _ _ ?_ | refine below_alloc0 _ ?_ | refine Below.alloc ?_ (by first | omega | (simp; done) | (simp; omega)) _ | refine Below.setCell ?_ (by first | omega | (simp; done) | (simp; omega)) _ | refine Below.grow _ _ _ ?_ (by first | omega | (simp; done) | (simp; omega)))), Lib.hid (fun j hj => absurd hj (by omega))⟩
    case round =>
      obtain ⟨k, ext, d, hk, rfl, rfl, hok⟩ := hrel
      by_cases hlt : k < l.length
      · have hx : l[k]? = some (l[k]'hlt) := List.getElem?_eq_getElem _
        obtain ⟨b, off, rfl, hbw, x0, x1, x2⟩ := H.out.File_at hx
        have hzx := HZ.out _ (List.mem_of_getElem? hx)
        generalize l[k]'hlt = x at *
        have HX := Lib.hid hx
        clear hx
        obtain ⟨z0, z1, z2⟩ := hzx
        have HN := Lib.hid (fun (W : World) => named_any x.name W z0)
        generalize hnm : named (bs x.name) = nm at HN
        have HNM := Lib.hid hnm
        clear hnm
        go_wp2_with fail
        cases nm with
        | false =>
          go_quiet (first | (go_at_call 30; with_reducible refine Calls.quiet_of_same ((HN.out _).mono fun e w' h => ⟨h.1, h.2.symm⟩)))
          go_wp2_with fail
          go_ret
          exact ⟨retB (goodD_no (i := k) (by unfold stepF; rw [HX.out]; simp [okF, HNM.out])).symm, (by repeat (first | exact Below.refl _ _ | assumption | refine Below.drew ?_ | refine Below.drewN' ?_ _ | refine below_grow0 _ _ ?_ | refine below_alloc0 _ ?_ | refine Below.alloc ?_ (by first | omega | (simp; done) | (simp; omega)) _ | refine Below.setCell ?_ (by first | omega | (simp; done) | (simp; omega)) _ | refine Below.grow _ _ _ ?_ (by first | omega | (simp; done) | (simp; omega))))⟩
        | true =>
          by_cases hsz : x.safe.size + x.tail.size ≤ 1048576
          · have hszi : (decide ((1048576 : Int) < (x.safe.size : Int) + (x.tail.size : Int))) = false := decide_eq_false (by omega)
            have hokx : okF x = true := by simp [okF, HNM.out, hsz]
            have HOK := Lib.hid hokx
            clear hokx
            cases k with
            | zero =>
              go_quiet (first | (go_at_call 30; with_reducible refine Calls.quiet_of_same ((HN.out _).mono fun e w' h => ⟨h.1, h.2.symm⟩)))
              go_wp2_with fail
              go_roundw
              case rel => exact ⟨0 + 1, _, _, by omega, by go_num, grown_of (by repeat (first | exact Below.refl _ _ | assumption | refine Below.drew ?_ | refine Below.drewN' ?_ _ | refine below_grow0 _ _ ?_ | refine below_alloc0 _ ?_ | refine Below.alloc ?_ (by first | omega | (simp; done) | (simp; omega)) _ | refine Below.setCell ?_ (by first | omega | (simp; done) | (simp; omega)) _ | refine Below.grow _ _ _ ?_ (by first | omega | (simp; done) | (simp; omega)))), Lib.hid (fun i hi => by
                rcases Nat.lt_or_ge i (0) with h | h
                · exact hok.out i h
                · obtain rfl : i = 0 := by omega
                  unfold stepF; rw [HX.out]; simp [HOK.out])⟩
              case measure => simp [intOf]; omega
            | succ j =>
              have hy : l[j]? = some (l[j]'(by omega)) := List.getElem?_eq_getElem _
              obtain ⟨b2, off2, hA2, _, y0, y1, y2⟩ := H.out.File_at hy
              injection hA2 with hA2
              injection hA2 with e1 e2 _
              subst e1
              subst e2
              generalize l[j]'(by omega) = y at *
              have HY := Lib.hid hy
              clear hy
              have hcmp := less_of_cb (bs3 y.name) (bs3 x.name)
              by_cases hlt2 : cmpB y.name x.name < 0
              · have HLT := Lib.hid hlt2
                have hls := less_of_cmp hlt2
                clear hlt2 hcmp
                go_quiet (first | (go_at_call 30; with_reducible refine Calls.quiet_of_same ((HN.out _).mono fun e w' h => ⟨h.1, h.2.symm⟩)))
                go_wp2_with fail
                go_roundw
                case rel => exact ⟨j + 1 + 1, _, _, by omega, by go_num, grown_of (by repeat (first | exact Below.refl _ _ | assumption | refine Below.drew ?_ | refine Below.drewN' ?_ _ | refine below_grow0 _ _ ?_ | refine below_alloc0 _ ?_ | refine Below.alloc ?_ (by first | omega | (simp; done) | (simp; omega)) _ | refine Below.setCell ?_ (by first | omega | (simp; done) | (simp; omega)) _ | refine Below.grow _ _ _ ?_ (by first | omega | (simp; done) | (simp; omega)))), Lib.hid (fun i hi => by
                  rcases Nat.lt_or_ge i (j + 1) with h | h
                  · exact hok.out i h
                  · obtain rfl : i = j + 1 := by omega
                    unfold stepF; rw [HX.out]; simp [HOK.out, HY.out, HLT.out])⟩
                case measure => simp [intOf]; omega
              · have HLT := Lib.hid hlt2
                have hls : Op.bytesLess y.name.toList x.name.toList = false := not_less_of_cmp hlt2
                clear hlt2 hcmp
                go_quiet (first | (go_at_call 30; with_reducible refine Calls.quiet_of_same ((HN.out _).mono fun e w' h => ⟨h.1, h.2.symm⟩)))
                go_wp2_with fail
                go_ret
                exact ⟨retB (goodD_no (i := j + 1) (by unfold stepF; rw [HX.out]; simp [HOK.out, HY.out]; have := HLT.out; omega)).symm, (by repeat (first | exact Below.refl _ _ | assumption | refine Below.drew ?_ | refine Below.drewN' ?_ _ | refine below_grow0 _ _ ?_ | refine below_alloc0 _ ?_ | refine Below.alloc ?_ (by first | omega | (simp; done) | (simp; omega)) _ | refine Below.setCell ?_ (by first | omega | (simp; done) | (simp; omega)) _ | refine Below.grow _ _ _ ?_ (by first | omega | (simp; done) | (simp; omega))))⟩
          · have hszi : (decide ((1048576 : Int) < (x.safe.size : Int) + (x.tail.size : Int))) = true := decide_eq_true (by omega)
            have hokx : okF x = false := by simp [okF, HNM.out, hsz]
            have HOK := Lib.hid hokx
            clear hokx
            cases k with
            | zero =>
              go_quiet (first | (go_at_call 30; with_reducible refine Calls.quiet_of_same ((HN.out _).mono fun e w' h => ⟨h.1, h.2.symm⟩)))
              go_wp2_with fail
              go_ret
              exact ⟨retB (goodD_no (i := 0) (by unfold stepF; rw [HX.out]; simp [HOK.out])).symm, (by repeat (first | exact Below.refl _ _ | assumption | refine Below.drew ?_ | refine Below.drewN' ?_ _ | refine below_grow0 _ _ ?_ | refine below_alloc0 _ ?_ | refine Below.alloc ?_ (by first | omega | (simp; done) | (simp; omega)) _ | refine Below.setCell ?_ (by first | omega | (simp; done) | (simp; omega)) _ | refine Below.grow _ _ _ ?_ (by first | omega | (simp; done) | (simp; omega))))⟩
            | succ j =>
              have hy : l[j]? = some (l[j]'(by omega)) := List.getElem?_eq_getElem _
              obtain ⟨b2, off2, hA2, _, y0, y1, y2⟩ := H.out.File_at hy
              injection hA2 with hA2
              injection hA2 with e1 e2 _
              subst e1
              subst e2
              generalize l[j]'(by omega) = y at *
              clear hy
              by_cases hlt2 : cmpB y.name x.name < 0
              · have hls := less_of_cmp hlt2
                clear hlt2
                go_quiet (first | (go_at_call 30; with_reducible refine Calls.quiet_of_same ((HN.out _).mono fun e w' h => ⟨h.1, h.2.symm⟩)))
                go_wp2_with fail
                go_ret
                exact ⟨retB (goodD_no (i := j + 1) (by unfold stepF; rw [HX.out]; simp [HOK.out])).symm, (by repeat (first | exact Below.refl _ _ | assumption | refine Below.drew ?_ | refine Below.drewN' ?_ _ | refine below_grow0 _ _ ?_ | refine below_alloc0 _ ?_ | refine Below.alloc ?_ (by first | omega | (simp; done) | (simp; omega)) _ | refine Below.setCell ?_ (by first | omega | (simp; done) | (simp; omega)) _ | refine Below.grow _ _ _ ?_ (by first | omega | (simp; done) | (simp; omega))))⟩
              · have hls : Op.bytesLess y.name.toList x.name.toList = false := not_less_of_cmp hlt2
                clear hlt2
                go_quiet (first | (go_at_call 30; with_reducible refine Calls.quiet_of_same ((HN.out _).mono fun e w' h => ⟨h.1, h.2.symm⟩)))
                go_wp2_with fail
                go_ret
                exact ⟨retB (goodD_no (i := j + 1) (by unfold stepF; rw [HX.out]; simp [HOK.out])).symm, (by repeat (first | exact Below.refl _ _ | assumption | refine Below.drew ?_ | refine Below.drewN' ?_ _ | refine below_grow0 _ _ ?_ | refine below_alloc0 _ ?_ | refine Below.alloc ?_ (by first | omega | (simp; done) | (simp; omega)) _ | refine Below.setCell ?_ (by first | omega | (simp; done) | (simp; omega)) _ | refine Below.grow _ _ _ ?_ (by first | omega | (simp; done) | (simp; omega))))⟩
      · go_wp2_with fail
        go_ret
        exact ⟨retB (goodD_yes (fun i hi => hok.out i (by omega)) h16).symm, (by repeat (first | exact Below.refl _ _ | assumption | refine Below.drew ?_ | refine Below.drewN' ?_ _ | refine below_grow0 _ _ ?_ | refine below_alloc0 _ ?_ | refine Below.alloc ?_ (by first | omega | (simp; done) | (simp; omega)) _ | refine Below.setCell ?_ (by first | omega | (simp; done) | (simp; omega)) _ | refine Below.grow _ _ _ ?_ (by first | omega | (simp; done) | (simp; omega))))⟩
  · have hg : goodD l = false := by unfold goodD; rw [decide_eq_false h16]; rfl
    have h16i : (decide ((16 : Int) < (l.length : Int))) = true := decide_eq_true (by omega)
    rw [hg]
    go_enter Try.func21, Try.ntmps21
    go_wp2_with fail
    go_ret
    exact ⟨rfl, (by repeat (first | exact Below.refl _ _ | assumption | refine Below.drew ?_ | refine Below.drewN' ?_ _ | refine below_grow0 _ _ ?_ | refine below_alloc0 _ ?_ | refine Below.alloc ?_ (by first | omega | (simp; done) | (simp; omega)) _ | refine Below.setCell ?_ (by first | omega | (simp; done) | (simp; omega)) _ | refine Below.grow _ _ _ ?_ (by first | omega | (simp; done) | (simp; omega))))⟩
end Go.Proofs.Ytdfliajginlpiaa
