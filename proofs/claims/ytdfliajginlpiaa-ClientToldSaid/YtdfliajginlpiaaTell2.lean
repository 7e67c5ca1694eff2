/- client.Tell's contract. -/
import Derived.Test.YtdfliajginlpiaaTell
namespace Go.Proofs.Ytdfliajginlpiaa
open Go.RowKit Go.ChangeShapes Go.WideShapes Go.ChangeAt
set_option maxHeartbeats 2000000 in
theorem clTell (s n : Int) (v v2 : Value) (l : List Entry) (ns : List Note) (w : World) (h : Sl cEntry 3 w v l) (h2 : Sl cNote 3 w v2 ns) (hn : l.length * 40 ≤ 140737488355328) (hm : ns.length ≤ 140737488355328) :
    Calls Try.prog 11 #[.agg #[.int .i64 s, .int .i64 n, v], v2] w (ClIs s n (tellL s l ns) w) := by
  obtain ⟨A, c, rfl, hc1, hc2⟩ := h.form
  obtain ⟨A2, c2, rfl, hc3, hc4⟩ := h2.form
  have H := Lib.hid h
  have H2 := Lib.hid h2
  have HLE := Lib.hid (fun k => tellL_len s l (ns.take k))
  have hll : l.length ≤ 140737488355328 := by omega
  clear h h2
  go_enter Try.func11, Try.ntmps11
  go_wp2_with fail
  refine (clCopied _ _ _ l _ ((H.out.alloc _).alloc _) hn (by simp [maxLen]; omega)).mono ?_
  rintro e w1 ⟨A1, c1, rfl, ho1, hb1⟩
  obtain ⟨ext, d, rfl⟩ := Below.grown_eq _ hb1
  have HO1 := Lib.hid ho1
  clear hb1 ho1
  go_wp2_with fail
  go_loopw [13] (fun i wr => ∃ (k m : Nat) (A' : Option Addr) (c' : Nat) (ext : Array Obj) (d : Nat), k ≤ ns.length ∧ i = .int .i64 k ∧ wr = grow ((w.alloc (.cells #[.int .i64 s, .int .i64 n, .slice A' m c'] 25)).alloc (.cells #[.int .i64 0, .int .i64 0, .slice none 0 0] 25)) ext d ∧ m ≤ l.length ∧ c' ≤ 9223372036854775807 ∧
     Hid (m = (tellL s l (ns.take k)).length ∧ Ow cEntry 3 28 wr (w.heap.size + 1 + 1) (.slice A' m c') (tellL s l (ns.take k)))) (fun i _ => ns.length - (intOf i).toNat)
  case atStart => exact ⟨0, l.length, A1, c1, _, _, Nat.zero_le _, rfl, rfl, Nat.le_refl _, Nat.le_trans HO1.out.sl.cap_le (Nat.le_of_eq rfl), Lib.hid ⟨rfl, (HO1.out.regrow (Nat.le_refl _) (by simp)).mono (by simp)⟩⟩
  case round =>
    obtain ⟨k, m, A', c', ext2, d2, hk, rfl, rfl, hml, hcm, ho⟩ := hrel
    by_cases hlt : k < ns.length
    · have hx : ns[k]? = some (ns[k]'hlt) := List.getElem?_eq_getElem _
      obtain ⟨b, off, rfl, hbw, x0, x1, x2⟩ := H2.out.Note_at hx
      have HSU := Lib.hid (tellL_succ (s := s) (l := l) hx)
      generalize ns[k]'hlt = x at *
      generalize hL : tellL s l (ns.take k) = L at *
      clear hx hL
      by_cases hs : x.session = s
      · by_cases h4 : x.kind = 4
        · have hh : hitsB s x = false := by simp [hitsB, h4]
          have HH := Lib.hid hh
          clear hh
          go_wp2_with fail
          go_roundw
          case rel => exact ⟨k + 1, m, A', c', _, _, by omega, by go_num, grown_of (by repeat (first | exact Below.refl _ _ | assumption | refine Below.drew ?_ | refine Below.drewN' ?_ _ | refine below_grow0 _ _ ?_ | refine below_alloc0 _ ?_ | refine Below.alloc ?_ (by first | omega | (simp; done) | (simp; omega)) _ | refine Below.setCell ?_ (by first | omega | (simp; done) | (simp; omega)) _ | refine Below.grow _ _ _ ?_ (by first | omega | (simp; done) | (simp; omega)))), hml, hcm, Lib.hid (by rw [HSU.out, tellE, HH.out]; exact ⟨ho.out.1, ho.out.2.below (by repeat (first | exact Below.refl _ _ | assumption | refine Below.drew ?_ | refine Below.drewN' ?_ _ | refine below_grow0 _ _ ?_ | refine below_alloc0 _ ?_ | refine Below.alloc ?_ (by first | omega | (simp; done) | (simp; omega)) _ | refine Below.setCell ?_ (by first | omega | (simp; done) | (simp; omega)) _ | refine Below.grow _ _ _ ?_ (by first | omega | (simp; done) | (simp; omega))))⟩)⟩
          case measure => simp [intOf]; omega
        · have hh : hitsB s x = true := by simp [hitsB, h4, hs]
          have HH := Lib.hid hh
          have HG : Hid (tellE s L x = goneL L x.path) := Lib.hid (by rw [tellE, hh]; rfl)
          have hfind := fun (W : World) (v : Value) (hv : Sl cEntry 3 W v L) => clFind s n v L x.path W hv (by have := ho.out.1; omega)
          cases hik : isK (L.map Entry.path) x.path with
          | false =>
            rw [hik] at hfind
            have HF := Lib.hid hfind
            have HGL : Hid (goneL L x.path = L) := Lib.hid (by unfold goneL; rw [hik]; rfl)
            generalize posK (L.map Entry.path) x.path = q at *
            clear hfind hik hh
            go_wp2_with (first | (go_at_call 25; refine (HF.out _ _ (ho.out.2.sl.below (by repeat (first | exact Below.refl _ _ | assumption | refine Below.drew ?_ | refine Below.drewN' ?_ _ | refine below_grow0 _ _ ?_ | refine below_alloc0 _ ?_ | refine Below.alloc ?_ (by first | omega | (simp; done) | (simp; omega)) _ | refine Below.setCell ?_ (by first | omega | (simp; done) | (simp; omega)) _ | refine Below.grow _ _ _ ?_ (by first | omega | (simp; done) | (simp; omega)))))).mono ?_; rintro e w2 ⟨rfl, hb2⟩; obtain ⟨ext3, d3, rfl⟩ := Below.grown_eq _ hb2; clear hb2))
            go_roundw
            case rel => exact ⟨k + 1, m, A', c', _, _, by omega, by go_num, grown_of (by repeat (first | exact Below.refl _ _ | assumption | refine Below.drew ?_ | refine Below.drewN' ?_ _ | refine below_grow0 _ _ ?_ | refine below_alloc0 _ ?_ | refine Below.alloc ?_ (by first | omega | (simp; done) | (simp; omega)) _ | refine Below.setCell ?_ (by first | omega | (simp; done) | (simp; omega)) _ | refine Below.grow _ _ _ ?_ (by first | omega | (simp; done) | (simp; omega)))), hml, hcm, Lib.hid (by rw [HSU.out, HG.out, HGL.out]; exact ⟨ho.out.1, ho.out.2.below (by repeat (first | exact Below.refl _ _ | assumption | refine Below.drew ?_ | refine Below.drewN' ?_ _ | refine below_grow0 _ _ ?_ | refine below_alloc0 _ ?_ | refine Below.alloc ?_ (by first | omega | (simp; done) | (simp; omega)) _ | refine Below.setCell ?_ (by first | omega | (simp; done) | (simp; omega)) _ | refine Below.grow _ _ _ ?_ (by first | omega | (simp; done) | (simp; omega))))⟩)⟩
            case measure => simp [intOf]; omega
          | true =>
            rw [hik] at hfind
            have HF := Lib.hid hfind
            have hqk := (is_at hik).1
            have HGL : Hid (goneL L x.path = L.take (posK (L.map Entry.path) x.path) ++ L.drop (posK (L.map Entry.path) x.path + 1)) := Lib.hid (by unfold goneL; rw [hik]; rfl)
            generalize posK (L.map Entry.path) x.path = q at *
            clear hfind hik hh
            have HQ := Lib.hid hqk
            have hqb : q ≤ 140737488355328 := by have := ho.out.1; omega
            clear hqk
            go_wp2_with (first | (go_at_call 25; refine (HF.out _ _ (ho.out.2.sl.below (by repeat (first | exact Below.refl _ _ | assumption | refine Below.drew ?_ | refine Below.drewN' ?_ _ | refine below_grow0 _ _ ?_ | refine below_alloc0 _ ?_ | refine Below.alloc ?_ (by first | omega | (simp; done) | (simp; omega)) _ | refine Below.setCell ?_ (by first | omega | (simp; done) | (simp; omega)) _ | refine Below.grow _ _ _ ?_ (by first | omega | (simp; done) | (simp; omega)))))).mono ?_; rintro e w2 ⟨rfl, hb2⟩; obtain ⟨ext3, d3, rfl⟩ := Below.grown_eq _ hb2; clear hb2))
            refine (delEntry A' m c' q L _ _ (ho.out.2.below (by repeat (first | exact Below.refl _ _ | assumption | refine Below.drew ?_ | refine Below.drewN' ?_ _ | refine below_grow0 _ _ ?_ | refine below_alloc0 _ ?_ | refine Below.alloc ?_ (by first | omega | (simp; done) | (simp; omega)) _ | refine Below.setCell ?_ (by first | omega | (simp; done) | (simp; omega)) _ | refine Below.grow _ _ _ ?_ (by first | omega | (simp; done) | (simp; omega))))) HQ.out hcm).mono ?_
            rintro e w4 ⟨rfl, hd⟩
            have hb4 : Below ((w.alloc (.cells #[.int .i64 s, .int .i64 n, .slice A' m c'] 25)).alloc (.cells #[.int .i64 0, .int .i64 0, .slice none 0 0] 25)).heap.size ((w.alloc (.cells #[.int .i64 s, .int .i64 n, .slice A' m c'] 25)).alloc (.cells #[.int .i64 0, .int .i64 0, .slice none 0 0] 25)) w4 :=
              Below.grown (by repeat (first | exact Below.refl _ _ | assumption | refine Below.drew ?_ | refine Below.drewN' ?_ _ | refine below_grow0 _ _ ?_ | refine below_alloc0 _ ?_ | refine Below.alloc ?_ (by first | omega | (simp; done) | (simp; omega)) _ | refine Below.setCell ?_ (by first | omega | (simp; done) | (simp; omega)) _ | refine Below.grow _ _ _ ?_ (by first | omega | (simp; done) | (simp; omega)))) hd.out.2 (by simp; omega) (fun g hg => by have := (Ow.own_in ho.out.2 hg).1; simpa using this)
            have HD := Lib.hid hd.out.1
            obtain ⟨ext5, d5, rfl⟩ := Below.grown_eq _ hb4
            have hgl : (L.take q ++ L.drop (q + 1)).length = m - 1 := by rw [List.length_append, List.length_take, List.length_drop]; have := HQ.out; have := ho.out.1; omega
            have HGN := Lib.hid hgl
            clear hb4 hd hgl
            go_wp2_with fail
            go_roundw
            case rel => exact ⟨k + 1, m - 1, A', c', _, _, by omega, by go_num, rfl, by omega, hcm, Lib.hid (by rw [HSU.out, HG.out, HGL.out]; exact ⟨HGN.out.symm, HD.out.regrow (by simp) (by simp)⟩)⟩
            case measure => simp [intOf]; omega
      · have hh : hitsB s x = false := by simp [hitsB, hs]
        have HH := Lib.hid hh
        clear hh
        go_wp2_with fail
        go_roundw
        case rel => exact ⟨k + 1, m, A', c', _, _, by omega, by go_num, grown_of (by repeat (first | exact Below.refl _ _ | assumption | refine Below.drew ?_ | refine Below.drewN' ?_ _ | refine below_grow0 _ _ ?_ | refine below_alloc0 _ ?_ | refine Below.alloc ?_ (by first | omega | (simp; done) | (simp; omega)) _ | refine Below.setCell ?_ (by first | omega | (simp; done) | (simp; omega)) _ | refine Below.grow _ _ _ ?_ (by first | omega | (simp; done) | (simp; omega)))), hml, hcm, Lib.hid (by rw [HSU.out, tellE, HH.out]; exact ⟨ho.out.1, ho.out.2.below (by repeat (first | exact Below.refl _ _ | assumption | refine Below.drew ?_ | refine Below.drewN' ?_ _ | refine below_grow0 _ _ ?_ | refine below_alloc0 _ ?_ | refine Below.alloc ?_ (by first | omega | (simp; done) | (simp; omega)) _ | refine Below.setCell ?_ (by first | omega | (simp; done) | (simp; omega)) _ | refine Below.grow _ _ _ ?_ (by first | omega | (simp; done) | (simp; omega))))⟩)⟩
        case measure => simp [intOf]; omega
    · have hk' : k = ns.length := by omega
      subst hk'
      rw [List.take_length] at ho
      go_wp2_with fail
      refine bodyPost_ret (v := .agg #[.int .i64 s, .int .i64 n, .slice A' m c']) (by simp [results, Try.results11, go_sem]) rfl ⟨A', c', by rw [ho.out.1], ?_, (by repeat (first | exact Below.refl _ _ | assumption | refine Below.drew ?_ | refine Below.drewN' ?_ _ | refine below_grow0 _ _ ?_ | refine below_alloc0 _ ?_ | refine Below.alloc ?_ (by first | omega | (simp; done) | (simp; omega)) _ | refine Below.setCell ?_ (by first | omega | (simp; done) | (simp; omega)) _ | refine Below.grow _ _ _ ?_ (by first | omega | (simp; done) | (simp; omega))))⟩
      rw [← ho.out.1]
      exact (ho.out.2.regrow (by simp) (by simp)).mono (by omega)
end Go.Proofs.Ytdfliajginlpiaa
