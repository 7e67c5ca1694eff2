/- slices.DeleteFunc at Fire's closure. -/
import Derived.Test.YtkogdnkifnhljaaDoorFire
namespace Go.Proofs.YtkogdnkifnhljaaDoor
open Go.RowKit Go.ChangeShapes Go.WideShapes Go.ChangeAt
theorem take_rows {l : List Watch} {a : Nat} (ha : a ≤ l.length) (J : List Value) : (l.flatMap cWatch ++ J).take (a * 3) = (l.take a).flatMap cWatch := by
  have hlen : ((l.take a).flatMap cWatch).length = a * 3 := by rw [flatMap_length (f := cWatch) (s := 3) (fun y _ => rfl), List.length_take, Nat.min_eq_left ha]
  conv => lhs; rw [← List.take_append_drop a l]
  rw [List.flatMap_append, List.append_assoc, ← hlen, List.take_left]
set_option maxHeartbeats 2000000 in
theorem deleteFire (ev : Event) (w W : World) (bn be gL c N : Nat) (l : List Watch) (J : List Value) (notes : List Note) (bs : List (Nat × List Value × TypeId)) (h : FS w W bn notes ((gL, l.flatMap cWatch ++ J, 35) :: bs)) (he : (be, cEvent ev, 65) ∈ bs)
    (hg : w.heap.size ≤ gL) (hne : ∀ b ∈ bs, b.1 ≠ gL) (hN : (l.flatMap cWatch ++ J).length = N) (hc : l.length ≤ c) (hcm : c ≤ 9223372036854775807) (hn : (notes.length + l.length + 1) * 32 ≤ 140737488355328) :
    Calls Tryd.prog 59 #[.slice (some ⟨gL, 0, none⟩) l.length c, .func (.func 60) #[] #[.pointer (some ⟨be, 0, none⟩), .pointer (some ⟨bn, 0, none⟩)]] W (DelIs ev w bn gL c notes bs l N) := by
  have HF := Lib.hid h
  have HN := Lib.hid hN
  have hm1 : (notes.length + 1) * 32 ≤ 140737488355328 := Nat.le_trans (Nat.mul_le_mul_right 32 (by omega)) hn
  have hm2 : l.length ≤ 140737488355328 := Nat.le_trans (show l.length ≤ (notes.length + l.length + 1) * 32 by omega) hn
  have HC : Hid (∀ (x : Watch) (W' : World) (ns : List Note) (bs' : List (Nat × List Value × TypeId)), FS w W' bn ns bs' → (be, cEvent ev, 65) ∈ bs' → (ns.length + 1) * 32 ≤ 140737488355328 → Calls Tryd.prog 60 #[.agg #[.int .i64 x.session, .int .i64 x.kind, .string x.path], .pointer (some ⟨be, 0, none⟩), .pointer (some ⟨bn, 0, none⟩)] W' fun e W'' => e = .returned (.bool (touchB x ev)) ∧ FS w W'' bn (ns ++ notesOf ev [x]) bs') := Lib.hid (fun (x : Watch) (W' : World) (ns : List Note) (bs' : List (Nat × List Value × TypeId)) (hf : FS w W' bn ns bs') (hm : (be, cEvent ev, 65) ∈ bs') (hns : (ns.length + 1) * 32 ≤ 140737488355328) => fireClosure x ev w W' bn be ns bs' hf hm hns)
  have HI : Hid (Calls Tryd.prog 68 #[.slice (some ⟨gL, 0, none⟩) l.length c, .func (.func 60) #[] #[.pointer (some ⟨be, 0, none⟩), .pointer (some ⟨bn, 0, none⟩)]] W (IdxIs ev w bn notes ((gL, l.flatMap cWatch ++ J, 35) :: bs) l)) := Lib.hid (indexFire ev w W bn be gL c l J notes _ h (List.mem_cons_of_mem _ he) List.mem_cons_self hm1 hm2)
  have HE := Lib.hid he
  have HNE := Lib.hid hne
  clear h he hN hne
  go_enter Tryd.func59, Tryd.ntmps59
  go_wp2_with fail
  refine HI.out.mono ?_
  rintro e W1 (⟨hno, rfl, hf⟩ | ⟨i, x0, hno, hx0, ht0, rfl, hf⟩)
  · have HF1 := Lib.hid hf
    have HNO := Lib.hid hno
    clear hf hno
    go_wp2_with fail
    obtain ⟨hk, hnn⟩ := kept_none HNO.out
    refine bodyPost_ret (v := .slice (some ⟨gL, 0, none⟩) l.length c) (by simp [results, Tryd.results59, go_sem]) rfl ⟨J, by rw [hk], by rw [hk, hnn, List.append_nil]; exact HF1.out, by rw [hk]; exact HN.out⟩
  · obtain ⟨hmid, hnn⟩ := Mid.first hno hx0 ht0
    have hi : i < l.length := (List.getElem?_eq_some_iff.1 hx0).1
    have hi2 : ((i : Int) == -1) = false := by simp
    rw [← hnn] at hf
    have HF1 := Lib.hid hf
    have HM := Lib.hid hmid
    clear hf hmid hno hx0 ht0 hnn
    go_wp2_with fail
    go_loopw [5, 6] (fun i j wr => ∃ (a k : Nat) (cur : List Watch), i = .int .i64 a ∧ j = .int .i64 k ∧ a < k ∧ k ≤ l.length ∧ Hid (Mid ev l cur a k) ∧ Hid (FS w wr bn (notes ++ notesOf ev (l.take k)) ((gL, cur.flatMap cWatch ++ J, 35) :: bs))) (fun _ j _ => l.length - (intOf j).toNat)
    case atStart => exact ⟨i, i + 1, l, rfl, by go_num, by omega, by omega, HM, HF1⟩
    case round =>
      obtain ⟨a, k, cur, rfl, rfl, hak, hk, hm, hf⟩ := hrel
      by_cases hlt : k < l.length
      · have hx : l[k]? = some (l[k]'hlt) := List.getElem?_eq_getElem _
        have hxc := (hm.out.at_ hlt).trans hx
        obtain ⟨c0, c1, c2⟩ := bk_watch (hf.out.bk List.mem_cons_self) hxc
        generalize hxe : l[k]'hlt = x at hx hxc c0 c1 c2
        have hft := hf.out.push (cWatch x) 35
        have hnl : ((notes ++ notesOf ev (l.take k)).length + 1) * 32 ≤ 140737488355328 := by
          have h1 : (notesOf ev (l.take k)).length ≤ (l.take k).length := by unfold notesOf; rw [List.length_map]; exact List.length_filter_le _ _
          rw [List.length_take] at h1
          rw [List.length_append]
          exact Nat.le_trans (Nat.mul_le_mul_right 32 (by omega)) hn
        have HCX := Lib.hid (HC.out x _ _ _ hft (List.mem_cons_of_mem _ (List.mem_cons_of_mem _ HE.out)) hnl)
        have hnt : notesOf ev (l.take (k + 1)) = notesOf ev (l.take k) ++ notesOf ev [x] := by rw [List.take_add_one, hx, notesOf_append]; rfl
        have HNT := Lib.hid hnt
        have HX := Lib.hid hx
        clear hnl hnt hft hx hxc hxe
        rw [List.append_assoc, ← HNT.out] at HCX
        cases htb : touchB x ev with
        | true =>
          rw [htb] at HCX
          have HTB := Lib.hid htb
          clear htb
          go_wp2_with (first | (go_at_call 60; refine (HCX.out).mono ?_; rintro e w1 ⟨rfl, hf1⟩; have HF2 := Lib.hid hf1; clear hf1))
          go_roundw
          case rel => exact ⟨a, k + 1, cur, rfl, by go_num, by omega, by omega, Lib.hid (hm.out.hit HX.out HTB.out), Lib.hid (HF2.out.sub (fun b hb => List.mem_cons_of_mem _ hb))⟩
          case measure => simp [intOf]; omega
        | false =>
          rw [htb] at HCX
          have HTB := Lib.hid htb
          clear htb
          have hac : a < cur.length := by have := hm.out.2.2.1; omega
          have hya : cur[a]? = some (cur[a]'hac) := List.getElem?_eq_getElem _
          generalize hye : cur[a]'hac = y at hya
          have HYA := Lib.hid hya
          have HAC := Lib.hid hac
          clear hya hye hac
          go_wp2_with (first | (go_at_call 60; refine (HCX.out).mono ?_; rintro e w1 ⟨rfl, hf1⟩; have hv := hf1.bk List.mem_cons_self; have v0 : w1.cell? ⟨wr.heap.size, 0, none⟩ = some (.int .i64 x.session) := hv.cell 0; have v1 : w1.cell? ⟨wr.heap.size, 1, none⟩ = some (.int .i64 x.kind) := hv.cell 1; have v2 : w1.cell? ⟨wr.heap.size, 2, none⟩ = some (.string x.path) := hv.cell 2; have hr := hf1.bk (List.mem_cons_of_mem _ List.mem_cons_self); obtain ⟨r0, r1, r2⟩ := bk_watch hr HYA.out; have q0 := hr.frozen (a * 3); have q1 := hr.frozen (a * 3 + 1); have q2 := hr.frozen (a * 3 + 2); have HF2 := Lib.hid hf1; clear hf1 hv hr))
          have p0 := HF2.out.sub (bs' := (gL, cur.flatMap cWatch ++ J, 35) :: bs) (fun b hb => List.mem_cons_of_mem _ hb)
          have p3 := ((p0.put hg HNE.out (a * 3) (.int .i64 x.session)).put hg HNE.out (a * 3 + 1) (.int .i64 x.kind)).put hg HNE.out (a * 3 + 2) (.string x.path)
          rw [set3 HAC.out x] at p3
          have HP3 := Lib.hid p3
          clear p0 p3
          go_roundw
          case rel => exact ⟨a + 1, k + 1, cur.set a x, by go_num, by go_num, by omega, by omega, Lib.hid (hm.out.miss HX.out HTB.out), HP3⟩
          case measure => simp [intOf]; omega
      · have hk' : k = l.length := by omega
        subst hk'
        have hm0 := hm.out
        rw [Mid, List.take_length] at hm0
        rw [List.take_length] at hf
        obtain ⟨_, _, m3, m4, _⟩ := hm0
        have hbk := hf.out.bk List.mem_cons_self
        have hal : a ≤ l.length := by omega
        have hkl : (keptOf ev l).length = a := by rw [← m4, List.length_take, m3]; omega
        have hcur : (cur.flatMap cWatch ++ J).length = N := by
          rw [← HN.out, List.length_append, List.length_append, flatMap_length (f := cWatch) (s := 3) (fun y _ => rfl), flatMap_length (f := cWatch) (s := 3) (fun y _ => rfl), m3]
        have hfit : a * 3 + (l.length - a) * 3 ≤ (cur.flatMap cWatch ++ J).length := by
          rw [List.length_append, flatMap_length (f := cWatch) (s := 3) (fun y _ => rfl), m3]
          omega
        have HB := Lib.hid hbk
        have HM4 := Lib.hid m4
        have HKL := Lib.hid hkl
        have HCUR := Lib.hid hcur
        have HFIT := Lib.hid hfit
        have hna : ((l.length : Int) - (a : Int)) = ((l.length - a : Nat) : Int) := by omega
        clear hbk m3 m4 hkl hcur hfit
        go_wp2_with (first | (with_reducible refine wpList_atclr ?_); go_loud (refine wpList_clr rfl (.tmp 38) _ rfl elWatch (off := a * 3) (n := l.length - a) rfl HB.out (by decide) HFIT.out ?_; intro w' cur' hb' hl' ht' hg' _; have HB2 := Lib.hid hb'; have HL2 := Lib.hid hl'; have HT2 := Lib.hid ht'; have HG2 := Lib.hid hg'; clear hb' hl' ht' hg'))
        have htk : (keptOf ev l).flatMap cWatch ++ cur'.drop (a * 3) = cur' := by
          rw [← HM4.out, ← take_rows (by have := hm.out.2.2.1; omega) J, ← HT2.out, List.take_append_drop]
        have hfs := hf.out.clr hg HNE.out HB2.out HG2.out
        refine bodyPost_ret (v := .slice (some ⟨gL, 0, none⟩) a c) (by simp [results, Tryd.results59, go_sem]) rfl ⟨cur'.drop (a * 3), by rw [HKL.out], ?_, ?_⟩
        · rw [htk]; exact hfs
        · rw [htk, HL2.out, HCUR.out]
end Go.Proofs.YtkogdnkifnhljaaDoor
