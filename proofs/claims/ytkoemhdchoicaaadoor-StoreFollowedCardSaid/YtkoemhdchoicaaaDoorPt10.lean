/- Lemmas for the statement: Taken, FolL, Follow, FollowNo, FolC, Tab. -/
import Derived.Deep.CutBlock
import Derived.Lib.LaidTab
import Derived.MakeChecks
import Derived.Test.YtkoemhdchoicaaaDoorPt1
import Derived.Test.YtkoemhdchoicaaaDoorPt2
import Derived.Test.YtkoemhdchoicaaaDoorPt3
import Derived.Test.YtkoemhdchoicaaaDoorPt4
import Derived.Test.YtkoemhdchoicaaaDoorPt5
import Derived.Test.YtkoemhdchoicaaaDoorPt6
import Derived.Test.YtkoemhdchoicaaaDoorPt7
import Derived.Test.YtkoemhdchoicaaaDoorPt8
import Derived.Test.YtkoemhdchoicaaaDoorPt9
/- the laws' boots, taken. -/
namespace Go.Proofs.YtkoemhdchoicaaaDoor
open Go.RowKit Go.ChangeShapes Go.WideShapes Go.ChangeAt
theorem boots_is (w : World) : Calls Tryd.prog 8 #[] w fun e w' => e = .returned (.bool true) ∧ Below w.heap.size w w' := by
  have HB := Lib.hid (fun (W : World) => (storeBoot (fun _ => False) 1 (.slice none 0 0) [] W (Sl.nil _ _ _) (by simp) (by simp) (by decide) (by decide)).mono (fun e w' hh => show ∃ da dc la lc na nc sa sc wa wc, e = .returned (.tuple #[vFill 1 0 ⟨da, dc, la, lc, na, nc, sa, sc, wa, wc⟩, .int .i64 0]) ∧ Below W.heap.size W w' from by
    obtain ⟨s, c, hb, ⟨da, dc, la, lc, na, nc, sa, sc, wa, wc⟩, he, h2, h3⟩ := hh
    obtain ⟨rfl, rfl⟩ := boot_nil hb
    exact ⟨da, dc, la, lc, na, nc, sa, sc, wa, wc, he, h3⟩))
  go_enter Tryd.func8, Tryd.ntmps8
  go_wp2_with ((go_at_call 11; refine (HB.out _).mono ?_; rintro e w1 ⟨da, dc, la, lc, na, nc, sa, sc, wa, wc, rfl, hb1⟩; obtain ⟨ext1, d1, rfl⟩ := Below.grown_eq _ hb1; clear hb1))
  go_ret
  exact ⟨rfl, (by repeat (first | with_reducible exact Below.refl _ _ | with_reducible assumption | with_reducible exact below_d1 _ _ _ _ _ | with_reducible exact below_d2 _ _ _ _ _ _ _ _ | with_reducible exact below_d3 _ _ _ _ _ | with_reducible exact below_d4 _ _ _ _ _ _ _ _ | with_reducible exact below_d5 _ _ | with_reducible refine Below.drew ?_ | with_reducible refine Below.drewN' ?_ _ | with_reducible refine below_grow0 _ _ ?_ | with_reducible refine below_alloc0 _ ?_ | with_reducible refine Below.setCell ?_ ?_ _ | with_reducible refine Below.alloc ?_ ?_ _ | with_reducible refine Below.grow _ _ _ ?_ ?_ | omega | (simp; done) | (simp; omega)))⟩
theorem Sl.caps {α : Type} {f : α → List Value} {s : Nat} {w : World} {A : Option Addr} {n c : Nat} {l : List α} (h : Sl f s w (.slice A n c) l) : l.length ≤ c ∧ c ≤ maxLen := by
  obtain ⟨_, _, e, h1, h2⟩ := h.form
  injection e with _ _ e3
  rw [e3]
  exact ⟨h1, h2⟩
theorem Sl.tail {α : Type} {f : α → List Value} {s : Nat} {w : World} {b off n c o : Nat} {x : α} {r : List α} (h : Sl f s w (.slice (some ⟨b, off, none⟩) n c) (x :: r)) (hn : n = r.length + 1) {m k : Nat} (hm : m = r.length) (hk : c = k + 1) (ho : o = off + s) : Sl f s w (.slice (some ⟨b, o, none⟩) m k) r := by
  subst hm hk ho
  obtain ⟨A, c', he, h1, h2, h3, h4⟩ := h
  injection he with e1 e2 e3
  subst e3
  simp only [List.map_cons, List.length_cons, List.length_map] at h1 h4
  obtain ⟨b', off', hA, hb, hc⟩ := h4 (by omega)
  rw [hA] at e1
  injection e1 with e1
  injection e1 with e4 e5
  subst e4 e5
  refine ⟨some ⟨b, off + s, none⟩, k, by simp, by simp; omega, by omega, fun y hy => h3 y (by simp only [List.map_cons]; exact List.mem_cons_of_mem _ hy), fun _ => ⟨b, off + s, rfl, hb, fun i y hy j u hu => ?_⟩⟩
  have := hc (i + 1) y (by simpa using hy) j u hu
  rw [show off + s + i * s + j = off + (i + 1) * s + j from by rw [Nat.succ_mul]; omega]
  exact this
def TakenRes (w : World) (e : Ending) (w' : World) : Prop := ∃ A c m, e = .returned (.slice A (List.length (α := Txn) m) c) ∧ LogP m ∧ m.length ≤ 40 ∧ Sl cTxn 7 w' (.slice A m.length c) m ∧ Below w.heap.size w w'
theorem logP_of {m : List Txn} (h : LogOk m) (h0 : ∀ x, m[0]? = some x → x.zxid ≠ 0) : LogP m := by
  refine ⟨h, fun t ht => ?_⟩
  obtain ⟨k, hk⟩ := List.mem_iff_getElem?.1 ht
  have hk2 := (List.getElem?_eq_some_iff.1 hk).1
  have hg : ∀ t ∈ m, 0 ≤ t.zxid := fun t ht => by
    exact (goodT_facts t (h.1 t ht)).z0
  have hx : m[0]? = some (m[0]'(by omega)) := List.getElem?_eq_getElem _
  have h1 := h0 _ hx
  have h2 := hg _ (List.getElem_mem (show 0 < m.length by omega))
  rcases Nat.eq_zero_or_pos k with rfl | hp
  · rw [hk] at hx
    injection hx with hx
    subst hx
    omega
  · have := List.pairwise_iff_getElem.1 h.2 0 k (by omega) hk2 hp
    rw [(List.getElem?_eq_some_iff.1 hk).2] at this
    omega
theorem logP_tail {x : Txn} {r : List Txn} (h : LogOk (x :: r)) (h0 : 0 ≤ x.zxid) : LogP r := by
  have hp := List.pairwise_cons.1 h.2
  exact ⟨⟨fun t ht => h.1 t (List.mem_cons_of_mem _ ht), hp.2⟩, fun t ht => by have := hp.1 t ht; omega⟩
set_option maxRecDepth 100000 in
set_option maxHeartbeats 2000000 in
theorem taken_any (v : Value) (l : List Txn) (w : World) (h : Sl cTxn 7 w v l) (hz : ∀ t ∈ l, t.path.size ≤ 9223372036854775807) :
    Calls Tryd.prog 6 #[v] w (TakenRes w) := by
  obtain ⟨A, c, rfl, hc1, hc2⟩ := h.form
  have H := Lib.hid h
  have HLO := Lib.hid (fun (W : World) (v : Value) (h : Sl cTxn 7 W v l) => logOf_any v l W h hz)
  clear h hz
  go_enter Tryd.func6, Tryd.ntmps6
  go_upto_region 2 with ((go_at_call 16; refine (HLO.out _ _ (H.out.below (by repeat (first | with_reducible exact Below.refl _ _ | with_reducible assumption | with_reducible exact below_d1 _ _ _ _ _ | with_reducible exact below_d2 _ _ _ _ _ _ _ _ | with_reducible exact below_d3 _ _ _ _ _ | with_reducible exact below_d4 _ _ _ _ _ _ _ _ | with_reducible exact below_d5 _ _ | with_reducible refine Below.drew ?_ | with_reducible refine Below.drewN' ?_ _ | with_reducible refine below_grow0 _ _ ?_ | with_reducible refine below_alloc0 _ ?_ | with_reducible refine Below.setCell ?_ ?_ _ | with_reducible refine Below.alloc ?_ ?_ _ | with_reducible refine Below.grow _ _ _ ?_ ?_ | omega | (simp; done) | (simp; omega))))).mono ?_; rintro e w1 ⟨A2, c2, m, rfl, hok, h40, ho, hb⟩; obtain ⟨ext1, d1, rfl⟩ := Below.grown_eq _ hb; have HOK := Lib.hid hok; have HM := Lib.hid ho.sl; clear ho hb hok HLO))
  cases m with
  | nil =>
    simp only [List.length_nil] at *
    go_wp2_with fail
    go_ret
    exact ⟨A2, c2, [], rfl, ⟨HOK.out, by simp⟩, by simp, HM.out.below (by repeat (first | with_reducible exact Below.refl _ _ | with_reducible assumption | with_reducible exact below_d1 _ _ _ _ _ | with_reducible exact below_d2 _ _ _ _ _ _ _ _ | with_reducible exact below_d3 _ _ _ _ _ | with_reducible exact below_d4 _ _ _ _ _ _ _ _ | with_reducible exact below_d5 _ _ | with_reducible refine Below.drew ?_ | with_reducible refine Below.drewN' ?_ _ | with_reducible refine below_grow0 _ _ ?_ | with_reducible refine below_alloc0 _ ?_ | with_reducible refine Below.setCell ?_ ?_ _ | with_reducible refine Below.alloc ?_ ?_ _ | with_reducible refine Below.grow _ _ _ ?_ ?_ | omega | (simp; done) | (simp; omega))), (by repeat (first | with_reducible exact Below.refl _ _ | with_reducible assumption | with_reducible exact below_d1 _ _ _ _ _ | with_reducible exact below_d2 _ _ _ _ _ _ _ _ | with_reducible exact below_d3 _ _ _ _ _ | with_reducible exact below_d4 _ _ _ _ _ _ _ _ | with_reducible exact below_d5 _ _ | with_reducible refine Below.drew ?_ | with_reducible refine Below.drewN' ?_ _ | with_reducible refine below_grow0 _ _ ?_ | with_reducible refine below_alloc0 _ ?_ | with_reducible refine Below.setCell ?_ ?_ _ | with_reducible refine Below.alloc ?_ ?_ _ | with_reducible refine Below.grow _ _ _ ?_ ?_ | omega | (simp; done) | (simp; omega)))⟩
  | cons x r =>
    obtain ⟨b, off, rfl, hb, x0, _⟩ := HM.out.Txn_at (i := 0) rfl
    have hx0 := (goodT_facts x (HOK.out.1 x (by simp))).z0
    obtain ⟨hc3, hc4⟩ := HM.out.caps
    simp only [Nat.zero_mul, Nat.add_zero] at x0
    have hnr : (x :: r).length = r.length + 1 := rfl
    have h41 : (x :: r).length ≤ 40 := h40
    generalize hn : (x :: r).length = n at *
    have hn1 : 0 < n := by omega
    have HN := Lib.hid hnr
    have HNN := Lib.hid hn
    clear hnr hn h40
    by_cases hz0 : x.zxid = 0
    · have HT := Lib.hid (logP_tail HOK.out hx0)
      rw [hz0] at x0
      clear hz0 hx0
      obtain ⟨k, hk1⟩ : ∃ k, c2 = k + 1 := ⟨c2 - 1, by omega⟩
      have hk : c2 ≤ 9223372036854775807 := by unfold maxLen at hc4; omega
      by_cases hk0 : c2 = 1
      · obtain rfl : n = 1 := by omega
        subst hk0
        have hr : r.length = 0 := by have := HN.out; omega
        obtain rfl := List.eq_nil_of_length_eq_zero hr
        clear hk1
        go_wp2_with fail
        go_ret
        exact ⟨_, _, [], rfl, HT.out, by simp, Sl.empty _ _ _ _ (by simp [maxLen]), (by repeat (first | with_reducible exact Below.refl _ _ | with_reducible assumption | with_reducible exact below_d1 _ _ _ _ _ | with_reducible exact below_d2 _ _ _ _ _ _ _ _ | with_reducible exact below_d3 _ _ _ _ _ | with_reducible exact below_d4 _ _ _ _ _ _ _ _ | with_reducible exact below_d5 _ _ | with_reducible refine Below.drew ?_ | with_reducible refine Below.drewN' ?_ _ | with_reducible refine below_grow0 _ _ ?_ | with_reducible refine below_alloc0 _ ?_ | with_reducible refine Below.setCell ?_ ?_ _ | with_reducible refine Below.alloc ?_ ?_ _ | with_reducible refine Below.grow _ _ _ ?_ ?_ | omega | (simp; done) | (simp; omega)))⟩
      · have hk2 : 1 < c2 := by omega
        have HK := Lib.hid hk1
        clear hk1 hk0
        go_wp2_with fail
        have hm : r.length = n - 1 := by have := HN.out; omega
        refine bodyPost_ret (v := .slice (some ⟨b, off + 7, none⟩) (n - 1) (c2 - 1)) (by simp [results, Tryd.results6, go_sem]) rfl ⟨some ⟨b, off + 7, none⟩, c2 - 1, r, by rw [hm], HT.out, by omega, ?_, (by repeat (first | with_reducible exact Below.refl _ _ | with_reducible assumption | with_reducible exact below_d1 _ _ _ _ _ | with_reducible exact below_d2 _ _ _ _ _ _ _ _ | with_reducible exact below_d3 _ _ _ _ _ | with_reducible exact below_d4 _ _ _ _ _ _ _ _ | with_reducible exact below_d5 _ _ | with_reducible refine Below.drew ?_ | with_reducible refine Below.drewN' ?_ _ | with_reducible refine below_grow0 _ _ ?_ | with_reducible refine below_alloc0 _ ?_ | with_reducible refine Below.setCell ?_ ?_ _ | with_reducible refine Below.alloc ?_ ?_ _ | with_reducible refine Below.grow _ _ _ ?_ ?_ | omega | (simp; done) | (simp; omega)))⟩
        rw [hm]
        exact (Sl.tail HM.out HN.out hm.symm (by omega) rfl).below (by repeat (first | with_reducible exact Below.refl _ _ | with_reducible assumption | with_reducible exact below_d1 _ _ _ _ _ | with_reducible exact below_d2 _ _ _ _ _ _ _ _ | with_reducible exact below_d3 _ _ _ _ _ | with_reducible exact below_d4 _ _ _ _ _ _ _ _ | with_reducible exact below_d5 _ _ | with_reducible refine Below.drew ?_ | with_reducible refine Below.drewN' ?_ _ | with_reducible refine below_grow0 _ _ ?_ | with_reducible refine below_alloc0 _ ?_ | with_reducible refine Below.setCell ?_ ?_ _ | with_reducible refine Below.alloc ?_ ?_ _ | with_reducible refine Below.grow _ _ _ ?_ ?_ | omega | (simp; done) | (simp; omega)))
    · have hne : (x.zxid == 0) = false := beq_eq_false_iff_ne.2 hz0
      have HT := Lib.hid (logP_of HOK.out (fun y hy => by simp at hy; subst hy; exact hz0))
      clear hz0 hx0
      go_wp2_with fail
      refine bodyPost_ret (v := .slice (some ⟨b, off, none⟩) n c2) (by simp [results, Tryd.results6, go_sem]) rfl ⟨some ⟨b, off, none⟩, c2, x :: r, by rw [HNN.out], HT.out, by rw [HNN.out]; exact h41, by rw [HNN.out]; exact HM.out.below (by repeat (first | with_reducible exact Below.refl _ _ | with_reducible assumption | with_reducible exact below_d1 _ _ _ _ _ | with_reducible exact below_d2 _ _ _ _ _ _ _ _ | with_reducible exact below_d3 _ _ _ _ _ | with_reducible exact below_d4 _ _ _ _ _ _ _ _ | with_reducible exact below_d5 _ _ | with_reducible refine Below.drew ?_ | with_reducible refine Below.drewN' ?_ _ | with_reducible refine below_grow0 _ _ ?_ | with_reducible refine below_alloc0 _ ?_ | with_reducible refine Below.setCell ?_ ?_ _ | with_reducible refine Below.alloc ?_ ?_ _ | with_reducible refine Below.grow _ _ _ ?_ ?_ | omega | (simp; done) | (simp; omega))), (by repeat (first | with_reducible exact Below.refl _ _ | with_reducible assumption | with_reducible exact below_d1 _ _ _ _ _ | with_reducible exact below_d2 _ _ _ _ _ _ _ _ | with_reducible exact below_d3 _ _ _ _ _ | with_reducible exact below_d4 _ _ _ _ _ _ _ _ | with_reducible exact below_d5 _ _ | with_reducible refine Below.drew ?_ | with_reducible refine Below.drewN' ?_ _ | with_reducible refine below_grow0 _ _ ?_ | with_reducible refine below_alloc0 _ ?_ | with_reducible refine Below.setCell ?_ ?_ _ | with_reducible refine Below.alloc ?_ ?_ _ | with_reducible refine Below.grow _ _ _ ?_ ?_ | omega | (simp; done) | (simp; omega)))⟩
end Go.Proofs.YtkoemhdchoicaaaDoor

/- The plain laws of a server that follows. -/
namespace Go.Proofs.YtkoemhdchoicaaaDoor
open Go.RowKit Go.ChangeShapes Go.WideShapes Go.ChangeAt
/-- how many numbers two logs begin with alike -/
def comK : List Txn → List Txn → Nat
  | x :: a, y :: b => if x.zxid = y.zxid then comK a b + 1 else 0
  | _, _ => 0
theorem comK_le : ∀ (a b : List Txn), comK a b ≤ a.length ∧ comK a b ≤ b.length
  | x :: a, y :: b => by
    have := comK_le a b
    unfold comK
    simp only [List.length_cons]
    split <;> omega
  | [], _ => by simp [comK]
  | _ :: _, [] => by simp [comK]
theorem comK_eq : ∀ (a b : List Txn) (i : Nat) (x y : Txn), i < comK a b → a[i]? = some x → b[i]? = some y → x.zxid = y.zxid
  | u :: a, v :: b, i, x, y, h, hx, hy => by
    unfold comK at h
    split at h
    · cases i with
      | zero => simp at hx hy; subst hx hy; assumption
      | succ i => exact comK_eq a b i x y (by omega) (by simpa using hx) (by simpa using hy)
    · omega
  | [], _, _, _, _, h, _, _ => by simp [comK] at h
  | _ :: _, [], _, _, _, h, _, _ => by simp [comK] at h
theorem comK_stop : ∀ (a b : List Txn) (x y : Txn), a[comK a b]? = some x → b[comK a b]? = some y → x.zxid ≠ y.zxid
  | u :: a, v :: b, x, y, hx, hy => by
    unfold comK at hx hy
    split at hx
    · rename_i h
      rw [if_pos h] at hy
      exact comK_stop a b x y (by simpa using hx) (by simpa using hy)
    · rename_i h
      rw [if_neg h] at hy
      simp at hx hy
      subst hx hy
      exact h
  | [], _, x, y, hx, _ => by simp at hx
  | _ :: _, [], x, y, _, hy => by simp at hy
theorem comK_end {a b : List Txn} {k : Nat} (hk : k ≤ comK a b) (h : ¬ k < a.length ∨ ¬ k < b.length ∨ ∃ x y, a[k]? = some x ∧ b[k]? = some y ∧ x.zxid ≠ y.zxid) : k = comK a b := by
  have hl := comK_le a b
  rcases Nat.lt_or_ge k (comK a b) with hlt | hge
  · exfalso
    rcases h with h | h | ⟨x, y, hx, hy, hne⟩
    · omega
    · omega
    · exact hne (comK_eq a b k x y hlt hx hy)
  · omega
theorem comK_go {a b : List Txn} {k : Nat} (hk : k ≤ comK a b) {x y : Txn} (hx : a[k]? = some x) (hy : b[k]? = some y) (he : x.zxid = y.zxid) : k + 1 ≤ comK a b := by
  rcases Nat.lt_or_ge k (comK a b) with hlt | hge
  · omega
  · exfalso
    obtain rfl : k = comK a b := by omega
    exact comK_stop a b x y hx hy he
/-- the number up to which the log is kept -/
def keepZ (l : List Txn) (k : Nat) : Int := if k = 0 then -1 else match l[k - 1]? with | some t => t.zxid | none => -1
theorem logP_mono {m : List Txn} (h : LogP m) {i j : Nat} {x y : Txn} (hij : i < j) (hx : m[i]? = some x) (hy : m[j]? = some y) : x.zxid < y.zxid := by
  obtain ⟨h1, rfl⟩ := List.getElem?_eq_some_iff.1 hx
  obtain ⟨h2, rfl⟩ := List.getElem?_eq_some_iff.1 hy
  exact List.pairwise_iff_getElem.1 h.1.2 i j h1 h2 hij
theorem upZ_com {l m : List Txn} (_hl : LogP l) (hm : LogP m) : upZ (keepZ l (comK l m)) m = m.take (comK l m) := by
  have hle := comK_le l m
  refine upZ_at hle.2 (fun t ht => ?_) ?_
  · obtain ⟨i, hi⟩ := List.mem_iff_getElem?.1 ht
    rw [List.getElem?_take] at hi
    split at hi
    · rename_i hik
      unfold keepZ
      rw [if_neg (by omega)]
      have hx := List.getElem?_eq_getElem (l := l) (i := comK l m - 1) (by omega)
      have hy := List.getElem?_eq_getElem (l := m) (i := comK l m - 1) (by omega)
      have he := comK_eq l m _ _ _ (by omega) hx hy
      rw [hx]
      simp only
      rw [he]
      rcases Nat.lt_or_ge i (comK l m - 1) with h | h
      · exact Int.le_of_lt (logP_mono hm h hi hy)
      · obtain rfl : i = comK l m - 1 := by omega
        rw [hy] at hi
        injection hi with hi
        rw [hi]
        exact Int.le_refl _
    · cases hi
  · rcases Nat.lt_or_ge (comK l m) m.length with h | h
    · have hz := List.getElem?_eq_getElem h
      refine .inr ⟨_, hz, ?_⟩
      unfold keepZ
      by_cases h0 : comK l m = 0
      · rw [if_pos h0]
        have := hm.2 _ (List.mem_of_getElem? hz)
        omega
      · rw [if_neg h0]
        have hx := List.getElem?_eq_getElem (l := l) (i := comK l m - 1) (by omega)
        have hy := List.getElem?_eq_getElem (l := m) (i := comK l m - 1) (by omega)
        have he := comK_eq l m _ _ _ (by omega) hx hy
        have := logP_mono hm (i := comK l m - 1) (j := comK l m) (by omega) hy hz
        rw [hx]
        simp only
        omega
    · exact .inl (by omega)
/-- what lies on a disk whose log file has just these transactions -/
theorem rec_dsk {q : Option (ByteArray × ByteArray)} {A B : ByteArray} {m L : List Txn} {d : List File} {c : Int} (hq : qsize q ≤ 1048576) (hz : A.size + B.size ≤ 1048576) (hb : bs (A ++ B) = recs m) (hm : LogOk m) (h : RecIs (dskB q A B) L d c) : c = 0 ∧ L = m ∧ d = dskB q (bS (recs m)) noB := by
  have hrd := dskB_read (a := A) (b := B) hq hz
  rcases h with ⟨h1, _⟩ | ⟨_, h2, _⟩ | ⟨_, h2, n, h3, h4⟩
  · rw [hrd.1] at h1
    exact absurd h1 (by decide)
  · exact absurd hrd.1 h2
  · rw [hrd.2, hb] at h3
    obtain ⟨rfl, rfl⟩ := scan_uniq h3 (scan_recs hm)
    refine ⟨h2, rfl, ?_⟩
    have hsz : (A ++ B).size = (recs L).length := by rw [← length_bs, hb]
    have := (dskB_cut (a := A) (b := B) hq hz (n := (recs L).length) (by rw [hsz]; exact Nat.le_refl _)).2
    rw [h4, this]
    congr 1
    apply bs_inj
    rw [bs_extractTD, List.drop_zero, hb, bs_bS, List.take_length]
theorem recs_take_len (m : List Txn) (k : Nat) : (recs (m.take k)).length ≤ (recs m).length := recs_take_le m k
theorem keep_dsk {q : Option (ByteArray × ByteArray)} {A B : ByteArray} {m l : List Txn} {f' : List File} {e : Int} (hq : qsize q ≤ 1048576) (hz : A.size + B.size ≤ 1048576) (hb : bs (A ++ B) = recs m) (hl : LogP l) (hm : LogP m) (h : KeepIs (dskB q A B) (keepZ l (comK l m)) f' e) : e = 0 ∧ f' = dskB q (bS (recs (m.take (comK l m)))) noB := by
  obtain ⟨L, d, c, hr, hc⟩ := h
  obtain ⟨rfl, rfl, rfl⟩ := rec_dsk hq hz hb hm.1 hr
  rcases hc with ⟨h, _⟩ | ⟨_, rfl, rfl⟩
  · exact absurd rfl h
  · have hsz : (bS (recs L)).size + noB.size ≤ 1048576 := by
      rw [bS_size, ← hb, length_bs, ByteArray.size_append]
      show _ + 0 ≤ _
      omega
    have hk : keepN (keepZ l (comK l L)) L = (recs (L.take (comK l L))).length := by unfold keepN; rw [upZ_com hl hm]
    have hle := recs_take_le L (comK l L)
    rw [hk]
    have := dskB_cut (q := q) (a := bS (recs L)) (b := noB) hq hsz (n := (recs (L.take (comK l L))).length) (by rw [add_noB, bS_size]; exact hle)
    refine ⟨this.1, this.2.trans ?_⟩
    congr 1
    apply bs_inj
    rw [bs_extractTD, List.drop_zero, add_noB, bs_bS, bs_bS]
    have e : recs L = recs (L.take (comK l L)) ++ recs (L.drop (comK l L)) := by rw [← recs_app, List.take_append_drop]
    conv => lhs; rw [e]
    rw [List.take_left' rfl]
/-- a transaction appended safely -/
theorem app_dsk {q : Option (ByteArray × ByteArray)} {m : List Txn} {t : Txn} (hq : qsize q ≤ 1048576) (ht : goodT t = 0) (h : (recs (m ++ [t])).length ≤ 1048576) : appL (dskB q (bS (recs m)) noB) t true = dskB q (bS (recs (m ++ [t]))) noB ∧ appE (dskB q (bS (recs m)) noB) t true = 0 := by
  have he : encR t = bS (recT t) := if_pos ht
  rw [recs_app, recs_one, List.length_append] at h
  have hz : (bS (recs m)).size + (noB ++ bS (recT t)).size ≤ 1048576 := by
    rw [noB_add, bS_size, bS_size]; exact h
  have hw := dskB_write (q := q) (a := bS (recs m)) (b := noB) (s := bS (recT t)) hq (by rw [bS_size (recs m), bS_size (recT t)]; show _ + 0 + _ ≤ _; omega)
  unfold appL appE
  rw [if_pos ht, if_pos ht, he, hw.1, hw.2, if_pos ⟨rfl, rfl⟩, if_pos ⟨rfl, rfl⟩, dskB_sync hq hz, (dskB_read hq hz).1, noB_add, recs_snoc]
  exact ⟨rfl, rfl⟩
/-- the log behind following -/
def folM (l m : List Txn) (j : Nat) : List Txn := m.take (comK l m) ++ (l.drop (comK l m)).take j
theorem fol_last {l m : List Txn} (hl : LogP l) (_hm : LogP m) {j : Nat} {x : Txn} (hx : l[comK l m + j]? = some x) : lastZ (folM l m j) < x.zxid := by
  have hle := comK_le l m
  have h1 := hl.2 _ (List.mem_of_getElem? hx)
  have hk := (List.getElem?_eq_some_iff.1 hx).1
  unfold folM
  rcases Nat.eq_zero_or_pos j with rfl | hj
  · rw [List.take_zero, List.append_nil]
    rcases Nat.eq_zero_or_pos (comK l m) with h0 | h0
    · rw [h0, List.take_zero, lastZ_nil]; omega
    · have hy := List.getElem?_eq_getElem (l := m) (i := comK l m - 1) (by omega)
      have hy2 := List.getElem?_eq_getElem (l := l) (i := comK l m - 1) (by omega)
      have e : m.take (comK l m) = m.take (comK l m - 1) ++ [m[comK l m - 1]'(by omega)] := by
        have := List.take_add_one (l := m) (i := comK l m - 1)
        rw [hy, show comK l m - 1 + 1 = comK l m from by omega] at this
        exact this
      rw [e, lastZ_snoc, ← comK_eq l m _ _ _ (by omega) hy2 hy]
      exact logP_mono hl (by omega) hy2 hx
  · have hy : l[comK l m + (j - 1)]? = some (l[comK l m + (j - 1)]'(by omega)) := List.getElem?_eq_getElem _
    have e : (l.drop (comK l m)).take j = (l.drop (comK l m)).take (j - 1) ++ [l[comK l m + (j - 1)]'(by omega)] := by
      have := List.take_add_one (l := l.drop (comK l m)) (i := j - 1)
      rw [List.getElem?_drop, hy, show j - 1 + 1 = j from by omega] at this
      exact this
    rw [e, ← List.append_assoc, lastZ_snoc]
    exact logP_mono hl (by omega) hy hx
theorem fol_snoc {l m : List Txn} {j : Nat} {x : Txn} (hx : l[comK l m + j]? = some x) : folM l m j ++ [x] = folM l m (j + 1) := by
  unfold folM
  rw [List.take_add_one, List.getElem?_drop, hx, List.append_assoc]
  rfl
theorem fol_mem {l m : List Txn} {j : Nat} {t : Txn} (ht : t ∈ folM l m j) : t ∈ m ∨ t ∈ l := by
  unfold folM at ht
  rcases List.mem_append.1 ht with h | h
  · exact .inl (List.mem_of_mem_take h)
  · exact .inr (List.mem_of_mem_drop (List.mem_of_mem_take h))
theorem fol_len (l m : List Txn) (j : Nat) : (folM l m j).length ≤ m.length + l.length := by
  unfold folM
  rw [List.length_append, List.length_take, List.length_take, List.length_drop]
  omega
theorem fol_size {l m : List Txn} (hl : LogP l) (hm : LogP m) (h1 : l.length ≤ 400) (h2 : m.length ≤ 400) (j : Nat) : (recs (folM l m j)).length ≤ 824800 := by
  have := (recs_len (l := folM l m j) (fun t ht => (fol_mem ht).elim (fun h => hm.1.1 t h) (fun h => hl.1.1 t h))).1
  have := fol_len l m j
  omega
theorem fol_length {l m : List Txn} {j : Nat} (hj : comK l m + j ≤ l.length) : (folM l m j).length = comK l m + j := by
  have := comK_le l m
  unfold folM
  rw [List.length_append, List.length_take, List.length_take, List.length_drop]
  omega
end Go.Proofs.YtkoemhdchoicaaaDoor

/- store.Follow. -/
namespace Go.Proofs.YtkoemhdchoicaaaDoor
open Go.RowKit Go.ChangeShapes Go.WideShapes Go.ChangeAt
/-- a server's disk and log -/
structure SrvOk (s : Srv) (q : Option (ByteArray × ByteArray)) (A B : ByteArray) : Prop where
  disk : s.disk = dskB q A B
  qs : qsize q ≤ 1048576
  log : bs (A ++ B) = recs s.log
  ok : LogP s.log
  len : s.log.length ≤ 400
abbrev folS (s : Srv) (l : List Txn) (ep : Int) (j : Nat) : Srv := { s with disk := dskB (some (epT ep, noB)) (bS (recs (folM l s.log j))) noB, epoch := ep, log := folM l s.log j }
theorem Sl.dropK {α : Type} {f : α → List Value} {s : Nat} {w : World} {b off n c : Nat} {l : List α} (h : Sl f s w (.slice (some ⟨b, off, none⟩) n c) l) {K : Nat} (hK : K ≤ l.length) (hn : n = l.length) : Sl f s w (.slice (some ⟨b, off + K * s, none⟩) (n - K) (c - K)) (l.drop K) := by
  subst hn
  obtain ⟨A, c', he, h1, h2, h3, h4⟩ := h
  injection he with e1 e2 e3
  subst e3
  simp only [List.length_map] at h1 h4
  refine ⟨some ⟨b, off + K * s, none⟩, c - K, by simp, by simp; omega, by omega, fun y hy => h3 y ?_, fun h0 => ?_⟩
  · rw [List.map_drop] at hy
    exact List.mem_of_mem_drop hy
  · obtain ⟨b', off', hA, hb, hc⟩ := h4 (by simp at h0; omega)
    rw [hA] at e1
    injection e1 with e1
    injection e1 with e4 e5
    subst e4 e5
    refine ⟨b, off + K * s, rfl, hb, fun i y hy j u hu => ?_⟩
    rw [List.map_drop, List.getElem?_drop] at hy
    have := hc (K + i) y hy j u hu
    rw [show off + K * s + i * s + j = off + (K + i) * s + j from by rw [Nat.add_mul]; omega]
    exact this
abbrev vFol (s : Srv) (ep : Int) (n : Nat) (v : SrvV) : Value := .agg #[.bool s.up, .slice v.da 2 v.dc, .int .i64 s.id, .int .i64 ep, .slice v.la n v.lc, .int .i64 s.done_, .int .i64 s.tz, .slice v.na s.nodes.length v.nc, .slice v.sa s.sess.length v.sc, .slice v.wa s.watches.length v.wc]
theorem vFol_is {s : Srv} {l : List Txn} {ep : Int} {j : Nat} (hj : comK l s.log + j ≤ l.length) (v : SrvV) : vSrv (folS s l ep j) v = vFol s ep (comK l s.log + j) v := by
  simp only [vSrv, fol_length hj]
  rfl
def FolRes (p : Nat → Prop) (s : Srv) (l : List Txn) (ep : Int) (j n : Nat) (w : World) (e : Ending) (w' : World) : Prop := ∃ da dc la lc na nc sa sc wa wc, e = .returned (.tuple #[vFol s ep n ⟨da, dc, la, lc, na, nc, sa, sc, wa, wc⟩, .int .i64 0]) ∧ SrvIn p w' (folS s l ep j) ⟨da, dc, la, lc, na, nc, sa, sc, wa, wc⟩ ∧ Below w.heap.size w w'
theorem fol_take {s : Srv} {l : List Txn} {ep : Int} (hl : LogP l) (hm : LogP s.log) (h1 : l.length ≤ 400) (h2 : s.log.length ≤ 400) (hep : Half ep) {j : Nat} {x : Txn} (hx : l[comK l s.log + j]? = some x) (p : Nat → Prop) (v : SrvV) (w : World) (h : SrvIn p w (folS s l ep j) v) (hp : ∀ q, p q → q < w.heap.size) :
    Calls Tryd.prog 13 #[vFol s ep (comK l s.log + j) v, vTxn x, .bool true] w (FolRes p s l ep (j + 1) (comK l s.log + (j + 1)) w) := by
  have hk := (List.getElem?_eq_some_iff.1 hx).1
  have hg : goodT x = 0 := hl.1.1 x (List.mem_of_getElem? hx)
  have hq : qsize (some (epT ep, noB)) ≤ 1048576 := by have := epT_size hep; show (epT ep).size + 0 ≤ _; omega
  have hs := fol_size hl hm h1 h2 (j + 1)
  have ha := app_dsk (q := some (epT ep, noB)) (m := folM l s.log j) hq hg (by rw [fol_snoc hx]; omega)
  rw [fol_snoc hx] at ha
  have he : takeE (folS s l ep j) x true = 0 := by
    unfold takeE
    simp only
    rw [if_neg (by have := fol_last hl hm hx; omega)]
    exact ha.2
  have hS : takeS (folS s l ep j) x true = folS s l ep (j + 1) := by
    unfold takeS
    rw [if_pos he]
    simp only
    rw [ha.1, fol_snoc hx]
  have hsz := fol_size hl hm h1 h2 j
  have h3 := storeTake p (folS s l ep j) v x true w h hp (dskB_sized hq (by rw [bS_size]; show _ + 0 ≤ _; omega)) (by have := fol_len l s.log j; simp only; omega) (good_path hg)
  rw [he, hS, vFol_is (by omega)] at h3
  refine h3.mono fun e w' hh => ?_
  obtain ⟨⟨da, dc, la, lc, na, nc, sa, sc, wa, wc⟩, he, h4, h5⟩ := hh
  exact ⟨da, dc, la, lc, na, nc, sa, sc, wa, wc, by rw [he, vFol_is (by omega)], h4, h5⟩
theorem SrvOk.size {s : Srv} {q : Option (ByteArray × ByteArray)} {A B : ByteArray} (h : SrvOk s q A B) : A.size + B.size ≤ 1048576 := by
  have h1 := congrArg List.length h.log
  rw [length_bs, ByteArray.size_append] at h1
  have := (recs_len h.ok.1.1).1
  have := h.len
  omega
set_option maxRecDepth 100000 in
set_option maxHeartbeats 1000000 in
theorem storeFollow (p : Nat → Prop) (s : Srv) (v : SrvV) (u : Value) (l : List Txn) (ep : Int) (w : World) (q : Option (ByteArray × ByteArray)) (A B : ByteArray) (h : SrvIn p w s v) (hu : Sl cTxn 7 w u l) (hp : ∀ q, p q → q < w.heap.size)
    (hs : SrvOk s q A B) (hl : LogP l) (hn : l.length ≤ 400) (hep : Half ep) (ht : Tab w) (hd : s.done_ ≤ comK l s.log) :
    Calls Tryd.prog 15 #[vSrv s v, u, .int .i64 ep] w (SrvRes p (folS s l ep (l.length - comK l s.log)) 0 w) := by
  obtain ⟨LA, LC, rfl, hc1, hc2⟩ := hu.form
  have HP := Lib.hid hp
  have HL := Lib.hid hu
  obtain ⟨up, disk, id, ep0, log, dn, tz, nodes, sess, wat⟩ := s
  obtain ⟨da, dc, la, lc, na, nc, sa, sc, wa, wc⟩ := v
  have hsz := hs.size
  obtain ⟨e1, hq, hlog, hok, hlen⟩ := hs
  obtain ⟨hD, hG, hN, hS, hW⟩ := h
  simp only at e1 hlog hok hlen hD hG hN hS hW hd
  subst e1
  have HD := Lib.hid hD
  have HG : Hid (Sl cTxn 7 w (.slice la log.length lc) log) := Lib.hid hG.1
  have HN := Lib.hid hN
  have HS := Lib.hid hS
  have HW := Lib.hid hW
  have hcl := comK_le l log
  have HK := Lib.hid (fun (W : World) (h : Sl cFile 3 W (.slice da (dskB q A B).length dc) (dskB q A B)) => (keep_any _ (dskB q A B) (keepZ l (comK l log)) W h (dskB_sized hq hsz)).mono (fun e w' hh => show DkRes (dskB q (bS (recs (log.take (comK l log)))) noB) 0 W e w' from by
    obtain ⟨B', k, f', code, he, hk, ho, hb⟩ := hh
    obtain ⟨rfl, rfl⟩ := keep_dsk hq hsz hlog hl hok hk
    exact ⟨B', k, he, ho, hb⟩))
  have hz2 : (bS (recs (log.take (comK l log)))).size + noB.size ≤ 1048576 := by
    rw [bS_size]
    have := recs_take_le log (comK l log)
    have := (recs_len hok.1.1).1
    show _ + 0 ≤ _
    omega
  have HR := Lib.hid (fun (W : World) (v : Value) (h : Sl cFile 3 W v (dskB q (bS (recs (log.take (comK l log)))) noB)) (ht : Tab W) => remember_yes v q (bS (recs (log.take (comK l log)))) noB ep W h hep hq hz2 ht)
  have HT := Lib.hid ht
  generalize hK : comK l log = K at *
  have HKK := Lib.hid hK
  generalize hD0 : dskB q A B = D0 at *
  clear hD hG hN hS hW hu hp hK hD0 ht
  go_enter Tryd.func15, Tryd.ntmps15
  go_upto_block 0 with fail
  go_cut [8] (fun s8 wx => ∃ n, s8 = .int .i64 (K : Nat) ∧ wx = ((w.alloc (.cells #[.bool up, .slice da D0.length dc, .int .i64 id, .int .i64 ep0, .slice la log.length lc, .int .i64 dn, .int .i64 tz, .slice na nodes.length nc, .slice sa sess.length sc, .slice wa wat.length wc] 35)).alloc (.cells #[.bool false, .slice none 0 0, .int .i64 0, .int .i64 0, .slice none 0 0, .int .i64 0, .int .i64 0, .slice none 0 0, .slice none 0 0, .slice none 0 0] 35)).drewN n)
  case first =>
    clear HD HN HS HW HK HR HT hd hz2
    go_wp2_with fail
    go_loopw [8] (fun i wr => ∃ (k n : Nat), k ≤ K ∧ i = .int .i64 k ∧ wr = ((w.alloc (.cells #[.bool up, .slice da D0.length dc, .int .i64 id, .int .i64 ep0, .slice la log.length lc, .int .i64 dn, .int .i64 tz, .slice na nodes.length nc, .slice sa sess.length sc, .slice wa wat.length wc] 35)).alloc (.cells #[.bool false, .slice none 0 0, .int .i64 0, .int .i64 0, .slice none 0 0, .int .i64 0, .int .i64 0, .slice none 0 0, .slice none 0 0, .slice none 0 0] 35)).drewN n) (fun i _ => K - (intOf i).toNat)
    case atStart => exact ⟨0, 0, Nat.zero_le _, rfl, rfl⟩
    case round =>
      obtain ⟨k, n, hk, rfl, rfl⟩ := hrel
      by_cases h1 : k < l.length
      · have hx : l[k]? = some (l[k]'h1) := List.getElem?_eq_getElem _
        obtain ⟨b, off, rfl, hb, x0, _⟩ := HL.out.Txn_at hx
        by_cases h2 : k < log.length
        · have hy : log[k]? = some (log[k]'h2) := List.getElem?_eq_getElem _
          obtain ⟨b2, off2, rfl, hb2, y0, _⟩ := HG.out.Txn_at hy
          by_cases h3 : (l[k]'h1).zxid = (log[k]'h2).zxid
          · have hgo : k + 1 ≤ K := by rw [← HKK.out]; exact comK_go (by rw [HKK.out]; exact hk) hx hy h3
            rw [h3] at x0
            generalize (log[k]'h2).zxid = z at *
            clear hx hy h3
            go_wp2_with fail
            go_quiet (fail)
            go_wp2_with fail
            go_roundw
            case rel => exact ⟨k + 1, _, hgo, by go_num, rfl⟩
            case measure => simp [intOf]; omega
          · have hend : k = K := by rw [← HKK.out]; exact comK_end (by rw [HKK.out]; exact hk) (.inr (.inr ⟨_, _, hx, hy, h3⟩))
            have hne : ((l[k]'h1).zxid == (log[k]'h2).zxid) = false := beq_eq_false_iff_ne.2 h3
            generalize (l[k]'h1).zxid = z1 at *
            generalize (log[k]'h2).zxid = z2 at *
            clear hx hy h3
            subst hend
            go_wp2_with fail
            go_quiet (fail)
            go_wp2_with fail
            go_meet
            exact ⟨_, rfl, World.drewN_drewN _ _ _⟩
        · have hend : k = K := by rw [← HKK.out]; exact comK_end (by rw [HKK.out]; exact hk) (.inr (.inl h2))
          subst hend
          clear hx
          go_wp2_with fail
          go_quiet (fail)
          go_wp2_with fail
          go_meet
          exact ⟨_, rfl, World.drewN_drewN _ _ _⟩
      · have hend : k = K := by rw [← HKK.out]; exact comK_end (by rw [HKK.out]; exact hk) (.inl h1)
        subst hend
        go_wp2_with fail
        go_quiet (fail)
        go_wp2_with fail
        go_meet
        exact ⟨_, rfl, World.drewN_drewN _ _ _⟩
  case rest =>
    obtain ⟨n, rfl, rfl⟩ := hcut
    have hdn : decide ((K : Int) < dn) = false := decide_eq_false (by omega)
    have hKL : K ≤ l.length := hcl.1
    have hKG : K ≤ log.length := hcl.2
    have HKZ := Lib.hid (show keepZ l K = keepZ l K from rfl)
    have hlt1 : (LC : Int) = (LC : Int) := rfl
    clear hlt1
    go_upto_if 50 with fail
    go_cut [9] (fun s9 wx => ∃ n, s9 = .int .i64 (keepZ l K) ∧ wx = ((w.alloc (.cells #[.bool up, .slice da D0.length dc, .int .i64 id, .int .i64 ep0, .slice la log.length lc, .int .i64 dn, .int .i64 tz, .slice na nodes.length nc, .slice sa sess.length sc, .slice wa wat.length wc] 35)).alloc (.cells #[.bool false, .slice none 0 0, .int .i64 0, .int .i64 0, .slice none 0 0, .int .i64 0, .int .i64 0, .slice none 0 0, .slice none 0 0, .slice none 0 0] 35)).drewN n)
    case first =>
      clear HD HG HN HS HW HK HR HT hz2 HKZ
      rcases Nat.eq_zero_or_pos K with h0 | h0
      · have hz0 : keepZ l K = -1 := by unfold keepZ; rw [if_pos h0]
        have hd0 : decide (0 < K) = false := decide_eq_false (by omega)
        have HZ0 := Lib.hid hz0
        clear hz0
        subst h0
        go_wp2_with fail
        go_meet
        exact ⟨_, by rw [HZ0.out], rfl⟩
      · obtain ⟨j, rfl⟩ : ∃ j, K = j + 1 := ⟨K - 1, by omega⟩
        have hx : l[j]? = some (l[j]'(by omega)) := List.getElem?_eq_getElem _
        have hz0 : keepZ l (j + 1) = (l[j]'(by omega)).zxid := by unfold keepZ; rw [if_neg (by omega), Nat.add_sub_cancel, hx]
        obtain ⟨b, off, rfl, hb, x0, _⟩ := HL.out.Txn_at hx
        generalize (l[j]'(by omega)).zxid = z at *
        have HZ0 := Lib.hid hz0
        have hwj : IntKind.i64.wrap ((j : Int) + 1 - 1) = (j : Int) := by unfold IntKind.wrap; simp [IntKind.signed, IntKind.bits]; omega
        have hjl : j < l.length := by omega
        clear hx hz0
        go_wp2_with fail
        go_meet
        exact ⟨_, by rw [HZ0.out], rfl⟩
    case rest =>
      obtain ⟨n2, rfl, rfl⟩ := hcut
      generalize keepZ l K = z at *
      generalize hFM : dskB q (bS (recs (log.take K))) noB = D1 at *
      have HO : Hid (∀ j x, l[K + j]? = some x → ∀ (p : Nat → Prop) (v : SrvV) (w : World), SrvIn p w (folS ⟨up, D0, id, ep0, log, dn, tz, nodes, sess, wat⟩ l ep j) v → (∀ q, p q → q < w.heap.size) → Calls Tryd.prog 13 #[vFol ⟨up, D0, id, ep0, log, dn, tz, nodes, sess, wat⟩ ep (K + j) v, vTxn x, .bool true] w (FolRes p ⟨up, D0, id, ep0, log, dn, tz, nodes, sess, wat⟩ l ep (j + 1) (K + (j + 1)) w)) := Lib.hid (fun j x hx p v w h hp => by
        have h1 := fol_take (s := ⟨up, D0, id, ep0, log, dn, tz, nodes, sess, wat⟩) (l := l) (ep := ep) hl hok hn hlen hep (j := j) (x := x) (by simp only; rw [HKK.out]; exact hx) p v w h hp
        simp only [HKK.out] at h1
        exact h1)
      have hKlc : K ≤ lc := Nat.le_trans hcl.2 HG.out.caps.1
      have htl : (log.take K).length = K := by rw [List.length_take]; omega
      have HTL := Lib.hid htl
      have HGK : Hid (Sl cTxn 7 w (.slice la K lc) (log.take K)) := Lib.hid (by have hq := HG.out.pre2 (List.take_prefix K log); rw [htl] at hq; exact hq)
      have hK4 : K ≤ 400 := by omega
      clear htl
      have hdl : (dskB (some (textB (ep * 2147483648), noB)) (bS (recs (List.take K log))) noB).length = 2 := rfl
      go_upto_region 17 with (first | (at_builtin; refine wpList_app _ rfl (.const (.slice none 0 0)) (.tmp 86) _ rfl elTxn (B := w.heap.size + 1 + 1 + ext1.size + 1 + ext2.size) (v := .slice none 0 0) (xv := .slice la K lc) (l := []) (m := log.take K) rfl rfl (Ow.nil _ _ _ _ _) (HGK.out.below (by repeat (first | with_reducible exact Below.refl _ _ | with_reducible assumption | with_reducible exact below_d1 _ _ _ _ _ | with_reducible exact below_d2 _ _ _ _ _ _ _ _ | with_reducible exact below_d3 _ _ _ _ _ | with_reducible exact below_d4 _ _ _ _ _ _ _ _ | with_reducible exact below_d5 _ _ | with_reducible refine Below.drew ?_ | with_reducible refine Below.drewN' ?_ _ | with_reducible refine below_grow0 _ _ ?_ | with_reducible refine below_alloc0 _ ?_ | with_reducible refine Below.setCell ?_ ?_ _ | with_reducible refine Below.alloc ?_ ?_ _ | with_reducible refine Below.grow _ _ _ ?_ ?_ | omega | (simp; done) | (simp; omega)))) cTxn_one (by rw [HTL.out]; simp [maxLen]; omega) (by rw [HTL.out]; simp; omega) (by simp <;> omega) ?_; intro v3 w3 hown3 hg3 _; rw [List.nil_append] at hown3; obtain ⟨A3, c3, he3, _⟩ := hown3.form; rw [HTL.out] at he3; subst he3; obtain ⟨ext3, d3, rfl⟩ := Below.grown_eq _ (Below.of_grown hg3); have HO3 := Lib.hid hown3; clear hown3 hg3) | (go_at_call 26; refine (HK.out _ (HD.out.1.below (by repeat (first | with_reducible exact Below.refl _ _ | with_reducible assumption | with_reducible exact below_d1 _ _ _ _ _ | with_reducible exact below_d2 _ _ _ _ _ _ _ _ | with_reducible exact below_d3 _ _ _ _ _ | with_reducible exact below_d4 _ _ _ _ _ _ _ _ | with_reducible exact below_d5 _ _ | with_reducible refine Below.drew ?_ | with_reducible refine Below.drewN' ?_ _ | with_reducible refine below_grow0 _ _ ?_ | with_reducible refine below_alloc0 _ ?_ | with_reducible refine Below.setCell ?_ ?_ _ | with_reducible refine Below.alloc ?_ ?_ _ | with_reducible refine Below.grow _ _ _ ?_ ?_ | omega | (simp; done) | (simp; omega))))).mono ?_; rintro e w1 ⟨A1, k1, rfl, ho1, hb1⟩; obtain ⟨ext1, d1, rfl⟩ := Below.grown_eq _ hb1; have HO1 := Lib.hid ho1; clear ho1 hb1 HK) | (go_at_call 27; (with_reducible refine (HR.out _ _ ?hr1 ?hr2).mono ?_); (case hr1 => (refine Ow.sl (Ow.moved (W' := ?v1) (d' := ?y1) HO1.out (Nat.le_refl _) ?c1 ?t1); (case c1 => exact (by repeat (first | with_reducible exact Below.refl _ _ | with_reducible assumption | with_reducible exact below_d1 _ _ _ _ _ | with_reducible exact below_d2 _ _ _ _ _ _ _ _ | with_reducible exact below_d3 _ _ _ _ _ | with_reducible exact below_d4 _ _ _ _ _ _ _ _ | with_reducible exact below_d5 _ _ | with_reducible refine Below.drew ?_ | with_reducible refine Below.drewN' ?_ _ | with_reducible refine below_grow0 _ _ ?_ | with_reducible refine below_alloc0 _ ?_ | with_reducible refine Below.setCell ?_ ?_ _ | with_reducible refine Below.alloc ?_ ?_ _ | with_reducible refine Below.grow _ _ _ ?_ ?_ | omega | (simp; done) | (simp; omega)))); (case t1 => simp))); (case hr2 => exact HT.out.below (by repeat (first | with_reducible exact Below.refl _ _ | with_reducible assumption | with_reducible exact below_d1 _ _ _ _ _ | with_reducible exact below_d2 _ _ _ _ _ _ _ _ | with_reducible exact below_d3 _ _ _ _ _ | with_reducible exact below_d4 _ _ _ _ _ _ _ _ | with_reducible exact below_d5 _ _ | with_reducible refine Below.drew ?_ | with_reducible refine Below.drewN' ?_ _ | with_reducible refine below_grow0 _ _ ?_ | with_reducible refine below_alloc0 _ ?_ | with_reducible refine Below.setCell ?_ ?_ _ | with_reducible refine Below.alloc ?_ ?_ _ | with_reducible refine Below.grow _ _ _ ?_ ?_ | omega | (simp; done) | (simp; omega)))); rintro e w1 ⟨A2, k2, rfl, ho2, hb2⟩; obtain ⟨ext2, d2, rfl⟩ := Below.grown_eq _ hb2; have HO2 := Lib.hid ho2; clear ho2 hb2 HR))
      refine gen_w (fun W1 hW1 => ?_)
      go_cut [92, 93, 94] (fun s92 s93 s94 wx => ∃ A' c', s92 = .slice A' (l.length - K) c' ∧ s93 = .int .i64 ((l.length - K : Nat) : Int) ∧ s94 = .int .i64 0 ∧ Hid (Sl cTxn 7 w (.slice A' (l.length - K) c') (l.drop K)) ∧ wx = W1)
      case first =>
        by_cases hKc : K = LC
        · have hl0 : l.length = K := by omega
          have hdr : l.drop K = [] := List.drop_of_length_le (by omega)
          have HDR := Lib.hid hdr
          have hK0 : l.length - K = 0 := by omega
          have HK0 := Lib.hid hK0
          have HL0 := Lib.hid hl0
          clear hdr hK0 hW1 hl0
          subst hKc
          go_wp2_with fail
          go_meet
          exact ⟨LA, 0, by rw [HK0.out], by rw [HK0.out]; rfl, rfl, Lib.hid (by rw [HK0.out, HDR.out]; exact Sl.empty _ _ _ _ (by simp [maxLen])), rfl⟩
        · have hKc2 : K < LC := by omega
          clear hKc
          cases LA with
          | none =>
            obtain rfl := HL.out.none_nil
            obtain rfl : K = 0 := by simpa using hKL
            simp only [List.length_nil] at *
            go_wp2_with fail
            go_meet
            exact ⟨none, LC, rfl, rfl, rfl, Lib.hid (Sl.empty _ _ _ _ (by assumption)), rfl⟩
          | some a =>
            have hspot : ∃ b off, a = ⟨b, off, none⟩ ∨ l = [] := by
              rcases l with _ | ⟨x, r⟩
              · exact ⟨0, 0, .inr rfl⟩
              · obtain ⟨b, off, hA, _⟩ := HL.out.at_ (i := 0) rfl
                injection hA with hA
                exact ⟨b, off, .inl hA⟩
            obtain ⟨b, off, hs⟩ := hspot
            rcases hs with rfl | rfl
            · have HSD := Lib.hid (HL.out.dropK hKL rfl)
              clear hW1
              go_wp2_with fail
              go_meet
              exact ⟨_, _, rfl, rfl, rfl, HSD, rfl⟩
            · obtain rfl : K = 0 := by simpa using hKL
              simp only [List.length_nil] at *
              clear hW1
              go_wp2_with fail
              go_meet
              exact ⟨_, _, rfl, rfl, rfl, Lib.hid (Sl.empty _ _ _ _ (by first | assumption | (simp; done) | (simp; omega))), rfl⟩
      case rest =>
        obtain ⟨A', c', rfl, rfl, rfl, HSL, rfl⟩ := hcut
        have hWW := hW1.out
        subst hWW
        have HF0 : Hid (folM l log 0 = log.take K) := Lib.hid (by unfold folM; rw [HKK.out, List.take_zero, List.append_nil])
        clear HGK HG
        generalize hM : l.length - K = M at *
        have HMM := Lib.hid hM
        have hM4 : M ≤ 400 := by omega
        clear hM
        go_wp2_with fail
        go_loopw [94] (fun i wr => ∃ (j : Nat) (da : Option Addr) (dc : Nat) (la : Option Addr) (lc : Nat) (na : Option Addr) (nc : Nat) (sa : Option Addr) (sc : Nat) (wa : Option Addr) (wc : Nat) (ext : Array Obj) (d : Nat), j ≤ M ∧ i = .int .i64 j ∧
          wr = grow ((w.alloc (.cells #[.bool up, .slice da 2 dc, .int .i64 id, .int .i64 ep, .slice la (K + j) lc, .int .i64 dn, .int .i64 tz, .slice na nodes.length nc, .slice sa sess.length sc, .slice wa wat.length wc] 35)).alloc (.cells #[.bool false, .slice none 0 0, .int .i64 0, .int .i64 0, .slice none 0 0, .int .i64 0, .int .i64 0, .slice none 0 0, .slice none 0 0, .slice none 0 0] 35)) ext d ∧
          Hid (SrvIn (fun q => p q ∨ q = w.heap.size ∨ q = w.heap.size + 1) wr (folS ⟨up, D0, id, ep0, log, dn, tz, nodes, sess, wat⟩ l ep j) ⟨da, dc, la, lc, na, nc, sa, sc, wa, wc⟩)) (fun i _ => M - (intOf i).toNat)
        case atStart =>
          refine ⟨0, A2, k2, A3, c3, na, nc, sa, sc, wa, wc, _, _, Nat.zero_le _, rfl, (by rw [Nat.add_zero]; exact grown_of (by repeat (first | with_reducible exact Below.refl _ _ | with_reducible assumption | with_reducible exact below_d1 _ _ _ _ _ | with_reducible exact below_d2 _ _ _ _ _ _ _ _ | with_reducible exact below_d3 _ _ _ _ _ | with_reducible exact below_d4 _ _ _ _ _ _ _ _ | with_reducible exact below_d5 _ _ | with_reducible refine Below.drew ?_ | with_reducible refine Below.drewN' ?_ _ | with_reducible refine below_grow0 _ _ ?_ | with_reducible refine below_alloc0 _ ?_ | with_reducible refine Below.setCell ?_ ?_ _ | with_reducible refine Below.alloc ?_ ?_ _ | with_reducible refine Below.grow _ _ _ ?_ ?_ | omega | (simp; done) | (simp; omega)))), Lib.hid ⟨?_, ?_, ?_, ?_, ?_⟩⟩
          · show SlA _ cFile 3 _ (.slice A2 2 k2) (dskB (some (textB (ep * 2147483648), noB)) (bS (recs (folM l log 0))) noB)
            rw [HF0.out]
            refine Ow.sla (Ow.moved (W' := ?w5) (d' := ?x5) HO2.out (Nat.le_refl _) ?b5 ?z5) (fun q hq => ?_)
            case b5 => exact (by repeat (first | with_reducible exact Below.refl _ _ | with_reducible assumption | with_reducible exact below_d1 _ _ _ _ _ | with_reducible exact below_d2 _ _ _ _ _ _ _ _ | with_reducible exact below_d3 _ _ _ _ _ | with_reducible exact below_d4 _ _ _ _ _ _ _ _ | with_reducible exact below_d5 _ _ | with_reducible refine Below.drew ?_ | with_reducible refine Below.drewN' ?_ _ | with_reducible refine below_grow0 _ _ ?_ | with_reducible refine below_alloc0 _ ?_ | with_reducible refine Below.setCell ?_ ?_ _ | with_reducible refine Below.alloc ?_ ?_ _ | with_reducible refine Below.grow _ _ _ ?_ ?_ | omega | (simp; done) | (simp; omega)))
            case z5 => simp
            rcases hq with hq | rfl | rfl
            · exact Nat.lt_of_lt_of_le (HP.out q hq) (by simp; omega)
            · simp; omega
            · simp; omega
          · show SlA _ cTxn 7 _ (.slice A3 (folM l log 0).length c3) (folM l log 0)
            rw [HF0.out, HTL.out]
            refine Ow.sla (B := w.heap.size + 1 + 1 + ext1.size + 1 + ext2.size) (Ow.moved (W' := ?w6) (d' := ?x6) HO3.out ?c6 ?b6 ?z6) (fun q hq => ?_)
            case b6 => exact (by repeat (first | with_reducible exact Below.refl _ _ | with_reducible assumption | with_reducible exact below_d1 _ _ _ _ _ | with_reducible exact below_d2 _ _ _ _ _ _ _ _ | with_reducible exact below_d3 _ _ _ _ _ | with_reducible exact below_d4 _ _ _ _ _ _ _ _ | with_reducible exact below_d5 _ _ | with_reducible refine Below.drew ?_ | with_reducible refine Below.drewN' ?_ _ | with_reducible refine below_grow0 _ _ ?_ | with_reducible refine below_alloc0 _ ?_ | with_reducible refine Below.setCell ?_ ?_ _ | with_reducible refine Below.alloc ?_ ?_ _ | with_reducible refine Below.grow _ _ _ ?_ ?_ | omega | (simp; done) | (simp; omega)))
            case z6 => simp
            case c6 => simp
            rcases hq with hq | rfl | rfl
            · have := HP.out q hq; omega
            · omega
            · omega
          · exact (HN.out.more (p' := fun q => p q ∨ q = w.heap.size ∨ q = w.heap.size + 1) (by rintro q (hq | rfl | rfl); exact .inl hq; exact .inr (Nat.le_refl _); exact .inr (by omega))).below (by repeat (first | with_reducible exact Below.refl _ _ | with_reducible assumption | with_reducible exact below_d1 _ _ _ _ _ | with_reducible exact below_d2 _ _ _ _ _ _ _ _ | with_reducible exact below_d3 _ _ _ _ _ | with_reducible exact below_d4 _ _ _ _ _ _ _ _ | with_reducible exact below_d5 _ _ | with_reducible refine Below.drew ?_ | with_reducible refine Below.drewN' ?_ _ | with_reducible refine below_grow0 _ _ ?_ | with_reducible refine below_alloc0 _ ?_ | with_reducible refine Below.setCell ?_ ?_ _ | with_reducible refine Below.alloc ?_ ?_ _ | with_reducible refine Below.grow _ _ _ ?_ ?_ | omega | (simp; done) | (simp; omega)))
          · exact (HS.out.more (p' := fun q => p q ∨ q = w.heap.size ∨ q = w.heap.size + 1) (by rintro q (hq | rfl | rfl); exact .inl hq; exact .inr (Nat.le_refl _); exact .inr (by omega))).below (by repeat (first | with_reducible exact Below.refl _ _ | with_reducible assumption | with_reducible exact below_d1 _ _ _ _ _ | with_reducible exact below_d2 _ _ _ _ _ _ _ _ | with_reducible exact below_d3 _ _ _ _ _ | with_reducible exact below_d4 _ _ _ _ _ _ _ _ | with_reducible exact below_d5 _ _ | with_reducible refine Below.drew ?_ | with_reducible refine Below.drewN' ?_ _ | with_reducible refine below_grow0 _ _ ?_ | with_reducible refine below_alloc0 _ ?_ | with_reducible refine Below.setCell ?_ ?_ _ | with_reducible refine Below.alloc ?_ ?_ _ | with_reducible refine Below.grow _ _ _ ?_ ?_ | omega | (simp; done) | (simp; omega)))
          · exact (HW.out.more (p' := fun q => p q ∨ q = w.heap.size ∨ q = w.heap.size + 1) (by rintro q (hq | rfl | rfl); exact .inl hq; exact .inr (Nat.le_refl _); exact .inr (by omega))).below (by repeat (first | with_reducible exact Below.refl _ _ | with_reducible assumption | with_reducible exact below_d1 _ _ _ _ _ | with_reducible exact below_d2 _ _ _ _ _ _ _ _ | with_reducible exact below_d3 _ _ _ _ _ | with_reducible exact below_d4 _ _ _ _ _ _ _ _ | with_reducible exact below_d5 _ _ | with_reducible refine Below.drew ?_ | with_reducible refine Below.drewN' ?_ _ | with_reducible refine below_grow0 _ _ ?_ | with_reducible refine below_alloc0 _ ?_ | with_reducible refine Below.setCell ?_ ?_ _ | with_reducible refine Below.alloc ?_ ?_ _ | with_reducible refine Below.grow _ _ _ ?_ ?_ | omega | (simp; done) | (simp; omega)))
        case round =>
          obtain ⟨j, da2, dc2, la2, lc2, na2, nc2, sa2, sc2, wa2, wc2, ext, d, hj, rfl, rfl, hsv⟩ := hrel
          clear HO1 HO2 HO3 HN HS HW HD HT
          have HPW : Hid (∀ (W : World), w.heap.size + 1 + 1 ≤ W.heap.size → ∀ q, (p q ∨ q = w.heap.size ∨ q = w.heap.size + 1) → q < W.heap.size) := Lib.hid (fun W hW q hq => by
            rcases hq with hq | rfl | rfl
            · have := HP.out q hq; omega
            · omega
            · omega)
          by_cases hlt : j < M
          · have hx : l[K + j]? = some (l[K + j]'(by have := HMM.out; omega)) := List.getElem?_eq_getElem _
            have hx2 : (l.drop K)[j]? = some (l[K + j]'(by have := HMM.out; omega)) := by rw [List.getElem?_drop]; exact hx
            obtain ⟨b, off, rfl, hb, x0, x1, x2, x3, x4, x5, x6⟩ := HSL.out.Txn_at hx2
            have HX := Lib.hid (HO.out j _ hx)
            generalize l[K + j]'(by have := HMM.out; omega) = x at *
            clear hx hx2
            go_wp2_with (go_at_call 13; (with_reducible refine (HX.out (fun q => p q ∨ q = w.heap.size ∨ q = w.heap.size + 1) ⟨da2, dc2, la2, lc2, na2, nc2, sa2, sc2, wa2, wc2⟩ _ ?tk1 ?tk2).mono ?_); (case tk1 => exact hsv.out.below (by repeat (first | with_reducible exact Below.refl _ _ | with_reducible assumption | with_reducible exact below_d1 _ _ _ _ _ | with_reducible exact below_d2 _ _ _ _ _ _ _ _ | with_reducible exact below_d3 _ _ _ _ _ | with_reducible exact below_d4 _ _ _ _ _ _ _ _ | with_reducible exact below_d5 _ _ | with_reducible refine Below.drew ?_ | with_reducible refine Below.drewN' ?_ _ | with_reducible refine below_grow0 _ _ ?_ | with_reducible refine below_alloc0 _ ?_ | with_reducible refine Below.setCell ?_ ?_ _ | with_reducible refine Below.alloc ?_ ?_ _ | with_reducible refine Below.grow _ _ _ ?_ ?_ | omega | (simp; done) | (simp; omega)))); (case tk2 => exact HPW.out _ (by simp <;> omega)); rintro e w4 ⟨da3, dc3, la3, lc3, na3, nc3, sa3, sc3, wa3, wc3, rfl, h3, hb3⟩; obtain ⟨ext4, d4, rfl⟩ := Below.grown_eq _ hb3; have H3 := Lib.hid h3; clear h3 hb3)
            go_roundw
            case rel => exact ⟨j + 1, da3, dc3, la3, lc3, na3, nc3, sa3, sc3, wa3, wc3, _, _, by omega, by go_num, grown_of (by repeat (first | with_reducible exact Below.refl _ _ | with_reducible assumption | with_reducible exact below_d1 _ _ _ _ _ | with_reducible exact below_d2 _ _ _ _ _ _ _ _ | with_reducible exact below_d3 _ _ _ _ _ | with_reducible exact below_d4 _ _ _ _ _ _ _ _ | with_reducible exact below_d5 _ _ | with_reducible refine Below.drew ?_ | with_reducible refine Below.drewN' ?_ _ | with_reducible refine below_grow0 _ _ ?_ | with_reducible refine below_alloc0 _ ?_ | with_reducible refine Below.setCell ?_ ?_ _ | with_reducible refine Below.alloc ?_ ?_ _ | with_reducible refine Below.grow _ _ _ ?_ ?_ | omega | (simp; done) | (simp; omega))), Lib.hid (H3.out.swap (by repeat (first | with_reducible exact Swap.refl _ _ | with_reducible refine Swap.drew1 ?_ | with_reducible refine Swap.drew2 ?_ | with_reducible refine Swap.drewN1 ?_ | with_reducible refine Swap.drewN2 ?_ | with_reducible refine Swap.grow ?_ _ _ _ | with_reducible refine Swap.alloc ?_ _ | with_reducible refine Swap.new ?_ _ _ ?_ | with_reducible refine Swap.set ?_ _ _ _ ?_ | (simp; done) | (simp; omega))))⟩
            case measure => simp [intOf]; omega
          · have hjm : j = M := by omega
            subst hjm
            go_wp2_with fail
            refine bodyPost_ret (v := .tuple #[vFol ⟨up, D0, id, ep0, log, dn, tz, nodes, sess, wat⟩ ep (K + j) ⟨da2, dc2, la2, lc2, na2, nc2, sa2, sc2, wa2, wc2⟩, .int .i64 0]) (by simp [results, Tryd.results15, go_sem]) rfl ⟨⟨da2, dc2, la2, lc2, na2, nc2, sa2, sc2, wa2, wc2⟩, ?_, (hsv.out.swap (by repeat (first | with_reducible exact Swap.refl _ _ | with_reducible refine Swap.drew1 ?_ | with_reducible refine Swap.drew2 ?_ | with_reducible refine Swap.drewN1 ?_ | with_reducible refine Swap.drewN2 ?_ | with_reducible refine Swap.grow ?_ _ _ _ | with_reducible refine Swap.alloc ?_ _ | with_reducible refine Swap.new ?_ _ _ ?_ | with_reducible refine Swap.set ?_ _ _ _ ?_ | (simp; done) | (simp; omega)))).more (fun q hq => .inl (.inl hq)), (by repeat (first | with_reducible exact Below.refl _ _ | with_reducible assumption | with_reducible exact below_d1 _ _ _ _ _ | with_reducible exact below_d2 _ _ _ _ _ _ _ _ | with_reducible exact below_d3 _ _ _ _ _ | with_reducible exact below_d4 _ _ _ _ _ _ _ _ | with_reducible exact below_d5 _ _ | with_reducible refine Below.drew ?_ | with_reducible refine Below.drewN' ?_ _ | with_reducible refine below_grow0 _ _ ?_ | with_reducible refine below_alloc0 _ ?_ | with_reducible refine Below.setCell ?_ ?_ _ | with_reducible refine Below.alloc ?_ ?_ _ | with_reducible refine Below.grow _ _ _ ?_ ?_ | omega | (simp; done) | (simp; omega)))⟩
            have hv := vFol_is (s := ⟨up, D0, id, ep0, log, dn, tz, nodes, sess, wat⟩) (l := l) (ep := ep) (j := j) (by simp only; rw [HKK.out]; have := HMM.out; omega) ⟨da2, dc2, la2, lc2, na2, nc2, sa2, sc2, wa2, wc2⟩
            simp only [HKK.out] at hv
            rw [hv]
end Go.Proofs.YtkoemhdchoicaaaDoor

/- store.Follow with an epoch out of range. -/
namespace Go.Proofs.YtkoemhdchoicaaaDoor
open Go.RowKit Go.ChangeShapes Go.WideShapes Go.ChangeAt
set_option maxRecDepth 100000 in
set_option maxHeartbeats 1000000 in
theorem storeFollow_no (p : Nat → Prop) (s : Srv) (v : SrvV) (u : Value) (l : List Txn) (ep : Int) (w : World) (q : Option (ByteArray × ByteArray)) (A B : ByteArray) (h : SrvIn p w s v) (hu : Sl cTxn 7 w u l) (hp : ∀ q, p q → q < w.heap.size)
    (hs : SrvOk s q A B) (hl : LogP l) (hn : l.length ≤ 400) (hep : ¬ Half ep) (hd : s.done_ ≤ comK l s.log) :
    Calls Tryd.prog 15 #[vSrv s v, u, .int .i64 ep] w (SrvRes p noSrv 3 w) := by
  obtain ⟨LA, LC, rfl, hc1, hc2⟩ := hu.form
  have HP := Lib.hid hp
  have HL := Lib.hid hu
  obtain ⟨up, disk, id, ep0, log, dn, tz, nodes, sess, wat⟩ := s
  obtain ⟨da, dc, la, lc, na, nc, sa, sc, wa, wc⟩ := v
  have hsz := hs.size
  obtain ⟨e1, hq, hlog, hok, hlen⟩ := hs
  obtain ⟨hD, hG, hN, hS, hW⟩ := h
  simp only at e1 hlog hok hlen hD hG hN hS hW hd
  subst e1
  have HD := Lib.hid hD
  have HG : Hid (Sl cTxn 7 w (.slice la log.length lc) log) := Lib.hid hG.1
  have HN := Lib.hid hN
  have HS := Lib.hid hS
  have HW := Lib.hid hW
  have hcl := comK_le l log
  have HK := Lib.hid (fun (W : World) (h : Sl cFile 3 W (.slice da (dskB q A B).length dc) (dskB q A B)) => (keep_any _ (dskB q A B) (keepZ l (comK l log)) W h (dskB_sized hq hsz)).mono (fun e w' hh => show DkRes (dskB q (bS (recs (log.take (comK l log)))) noB) 0 W e w' from by
    obtain ⟨B', k, f', code, he, hk, ho, hb⟩ := hh
    obtain ⟨rfl, rfl⟩ := keep_dsk hq hsz hlog hl hok hk
    exact ⟨B', k, he, ho, hb⟩))
  have HR := Lib.hid (fun (W : World) (v : Value) (h : Sl cFile 3 W v (dskB q (bS (recs (log.take (comK l log)))) noB)) => remember_no v (dskB q (bS (recs (log.take (comK l log)))) noB) ep W h hep)
  generalize hK : comK l log = K at *
  have HKK := Lib.hid hK
  generalize hD0 : dskB q A B = D0 at *
  clear hD hG hN hS hW hu hp hK hD0
  go_enter Tryd.func15, Tryd.ntmps15
  go_upto_block 0 with fail
  go_cut [8] (fun s8 wx => ∃ n, s8 = .int .i64 (K : Nat) ∧ wx = ((w.alloc (.cells #[.bool up, .slice da D0.length dc, .int .i64 id, .int .i64 ep0, .slice la log.length lc, .int .i64 dn, .int .i64 tz, .slice na nodes.length nc, .slice sa sess.length sc, .slice wa wat.length wc] 35)).alloc (.cells #[.bool false, .slice none 0 0, .int .i64 0, .int .i64 0, .slice none 0 0, .int .i64 0, .int .i64 0, .slice none 0 0, .slice none 0 0, .slice none 0 0] 35)).drewN n)
  case first =>
    clear HD HN HS HW HK HR hd
    go_wp2_with fail
    go_loopw [8] (fun i wr => ∃ (k n : Nat), k ≤ K ∧ i = .int .i64 k ∧ wr = ((w.alloc (.cells #[.bool up, .slice da D0.length dc, .int .i64 id, .int .i64 ep0, .slice la log.length lc, .int .i64 dn, .int .i64 tz, .slice na nodes.length nc, .slice sa sess.length sc, .slice wa wat.length wc] 35)).alloc (.cells #[.bool false, .slice none 0 0, .int .i64 0, .int .i64 0, .slice none 0 0, .int .i64 0, .int .i64 0, .slice none 0 0, .slice none 0 0, .slice none 0 0] 35)).drewN n) (fun i _ => K - (intOf i).toNat)
    case atStart => exact ⟨0, 0, Nat.zero_le _, rfl, rfl⟩
    case round =>
      obtain ⟨k, n, hk, rfl, rfl⟩ := hrel
      by_cases h1 : k < l.length
      · have hx : l[k]? = some (l[k]'h1) := List.getElem?_eq_getElem _
        obtain ⟨b, off, rfl, hb, x0, _⟩ := HL.out.Txn_at hx
        by_cases h2 : k < log.length
        · have hy : log[k]? = some (log[k]'h2) := List.getElem?_eq_getElem _
          obtain ⟨b2, off2, rfl, hb2, y0, _⟩ := HG.out.Txn_at hy
          by_cases h3 : (l[k]'h1).zxid = (log[k]'h2).zxid
          · have hgo : k + 1 ≤ K := by rw [← HKK.out]; exact comK_go (by rw [HKK.out]; exact hk) hx hy h3
            rw [h3] at x0
            generalize (log[k]'h2).zxid = z at *
            clear hx hy h3
            go_wp2_with fail
            go_quiet (fail)
            go_wp2_with fail
            go_roundw
            case rel => exact ⟨k + 1, _, hgo, by go_num, rfl⟩
            case measure => simp [intOf]; omega
          · have hend : k = K := by rw [← HKK.out]; exact comK_end (by rw [HKK.out]; exact hk) (.inr (.inr ⟨_, _, hx, hy, h3⟩))
            have hne : ((l[k]'h1).zxid == (log[k]'h2).zxid) = false := beq_eq_false_iff_ne.2 h3
            generalize (l[k]'h1).zxid = z1 at *
            generalize (log[k]'h2).zxid = z2 at *
            clear hx hy h3
            subst hend
            go_wp2_with fail
            go_quiet (fail)
            go_wp2_with fail
            go_meet
            exact ⟨_, rfl, World.drewN_drewN _ _ _⟩
        · have hend : k = K := by rw [← HKK.out]; exact comK_end (by rw [HKK.out]; exact hk) (.inr (.inl h2))
          subst hend
          clear hx
          go_wp2_with fail
          go_quiet (fail)
          go_wp2_with fail
          go_meet
          exact ⟨_, rfl, World.drewN_drewN _ _ _⟩
      · have hend : k = K := by rw [← HKK.out]; exact comK_end (by rw [HKK.out]; exact hk) (.inl h1)
        subst hend
        go_wp2_with fail
        go_quiet (fail)
        go_wp2_with fail
        go_meet
        exact ⟨_, rfl, World.drewN_drewN _ _ _⟩
  case rest =>
    obtain ⟨n, rfl, rfl⟩ := hcut
    have hdn : decide ((K : Int) < dn) = false := decide_eq_false (by omega)
    have hKL : K ≤ l.length := hcl.1
    have hKG : K ≤ log.length := hcl.2
    have HKZ := Lib.hid (show keepZ l K = keepZ l K from rfl)
    have hlt1 : (LC : Int) = (LC : Int) := rfl
    clear hlt1
    go_upto_if 50 with fail
    go_cut [9] (fun s9 wx => ∃ n, s9 = .int .i64 (keepZ l K) ∧ wx = ((w.alloc (.cells #[.bool up, .slice da D0.length dc, .int .i64 id, .int .i64 ep0, .slice la log.length lc, .int .i64 dn, .int .i64 tz, .slice na nodes.length nc, .slice sa sess.length sc, .slice wa wat.length wc] 35)).alloc (.cells #[.bool false, .slice none 0 0, .int .i64 0, .int .i64 0, .slice none 0 0, .int .i64 0, .int .i64 0, .slice none 0 0, .slice none 0 0, .slice none 0 0] 35)).drewN n)
    case first =>
      clear HD HG HN HS HW HK HR HKZ
      rcases Nat.eq_zero_or_pos K with h0 | h0
      · have hz0 : keepZ l K = -1 := by unfold keepZ; rw [if_pos h0]
        have hd0 : decide (0 < K) = false := decide_eq_false (by omega)
        have HZ0 := Lib.hid hz0
        clear hz0
        subst h0
        go_wp2_with fail
        go_meet
        exact ⟨_, by rw [HZ0.out], rfl⟩
      · obtain ⟨j, rfl⟩ : ∃ j, K = j + 1 := ⟨K - 1, by omega⟩
        have hx : l[j]? = some (l[j]'(by omega)) := List.getElem?_eq_getElem _
        have hz0 : keepZ l (j + 1) = (l[j]'(by omega)).zxid := by unfold keepZ; rw [if_neg (by omega), Nat.add_sub_cancel, hx]
        obtain ⟨b, off, rfl, hb, x0, _⟩ := HL.out.Txn_at hx
        generalize (l[j]'(by omega)).zxid = z at *
        have HZ0 := Lib.hid hz0
        have hwj : IntKind.i64.wrap ((j : Int) + 1 - 1) = (j : Int) := by unfold IntKind.wrap; simp [IntKind.signed, IntKind.bits]; omega
        have hjl : j < l.length := by omega
        clear hx hz0
        go_wp2_with fail
        go_meet
        exact ⟨_, by rw [HZ0.out], rfl⟩
    case rest =>
      obtain ⟨n2, rfl, rfl⟩ := hcut
      generalize keepZ l K = z at *
      generalize hFM : dskB q (bS (recs (log.take K))) noB = D1 at *
      have hKlc : K ≤ lc := Nat.le_trans hcl.2 HG.out.caps.1
      have hK4 : K ≤ 400 := by omega
      have hs0 : ([] : List File).length = 0 := rfl
      go_wp2_with (first | (go_at_call 26; refine (HK.out _ (HD.out.1.below (by repeat (first | with_reducible exact Below.refl _ _ | with_reducible assumption | with_reducible exact below_d1 _ _ _ _ _ | with_reducible exact below_d2 _ _ _ _ _ _ _ _ | with_reducible exact below_d3 _ _ _ _ _ | with_reducible exact below_d4 _ _ _ _ _ _ _ _ | with_reducible exact below_d5 _ _ | with_reducible refine Below.drew ?_ | with_reducible refine Below.drewN' ?_ _ | with_reducible refine below_grow0 _ _ ?_ | with_reducible refine below_alloc0 _ ?_ | with_reducible refine Below.setCell ?_ ?_ _ | with_reducible refine Below.alloc ?_ ?_ _ | with_reducible refine Below.grow _ _ _ ?_ ?_ | omega | (simp; done) | (simp; omega))))).mono ?_; rintro e w1 ⟨A1, k1, rfl, ho1, hb1⟩; obtain ⟨ext1, d1, rfl⟩ := Below.grown_eq _ hb1; have HO1 := Lib.hid ho1; clear ho1 hb1 HK) | (go_at_call 27; (with_reducible refine (HR.out _ _ ?hr1).mono ?_); (case hr1 => (refine Ow.sl (Ow.moved (W' := ?v1) (d' := ?y1) HO1.out (Nat.le_refl _) ?c1 ?t1); (case c1 => exact (by repeat (first | with_reducible exact Below.refl _ _ | with_reducible assumption | with_reducible exact below_d1 _ _ _ _ _ | with_reducible exact below_d2 _ _ _ _ _ _ _ _ | with_reducible exact below_d3 _ _ _ _ _ | with_reducible exact below_d4 _ _ _ _ _ _ _ _ | with_reducible exact below_d5 _ _ | with_reducible refine Below.drew ?_ | with_reducible refine Below.drewN' ?_ _ | with_reducible refine below_grow0 _ _ ?_ | with_reducible refine below_alloc0 _ ?_ | with_reducible refine Below.setCell ?_ ?_ _ | with_reducible refine Below.alloc ?_ ?_ _ | with_reducible refine Below.grow _ _ _ ?_ ?_ | omega | (simp; done) | (simp; omega)))); (case t1 => simp))); rintro e w1 ⟨A2, k2, rfl, ho2, hb2⟩; obtain ⟨ext2, d2, rfl⟩ := Below.grown_eq _ hb2; clear ho2 hb2 HR))
      refine bodyPost_ret (v := .tuple #[vSrv noSrv noSrvV, .int .i64 3]) (by simp [results, Tryd.results15, go_sem]) rfl ⟨noSrvV, rfl, noSrv_in _ _, (by repeat (first | with_reducible exact Below.refl _ _ | with_reducible assumption | with_reducible exact below_d1 _ _ _ _ _ | with_reducible exact below_d2 _ _ _ _ _ _ _ _ | with_reducible exact below_d3 _ _ _ _ _ | with_reducible exact below_d4 _ _ _ _ _ _ _ _ | with_reducible exact below_d5 _ _ | with_reducible refine Below.drew ?_ | with_reducible refine Below.drewN' ?_ _ | with_reducible refine below_grow0 _ _ ?_ | with_reducible refine below_alloc0 _ ?_ | with_reducible refine Below.setCell ?_ ?_ _ | with_reducible refine Below.alloc ?_ ?_ _ | with_reducible refine Below.grow _ _ _ ?_ ?_ | omega | (simp; done) | (simp; omega)))⟩
end Go.Proofs.YtkoemhdchoicaaaDoor

/- Following a leader, crashing and booting: what comes of it. -/
namespace Go.Proofs.YtkoemhdchoicaaaDoor
open Go.RowKit Go.ChangeShapes Go.WideShapes Go.ChangeAt
abbrev folA (l m : List Txn) : List Txn := folM l m (l.length - comK l m)
theorem folA_eq (l m : List Txn) : folA l m = m.take (comK l m) ++ l.drop (comK l m) := by
  unfold folA folM
  rw [List.take_of_length_le (l := l.drop (comK l m)) (by rw [List.length_drop]; exact Nat.le_refl _)]
theorem folA_len (l m : List Txn) : (folA l m).length = l.length := by
  have := comK_le l m
  rw [folA_eq, List.length_append, List.length_take, List.length_drop]
  omega
theorem folA_zx {l m : List Txn} {i : Nat} {x y : Txn} (hx : (folA l m)[i]? = some x) (hy : l[i]? = some y) : x.zxid = y.zxid := by
  have hle := comK_le l m
  rw [folA_eq] at hx
  have hK : (m.take (comK l m)).length = comK l m := by rw [List.length_take]; omega
  rw [List.getElem?_append] at hx
  split at hx
  · rename_i h
    rw [hK] at h
    rw [List.getElem?_take, if_pos h] at hx
    exact (comK_eq l m i y x h hy hx).symm
  · rename_i h
    rw [hK] at h hx
    rw [List.getElem?_drop, show comK l m + (i - comK l m) = i from by omega, hy] at hx
    injection hx with hx
    rw [hx]
theorem folA_ok {l m : List Txn} (hl : LogP l) (hm : LogP m) : LogOk (folA l m) := by
  refine ⟨fun t ht => (fol_mem ht).elim (fun h => hm.1.1 t h) (fun h => hl.1.1 t h), List.pairwise_iff_getElem.2 fun i j hi hj hij => ?_⟩
  have hi2 : i < l.length := by rw [← folA_len l m]; exact hi
  have hj2 : j < l.length := by rw [← folA_len l m]; exact hj
  have e1 := folA_zx (List.getElem?_eq_getElem hi) (List.getElem?_eq_getElem hi2)
  have e2 := folA_zx (List.getElem?_eq_getElem hj) (List.getElem?_eq_getElem hj2)
  rw [e1, e2]
  exact List.pairwise_iff_getElem.1 hl.1.2 i j hi2 hj2 hij
/-- a disk with a safe epoch and a safe log -/
abbrev dskE (ep : Int) (F : List Txn) : List File := dskB (some (epT ep, noB)) (bS (recs F)) noB
theorem epoch_dskE {ep : Int} {F : List Txn} (hep : Half ep) (hz : (recs F).length ≤ 1048576) : epochF (dskE ep F) = ep := by
  have hs := epT_size hep
  have hr := ep_read (s := epT ep) (t := noB) (a := bS (recs F)) (b := noB) (by show _ + 0 ≤ _; omega) (by rw [bS_size]; show _ + 0 ≤ _; omega)
  unfold epochF
  rw [if_pos hr.1, hr.2, add_noB, read_text (by unfold Half at hep; unfold Zx; omega), if_pos rfl]
  unfold epochZ
  unfold Half at hep
  rw [if_pos (by simp only; omega)]
  simp only
  omega
abbrev upE (ep : Int) (F : List Txn) : Srv := ⟨true, dskE ep F, 0, ep, F, 0, 0, [rootN], [], []⟩
theorem boot_dskE {ep : Int} {F : List Txn} (hep : Half ep) (hz : (recs F).length ≤ 1048576) (hF : LogOk F) {s : Srv} {c : Int} (h : BootIs 0 (dskE ep F) s c) : c = 0 ∧ s = upE ep F := by
  obtain ⟨L, f', hr, hc⟩ := h
  have hs := epT_size hep
  obtain ⟨rfl, rfl, rfl⟩ := rec_dsk (q := some (epT ep, noB)) (A := bS (recs F)) (B := noB) (by show (epT ep).size + 0 ≤ _; omega) (by rw [bS_size]; show _ + 0 ≤ _; omega) (by rw [add_noB, bs_bS]) hF hr
  rcases hc with ⟨_, hs⟩ | ⟨h, _⟩
  · rw [epoch_dskE hep hz] at hs
    exact ⟨rfl, hs⟩
  · exact absurd rfl h
theorem crash_dskE {ep : Int} {F : List Txn} (hep : Half ep) (hz : (recs F).length ≤ 1048576) (n : Nat) : crashE (dskE ep F) n = 0 ∧ crashL (dskE ep F) n = dskE ep F := by
  have hs := epT_size hep
  have := dskB_crash (q := some (epT ep, noB)) (a := bS (recs F)) (b := noB) (by show (epT ep).size + 0 ≤ _; omega) rfl (by rw [bS_size]; show _ + 0 ≤ _; omega) n
  rw [ext_none, add_noB] at this
  exact this
theorem fill_ok {m : List Txn} (hm : LogP m) (h40 : m.length ≤ 40) : SrvOk (fillS 0 m) none (bS (recs m)) noB := ⟨rfl, by decide, by rw [add_noB, bs_bS], hm, (by show m.length ≤ 400; omega)⟩
/-- what following comes to -/
def FolIs (l m : List Txn) (ep : Int) (s : Srv) (c : Int) : Prop := (Half ep ∧ c = 0 ∧ s = upE ep (folA l m)) ∨ (¬ Half ep ∧ c = 3 ∧ s = noSrv)
def FolT (B : Nat) (s : Srv) (c : Int) (w : World) (e : Ending) (w' : World) : Prop := ∃ da dc la lc na nc sa sc wa wc, e = .returned (.tuple #[vSrv s ⟨da, dc, la, lc, na, nc, sa, sc, wa, wc⟩, .int .i64 c]) ∧ SrvIn (fun q => B ≤ q ∧ q < w.heap.size) w' s ⟨da, dc, la, lc, na, nc, sa, sc, wa, wc⟩ ∧ Below w.heap.size w w'
theorem SrvRes.folT {B : Nat} {s : Srv} {c : Int} {w : World} {f : FuncId} {args : Array Value} (h : Calls Tryd.prog f args w (SrvRes (fun q => B ≤ q ∧ q < w.heap.size) s c w)) : Calls Tryd.prog f args w (FolT B s c w) := by
  refine h.mono fun e w' hh => ?_
  obtain ⟨⟨da, dc, la, lc, na, nc, sa, sc, wa, wc⟩, he, h2, h3⟩ := hh
  exact ⟨da, dc, la, lc, na, nc, sa, sc, wa, wc, he, h2, h3⟩
theorem fol_any (l m : List Txn) (ep : Int) (hl : LogP l) (hm : LogP m) (h1 : l.length ≤ 40) (h2 : m.length ≤ 40) : ∃ s c, FolIs l m ep s c ∧ ∀ (B : Nat) (v : SrvV) (u : Value) (W : World), SrvIn (fun q => B ≤ q) W (fillS 0 m) v → Sl cTxn 7 W u l → Tab W → Calls Tryd.prog 15 #[vFill 0 m.length v, u, .int .i64 ep] W (FolT B s c W) := by
  by_cases hep : Half ep
  · refine ⟨_, _, .inl ⟨hep, rfl, rfl⟩, fun B v u W h hu ht => ?_⟩
    have h3 := storeFollow (fun q => B ≤ q ∧ q < W.heap.size) (fillS 0 m) v u l ep W none (bS (recs m)) noB (h.more (fun q hq => .inl hq.1)) hu (fun q hq => hq.2) (fill_ok hm h2) hl (by omega) hep ht (by simp only; omega)
    exact SrvRes.folT h3
  · refine ⟨_, _, .inr ⟨hep, rfl, rfl⟩, fun B v u W h hu ht => ?_⟩
    have h3 := storeFollow_no (fun q => B ≤ q ∧ q < W.heap.size) (fillS 0 m) v u l ep W none (bS (recs m)) noB (h.more (fun q hq => .inl hq.1)) hu (fun q hq => hq.2) (fill_ok hm h2) hl (by omega) hep (by simp only; omega)
    exact SrvRes.folT h3
theorem fol_small {l m : List Txn} (hl : LogP l) (hm : LogP m) (h1 : l.length ≤ 40) (h2 : m.length ≤ 40) : (recs (folA l m)).length ≤ 1048576 := by
  have := fol_size hl hm (by omega) (by omega) (l.length - comK l m)
  show (recs (folM l m (l.length - comK l m))).length ≤ _
  omega
def DownE (ep : Int) (F : List Txn) (w : World) (e : Ending) (w' : World) : Prop := ∃ da dc la lc na nc sa sc wa wc, e = .returned (.tuple #[.agg #[.bool false, .slice da 2 dc, .int .i64 0, .int .i64 0, .slice la 0 lc, .int .i64 0, .int .i64 0, .slice na 1 nc, .slice sa 0 sc, .slice wa 0 wc], .int .i64 0]) ∧ SlA (fun q => q < w.heap.size) cFile 3 w' (.slice da 2 dc) (dskE ep F) ∧ Below w.heap.size w w'
theorem crash_upE (ep : Int) (F : List Txn) (v : SrvV) (n : Nat) (p : Nat → Prop) (w : World) (h : SrvIn p w (upE ep F) v) (hep : Half ep) (hz : (recs F).length ≤ 1048576) :
    Calls Tryd.prog 9 #[.agg #[.bool true, .slice v.da 2 v.dc, .int .i64 0, .int .i64 ep, .slice v.la F.length v.lc, .int .i64 0, .int .i64 0, .slice v.na 1 v.nc, .slice v.sa 0 v.sc, .slice v.wa 0 v.wc], .int .i64 n] w (DownE ep F w) := by
  have hs := epT_size hep
  have h1 := storeCrash (fun q => q < w.heap.size) p (upE ep F) v n w h (fun q h => h) (dskB_sized (q := some (epT ep, noB)) (a := bS (recs F)) (b := noB) (by show (epT ep).size + 0 ≤ _; omega) (by rw [bS_size]; show _ + 0 ≤ _; omega))
  have h2 := crash_dskE hep hz n
  unfold crashS at h1
  simp only at h1
  rw [h2.1, h2.2, if_pos rfl] at h1
  refine h1.mono fun e w' hh => ?_
  obtain ⟨⟨da, dc, la, lc, na, nc, sa, sc, wa, wc⟩, he, h3, h4⟩ := hh
  exact ⟨da, dc, la, lc, na, nc, sa, sc, wa, wc, he, h3.disk, h4⟩
def UpE (ep : Int) (F : List Txn) (w : World) (e : Ending) (w' : World) : Prop := ∃ da dc la lc na nc sa sc wa wc, e = .returned (.tuple #[.agg #[.bool true, .slice da 2 dc, .int .i64 0, .int .i64 ep, .slice la F.length lc, .int .i64 0, .int .i64 0, .slice na 1 nc, .slice sa 0 sc, .slice wa 0 wc], .int .i64 0]) ∧ Sl cTxn 7 w' (.slice la F.length lc) F ∧ Below w.heap.size w w'
theorem boot_upE (ep : Int) (F : List Txn) (v : Value) (w : World) (h : Sl cFile 3 w v (dskE ep F)) (hep : Half ep) (hF : LogOk F) (hz : (recs F).length ≤ 1048576) :
    Calls Tryd.prog 11 #[.int .i64 0, .agg #[v]] w (UpE ep F w) := by
  have hs := epT_size hep
  refine (storeBoot (fun q => q < w.heap.size) 0 v (dskE ep F) w h (fun q h => h) (dskB_sized (q := some (epT ep, noB)) (a := bS (recs F)) (b := noB) (by show (epT ep).size + 0 ≤ _; omega) (by rw [bS_size]; show _ + 0 ≤ _; omega)) (by decide) (by decide)).mono fun e w' hh => ?_
  obtain ⟨s, c, hb, ⟨da, dc, la, lc, na, nc, sa, sc, wa, wc⟩, he, h2, h3⟩ := hh
  obtain ⟨rfl, rfl⟩ := boot_dskE hep hz hF hb
  exact ⟨da, dc, la, lc, na, nc, sa, sc, wa, wc, he, h2.log.1, h3⟩
end Go.Proofs.YtkoemhdchoicaaaDoor

/- The table of powers of ten, as the listed variables hold it. -/
namespace Go.Proofs.YtkoemhdchoicaaaDoor
open Go.RowKit
theorem pow_global : Tryd.prog.globalNamed "internal/strconv.uint64pow10" = some 3 := by kernel_rfl
theorem pow_data : (Rows.laid_internal_strconv_uint64pow10 : DataW Unit) = Lib.tabData .u64 Lib.pow10Tab := by kernel_rfl
theorem tab_third {W : World} {x y : String × DataW Unit} (h : laidMet Tryd.prog [x, y, ("internal/strconv.uint64pow10", Rows.laid_internal_strconv_uint64pow10)] W) : Lib.TabIs Tryd.prog W "internal/strconv.uint64pow10" .u64 Lib.pow10Tab := by
  rw [pow_data] at h
  obtain ⟨ps, ⟨g0, t0, cs0, f0, p0, q0, _, _, _, _, ⟨g1, t1, cs1, f1, p1, q1, _, _, _, _, ⟨g2, t2, cs2, f2, p2, q2, hg2, ht2, hv2, hd2, _, _⟩, _⟩, _⟩, _⟩ := h
  obtain rfl := Option.some.inj (pow_global.symm.trans hg2)
  obtain rfl := Option.some.inj ((show (Tryd.prog.globals[3]?).map (·.type) = some 134 by kernel_rfl).symm.trans ht2)
  unfold Lib.TabIs
  rw [hv2, ← Lib.cells_of_tab (n := 20) (e := 122) Tryd.underlying134 Tryd.underlying122 (by kernel_rfl) (by kernel_rfl) hd2]
end Go.Proofs.YtkoemhdchoicaaaDoor
