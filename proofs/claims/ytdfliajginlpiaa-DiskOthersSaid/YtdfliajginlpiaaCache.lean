/- Contracts of package client: find, Look, Keep. -/
import Derived.Test.YtdfliajginlpiaaT3
import Derived.Test.YtdfliajginlpiaaT4
import Derived.Test.YtdfliajginlpiaaPut
import Derived.Test.YtdfliajginlpiaaClient
namespace Go.Proofs.Ytdfliajginlpiaa
open Go.RowKit
theorem clFind (s n : Int) (v : Value) (l : List Entry) (p : ByteArray) (w : World) (h : Sl cEntry 3 w v l) (hn : l.length ≤ 140737488355328) :
    Calls Try.prog 25 #[.agg #[.int .i64 s, .int .i64 n, v], .string p] w fun e w' => e = .returned (.tuple #[.int .i64 (posK (l.map Entry.path) p), .bool (isK (l.map Entry.path) p)]) ∧ Below w.heap.size w w' := by
  obtain ⟨A, c, rfl, h1, h2⟩ := h.form
  have H := Lib.hid h
  clear h
  go_enter Try.func25, Try.ntmps25
  go_wp2_with (go_at_call 38; refine (bsfEntry _ _ _ _ (H.out.alloc _) hn).mono ?_; rintro e w1 ⟨rfl, hb⟩; obtain ⟨ext, d, rfl⟩ := Below.grown_eq _ hb)
  go_ret2
  exact ⟨rfl, (by repeat (first | exact Below.refl _ _ | assumption | refine Below.drew ?_ | refine Below.drewN' ?_ _ | refine below_grow0 _ _ ?_ | refine below_alloc0 _ ?_ | refine Below.alloc ?_ (by first | omega | (simp; done) | (simp; omega)) _ | refine Below.setCell ?_ (by first | omega | (simp; done) | (simp; omega)) _ | refine Below.grow _ _ _ ?_ (by first | omega | (simp; done) | (simp; omega))))⟩
def noEntry : Entry := ⟨ByteArray.empty, ByteArray.empty, false⟩
def lookE (l : List Entry) (p : ByteArray) : Entry := if isK (l.map Entry.path) p then l.getD (posK (l.map Entry.path) p) noEntry else noEntry
def stripE (e : Entry) : Entry := if e.there_ then e else { e with data := ByteArray.empty }
def keepL (l : List Entry) (e : Entry) : List Entry := if isK (l.map Entry.path) e.path then l.set (posK (l.map Entry.path) e.path) (stripE e) else l.take (posK (l.map Entry.path) e.path) ++ stripE e :: l.drop (posK (l.map Entry.path) e.path)
theorem isK_lt {l : List Entry} {p : ByteArray} (h : isK (l.map Entry.path) p = true) : posK (l.map Entry.path) p < l.length := by
  unfold isK at h
  simp at h
  exact h.1
theorem clLook (s n : Int) (v : Value) (l : List Entry) (p : ByteArray) (w : World) (h : Sl cEntry 3 w v l) (hn : l.length ≤ 140737488355328) :
    Calls Try.prog 10 #[.agg #[.int .i64 s, .int .i64 n, v], .string p] w fun e w' => e = .returned (.tuple #[.agg #[.string (lookE l p).path, .string (lookE l p).data, .bool (lookE l p).there_], .bool (isK (l.map Entry.path) p)]) ∧ Below w.heap.size w w' := by
  obtain ⟨A, c, rfl, h1, h2⟩ := h.form
  have H := Lib.hid h
  clear h
  cases hk : isK (l.map Entry.path) p with
  | true =>
    have hlt := isK_lt hk
    have hx : l[posK (l.map Entry.path) p]? = some (l[posK (l.map Entry.path) p]'hlt) := List.getElem?_eq_getElem _
    have hL : lookE l p = l[posK (l.map Entry.path) p]'hlt := by unfold lookE; rw [if_pos hk, List.getD_eq_getElem?_getD, hx]; rfl
    obtain ⟨bk, off, rfl, hbw, c0, c1, c2⟩ := H.out.Entry_at hx
    rw [hL]
    generalize hxe : l[posK (l.map Entry.path) p]'hlt = x at c0 c1 c2
    clear hxe hx hL
    have HK := Lib.hid hk
    clear hk
    have hcall := fun w' (hs : Sl cEntry 3 w' (.slice (some ⟨bk, off, none⟩) l.length c) l) => clFind s n _ l p w' hs hn
    rw [HK.out] at hcall
    generalize posK (l.map Entry.path) p = q at hcall hlt c0 c1 c2
    have HC := Lib.hid hcall
    clear hcall
    go_enter Try.func10, Try.ntmps10
    go_wp2_with (go_at_call 25; refine (HC.out _ ((H.out.alloc _).alloc _)).mono ?_; rintro e w1 ⟨rfl, hb⟩; obtain ⟨ext, d, rfl⟩ := Below.grown_eq _ hb)
    refine bodyPost_ret (v := .tuple #[.agg #[.string x.path, .string x.data, .bool x.there_], .bool true]) (by simp [results, Try.results10, go_sem]) rfl ⟨rfl, (by repeat (first | exact Below.refl _ _ | assumption | refine Below.drew ?_ | refine Below.drewN' ?_ _ | refine below_grow0 _ _ ?_ | refine below_alloc0 _ ?_ | refine Below.alloc ?_ (by first | omega | (simp; done) | (simp; omega)) _ | refine Below.setCell ?_ (by first | omega | (simp; done) | (simp; omega)) _ | refine Below.grow _ _ _ ?_ (by first | omega | (simp; done) | (simp; omega))))⟩
  | false =>
    have hL : lookE l p = noEntry := by unfold lookE; rw [hk]; rfl
    rw [hL]
    have hcall := fun w' (hs : Sl cEntry 3 w' (.slice A l.length c) l) => clFind s n _ l p w' hs hn
    rw [hk] at hcall
    clear hk hL
    generalize posK (l.map Entry.path) p = q at hcall
    have HC := Lib.hid hcall
    clear hcall
    go_enter Try.func10, Try.ntmps10
    go_wp2_with (go_at_call 25; refine (HC.out _ ((H.out.alloc _).alloc _)).mono ?_; rintro e w1 ⟨rfl, hb⟩; obtain ⟨ext, d, rfl⟩ := Below.grown_eq _ hb)
    refine bodyPost_ret (v := .tuple #[.agg #[.string noEntry.path, .string noEntry.data, .bool noEntry.there_], .bool false]) (by simp [results, Try.results10, go_sem]; exact ⟨rfl, rfl, rfl⟩) rfl ⟨rfl, (by repeat (first | exact Below.refl _ _ | assumption | refine Below.drew ?_ | refine Below.drewN' ?_ _ | refine below_grow0 _ _ ?_ | refine below_alloc0 _ ?_ | refine Below.alloc ?_ (by first | omega | (simp; done) | (simp; omega)) _ | refine Below.setCell ?_ (by first | omega | (simp; done) | (simp; omega)) _ | refine Below.grow _ _ _ ?_ (by first | omega | (simp; done) | (simp; omega))))⟩
/-- slices.Insert in a grown world, into a row that lies in what has grown, of a one-element slice made for it -/
def InsIs (l : List Entry) (W : World) (r : Ending) (w' : World) : Prop := ∃ A c ext d, r = .returned (.slice A l.length c) ∧ w' = grow W ext d ∧ Ow cEntry 3 28 w' W.heap.size (.slice A l.length c) l
theorem insEntry_in {L : List Entry} {W : World} {e0 e1 : Array Obj} {d0 d1 : Nat} {v : Value} {k : Nat} {l : List Entry} {x : Entry} {fr : Nat × Nat} (hown : Ow cEntry 3 28 (grow W e0 d0) W.heap.size v l) (hk : k ≤ l.length) (hn : (l.length + 1) * 40 ≤ 140737488355328) (vb : Nat) (hvb : vb = (grow (grow W e0 d0) e1 d1).heap.size) (hfr : fr = (0, 0)) (hL : L = l.take k ++ x :: l.drop k) :
    Calls Try.prog 37 #[v, .int .i64 k, .slice (some ⟨vb, 0, none⟩) 1 1] ((grow (grow W e0 d0) e1 d1).alloc (.cells #[.string x.path, .string x.data, .bool x.there_] 28 fr)) (InsIs L W) := by
  subst hL
  subst hfr
  have hb : Below W.heap.size W ((grow (grow W e0 d0) e1 d1).alloc (.cells #[.string x.path, .string x.data, .bool x.there_] 28 (0, 0))) := (by repeat (first | exact Below.refl _ _ | assumption | refine Below.drew ?_ | refine Below.drewN' ?_ _ | refine below_grow0 _ _ ?_ | refine below_alloc0 _ ?_ | refine Below.alloc ?_ (by first | omega | (simp; done) | (simp; omega)) _ | refine Below.setCell ?_ (by first | omega | (simp; done) | (simp; omega)) _ | refine Below.grow _ _ _ ?_ (by first | omega | (simp; done) | (simp; omega))))
  have ho : Ow cEntry 3 28 ((grow (grow W e0 d0) e1 d1).alloc (.cells #[.string x.path, .string x.data, .bool x.there_] 28 (0, 0))) W.heap.size v l := (hown.below (below_grow0 _ _ (Below.refl _ _))).alloc _
  refine (insEntry v k l x _ W.heap.size vb ho hk ?_ ?_ hb.size hn).mono ?_
  · subst hvb
    have := heap_alloc_new (grow (grow W e0 d0) e1 d1) (.cells #[.string x.path, .string x.data, .bool x.there_] 28 (0, 0))
    exact this
  · intro hc
    have h2 := (hown.own_in hc).2
    simp at h2 hvb
    omega
  · rintro r w' ⟨A, c, rfl, h1, h2, h3⟩
    have hl : (l.take k ++ x :: l.drop k).length = l.length + 1 := by simp; omega
    obtain ⟨ext, d, rfl⟩ := grown_after hb h2 (fun k hk => (hown.own_in hk).1)
    exact ⟨A, c, ext, d, by rw [hl], rfl, by rw [hl]; exact h1⟩
set_option maxHeartbeats 1000000 in
theorem clKeep_new (s n : Int) (v : Value) (l : List Entry) (x : Entry) (w : World) (h : Sl cEntry 3 w v l) (hn : (l.length + 1) * 40 ≤ 140737488355328) (hk : isK (l.map Entry.path) x.path = false) :
    Calls Try.prog 24 #[.agg #[.int .i64 s, .int .i64 n, v], .agg #[.string x.path, .string x.data, .bool x.there_]] w (ClIs s n (keepL l x) w) := by
  obtain ⟨A, c, rfl, h1, h2⟩ := h.form
  have H := Lib.hid h
  clear h
  have hq : posK (l.map Entry.path) x.path ≤ l.length := by unfold posK; have := bsr_le (ltK (l.map Entry.path) x.path) (l.map Entry.path).length; simpa using this
  have hL : keepL l x = l.take (posK (l.map Entry.path) x.path) ++ stripE x :: l.drop (posK (l.map Entry.path) x.path) := by unfold keepL; rw [hk]; rfl
  rw [hL]
  have hcall := fun w' v' a b (hs : Sl cEntry 3 w' v' l) => clFind a b v' l x.path w' hs (by omega)
  rw [hk] at hcall
  clear hk hL
  generalize posK (l.map Entry.path) x.path = q at hcall hq
  have HC := Lib.hid hcall
  clear hcall
  obtain ⟨xp, xd, xt⟩ := x
  cases xt with
  | true =>
    rw [show stripE ⟨xp, xd, true⟩ = ⟨xp, xd, true⟩ from rfl]
    generalize hL : l.take q ++ (⟨xp, xd, true⟩ : Entry) :: l.drop q = L
    have HL := Lib.hid hL
    clear hL
    go_enter Try.func24, Try.ntmps24
    go_wp2_with (first | (go_at_call 26; refine (clCopied _ _ _ _ _ (((H.out.alloc _).alloc _).alloc _) (by omega) (by simp [maxLen]; omega)).mono ?_; rintro e w1 ⟨A', c', rfl, hown, hb⟩; obtain ⟨ext, d, rfl⟩ := Below.grown_eq _ hb; have HO := Lib.hid hown; clear hown) | (go_at_call 25; refine (HC.out _ _ _ _ ((HO.out.regrow (Nat.le_refl _) (by simp)).sl)).mono ?_; rintro e w1 ⟨rfl, hb1⟩; obtain ⟨ext1, d1, rfl⟩ := Below.grown_eq _ hb1) | (go_at_call 37; refine (insEntry_in (x := ⟨xp, xd, true⟩) ((HO.out.regrow (Nat.le_refl _) (by simp)).mono (by simp)) hq hn _ (by simp) rfl HL.out.symm).mono ?_; rintro e w1 ⟨A2, c2, ext2, d2, rfl, rfl, ho2⟩; skip))
    refine bodyPost_ret (v := .agg #[.int .i64 s, .int .i64 n, .slice A2 L.length c2]) (by simp [results, Try.results24, go_sem]) rfl ⟨A2, c2, rfl, ?_, ?_⟩
    · exact (ho2.regrow (Nat.le_refl _) (by simp)).mono (by simp; omega)
    · exact (by repeat (first | exact Below.refl _ _ | assumption | refine Below.drew ?_ | refine Below.drewN' ?_ _ | refine below_grow0 _ _ ?_ | refine below_alloc0 _ ?_ | refine Below.alloc ?_ (by first | omega | (simp; done) | (simp; omega)) _ | refine Below.setCell ?_ (by first | omega | (simp; done) | (simp; omega)) _ | refine Below.grow _ _ _ ?_ (by first | omega | (simp; done) | (simp; omega))))
  | false =>
    rw [show stripE ⟨xp, xd, false⟩ = ⟨xp, ByteArray.empty, false⟩ from rfl]
    generalize hL : l.take q ++ (⟨xp, ByteArray.empty, false⟩ : Entry) :: l.drop q = L
    have HL := Lib.hid hL
    clear hL
    go_enter Try.func24, Try.ntmps24
    go_wp2_with (first | (go_at_call 26; refine (clCopied _ _ _ _ _ (((H.out.alloc _).alloc _).alloc _) (by omega) (by simp [maxLen]; omega)).mono ?_; rintro e w1 ⟨A', c', rfl, hown, hb⟩; obtain ⟨ext, d, rfl⟩ := Below.grown_eq _ hb; have HO := Lib.hid hown; clear hown) | (go_at_call 25; refine (HC.out _ _ _ _ ((HO.out.regrow (Nat.le_refl _) (by simp)).sl)).mono ?_; rintro e w1 ⟨rfl, hb1⟩; obtain ⟨ext1, d1, rfl⟩ := Below.grown_eq _ hb1) | (go_at_call 37; refine (insEntry_in (x := ⟨xp, ByteArray.empty, false⟩) ((HO.out.regrow (Nat.le_refl _) (by simp)).mono (by simp)) hq hn _ (by simp) rfl HL.out.symm).mono ?_; rintro e w1 ⟨A2, c2, ext2, d2, rfl, rfl, ho2⟩; skip))
    refine bodyPost_ret (v := .agg #[.int .i64 s, .int .i64 n, .slice A2 L.length c2]) (by simp [results, Try.results24, go_sem]) rfl ⟨A2, c2, rfl, ?_, ?_⟩
    · exact (ho2.regrow (Nat.le_refl _) (by simp)).mono (by simp; omega)
    · exact (by repeat (first | exact Below.refl _ _ | assumption | refine Below.drew ?_ | refine Below.drewN' ?_ _ | refine below_grow0 _ _ ?_ | refine below_alloc0 _ ?_ | refine Below.alloc ?_ (by first | omega | (simp; done) | (simp; omega)) _ | refine Below.setCell ?_ (by first | omega | (simp; done) | (simp; omega)) _ | refine Below.grow _ _ _ ?_ (by first | omega | (simp; done) | (simp; omega))))
end Go.Proofs.Ytdfliajginlpiaa
