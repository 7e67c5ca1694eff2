/- aviarykeep.others: the peers again, from one of them on, each with a log of its own. -/
import Derived.Test.YtahcmfnpfepimaaZab
namespace Go.Proofs.Ytahcmfnpfepimaa
open Go.RowKit Go.ChangeShapes Go.WideShapes Go.ChangeAt
def Alike (x y : Peer) : Prop := y.id = x.id ∧ y.epoch = x.epoch ∧ y.log = x.log ∧ y.done_ = x.done_
def Peer.v (p : Peer) : Value := .slice p.la p.log.length p.lc
/-- peers of the call's own, each with a log of the call's own, in another row -/
def OwnPeers (w : World) (B : Nat) (v : Value) (l : List Peer) : Prop :=
  Ow cPeer 4 51 w B v l ∧ ∀ p ∈ l, Ow cTxn 7 72 w B p.v p.log ∧ (p.v.ownBlock = none ∨ p.v.ownBlock ≠ v.ownBlock)
theorem OwnPeers.nil (w : World) (B : Nat) : OwnPeers w B (.slice none 0 0) [] := ⟨Ow.nil _ _ _ _ _, by simp⟩
theorem Ow.block_lt {α : Type} {f : α → List Value} {s : Nat} {e : TypeId} {w : World} {B : Nat} {v : Value} {l : List α} (h : Ow f s e w B v l) {g : Nat} (hg : v.ownBlock = some g) : B ≤ g ∧ g < w.heap.size := by
  obtain ⟨A, c, rfl, h1, h2, h3, h4⟩ := h.form
  cases A with
  | none => cases hg
  | some a =>
    obtain ⟨g', rfl, hB, hg'⟩ := h4 a rfl
    cases hg
    exact ⟨hB, hg'⟩
theorem OwnPeers.below {w w' : World} {B : Nat} {v : Value} {l : List Peer} (h : OwnPeers w B v l) (hb : Below w.heap.size w w') : OwnPeers w' B v l := ⟨h.1.below hb, fun p hp => ⟨(h.2 p hp).1.below hb, (h.2 p hp).2⟩⟩
theorem OwnPeers.add {w3 w4 : World} {B By : Nat} {v v' : Value} {l : List Peer} {y : Peer} (h : OwnPeers w3 B v l) (hy : Ow cTxn 7 72 w3 By y.v y.log) (hB : B ≤ By)
    (hv : ∀ g, v.ownBlock = some g → g < By) (h2 : Ow cPeer 4 51 w4 B v' (l ++ [y])) (hg : w3.grownBy w4 v.ownBlock) (hat : v'.ownBlock = v.ownBlock ∨ v'.ownBlock = some w3.heap.size) : OwnPeers w4 B v' (l ++ [y]) := by
  have hall : ∀ p ∈ l ++ [y], Ow cTxn 7 72 w3 B p.v p.log ∧ (p.v.ownBlock = none ∨ p.v.ownBlock ≠ v.ownBlock) := by
    intro p hp
    rcases List.mem_append.1 hp with hp | hp
    · exact h.2 p hp
    · obtain rfl := List.mem_singleton.1 hp
      refine ⟨hy.mono hB, ?_⟩
      cases hb : p.v.ownBlock with
      | none => exact .inl rfl
      | some g =>
        refine .inr fun e => ?_
        have h1 := (hy.block_lt hb).1
        have h2 := hv g e.symm
        omega
  refine ⟨h2, fun p hp => ?_⟩
  obtain ⟨ha, hne⟩ := hall p hp
  refine ⟨ha.kept hg hne, ?_⟩
  rcases hat with e | e
  · rw [e]; exact hne
  · rw [e]
    cases hb : p.v.ownBlock with
    | none => exact .inl rfl
    | some g =>
      refine .inr fun e' => ?_
      injection e' with e'
      have := (ha.block_lt hb).2
      omega
def TurnedTo (l l' : List Peer) (from_ k : Nat) : Prop := l'.length = k ∧ ∀ i, i < k → ∃ x y, l[(i + from_) % l.length]? = some x ∧ l'[i]? = some y ∧ Alike x y
set_option maxHeartbeats 1000000 in
theorem others_is (v : Value) (l : List Peer) (from_ : Nat) (w : World) (h : Sl cPeer 4 w v l) (hin : ∀ p ∈ l, p.In w) (hf : from_ < l.length ∨ from_ = 0) (hn : l.length * 48 ≤ 140737488351232) :
    Calls Try.prog 30 #[v, .int .i64 from_] w fun e w' => ∃ A' c' l', e = .returned (.slice A' l'.length c') ∧ TurnedTo l l' from_ l.length ∧ OwnPeers w' w.heap.size (.slice A' l'.length c') l' ∧ Below w.heap.size w w' := by
  obtain ⟨A, c, rfl, hc1, hc2⟩ := h.form
  have H := Lib.hid h
  have HI := Lib.hid hin
  clear h hin
  go_enter Try.func30, Try.ntmps30
  go_wp2_with fail
  go_loopw [5, 6] (fun s i wr => ∃ (k : Nat) (A' : Option Addr) (c' : Nat) (l' : List Peer) (ext : Array Obj) (d : Nat), k ≤ l.length ∧ i = .int .i64 k ∧ s = .slice A' k c' ∧ wr = grow w ext d ∧ Hid (TurnedTo l l' from_ k) ∧ Hid (OwnPeers wr w.heap.size (.slice A' k c') l')) (fun _ i _ => l.length - (intOf i).toNat)
  case atStart => exact ⟨0, none, 0, [], _, _, Nat.zero_le _, rfl, rfl, grown_of (by repeat (first | exact Below.refl _ _ | assumption | refine Below.drew ?_ | refine Below.drewN' ?_ _ | refine below_grow0 _ _ ?_ | refine below_alloc0 _ ?_ | refine Below.alloc ?_ (by first | omega | (simp; done) | (simp; omega)) _ | refine Below.setCell ?_ (by first | omega | (simp; done) | (simp; omega)) _ | refine Below.grow _ _ _ ?_ (by first | omega | (simp; done) | (simp; omega)))), Lib.hid ⟨rfl, fun i hi => absurd hi (by omega)⟩, Lib.hid (OwnPeers.nil _ _)⟩
  case round =>
    obtain ⟨k, A', c', l', ext, d, hk, rfl, rfl, rfl, ht, ho⟩ := hrel
    by_cases hlt : k < l.length
    · have hq : (k + from_) % l.length < l.length := Nat.mod_lt _ (by omega)
      have hx : l[(k + from_) % l.length]? = some (l[(k + from_) % l.length]'hq) := List.getElem?_eq_getElem _
      obtain ⟨b, off, rfl, hbw, c0, c1, c2, c3⟩ := H.out.Peer_at hx
      have HX := Lib.hid (HI.out _ (List.mem_of_getElem? hx))
      generalize hxe : l[(k + from_) % l.length]'hq = x at hx c0 c1 c2 c3 HX
      have hqi : ((k : Int) + (from_ : Int)).tmod (l.length : Int) = (((k + from_) % l.length : Nat) : Int) := by
        rw [← Int.natCast_add, Int.tmod_eq_emod_of_nonneg (by omega)]; rfl
      generalize hqe : (k + from_) % l.length = q at *
      have HO := ho
      have HTL : Hid (l'.length = k) := Lib.hid ht.out.1
      have hbl : ∀ g, (Value.slice A' k c').ownBlock = some g → g < w.heap.size + ext.size + 1 := fun g hg => by
        have := (ho.out.1.block_lt hg).2
        simp at this
        omega
      have HBL := Lib.hid hbl
      clear hbl
      go_wp2_with (first | (at_builtin; refine wpList_app _ rfl (.const (.slice none 0 0)) (.tmp 24) _ rfl elTxn (B := w.heap.size + ext.size + 1) (m := x.log) rfl rfl (Ow.nil _ _ _ _ _) (HX.out.below (by repeat (first | exact Below.refl _ _ | assumption | refine Below.drew ?_ | refine Below.drewN' ?_ _ | refine below_grow0 _ _ ?_ | refine below_alloc0 _ ?_ | refine Below.alloc ?_ (by first | omega | (simp; done) | (simp; omega)) _ | refine Below.setCell ?_ (by first | omega | (simp; done) | (simp; omega)) _ | refine Below.grow _ _ _ ?_ (by first | omega | (simp; done) | (simp; omega))))).1 cTxn_one (by have := HX.out.2; simp [maxLen]; omega) (by have := HX.out.2; simp; omega) (by simp) ?_; intro v1 w1 hown1 hg1 _; rw [List.nil_append] at hown1; obtain ⟨A1, c1, rfl, _⟩ := hown1.form; have HO1 := Lib.hid hown1; obtain ⟨ext1, d1, rfl⟩ := Below.grown_eq _ (Below.of_grown hg1); clear hown1 hg1) | (at_builtin; refine wpList_app _ rfl (.tmp 27) (.tmp 29) _ rfl elPeer (B := w.heap.size) (l := l') (m := [⟨x.id, x.epoch, A1, c1, x.log, x.done_⟩]) rfl rfl (HO.out.1.below (by repeat (first | exact Below.refl _ _ | assumption | refine Below.drew ?_ | refine Below.drewN' ?_ _ | refine below_grow0 _ _ ?_ | refine below_alloc0 _ ?_ | refine Below.alloc ?_ (by first | omega | (simp; done) | (simp; omega)) _ | refine Below.setCell ?_ (by first | omega | (simp; done) | (simp; omega)) _ | refine Below.grow _ _ _ ?_ (by first | omega | (simp; done) | (simp; omega))))) (Sl.one_at cPeer 4 _ _ _ rfl _ rfl (by omega) (by simp)) cPeer_one (by have := HTL.out; simp [maxLen]; omega) (by have := HTL.out; simp; omega) (by simp <;> omega) ?_; intro v2 w2 hown2 hg2 hat2; obtain ⟨A2, c2, rfl, _⟩ := hown2.form; have HO2 := Lib.hid hown2; have HG2 : Hid (World.grownBy _ w2 (Value.slice A' k c').ownBlock) := Lib.hid hg2; have HA2 : Hid (_ = (Value.slice A' k c').ownBlock ∨ _ = some _) := Lib.hid hat2; clear hown2 hg2 hat2))
      have hwb : Below w.heap.size w w2 := Below.grown (by repeat (first | exact Below.refl _ _ | assumption | refine Below.drew ?_ | refine Below.drewN' ?_ _ | refine below_grow0 _ _ ?_ | refine below_alloc0 _ ?_ | refine Below.alloc ?_ (by first | omega | (simp; done) | (simp; omega)) _ | refine Below.setCell ?_ (by first | omega | (simp; done) | (simp; omega)) _ | refine Below.grow _ _ _ ?_ (by first | omega | (simp; done) | (simp; omega)))) HG2.out (by simp; omega) (fun g hg => (HO.out.1.block_lt hg).1)
      have hkl : (l' ++ [(⟨x.id, x.epoch, A1, c1, x.log, x.done_⟩ : Peer)]).length = k + 1 := by simp [HTL.out]
      have HN := Lib.hid (OwnPeers.add (HO.out.below (by repeat (first | exact Below.refl _ _ | assumption | refine Below.drew ?_ | refine Below.drewN' ?_ _ | refine below_grow0 _ _ ?_ | refine below_alloc0 _ ?_ | refine Below.alloc ?_ (by first | omega | (simp; done) | (simp; omega)) _ | refine Below.setCell ?_ (by first | omega | (simp; done) | (simp; omega)) _ | refine Below.grow _ _ _ ?_ (by first | omega | (simp; done) | (simp; omega))))) (y := ⟨x.id, x.epoch, A1, c1, x.log, x.done_⟩) ((HO1.out.regrow (W' := (grow w ext d).alloc (.cells #[.int .i64 x.id, .int .i64 x.epoch, .slice A1 x.log.length c1, .int .i64 x.done_] 51)) (d' := d1) (by first | omega | (simp; done) | (simp; omega)) (by first | omega | (simp; done) | (simp; omega))).alloc _) (by first | omega | (simp; done) | (simp; omega)) HBL.out HO2.out HG2.out HA2.out)
      have HT : Hid (TurnedTo l (l' ++ [(⟨x.id, x.epoch, A1, c1, x.log, x.done_⟩ : Peer)]) from_ (k + 1)) := Lib.hid ⟨hkl, fun i hi => by
        rcases Nat.lt_or_ge i k with h | h
        · obtain ⟨x', y', h1, h2, h3⟩ := ht.out.2 i h
          exact ⟨x', y', h1, by rw [List.getElem?_append_left (by have := HTL.out; omega)]; exact h2, h3⟩
        · obtain rfl : i = k := by omega
          exact ⟨x, ⟨x.id, x.epoch, A1, c1, x.log, x.done_⟩, by rw [hqe]; exact hx, by rw [List.getElem?_append_right (by have := HTL.out; omega), HTL.out, Nat.sub_self]; rfl, rfl, rfl, rfl, rfl⟩⟩
      go_roundw
      case rel => exact ⟨k + 1, A2, c2, _, _, _, by omega, by go_num, by rw [HTL.out], grown_of hwb, HT, Lib.hid (by rw [← hkl]; exact HN.out)⟩
      case measure => simp [intOf]; omega
    · have hk' : k = l.length := by omega
      have hl' : l'.length = k := ht.out.1
      go_wp2_with fail
      refine bodyPost_ret (v := .slice A' k c') (by simp [results, Try.results30, go_sem]) rfl ⟨A', c', l', by rw [hl'], by rw [← hk']; exact ht.out, by rw [hl']; exact ho.out, (by repeat (first | exact Below.refl _ _ | assumption | refine Below.drew ?_ | refine Below.drewN' ?_ _ | refine below_grow0 _ _ ?_ | refine below_alloc0 _ ?_ | refine Below.alloc ?_ (by first | omega | (simp; done) | (simp; omega)) _ | refine Below.setCell ?_ (by first | omega | (simp; done) | (simp; omega)) _ | refine Below.grow _ _ _ ?_ (by first | omega | (simp; done) | (simp; omega))))⟩
end Go.Proofs.Ytahcmfnpfepimaa
