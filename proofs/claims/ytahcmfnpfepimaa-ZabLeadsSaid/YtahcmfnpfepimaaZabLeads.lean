/- The law ZabLeads is true for every input; no conditions. -/
import Derived.Test.YtahcmfnpfepimaaZabSteps
namespace Go.Proofs.Ytahcmfnpfepimaa
open Go.RowKit Go.ChangeShapes Go.WideShapes Go.ChangeAt
/-! ### peers turned -/
theorem turn_inj {n f i j : Nat} (hi : i < n) (hj : j < n) (h : (i + f) % n = (j + f) % n) : i = j := by
  have h1 := Nat.div_add_mod (i + f) n
  have h2 := Nat.div_add_mod (j + f) n
  rw [h] at h1
  generalize (i + f) / n = a at *
  generalize (j + f) / n = b at *
  rcases Nat.lt_trichotomy a b with hab | rfl | hab
  · have := Nat.mul_le_mul_left n hab
    rw [Nat.mul_succ] at this
    omega
  · omega
  · have := Nat.mul_le_mul_left n hab
    rw [Nat.mul_succ] at this
    omega
theorem turn_onto {n f i : Nat} (hi : i < n) : ∃ j, j < n ∧ (j + f) % n = i := by
  refine ⟨(i + (n - f % n)) % n, Nat.mod_lt _ (by omega), ?_⟩
  rw [Nat.mod_add_mod]
  have hf := Nat.mod_lt f (show 0 < n by omega)
  have h1 := Nat.div_add_mod f n
  have : i + (n - f % n) + f = i + n * (f / n + 1) := by rw [Nat.mul_add, Nat.mul_one]; omega
  rw [this, Nat.add_mul_mod_self_left, Nat.mod_eq_of_lt hi]
theorem topE_le {l : List Peer} {B : Int} : topE l ≤ B ↔ 0 ≤ B ∧ ∀ p ∈ l, p.epoch ≤ B ∧ epochZ (lastZ p.log) ≤ B := by
  have key : ∀ (l : List Peer) (m : Int), l.foldl (fun m p => max m (max p.epoch (epochZ (lastZ p.log)))) m ≤ B ↔ m ≤ B ∧ ∀ p ∈ l, p.epoch ≤ B ∧ epochZ (lastZ p.log) ≤ B := by
    intro l
    induction l with
    | nil => intro m; simp
    | cons x l ih =>
      intro m
      rw [List.foldl_cons, ih]
      simp only [List.mem_cons, forall_eq_or_imp]
      constructor
      · rintro ⟨h1, h2⟩
        exact ⟨by omega, ⟨by omega, by omega⟩, h2⟩
      · rintro ⟨h1, ⟨h2, h3⟩, h4⟩
        exact ⟨by omega, h4⟩
  exact key l 0
section
variable {l l' : List Peer} {f : Nat}
theorem turned_back (h : TurnedTo l l' f l.length) {i : Nat} {x : Peer} (hx : l[i]? = some x) : ∃ j y, j < l.length ∧ (j + f) % l.length = i ∧ l'[j]? = some y ∧ Alike x y := by
  have hi : i < l.length := (List.getElem?_eq_some_iff.1 hx).1
  obtain ⟨j, hj, e⟩ := turn_onto (f := f) hi
  obtain ⟨x', y, h1, h2, h3⟩ := h.2 j hj
  rw [e, hx] at h1
  cases h1
  exact ⟨j, y, hj, e, h2, h3⟩
theorem turned_on (h : TurnedTo l l' f l.length) {j : Nat} {y : Peer} (hy : l'[j]? = some y) : ∃ x, j < l.length ∧ l[(j + f) % l.length]? = some x ∧ Alike x y := by
  have hj : j < l'.length := (List.getElem?_eq_some_iff.1 hy).1
  obtain ⟨x, y', h1, h2, h3⟩ := h.2 j (by rw [h.1] at hj; exact hj)
  rw [hy] at h2
  cases h2
  exact ⟨x, by rw [h.1] at hj; exact hj, h1, h3⟩
theorem turned_top (h : TurnedTo l l' f l.length) : topE l' = topE l := by
  apply Int.le_antisymm
  · rw [topE_le]
    have hr := (topE_le (l := l)).1 (Int.le_refl _)
    refine ⟨hr.1, fun p hp => ?_⟩
    obtain ⟨j, hj⟩ := List.getElem?_of_mem hp
    obtain ⟨x, _, hx, a1, a2, a3, _⟩ := turned_on h hj
    have := hr.2 x (List.mem_of_getElem? hx)
    rw [a2, a3]
    exact this
  · rw [topE_le]
    have hr := (topE_le (l := l')).1 (Int.le_refl _)
    refine ⟨hr.1, fun p hp => ?_⟩
    obtain ⟨j, hj⟩ := List.getElem?_of_mem hp
    obtain ⟨i, y, _, _, hy, a1, a2, a3, _⟩ := turned_back h hj
    have := hr.2 y (List.mem_of_getElem? hy)
    rw [a2, a3] at this
    exact this
def Diff (l : List Peer) : Prop := ∀ (i k : Nat) (x y : Peer), i ≠ k → l[i]? = some x → l[k]? = some y → x.id ≠ y.id
theorem apart_iff : (∀ i, Apart l i) ↔ Diff l := by
  constructor
  · intro h i k x y hne hx hy
    rcases Nat.lt_or_gt_of_ne hne with hlt | hlt
    · exact h k i x y hlt hx hy
    · exact fun e => h i k y x hlt hy hx e.symm
  · intro h i k x y hlt hx hy
    exact h k i x y (by omega) hx hy
theorem turned_sound (h : TurnedTo l l' f l.length) : Sound l' ↔ Sound l := by
  unfold Sound
  rw [turned_top h, apart_iff, apart_iff, h.1]
  have hfine : (∀ p ∈ l', Fine p) ↔ ∀ p ∈ l, Fine p := by
    constructor
    · intro hf p hp
      obtain ⟨j, hj⟩ := List.getElem?_of_mem hp
      obtain ⟨i, y, _, _, hy, a1, a2, a3, _⟩ := turned_back h hj
      have := hf y (List.mem_of_getElem? hy)
      unfold Fine at *
      rw [a1, a2] at this
      exact this
    · intro hf p hp
      obtain ⟨j, hj⟩ := List.getElem?_of_mem hp
      obtain ⟨x, _, hx, a1, a2, a3, _⟩ := turned_on h hj
      have := hf x (List.mem_of_getElem? hx)
      unfold Fine at *
      rw [a1, a2]
      exact this
  have hd : Diff l' ↔ Diff l := by
    constructor
    · intro hf i k x y hne hx hy
      obtain ⟨i', x', hi', ei, hx', a1, _⟩ := turned_back h hx
      obtain ⟨k', y', hk', ek, hy', b1, _⟩ := turned_back h hy
      have := hf i' k' x' y' (by rintro rfl; exact hne (ei.symm.trans ek)) hx' hy'
      rwa [a1, b1] at this
    · intro hf i k x y hne hx hy
      obtain ⟨x', hi, hx', a1, _⟩ := turned_on h hx
      obtain ⟨y', hk, hy', b1, _⟩ := turned_on h hy
      have := hf _ _ x' y' (fun e => hne (turn_inj hi hk e)) hx' hy'
      rwa [a1, b1]
  rw [hfine, hd]
theorem turned_best (h : TurnedTo l l' f l.length) {k : Nat} (hk : k < l.length) (hb : Best l' k) : Best l ((k + f) % l.length) := by
  intro i x y hne hx hy
  obtain ⟨k', x', hk', ek, hx', a1, _, a3, _⟩ := turned_back h hx
  obtain ⟨i', y', hi', ei, hy', b1, _, b3, _⟩ := turned_back h hy
  obtain rfl := turn_inj hk' hk ek
  have := hb i' x' y' (by rintro rfl; exact hne (ei.symm.trans ek)) hx' hy'
  unfold aheadB at *
  rw [a1, a3, b1, b3] at this
  exact this
theorem turned_elect (h : TurnedTo l l' f l.length) {e : Ending} (he : ElectIs l' e) :
    (∃ c : Int, c ≠ 0 ∧ ¬ Sound l ∧ e = .returned (.tuple #[.int .i64 0, .int .i64 0, .int .i64 c])) ∨ (Sound l ∧ ∃ k : Nat, k < l.length ∧ Best l ((k + f) % l.length) ∧ e = .returned (.tuple #[.int .i64 k, .int .i64 (topE l + 1), .int .i64 0])) := by
  unfold ElectIs at he
  rw [turned_sound h, turned_top h] at he
  rcases he with h1 | ⟨hs, k, hk, hb, e⟩
  · exact .inl h1
  · rw [h.1] at hk
    exact .inr ⟨hs, k, hk, turned_best h hk hb, e⟩
theorem best_one {a b : Nat} (ha : a < l.length) (hb : b < l.length) (h1 : Best l a) (h2 : Best l b) : a = b := by
  apply Classical.byContradiction
  intro hne
  have e1 := h1 b _ _ (by omega) (List.getElem?_eq_getElem ha) (List.getElem?_eq_getElem hb)
  have e2 := h2 a _ _ hne (List.getElem?_eq_getElem hb) (List.getElem?_eq_getElem ha)
  unfold aheadB at *
  simp only [Bool.or_eq_true, Bool.and_eq_true, decide_eq_true_eq] at *
  omega
theorem best_last {k i : Nat} {x y : Peer} (h : Best l k) (hx : l[k]? = some x) (hy : l[i]? = some y) : lastZ y.log ≤ lastZ x.log := by
  by_cases hik : i = k
  · subst hik
    rw [hx] at hy
    cases hy
    exact Int.le_refl _
  · have := h i x y hik hx hy
    unfold aheadB at this
    simp only [Bool.or_eq_true, Bool.and_eq_true, decide_eq_true_eq] at this
    omega
theorem top_all {i : Nat} {y : Peer} (hy : l[i]? = some y) : y.epoch ≤ topE l ∧ epochZ (lastZ y.log) ≤ topE l := ((topE_le (l := l)).1 (Int.le_refl _)).2 y (List.mem_of_getElem? hy)
end
theorem pick_is (k : Int) (n : Nat) (w : World) (h0 : 0 < n) (h1 : n ≤ 140737488355328) :
    Calls Try.prog 33 #[.int .i64 k, .int .i64 n] w fun e w' => ∃ f : Nat, f < n ∧ e = .returned (.int .i64 f) ∧ w = w' := by
  have ht1 : -(n : Int) < k.tmod n := by
    have := Int.tmod_lt_of_pos (-k) (show (0 : Int) < n by omega)
    rw [Int.neg_tmod] at this
    omega
  have ht2 : k.tmod n < (n : Int) := Int.tmod_lt_of_pos _ (by omega)
  generalize hq : k.tmod n = q at *
  by_cases hn : q < 0
  · go_enter Try.func33, Try.ntmps33
    go_wp2
    go_ret
    exact ⟨(q + n).toNat, by omega, ret_int (by omega), rfl⟩
  · go_enter Try.func33, Try.ntmps33
    go_wp2
    go_ret
    exact ⟨q.toNat, by omega, ret_int (by omega), rfl⟩
set_option maxHeartbeats 2000000 in
theorem zabLeads_ok (v : Value) (l : List Peer) (from_ : Int) (w : World) (h : Sl cPeer 4 w v l) (hin : ∀ p ∈ l, p.In w) (hn : l.length * 48 ≤ 140737488351232) :
    Calls Try.prog 8 #[v, .int .i64 from_] w fun e w' => e = .returned (.bool true) ∧ Below w.heap.size w w' := by
  obtain ⟨A, c, rfl, hc1, hc2⟩ := h.form
  have HO := Lib.hid (fun (W' : World) (f : Nat) (hb : Below w.heap.size w W') (hf : f < l.length ∨ f = 0) => show Calls Try.prog 30 #[.slice A l.length c, .int .i64 f] W' fun e w' => ∃ A' c' l', e = .returned (.slice A' l'.length c') ∧ Hid (TurnedTo l l' f l.length ∧ Sl cPeer 4 w' (.slice A' l'.length c') l' ∧ ∀ p ∈ l', p.In w') ∧ Below W'.heap.size W' w' from by
    refine (others_is _ l f W' (h.below hb) (fun p hp => (hin p hp).below hb) hf hn).mono ?_
    rintro e w' ⟨A', c', l', rfl, ht, ho, hb'⟩
    refine ⟨A', c', l', rfl, Lib.hid ⟨ht, ho.1.sl, fun p hp => ⟨(ho.2 p hp).1.sl, ?_⟩⟩, hb'⟩
    obtain ⟨j, hj⟩ := List.getElem?_of_mem hp
    obtain ⟨x, _, hx, _, _, a3, _⟩ := turned_on ht hj
    rw [a3]
    exact (hin x (List.mem_of_getElem? hx)).2)
  have HE := Lib.hid (fun (W' : World) (f : Nat) (v' : Value) (l' : List Peer) (hp : TurnedTo l l' f l.length ∧ Sl cPeer 4 W' v' l' ∧ ∀ p ∈ l', p.In W') => show Calls Try.prog 29 #[v'] W' fun e w' =>
      ((∃ c : Int, c ≠ 0 ∧ ¬ Sound l ∧ e = .returned (.tuple #[.int .i64 0, .int .i64 0, .int .i64 c])) ∨ (Sound l ∧ ∃ k : Nat, k < l.length ∧ Best l ((k + f) % l.length) ∧ e = .returned (.tuple #[.int .i64 k, .int .i64 (topE l + 1), .int .i64 0]))) ∧ Below W'.heap.size W' w' from
    (zabElect v' l' W' hp.2.1 hp.2.2 (by have := hp.1.1; omega)).mono fun e w' he => ⟨turned_elect hp.1 he.1, he.2⟩)
  have H := Lib.hid h
  have HI := Lib.hid hin
  clear h hin
  go_enter Try.func8, Try.ntmps8
  go_wp2_with fail
  refine (HO.out _ 0 (by repeat (first | exact Below.refl _ _ | assumption | refine Below.drew ?_ | refine Below.drewN' ?_ _ | refine below_grow0 _ _ ?_ | refine below_alloc0 _ ?_ | refine Below.alloc ?_ (by first | omega | (simp; done) | (simp; omega)) _ | refine Below.setCell ?_ (by first | omega | (simp; done) | (simp; omega)) _ | refine Below.grow _ _ _ ?_ (by first | omega | (simp; done) | (simp; omega)))) (.inr rfl)).mono ?_
  rintro e w1 ⟨A1, c1, l1, rfl, hp, hb⟩
  obtain ⟨ext, d, rfl⟩ := Below.grown_eq _ hb
  clear hb
  go_wp2_with fail
  refine (HE.out _ 0 _ l1 hp.out).mono ?_
  rintro e w2 ⟨he, hb⟩
  obtain ⟨ext2, d2, rfl⟩ := Below.grown_eq _ (Below.own (by repeat (first | exact Below.refl _ _ | assumption | refine Below.drew ?_ | refine Below.drewN' ?_ _ | refine below_grow0 _ _ ?_ | refine below_alloc0 _ ?_ | refine Below.alloc ?_ (by first | omega | (simp; done) | (simp; omega)) _ | refine Below.setCell ?_ (by first | omega | (simp; done) | (simp; omega)) _ | refine Below.grow _ _ _ ?_ (by first | omega | (simp; done) | (simp; omega)))) hb)
  clear hb hp
  rcases he with ⟨c2, hc2, hns, rfl⟩ | ⟨hsound, k, hk, hbest, rfl⟩
  · go_wp2_with (first | (go_at_call 31; refine (elects_any _).mono ?_; rintro e w3 ⟨rfl, hb⟩; obtain ⟨ext3, d3, rfl⟩ := Below.grown_eq _ hb; clear hb))
    go_ret
    exact ⟨rfl, (by repeat (first | exact Below.refl _ _ | assumption | refine Below.drew ?_ | refine Below.drewN' ?_ _ | refine below_grow0 _ _ ?_ | refine below_alloc0 _ ?_ | refine Below.alloc ?_ (by first | omega | (simp; done) | (simp; omega)) _ | refine Below.setCell ?_ (by first | omega | (simp; done) | (simp; omega)) _ | refine Below.grow _ _ _ ?_ (by first | omega | (simp; done) | (simp; omega))))⟩
  · rw [Nat.add_zero, Nat.mod_eq_of_lt hk] at hbest
    have HB := Lib.hid hbest
    have HT := Lib.hid (fun (i : Nat) (y : Peer) (hy : l[i]? = some y) => top_all hy)
    have ht0 := topE_nonneg l
    have ht1 : topE l < 2147483647 := hsound.2.2.2
    have HS := Lib.hid hsound
    clear hbest hsound
    generalize htop : topE l = top at *
    have HTOP := Lib.hid htop
    clear htop
    have hk2 : (decide (l.length ≤ k)) = false := by simp; omega
    have hk3 : (decide ((k : Int) < 0)) = false := by simp
    have hx : l[k]? = some (l[k]'hk) := List.getElem?_eq_getElem _
    have HX := Lib.hid (HI.out _ (List.mem_of_getElem? hx))
    obtain ⟨b, off, rfl, hbw, c0, c1', c2', c3⟩ := H.out.Peer_at hx
    generalize hxe : l[k]'hk = x at hx c0 c1' c2' c3 HX
    go_wp2_with (first | (go_at_call 31; refine (elects_any _).mono ?_; rintro e w3 ⟨rfl, hb⟩; obtain ⟨ext3, d3, rfl⟩ := Below.grown_eq _ (Below.own (by repeat (first | exact Below.refl _ _ | assumption | refine Below.drew ?_ | refine Below.drewN' ?_ _ | refine below_grow0 _ _ ?_ | refine below_alloc0 _ ?_ | refine Below.alloc ?_ (by first | omega | (simp; done) | (simp; omega)) _ | refine Below.setCell ?_ (by first | omega | (simp; done) | (simp; omega)) _ | refine Below.grow _ _ _ ?_ (by first | omega | (simp; done) | (simp; omega)))) hb); clear hb))
    go_loopw [8] (fun i wr => ∃ (j : Nat) (ext : Array Obj) (d : Nat), j ≤ l.length ∧ i = .int .i64 j ∧ wr = grow w ext d) (fun i _ => l.length - (intOf i).toNat)
    case atStart => exact ⟨0, _, _, Nat.zero_le _, rfl, grown_of (by repeat (first | exact Below.refl _ _ | assumption | refine Below.drew ?_ | refine Below.drewN' ?_ _ | refine below_grow0 _ _ ?_ | refine below_alloc0 _ ?_ | refine Below.alloc ?_ (by first | omega | (simp; done) | (simp; omega)) _ | refine Below.setCell ?_ (by first | omega | (simp; done) | (simp; omega)) _ | refine Below.grow _ _ _ ?_ (by first | omega | (simp; done) | (simp; omega))))⟩
    case round =>
      obtain ⟨j, ext4, d4, hj, rfl, rfl⟩ := hrel
      by_cases hlt : j < l.length
      · have hy : l[j]? = some (l[j]'hlt) := List.getElem?_eq_getElem _
        have HY := Lib.hid (HI.out _ (List.mem_of_getElem? hy))
        obtain ⟨b2, off2, hA2, _, y0, y1, y2, y3⟩ := H.out.Peer_at hy
        injection hA2 with hA2
        injection hA2 with e1 e2 _
        subst e1
        subst e2
        generalize hye : l[j]'hlt = y at hy y0 y1 y2 y3 HY
        have hlast := best_last HB.out hx hy
        obtain ⟨ht2, ht3⟩ := HT.out _ _ hy
        have HL1 := Lib.hid (fun (W' : World) (hb : Below w.heap.size w W') => walLast _ _ _ (HX.out.below hb).1)
        have HL2 := Lib.hid (fun (W' : World) (hb : Below w.heap.size w W') => walLast _ _ _ (HY.out.below hb).1)
        have HEP := Lib.hid (fun (W' : World) => zepoch_any (lastZ y.log) W')
        generalize lastZ x.log = zx at *
        generalize lastZ y.log = zy at *
        generalize epochZ zy = ez at *
        go_wp2_with fail
        refine (HL2.out _ (by repeat (first | exact Below.refl _ _ | assumption | refine Below.drew ?_ | refine Below.drewN' ?_ _ | refine below_grow0 _ _ ?_ | refine below_alloc0 _ ?_ | refine Below.alloc ?_ (by first | omega | (simp; done) | (simp; omega)) _ | refine Below.setCell ?_ (by first | omega | (simp; done) | (simp; omega)) _ | refine Below.grow _ _ _ ?_ (by first | omega | (simp; done) | (simp; omega))))).mono ?_
        rintro e w5 ⟨rfl, rfl⟩
        go_wp2_with fail
        refine (HL1.out _ (by repeat (first | exact Below.refl _ _ | assumption | refine Below.drew ?_ | refine Below.drewN' ?_ _ | refine below_grow0 _ _ ?_ | refine below_alloc0 _ ?_ | refine Below.alloc ?_ (by first | omega | (simp; done) | (simp; omega)) _ | refine Below.setCell ?_ (by first | omega | (simp; done) | (simp; omega)) _ | refine Below.grow _ _ _ ?_ (by first | omega | (simp; done) | (simp; omega))))).mono ?_
        rintro e w5 ⟨rfl, rfl⟩
        go_wp2_with (first | (go_at_call 19; refine (HEP.out _).mono ?_; rintro e w1 ⟨rfl, rfl⟩; skip))
        go_roundw
        case rel => exact ⟨j + 1, _, _, by omega, by go_num, grown_of (by repeat (first | exact Below.refl _ _ | assumption | refine Below.drew ?_ | refine Below.drewN' ?_ _ | refine below_grow0 _ _ ?_ | refine below_alloc0 _ ?_ | refine Below.alloc ?_ (by first | omega | (simp; done) | (simp; omega)) _ | refine Below.setCell ?_ (by first | omega | (simp; done) | (simp; omega)) _ | refine Below.grow _ _ _ ?_ (by first | omega | (simp; done) | (simp; omega))))⟩
        case measure => simp [intOf]; omega
      · go_wp2_with fail
        refine (pick_is from_ l.length _ (by omega) (by omega)).mono ?_
        rintro e w5 ⟨f, hf, rfl, rfl⟩
        go_wp2_with fail
        refine (HO.out _ f (by repeat (first | exact Below.refl _ _ | assumption | refine Below.drew ?_ | refine Below.drewN' ?_ _ | refine below_grow0 _ _ ?_ | refine below_alloc0 _ ?_ | refine Below.alloc ?_ (by first | omega | (simp; done) | (simp; omega)) _ | refine Below.setCell ?_ (by first | omega | (simp; done) | (simp; omega)) _ | refine Below.grow _ _ _ ?_ (by first | omega | (simp; done) | (simp; omega)))) (.inl hf)).mono ?_
        rintro e w1 ⟨A2, c2, l2, rfl, hp, hb⟩
        obtain ⟨ext5, d5, rfl⟩ := Below.grown_eq _ (Below.own (by repeat (first | exact Below.refl _ _ | assumption | refine Below.drew ?_ | refine Below.drewN' ?_ _ | refine below_grow0 _ _ ?_ | refine below_alloc0 _ ?_ | refine Below.alloc ?_ (by first | omega | (simp; done) | (simp; omega)) _ | refine Below.setCell ?_ (by first | omega | (simp; done) | (simp; omega)) _ | refine Below.grow _ _ _ ?_ (by first | omega | (simp; done) | (simp; omega)))) hb)
        clear hb
        go_wp2_with fail
        refine (HE.out _ f _ l2 hp.out).mono ?_
        rintro e w2 ⟨he, hb⟩
        obtain ⟨ext6, d6, rfl⟩ := Below.grown_eq _ (Below.own (by repeat (first | exact Below.refl _ _ | assumption | refine Below.drew ?_ | refine Below.drewN' ?_ _ | refine below_grow0 _ _ ?_ | refine below_alloc0 _ ?_ | refine Below.alloc ?_ (by first | omega | (simp; done) | (simp; omega)) _ | refine Below.setCell ?_ (by first | omega | (simp; done) | (simp; omega)) _ | refine Below.grow _ _ _ ?_ (by first | omega | (simp; done) | (simp; omega)))) hb)
        clear hb hp
        rcases he with ⟨c2, hc2, hns, rfl⟩ | ⟨hsound, m, hm, hbest, rfl⟩
        · exact absurd HS.out hns
        · have hmk : ((m : Int) + (f : Int)).tmod (l.length : Int) = (k : Int) := by
            have := best_one (Nat.mod_lt _ (by omega)) hk hbest HB.out
            rw [← this, ← Int.natCast_add, Int.tmod_eq_emod_of_nonneg (by omega)]
            rfl
          clear hbest hsound
          go_wp2_with fail
          go_quiet (fail)
          go_wp2_with fail
          go_ret
          exact ⟨rfl, (by repeat (first | exact Below.refl _ _ | assumption | refine Below.drew ?_ | refine Below.drewN' ?_ _ | refine below_grow0 _ _ ?_ | refine below_alloc0 _ ?_ | refine Below.alloc ?_ (by first | omega | (simp; done) | (simp; omega)) _ | refine Below.setCell ?_ (by first | omega | (simp; done) | (simp; omega)) _ | refine Below.grow _ _ _ ?_ (by first | omega | (simp; done) | (simp; omega))))⟩
namespace zabLeads
theorem own : ownKnob Try.prog.godebug = none := by kernel_rfl
theorem laidOut : laidOutB Try.prog = true := by kernel_rfl
set_option maxRecDepth 100000 in
set_option maxHeartbeats 1000000 in
theorem lifted (os : Os) (started : os.Started) (H : Type) (enc : TypeId × Value → H) :
    ReturnsInHanded {} Try.checked os 8 .any (Rows.zabLeadsSpec.pre6 enc Try.prog Try.f8 Rows.zabLeadsRow.domain false) (Rows.zabLeadsSpec.post enc Try.prog Try.f8 false true false false) := by
  refine returnsInHanded_of_change_sized (C := Try.checked) own started (by kernel_rfl) Try.func8
    (ChangeSpec.witness6 (enc := enc) (C := Try.checked) false ⟨#[], #[.slice none 0 0, .int .i64 0], []⟩ 8 (by kernel_rfl) (by kernel_rfl) (by kernel_rfl) (by kernel_rfl)) ?_
  intro W base args ds gs before hval0 hW0 _ hsz0 _
  have hval : ∀ (j : Nat) t v, Try.f8.params[j]? = some t → args[j]? = some v → Value.okWide Try.prog W .any base t v := hval0
  have hW : DataW.Whole enc Try.prog Try.f8.params.toList Rows.zabLeadsSpec.vars false W args.toList ds gs before := hW0
  have hlt : ∀ p ∈ before, p.block < W.heap.size := fun p hp => hW.lt p hp
  have hW1 := hW
  obtain ⟨p, q, hA0, hV, rfl, hfz, hnd⟩ := hW1
  have hA : DataW.TrodAll enc Try.prog W 0 (fun _ => true) true Try.f8.params.toList args.toList ds p := hA0
  obtain ⟨rfl, rfl⟩ := trodVars_none hV
  rw [Try.params8] at hA hval
  obtain ⟨v0, vs0, d0, ds0, p0, q0, hargs, rfl, rfl, h0, r0⟩ := trodAll_cons hA
  obtain ⟨v1, vs1, d1, ds1, p1, q1, rfl, rfl, rfl, h1, r1⟩ := trodAll_cons r0
  obtain ⟨rfl, rfl, rfl⟩ := trodAll_nil r1
  obtain rfl : args = #[v0, v1] := by cases args; simp_all
  have hsz : (DataW.weightsEach Try.prog [44, 3] [d0, d1]).all (· ≤ reachBytes) = true := hsz0
  have close : ∀ e W', (e = Ending.returned (.bool true) ∧ Below W.heap.size W W') → ∃ v, e = .returned v ∧ Rows.zabLeadsSpec.post enc Try.prog Try.f8 false true false false W #[v0, v1] v W' :=
    fun e W' ⟨he, hb⟩ => ⟨_, he, law_post laidOut (of_decide_eq_true (by kernel_rfl)) rfl rfl Try.underlying4 hW rfl hb⟩
  clear hA0 hsz0 hval0 hW0 hA hV hW hfz hnd
  obtain ⟨a1, rfl, hd1, _, wf1⟩ := open_int Try.underlying3 (hval 1 3 v1 rfl rfl) h1
  obtain ⟨A, len, cap, rfl⟩ := okWide_slice Try.underlying44 (hval 0 _ v0 rfl rfl)
  obtain ⟨v, xs, hv, hr, hb, hx⟩ := deep_slice Try.underlying44 (open_deep 11 h0 (sized_arg hsz 0 rfl rfl))
  rw [show Try.prog.cellsOf 51 = 4 from by kernel_rfl] at hr
  rw [show Try.prog.bytesOf 51 = 48 from by kernel_rfl] at hb
  obtain rfl : Value.slice A len cap = v := by simpa [Value.cells] using hv
  obtain ⟨l, rfl, hl⟩ := typed (f := cPeer) (Q := fun p => p.In W) (fun x hxm => open_peer (n := 0) (hx x hxm))
  have hs : Sl cPeer 4 W (.slice A len cap) l := hr (by decide)
  exact (zabLeads_ok _ l a1 W hs hl (by simpa [reachBytes] using hb)).mono close
theorem proved : Rows.ZabLeadsSaid :=
  OpenClaim.holds_of_wide 8 Try.f8 rfl rfl rfl rfl rfl rfl rfl ⟨rfl, rfl, rfl, rfl, rfl⟩ rfl rfl rfl rfl rfl (by kernel_rfl) Try.func8 (by kernel_rfl)
    (of_decide_eq_true (by kernel_rfl)) (by unfold Func.isWrapper; first | (rw [if_pos (by decide +kernel)]; kernel_rfl) | (rw [if_neg (by decide +kernel)]; exact ⟨rfl, rfl⟩))
    (fun os started H enc _ => lifted os started H enc)
end zabLeads
end Go.Proofs.Ytahcmfnpfepimaa
