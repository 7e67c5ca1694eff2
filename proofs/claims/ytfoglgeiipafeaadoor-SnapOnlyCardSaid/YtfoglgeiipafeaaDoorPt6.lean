/- Lemmas for the statement: SnapW, SnapB, SnapR, SnapT, SnapE. -/
import Derived.Deep.RegionHeld3
import Derived.Deep.Cut
import Derived.Deep.CutBlock
import Derived.Deep.CutRange
import Derived.Test.YtfoglgeiipafeaaDoorPt1
import Derived.Test.YtfoglgeiipafeaaDoorPt2
import Derived.Test.YtfoglgeiipafeaaDoorPt3
import Derived.Test.YtfoglgeiipafeaaDoorPt4
import Derived.Test.YtfoglgeiipafeaaDoorPt5
/- package snap: Write. -/
namespace Go.Proofs.YtfoglgeiipafeaaDoor
open Go.RowKit Go.ChangeShapes Go.WideShapes Go.ChangeAt
theorem put_big (W : World) (v : Value) (l : List UInt8) (x n : Nat) (w : World) (hb : Below W.heap.size W w) (h : Ow cByte 1 5 w W.heap.size v l) (hx : x < 9223372036854775808) (hn : n ≤ 8) (hl : l.length ≤ 100000000000) :
    Calls Tryd.prog 15 #[v, .int .i64 x, .int .i64 n] w fun e w' => ∃ A c, e = .returned (.slice A (l ++ be n x).length c) ∧ Ow cByte 1 5 w' W.heap.size (.slice A (l ++ be n x).length c) (l ++ be n x) ∧ Below W.heap.size W w' :=
  (sput_any W.heap.size v l x n w h hb.size hx hn hl).mono fun _ _ ⟨A, c, e, ho, hg, _⟩ => ⟨A, c, e, ho, hb.grown hg hb.size (fun _ hk => (h.own_in hk).1)⟩
theorem ow_lit83 (W : World) (B : Nat) (e : TypeId) {n : Nat} (hn : n = W.heap.size) (hB : B ≤ W.heap.size) : Ow cByte 1 e (W.alloc (.cells #[.int .u8 83] e)) B (.slice (some ⟨n, 0, none⟩) 1 1) [83] := by
  subst hn
  exact ⟨World.ownsRow_lit W #[.int .u8 83] 1 hB (by simp [maxLen]) (by simp), fun x _ => rfl⟩
/-- a row of one's own that grows beside a block of another kind -/
structure RowAt (W1 : World) (g : Nat) (box : List Value) (w : World) (v : Value) (L : List UInt8) : Prop where
  ow : Ow cByte 1 5 w W1.heap.size v L
  bel : Below W1.heap.size W1 w
  bk : Bk w g box 45
theorem RowAt.off {W1 : World} {g : Nat} {box : List Value} {w : World} {v : Value} {L : List UInt8} (h : RowAt W1 g box w v L) : some g ≠ v.ownBlock := by
  intro hq
  rcases h.ow.1.2 with ⟨rfl, _⟩ | ⟨k, cap, cur, rfl, hb, hg, _⟩
  · cases hq
  · have e1 : g = k := by simpa [Value.ownBlock] using hq
    subst e1
    have hb := h.bk
    unfold Bk at hb
    rw [hg] at hb
    injection hb with hb
    injection hb with _ hb _
    exact absurd hb (by decide)
theorem RowAt.grown {W1 : World} {g : Nat} {box : List Value} {w w' : World} {v v' : Value} {L L' : List UInt8} (h : RowAt W1 g box w v L) (hg : w.grownBy w' v.ownBlock) (ho : Ow cByte 1 5 w' W1.heap.size v' L') : RowAt W1 g box w' v' L' :=
  ⟨ho, h.bel.grown hg h.bel.size (fun _ hk => (h.ow.own_in hk).1), h.bk.grown hg h.off⟩
theorem RowAt.below {W1 : World} {g : Nat} {box : List Value} {w w' : World} {v : Value} {L : List UInt8} (h : RowAt W1 g box w v L) (hb : Below w.heap.size w w') : RowAt W1 g box w' v L :=
  ⟨h.ow.below hb, h.bel.trans (hb.mono h.bel.size), h.bk.below hb⟩
theorem put_row {W1 : World} {g : Nat} {box : List Value} {w : World} {v : Value} {L : List UInt8} (h : RowAt W1 g box w v L) (x n : Nat) (hx : x < 9223372036854775808) (hn : n ≤ 8) (hl : L.length ≤ 100000000000) :
    Calls Tryd.prog 15 #[v, .int .i64 x, .int .i64 n] w fun e w' => ∃ A c, e = .returned (.slice A (L ++ be n x).length c) ∧ RowAt W1 g box w' (.slice A (L ++ be n x).length c) (L ++ be n x) :=
  (sput_any W1.heap.size v L x n w h.ow h.bel.size hx hn hl).mono fun _ _ ⟨A, c, e, ho, hg, _⟩ => ⟨A, c, e, h.grown hg ho⟩
theorem ow_off {w : World} {B g : Nat} {v : Value} {L : List UInt8} {pp : List Value} {t : TypeId} (ho : Ow cByte 1 5 w B v L) (hb : Bk w g pp t) (ht : t ≠ 5) : some g ≠ v.ownBlock := by
  intro hq
  rcases ho.1.2 with ⟨rfl, _⟩ | ⟨k, cap, cur, rfl, hb2, hg, _⟩
  · cases hq
  · have e1 : g = k := by simpa [Value.ownBlock] using hq
    subst e1
    unfold Bk at hb
    rw [hg] at hb
    injection hb with hb
    injection hb with _ hb _
    exact ht hb.symm
theorem put_row2 {W1 : World} {g gp : Nat} {box pp : List Value} {w : World} {v : Value} {L : List UInt8} (h : RowAt W1 g box w v L) (h2 : Bk w gp pp 49) (x n : Nat) (hx : x < 9223372036854775808) (hn : n ≤ 8) (hl : L.length ≤ 100000000000) :
    Calls Tryd.prog 15 #[v, .int .i64 x, .int .i64 n] w fun e w' => ∃ A c, e = .returned (.slice A (L ++ be n x).length c) ∧ RowAt W1 g box w' (.slice A (L ++ be n x).length c) (L ++ be n x) ∧ Bk w' gp pp 49 :=
  (sput_any W1.heap.size v L x n w h.ow h.bel.size hx hn hl).mono fun _ _ ⟨A, c, e, ho, hg, _⟩ => ⟨A, c, e, h.grown hg ho, h2.grown hg (ow_off h.ow h2 (by decide))⟩
theorem ptrs_at (b o j : Nat) (h : j < 7) : (ptrs b o)[j]? = some (.pointer (some ⟨b, o + j, none⟩)) := by
  obtain rfl | rfl | rfl | rfl | rfl | rfl | rfl : j = 0 ∨ j = 1 ∨ j = 2 ∨ j = 3 ∨ j = 4 ∨ j = 5 ∨ j = 6 := by omega
  all_goals rfl
theorem nums_at {p d : ByteArray} {q2 q3 q4 q5 q6 q7 q8 y : Int} {j : Nat} (h : [q2, q3, q4, q5, q6, q7, q8][j]? = some y) : [Value.string p, .string d, .int .i64 q2, .int .i64 q3, .int .i64 q4, .int .i64 q5, .int .i64 q6, .int .i64 q7, .int .i64 q8][2 + j]? = some (.int .i64 y) := by
  obtain ⟨hj, _⟩ := List.getElem?_eq_some_iff.1 h
  have hj : j < 7 := hj
  obtain rfl | rfl | rfl | rfl | rfl | rfl | rfl : j = 0 ∨ j = 1 ∨ j = 2 ∨ j = 3 ∨ j = 4 ∨ j = 5 ∨ j = 6 := by omega
  all_goals (simp at h; subst h; rfl)
theorem take_be8 {l : List Int} {k : Nat} {x : Int} (h : l[k]? = some x) : (l.take (k + 1)).flatMap (fun s => be 8 s.toNat) = (l.take k).flatMap (fun s => be 8 s.toNat) ++ be 8 x.toNat := by
  rw [List.take_add_one, h]
  simp
theorem be8_len (l : List Int) : (l.flatMap (fun s => be 8 s.toNat)).length = l.length * 8 := by
  induction l with
  | nil => rfl
  | cons a l ih => rw [List.flatMap_cons, List.length_append, be_length, ih, List.length_cons]; omega
theorem sessBy_take {ss : List Int} {k : Nat} {x : Int} (h : ss[k]? = some x) : sessBy (ss.take (k + 1)) = sessBy (ss.take k) ++ be 4 x.toNat := by
  rw [List.take_add_one, h]
  unfold sessBy
  simp
theorem nodesBy_take {l : List Node} {k : Nat} {x : Node} (h : l[k]? = some x) : (l.take (k + 1)).flatMap nodeBy = (l.take k).flatMap nodeBy ++ nodeBy x := by
  rw [List.take_add_one, h]
  simp
set_option maxHeartbeats 1000000 in
theorem trWrite_no (z : Int) (v v2 : Value) (l : List Node) (ss : List Int) (w : World) (h : Sl cNode 9 w v l) (h2 : Sl cInt 1 w v2 ss) (hn : ss.length ≤ 140737488355328) (hz : ∀ n ∈ l, n.path.size ≤ 9223372036854775807) (hg : goodTree ⟨z, l, ss⟩ = false) :
    Calls Tryd.prog 7 #[.agg #[.int .i64 z, v, v2]] w fun e w' => e = .returned (.tuple #[.string ⟨#[]⟩, .int .i64 3]) ∧ Below w.heap.size w w' := by
  obtain ⟨A, c, rfl, h1, h1b⟩ := h.form
  obtain ⟨A2, c2, rfl, h3, h3b⟩ := h2.form
  have HG := Lib.hid (fun W (h : Sl cNode 9 W (.slice A l.length c) l) (h2 : Sl cInt 1 W (.slice A2 ss.length c2) ss) => trGood z _ _ l ss W h h2 hn hz)
  rw [hg] at HG
  have H1 := Lib.hid h
  have H2 := Lib.hid h2
  clear h h2 h1b h3b hg
  go_enter Tryd.func7, Tryd.ntmps7
  go_wp2_with ((go_at_call 10; refine (HG.out _ (by exact H1.out.alloc _) (by exact H2.out.alloc _)).mono ?_; rintro e w1 ⟨rfl, hb1⟩; obtain ⟨ext1, d1, rfl⟩ := Below.grown_eq _ hb1; clear hb1 HG))
  go_ret2
  exact ⟨rfl, (by repeat (first | with_reducible exact Below.refl _ _ | with_reducible assumption | with_reducible exact below_d1 _ _ _ _ _ | with_reducible exact below_d2 _ _ _ _ _ _ _ _ | with_reducible exact below_d3 _ _ _ _ _ | with_reducible exact below_d4 _ _ _ _ _ _ _ _ | with_reducible exact below_d5 _ _ | with_reducible refine Below.drew ?_ | with_reducible refine Below.drewN' ?_ _ | with_reducible refine below_grow0 _ _ ?_ | with_reducible refine below_alloc0 _ ?_ | with_reducible refine Below.setCell ?_ ?_ _ | with_reducible refine Below.alloc ?_ ?_ _ | with_reducible refine Below.grow _ _ _ ?_ ?_ | omega | (simp; done) | (simp; omega)))⟩
set_option maxHeartbeats 1000000 in
theorem trWrite_yes (z : Nat) (v v2 : Value) (l : List Node) (ss : List Int) (w : World) (h : Sl cNode 9 w v l) (h2 : Sl cInt 1 w v2 ss) (hg : goodTree ⟨z, l, ss⟩ = true) :
    Calls Tryd.prog 7 #[.agg #[.int .i64 z, v, v2]] w fun e w' => e = .returned (.tuple #[.string ⟨(snapBy ⟨z, l, ss⟩).toArray⟩, .int .i64 0]) ∧ Below w.heap.size w w' := by
  have hok := snap_ok hg
  have HK := Lib.hid hok
  have hss := hok.ns
  have hnn := hok.nn
  have hzz := hok.z
  simp only at hss hnn hzz
  obtain ⟨A, c, rfl, h1, h1b⟩ := h.form
  obtain ⟨A2, c2, rfl, h3, h3b⟩ := h2.form
  have HG := Lib.hid (fun W (h : Sl cNode 9 W (.slice A l.length c) l) (h2 : Sl cInt 1 W (.slice A2 ss.length c2) ss) => trGood z _ _ l ss W h h2 (by omega) (fun n hn => by have := (hok.n n hn).1; omega))
  rw [hg] at HG
  have H1 := Lib.hid h
  have H2 := Lib.hid h2
  clear h h2 h1b h3b hg hok
  go_enter Tryd.func7, Tryd.ntmps7
  go_upto_region 3 with ((go_at_call 10; refine (HG.out _ (by exact H1.out.alloc _) (by exact H2.out.alloc _)).mono ?_; rintro e w1 ⟨rfl, hb1⟩; obtain ⟨ext1, d1, rfl⟩ := Below.grown_eq _ hb1; clear hb1 HG))
  refine gen_w (fun W1 hW1 => ?_)
  have e0 : W1.cell? ⟨w.heap.size, 0, none⟩ = some (.int .i64 z) := by rw [hW1.out]; go_simp
  have e1 : W1.cell? ⟨w.heap.size, 1, none⟩ = some (.slice A l.length c) := by rw [hW1.out]; go_simp
  have e2 : W1.cell? ⟨w.heap.size, 2, none⟩ = some (.slice A2 ss.length c2) := by rw [hW1.out]; go_simp
  have hB1 : Below w.heap.size w W1 := by rw [hW1.out]; exact (by repeat (first | exact Below.refl _ _ | assumption | refine Below.drew ?_ | refine Below.drewN' ?_ _ | refine below_grow0 _ _ ?_ | refine below_alloc0 _ ?_ | refine Below.alloc ?_ (by first | omega | (simp; done) | (simp; omega)) _ | refine Below.setCell ?_ (by first | omega | (simp; done) | (simp; omega)) _ | refine Below.grow _ _ _ ?_ (by first | omega | (simp; done) | (simp; omega))))
  have hlt : w.heap.size < W1.heap.size := by rw [hW1.out]; simp <;> omega
  have hs1 : Sl cNode 9 W1 (.slice A l.length c) l := H1.out.below hB1
  have hs2 : Sl cInt 1 W1 (.slice A2 ss.length c2) ss := H2.out.below hB1
  clear H1 H2 hW1
  have HB1 := Lib.hid hB1
  have HLT := Lib.hid hlt
  have HS1 := Lib.hid hs1
  have HS2 := Lib.hid hs2
  clear hB1 hs1 hs2
  generalize hbw : w.heap.size = b at *
  have HBE := Lib.hid hbw
  clear hbw
  have P3 := Lib.hid (put_big W1)
  have P4 := Lib.hid (put_big W1)
  have P8 := Lib.hid (put_big W1)
  go_wp2_with (first | (go_at_call 15; (refine (P3.out _ [83] z 8 _ (by exact (by repeat (first | exact Below.refl _ _ | assumption | refine Below.drew ?_ | refine Below.drewN' ?_ _ | refine below_grow0 _ _ ?_ | refine below_alloc0 _ ?_ | refine Below.alloc ?_ (by first | omega | (simp; done) | (simp; omega)) _ | refine Below.setCell ?_ (by first | omega | (simp; done) | (simp; omega)) _ | refine Below.grow _ _ _ ?_ (by first | omega | (simp; done) | (simp; omega))))) (by exact ow_lit83 _ _ _ (by simp) (by simp)) (by omega) (by omega) (by simp)).mono ?_); rintro e w3 ⟨A3, c3, rfl, ho3, hb3⟩; obtain ⟨ext3, d3, rfl⟩ := Below.grown_eq _ hb3; have HO3 := Lib.hid ho3; clear ho3 hb3 P3; have HL3 := Lib.hid (show ([83] ++ be 8 z).length = 9 by simp [be_length]); generalize hE3 : [83] ++ be 8 z = L3 at *; have HE3 := Lib.hid hE3; clear hE3) | (go_at_call 15; (refine (P4.out _ L3 ss.length 4 _ (by exact (by repeat (first | exact Below.refl _ _ | exact below_regrow _ _ _ _ | assumption | refine Below.drew ?_ | refine Below.drewN' ?_ _ | refine below_grow0 _ _ ?_ | refine below_alloc0 _ ?_ | refine Below.alloc ?_ (by first | omega | (simp; done) | (simp; omega)) _ | refine Below.setCell ?_ (by first | omega | (simp; done) | (simp; omega)) _ | refine Below.grow _ _ _ ?_ (by first | omega | (simp; done) | (simp; omega))))) (by exact HO3.out.below (by repeat (first | exact Below.refl _ _ | exact below_regrow _ _ _ _ | assumption | refine Below.drew ?_ | refine Below.drewN' ?_ _ | refine below_grow0 _ _ ?_ | refine below_alloc0 _ ?_ | refine Below.alloc ?_ (by first | omega | (simp; done) | (simp; omega)) _ | refine Below.setCell ?_ (by first | omega | (simp; done) | (simp; omega)) _ | refine Below.grow _ _ _ ?_ (by first | omega | (simp; done) | (simp; omega))))) (by omega) (by omega) (by rw [HL3.out]; omega)).mono ?_); rintro e w4 ⟨A4, c4, rfl, ho4, hb4⟩; obtain ⟨ext4, d4, rfl⟩ := Below.grown_eq _ hb4; have HO4 := Lib.hid ho4; clear ho4 hb4 P4; have HL4 := Lib.hid (show (L3 ++ be 4 ss.length).length = 13 by rw [List.length_append, HL3.out, be_length]); generalize hE4 : L3 ++ be 4 ss.length = L4 at *; have HE4 := Lib.hid hE4; clear hE4))
  clear e0
  go_loopw [4, 26] (fun bv i wr => ∃ (k : Nat) (L : List UInt8) (A : Option Addr) (c : Nat), k ≤ ss.length ∧ i = .int .i64 k ∧ bv = .slice A L.length c ∧ Hid (L = L4 ++ sessBy (ss.take k)) ∧ Hid (Below W1.heap.size W1 wr) ∧ Hid (Ow cByte 1 5 wr W1.heap.size (.slice A L.length c) L)) (fun _ i _ => ss.length - (intOf i).toNat)
  case atStart => exact ⟨0, L4, A4, c4, Nat.zero_le _, rfl, rfl, Lib.hid (by simp [sessBy]), Lib.hid (by repeat (first | exact Below.refl _ _ | exact below_regrow _ _ _ _ | assumption | refine Below.drew ?_ | refine Below.drewN' ?_ _ | refine below_grow0 _ _ ?_ | refine below_alloc0 _ ?_ | refine Below.alloc ?_ (by first | omega | (simp; done) | (simp; omega)) _ | refine Below.setCell ?_ (by first | omega | (simp; done) | (simp; omega)) _ | refine Below.grow _ _ _ ?_ (by first | omega | (simp; done) | (simp; omega)))), Lib.hid (HO4.out.below (by repeat (first | exact Below.refl _ _ | exact below_regrow _ _ _ _ | assumption | refine Below.drew ?_ | refine Below.drewN' ?_ _ | refine below_grow0 _ _ ?_ | refine below_alloc0 _ ?_ | refine Below.alloc ?_ (by first | omega | (simp; done) | (simp; omega)) _ | refine Below.setCell ?_ (by first | omega | (simp; done) | (simp; omega)) _ | refine Below.grow _ _ _ ?_ (by first | omega | (simp; done) | (simp; omega)))))⟩
  case round =>
    obtain ⟨k, L5, A5, c5, hk, rfl, rfl, hL5, hbel, ho5⟩ := hrel
    have HL5 : Hid (L5.length = 13 + k * 4) := Lib.hid (by rw [hL5.out, List.length_append, HL4.out, sessBy_length, List.length_take]; omega)
    by_cases hlt : k < ss.length
    · have hx : ss[k]? = some (ss[k]'hlt) := List.getElem?_eq_getElem _
      obtain ⟨b2, o2, hA2, hb2, s0⟩ := (HS2.out.below hbel.out).Int_at hx
      subst hA2
      have hsb := HK.out.s _ (List.mem_of_getElem? hx)
      have hst := Lib.hid (sessBy_take hx)
      generalize ss[k]'hlt = s at *
      obtain ⟨sn, rfl⟩ := Int.eq_ofNat_of_zero_le (show 0 ≤ s by omega)
      simp only [Int.toNat_natCast] at hst
      clear hx
      go_wp2_with (go_at_call 15; (refine (P8.out _ L5 sn 4 _ hbel.out ho5.out (by omega) (by omega) (by rw [HL5.out]; omega)).mono ?_); rintro e w6 ⟨A6, c6, rfl, ho6, hb6⟩; have HO6 := Lib.hid ho6; have HB6 := Lib.hid hb6; clear ho6 hb6)
      go_roundw
      case rel => exact ⟨k + 1, L5 ++ be 4 sn, A6, c6, by omega, by go_num, by simp, Lib.hid (by rw [hst.out, hL5.out, List.append_assoc]), HB6, HO6⟩
      case measure => simp [intOf]; omega
    · obtain rfl : k = ss.length := by omega
      clear hlt hk HO4
      have HB5 := Lib.hid hbel.out
      have HO5 := Lib.hid ho5.out
      clear ho5
      have hL5' := Lib.hid (show L5 = L4 ++ sessBy ss by rw [hL5.out, List.take_length])
      clear hL5
      have P10 := Lib.hid (put_big W1)
      have e1' := (hbel.out.cell (p := ⟨b, 1, none⟩) HLT.out).trans e1
      go_wp2_with (go_at_call 15; (refine (P10.out _ L5 l.length 4 _ HB5.out HO5.out (by omega) (by omega) (by rw [HL5.out]; omega)).mono ?_); rintro e w10 ⟨A10, c10, rfl, ho10, hb10⟩; have HO10 := Lib.hid ho10; have HB10 := Lib.hid hb10; have hkk := (hb10.cell (p := ⟨b, 1, none⟩) HLT.out).trans e1; have HL10 := Lib.hid (show (L5 ++ be 4 l.length).length = 17 + ss.length * 4 by rw [List.length_append, HL5.out, be_length]; omega); generalize hE10 : L5 ++ be 4 l.length = L10 at *; have HE10 := Lib.hid hE10; clear ho10 hb10 hE10 P10)
      go_loopw [4, 42] (fun bv i wr => ∃ (k : Nat) (L : List UInt8) (A : Option Addr) (c : Nat), k ≤ l.length ∧ i = .int .i64 k ∧ bv = .slice A L.length c ∧ Hid (L = L10 ++ (l.take k).flatMap nodeBy) ∧ Hid (Below W1.heap.size W1 wr) ∧ Hid (Ow cByte 1 5 wr W1.heap.size (.slice A L.length c) L)) (fun _ i _ => l.length - (intOf i).toNat)
      case atStart => exact ⟨0, L10, A10, c10, Nat.zero_le _, rfl, rfl, Lib.hid (by simp), HB10, HO10⟩
      case round =>
        obtain ⟨k, L13, A13, c13, hk, rfl, rfl, hL13, hbel, ho13⟩ := hrel
        have HL13 : Hid (L13.length ≤ 17 + ss.length * 4 + k * 515) := Lib.hid (by
          have := nodesBy_le (l := l.take k) (fun n hn => ⟨(HK.out.n n (List.mem_of_mem_take hn)).1, (HK.out.n n (List.mem_of_mem_take hn)).2.1⟩)
          rw [hL13.out, List.length_append, HL10.out]
          rw [List.length_take] at this
          omega)
        by_cases hlt : k < l.length
        · have hx : l[k]? = some (l[k]'hlt) := List.getElem?_eq_getElem _
          obtain ⟨bk, off, hA, hbk, n0, n1, n2, n3, n4, n5, n6, n7, n8⟩ := (HS1.out.below hbel.out).Node_at hx
          subst hA
          have hnb := HK.out.n _ (List.mem_of_getElem? hx)
          have hnt := Lib.hid (nodesBy_take hx)
          generalize l[k]'hlt = x at *
          obtain ⟨p, d, q2, q3, q4, q5, q6, q7, q8⟩ := x
          simp only at hnb n0 n1 n2 n3 n4 n5 n6 n7 n8
          have HNB := Lib.hid hnb
          have hp := hnb.1
          have hd := hnb.2.1
          clear hx hnb
          go_upto_region 14 with fail
          refine gen_w (fun W2 hW2 => ?_)
          have hbk2 : Bk W2 wr.heap.size [.string p, .string d, .int .i64 q2, .int .i64 q3, .int .i64 q4, .int .i64 q5, .int .i64 q6, .int .i64 q7, .int .i64 q8] 45 := by
            rw [hW2.out]; exact Bk.new _ _ _ rfl
          have hb2 : Below wr.heap.size wr W2 := by rw [hW2.out]; exact (by repeat (first | exact Below.refl _ _ | assumption | refine Below.drew ?_ | refine Below.drewN' ?_ _ | refine below_grow0 _ _ ?_ | refine below_alloc0 _ ?_ | refine Below.alloc ?_ (by first | omega | (simp; done) | (simp; omega)) _ | refine Below.setCell ?_ (by first | omega | (simp; done) | (simp; omega)) _ | refine Below.grow _ _ _ ?_ (by first | omega | (simp; done) | (simp; omega))))
          have HR := Lib.hid (show RowAt W1 wr.heap.size _ W2 _ L13 from ⟨ho13.out.below hb2, hbel.out.trans (hb2.mono hbel.out.size), hbk2⟩)
          have hWs : W2.heap.size = wr.heap.size + 1 := by rw [hW2.out]; simp
          have hbw := hbel.out.size
          clear hW2 hb2 hbk2 n0 n1 n2 n3 n4 n5 n6 n7 n8 ho13
          have h0 := HR.out.bk.cell 0
          have h1' := HR.out.bk.cell 1
          simp only [List.getElem?_cons_zero, List.getElem?_cons_succ] at h0 h1'
          have HGS : Hid (wr.heap.size < W2.heap.size) := Lib.hid (by omega)
          generalize hgg : wr.heap.size = g at *
          have hgW : g < W2.heap.size := HGS.out
          have HB0 := Lib.hid (show [Value.int .u8 (IntKind.u8.wrap (p.size : Int))] = cByte (UInt8.ofNat p.size) from by simp [cByte, IntKind.wrap, IntKind.signed, IntKind.bits])
          go_region_held3 (fun w' => w'.cell? ⟨g, 0, none⟩ = some (.string p)) (first | exact h0' | go_simp) (first | (refine step_app _ rfl (.tmp 46) (.tmp 51) _ rfl elByte (B := W1.heap.size) (v := .slice A13 L13.length c13) (l := L13) (m := [UInt8.ofNat p.size]) rfl rfl (by exact HR.out.ow.below ((by repeat (first | with_reducible exact Below.refl _ _ | with_reducible assumption | with_reducible exact below_d1 _ _ _ _ _ | with_reducible exact below_d2 _ _ _ _ _ _ _ _ | with_reducible exact below_d3 _ _ _ _ _ | with_reducible exact below_d4 _ _ _ _ _ _ _ _ | with_reducible exact below_d5 _ _ | with_reducible refine Below.drew ?_ | with_reducible refine Below.drewN' ?_ _ | with_reducible refine below_grow0 _ _ ?_ | with_reducible refine below_alloc0 _ ?_ | with_reducible refine Below.setCell ?_ ?_ _ | with_reducible refine Below.alloc ?_ ?_ _ | with_reducible refine Below.grow _ _ _ ?_ ?_ | omega | (simp; done) | (simp; omega))))) (by exact (Sl.one_at cByte 1 W2 _ _ rfl _ (by exact HB0.out) (by omega) (by omega)).below ((by repeat (first | with_reducible exact Below.refl _ _ | with_reducible assumption | with_reducible exact below_d1 _ _ _ _ _ | with_reducible exact below_d2 _ _ _ _ _ _ _ _ | with_reducible exact below_d3 _ _ _ _ _ | with_reducible exact below_d4 _ _ _ _ _ _ _ _ | with_reducible exact below_d5 _ _ | with_reducible refine Below.drew ?_ | with_reducible refine Below.drewN' ?_ _ | with_reducible refine below_grow0 _ _ ?_ | with_reducible refine below_alloc0 _ ?_ | with_reducible refine Below.setCell ?_ ?_ _ | with_reducible refine Below.alloc ?_ ?_ _ | with_reducible refine Below.grow _ _ _ ?_ ?_ | omega | (simp; done) | (simp; omega))))) cByte_ones (by have := HL13.out; simp [maxLen] <;> omega) (by have := HL13.out; simp <;> omega) (by simp <;> omega) ?_; intro v7 w7 hown7 hg7 _; obtain ⟨A7, c7, rfl, _⟩ := hown7.form; have HR7 := Lib.hid (RowAt.grown (HR.out.below ((by repeat (first | with_reducible exact Below.refl _ _ | with_reducible assumption | with_reducible exact below_d1 _ _ _ _ _ | with_reducible exact below_d2 _ _ _ _ _ _ _ _ | with_reducible exact below_d3 _ _ _ _ _ | with_reducible exact below_d4 _ _ _ _ _ _ _ _ | with_reducible exact below_d5 _ _ | with_reducible refine Below.drew ?_ | with_reducible refine Below.drewN' ?_ _ | with_reducible refine below_grow0 _ _ ?_ | with_reducible refine below_alloc0 _ ?_ | with_reducible refine Below.setCell ?_ ?_ _ | with_reducible refine Below.alloc ?_ ?_ _ | with_reducible refine Below.grow _ _ _ ?_ ?_ | omega | (simp; done) | (simp; omega))))) hg7 hown7); have h0' := HR7.out.bk.cell 0; simp only [List.getElem?_cons_zero] at h0'; clear hown7 hg7; have HL7 := Lib.hid (show (L13 ++ [UInt8.ofNat p.size]).length ≤ 18 + ss.length * 4 + k * 515 by have := HL13.out; simp; omega); generalize hE7 : L13 ++ [UInt8.ofNat p.size] = L7 at *; have HE7 := Lib.hid hE7; clear hE7) | (refine step_apps _ rfl (.tmp 52) (.tmp 54) _ _ rfl elByte rfl Tryd.underlying9 (B := W1.heap.size) (v := .slice A7 L7.length c7) (l := L7) p rfl rfl (by exact HR7.out.ow) (by have := HL7.out; simp [maxLen] <;> omega) (by have := HL7.out; simp <;> omega) (by have := HR7.out.bel.size; simp <;> omega) ?_; intro v8 w8 hown8 hg8; obtain ⟨A8, c8, rfl, _⟩ := hown8.form; have HR8 := Lib.hid (HR7.out.grown hg8 hown8); have h0' := HR8.out.bk.cell 0; simp only [List.getElem?_cons_zero] at h0'; clear hown8 hg8; have HL8 := Lib.hid (show (L7 ++ bs p).length ≤ 218 + ss.length * 4 + k * 515 by have := HL7.out; rw [List.length_append, length_bs]; omega); generalize hE8 : L7 ++ bs p = L8 at *; have HE8 := Lib.hid hE8; clear hE8))
          have h1'' := HR8.out.bk.cell 1
          simp only [List.getElem?_cons_zero, List.getElem?_cons_succ] at h1''
          have hw8 := HR8.out.bel.size
          clear HR HR7 h0 h1' h0' HB0
          go_upto_region 15 with fail
          go_region_held3 (fun w' => w'.cell? ⟨g, 1, none⟩ = some (.string d)) (first | exact h1'' | go_simp) (first | (go_at_call 15; (refine (put_row (HR8.out.below (by repeat (first | with_reducible exact Below.refl _ _ | with_reducible assumption | with_reducible exact below_d1 _ _ _ _ _ | with_reducible exact below_d2 _ _ _ _ _ _ _ _ | with_reducible exact below_d3 _ _ _ _ _ | with_reducible exact below_d4 _ _ _ _ _ _ _ _ | with_reducible exact below_d5 _ _ | with_reducible refine Below.drew ?_ | with_reducible refine Below.drewN' ?_ _ | with_reducible refine below_grow0 _ _ ?_ | with_reducible refine below_alloc0 _ ?_ | with_reducible refine Below.setCell ?_ ?_ _ | with_reducible refine Below.alloc ?_ ?_ _ | with_reducible refine Below.grow _ _ _ ?_ ?_ | omega | (simp; done) | (simp; omega)))) d.size 2 (by omega) (by omega) (by have := HL8.out; omega)).mono ?_); rintro e w9 ⟨A9, c9, rfl, hr9⟩; have HR9 := Lib.hid hr9; have h1'' := hr9.bk.cell 1; simp only [List.getElem?_cons_zero, List.getElem?_cons_succ] at h1''; clear hr9; have HL9 := Lib.hid (show (L8 ++ be 2 d.size).length ≤ 220 + ss.length * 4 + k * 515 by have := HL8.out; rw [List.length_append, be_length]; omega); generalize hE9 : L8 ++ be 2 d.size = L9 at *; have HE9 := Lib.hid hE9; clear hE9) | (refine step_apps _ rfl (.tmp 60) (.tmp 62) _ _ rfl elByte rfl Tryd.underlying9 (B := W1.heap.size) (v := .slice A9 L9.length c9) (l := L9) d rfl rfl (by exact HR9.out.ow.below ((by repeat (first | with_reducible exact Below.refl _ _ | with_reducible assumption | with_reducible exact below_d1 _ _ _ _ _ | with_reducible exact below_d2 _ _ _ _ _ _ _ _ | with_reducible exact below_d3 _ _ _ _ _ | with_reducible exact below_d4 _ _ _ _ _ _ _ _ | with_reducible exact below_d5 _ _ | with_reducible refine Below.drew ?_ | with_reducible refine Below.drewN' ?_ _ | with_reducible refine below_grow0 _ _ ?_ | with_reducible refine below_alloc0 _ ?_ | with_reducible refine Below.setCell ?_ ?_ _ | with_reducible refine Below.alloc ?_ ?_ _ | with_reducible refine Below.grow _ _ _ ?_ ?_ | omega | (simp; done) | (simp; omega))))) (by have := HL9.out; simp [maxLen] <;> omega) (by have := HL9.out; simp <;> omega) (by have := HR9.out.bel.size; simp <;> omega) ?_; intro v11 w11 hown11 hg11; obtain ⟨A11, c11, rfl, _⟩ := hown11.form; have HR11 := Lib.hid (RowAt.grown (HR9.out.below ((by repeat (first | with_reducible exact Below.refl _ _ | with_reducible assumption | with_reducible exact below_d1 _ _ _ _ _ | with_reducible exact below_d2 _ _ _ _ _ _ _ _ | with_reducible exact below_d3 _ _ _ _ _ | with_reducible exact below_d4 _ _ _ _ _ _ _ _ | with_reducible exact below_d5 _ _ | with_reducible refine Below.drew ?_ | with_reducible refine Below.drewN' ?_ _ | with_reducible refine below_grow0 _ _ ?_ | with_reducible refine below_alloc0 _ ?_ | with_reducible refine Below.setCell ?_ ?_ _ | with_reducible refine Below.alloc ?_ ?_ _ | with_reducible refine Below.grow _ _ _ ?_ ?_ | omega | (simp; done) | (simp; omega))))) hg11 hown11); have h1'' := HR11.out.bk.cell 1; simp only [List.getElem?_cons_zero, List.getElem?_cons_succ] at h1''; clear hown11 hg11; have HL11 := Lib.hid (show (L9 ++ bs d).length ≤ 476 + ss.length * 4 + k * 515 by have := HL9.out; rw [List.length_append, length_bs]; omega); generalize hE11 : L9 ++ bs d = L11 at *; have HE11 := Lib.hid hE11; clear hE11))
          clear HR8 HR9 h1'' 
          go_upto_region 16 with fail
          go_wp2_with (go_at_call 16; (refine (numbers_is g 2 _).mono ?_); rintro e w12 ⟨gp, rfl, hgp, hbp, hb12⟩; have HR12 := Lib.hid (HR11.out.below hb12); have HP12 := Lib.hid hbp; clear hb12 hbp hgp HR11)
          have HNN := Lib.hid (show ∀ y ∈ [q2, q3, q4, q5, q6, q7, q8], 0 ≤ y ∧ y < 9223372036854775808 by
            have h := HNB.out
            intro y hy
            simp only [List.mem_cons, List.not_mem_nil, or_false] at hy
            rcases hy with rfl | rfl | rfl | rfl | rfl | rfl | rfl <;> omega)
          go_loopw [4, 67] (fun bv i wr => ∃ (j : Nat) (L : List UInt8) (A : Option Addr) (c : Nat), j ≤ 7 ∧ i = .int .i64 j ∧ bv = .slice A L.length c ∧ Hid (L = L11 ++ ([q2, q3, q4, q5, q6, q7, q8].take j).flatMap (fun s => be 8 s.toNat)) ∧ Hid (RowAt W1 g [.string p, .string d, .int .i64 q2, .int .i64 q3, .int .i64 q4, .int .i64 q5, .int .i64 q6, .int .i64 q7, .int .i64 q8] wr (.slice A L.length c) L) ∧ Hid (Bk wr gp (ptrs g 2) 49)) (fun _ i _ => 7 - (intOf i).toNat)
          case atStart => exact ⟨0, L11, A11, c11, by omega, rfl, rfl, Lib.hid (by simp), HR12, HP12⟩
          case round =>
            obtain ⟨j, L15, A15, c15, hj, rfl, rfl, hL15, hr15, hp15⟩ := hrel
            have HL15 : Hid (L15.length ≤ 476 + ss.length * 4 + k * 515 + j * 8) := Lib.hid (by
              have := HL11.out
              rw [hL15.out, List.length_append, be8_len, List.length_take]
              omega)
            by_cases hlt7 : j < 7
            · have hx : [q2, q3, q4, q5, q6, q7, q8][j]? = some ([q2, q3, q4, q5, q6, q7, q8][j]'(by simpa using hlt7)) := List.getElem?_eq_getElem _
              have hyy := HNN.out _ (List.mem_of_getElem? hx)
              have hcell := hr15.out.bk.cell (2 + j)
              rw [nums_at hx] at hcell
              have hst := Lib.hid (take_be8 hx)
              generalize [q2, q3, q4, q5, q6, q7, q8][j]'(by simpa using hlt7) = y at *
              obtain ⟨yn, rfl⟩ := Int.eq_ofNat_of_zero_le hyy.1
              simp only [Int.toNat_natCast] at hst
              have hpc := hp15.out.cell j
              rw [ptrs_at g 2 j hlt7] at hpc
              clear hx
              go_wp2_with (go_at_call 15; (refine (put_row2 hr15.out hp15.out yn 8 (by omega) (by omega) (by have := HL15.out; omega)).mono ?_); rintro e w16 ⟨A16, c16, rfl, hr16, hp16⟩; have HR16 := Lib.hid hr16; have HP16 := Lib.hid hp16; clear hr16 hp16)
              go_roundw
              case rel => exact ⟨j + 1, L15 ++ be 8 yn, A16, c16, by omega, by go_num, by simp, Lib.hid (by rw [hst.out, hL15.out, List.append_assoc]), HR16, HP16⟩
              case measure => simp [intOf]; omega
            · obtain rfl : j = 7 := by omega
              clear hlt7 hj
              go_wp2_with fail
              go_roundw
              case rel =>
                refine ⟨k + 1, L15, A15, c15, by omega, by go_num, rfl, Lib.hid ?_, Lib.hid hr15.out.bel, Lib.hid hr15.out.ow⟩
                rw [hnt.out, hL15.out, ← HE11.out, ← HE9.out, ← HE8.out, ← HE7.out, hL13.out]
                simp [nodeBy, statBy, List.append_assoc]
              case measure => simp [intOf]; omega
        · obtain rfl : k = l.length := by omega
          clear hlt hk HO10 HB10
          have hbody := Lib.hid (show L13 = bodyBy ⟨z, l, ss⟩ by
            rw [hL13.out, List.take_length, ← HE10.out, hL5'.out, ← HE4.out, ← HE3.out]
            simp [bodyBy, List.append_assoc])
          clear hL13
          have hrow := run_row_text (P := Tryd.prog) (src := 40) (dst := 9) ho13.out Tryd.underlying40 Tryd.underlying5 Tryd.underlying9
          have hS13 : (⟨L13.toArray⟩ : ByteArray).size = L13.length := List.size_toArray
          have HS13 := Lib.hid hS13
          have HT13 := Lib.hid (show bs (⟨L13.toArray⟩ : ByteArray) = L13 from rfl)
          generalize (⟨L13.toArray⟩ : ByteArray) = S13 at *
          have HSUM := Lib.hid (fun (s : ByteArray) (w : World) (h : s.size ≤ 9223372036854775807) => show Calls Tryd.prog 17 #[.string s] w fun e w' => ∃ n : Nat, e = .returned (.int .i64 n) ∧ n < 4294967296 ∧ Hid (sumN (bs s) = n) ∧ w = w' from (sum_any s w h).mono fun e w' h => ⟨_, h.1, (show sumN (bs s) < 4294967296 by unfold sumN; omega), Lib.hid rfl, h.2⟩)
          have P20 := Lib.hid (put_big W1)
          go_wp2_with (first | (go_at_call 17; go_must (refine (HSUM.out S13 _ (by rw [HS13.out]; have := HL13.out; omega)).mono ?_); rintro e w13 ⟨sm, rfl, hsm, HSM, rfl⟩) | (go_at_call 15; (refine (P20.out _ L13 sm 4 _ hbel.out ho13.out (by omega) (by omega) (by have := HL13.out; omega)).mono ?_); rintro e w20 ⟨A20, c20, rfl, ho20, hb20⟩; have HB20 := Lib.hid hb20; generalize hE20 : L13 ++ be 4 sm = L20 at *; have HE20 := Lib.hid hE20; clear hE20; have hrow20 := run_row_text (P := Tryd.prog) (src := 40) (dst := 9) ho20 Tryd.underlying40 Tryd.underlying5 Tryd.underlying9; clear ho20 hb20))
          go_ret2
          refine ⟨?_, ?_⟩
          · have e : snapBy ⟨z, l, ss⟩ = L20 := by
              unfold snapBy
              rw [← HE20.out, ← hbody.out, ← HSM.out, HT13.out]
            rw [e]
            rfl
          · rw [HBE.out]
            exact HB1.out.trans (HB20.out.mono (by have := HB1.out.size; have := HBE.out; omega))
end Go.Proofs.YtfoglgeiipafeaaDoor

/- package snap: a slice of one node is built. -/
namespace Go.Proofs.YtfoglgeiipafeaaDoor
open Go.RowKit Go.ChangeShapes Go.WideShapes Go.ChangeAt
theorem wp_bnode {o : Oper} {a : Act} {K : Act → World → Prop} {Q : Exit → Act → World → Prop} (w : World) (x : Operand) {r : Nat} (hd : o.dst = some r) (ho : o.op = .buildSlice 22 1 #[(0, x)]) (p d : ByteArray) (y0 y1 y2 y3 y4 y5 y6 : Int)
    (hx : a.eval x = .agg #[.string p, .string d, .int .i64 y0, .int .i64 y1, .int .i64 y2, .int .i64 y3, .int .i64 y4, .int .i64 y5, .int .i64 y6])
    (h : K { tmps := a.tmps.setIfInBounds r (.slice (some ⟨w.heap.size, 0, none⟩) 1 1), defers := a.defers } (w.alloc (.cells #[.string p, .string d, .int .i64 y0, .int .i64 y1, .int .i64 y2, .int .i64 y3, .int .i64 y4, .int .i64 y5, .int .i64 y6] 45))) : o.wp Tryd.prog a w K Q := by
  unfold Oper.wp execOp
  simp only [ho, Sem.run_bind, Sem.run_pure, List.map_toArray, List.map_cons, List.map_nil, hx]
  go_simp
  exact h
end Go.Proofs.YtfoglgeiipafeaaDoor

/- package snap: Read. -/
namespace Go.Proofs.YtfoglgeiipafeaaDoor
open Go.RowKit Go.ChangeShapes Go.WideShapes Go.ChangeAt
/-- what Read answers, as a tree in memory -/
def ReadRes (W1 : World) (r : Tr × Int) (e : Ending) (w' : World) : Prop :=
  ∃ vn vs, e = .returned (.tuple #[.agg #[.int .i64 r.1.zxid, vn, vs], .int .i64 r.2]) ∧ Sl cNode 9 w' vn r.1.nodes ∧ Sl cInt 1 w' vs r.1.sess ∧ Below W1.heap.size W1 w'
theorem readRes_zero {W1 w' : World} {x : Int} (h : Below W1.heap.size W1 w') : ReadRes W1 (tr0, x) (.returned (.tuple #[.agg #[.int .i64 0, .slice none 0 0, .slice none 0 0], .int .i64 x])) w' :=
  ⟨_, _, rfl, Sl.nil _ _ _, Sl.nil _ _ _, h⟩
set_option maxHeartbeats 1000000 in
theorem trRead_a (s : ByteArray) (w : World) (hs : s.size < 5) :
    Calls Tryd.prog 11 #[.string s] w (ReadRes w (tr0, 2)) := by
  have hi : (decide ((s.size : Int) < 5)) = true := decide_eq_true (by omega)
  go_enter Tryd.func11, Tryd.ntmps11
  go_wp2_with fail
  refine bodyPost_ret (v := .tuple #[.agg #[.int .i64 0, .slice none 0 0, .slice none 0 0], .int .i64 2]) (by simp [results, Tryd.results11, go_sem]) rfl (readRes_zero (by repeat (first | with_reducible exact Below.refl _ _ | with_reducible assumption | with_reducible exact below_d1 _ _ _ _ _ | with_reducible exact below_d2 _ _ _ _ _ _ _ _ | with_reducible exact below_d3 _ _ _ _ _ | with_reducible exact below_d4 _ _ _ _ _ _ _ _ | with_reducible exact below_d5 _ _ | with_reducible refine Below.drew ?_ | with_reducible refine Below.drewN' ?_ _ | with_reducible refine below_grow0 _ _ ?_ | with_reducible refine below_alloc0 _ ?_ | with_reducible refine Below.setCell ?_ ?_ _ | with_reducible refine Below.alloc ?_ ?_ _ | with_reducible refine Below.grow _ _ _ ?_ ?_ | omega | (simp; done) | (simp; omega))))
set_option maxHeartbeats 1000000 in
theorem trRead_b (s : ByteArray) (w : World) (hs : 5 ≤ s.size) (hne : s.data[0]'(by have : s.data.size = s.size := rfl; omega) ≠ 83) :
    Calls Tryd.prog 11 #[.string s] w (ReadRes w (tr0, 2)) := by
  have hi : (decide ((s.size : Int) < 5)) = false := decide_eq_false (by omega)
  have hc : (((s[0]'(by omega)).toNat : Int) != 83) = true := by
    refine bne_iff_ne.2 (fun h => hne ?_)
    have : (s.data[0]'(by have : s.data.size = s.size := rfl; omega)).toNat = 83 := by exact_mod_cast h
    exact UInt8.toNat_inj.1 this
  clear hne
  go_enter Tryd.func11, Tryd.ntmps11
  go_wp2_with fail
  refine bodyPost_ret (v := .tuple #[.agg #[.int .i64 0, .slice none 0 0, .slice none 0 0], .int .i64 2]) (by simp [results, Tryd.results11, go_sem]) rfl (readRes_zero (by repeat (first | with_reducible exact Below.refl _ _ | with_reducible assumption | with_reducible exact below_d1 _ _ _ _ _ | with_reducible exact below_d2 _ _ _ _ _ _ _ _ | with_reducible exact below_d3 _ _ _ _ _ | with_reducible exact below_d4 _ _ _ _ _ _ _ _ | with_reducible exact below_d5 _ _ | with_reducible refine Below.drew ?_ | with_reducible refine Below.drewN' ?_ _ | with_reducible refine below_grow0 _ _ ?_ | with_reducible refine below_alloc0 _ ?_ | with_reducible refine Below.setCell ?_ ?_ _ | with_reducible refine Below.alloc ?_ ?_ _ | with_reducible refine Below.grow _ _ _ ?_ ?_ | omega | (simp; done) | (simp; omega))))
set_option maxHeartbeats 1000000 in
theorem trRead_c (s : ByteArray) (m : Nat) (w : World) (hm : s.size = m + 4) (hm1 : 1 ≤ m) (hs : s.size ≤ 4611686018427387904) (h83 : s.data[0]'(by have : s.data.size = s.size := rfl; omega) = 83) (hq : (((sumN (bs (s.extract 0 m)) : Nat) : Int) != valI (bs (takeT (s.extract m s.size) false 4))) = true) :
    Calls Tryd.prog 11 #[.string s] w (ReadRes w (tr0, 5)) := by
  have hi : (decide ((s.size : Int) < 5)) = false := decide_eq_false (by omega)
  have hwr : wrap64 ((s.size : Int) - 4) = ((m : Nat) : Int) := by unfold wrap64; omega
  have h5 : 0 < s.size := by omega
  have hc : (((s[0]'h5).toNat : Int) != 83) = false := by
    have : (s[0]'h5) = 83 := h83
    rw [this]; rfl
  clear h83
  have hm2 : m ≤ s.size := by omega
  have HZ2 : Hid ((s.extract m s.size).size ≤ 4611686018427387904) := Lib.hid (by rw [ByteArray.size_extract]; omega)
  have HZ : Hid ((s.extract 0 m).size ≤ 9223372036854775807) := Lib.hid (by rw [ByteArray.size_extract]; omega)
  have HQ := Lib.hid hq
  clear hq hm hs
  go_enter Tryd.func11, Tryd.ntmps11
  go_upto_region 5 with fail
  generalize s.extract 0 m = B0 at *
  generalize s.extract m s.size = T0 at *
  refine gen_w (fun W1 hW1 => ?_)
  have hb1 : Below w.heap.size w W1 := by rw [hW1.out]; exact (by repeat (first | with_reducible exact Below.refl _ _ | with_reducible assumption | with_reducible exact below_d1 _ _ _ _ _ | with_reducible exact below_d2 _ _ _ _ _ _ _ _ | with_reducible exact below_d3 _ _ _ _ _ | with_reducible exact below_d4 _ _ _ _ _ _ _ _ | with_reducible exact below_d5 _ _ | with_reducible refine Below.drew ?_ | with_reducible refine Below.drewN' ?_ _ | with_reducible refine below_grow0 _ _ ?_ | with_reducible refine below_alloc0 _ ?_ | with_reducible refine Below.setCell ?_ ?_ _ | with_reducible refine Below.alloc ?_ ?_ _ | with_reducible refine Below.grow _ _ _ ?_ ?_ | omega | (simp; done) | (simp; omega)))
  have HR : Hid (Bk W1 w.heap.size [.int .i64 0, .slice none 0 0, .slice none 0 0] 25) := Lib.hid (by rw [hW1.out]; exact Bk.below (Bk.new _ _ _ rfl) (by repeat (first | with_reducible exact Below.refl _ _ | with_reducible assumption | with_reducible exact below_d1 _ _ _ _ _ | with_reducible exact below_d2 _ _ _ _ _ _ _ _ | with_reducible exact below_d3 _ _ _ _ _ | with_reducible exact below_d4 _ _ _ _ _ _ _ _ | with_reducible exact below_d5 _ _ | with_reducible refine Below.drew ?_ | with_reducible refine Below.drewN' ?_ _ | with_reducible refine below_grow0 _ _ ?_ | with_reducible refine below_alloc0 _ ?_ | with_reducible refine Below.setCell ?_ ?_ _ | with_reducible refine Below.alloc ?_ ?_ _ | with_reducible refine Below.grow _ _ _ ?_ ?_ | omega | (simp; done) | (simp; omega))))
  have HT : Hid (Rdr W1 (w.heap.size + 1) T0 false) := Lib.hid (by rw [hW1.out]; exact Bk.new _ _ _ (by simp))
  have HB := Lib.hid hb1
  clear hb1 hW1
  have HSM : Hid (∃ n, n = sumN (bs B0)) := Lib.hid ⟨_, rfl⟩
  go_wp2_with (first | (go_at_call 17; (refine (sum_any B0 _ HZ.out).mono ?_); rintro e w2 ⟨rfl, rfl⟩) | (go_at_call 24; (refine (snum_any (w.heap.size + 1) T0 false 4 _ HT.out (by omega) HZ2.out).mono ?_); rintro e w3 ⟨rfl, hr3, hg3⟩; have HR3 := Lib.hid (HR.out.grown hg3 (by simp)); have h30 := HR3.out.cell 0; have h31 := HR3.out.cell 1; have h32 := HR3.out.cell 2; have h3z := HR3.out.frozen 0; have h3y := HR3.out.frozen 1; have h3x := HR3.out.frozen 2; simp only [List.getElem?_cons_zero, List.getElem?_cons_succ] at h30 h31 h32; have HB3 := Lib.hid (HB.out.grown hg3 HB.out.size (fun k hk => by injection hk with hk; omega)); have hqq := HQ.out; clear hr3 hg3))
  refine gen_e (fun W9 hW9 => ?_)
  have HP9 : Hid (Bk W9 w.heap.size [.int .i64 0, .slice none 0 0, .slice none 0 0] 25) := Lib.hid (by rw [hW9.out]; exact ((Bk.put (Bk.put (Bk.put HR3.out 0 (.int .i64 0)) 1 (.slice none 0 0)) 2 (.slice none 0 0))))
  have hb9 : Below w.heap.size w W9 := by
    rw [hW9.out]
    have hb := HB3.out
    (repeat (first | with_reducible exact Below.refl _ _ | with_reducible assumption | with_reducible exact below_d1 _ _ _ _ _ | with_reducible exact below_d2 _ _ _ _ _ _ _ _ | with_reducible exact below_d3 _ _ _ _ _ | with_reducible exact below_d4 _ _ _ _ _ _ _ _ | with_reducible exact below_d5 _ _ | with_reducible refine Below.drew ?_ | with_reducible refine Below.drewN' ?_ _ | with_reducible refine below_grow0 _ _ ?_ | with_reducible refine below_alloc0 _ ?_ | with_reducible refine Below.setCell ?_ ?_ _ | with_reducible refine Below.alloc ?_ ?_ _ | with_reducible refine Below.grow _ _ _ ?_ ?_ | omega | (simp; done) | (simp; omega)))
    all_goals exact Nat.le_refl _
  have p0 : W9.cell? ⟨w.heap.size, 0, none⟩ = some (.int .i64 0) := HP9.out.cell 0
  have p1 : W9.cell? ⟨w.heap.size, 1, none⟩ = some (.slice none 0 0) := HP9.out.cell 1
  have p2 : W9.cell? ⟨w.heap.size, 2, none⟩ = some (.slice none 0 0) := HP9.out.cell 2
  refine bodyPost_ret (v := .tuple #[.agg #[.int .i64 0, .slice none 0 0, .slice none 0 0], .int .i64 5]) (by simp [results, Tryd.results11, go_sem, p0, p1, p2]) rfl (readRes_zero hb9)
theorem meas1 {k : Nat} (h : wrap64 (k : Int) = k) : (intOf (.int .i64 (wrap64 (k : Int)))).toNat < (intOf (.int .i64 ((k + 1 : Nat) : Int))).toNat := by
  rw [h]
  simp [intOf]
theorem meas7 {j : Nat} (h : j < 7) : 7 - (intOf (.int .i64 ((j : Int) + 1))).toNat < 7 - (intOf (.int .i64 (j : Int))).toNat := by
  simp [intOf]
  omega
set_option maxHeartbeats 1000000 in
theorem trRead_d (s : ByteArray) (m : Nat) (w : World) (hm : s.size = m + 4) (hm1 : 1 ≤ m) (hs : s.size ≤ 4611686018427387904) (h83 : s.data[0]'(by have : s.data.size = s.size := rfl; omega) = 83) (hq : (((sumN (bs (s.extract 0 m)) : Nat) : Int) != valI (bs (takeT (s.extract m s.size) false 4))) = false) :
    Calls Tryd.prog 11 #[.string s] w (ReadRes w (read0 ((s.extract 0 m).extract 1 (s.extract 0 m).size))) := by
  have hi : (decide ((s.size : Int) < 5)) = false := decide_eq_false (by omega)
  have hwr : wrap64 ((s.size : Int) - 4) = ((m : Nat) : Int) := by unfold wrap64; omega
  have h5 : 0 < s.size := by omega
  have hc : (((s[0]'h5).toNat : Int) != 83) = false := by
    have : (s[0]'h5) = 83 := h83
    rw [this]; rfl
  clear h83
  have hm2 : m ≤ s.size := by omega
  have HZ2 : Hid ((s.extract m s.size).size ≤ 4611686018427387904) := Lib.hid (by rw [ByteArray.size_extract]; omega)
  have hBz : 1 ≤ (s.extract 0 m).size := by rw [ByteArray.size_extract]; omega
  have HZ : Hid ((s.extract 0 m).size ≤ 4611686018427387904) := Lib.hid (by rw [ByteArray.size_extract]; omega)
  have HQ := Lib.hid hq
  clear hq hm hs
  go_enter Tryd.func11, Tryd.ntmps11
  go_upto_region 5 with fail
  generalize s.extract 0 m = B0 at *
  generalize s.extract m s.size = T0 at *
  refine gen_w (fun W1 hW1 => ?_)
  have hb1 : Below w.heap.size w W1 := by rw [hW1.out]; exact (by repeat (first | with_reducible exact Below.refl _ _ | with_reducible assumption | with_reducible exact below_d1 _ _ _ _ _ | with_reducible exact below_d2 _ _ _ _ _ _ _ _ | with_reducible exact below_d3 _ _ _ _ _ | with_reducible exact below_d4 _ _ _ _ _ _ _ _ | with_reducible exact below_d5 _ _ | with_reducible refine Below.drew ?_ | with_reducible refine Below.drewN' ?_ _ | with_reducible refine below_grow0 _ _ ?_ | with_reducible refine below_alloc0 _ ?_ | with_reducible refine Below.setCell ?_ ?_ _ | with_reducible refine Below.alloc ?_ ?_ _ | with_reducible refine Below.grow _ _ _ ?_ ?_ | omega | (simp; done) | (simp; omega)))
  have HR : Hid (Bk W1 w.heap.size [.int .i64 0, .slice none 0 0, .slice none 0 0] 25) := Lib.hid (by rw [hW1.out]; exact Bk.below (Bk.new _ _ _ rfl) (by repeat (first | with_reducible exact Below.refl _ _ | with_reducible assumption | with_reducible exact below_d1 _ _ _ _ _ | with_reducible exact below_d2 _ _ _ _ _ _ _ _ | with_reducible exact below_d3 _ _ _ _ _ | with_reducible exact below_d4 _ _ _ _ _ _ _ _ | with_reducible exact below_d5 _ _ | with_reducible refine Below.drew ?_ | with_reducible refine Below.drewN' ?_ _ | with_reducible refine below_grow0 _ _ ?_ | with_reducible refine below_alloc0 _ ?_ | with_reducible refine Below.setCell ?_ ?_ _ | with_reducible refine Below.alloc ?_ ?_ _ | with_reducible refine Below.grow _ _ _ ?_ ?_ | omega | (simp; done) | (simp; omega))))
  have HT : Hid (Rdr W1 (w.heap.size + 1) T0 false) := Lib.hid (by rw [hW1.out]; exact Bk.new _ _ _ (by simp))
  have HB := Lib.hid hb1
  clear hb1 hW1
  go_upto_region 7 with (first | (go_at_call 17; (refine (sum_any B0 _ (by have := HZ.out; omega)).mono ?_); rintro e w2 ⟨rfl, rfl⟩) | (go_at_call 24; (refine (snum_any (w.heap.size + 1) T0 false 4 _ HT.out (by omega) HZ2.out).mono ?_); rintro e w3 ⟨rfl, hr3, hg3⟩; have HR3 := Lib.hid (HR.out.grown hg3 (by simp)); have HB3 := Lib.hid (HB.out.grown hg3 HB.out.size (fun k hk => by injection hk with hk; omega)); have hqq := HQ.out; clear hr3 hg3))
  clear HT HR HB hqq HQ
  have HRZ : Hid ((B0.extract 1 B0.size).size ≤ 4611686018427387904) := Lib.hid (by have := HZ.out; rw [ByteArray.size_extract]; omega)
  go_upto_region 8 with fail
  generalize B0.extract 1 B0.size = R0 at *
  go_upto_region 9 with (go_at_call 24; (refine (snum_any w3.heap.size R0 false 8 _ (by exact Bk.new _ _ _ rfl) (by omega) HRZ.out).mono ?_); rintro e w4 ⟨rfl, hr4, hg4⟩; have HD4 := Lib.hid hr4; have HG4 := Lib.hid hg4; clear hr4 hg4)
  have HE : Hid (read0 R0 = read1 (valI (bs (takeT R0 false 8))) (restT R0 false 8) (badT R0 false 8)) := Lib.hid rfl
  refine gen_w (fun W2 hW2 => ?_)
  have HRD : Hid (Rd w w.heap.size w3.heap.size w4.heap.size (valI (bs (takeT R0 false 8))) W2 (restT R0 false 8) (badT R0 false 8) (.slice none 0 0) (.slice none 0 0) [] []) := by
    have h1 := HR3.out.lt
    have h2 := HG4.out.size
    have h3 := HB3.out.size
    simp only [World.alloc, Array.size_push] at h2
    have hR4 := Bk.grown (Bk.below HR3.out (w' := w3.alloc (.cells #[.string R0, .bool false] 60)) (by repeat (first | with_reducible exact Below.refl _ _ | with_reducible assumption | with_reducible exact below_d1 _ _ _ _ _ | with_reducible exact below_d2 _ _ _ _ _ _ _ _ | with_reducible exact below_d3 _ _ _ _ _ | with_reducible exact below_d4 _ _ _ _ _ _ _ _ | with_reducible exact below_d5 _ _ | with_reducible refine Below.drew ?_ | with_reducible refine Below.drewN' ?_ _ | with_reducible refine below_grow0 _ _ ?_ | with_reducible refine below_alloc0 _ ?_ | with_reducible refine Below.setCell ?_ ?_ _ | with_reducible refine Below.alloc ?_ ?_ _ | with_reducible refine Below.grow _ _ _ ?_ ?_ | omega | (simp; done) | (simp; omega)))) HG4.out (by simp; omega)
    have hB4 := Below.grown (show Below w.heap.size w (w3.alloc (.cells #[.string R0, .bool false] 60)) from HB3.out.trans (Below.mono (show Below w3.heap.size w3 (w3.alloc (.cells #[.string R0, .bool false] 60)) from (by repeat (first | with_reducible exact Below.refl _ _ | with_reducible assumption | with_reducible exact below_d1 _ _ _ _ _ | with_reducible exact below_d2 _ _ _ _ _ _ _ _ | with_reducible exact below_d3 _ _ _ _ _ | with_reducible exact below_d4 _ _ _ _ _ _ _ _ | with_reducible exact below_d5 _ _ | with_reducible refine Below.drew ?_ | with_reducible refine Below.drewN' ?_ _ | with_reducible refine below_grow0 _ _ ?_ | with_reducible refine below_alloc0 _ ?_ | with_reducible refine Below.setCell ?_ ?_ _ | with_reducible refine Below.alloc ?_ ?_ _ | with_reducible refine Below.grow _ _ _ ?_ ?_ | omega | (simp; done) | (simp; omega)))) h3)) HG4.out (by simp; omega) (fun k hk => by injection hk with hk; omega)
    refine Lib.hid ⟨Nat.le_refl _, h3, by omega, by omega, ?_, ?_, ?_, ?_, Ow.nil _ _ _ _ _, Ow.nil _ _ _ _ _⟩
    · rw [hW2.out]; exact hB4.trans (Below.mono (show Below w4.heap.size w4 _ from (by repeat (first | with_reducible exact Below.refl _ _ | with_reducible assumption | with_reducible exact below_d1 _ _ _ _ _ | with_reducible exact below_d2 _ _ _ _ _ _ _ _ | with_reducible exact below_d3 _ _ _ _ _ | with_reducible exact below_d4 _ _ _ _ _ _ _ _ | with_reducible exact below_d5 _ _ | with_reducible refine Below.drew ?_ | with_reducible refine Below.drewN' ?_ _ | with_reducible refine below_grow0 _ _ ?_ | with_reducible refine below_alloc0 _ ?_ | with_reducible refine Below.setCell ?_ ?_ _ | with_reducible refine Below.alloc ?_ ?_ _ | with_reducible refine Below.grow _ _ _ ?_ ?_ | omega | (simp; done) | (simp; omega)))) (by omega))
    · rw [hW2.out]; exact hR4.below (by repeat (first | with_reducible exact Below.refl _ _ | with_reducible assumption | with_reducible exact below_d1 _ _ _ _ _ | with_reducible exact below_d2 _ _ _ _ _ _ _ _ | with_reducible exact below_d3 _ _ _ _ _ | with_reducible exact below_d4 _ _ _ _ _ _ _ _ | with_reducible exact below_d5 _ _ | with_reducible refine Below.drew ?_ | with_reducible refine Below.drewN' ?_ _ | with_reducible refine below_grow0 _ _ ?_ | with_reducible refine below_alloc0 _ ?_ | with_reducible refine Below.setCell ?_ ?_ _ | with_reducible refine Below.alloc ?_ ?_ _ | with_reducible refine Below.grow _ _ _ ?_ ?_ | omega | (simp; done) | (simp; omega)))
    · rw [hW2.out]; exact HD4.out.below (by repeat (first | with_reducible exact Below.refl _ _ | with_reducible assumption | with_reducible exact below_d1 _ _ _ _ _ | with_reducible exact below_d2 _ _ _ _ _ _ _ _ | with_reducible exact below_d3 _ _ _ _ _ | with_reducible exact below_d4 _ _ _ _ _ _ _ _ | with_reducible exact below_d5 _ _ | with_reducible refine Below.drew ?_ | with_reducible refine Below.drewN' ?_ _ | with_reducible refine below_grow0 _ _ ?_ | with_reducible refine below_alloc0 _ ?_ | with_reducible refine Below.setCell ?_ ?_ _ | with_reducible refine Below.alloc ?_ ?_ _ | with_reducible refine Below.grow _ _ _ ?_ ?_ | omega | (simp; done) | (simp; omega)))
    · rw [hW2.out]; exact Bk.new _ _ _ rfl
  have HS1 : Hid ((restT R0 false 8).size ≤ 4611686018427387904) := Lib.hid (Nat.le_trans (restT_size _ _ _) HRZ.out)
  clear hW2 HR3 HB3 HD4 HG4 HRZ
  generalize w3.heap.size = g at *
  generalize w4.heap.size = gt at *
  generalize valI (bs (takeT R0 false 8)) = z at *
  generalize restT R0 false 8 = S1 at *
  generalize badT R0 false 8 = b1 at *
  obtain ⟨n1, hn1, hn1b⟩ := valT S1 b1 4 (by omega)
  have HE1 : Hid (read0 R0 = read3 z ([] ++ sessS n1 (restT S1 b1 4) (badT S1 b1 4)) (sessR n1 (restT S1 b1 4) (badT S1 b1 4)).1 (sessR n1 (restT S1 b1 4) (badT S1 b1 4)).2) := Lib.hid (by rw [HE.out]; unfold read1; rw [hn1]; rfl)
  clear HE
  have HN1 := Lib.hid hn1
  clear hn1
  have HS2 : Hid ((restT S1 b1 4).size ≤ 4611686018427387904) := Lib.hid (Nat.le_trans (restT_size _ _ _) HS1.out)
  go_upto_block 0 with (go_at_call 24; (refine (snum_any g S1 b1 4 _ HRD.out.rd (by omega) HS1.out).mono ?_); rintro e w5 ⟨rfl, hr5, hg5⟩; rw [HN1.out]; have HR5 := Lib.hid (HRD.out.rdr hr5 hg5); clear hr5 hg5)
  clear HRD HS1 HN1
  generalize restT S1 b1 4 = S2 at *
  generalize badT S1 b1 4 = b2 at *
  go_cut [8] from 49 to 66 (fun s8 wx => ∃ (n : Nat) (vs : Value) (ss : List Int) (s9 : ByteArray) (b9 : Bool), s8 = .int .i64 n ∧ Hid (read0 R0 = read3 z ss s9 b9) ∧ Hid (s9.size ≤ 4611686018427387904) ∧ Hid (ss.length ≤ 4294967296) ∧ Hid (Rd w w.heap.size g gt z wx s9 b9 (.slice none 0 0) vs [] ss))
  case first =>
    as_aux_lemma =>
      go_wp2_with fail
      go_loopw [8] (fun i wr => ∃ (k : Nat) (vs : Value) (acc : List Int) (s9 : ByteArray) (b9 : Bool), i = .int .i64 k ∧ Hid (read0 R0 = read3 z (acc ++ sessS k s9 b9) (sessR k s9 b9).1 (sessR k s9 b9).2) ∧ Hid (s9.size ≤ 4611686018427387904) ∧ Hid (acc.length + k ≤ 4294967296) ∧ Hid (Rd w w.heap.size g gt z wr s9 b9 (.slice none 0 0) vs [] acc)) (fun i _ => (intOf i).toNat)
      case atStart => exact ⟨n1, .slice none 0 0, [], S2, b2, rfl, HE1, HS2, Lib.hid (by simp; omega), HR5⟩
      case round =>
        obtain ⟨k, vs, acc, s9, b9, rfl, hE, hS, hL, hR⟩ := hrel
        obtain ⟨cu0, cu1, cu2, cu3⟩ := hR.out.rd.cur
        have hglt : g < wr.heap.size := Bk.lt hR.out.rd
        by_cases hk : 0 < k
        · have hi1 : (decide ((0 : Int) < (k : Int))) = true := decide_eq_true (by omega)
          cases b9 with
          | true =>
            go_wp2_with fail
            go_meet
            case rel =>
              refine ⟨k, vs, acc, s9, true, rfl, Lib.hid ?_, hS, Lib.hid (by have := hL.out; omega), hR⟩
              obtain ⟨k', rfl⟩ : ∃ k', k = k' + 1 := ⟨k - 1, by omega⟩
              have := hE.out
              simpa [sessS, sessR] using this
          | false =>
            obtain ⟨k', rfl⟩ : ∃ k', k = k' + 1 := ⟨k - 1, by omega⟩
            have hE2 : Hid (read0 R0 = read3 z ((acc ++ [valI (bs (takeT s9 false 4))]) ++ sessS k' (restT s9 false 4) (badT s9 false 4)) (sessR k' (restT s9 false 4) (badT s9 false 4)).1 (sessR k' (restT s9 false 4) (badT s9 false 4)).2) := Lib.hid (by
              have := hE.out
              simpa [sessS, sessR] using this)
            have hS2 : Hid ((restT s9 false 4).size ≤ 4611686018427387904) := Lib.hid (Nat.le_trans (restT_size _ _ _) hS.out)
            clear hE
            have hx2 : wr.cell? ⟨gt, 2, none⟩ = some vs := hR.out.box.cell 2
            have hwk : wrap64 (k' : Int) = (k' : Int) := by have := hL.out; unfold wrap64; omega
            go_upto_region 12 with fail
            refine wp_region_noPanic ?_
            refine wp_region_W (by kernel_rfl) (fun W hW => ?_)
            have cl0 : W.cell? ⟨gt, 2, none⟩ = some (vs) := by rw [hW.out]; go_simp
            have HRW : Hid (Rd w w.heap.size g gt z W s9 false (.slice none 0 0) vs [] acc) := Lib.hid (by rw [hW.out]; exact hR.out.below (by repeat (first | with_reducible exact Below.refl _ _ | with_reducible assumption | with_reducible exact below_d1 _ _ _ _ _ | with_reducible exact below_d2 _ _ _ _ _ _ _ _ | with_reducible exact below_d3 _ _ _ _ _ | with_reducible exact below_d4 _ _ _ _ _ _ _ _ | with_reducible exact below_d5 _ _ | with_reducible refine Below.drew ?_ | with_reducible refine Below.drewN' ?_ _ | with_reducible refine below_grow0 _ _ ?_ | with_reducible refine below_alloc0 _ ?_ | with_reducible refine Below.setCell ?_ ?_ _ | with_reducible refine Below.alloc ?_ ?_ _ | with_reducible refine Below.grow _ _ _ ?_ ?_ | omega | (simp; done) | (simp; omega))))
            refine wpAny_S (fun w' => w'.cell? ⟨gt, 2, none⟩ = some (vs)) (fun i => i == 7) (by (try dsimp only); go_simp) (fun hHeld => ?_)
            (refine wpE_takeP (i := 0) (v := ?gV1_1) (by simp only [List.getElem?_toArray]; rfl) (by kernel_rfl) (by kernel_rfl) (by kernel_rfl) (by rfl) (fun _ _ _ h => h) (Or.inl ⟨by rfl, ?gY1_1⟩) (by assumption) ?gR1_1; case gY1_1 => (intro w hSw; (try dsimp only at hSw); go_simp <;> with_reducible rfl))
            try simp only [Act.put, List.setIfInBounds_toArray, List.set_cons_zero, List.set_cons_succ]
            (refine wpE_take (i := 1) (v := ?gV1_2) (by simp only [List.getElem?_toArray]; rfl) (by kernel_rfl) (by kernel_rfl) (by kernel_rfl) (by kernel_rfl) (by kernel_rfl) (by rfl) (fun _ _ _ h => h) (Or.inl ⟨by rfl, ?gY1_2⟩) (by assumption) ?gR1_2; case gY1_2 => (intro w hSw; (try dsimp only at hSw); go_simp <;> with_reducible rfl))
            try simp only [Act.put, List.setIfInBounds_toArray, List.set_cons_zero, List.set_cons_succ]
            (refine wpE_takeP (i := 2) (v := ?gV1_3) (by simp only [List.getElem?_toArray]; rfl) (by kernel_rfl) (by kernel_rfl) (by kernel_rfl) (by rfl) (fun _ _ _ h => h) (Or.inl ⟨by rfl, ?gY1_3⟩) (by assumption) ?gR1_3; case gY1_3 => (intro w hSw; (try dsimp only at hSw); go_simp <;> with_reducible rfl))
            try simp only [Act.put, List.setIfInBounds_toArray, List.set_cons_zero, List.set_cons_succ]
            refine wpE_ready (rs := [3]) (by kernel_rfl) (by simp) ?_
            refine AllE.cons (by simp only [List.getElem?_toArray]; rfl) (fun K hK => ?_) AllE.nil
            go_simp
            (go_at_call 24; (refine (snum_any g s9 false 4 _ HRW.out.rd (by omega) hS.out).mono ?_); rintro e w6 ⟨rfl, hr6, hg6⟩; have HR6 := Lib.hid (HRW.out.rdr hr6 hg6); have q2 : w6.cell? ⟨gt, 2, none⟩ = some vs := HR6.out.box.cell 2; generalize valI (bs (takeT s9 false 4)) = y at *; clear hr6 hg6)
            refine hK.out _ _ ?gT1_4 (fun hHeld => ?_)
            case gT1_4 => ((try dsimp only); go_simp)
            clear hK K
            try simp only [Act.put, List.setIfInBounds_toArray, List.set_cons_zero, List.set_cons_succ]
            refine wpE_ready (rs := [4]) (by kernel_rfl) (by simp) ?_
            refine AllE.cons (by simp only [List.getElem?_toArray]; rfl) (fun K hK => ?_) AllE.nil
            go_simp
            (refine build_one (n := w6.heap.size) (by rfl) w.heap.size HR6.out.bel.size cInt 1 y rfl rfl (fun w7 hB7 hbB7 => ?_); have HB7 := Lib.hid hB7; have HR7 := Lib.hid (HR6.out.below hbB7); have q2 : w7.cell? ⟨gt, 2, none⟩ = some vs := HR7.out.box.cell 2; clear hB7 hbB7)
            refine hK.out _ _ ?gT1_5 (fun hHeld => ?_)
            case gT1_5 => ((try dsimp only); go_simp)
            clear hK K
            try simp only [Act.put, List.setIfInBounds_toArray, List.set_cons_zero, List.set_cons_succ]
            refine wpE_ready (rs := [5]) (by kernel_rfl) (by simp) ?_
            refine AllE.cons (by simp only [List.getElem?_toArray]; rfl) (fun K hK => ?_) AllE.nil
            (refine stepE_app (by rfl) (.tmp 61) (.tmp 64) _ rfl elInt (B := w.heap.size) (v := vs) (l := acc) (m := [y]) rfl rfl HR7.out.ses HB7.out.sl cInt_one (by have := hL.out; simp [maxLen] <;> omega) (by have := hL.out; simp <;> omega) HR7.out.bel.size ?_; intro v8 w8 hown8 hg8 _; have HL8 := Lib.hid (show (acc ++ [y]).length + k' ≤ 4294967296 by have := hL.out; simp; omega); generalize acc ++ [y] = acc8 at *; obtain ⟨A8, c8, rfl, _⟩ := hown8.form; have HO8 := Lib.hid hown8; have HG8 := Lib.hid hg8; have HX8 := Lib.hid (HR7.out.box.grown hg8 (fun e => ow_type HR7.out.ses HR7.out.box (by decide) e.symm)); have q2 : w8.cell? ⟨gt, 2, none⟩ = some vs := HX8.out.cell 2; have q2f : w8.frozen? ⟨gt, 2, none⟩ = false := HX8.out.frozen 2; clear hown8 hg8)
            refine hK.out _ _ ?gT1_6 (fun hHeld => ?_)
            case gT1_6 => ((try dsimp only); go_simp)
            clear hK K
            try simp only [Act.put, List.setIfInBounds_toArray, List.set_cons_zero, List.set_cons_succ]
            (refine wpE_takeP (i := 6) (v := ?gV1_7) (by simp only [List.getElem?_toArray]; rfl) (by kernel_rfl) (by kernel_rfl) (by kernel_rfl) (by rfl) (fun _ _ _ h => h) (Or.inl ⟨by rfl, ?gY1_7⟩) (by assumption) ?gR1_7; case gY1_7 => (intro w hSw; (try dsimp only at hSw); go_simp <;> with_reducible rfl))
            try simp only [Act.put, List.setIfInBounds_toArray, List.set_cons_zero, List.set_cons_succ]
            refine wpE_ready (rs := [7]) (by kernel_rfl) (by simp) ?_
            refine AllE.last (by simp only [List.getElem?_toArray]; rfl) (by kernel_rfl) (fun K hK => ?_) AllE.nil
            go_simp
            refine hK.out _ _ ?_
            clear hK K
            try simp only [Act.put, List.setIfInBounds_toArray, List.set_cons_zero, List.set_cons_succ]
            refine wpE_done (by kernel_rfl) ?_ _
            refine NoPanic.normal ?_
            go_wp2_with fail
            go_roundw
            case rel => exact ⟨k', _, acc8, restT s9 false 4, badT s9 false 4, by go_num, hE2, hS2, HL8, Lib.hid (HR7.out.pushS HG8.out HO8.out)⟩
            case measure => exact meas1 hwk
        · obtain rfl : k = 0 := by omega
          go_wp2_with fail
          go_meet
          case rel =>
            refine ⟨0, vs, acc, s9, b9, rfl, Lib.hid ?_, hS, Lib.hid (by have := hL.out; omega), hR⟩
            have := hE.out
            simpa [sessS, sessR] using this
  case rest =>
    as_aux_lemma =>
      obtain ⟨n9, vs, ss, s9, b9, rfl, hE, hS, hL, hR⟩ := hcut
      obtain ⟨n2, hn2, hn2b⟩ := valT s9 b9 4 (by omega)
      have hE3 : Hid (read0 R0 = read5 z ss ([] ++ nodesS n2 (restT s9 b9 4) (badT s9 b9 4)) (nodesR n2 (restT s9 b9 4) (badT s9 b9 4))) := Lib.hid (by rw [hE.out]; unfold read3 read4; rw [hn2]; rfl)
      have HN2 := Lib.hid hn2
      have hS2 : Hid ((restT s9 b9 4).size ≤ 4611686018427387904) := Lib.hid (Nat.le_trans (restT_size _ _ _) hS.out)
      clear hE hn2
      go_upto_block 2 with (go_at_call 24; (refine (snum_any g s9 b9 4 _ hR.out.rd (by omega) hS.out).mono ?_); rintro e w5 ⟨rfl, hr5, hg5⟩; rw [HN2.out]; have HR5 := Lib.hid (hR.out.rdr hr5 hg5); clear hr5 hg5)
      clear hR hS HN2
      generalize restT s9 b9 4 = S3 at *
      generalize badT s9 b9 4 = b3 at *
      go_cut [9, 10, 12] from 69 to 107 (fun s9 _s10 _s12 wx => ∃ (n : Nat) (vn : Value) (ns : List Node) (s8 : ByteArray) (b8 : Bool), s9 = .int .i64 n ∧ Hid (read0 R0 = read5 z ss ns (s8, b8)) ∧ Hid (s8.size ≤ 4611686018427387904) ∧ Hid (ns.length ≤ 4294967296) ∧ Hid (∀ n ∈ ns, n.path.size ≤ 9223372036854775807) ∧ Hid (Rd w w.heap.size g gt z wx s8 b8 vn vs ns ss))
      case first =>
        as_aux_lemma =>
          go_wp2_with fail
          go_loopw [9] (fun i wr => ∃ (k : Nat) (vn : Value) (acc : List Node) (s8 : ByteArray) (b8 : Bool), i = .int .i64 k ∧ Hid (read0 R0 = read5 z ss (acc ++ nodesS k s8 b8) (nodesR k s8 b8)) ∧ Hid (s8.size ≤ 4611686018427387904) ∧ Hid (acc.length + k ≤ 4294967296) ∧ Hid (∀ n ∈ acc, n.path.size ≤ 9223372036854775807) ∧ Hid (Rd w w.heap.size g gt z wr s8 b8 vn vs acc ss)) (fun i _ => (intOf i).toNat)
          case atStart => exact ⟨n2, .slice none 0 0, [], S3, b3, rfl, hE3, hS2, Lib.hid (by simp; omega), Lib.hid (by simp), HR5⟩
          case round =>
            obtain ⟨k, vn, acc, s8, b8, rfl, hE, hS, hLN, hPZ, hR⟩ := hrel
            obtain ⟨cu0, cu1, cu2, cu3⟩ := hR.out.rd.cur
            have hglt : g < wr.heap.size := Bk.lt hR.out.rd
            by_cases hk : 0 < k
            · have hi1 : (decide ((0 : Int) < (k : Int))) = true := decide_eq_true (by omega)
              cases b8 with
              | true =>
                go_wp2_with fail
                go_meet
                case rel =>
                  refine ⟨k, vn, acc, s8, true, rfl, Lib.hid ?_, hS, Lib.hid (by have := hLN.out; omega), hPZ, hR⟩
                  obtain ⟨k', rfl⟩ : ∃ k', k = k' + 1 := ⟨k - 1, by omega⟩
                  have := hE.out
                  simpa [nodesS, nodesR] using this
              | false =>
                obtain ⟨k', rfl⟩ : ∃ k', k = k' + 1 := ⟨k - 1, by omega⟩
                have hwk : wrap64 (k' : Int) = (k' : Int) := by have := hLN.out; unfold wrap64; omega
                obtain ⟨m1, hm1, hm1b⟩ := valT s8 false 1 (by omega)
                have HTP : Hid (txtS 1 s8 false = takeT (restT s8 false 1) (badT s8 false 1) m1) := Lib.hid (by unfold txtS; rw [hm1]; rfl)
                have HTQ : Hid (txtR 1 s8 false = (restT (restT s8 false 1) (badT s8 false 1) m1, badT (restT s8 false 1) (badT s8 false 1) m1)) := Lib.hid (by unfold txtR; rw [hm1]; rfl)
                have hE2 : Hid (read0 R0 = read5 z ss ((acc ++ [nodeS s8 false]) ++ nodesS k' (nodeR s8 false).1 (nodeR s8 false).2) (nodesR k' (nodeR s8 false).1 (nodeR s8 false).2)) := Lib.hid (by
                  have := hE.out
                  simpa [nodesS, nodesR] using this)
                have hNS : Hid (nodeS s8 false = node7 (txtS 1 s8 false) (txtS 2 (txtR 1 s8 false).1 (txtR 1 s8 false).2) (numsS 7 (txtR 2 (txtR 1 s8 false).1 (txtR 1 s8 false).2).1 (txtR 2 (txtR 1 s8 false).1 (txtR 1 s8 false).2).2)) := Lib.hid rfl
                have hNR : Hid (nodeR s8 false = numsR 7 (txtR 2 (txtR 1 s8 false).1 (txtR 1 s8 false).2).1 (txtR 2 (txtR 1 s8 false).1 (txtR 1 s8 false).2).2) := Lib.hid rfl
                rw [HTP.out, HTQ.out] at hNS
                rw [HTQ.out] at hNR
                simp only at hNS hNR
                clear hE HTP HTQ
                have HM1 := Lib.hid hm1
                clear hm1
                have hSA : Hid ((restT s8 false 1).size ≤ 4611686018427387904) := Lib.hid (Nat.le_trans (restT_size _ _ _) hS.out)
                have hSB : Hid ((restT (restT s8 false 1) (badT s8 false 1) m1).size ≤ 4611686018427387904) := Lib.hid (Nat.le_trans (restT_size _ _ _) hSA.out)
                go_upto_region 17 with (first | (go_at_call 24; (refine (snum_any g s8 false 1 _ hR.out.rd (by omega) hS.out).mono ?_); rintro e w10 ⟨rfl, hr10, hg10⟩; rw [HM1.out]; have HR10 := Lib.hid (hR.out.rdr hr10 hg10); clear hr10 hg10) | (go_at_call 25; (refine (stext_any g (restT s8 false 1) (badT s8 false 1) m1 _ HR10.out.rd (by omega) hSA.out).mono ?_); rintro e w11 ⟨rfl, hr11, hg11⟩; have HR11 := Lib.hid (HR10.out.rdr hr11 hg11); clear hr11 hg11))
                have hpz : Hid ((takeT (restT s8 false 1) (badT s8 false 1) m1).size ≤ 9223372036854775807) := Lib.hid (by have := takeT_size (restT s8 false 1) (badT s8 false 1) m1; have := hSA.out; omega)
                clear hSA HM1 hR cu0 cu1 cu2 cu3 hglt
                generalize takeT (restT s8 false 1) (badT s8 false 1) m1 = p at *
                generalize restT (restT s8 false 1) (badT s8 false 1) m1 = sB at *
                generalize badT (restT s8 false 1) (badT s8 false 1) m1 = bB at *
                refine gen_w (fun W3 hW3 => ?_)
                have HX : Hid (RdX w w.heap.size g gt z w11.heap.size (boxL p ⟨#[]⟩ []) W3 sB bB vn vs acc ss) := Lib.hid (by
                  rw [hW3.out]
                  exact ⟨HR11.out.below (by repeat (first | with_reducible exact Below.refl _ _ | with_reducible assumption | with_reducible exact below_d1 _ _ _ _ _ | with_reducible exact below_d2 _ _ _ _ _ _ _ _ | with_reducible exact below_d3 _ _ _ _ _ | with_reducible exact below_d4 _ _ _ _ _ _ _ _ | with_reducible exact below_d5 _ _ | with_reducible refine Below.drew ?_ | with_reducible refine Below.drewN' ?_ _ | with_reducible refine below_grow0 _ _ ?_ | with_reducible refine below_alloc0 _ ?_ | with_reducible refine Below.setCell ?_ ?_ _ | with_reducible refine Below.alloc ?_ ?_ _ | with_reducible refine Below.grow _ _ _ ?_ ?_ | omega | (simp; done) | (simp; omega))), HR11.out.bel.size, fun e => Nat.lt_irrefl _ (HR11.out.nod.lt _ e), Bk.new _ _ _ rfl⟩)
                clear hW3 HR11
                generalize w11.heap.size = gx at *
                obtain ⟨m2, hm2, hm2b⟩ := valT sB bB 2 (by omega)
                have HTP : Hid (txtS 2 sB bB = takeT (restT sB bB 2) (badT sB bB 2) m2) := Lib.hid (by unfold txtS; rw [hm2]; rfl)
                have HTQ : Hid (txtR 2 sB bB = (restT (restT sB bB 2) (badT sB bB 2) m2, badT (restT sB bB 2) (badT sB bB 2) m2)) := Lib.hid (by unfold txtR; rw [hm2]; rfl)
                rw [HTP.out, HTQ.out] at hNS
                rw [HTQ.out] at hNR
                simp only at hNS hNR
                clear HTP HTQ
                have HM2 := Lib.hid hm2
                clear hm2
                have hSC : Hid ((restT sB bB 2).size ≤ 4611686018427387904) := Lib.hid (Nat.le_trans (restT_size _ _ _) hSB.out)
                have hSD : Hid ((restT (restT sB bB 2) (badT sB bB 2) m2).size ≤ 4611686018427387904) := Lib.hid (Nat.le_trans (restT_size _ _ _) hSC.out)
                go_upto_region 18 with (first | (go_at_call 24; (refine (snum_any g sB bB 2 _ HX.out.rdd.rd (by omega) hSB.out).mono ?_); rintro e w12 ⟨rfl, hr12, hg12⟩; rw [HM2.out]; have HX12 := Lib.hid (HX.out.rdr hr12 hg12); clear hr12 hg12) | (go_at_call 25; (refine (stext_any g (restT sB bB 2) (badT sB bB 2) m2 _ HX12.out.rdd.rd (by omega) hSC.out).mono ?_); rintro e w13 ⟨rfl, hr13, hg13⟩; have HX13 := Lib.hid (HX12.out.rdr hr13 hg13); have x1c : w13.cell? ⟨gx, 1, none⟩ = some (.string ⟨#[]⟩) := HX13.out.xb.cell 1; have x1f : w13.frozen? ⟨gx, 1, none⟩ = false := HX13.out.xb.frozen 1; clear hr13 hg13))
                clear hSB hSC HM2 HX HX12
                generalize takeT (restT sB bB 2) (badT sB bB 2) m2 = d at *
                generalize restT (restT sB bB 2) (badT sB bB 2) m2 = sD at *
                generalize badT (restT sB bB 2) (badT sB bB 2) m2 = bD at *
                refine gen_w (fun W4 hW4 => ?_)
                have HX14 : Hid (RdX w w.heap.size g gt z gx (boxL p d []) W4 sD bD vn vs acc ss) := Lib.hid (by
                  rw [hW4.out]
                  exact HX13.out.put 1 (.string d))
                clear hW4 HX13 x1c x1f
                go_upto_block 4 with (go_at_call 16; (refine (numbers_is gx 2 _).mono ?_); rintro e w15 ⟨gp, rfl, hgp, hbp, hb15⟩; have HX15 := Lib.hid (HX14.out.below hb15); have HP15 := Lib.hid hbp; clear hb15 hbp hgp)
                clear HX14
                go_wp2_with fail
                go_loopw [93] (fun i wr => ∃ (j r : Nat) (done : List Int) (sE : ByteArray) (bE : Bool), j + r = 7 ∧ i = .int .i64 j ∧ Hid (done.length = j) ∧ Hid (done ++ numsS r sE bE = numsS 7 sD bD) ∧ Hid (numsR r sE bE = numsR 7 sD bD) ∧ Hid (sE.size ≤ 4611686018427387904) ∧ Hid (RdX w w.heap.size g gt z gx (boxL p d done) wr sE bE vn vs acc ss) ∧ Hid (Bk wr gp (ptrs gx 2) 49)) (fun i _ => 7 - (intOf i).toNat)
                case atStart => exact ⟨0, 7, [], sD, bD, rfl, rfl, Lib.hid rfl, Lib.hid rfl, Lib.hid rfl, hSD, HX15, HP15⟩
                case round =>
                  clear HX15 HP15
                  obtain ⟨j, r, done, sE, bE, hjr, rfl, hdl, hdn, hdr, hSE, hX, hP⟩ := hrel
                  by_cases hlt7 : j < 7
                  · obtain ⟨r', rfl⟩ : ∃ r', r = r' + 1 := ⟨r - 1, by omega⟩
                    have hdn2 : Hid ((done ++ [valI (bs (takeT sE bE 8))]) ++ numsS r' (restT sE bE 8) (badT sE bE 8) = numsS 7 sD bD) := Lib.hid (by rw [← hdn.out]; simp [numsS])
                    have hdr2 : Hid (numsR r' (restT sE bE 8) (badT sE bE 8) = numsR 7 sD bD) := Lib.hid (by rw [← hdr.out]; rfl)
                    have hSE2 : Hid ((restT sE bE 8).size ≤ 4611686018427387904) := Lib.hid (Nat.le_trans (restT_size _ _ _) hSE.out)
                    have hpc := hP.out.cell j
                    rw [ptrs_at2 gx 2 j hlt7] at hpc
                    clear hdn hdr
                    go_wp2_with (go_at_call 24; (refine (snum_any g sE bE 8 _ hX.out.rdd.rd (by omega) hSE.out).mono ?_); rintro e w16 ⟨rfl, hr16, hg16⟩; have HX16 := Lib.hid (hX.out.rdr hr16 hg16); have HP16 := Lib.hid (ptr_rdr hP.out hX.out.rdd.rd hg16); have x2c := HX16.out.xb.cell (2 + j); rw [boxL_at hdl.out hlt7] at x2c; have x2f := HX16.out.xb.frozen (2 + j); clear hr16 hg16)
                    generalize valI (bs (takeT sE bE 8)) = y at *
                    go_roundw
                    case rel =>
                      refine ⟨j + 1, r', done ++ [y], restT sE bE 8, badT sE bE 8, by omega, by go_num, Lib.hid (by have := hdl.out; simp; omega), hdn2, hdr2, hSE2, Lib.hid ?_, Lib.hid ?_⟩
                      · rw [← boxL_set y hdl.out hlt7]
                        exact HX16.out.put (2 + j) (.int .i64 y)
                      · exact Bk.far HP16.out (bk_type HP16.out HX16.out.xb (by decide))
                    case measure => exact meas7 hlt7
                  · obtain rfl : j = 7 := by omega
                    obtain rfl : r = 0 := by omega
                    have hd7 : Hid (done = numsS 7 sD bD) := Lib.hid (by rw [← hdn.out]; simp [numsS])
                    have hr7 : Hid ((sE, bE) = numsR 7 sD bD) := Lib.hid (by rw [← hdr.out]; rfl)
                    obtain ⟨y0, y1, y2, y3, y4, y5, y6, hd⟩ := seven hdl.out
                    subst hd
                    have hE4 : Hid (read0 R0 = read5 z ss ((acc ++ [⟨p, d, y0, y1, y2, y3, y4, y5, y6⟩]) ++ nodesS k' sE bE) (nodesR k' sE bE)) := Lib.hid (by
                      rw [hE2.out, hNS.out, hNR.out, ← hd7.out, ← hr7.out]
                      rfl)
                    clear hE2 hNS hNR hd7 hr7 hdn hdr hdl hP hjr hlt7
                    have c0 : wr.cell? ⟨gx, 0, none⟩ = some (.string p) := hX.out.xb.cell 0
                    have c1 : wr.cell? ⟨gx, 1, none⟩ = some (.string d) := hX.out.xb.cell 1
                    have c2 : wr.cell? ⟨gx, 2, none⟩ = some (.int .i64 y0) := hX.out.xb.cell 2
                    have c3 : wr.cell? ⟨gx, 3, none⟩ = some (.int .i64 y1) := hX.out.xb.cell 3
                    have c4 : wr.cell? ⟨gx, 4, none⟩ = some (.int .i64 y2) := hX.out.xb.cell 4
                    have c5 : wr.cell? ⟨gx, 5, none⟩ = some (.int .i64 y3) := hX.out.xb.cell 5
                    have c6 : wr.cell? ⟨gx, 6, none⟩ = some (.int .i64 y4) := hX.out.xb.cell 6
                    have c7 : wr.cell? ⟨gx, 7, none⟩ = some (.int .i64 y5) := hX.out.xb.cell 7
                    have c8 : wr.cell? ⟨gx, 8, none⟩ = some (.int .i64 y6) := hX.out.xb.cell 8
                    have cn : wr.cell? ⟨gt, 1, none⟩ = some vn := hX.out.rdd.box.cell 1
                    have hgt : gt < wr.heap.size := hX.out.rdd.box.lt
                    have hbs := hX.out.rdd.bel.size
                    go_upto_region 23 with fail
                    refine gen_w (fun W5 hW5 => ?_)
                    obtain rfl := hW5.out
                    iterate 13 (first | (refine wp_bnode _ (.tmp 104) rfl rfl p d y0 y1 y2 y3 y4 y5 y6 rfl ?_; simp only [List.setIfInBounds_toArray, List.set_cons_zero, List.set_cons_succ]) | (at_builtin; fail) | go_values | go_skip | go_guarded | go_step | go_upon | go_back)
                    at_builtin
                    refine wpList_app _ rfl (.tmp 103) (.tmp 105) _ rfl elNode (f := cNode) (B := w.heap.size) (l := acc) (m := [⟨p, d, y0, y1, y2, y3, y4, y5, y6⟩]) (v := vn) rfl rfl ?o1 ?o2 cNode_one ?o3 ?o4 ?o5 ?o6
                    case o1 => exact hX.out.rdd.nod.below ((by repeat (first | with_reducible exact Below.refl _ _ | with_reducible assumption | with_reducible exact below_d1 _ _ _ _ _ | with_reducible exact below_d2 _ _ _ _ _ _ _ _ | with_reducible exact below_d3 _ _ _ _ _ | with_reducible exact below_d4 _ _ _ _ _ _ _ _ | with_reducible exact below_d5 _ _ | with_reducible refine Below.drew ?_ | with_reducible refine Below.drewN' ?_ _ | with_reducible refine below_grow0 _ _ ?_ | with_reducible refine below_alloc0 _ ?_ | with_reducible refine Below.setCell ?_ ?_ _ | with_reducible refine Below.alloc ?_ ?_ _ | with_reducible refine Below.grow _ _ _ ?_ ?_ | omega | (simp; done) | (simp; omega))))
                    case o2 => exact Sl.one_at cNode 9 _ _ _ rfl _ rfl (by omega) (by simp)
                    case o3 => (have := hLN.out; simp [maxLen] <;> omega)
                    case o4 => (have := hLN.out; simp <;> omega)
                    case o5 => (simp <;> omega)
                    intro v20 w20 hown20 hg20 _
                    have HR20 := Lib.hid (Rd.pushN (hX.out.rdd.below ((by repeat (first | with_reducible exact Below.refl _ _ | with_reducible assumption | with_reducible exact below_d1 _ _ _ _ _ | with_reducible exact below_d2 _ _ _ _ _ _ _ _ | with_reducible exact below_d3 _ _ _ _ _ | with_reducible exact below_d4 _ _ _ _ _ _ _ _ | with_reducible exact below_d5 _ _ | with_reducible refine Below.drew ?_ | with_reducible refine Below.drewN' ?_ _ | with_reducible refine below_grow0 _ _ ?_ | with_reducible refine below_alloc0 _ ?_ | with_reducible refine Below.setCell ?_ ?_ _ | with_reducible refine Below.alloc ?_ ?_ _ | with_reducible refine Below.grow _ _ _ ?_ ?_ | omega | (simp; done) | (simp; omega))))) hg20 hown20)
                    have HB20 := Lib.hid (Rd.boxN (hX.out.rdd.below ((by repeat (first | with_reducible exact Below.refl _ _ | with_reducible assumption | with_reducible exact below_d1 _ _ _ _ _ | with_reducible exact below_d2 _ _ _ _ _ _ _ _ | with_reducible exact below_d3 _ _ _ _ _ | with_reducible exact below_d4 _ _ _ _ _ _ _ _ | with_reducible exact below_d5 _ _ | with_reducible refine Below.drew ?_ | with_reducible refine Below.drewN' ?_ _ | with_reducible refine below_grow0 _ _ ?_ | with_reducible refine below_alloc0 _ ?_ | with_reducible refine Below.setCell ?_ ?_ _ | with_reducible refine Below.alloc ?_ ?_ _ | with_reducible refine Below.grow _ _ _ ?_ ?_ | omega | (simp; done) | (simp; omega))))) hg20)
                    have n20 : w20.cell? ⟨gt, 1, none⟩ = some vn := HB20.out.cell 1
                    have f20 : w20.frozen? ⟨gt, 1, none⟩ = false := HB20.out.frozen 1
                    have HL20 := Lib.hid (show (acc ++ [(⟨p, d, y0, y1, y2, y3, y4, y5, y6⟩ : Node)]).length + k' ≤ 4294967296 by have := hLN.out; simp; omega)
                    have HP20 := Lib.hid (show ∀ n ∈ acc ++ [(⟨p, d, y0, y1, y2, y3, y4, y5, y6⟩ : Node)], n.path.size ≤ 9223372036854775807 from fun n hn => by rcases List.mem_append.1 hn with h | h; exact hPZ.out n h; rw [List.mem_singleton.1 h]; exact hpz.out)
                    generalize acc ++ [(⟨p, d, y0, y1, y2, y3, y4, y5, y6⟩ : Node)] = acc8 at *
                    obtain ⟨A20, c20, rfl, _⟩ := hown20.form
                    clear hown20 hg20
                    go_wp2_with fail
                    go_roundw
                    case rel => exact ⟨k', _, acc8, sE, bE, by go_num, hE4, hSE, HL20, HP20, HR20⟩
                    case measure => exact meas1 hwk
            · obtain rfl : k = 0 := by omega
              go_wp2_with fail
              go_meet
              case rel =>
                refine ⟨0, vn, acc, s8, b8, rfl, Lib.hid ?_, hS, Lib.hid (by have := hLN.out; omega), hPZ, hR⟩
                have := hE.out
                simpa [nodesS, nodesR] using this
      case rest =>
        as_aux_lemma =>
          obtain ⟨n8, vn, ns, s8, b8, rfl, hE, hS, hLN, hPZ, hR⟩ := hcut
          obtain ⟨cu0, cu1, cu2, cu3⟩ := hR.out.rd.cur
          cases b8 with
          | true =>
            have hE5 : Hid (read0 R0 = (tr0, 2)) := Lib.hid (by rw [hE.out]; unfold read5; rfl)
            have r0 : wc.cell? ⟨w.heap.size, 0, none⟩ = some (.int .i64 0) := hR.out.res.cell 0
            have r1 : wc.cell? ⟨w.heap.size, 1, none⟩ = some (.slice none 0 0) := hR.out.res.cell 1
            have r2 : wc.cell? ⟨w.heap.size, 2, none⟩ = some (.slice none 0 0) := hR.out.res.cell 2
            have r3 := hR.out.res.frozen 0
            have r4 := hR.out.res.frozen 1
            have r5 := hR.out.res.frozen 2
            go_wp2_with fail
            rw [hE5.out]
            refine gen_e (fun W9 hW9 => ?_)
            have HP9 : Hid (Bk W9 w.heap.size [.int .i64 0, .slice none 0 0, .slice none 0 0] 25) := Lib.hid (by rw [hW9.out]; exact ((Bk.put (Bk.put (Bk.put hR.out.res 0 (.int .i64 0)) 1 (.slice none 0 0)) 2 (.slice none 0 0))))
            have hb9 : Below w.heap.size w W9 := by
              rw [hW9.out]
              have hb := hR.out.bel
              (repeat (first | with_reducible exact Below.refl _ _ | with_reducible assumption | with_reducible exact below_d1 _ _ _ _ _ | with_reducible exact below_d2 _ _ _ _ _ _ _ _ | with_reducible exact below_d3 _ _ _ _ _ | with_reducible exact below_d4 _ _ _ _ _ _ _ _ | with_reducible exact below_d5 _ _ | with_reducible refine Below.drew ?_ | with_reducible refine Below.drewN' ?_ _ | with_reducible refine below_grow0 _ _ ?_ | with_reducible refine below_alloc0 _ ?_ | with_reducible refine Below.setCell ?_ ?_ _ | with_reducible refine Below.alloc ?_ ?_ _ | with_reducible refine Below.grow _ _ _ ?_ ?_ | omega | (simp; done) | (simp; omega)))
              all_goals exact Nat.le_refl _
            have p0 : W9.cell? ⟨w.heap.size, 0, none⟩ = some (.int .i64 0) := HP9.out.cell 0
            have p1 : W9.cell? ⟨w.heap.size, 1, none⟩ = some (.slice none 0 0) := HP9.out.cell 1
            have p2 : W9.cell? ⟨w.heap.size, 2, none⟩ = some (.slice none 0 0) := HP9.out.cell 2
            refine bodyPost_ret (v := .tuple #[.agg #[.int .i64 0, .slice none 0 0, .slice none 0 0], .int .i64 2]) (by simp [results, Tryd.results11, go_sem, p0, p1, p2]) rfl (readRes_zero hb9)
          | false =>
            have r0 : wc.cell? ⟨w.heap.size, 0, none⟩ = some (.int .i64 0) := hR.out.res.cell 0
            have r1 : wc.cell? ⟨w.heap.size, 1, none⟩ = some (.slice none 0 0) := hR.out.res.cell 1
            have r2 : wc.cell? ⟨w.heap.size, 2, none⟩ = some (.slice none 0 0) := hR.out.res.cell 2
            have r3 := hR.out.res.frozen 0
            have r4 := hR.out.res.frozen 1
            have r5 := hR.out.res.frozen 2
            cases hq : (!s8.toList.isEmpty) with
            | true =>
              have hE5 : Hid (read0 R0 = (tr0, 2)) := Lib.hid (by rw [hE.out]; unfold read5; simp only [Bool.false_or]; rw [hq]; rfl)
              go_wp2_with fail
              rw [hE5.out]
              refine gen_e (fun W9 hW9 => ?_)
              have HP9 : Hid (Bk W9 w.heap.size [.int .i64 0, .slice none 0 0, .slice none 0 0] 25) := Lib.hid (by rw [hW9.out]; exact ((Bk.put (Bk.put (Bk.put hR.out.res 0 (.int .i64 0)) 1 (.slice none 0 0)) 2 (.slice none 0 0))))
              have hb9 : Below w.heap.size w W9 := by
                rw [hW9.out]
                have hb := hR.out.bel
                (repeat (first | with_reducible exact Below.refl _ _ | with_reducible assumption | with_reducible exact below_d1 _ _ _ _ _ | with_reducible exact below_d2 _ _ _ _ _ _ _ _ | with_reducible exact below_d3 _ _ _ _ _ | with_reducible exact below_d4 _ _ _ _ _ _ _ _ | with_reducible exact below_d5 _ _ | with_reducible refine Below.drew ?_ | with_reducible refine Below.drewN' ?_ _ | with_reducible refine below_grow0 _ _ ?_ | with_reducible refine below_alloc0 _ ?_ | with_reducible refine Below.setCell ?_ ?_ _ | with_reducible refine Below.alloc ?_ ?_ _ | with_reducible refine Below.grow _ _ _ ?_ ?_ | omega | (simp; done) | (simp; omega)))
                all_goals exact Nat.le_refl _
              have p0 : W9.cell? ⟨w.heap.size, 0, none⟩ = some (.int .i64 0) := HP9.out.cell 0
              have p1 : W9.cell? ⟨w.heap.size, 1, none⟩ = some (.slice none 0 0) := HP9.out.cell 1
              have p2 : W9.cell? ⟨w.heap.size, 2, none⟩ = some (.slice none 0 0) := HP9.out.cell 2
              refine bodyPost_ret (v := .tuple #[.agg #[.int .i64 0, .slice none 0 0, .slice none 0 0], .int .i64 2]) (by simp [results, Tryd.results11, go_sem, p0, p1, p2]) rfl (readRes_zero hb9)
            | false =>
              have t0 : wc.cell? ⟨gt, 0, none⟩ = some (.int .i64 z) := hR.out.box.cell 0
              have t1 : wc.cell? ⟨gt, 1, none⟩ = some vn := hR.out.box.cell 1
              have t2 : wc.cell? ⟨gt, 2, none⟩ = some vs := hR.out.box.cell 2
              have HG := Lib.hid (trGood z vn vs ns ss wc hR.out.nod.sl hR.out.ses.sl (by have := hL.out; omega) hPZ.out)
              cases hgd : goodTree ⟨z, ns, ss⟩ with
              | false =>
                have hE5 : Hid (read0 R0 = (tr0, 3)) := Lib.hid (by rw [hE.out]; unfold read5; simp only [Bool.false_or]; rw [hq, hgd]; rfl)
                rw [hgd] at HG
                clear hgd
                go_wp2_with (go_at_call 10; (refine HG.out.mono ?_); rintro e w30 ⟨rfl, hb30⟩; have HR30 := Lib.hid (hR.out.below hb30); have r0 : w30.cell? ⟨w.heap.size, 0, none⟩ = some (.int .i64 0) := HR30.out.res.cell 0; have r1 : w30.cell? ⟨w.heap.size, 1, none⟩ = some (.slice none 0 0) := HR30.out.res.cell 1; have r2 : w30.cell? ⟨w.heap.size, 2, none⟩ = some (.slice none 0 0) := HR30.out.res.cell 2; have r3 := HR30.out.res.frozen 0; have r4 := HR30.out.res.frozen 1; have r5 := HR30.out.res.frozen 2; clear hb30 HG)
                rw [hE5.out]
                refine gen_e (fun W9 hW9 => ?_)
                have HP9 : Hid (Bk W9 w.heap.size [.int .i64 0, .slice none 0 0, .slice none 0 0] 25) := Lib.hid (by rw [hW9.out]; exact ((Bk.put (Bk.put (Bk.put HR30.out.res 0 (.int .i64 0)) 1 (.slice none 0 0)) 2 (.slice none 0 0))))
                have hb9 : Below w.heap.size w W9 := by
                  rw [hW9.out]
                  have hb := HR30.out.bel
                  (repeat (first | with_reducible exact Below.refl _ _ | with_reducible assumption | with_reducible exact below_d1 _ _ _ _ _ | with_reducible exact below_d2 _ _ _ _ _ _ _ _ | with_reducible exact below_d3 _ _ _ _ _ | with_reducible exact below_d4 _ _ _ _ _ _ _ _ | with_reducible exact below_d5 _ _ | with_reducible refine Below.drew ?_ | with_reducible refine Below.drewN' ?_ _ | with_reducible refine below_grow0 _ _ ?_ | with_reducible refine below_alloc0 _ ?_ | with_reducible refine Below.setCell ?_ ?_ _ | with_reducible refine Below.alloc ?_ ?_ _ | with_reducible refine Below.grow _ _ _ ?_ ?_ | omega | (simp; done) | (simp; omega)))
                  all_goals exact Nat.le_refl _
                have p0 : W9.cell? ⟨w.heap.size, 0, none⟩ = some (.int .i64 0) := HP9.out.cell 0
                have p1 : W9.cell? ⟨w.heap.size, 1, none⟩ = some (.slice none 0 0) := HP9.out.cell 1
                have p2 : W9.cell? ⟨w.heap.size, 2, none⟩ = some (.slice none 0 0) := HP9.out.cell 2
                refine bodyPost_ret (v := .tuple #[.agg #[.int .i64 0, .slice none 0 0, .slice none 0 0], .int .i64 3]) (by simp [results, Tryd.results11, go_sem, p0, p1, p2]) rfl (readRes_zero hb9)
              | true =>
                have hE5 : Hid (read0 R0 = (⟨z, ns, ss⟩, 0)) := Lib.hid (by rw [hE.out]; unfold read5; simp only [Bool.false_or]; rw [hq, hgd]; rfl)
                rw [hgd] at HG
                clear hgd
                obtain ⟨An, cn, rfl, _⟩ := hR.out.nod.form
                obtain ⟨As, cs, rfl, _⟩ := hR.out.ses.form
                go_wp2_with (go_at_call 10; (refine HG.out.mono ?_); rintro e w30 ⟨rfl, hb30⟩; have HR30 := Lib.hid (hR.out.below hb30); have t0 : w30.cell? ⟨gt, 0, none⟩ = some (.int .i64 z) := HR30.out.box.cell 0; have t1 : w30.cell? ⟨gt, 1, none⟩ = some (.slice An ns.length cn) := HR30.out.box.cell 1; have t2 : w30.cell? ⟨gt, 2, none⟩ = some (.slice As ss.length cs) := HR30.out.box.cell 2; have r0 : w30.cell? ⟨w.heap.size, 0, none⟩ = some (.int .i64 0) := HR30.out.res.cell 0; have r1 : w30.cell? ⟨w.heap.size, 1, none⟩ = some (.slice none 0 0) := HR30.out.res.cell 1; have r2 : w30.cell? ⟨w.heap.size, 2, none⟩ = some (.slice none 0 0) := HR30.out.res.cell 2; have r3 := HR30.out.res.frozen 0; have r4 := HR30.out.res.frozen 1; have r5 := HR30.out.res.frozen 2; clear hb30 HG)
                rw [hE5.out]
                refine gen_e (fun W9 hW9 => ?_)
                obtain ⟨hk, hn9, hs9, hb9⟩ := HR30.out.done
                rw [← hW9.out] at hk hn9 hs9 hb9
                have p0 : W9.cell? ⟨w.heap.size, 0, none⟩ = some (.int .i64 z) := hk.cell 0
                have p1 : W9.cell? ⟨w.heap.size, 1, none⟩ = some (.slice An ns.length cn) := hk.cell 1
                have p2 : W9.cell? ⟨w.heap.size, 2, none⟩ = some (.slice As ss.length cs) := hk.cell 2
                refine bodyPost_ret (v := .tuple #[.agg #[.int .i64 z, .slice An ns.length cn, .slice As ss.length cs], .int .i64 0]) (by simp [results, Tryd.results11, go_sem, p0, p1, p2]) rfl ⟨_, _, rfl, hn9, hs9, hb9⟩
end Go.Proofs.YtfoglgeiipafeaaDoor

/- package snap: Write and Read as one contract each. -/
namespace Go.Proofs.YtfoglgeiipafeaaDoor
open Go.RowKit Go.ChangeShapes Go.WideShapes Go.ChangeAt
def writeS (t : Tr) : ByteArray × Int := bif goodTree t then (bS (snapBy t), 0) else (⟨#[]⟩, 3)
theorem trWrite (z : Int) (v v2 : Value) (l : List Node) (ss : List Int) (w : World) (h : Sl cNode 9 w v l) (h2 : Sl cInt 1 w v2 ss) (hn : ss.length ≤ 140737488355328) (hz : ∀ n ∈ l, n.path.size ≤ 9223372036854775807) :
    Calls Tryd.prog 7 #[.agg #[.int .i64 z, v, v2]] w fun e w' => e = .returned (.tuple #[.string (writeS ⟨z, l, ss⟩).1, .int .i64 (writeS ⟨z, l, ss⟩).2]) ∧ Below w.heap.size w w' := by
  cases hg : goodTree ⟨z, l, ss⟩ with
  | false =>
    have e : writeS ⟨z, l, ss⟩ = (⟨#[]⟩, 3) := by unfold writeS; rw [hg]; rfl
    rw [e]
    exact trWrite_no z v v2 l ss w h h2 hn hz hg
  | true =>
    have e : writeS ⟨z, l, ss⟩ = (bS (snapBy ⟨z, l, ss⟩), 0) := by unfold writeS; rw [hg]; rfl
    rw [e]
    obtain ⟨n, hn⟩ := Int.eq_ofNat_of_zero_le (snap_ok hg).z.1
    have hn : z = (n : Int) := hn
    subst hn
    exact trWrite_yes n v v2 l ss w h h2 hg
theorem trRead (s : ByteArray) (w : World) (hs : s.size ≤ 4611686018427387904) : Calls Tryd.prog 11 #[.string s] w (ReadRes w (readS s)) := by
  have hds : s.data.size = s.size := rfl
  by_cases h5 : s.size < 5
  · have e : readS s = (tr0, 2) := by unfold readS; rw [decide_eq_true h5, Bool.true_or, cond_true]
    rw [e]
    exact trRead_a s w h5
  · have hd : decide (s.size < 5) = false := decide_eq_false h5
    have hh : (bs s).head? = some (s.data[0]'(by omega)) := by
      unfold bs
      rw [List.head?_eq_getElem?, Array.getElem?_toList, Array.getElem?_eq_getElem]
    by_cases h83 : s.data[0]'(by omega) = 83
    · have hb : ((bs s).head? != some 83) = false := by rw [hh, h83]; rfl
      obtain ⟨m, hm⟩ : ∃ m, s.size = m + 4 := ⟨s.size - 4, by omega⟩
      have hm4 : s.size - 4 = m := by omega
      have hbm : (s.extract 0 m).size = m := by rw [ByteArray.size_extract]; omega
      cases hq : (((sumN (bs (s.extract 0 m)) : Nat) : Int) != valI (bs (takeT (s.extract m s.size) false 4))) with
      | true =>
        have e : readS s = (tr0, 5) := by unfold readS; rw [hd, hb, hm4, hq, Bool.or_self, cond_false, cond_true]
        rw [e]
        exact trRead_c s m w hm (by omega) hs h83 hq
      | false =>
        have e : readS s = read0 ((s.extract 0 m).extract 1 (s.extract 0 m).size) := by unfold readS; rw [hd, hb, hm4, hq, hbm, Bool.or_self, cond_false, cond_false]
        rw [e]
        exact trRead_d s m w hm (by omega) hs h83 hq
    · have hb : ((bs s).head? != some 83) = true := by rw [hh]; exact bne_iff_ne.2 (fun e => h83 (by injection e))
      have e : readS s = (tr0, 2) := by unfold readS; rw [hd, hb, Bool.or_true, cond_true]
      rw [e]
      exact trRead_b s w (by omega) h83
theorem write_new : writeS ⟨0, [rootN], []⟩ = (bS (snapBy ⟨0, [rootN], []⟩), 0) := by unfold writeS; rw [new_good]; rfl
theorem snap_new_len : (snapBy ⟨0, [rootN], []⟩).length = 81 := by
  unfold snapBy bodyBy sessBy
  simp only [List.length_append, be_length, List.length_cons, List.length_nil, List.flatMap_cons, List.flatMap_nil, nodeBy_length]
  rfl
set_option maxHeartbeats 1000000 in
theorem snaps_is (w : World) : Calls Tryd.prog 9 #[] w fun e w' => e = .returned (.bool true) ∧ Below w.heap.size w w' := by
  have HW := Lib.hid (fun v v2 w (h : Sl cNode 9 w v [rootN]) (h2 : Sl cInt 1 w v2 []) => trWrite 0 v v2 [rootN] [] w h h2 (by simp) (by intro n hn; simp at hn; subst hn; decide))
  rw [write_new] at HW
  have hz : (bS (snapBy ⟨0, [rootN], []⟩)).size = 81 := by rw [bS_size, snap_new_len]
  generalize bS (snapBy ⟨0, [rootN], []⟩) = S at *
  go_enter Tryd.func9, Tryd.ntmps9
  go_wp2_with (first | (go_at_call 18; (refine (treeNew _).mono ?_); rintro e w1 ⟨A, c, rfl, ho, hb⟩; have HO := Lib.hid ho.sl; have HB := Lib.hid hb; clear ho hb) | (go_at_call 7; (refine (HW.out _ _ _ HO.out (Sl.nil _ _ _)).mono ?_); rintro e w2 ⟨rfl, hb2⟩; have HB2 := Lib.hid (HB.out.trans (hb2.mono HB.out.size)); clear hb2))
  go_ret
  exact ⟨rfl, HB2.out⟩
end Go.Proofs.YtfoglgeiipafeaaDoor

/- package snap: Read where it answers an error, and where it answers a tree. -/
namespace Go.Proofs.YtfoglgeiipafeaaDoor
open Go.RowKit Go.ChangeShapes Go.WideShapes Go.ChangeAt
theorem read_err {s : ByteArray} {x : Int} (h : readS s = (tr0, x)) (hs : s.size ≤ 4611686018427387904) (w : World) :
    Calls Tryd.prog 11 #[.string s] w fun e w' => ∃ An cn As cs, e = .returned (.tuple #[.agg #[.int .i64 0, .slice An 0 cn, .slice As 0 cs], .int .i64 x]) ∧ Below w.heap.size w w' := by
  have h1 := trRead s w hs
  rw [h] at h1
  refine h1.mono ?_
  rintro e w' ⟨vn, vs, rfl, hn, hs, hb⟩
  obtain ⟨An, cn, rfl, _⟩ := hn.form
  obtain ⟨As, cs, rfl, _⟩ := hs.form
  exact ⟨An, cn, As, cs, rfl, hb⟩
end Go.Proofs.YtfoglgeiipafeaaDoor
