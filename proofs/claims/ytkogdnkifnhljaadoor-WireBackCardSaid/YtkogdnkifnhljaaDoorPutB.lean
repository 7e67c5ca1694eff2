/- wire.put: bytes of a number, the highest first, behind a row of one's own. -/
import Derived.Test.YtkogdnkifnhljaaDoorPathC
import Derived.Test.YtkogdnkifnhljaaDoorPut
namespace Go.Proofs.YtkogdnkifnhljaaDoor
open Go.RowKit Go.ChangeShapes Go.WideShapes Go.ChangeAt
theorem cByte_ones : ∀ x : UInt8, ∀ u ∈ cByte x, u.oneCell' = true := by
  intro x u hu
  simp [cByte] at hu
  subst hu
  rfl
def be : Nat → Nat → List UInt8
  | 0, _ => []
  | n + 1, x => UInt8.ofNat (x / 256 ^ n) :: be n x
theorem be_length : ∀ n x, (be n x).length = n
  | 0, _ => rfl
  | n + 1, x => by simp [be, be_length n x]
set_option maxHeartbeats 1000000 in
theorem put_any (W : World) (v : Value) (l : List UInt8) (x n : Nat) (w : World) (hb : Below W.heap.size W w) (h : Ow cByte 1 5 w W.heap.size v l) (_hx : x < 9223372036854775808) (hn : n ≤ 8) (hl : l.length ≤ 100000) :
    Calls Tryd.prog 43 #[v, .int .i64 x, .int .i64 n] w fun e w' => ∃ A c, e = .returned (.slice A (l ++ be n x).length c) ∧ Ow cByte 1 5 w' W.heap.size (.slice A (l ++ be n x).length c) (l ++ be n x) ∧ Below W.heap.size W w' := by
  obtain ⟨A, c, rfl, _⟩ := h.form
  obtain ⟨ext0, d0, rfl⟩ := Below.grown_eq _ hb
  have HO := Lib.hid h
  have HL := Lib.hid (be_length n x)
  clear h hb
  go_enter Tryd.func43, Tryd.ntmps43
  go_wp2_with fail
  go_loopw [0, 7] (fun bv k wr => ∃ (m : Nat) (pre : List UInt8) (A : Option Addr) (c : Nat) (ext : Array Obj) (d : Nat), m ≤ n ∧ k = .int .i64 ((m : Int) - 1) ∧ bv = .slice A pre.length c ∧ wr = grow W ext d ∧ Hid (pre ++ be m x = l ++ be n x) ∧ Hid (Ow cByte 1 5 wr W.heap.size (.slice A pre.length c) pre)) (fun _ k _ => (intOf k + 1).toNat)
  case atStart => exact ⟨n, l, A, c, _, _, Nat.le_refl _, rfl, rfl, rfl, Lib.hid rfl, HO⟩
  case round =>
    obtain ⟨m, pre, A, c, ext, d, hm, rfl, rfl, rfl, hpre, ho⟩ := hrel
    have hpl : pre.length + m = l.length + n := by
      have := congrArg List.length hpre.out
      simpa [be_length] using this
    cases m with
    | zero =>
      have hpre2 := hpre.out
      simp only [be, List.append_nil] at hpre2
      subst hpre2
      go_wp2_with fail
      refine bodyPost_ret (v := .slice A (l ++ be n x).length c) (by simp [results, Tryd.results43, go_sem]) rfl ⟨A, c, rfl, ho.out, (by repeat (first | exact Below.refl _ _ | assumption | refine Below.drew ?_ | refine Below.drewN' ?_ _ | refine below_grow0 _ _ ?_ | refine below_alloc0 _ ?_ | refine Below.alloc ?_ (by first | omega | (simp; done) | (simp; omega)) _ | refine Below.setCell ?_ (by first | omega | (simp; done) | (simp; omega)) _ | refine Below.grow _ _ _ ?_ (by first | omega | (simp; done) | (simp; omega))))⟩
    | succ m =>
      have hbe : pre ++ be (m + 1) x = (pre ++ [UInt8.ofNat (x / 256 ^ m)]) ++ be m x := by simp [be]
      have hpre2 := Lib.hid (hbe.symm.trans hpre.out)
      have hbv : (x : Int) / 2 ^ (8 * m) % 256 = ((UInt8.ofNat (x / 256 ^ m)).toNat : Int) := by
        have h1 : (2 : Int) ^ (8 * m) = ((256 ^ m : Nat) : Int) := by rw [Int.pow_mul]; simp
        rw [h1, UInt8.toNat_ofNat']
        simp
      generalize UInt8.ofNat (x / 256 ^ m) = cc at *
      clear hbe hpre
      go_wp2_with (at_builtin; refine wpList_app _ rfl (.tmp 14) (.tmp 21) _ rfl elByte (m := [cc]) (v := .slice A pre.length c) rfl rfl (by exact ho.out.alloc _) (by exact Sl.one_at cByte 1 _ _ _ rfl _ rfl (by omega) (by simp)) cByte_ones (by simp [maxLen] <;> omega) (by simp <;> omega) (by simp <;> omega) ?_; intro v5 w5 hown5 hg5 _)
      obtain ⟨A5, k5, rfl, _⟩ := hown5.form
      obtain ⟨ext5, d5, rfl⟩ := grown_after (W := W) (by repeat (first | exact Below.refl _ _ | assumption | refine Below.drew ?_ | refine Below.drewN' ?_ _ | refine below_grow0 _ _ ?_ | refine below_alloc0 _ ?_ | refine Below.alloc ?_ (by first | omega | (simp; done) | (simp; omega)) _ | refine Below.setCell ?_ (by first | omega | (simp; done) | (simp; omega)) _ | refine Below.grow _ _ _ ?_ (by first | omega | (simp; done) | (simp; omega)))) hg5 (fun k hk => (ho.out.own_in hk).1)
      have HO5 := Lib.hid hown5
      clear ho hown5 hg5
      go_wp2_with fail
      go_roundw
      case rel => exact ⟨m, pre ++ [cc], A5, k5, _, _, by omega, by go_num, rfl, rfl, hpre2, HO5⟩
      case measure => simp [intOf] <;> omega
end Go.Proofs.YtkogdnkifnhljaaDoor
