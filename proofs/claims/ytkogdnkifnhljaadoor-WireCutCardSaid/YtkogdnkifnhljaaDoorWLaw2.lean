/- The plain laws of wire's records, together. -/
import Derived.Test.YtkogdnkifnhljaaDoorWLaw
namespace Go.Proofs.YtkogdnkifnhljaaDoor
open Go.RowKit
theorem goodT_mk {z o s v ow : Int} {p d : ByteArray} (h : goodT ⟨z, o, s, p, d, v, ow⟩ = 0) : GoodF ⟨z, o, s, p, d, v, ow⟩ := goodT_facts _ h
theorem recT_length (t : Txn) : (recT t).length = (bodyL t.zxid.toNat t.op.toNat t.session.toNat t.version.toNat t.owner.toNat (bs t.path) (bs t.data)).length + 7 := by
  unfold recT recL headL
  simp [be_length]
  omega
theorem body_small (t : Txn) (h : goodT t = 0) : (bodyL t.zxid.toNat t.op.toNat t.session.toNat t.version.toNat t.owner.toNat (bs t.path) (bs t.data)).length ≤ 1024 := by
  have f := goodT_facts t h
  have := f.d1
  have := f.p1
  rw [bodyL_length, length_bs, length_bs]
  omega
theorem body_eval (t : Txn) (h : goodT t = 0) (n : Int) : dB1 n (bS (bodyL t.zxid.toNat t.op.toNat t.session.toNat t.version.toNat t.owner.toNat (bs t.path) (bs t.data))) false = (t, n + 7, 0) := by
  have f := goodT_facts t h
  have f1 := f.d1
  have f2 := f.p1
  have f3 := f.z0
  have f4 := f.z1
  have f5 := f.o0
  have f6 := f.o1
  have f7 := f.s0
  have f8 := f.s1
  have f9 := f.v0
  have f10 := f.v1
  have f11 := f.w0
  have f12 := f.w1
  rw [dB1_eval n _ _ _ _ _ _ _ (by omega) (by omega) (by omega) (by omega) (by omega) (by rw [length_bs]; omega) (by rw [length_bs]; omega)]
  rw [Int.toNat_of_nonneg f3, Int.toNat_of_nonneg (show 0 ≤ t.op by omega), Int.toNat_of_nonneg (show 0 ≤ t.session by omega), Int.toNat_of_nonneg f9, Int.toNat_of_nonneg f11, bS_bs, bS_bs]
  exact dB10_ok (by decide) (by rw [ByteArray.toList_eq]; rfl) (by show (goodT t != 0) = false; rw [h]; rfl)
theorem dec_back (t : Txn) (h : goodT t = 0) (more : List UInt8) : decR (bS (recT t ++ more)) = (t, ((recT t).length : Int), 0) := by
  have hB := body_small t h
  have hl := recT_length t
  have he := fun n => body_eval t h n
  rw [hl]
  unfold recT
  generalize bodyL t.zxid.toNat t.op.toNat t.session.toNat t.version.toNat t.owner.toNat (bs t.path) (bs t.data) = B at *
  have e : recL B ++ more = [84] ++ (be 2 B.length ++ (B ++ (be 4 (sumN (headL B)) ++ more))) := by
    unfold recL headL
    simp only [List.append_assoc]
  rw [e, dec_shape B _ more B.length hB rfl (be_length _ _), valN_be, Nat.mod_eq_of_lt (show sumN (headL B) < 256 ^ 4 from sumN_lt _)]
  have e2 : (((sumN ([84] ++ be 2 B.length ++ B) : Nat) : Int) != ((sumN (headL B) : Nat) : Int)) = false := by unfold headL; simp
  rw [e2, he]
  simp
theorem badT_true (s : ByteArray) (n : Nat) : badT s true n = true := rfl
theorem badT_short {l : List UInt8} {n : Nat} (h : l.length < n) : badT (bS l) false n = true := by
  unfold badT
  rw [bS_size, decide_eq_true h]
  rfl
theorem takeT_bad {s : ByteArray} {b : Bool} {n : Nat} (h : badT s b n = true) : takeT s b n = ⟨#[]⟩ := by unfold takeT; rw [h]; rfl
theorem dec_none : decR (bS []) = (txn0, 0, 2) := by
  unfold decR
  have h := badT_short (l := []) (n := 1) (by decide)
  rw [h, takeT_bad h]
  exact dec1_bad (by rw [ByteArray.toList_eq]; rfl)
theorem dec_len {y : List UInt8} (h : y.length < 2) : decR (bS ([84] ++ y)) = (txn0, 0, 2) := by
  have e1 := eat (x := [84]) (y := y) (n := 1) rfl
  have hb := badT_short (l := y) (n := 2) h
  unfold decR
  rw [e1.1, e1.2.1, e1.2.2]
  have h0 : (!((bS [84]).toList == [84])) = false := by rw [ByteArray.toList_eq]; rfl
  rw [dec1_ok h0 (n := 0) (by rw [takeT_bad hb]; rfl), hb]
  exact dec2_bad rfl
theorem dec_short {y : List UInt8} {n : Nat} (hn : n ≤ 1024) (h : y.length < n + 4) : decR (bS ([84] ++ (be 2 n ++ y))) = (txn0, 0, 2) := by
  have e1 := eat (x := [84]) (y := be 2 n ++ y) (n := 1) rfl
  have e2 := eat (x := be 2 n) (y := y) (n := 2) (be_length _ _)
  have hv : valI (bs (bS (be 2 n))) = (n : Int) := by
    rw [bs_bS, valI_nat _ (by rw [be_length]; decide), valN_be, Nat.mod_eq_of_lt (by omega)]
  unfold decR
  rw [e1.1, e1.2.1, e1.2.2]
  have h0 : (!((bS [84]).toList == [84])) = false := by rw [ByteArray.toList_eq]; rfl
  rw [dec1_ok h0 (n := n) (by rw [e2.2.1]; exact hv), e2.1, e2.2.2, dec2_ok (by decide) (by omega)]
  unfold dec3
  refine dec4_bad ?_
  by_cases hy : y.length < n
  · rw [badT_short hy, badT_true]
  · have e3 := eat (x := y.take n) (y := y.drop n) (n := n) (by rw [List.length_take]; omega)
    rw [List.take_append_drop] at e3
    rw [e3.1, e3.2.2]
    exact badT_short (by rw [List.length_drop]; omega)
theorem dec_cut (t : Txn) (h : goodT t = 0) (k : Nat) (hk : k < (recT t).length) : decR (bS ((recT t).take k)) = (txn0, 0, 2) := by
  have hB := body_small t h
  rw [recT_length t] at hk
  unfold recT
  generalize bodyL t.zxid.toNat t.op.toNat t.session.toNat t.version.toNat t.owner.toNat (bs t.path) (bs t.data) = B at *
  have e : recL B = [84] ++ (be 2 B.length ++ (B ++ be 4 (sumN (headL B)))) := by
    unfold recL headL
    simp only [List.append_assoc]
  rw [e]
  match k, hk with
  | 0, _ => exact dec_none
  | 1, _ => exact dec_len (y := []) (by decide)
  | 2, _ =>
    rw [List.take_append, List.take_of_length_le (show ([84] : List UInt8).length ≤ 2 by decide)]
    exact dec_len (by rw [List.length_take]; show min 1 _ < 2; omega)
  | k + 3, hk =>
    rw [List.take_append, List.take_of_length_le (show ([84] : List UInt8).length ≤ k + 3 by simp), List.take_append, List.take_of_length_le (show (be 2 B.length).length ≤ _ by rw [be_length]; simp)]
    refine dec_short hB ?_
    rw [List.length_take, be_length]
    simp
    omega
theorem xor_can {a b p : Nat} (h : a ^^^ p = b ^^^ p) : a = b := by
  have h2 := congrArg (· ^^^ p) h
  simpa [Nat.xor_assoc] using h2
theorem xor_top {a : Nat} (h : a < 2147483648) : 2147483648 ≤ a ^^^ 3988292384 := by
  refine Nat.ge_two_pow_of_testBit (i := 31) ?_
  rw [Nat.testBit_xor, Nat.testBit_lt_two_pow (show a < 2 ^ 31 from h)]
  decide
theorem rnd_inj {a b : Nat} (ha : a < 4294967296) (hb : b < 4294967296) (h : rnd a = rnd b) : a = b := by
  unfold rnd at h
  have t1 := xor_top (a := a / 2) (by omega)
  have t2 := xor_top (a := b / 2) (by omega)
  split at h
  · split at h
    · have := xor_can h
      omega
    · omega
  · split at h
    · omega
    · omega
theorem rndN_inj {a b : Nat} (ha : a < 4294967296) (hb : b < 4294967296) : ∀ n, rndN n a = rndN n b → a = b
  | 0, h => h
  | n + 1, h => rndN_inj ha hb n (rnd_inj (rndN_lt ha n) (rndN_lt hb n) h)
theorem sumK_inj : ∀ (l : List UInt8) {a b : Nat}, a < 4294967296 → b < 4294967296 → sumK l a = sumK l b → a = b
  | [], _, _, _, _, h => h
  | x :: r, a, b, ha, hb, h => by
    have hx : x.toNat < 256 := x.toNat_lt
    have h1 := sumK_inj r (rndN_lt (xor_lt ha (by omega)) 8) (rndN_lt (xor_lt hb (by omega)) 8) h
    exact xor_can (rndN_inj (xor_lt ha (by omega)) (xor_lt hb (by omega)) 8 h1)
theorem sumK_app (l m : List UInt8) (c : Nat) : sumK (l ++ m) c = sumK m (sumK l c) := by unfold sumK; rw [List.foldl_append]
theorem sumN_diff (l m : List UInt8) (x y : UInt8) (h : x ≠ y) : sumN (l ++ x :: m) ≠ sumN (l ++ y :: m) := by
  intro e
  have h1 := sumK_lt (l ++ x :: m) (c := 4294967295) (by decide)
  have h2 := sumK_lt (l ++ y :: m) (c := 4294967295) (by decide)
  have h3 : sumK (l ++ x :: m) 4294967295 = sumK (l ++ y :: m) 4294967295 := by unfold sumN at e; omega
  rw [sumK_app, sumK_app] at h3
  have hl := sumK_lt l (c := 4294967295) (by decide)
  have hx : x.toNat < 256 := x.toNat_lt
  have hy : y.toNat < 256 := y.toNat_lt
  have h4 := sumK_inj m (rndN_lt (xor_lt hl (show x.toNat < 4294967296 by omega)) 8) (rndN_lt (xor_lt hl (show y.toNat < 4294967296 by omega)) 8) h3
  have h5 := rndN_inj (xor_lt hl (by omega)) (xor_lt hl (by omega)) 8 h4
  rw [Nat.xor_comm, Nat.xor_comm _ y.toNat] at h5
  exact h (UInt8.toNat_inj.1 (xor_can h5))
end Go.Proofs.YtkogdnkifnhljaaDoor
