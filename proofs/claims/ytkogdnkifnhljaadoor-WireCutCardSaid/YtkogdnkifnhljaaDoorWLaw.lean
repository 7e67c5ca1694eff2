/- The plain law of wire's records: what is written is read, and what is read was written so. -/
import Derived.Test.YtkogdnkifnhljaaDoorDecP
namespace Go.Proofs.YtkogdnkifnhljaaDoor
open Go.RowKit
abbrev bS (l : List UInt8) : ByteArray := ⟨l.toArray⟩
theorem bs_bS (l : List UInt8) : bs (bS l) = l := rfl
theorem bS_bs (s : ByteArray) : bS (bs s) = s := by
  apply ByteArray.ext
  simp [bs]
theorem bS_size (l : List UInt8) : (bS l).size = l.length := by show l.toArray.size = _; simp
theorem valN_cons (c : UInt8) (l : List UInt8) : valN (c :: l) = c.toNat * 256 ^ l.length + valN l := by
  refine list_snoc_rec (P := fun l => valN (c :: l) = c.toNat * 256 ^ l.length + valN l) ?_ ?_ l
  · show 0 * 256 + c.toNat = c.toNat * 1 + 0
    omega
  · intro l d ih
    rw [← List.cons_append, valN_snoc, ih, valN_snoc, List.length_append, List.length_singleton, Nat.pow_succ, Nat.add_mul, ← Nat.mul_assoc]
    omega
theorem valN_be : ∀ (n x : Nat), valN (be n x) = x % 256 ^ n
  | 0, x => by rw [Nat.pow_zero, Nat.mod_one]; rfl
  | n + 1, x => by
    have h : be (n + 1) x = UInt8.ofNat (x / 256 ^ n) :: be n x := rfl
    rw [h, valN_cons, valN_be n x, be_length, Nat.mod_pow_succ, Nat.mul_comm, Nat.add_comm]
    congr 2
theorem be_add : ∀ (n a v : Nat), be n (a * 256 ^ n + v) = be n v
  | 0, _, _ => rfl
  | n + 1, a, v => by
    have e : a * 256 ^ (n + 1) + v = (a * 256) * 256 ^ n + v := by rw [Nat.pow_succ, Nat.mul_comm (256 ^ n), Nat.mul_assoc]
    rw [e]
    show UInt8.ofNat (((a * 256) * 256 ^ n + v) / 256 ^ n) :: be n ((a * 256) * 256 ^ n + v) = UInt8.ofNat (v / 256 ^ n) :: be n v
    rw [be_add n (a * 256) v, Nat.add_comm, Nat.add_mul_div_right _ _ (Nat.pow_pos (by decide))]
    congr 1
    apply UInt8.toNat_inj.1
    simp
theorem be_valN : ∀ (l : List UInt8), be l.length (valN l) = l
  | [] => rfl
  | c :: l => by
    have h : valN (c :: l) = c.toNat * 256 ^ l.length + valN l := valN_cons c l
    have hl := valN_lt l
    rw [h]
    show UInt8.ofNat ((c.toNat * 256 ^ l.length + valN l) / 256 ^ l.length) :: be l.length (c.toNat * 256 ^ l.length + valN l) = _
    rw [be_add, be_valN l, Nat.add_comm, Nat.add_mul_div_right _ _ (Nat.pow_pos (by decide)), Nat.div_eq_of_lt hl]
    congr 1
    apply UInt8.toNat_inj.1
    simp
theorem valI_wrap (l : List UInt8) : valI l = wrap64 (valN l : Int) := by
  refine list_snoc_rec (P := fun l => valI l = wrap64 (valN l : Int)) ?_ ?_ l
  · show (0 : Int) = wrap64 0
    unfold wrap64
    omega
  · intro l c ih
    rw [valI_snoc, ih, valN_snoc]
    unfold wrap64
    omega
theorem be_one (x : Nat) : be 1 x = [UInt8.ofNat x] := by
  show [UInt8.ofNat (x / 256 ^ 0)] = _
  rw [Nat.pow_zero, Nat.div_one]
theorem eat {x y : List UInt8} {n : Nat} (h : x.length = n) : badT (bS (x ++ y)) false n = false ∧ takeT (bS (x ++ y)) false n = bS x ∧ restT (bS (x ++ y)) false n = bS y := by
  have hb : badT (bS (x ++ y)) false n = false := by
    unfold badT
    rw [Bool.false_or, bS_size, List.length_append]
    exact decide_eq_false (by omega)
  obtain ⟨_, h2, h3, _⟩ := tk_ok hb
  refine ⟨hb, bs_inj ?_, bs_inj ?_⟩
  · rw [h2, bs_bS, bs_bS, ← h, List.take_left]
  · rw [h3, bs_bS, bs_bS, ← h, List.drop_left]
theorem dec_shape (B C more : List UInt8) (n : Nat) (hn : n ≤ 1024) (hB : B.length = n) (hC : C.length = 4) :
    decR (bS ([84] ++ (be 2 n ++ (B ++ (C ++ more))))) = bif ((sumN ([84] ++ be 2 n ++ B) : Nat) : Int) != (valN C : Int) then (txn0, 0, 5) else dB1 n (bS B) false := by
  have e1 := eat (x := [84]) (y := be 2 n ++ (B ++ (C ++ more))) (n := 1) rfl
  have e2 := eat (x := be 2 n) (y := B ++ (C ++ more)) (n := 2) (be_length _ _)
  have e3 := eat (x := B) (y := C ++ more) (n := n) hB
  have e4 := eat (x := C) (y := more) (n := 4) hC
  have hv : valI (bs (bS (be 2 n))) = (n : Int) := by
    rw [bs_bS, valI_nat _ (by rw [be_length]; decide), valN_be, Nat.mod_eq_of_lt (by omega)]
  have hx : bs ((bS ([84] ++ (be 2 n ++ (B ++ (C ++ more))))).extract 0 (3 + n)) = [84] ++ be 2 n ++ B := by
    rw [bs_extractTD, List.drop_zero, bs_bS]
    have : [84] ++ (be 2 n ++ (B ++ (C ++ more))) = ([84] ++ be 2 n ++ B) ++ (C ++ more) := by simp only [List.append_assoc]
    rw [this, List.take_left' (by simp [be_length]; omega)]
  unfold decR
  rw [e1.1, e1.2.1, e1.2.2]
  have h0 : (!((bS [84]).toList == [84])) = false := by rw [ByteArray.toList_eq]; rfl
  rw [dec1_ok h0 (n := n) (by rw [e2.2.1]; exact hv), e2.1, e2.2.2, dec2_ok (by decide) (by omega), e3.1, e3.2.1, e3.2.2]
  unfold dec3
  rw [e4.1, e4.2.1, bs_bS, valI_nat _ (by omega)]
  unfold dec4
  rw [hx]
  rfl
theorem dB1_eval (n : Int) (z o s v ow : Nat) (p d : List UInt8) (hz : z < 4611686018427387904) (ho : o < 256) (hs : s < 4294967296) (hv : v < 4294967296) (how : ow < 4294967296) (hp : p.length < 256) (hd : d.length < 65536) :
    dB1 n (bS (bodyL z o s v ow p d)) false = dB10 n z o s v ow (bS p) (bS d) (bS []) false := by
  have hb : bodyL z o s v ow p d = be 8 z ++ (be 1 o ++ (be 4 s ++ (be 4 v ++ (be 4 ow ++ (be 1 p.length ++ (p ++ (be 2 d.length ++ (d ++ [])))))))) := by
    unfold bodyL
    simp only [List.append_assoc, be_one, List.append_nil]
  have f8 : valI (bs (bS (be 8 z))) = (z : Int) := by
    rw [bs_bS, valI_wrap, valN_be, Nat.mod_eq_of_lt (by omega)]
    unfold wrap64
    omega
  have fk : ∀ (k x : Nat), k ≤ 7 → x < 256 ^ k → valI (bs (bS (be k x))) = (x : Int) := by
    intro k x hk hx
    rw [bs_bS, valI_nat _ (by rw [be_length]; exact hk), valN_be, Nat.mod_eq_of_lt hx]
  rw [hb]
  unfold dB1
  have e := eat (x := be 8 z) (y := be 1 o ++ (be 4 s ++ (be 4 v ++ (be 4 ow ++ (be 1 p.length ++ (p ++ (be 2 d.length ++ (d ++ [])))))))) (n := 8) (be_length _ _)
  rw [e.1, e.2.1, e.2.2, f8]
  unfold dB2
  have e := eat (x := be 1 o) (y := be 4 s ++ (be 4 v ++ (be 4 ow ++ (be 1 p.length ++ (p ++ (be 2 d.length ++ (d ++ []))))))) (n := 1) (be_length _ _)
  rw [e.1, e.2.1, e.2.2, fk 1 o (by decide) (by omega)]
  unfold dB3
  have e := eat (x := be 4 s) (y := be 4 v ++ (be 4 ow ++ (be 1 p.length ++ (p ++ (be 2 d.length ++ (d ++ [])))))) (n := 4) (be_length _ _)
  rw [e.1, e.2.1, e.2.2, fk 4 s (by decide) (by omega)]
  unfold dB4
  have e := eat (x := be 4 v) (y := be 4 ow ++ (be 1 p.length ++ (p ++ (be 2 d.length ++ (d ++ []))))) (n := 4) (be_length _ _)
  rw [e.1, e.2.1, e.2.2, fk 4 v (by decide) (by omega)]
  unfold dB5
  have e := eat (x := be 4 ow) (y := be 1 p.length ++ (p ++ (be 2 d.length ++ (d ++ [])))) (n := 4) (be_length _ _)
  rw [e.1, e.2.1, e.2.2, fk 4 ow (by decide) (by omega)]
  unfold dB6
  have e := eat (x := be 1 p.length) (y := p ++ (be 2 d.length ++ (d ++ []))) (n := 1) (be_length _ _)
  rw [e.1, e.2.1, e.2.2, fk 1 p.length (by decide) (by omega), Int.toNat_natCast]
  unfold dB7
  have e := eat (x := p) (y := be 2 d.length ++ (d ++ [])) (n := p.length) rfl
  rw [e.1, e.2.1, e.2.2]
  unfold dB8
  have e := eat (x := be 2 d.length) (y := d ++ []) (n := 2) (be_length _ _)
  rw [e.1, e.2.1, e.2.2, fk 2 d.length (by decide) (by omega), Int.toNat_natCast]
  unfold dB9
  have e := eat (x := d) (y := []) (n := d.length) rfl
  rw [e.1, e.2.1, e.2.2]
end Go.Proofs.YtkogdnkifnhljaaDoor
