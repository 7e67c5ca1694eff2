/- The plain laws of wire's records: a byte that is changed, and what is read at all. -/
import Derived.Test.YtkogdnkifnhljaaDoorWLaw2
namespace Go.Proofs.YtkogdnkifnhljaaDoor
open Go.RowKit
theorem list_at {l : List UInt8} {i : Nat} {c : UInt8} (h : l[i]? = some c) : l = l.take i ++ c :: l.drop (i + 1) := by
  obtain ⟨hlt, hc⟩ := List.getElem?_eq_some_iff.1 h
  have := List.take_append_drop i l
  rw [List.drop_eq_getElem_cons hlt, hc] at this
  exact this.symm
theorem valN_inj {a b : List UInt8} (hl : a.length = b.length) (h : valN a = valN b) : a = b := by
  rw [← be_valN a, ← be_valN b, h, hl]
theorem turned_shape (B C : List UInt8) (hB : B.length ≤ 1024) (hC : C.length = 4) (hs : sumN ([84] ++ be 2 B.length ++ B) = valN C) (i : Nat) (c c' : UInt8) (hc : (B ++ C)[i]? = some c) (hne : c' ≠ c) :
    decR (bS ([84] ++ (be 2 B.length ++ ((B ++ C).take i ++ c' :: (B ++ C).drop (i + 1))))) = (txn0, 0, 5) := by
  by_cases hi : i < B.length
  · have hcB : B[i]? = some c := by rw [List.getElem?_append_left hi] at hc; exact hc
    have eB := list_at hcB
    have e1 : (B ++ C).take i ++ c' :: (B ++ C).drop (i + 1) = (B.take i ++ c' :: B.drop (i + 1)) ++ (C ++ []) := by
      rw [List.take_append_of_le_length (by omega), List.drop_append_of_le_length (by omega)]
      simp
    have hl : (B.take i ++ c' :: B.drop (i + 1)).length = B.length := by
      simp
      omega
    rw [e1, dec_shape _ C [] B.length hB hl hC, ← hs]
    have hd : sumN ([84] ++ be 2 B.length ++ (B.take i ++ c' :: B.drop (i + 1))) ≠ sumN ([84] ++ be 2 B.length ++ B) := by
      have := sumN_diff ([84] ++ be 2 B.length ++ B.take i) (B.drop (i + 1)) c' c hne
      rw [List.append_assoc, List.append_assoc ([84] ++ be 2 B.length), ← eB] at this
      exact this
    rw [show (((sumN ([84] ++ be 2 B.length ++ (B.take i ++ c' :: B.drop (i + 1))) : Nat) : Int) != ((sumN ([84] ++ be 2 B.length ++ B) : Nat) : Int)) = true from bne_iff_ne.2 (fun e => hd (by omega))]
    rfl
  · have hj : (B ++ C)[i]? = C[i - B.length]? := List.getElem?_append_right (by omega)
    rw [hj] at hc
    have eC := list_at hc
    have e1 : (B ++ C).take i ++ c' :: (B ++ C).drop (i + 1) = B ++ ((C.take (i - B.length) ++ c' :: C.drop (i - B.length + 1)) ++ []) := by
      rw [List.take_append, List.take_of_length_le (by omega), List.drop_append, List.drop_of_length_le (by omega), show i + 1 - B.length = i - B.length + 1 by omega]
      simp
    obtain ⟨hlt, _⟩ := List.getElem?_eq_some_iff.1 hc
    have hl : (C.take (i - B.length) ++ c' :: C.drop (i - B.length + 1)).length = 4 := by
      simp
      omega
    rw [e1, dec_shape B _ [] B.length hB rfl hl, hs]
    have hd : valN C ≠ valN (C.take (i - B.length) ++ c' :: C.drop (i - B.length + 1)) := by
      intro e
      have e2 := valN_inj (by rw [hl, hC]) e
      have e3 := congrArg (fun l => l[i - B.length]?) e2
      rw [hc, List.getElem?_append_right (by rw [List.length_take]; omega), List.length_take, Nat.min_eq_left (by omega), Nat.sub_self] at e3
      simp at e3
      exact hne e3.symm
    rw [show (((valN C : Nat) : Int) != ((valN (C.take (i - B.length) ++ c' :: C.drop (i - B.length + 1)) : Nat) : Int)) = true from bne_iff_ne.2 (fun e => hd (by omega))]
    rfl
theorem dec_turned (t : Txn) (h : goodT t = 0) (i : Nat) (c c' : UInt8) (hc : (recT t)[i + 3]? = some c) (hne : c' ≠ c) :
    decR (bS ((recT t).take (i + 3) ++ c' :: (recT t).drop (i + 4))) = (txn0, 0, 5) := by
  have hB := body_small t h
  unfold recT at *
  generalize bodyL t.zxid.toNat t.op.toNat t.session.toNat t.version.toNat t.owner.toNat (bs t.path) (bs t.data) = B at *
  have e : recL B = ([84] ++ be 2 B.length) ++ (B ++ be 4 (sumN (headL B))) := by
    unfold recL headL
    simp only [List.append_assoc]
  have h3 : ([84] ++ be 2 B.length).length = 3 := by simp [be_length]
  rw [e, List.getElem?_append_right (by omega), h3, Nat.add_sub_cancel] at hc
  have hv : sumN ([84] ++ be 2 B.length ++ B) = valN (be 4 (sumN (headL B))) := by
    rw [valN_be, Nat.mod_eq_of_lt (show sumN (headL B) < 256 ^ 4 from sumN_lt _)]
    rfl
  have e2 := turned_shape B (be 4 (sumN (headL B))) hB (be_length _ _) hv i c c' hc hne
  have e3 : (recL B).take (i + 3) ++ c' :: (recL B).drop (i + 4) = [84] ++ (be 2 B.length ++ ((B ++ be 4 (sumN (headL B))).take i ++ c' :: (B ++ be 4 (sumN (headL B))).drop (i + 1))) := by
    rw [e, List.take_append, List.take_of_length_le (by omega), List.drop_append, List.drop_of_length_le (by omega), h3, Nat.add_sub_cancel, show i + 4 - 3 = i + 1 by omega]
    simp only [List.append_assoc, List.nil_append]
  rw [e3]
  exact e2
theorem tk_two {s : ByteArray} {b : Bool} {n : Nat} (h : badT s b n = false) : b = false ∧ bs s = bs (takeT s b n) ++ bs (restT s b n) ∧ (bs (takeT s b n)).length = n := by
  obtain ⟨h1, h2, h3, h4⟩ := tk_ok h
  refine ⟨h1, ?_, ?_⟩
  · rw [h2, h3, List.take_append_drop]
  · rw [h2, List.length_take, length_bs]
    omega
theorem val7 {l : List UInt8} {n : Nat} (h : l.length = n) (hn : n ≤ 7) : be n (valI l).toNat = l := by
  rw [valI_nat l (by omega), Int.toNat_natCast, ← h, be_valN]
theorem val8 {l : List UInt8} (h : l.length = 8) (h0 : 0 ≤ valI l) : be 8 (valI l).toNat = l := by
  have hl := valN_lt l
  rw [h] at hl
  have e : (valI l).toNat = valN l := by
    rw [valI_wrap] at *
    unfold wrap64 at *
    omega
  rw [e, ← h, be_valN]
theorem dB1_inv (n : Int) (B : ByteArray) : (∃ t, goodT t = 0 ∧ bs B = bodyL t.zxid.toNat t.op.toNat t.session.toNat t.version.toNat t.owner.toNat (bs t.path) (bs t.data) ∧ dB1 n B false = (t, n + 7, 0)) ∨ ∃ e, e ≠ 0 ∧ dB1 n B false = (txn0, 0, e) := by
  unfold dB1 dB2 dB3 dB4 dB5 dB6 dB7 dB8 dB9
  generalize hu1 : restT B false 8 = u1
  generalize hc1 : badT B false 8 = c1
  generalize hu2 : restT u1 c1 1 = u2
  generalize hc2 : badT u1 c1 1 = c2
  generalize hu3 : restT u2 c2 4 = u3
  generalize hc3 : badT u2 c2 4 = c3
  generalize hu4 : restT u3 c3 4 = u4
  generalize hc4 : badT u3 c3 4 = c4
  generalize hu5 : restT u4 c4 4 = u5
  generalize hc5 : badT u4 c4 4 = c5
  generalize hu6 : restT u5 c5 1 = u6
  generalize hc6 : badT u5 c5 1 = c6
  generalize hpl : (valI (bs (takeT u5 c5 1))).toNat = pl
  generalize hu7 : restT u6 c6 pl = u7
  generalize hc7 : badT u6 c6 pl = c7
  generalize hu8 : restT u7 c7 2 = u8
  generalize hc8 : badT u7 c7 2 = c8
  generalize hdl : (valI (bs (takeT u7 c7 2))).toNat = dl
  generalize hu9 : restT u8 c8 dl = u9
  generalize hc9 : badT u8 c8 dl = c9
  cases hb : c9 with
  | true => exact .inr ⟨2, by decide, dB10_bad rfl⟩
  | false =>
    cases hm : !u9.toList.isEmpty with
    | true => exact .inr ⟨2, by decide, dB10_more hm⟩
    | false =>
      cases hg : goodT ⟨valI (bs (takeT B false 8)), valI (bs (takeT u1 c1 1)), valI (bs (takeT u2 c2 4)), takeT u6 c6 pl, takeT u8 c8 dl, valI (bs (takeT u3 c3 4)), valI (bs (takeT u4 c4 4))⟩ != 0 with
      | true => exact .inr ⟨_, bne_iff_ne.1 hg, dB10_not (by decide) hm hg⟩
      | false =>
        have hg0 : goodT ⟨valI (bs (takeT B false 8)), valI (bs (takeT u1 c1 1)), valI (bs (takeT u2 c2 4)), takeT u6 c6 pl, takeT u8 c8 dl, valI (bs (takeT u3 c3 4)), valI (bs (takeT u4 c4 4))⟩ = 0 := by simpa using hg
        refine .inl ⟨_, hg0, ?_, dB10_ok (by decide) hm hg⟩
        have f := goodT_facts _ hg0
        have f0 := f.z0
        dsimp only at f0 ⊢
        have k9 := tk_two (hc9.trans hb)
        have k8 := tk_two (hc8.trans k9.1)
        have k7 := tk_two (hc7.trans k8.1)
        have k6 := tk_two (hc6.trans k7.1)
        have k5 := tk_two (hc5.trans k6.1)
        have k4 := tk_two (hc4.trans k5.1)
        have k3 := tk_two (hc3.trans k4.1)
        have k2 := tk_two (hc2.trans k3.1)
        have k1 := tk_two (hc1.trans k2.1)
        have h9 : bs u9 = [] := by
          rw [ByteArray.toList_eq] at hm
          unfold bs
          simpa using hm
        have v1 := val8 k1.2.2 f0
        have v2 := val7 k2.2.2 (by decide)
        have v3 := val7 k3.2.2 (by decide)
        have v4 := val7 k4.2.2 (by decide)
        have v5 := val7 k5.2.2 (by decide)
        have v6 := val7 k6.2.2 (by decide)
        have v8 := val7 k8.2.2 (by decide)
        rw [hpl] at v6
        rw [hdl] at v8
        rw [k1.2.1, hu1, k2.2.1, hu2, k3.2.1, hu3, k4.2.1, hu4, k5.2.1, hu5, k6.2.1, hu6, k7.2.1, hu7, k8.2.1, hu8, k9.2.1, hu9, h9]
        unfold bodyL
        rw [v1, ← be_one, v2, v3, v4, v5, k7.2.2, ← be_one, v6, k9.2.2, v8]
        simp only [List.append_assoc, List.append_nil]
theorem dec_inv (s : ByteArray) : (∃ t rest, goodT t = 0 ∧ bs s = recT t ++ rest ∧ decR s = (t, ((recT t).length : Int), 0)) ∨ ∃ e, e ≠ 0 ∧ decR s = (txn0, 0, e) := by
  unfold decR
  generalize hu1 : restT s false 1 = s1
  generalize hc1 : badT s false 1 = b1
  cases h1 : !((takeT s false 1).toList == [84]) with
  | true => exact .inr ⟨2, by decide, dec1_bad h1⟩
  | false =>
    obtain ⟨n, hn, _⟩ := valT s1 b1 2 (by decide)
    rw [dec1_ok h1 hn]
    generalize hu2 : restT s1 b1 2 = s2
    generalize hc2 : badT s1 b1 2 = b2
    cases hb2 : b2 with
    | true => exact .inr ⟨2, by decide, dec2_bad rfl⟩
    | false =>
      by_cases hbig : 1024 < (n : Int)
      · exact .inr ⟨2, by decide, dec2_big hbig⟩
      · rw [dec2_ok (by decide) (by omega)]
        unfold dec3
        rw [← hb2]
        generalize hu3 : restT s2 b2 n = s3
        generalize hc3 : badT s2 b2 n = b3
        generalize hc4 : badT s3 b3 4 = b4
        cases hb4 : b4 with
        | true => exact .inr ⟨2, by decide, dec4_bad rfl⟩
        | false =>
          cases hs : ((sumN (bs (s.extract 0 (3 + n))) : Nat) : Int) != valI (bs (takeT s3 b3 4)) with
          | true => exact .inr ⟨5, by decide, dec4_sum rfl hs⟩
          | false =>
            rw [dec4_ok rfl hs]
            rcases dB1_inv n (takeT s2 b2 n) with ⟨t, hg, hB, hd⟩ | h
            · have k4 := tk_two (hc4.trans hb4)
              have k3 := tk_two (hc3.trans k4.1)
              have k2 := tk_two (hc2.trans hb2)
              have k1 := tk_two (hc1.trans k2.1)
              have ht : bs (takeT s false 1) = [84] := by
                rw [ByteArray.toList_eq] at h1
                unfold bs
                simpa using h1
              have hn2 := val7 k2.2.2 (by decide)
              rw [hn, Int.toNat_natCast] at hn2
              have hv4 := val7 k4.2.2 (by decide)
              have es : bs s = [84] ++ (be 2 n ++ (bs (takeT s2 b2 n) ++ (bs (takeT s3 b3 4) ++ bs (restT s3 b3 4)))) := by
                rw [k1.2.1, hu1, ht, k2.2.1, hu2, ← hn2, k3.2.1, hu3, k4.2.1]
              have hlen := k3.2.2
              generalize bs (takeT s2 b2 n) = B at *
              have hx : bs (s.extract 0 (3 + n)) = [84] ++ be 2 n ++ B := by
                rw [bs_extractTD, List.drop_zero, es]
                have : [84] ++ (be 2 n ++ (B ++ (bs (takeT s3 b3 4) ++ bs (restT s3 b3 4)))) = ([84] ++ be 2 n ++ B) ++ (bs (takeT s3 b3 4) ++ bs (restT s3 b3 4)) := by simp only [List.append_assoc]
                rw [this, List.take_left' (by simp [be_length]; omega)]
              rw [hx] at hs
              have hs2 : ((sumN ([84] ++ be 2 n ++ B) : Nat) : Int) = valI (bs (takeT s3 b3 4)) := by simpa using hs
              rw [← hs2, Int.toNat_natCast] at hv4
              have er : recT t = [84] ++ (be 2 n ++ (B ++ bs (takeT s3 b3 4))) := by
                unfold recT recL headL
                rw [← hB, hlen, hv4]
                simp only [List.append_assoc]
              refine .inl ⟨t, bs (restT s3 b3 4), hg, ?_, ?_⟩
              · rw [es, er]
                simp only [List.append_assoc]
              · rw [hd, er]
                simp [be_length, hlen, k4.2.2]
                omega
            · exact .inr h
end Go.Proofs.YtkogdnkifnhljaaDoor
