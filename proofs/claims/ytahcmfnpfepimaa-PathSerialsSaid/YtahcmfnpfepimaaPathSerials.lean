/- The law PathSerials is true for every input; no conditions. -/
import Derived.Test.YtahcmfnpfepimaaSerial
namespace Go.Proofs.Ytahcmfnpfepimaa
open Go.ChangeShapes Go.WideShapes Go.ChangeAt Go.RowKit
theorem bytesLess_append (p x y : List UInt8) : Op.bytesLess (p ++ x) (p ++ y) = Op.bytesLess x y := by
  induction p with
  | nil => rfl
  | cons c p ih =>
    simp only [List.cons_append, Op.bytesLess, ih]
    have : ¬ c < c := UInt8.lt_irrefl c
    simp [this]
theorem bytesLess_snoc : ∀ (x y : List UInt8) (c d : UInt8), x.length = y.length → Op.bytesLess (x ++ [c]) (y ++ [d]) = (Op.bytesLess x y || (x == y && decide (c < d)))
  | [], [], c, d, _ => by simp [Op.bytesLess]
  | a :: x, b :: y, c, d, h => by
    have ih := bytesLess_snoc x y c d (by simpa using h)
    simp only [List.cons_append, Op.bytesLess, ih]
    by_cases hab : a = b
    · subst hab
      have : ¬ a < a := UInt8.lt_irrefl a
      simp [this]
    · have hab' : (a == b) = false := by simpa using hab
      simp [hab']
  | [], _ :: _, _, _, h => by simp at h
  | _ :: _, [], _, _, h => by simp at h
theorem digit_inj {a b : Nat} (ha : a < 10) (hb : b < 10) : (UInt8.ofNat (48 + a) = UInt8.ofNat (48 + b)) ↔ a = b := by
  rw [← UInt8.toNat_inj]
  simp
  omega
theorem digit_lt {a b : Nat} (ha : a < 10) (hb : b < 10) : (UInt8.ofNat (48 + a) < UInt8.ofNat (48 + b)) ↔ a < b := by
  rw [UInt8.lt_iff_toNat_lt]
  simp
  omega
theorem digs_inj : ∀ (k n m : Nat), n < 10 ^ k → m < 10 ^ k → (digs k n = digs k m ↔ n = m)
  | 0, n, m, hn, hm => by simp [digs]; simp at hn hm; omega
  | k + 1, n, m, hn, hm => by
    have ih := digs_inj k (n / 10) (m / 10) (by rw [Nat.pow_succ] at hn; omega) (by rw [Nat.pow_succ] at hm; omega)
    rw [digs, digs]
    constructor
    · intro h
      have h1 := List.append_inj h (by simp [length_digs])
      have h2 := ih.1 h1.1
      have h3 := (digit_inj (Nat.mod_lt _ (by omega)) (Nat.mod_lt _ (by omega))).1 (by simpa using h1.2)
      omega
    · rintro rfl; rfl
theorem digs_less : ∀ (k n m : Nat), n < 10 ^ k → m < 10 ^ k → Op.bytesLess (digs k n) (digs k m) = decide (n < m)
  | 0, n, m, hn, hm => by simp at hn hm; subst hn; subst hm; rfl
  | k + 1, n, m, hn, hm => by
    have h1 : n / 10 < 10 ^ k := by rw [Nat.pow_succ] at hn; omega
    have h2 : m / 10 < 10 ^ k := by rw [Nat.pow_succ] at hm; omega
    rw [digs, digs, bytesLess_snoc _ _ _ _ (by simp [length_digs]), digs_less k _ _ h1 h2]
    have h3 : (digs k (n / 10) == digs k (m / 10)) = decide (n / 10 = m / 10) := by
      rw [Bool.eq_iff_iff]; simp [digs_inj k _ _ h1 h2]
    rw [h3, Bool.eq_iff_iff]
    simp only [Bool.or_eq_true, Bool.and_eq_true, decide_eq_true_eq, digit_lt (Nat.mod_lt n (by omega : 0 < 10)) (Nat.mod_lt m (by omega : 0 < 10))]
    omega
theorem serial_q7 (w : World) :
    Calls Try.prog 21 #[.string ⟨#[113]⟩, .int .i64 7] w fun e w' => e = .returned (.tuple #[.string ⟨#[113, 48, 48, 48, 48, 48, 48, 48, 48, 48, 55]⟩, .int .i64 0]) ∧ Below w.heap.size w w' :=
  (serial_walk ⟨#[113]⟩ 7 [113, 48, 48, 48, 48, 48, 48, 48, 48, 48, 55] (by decide : bs ⟨#[113]⟩ ++ digs 10 7 = [113, 48, 48, 48, 48, 48, 48, 48, 48, 48, 55]) w (by omega) (by decide)).mono fun e w' ⟨he, hb⟩ => ⟨by rw [he]; unfold serialR; rw [show named [113, 48, 48, 48, 48, 48, 48, 48, 48, 48, 55] = true from by decide]; rfl, hb⟩
/-- an answer with an error: the text is empty -/
def NoText (w : World) (e : Ending) (w' : World) : Prop := ∃ c : Int, (c == 0) = false ∧ (c != 0) = true ∧ e = .returned (.tuple #[.string ⟨#[]⟩, .int .i64 c]) ∧ Below w.heap.size w w'
/-- a step, or none -/
theorem serial_any (s : ByteArray) (n : Int) (hs : s.size ≤ 140737488351232) :
    (∃ k : Nat, n = k ∧ k ≤ 2147483647 ∧ named (bs s ++ digs 10 k) = true ∧ ∀ w : World, Calls Try.prog 21 #[.string s, .int .i64 n] w fun e w' => e = .returned (.tuple #[.string ⟨(bs s ++ digs 10 k).toArray⟩, .int .i64 0]) ∧ Below w.heap.size w w') ∨
    ∀ w : World, Calls Try.prog 21 #[.string s, .int .i64 n] w (NoText w) := by
  by_cases hr : n < 0 ∨ 2147483647 < n
  · exact .inr fun w => (serial_range s n w hr).mono fun e w' ⟨he, hw⟩ => ⟨3, by decide, by decide, he, by rw [← hw]; exact Below.refl _ _⟩
  · obtain ⟨k, rfl⟩ : ∃ k : Nat, n = k := ⟨n.toNat, by omega⟩
    cases hn : named (bs s ++ digs 10 k)
    · exact .inr fun w => (serial_walk s k _ rfl w (by omega) hs).mono fun e w' ⟨he, hb⟩ => ⟨2, by decide, by decide, by rw [he]; unfold serialR; rw [hn]; rfl, hb⟩
    · exact .inl ⟨k, rfl, by omega, hn, fun w => (serial_walk s k _ rfl w (by omega) hs).mono fun e w' ⟨he, hb⟩ => ⟨by rw [he]; unfold serialR; rw [hn]; rfl, hb⟩⟩
set_option maxHeartbeats 1000000 in
theorem pathSerials_any (s : ByteArray) (n m : Int) (w : World) (hs : s.size ≤ 140737488351232) :
    Calls Try.prog 5 #[.string s, .int .i64 n, .int .i64 m] w fun e w' => e = .returned (.bool true) ∧ Below w.heap.size w w' := by
  rcases serial_any s n hs with ⟨k, rfl, hk, hnk, hA⟩ | hA
  · rcases serial_any s m hs with ⟨j, rfl, hj, hnj, hB⟩ | hB
    · have HA := Lib.hid hA
      have HB := Lib.hid hB
      have HN := Lib.hid hnk
      clear hA hB hnk hnj
      generalize hLa : bs s ++ digs 10 k = La at HA HN
      generalize hLb : bs s ++ digs 10 j = Lb at HB
      have g1 : ((La.length : Int) == (s.size : Int) + 10) = true := by rw [← hLa]; simp [length_digs]
      have g0 : s.size ≤ La.length := by rw [← hLa]; simp
      have g2 : ((⟨La.toArray⟩ : ByteArray).extract 0 s.size).toList = s.toList := by
        rw [ByteArray.toList_eq, ByteArray.toList_eq, ← hLa]
        simp [bs]
      have g4 : Op.bytesLess La Lb = decide (k < j) := by rw [← hLa, ← hLb, bytesLess_append, digs_less 10 k j (by omega) (by omega)]
      have G5 := Lib.hid (show (La == Lb) = decide (k = j) by
        rw [← hLa, ← hLb, Bool.eq_iff_iff]
        simp [digs_inj 10 k j (by omega) (by omega)])
      have HL := Lib.hid (show (⟨La.toArray⟩ : ByteArray).size ≤ 9223372036854775807 by
        show La.toArray.size ≤ _
        rw [← hLa]
        simp [length_digs]
        omega)
      clear hLa hLb
      go_enter Try.func5, Try.ntmps5
      go_wp2_with fail
      refine (HA.out _).mono ?_
      rintro e w1 ⟨rfl, hb1⟩
      go_wp2_with fail
      refine (HB.out _).mono ?_
      rintro e w2 ⟨rfl, hb2⟩
      go_wp2_with fail
      refine (serial_q7 _).mono ?_
      rintro e w3 ⟨rfl, hb3⟩
      go_wp2_with (go_at_call 22; refine (named_any _ _ HL.out).mono ?_; rw [bs_mk, HN.out]; rintro e w1 ⟨rfl, rfl⟩)
      go_ret
      refine ⟨ret_bool' ?_, (Below.own (Below.own hb1 hb2) hb3)⟩
      rw [G5.out]
      by_cases hkj : k = j
      · simp [hkj]
      · simp [hkj]
        omega
    · have HA := Lib.hid hA
      clear hA hnk
      go_enter Try.func5, Try.ntmps5
      go_wp2_with fail
      refine (HA.out _).mono ?_
      rintro e w1 ⟨rfl, hb1⟩
      go_wp2_with fail
      refine (hB _).mono ?_
      rintro e w2 ⟨c, hc, hd, rfl, hb2⟩
      go_wp2_with fail
      refine (serial_q7 _).mono ?_
      rintro e w3 ⟨rfl, hb3⟩
      go_wp2
      all_goals
        go_ret
        exact ⟨rfl, (Below.own (Below.own hb1 hb2) hb3)⟩
  · rcases serial_any s m hs with ⟨j, rfl, hj, hnj, hB⟩ | hB
    · have HB := Lib.hid hB
      clear hB hnj
      go_enter Try.func5, Try.ntmps5
      go_wp2_with fail
      refine (hA _).mono ?_
      rintro e w1 ⟨c, hc, hd, rfl, hb1⟩
      go_wp2_with fail
      refine (HB.out _).mono ?_
      rintro e w2 ⟨rfl, hb2⟩
      go_wp2_with fail
      refine (serial_q7 _).mono ?_
      rintro e w3 ⟨rfl, hb3⟩
      go_wp2
      all_goals
        go_ret
        exact ⟨rfl, (Below.own (Below.own hb1 hb2) hb3)⟩
    · go_enter Try.func5, Try.ntmps5
      go_wp2_with fail
      refine (hA _).mono ?_
      rintro e w1 ⟨c, hc, hd, rfl, hb1⟩
      go_wp2_with fail
      refine (hB _).mono ?_
      rintro e w2 ⟨c', hc', hd', rfl, hb2⟩
      go_wp2_with fail
      refine (serial_q7 _).mono ?_
      rintro e w3 ⟨rfl, hb3⟩
      go_wp2
      all_goals
        go_ret
        exact ⟨rfl, (Below.own (Below.own hb1 hb2) hb3)⟩
namespace pathSerials
theorem own : ownKnob Try.prog.godebug = none := by kernel_rfl
theorem laidOut : laidOutB Try.prog = true := by kernel_rfl
set_option maxRecDepth 100000 in
set_option maxHeartbeats 1000000 in
theorem lifted (os : Os) (started : os.Started) (H : Type) (enc : TypeId × Value → H) :
    ReturnsInHanded {} Try.checked os 5 .any (Rows.pathSerialsSpec.pre6 enc Try.prog Try.f5 Rows.pathSerialsRow.domain false) (Rows.pathSerialsSpec.post enc Try.prog Try.f5 false true false false) := by
  refine returnsInHanded_of_change_sized (C := Try.checked) own started (by kernel_rfl) Try.func5
    (ChangeSpec.witness6 (enc := enc) (C := Try.checked) false ⟨#[], #[.string ByteArray.empty, .int .i64 0, .int .i64 0], []⟩ 8 (by kernel_rfl) (by kernel_rfl) (by kernel_rfl) (by kernel_rfl)) ?_
  intro W base args ds gs before hval0 hW0 _ hsz0 _
  have hval : ∀ (j : Nat) t v, Try.f5.params[j]? = some t → args[j]? = some v → Value.okWide Try.prog W .any base t v := hval0
  have hW : DataW.Whole enc Try.prog Try.f5.params.toList Rows.pathSerialsSpec.vars false W args.toList ds gs before := hW0
  have hlt : ∀ p ∈ before, p.block < W.heap.size := fun p hp => hW.lt p hp
  have hW1 := hW
  obtain ⟨p, q, hA0, hV, rfl, hfz, hnd⟩ := hW1
  have hA : DataW.TrodAll enc Try.prog W 0 (fun _ => true) true Try.f5.params.toList args.toList ds p := hA0
  obtain ⟨rfl, rfl⟩ := trodVars_none hV
  rw [Try.params5] at hA hval
  obtain ⟨v0, vs0, d0, ds0, p0, q0, hargs, rfl, rfl, h0, r0⟩ := trodAll_cons hA
  obtain ⟨v1, vs1, d1, ds1, p1, q1, rfl, rfl, rfl, h1, r1⟩ := trodAll_cons r0
  obtain ⟨v2, vs2, d2, ds2, p2, q2, rfl, rfl, rfl, h2, r2⟩ := trodAll_cons r1
  obtain ⟨rfl, rfl, rfl⟩ := trodAll_nil r2
  obtain rfl : args = #[v0, v1, v2] := by cases args; simp_all
  have hsz : (DataW.weightsEach Try.prog [9, 3, 3] [d0, d1, d2]).all (· ≤ reachBytes) = true := hsz0
  have close : ∀ e W', (e = Ending.returned (.bool true) ∧ Below W.heap.size W W') → ∃ v, e = .returned v ∧ Rows.pathSerialsSpec.post enc Try.prog Try.f5 false true false false W #[v0, v1, v2] v W' :=
    fun e W' ⟨he, hb⟩ => ⟨_, he, law_post laidOut (of_decide_eq_true (by kernel_rfl)) rfl rfl Try.underlying4 hW rfl hb⟩
  clear hA0 hsz0 hval0 hW0 hA hV hW hfz hnd
  obtain ⟨a0, rfl, hd0, _, wf0⟩ := Go.ChangeMaps.open_string Try.underlying9 (hval 0 9 v0 rfl rfl) h0
  have rb0 : a0.size ≤ 140737488351232 := by subst hd0; have := sized_string hsz (j := 0) rfl rfl; simpa [reachBytes] using this
  obtain ⟨a1, rfl, hd1, _, wf1⟩ := open_int Try.underlying3 (hval 1 3 v1 rfl rfl) h1
  obtain ⟨a2, rfl, hd2, _, wf2⟩ := open_int Try.underlying3 (hval 2 3 v2 rfl rfl) h2
  exact (pathSerials_any a0 a1 a2 W rb0).mono close
theorem proved : Rows.PathSerialsSaid :=
  OpenClaim.holds_of_wide 5 Try.f5 rfl rfl rfl rfl rfl rfl rfl ⟨rfl, rfl, rfl, rfl, rfl⟩ rfl rfl rfl rfl rfl (by kernel_rfl) Try.func5 (by kernel_rfl)
    (of_decide_eq_true (by kernel_rfl)) (by unfold Func.isWrapper; first | (rw [if_pos (by decide +kernel)]; kernel_rfl) | (rw [if_neg (by decide +kernel)]; exact ⟨rfl, rfl⟩))
    (fun os started H enc _ => lifted os started H enc)
end pathSerials
end Go.Proofs.Ytahcmfnpfepimaa
