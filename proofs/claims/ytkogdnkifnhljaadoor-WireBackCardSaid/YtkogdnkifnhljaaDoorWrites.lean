/- The wire laws' small helpers: opening, writes, pick, turned. -/
import Derived.Test.YtkogdnkifnhljaaDoorDecode
import Derived.Test.YtkogdnkifnhljaaDoorWLaw3
namespace Go.Proofs.YtkogdnkifnhljaaDoor
open Go.RowKit Go.ChangeShapes Go.WideShapes Go.ChangeAt
theorem retIw {k : Nat} {i : Int} (h : i = (k : Int)) : Ending.returned (.int .i64 i) = .returned (.int .i64 k) := by rw [h]
set_option maxHeartbeats 1000000 in
theorem pickw_is (k : Int) (n : Nat) (w : World) (h0 : 0 < n) (h1 : n ≤ 140737488355328) :
    Calls Tryd.prog 28 #[.int .i64 k, .int .i64 n] w fun e w' => ∃ f : Nat, f < n ∧ e = .returned (.int .i64 f) ∧ w = w' := by
  have ht1 : -(n : Int) < k.tmod n := by
    have := Int.tmod_lt_of_pos (-k) (show (0 : Int) < n by omega)
    rw [Int.neg_tmod] at this
    omega
  have ht2 : k.tmod n < (n : Int) := Int.tmod_lt_of_pos _ (by omega)
  generalize hq : k.tmod n = q at *
  by_cases hn : q < 0
  · go_enter Tryd.func28, Tryd.ntmps28
    go_wp2
    go_ret
    exact ⟨(q + n).toNat, by omega, retIw (by omega), rfl⟩
  · go_enter Tryd.func28, Tryd.ntmps28
    go_wp2
    go_ret
    exact ⟨q.toNat, by omega, retIw (by omega), rfl⟩
theorem results_cell1 {fn : Func} {p : Tmp} {ty : TypeId} (h : fn.results = #[.cell p ty]) (tmps : Array Value) (P : Program) (w : World) (a : Addr) (ha : tmps.getD p undef = .pointer (some a)) (x : Value) (hl : (loadVar ty a).run P w = .ok x w) :
    (results fn tmps).run P w = .ok x w := by
  simp only [results, h]
  have ha' : tmps[p]?.getD undef = .pointer (some a) := by simpa using ha
  simp [ha', asAddr, hl]
abbrev open0 : Txn := ⟨1, 1, 1, ⟨#[]⟩, ⟨#[]⟩, 0, 0⟩
theorem opening_is (w : World) : Calls Tryd.prog 45 #[] w fun e w' => e = .returned (vTxn open0) ∧ Below w.heap.size w w' := by
  go_enter Tryd.func45, Tryd.ntmps45
  go_wp2_with fail
  refine bodyPost_ret (results_cell1 rfl _ Tryd.prog _ _ rfl _ (run_loadVar_mid _ _ _ _ _ _ (Blk.range (Blk.new w _ _)) Tryd.underlying42 rfl (by kernel_rfl))) rfl ?_
  exact ⟨rfl, (by repeat (first | exact Below.refl _ _ | assumption | refine Below.drew ?_ | refine Below.drewN' ?_ _ | refine below_grow0 _ _ ?_ | refine below_alloc0 _ ?_ | refine Below.alloc ?_ (by first | omega | (simp; done) | (simp; omega)) _ | refine Below.setCell ?_ (by first | omega | (simp; done) | (simp; omega)) _ | refine Below.grow _ _ _ ?_ (by first | omega | (simp; done) | (simp; omega))))⟩
theorem good_open : goodT open0 = 0 := by
  unfold goodT
  rw [ByteArray.toList_eq]
  decide
theorem enc_open : encR open0 = bS (recT open0) := if_pos good_open
theorem recT_open : (recT open0).length = 31 := by rw [recT_length]; rfl
theorem writes_is (w : World) : Calls Tryd.prog 25 #[] w fun e w' => e = .returned (.bool true) ∧ Below w.heap.size w w' := by
  have HE := Lib.hid (fun w => (encode_any open0 w (by decide)))
  rw [good_open, enc_open] at HE
  have hz : (bS (recT open0)).size = 31 := by rw [bS_size, recT_open]
  generalize bS (recT open0) = r at *
  go_enter Tryd.func25, Tryd.ntmps25
  go_wp2_with (first | (go_at_call 45; refine (opening_is _).mono ?_; rintro e w1 ⟨rfl, hb1⟩; obtain ⟨ext1, d1, rfl⟩ := Below.grown_eq _ hb1; clear hb1) | (go_at_call 24; refine (HE.out _).mono ?_; rintro e w2 ⟨rfl, hb2⟩; obtain ⟨ext1, d1, rfl⟩ := Below.grown_eq w (Below.own (by repeat (first | exact Below.refl _ _ | assumption | refine Below.drew ?_ | refine Below.drewN' ?_ _ | refine below_grow0 _ _ ?_ | refine below_alloc0 _ ?_ | refine Below.alloc ?_ (by first | omega | (simp; done) | (simp; omega)) _ | refine Below.setCell ?_ (by first | omega | (simp; done) | (simp; omega)) _ | refine Below.grow _ _ _ ?_ (by first | omega | (simp; done) | (simp; omega)))) hb2); clear hb2))
  go_ret
  exact ⟨rfl, (by repeat (first | exact Below.refl _ _ | assumption | refine Below.drew ?_ | refine Below.drewN' ?_ _ | refine below_grow0 _ _ ?_ | refine below_alloc0 _ ?_ | refine Below.alloc ?_ (by first | omega | (simp; done) | (simp; omega)) _ | refine Below.setCell ?_ (by first | omega | (simp; done) | (simp; omega)) _ | refine Below.grow _ _ _ ?_ (by first | omega | (simp; done) | (simp; omega))))⟩
theorem conv_one (W : World) (x n : Nat) (hx : x < 256) (hn : n = W.heap.size) :
    (convert 67 9 (.slice (some ⟨n, 0, none⟩) 1 1)).run Tryd.prog (W.alloc (.cells #[.int .u8 (x : Int)] 5)).drew = .ok (.string ⟨#[UInt8.ofNat x]⟩) (W.alloc (.cells #[.int .u8 (x : Int)] 5)).drew := by
  subst hn
  refine run_convert_bytes_back _ _ _ _ ⟨W.heap.size, 0, none⟩ 1 [UInt8.ofNat x] Tryd.underlying67 Tryd.underlying5 Tryd.underlying9 (fun j hj => ?_)
  have h0 : j = 0 := by simp at hj; omega
  subst h0
  have hm : x % 256 = x := Nat.mod_eq_of_lt hx
  have e : ([UInt8.ofNat x][0]'hj).toNat = x := by simp [hm]
  rw [e]
  exact (Blk.new W 5 #[.int .u8 (x : Int)]).cell 0
theorem bits_xor8 (a b : Nat) (ha : a < 256) (hb : b < 256) : bits .xor .u8 (a : Int) (b : Int) = ((a ^^^ b : Nat) : Int) := by
  show IntKind.u8.wrap ((BitVec.ofInt 8 (a : Int) ^^^ BitVec.ofInt 8 (b : Int)).toNat : Int) = _
  have h1 : ∀ n : Nat, n < 256 → (BitVec.ofInt 8 (n : Int)).toNat = n := by
    intro n hn
    rw [BitVec.ofInt_natCast, BitVec.toNat_ofNat]
    exact Nat.mod_eq_of_lt (by omega)
  have h2 : a ^^^ b < 256 := Nat.xor_lt_two_pow (n := 8) ha hb
  rw [BitVec.toNat_xor, h1 a ha, h1 b hb]
  unfold IntKind.wrap
  simp [IntKind.signed, IntKind.bits]
  omega
set_option maxHeartbeats 1000000 in
theorem turned_1 (s : ByteArray) (i b : Nat) (w : World) (hi : i < s.size) (hs : s.size ≤ 140737488355328) (hb : b < 256) (hb0 : ((b : Int) == 0) = false) :
    Calls Tryd.prog 29 #[.string s, .int .i64 i, .int .u8 b] w fun e w' => e = .returned (.string (s.extract 0 i ++ ⟨#[UInt8.ofNat (s[i].toNat ^^^ b)]⟩ ++ s.extract (i + 1) s.size)) ∧ Below w.heap.size w w' := by
  have f1 : (0 : Int) ≤ (i : Int) := by omega
  have f2 : (i : Int) ≤ (s.size : Int) := by omega
  have f3 : (i : Int) < (s.size : Int) := by omega
  have f4 : IntKind.i64.wrap ((i : Int) + 1) = (i : Int) + 1 := by unfold IntKind.wrap; simp [IntKind.signed, IntKind.bits]; omega
  have f5 : (0 : Int) ≤ (i : Int) + 1 := by omega
  have f6 : (i : Int) + 1 ≤ (s.size : Int) := by omega
  have hc : s[i].toNat < 256 := s[i].toNat_lt
  have f7 := bits_xor8 s[i].toNat b hc hb
  have hx : s[i].toNat ^^^ b < 256 := Nat.xor_lt_two_pow (n := 8) hc hb
  generalize s[i].toNat ^^^ b = x at *
  have kc := conv_one w x w.heap.size hx rfl
  go_enter Tryd.func29, Tryd.ntmps29
  go_wp2_with fail
  go_region
  go_wp2_with fail
  go_ret
  exact ⟨rfl, (by repeat (first | exact Below.refl _ _ | assumption | refine Below.drew ?_ | refine Below.drewN' ?_ _ | refine below_grow0 _ _ ?_ | refine below_alloc0 _ ?_ | refine Below.alloc ?_ (by first | omega | (simp; done) | (simp; omega)) _ | refine Below.setCell ?_ (by first | omega | (simp; done) | (simp; omega)) _ | refine Below.grow _ _ _ ?_ (by first | omega | (simp; done) | (simp; omega))))⟩
set_option maxHeartbeats 1000000 in
theorem turned_0 (s : ByteArray) (i : Nat) (w : World) (hi : i < s.size) (hs : s.size ≤ 140737488355328) :
    Calls Tryd.prog 29 #[.string s, .int .i64 i, .int .u8 0] w fun e w' => e = .returned (.string (s.extract 0 i ++ ⟨#[UInt8.ofNat (s[i].toNat ^^^ 1)]⟩ ++ s.extract (i + 1) s.size)) ∧ Below w.heap.size w w' := by
  have f1 : (0 : Int) ≤ (i : Int) := by omega
  have f2 : (i : Int) ≤ (s.size : Int) := by omega
  have f3 : (i : Int) < (s.size : Int) := by omega
  have f4 : IntKind.i64.wrap ((i : Int) + 1) = (i : Int) + 1 := by unfold IntKind.wrap; simp [IntKind.signed, IntKind.bits]; omega
  have f5 : (0 : Int) ≤ (i : Int) + 1 := by omega
  have f6 : (i : Int) + 1 ≤ (s.size : Int) := by omega
  have hc : s[i].toNat < 256 := s[i].toNat_lt
  have f7 : bits .xor .u8 (s[i].toNat : Int) 1 = ((s[i].toNat ^^^ 1 : Nat) : Int) := bits_xor8 s[i].toNat 1 hc (by decide)
  have hx : s[i].toNat ^^^ 1 < 256 := Nat.xor_lt_two_pow (n := 8) hc (by decide)
  generalize s[i].toNat ^^^ 1 = x at *
  have kc := conv_one w x w.heap.size hx rfl
  go_enter Tryd.func29, Tryd.ntmps29
  go_wp2_with fail
  go_region
  go_wp2_with fail
  go_ret
  exact ⟨rfl, (by repeat (first | exact Below.refl _ _ | assumption | refine Below.drew ?_ | refine Below.drewN' ?_ _ | refine below_grow0 _ _ ?_ | refine below_alloc0 _ ?_ | refine Below.alloc ?_ (by first | omega | (simp; done) | (simp; omega)) _ | refine Below.setCell ?_ (by first | omega | (simp; done) | (simp; omega)) _ | refine Below.grow _ _ _ ?_ (by first | omega | (simp; done) | (simp; omega))))⟩
theorem turned_text (s : ByteArray) (i : Nat) (c : UInt8) : s.extract 0 i ++ (⟨#[c]⟩ : ByteArray) ++ s.extract (i + 1) s.size = bS ((bs s).take i ++ c :: (bs s).drop (i + 1)) := by
  apply bs_inj
  have ha : ∀ a b : ByteArray, bs (a ++ b) = bs a ++ bs b := fun a b => by simp [bs]
  rw [ha, ha, bs_extractTD, bs_extractTD]
  show List.drop 0 (List.take i (bs s)) ++ [c] ++ List.drop (i + 1) (List.take s.size (bs s)) = List.take i (bs s) ++ c :: List.drop (i + 1) (bs s)
  rw [List.drop_zero, List.take_of_length_le (l := bs s) (i := s.size) (by rw [length_bs]; exact Nat.le_refl _)]
  simp
theorem xor_ne (c : UInt8) (b : Nat) (hb : b < 256) (h0 : b ≠ 0) : UInt8.ofNat (c.toNat ^^^ b) ≠ c := by
  intro e
  have hx : c.toNat ^^^ b < 256 := Nat.xor_lt_two_pow (n := 8) c.toNat_lt hb
  have e2 := congrArg UInt8.toNat e
  rw [UInt8.toNat_ofNat_of_lt' hx, Nat.xor_comm] at e2
  have e3 : b ^^^ c.toNat = 0 ^^^ c.toNat := by rw [e2, Nat.zero_xor]
  exact h0 (xor_can e3)
theorem turned_any (s : ByteArray) (i b : Nat) (w : World) (hi : i < s.size) (hs : s.size ≤ 140737488355328) (hb : b < 256) :
    Calls Tryd.prog 29 #[.string s, .int .i64 i, .int .u8 b] w fun e w' => ∃ c' : UInt8, c' ≠ s[i] ∧ e = .returned (.string (bS ((bs s).take i ++ c' :: (bs s).drop (i + 1)))) ∧ Below w.heap.size w w' := by
  by_cases h0 : b = 0
  · subst h0
    refine (turned_0 s i w hi hs).mono ?_
    rintro e w' ⟨rfl, hB⟩
    exact ⟨_, xor_ne s[i] 1 (by decide) (by decide), by rw [turned_text], hB⟩
  · refine (turned_1 s i b w hi hs hb (beq_eq_false_iff_ne.2 (by omega))).mono ?_
    rintro e w' ⟨rfl, hB⟩
    exact ⟨_, xor_ne s[i] b hb h0, by rw [turned_text], hB⟩
theorem bS_take (l : List UInt8) (n : Nat) : (bS l).extract 0 n = bS (l.take n) := by
  apply bs_inj
  rw [bs_extractTD]
  rfl
def sameT (x y : Txn) : Bool := decide (x.zxid = y.zxid) && (decide (x.op = y.op) && (decide (x.session = y.session) && (decide (x.path = y.path) && (decide (x.data = y.data) && (decide (x.version = y.version) && decide (x.owner = y.owner))))))
theorem eql_txn (x y : Txn) (w : World) : (binOp .eql 42 (.agg #[.int .i64 x.zxid, .int .i64 x.op, .int .i64 x.session, .string x.path, .string x.data, .int .i64 x.version, .int .i64 x.owner]) (.agg #[.int .i64 y.zxid, .int .i64 y.op, .int .i64 y.session, .string y.path, .string y.data, .int .i64 y.version, .int .i64 y.owner])).run Tryd.prog w = .ok (.bool (sameT x y)) w := by
  have hl : ∀ a b : ByteArray, (a.toList = b.toList) = (a = b) := fun a b => propext ⟨bytes_eqB, fun e => by rw [e]⟩
  simp [go_sem]
  unfold sameT
  (repeat' split) <;> simp_all
theorem sameT_self (x : Txn) : sameT x x = true := by simp [sameT]
theorem pickI (k n : Int) (w : World) (h0 : 0 < n) (h1 : n ≤ 140737488355328) :
    Calls Tryd.prog 28 #[.int .i64 k, .int .i64 n] w fun e w' => ∃ f : Nat, (f : Int) < n ∧ e = .returned (.int .i64 f) ∧ w = w' := by
  obtain ⟨m, rfl⟩ := Int.eq_ofNat_of_zero_le (show 0 ≤ n by omega)
  refine (pickw_is k m w (by omega) (by omega)).mono ?_
  rintro e w' ⟨f, h, rfl, rfl⟩
  exact ⟨f, by omega, rfl, rfl⟩
theorem turnedI (l : List UInt8) (i : Int) (b : Nat) (w : World) (h0 : 0 ≤ i) (hi : i < (l.length : Int)) (hs : l.length ≤ 140737488355328) (hb : b < 256) :
    Calls Tryd.prog 29 #[.string (bS l), .int .i64 i, .int .u8 b] w fun e w' => ∃ (m : Nat) (c c' : UInt8), i = (m : Int) ∧ l[m]? = some c ∧ c' ≠ c ∧ e = .returned (.string (bS (l.take m ++ c' :: l.drop (m + 1)))) ∧ Below w.heap.size w w' := by
  obtain ⟨m, rfl⟩ := Int.eq_ofNat_of_zero_le h0
  have hz := bS_size l
  refine (turned_any (bS l) m b w (by omega) (by omega) hb).mono ?_
  rintro e w' ⟨c', hne, rfl, hB⟩
  refine ⟨m, (bS l)[m]'(by omega), c', rfl, ?_, hne, rfl, hB⟩
  exact List.getElem?_eq_getElem (by omega)
theorem rec_len (t : Txn) (h : goodT t = 0) : 31 ≤ (recT t).length ∧ (recT t).length ≤ 1031 := by
  have h1 := body_small t h
  rw [recT_length]
  rw [bodyL_length] at *
  omega
theorem dec_err {l : List UInt8} {e : Int} (h : decR (bS l) = (txn0, 0, e)) (hl : l.length ≤ 281474976710656) (w : World) :
    Calls Tryd.prog 27 #[.string (bS l)] w fun E w' => E = .returned (.tuple #[.agg #[.int .i64 0, .int .i64 0, .int .i64 0, .string ⟨#[]⟩, .string ⟨#[]⟩, .int .i64 0, .int .i64 0], .int .i64 0, .int .i64 e]) ∧ Below w.heap.size w w' := by
  have h1 := decode_any (bS l) w (by rw [bS_size]; exact hl)
  rw [h] at h1
  exact h1
theorem dec_good {l : List UInt8} {t : Txn} {n : Int} (h : decR (bS l) = (t, n, 0)) (hl : l.length ≤ 281474976710656) (w : World) :
    Calls Tryd.prog 27 #[.string (bS l)] w fun E w' => E = .returned (.tuple #[.agg #[.int .i64 t.zxid, .int .i64 t.op, .int .i64 t.session, .string t.path, .string t.data, .int .i64 t.version, .int .i64 t.owner], .int .i64 n, .int .i64 0]) ∧ Below w.heap.size w w' := by
  have h1 := decode_any (bS l) w (by rw [bS_size]; exact hl)
  rw [h] at h1
  exact h1
theorem bS_add (l : List UInt8) (m : ByteArray) : bS l ++ m = bS (l ++ bs m) := by
  apply ByteArray.ext
  simp [bs]
end Go.Proofs.YtkogdnkifnhljaaDoor
