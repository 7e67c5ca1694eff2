/- wire.Encode: the contract for every transaction. -/
import Derived.Test.YtkogdnkifnhljaaDoorEncode
namespace Go.Proofs.YtkogdnkifnhljaaDoor
open Go.RowKit Go.ChangeShapes Go.WideShapes Go.ChangeAt
abbrev vTxn (t : Txn) : Value := .agg #[.int .i64 t.zxid, .int .i64 t.op, .int .i64 t.session, .string t.path, .string t.data, .int .i64 t.version, .int .i64 t.owner]
/-- a good transaction's record -/
def recT (t : Txn) : List UInt8 := recL (bodyL t.zxid.toNat t.op.toNat t.session.toNat t.version.toNat t.owner.toNat (bs t.path) (bs t.data))
def encR (t : Txn) : ByteArray := if goodT t = 0 then ⟨(recT t).toArray⟩ else ⟨#[]⟩
structure GoodF (t : Txn) : Prop where
  z0 : 0 ≤ t.zxid
  z1 : t.zxid < 4611686018427387904
  o0 : 1 ≤ t.op
  o1 : t.op ≤ 5
  s0 : 1 ≤ t.session
  s1 : t.session ≤ 2147483647
  v0 : 0 ≤ t.version
  v1 : t.version ≤ 2147483647
  w0 : 0 ≤ t.owner
  w1 : t.owner ≤ 2147483647
  d1 : t.data.size ≤ 256
  p1 : t.path.size ≤ 200
theorem goodT_facts (t : Txn) (h : goodT t = 0) : GoodF t := by
  unfold goodT at h
  split at h
  · exact absurd h (by decide)
  rename_i a1
  split at h
  · exact absurd h (by decide)
  rename_i a2
  split at h
  · exact absurd h (by decide)
  rename_i a3
  split at h
  · exact absurd h (by decide)
  rename_i a4
  split at h
  · exact absurd h (by decide)
  rename_i a5
  clear h
  refine ⟨by omega, by omega, by omega, by omega, by omega, by omega, by omega, by omega, by omega, by omega, by omega, ?_⟩
  by_cases h2 : t.op ≤ 2
  · have h3 : t.path.toList = [] := by
      rcases Classical.em (t.path.toList = []) with e | e
      · exact e
      · exact absurd ⟨h2, .inl e⟩ a4
    rw [ByteArray.toList_eq] at h3
    have h4 := length_bs t.path
    unfold bs at h4
    rw [h3] at h4
    simp at h4
    omega
  · have h3 : goodP t.path = true := by
      cases e : goodP t.path with
      | true => rfl
      | false => exact absurd ⟨by omega, .inl e⟩ a5
    exact (goodP_size h3).2
set_option maxHeartbeats 600000 in
theorem encode_no (t : Txn) (w : World) (hp : t.path.size ≤ 9223372036854775807) (hg : goodT t ≠ 0) :
    Calls Tryd.prog 24 #[vTxn t] w fun e w' => e = .returned (.tuple #[.string ⟨#[]⟩, .int .i64 (goodT t)]) ∧ Below w.heap.size w w' := by
  have HG := Lib.hid (fun w => tgood_any t w hp)
  have hne : (goodT t != 0) = true := bne_iff_ne.2 hg
  generalize goodT t = g at *
  clear hg
  obtain ⟨z, o, s, p, d, v, ow⟩ := t
  dsimp only at *
  go_enter Tryd.func24, Tryd.ntmps24
  go_wp2_with (go_at_call 26; refine (HG.out _).mono ?_; rintro e w1 ⟨rfl, hb1⟩; obtain ⟨ext1, d1, rfl⟩ := Below.grown_eq _ hb1; clear hb1 HG)
  go_ret2
  exact ⟨rfl, (by repeat (first | exact Below.refl _ _ | assumption | refine Below.drew ?_ | refine Below.drewN' ?_ _ | refine below_grow0 _ _ ?_ | refine below_alloc0 _ ?_ | refine Below.alloc ?_ (by first | omega | (simp; done) | (simp; omega)) _ | refine Below.setCell ?_ (by first | omega | (simp; done) | (simp; omega)) _ | refine Below.grow _ _ _ ?_ (by first | omega | (simp; done) | (simp; omega))))⟩
theorem encode_any (t : Txn) (w : World) (hp : t.path.size ≤ 9223372036854775807) :
    Calls Tryd.prog 24 #[vTxn t] w fun e w' => e = .returned (.tuple #[.string (encR t), .int .i64 (goodT t)]) ∧ Below w.heap.size w w' := by
  by_cases hg : goodT t = 0
  · obtain ⟨z0, z1, o0, o1, s0, s1, v0, v1, w0, w1, d1, p1⟩ := goodT_facts t hg
    have e : encR t = ⟨(recT t).toArray⟩ := if_pos hg
    rw [e, hg]
    unfold recT vTxn
    obtain ⟨z, o, s, p, d, v, ow⟩ := t
    dsimp only at *
    obtain ⟨z, rfl⟩ := Int.eq_ofNat_of_zero_le z0
    obtain ⟨o, rfl⟩ := Int.eq_ofNat_of_zero_le (show 0 ≤ o by omega)
    obtain ⟨s, rfl⟩ := Int.eq_ofNat_of_zero_le (show 0 ≤ s by omega)
    obtain ⟨v, rfl⟩ := Int.eq_ofNat_of_zero_le v0
    obtain ⟨ow, rfl⟩ := Int.eq_ofNat_of_zero_le w0
    exact encode_walk z o s v ow p d w hg (by omega) (by omega) (by omega) (by omega) (by omega) p1 d1
  · have e : encR t = ⟨#[]⟩ := if_neg hg
    rw [e]
    exact encode_no t w hp hg
end Go.Proofs.YtkogdnkifnhljaaDoor
