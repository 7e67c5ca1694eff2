/- client.Keep at an entry whose path is in the cache. -/
import Derived.Test.YtdfliajginlpiaaCache
namespace Go.Proofs.Ytdfliajginlpiaa
open Go.RowKit
set_option maxHeartbeats 1000000 in
theorem clKeep_old (s n : Int) (v : Value) (l : List Entry) (x : Entry) (w : World) (h : Sl cEntry 3 w v l) (hn : (l.length + 1) * 40 ≤ 140737488355328) (hk : isK (l.map Entry.path) x.path = true) :
    Calls Try.prog 24 #[.agg #[.int .i64 s, .int .i64 n, v], .agg #[.string x.path, .string x.data, .bool x.there_]] w (ClIs s n (keepL l x) w) := by
  obtain ⟨A, c, rfl, h1, h2⟩ := h.form
  have H := Lib.hid h
  clear h
  have hq := isK_lt hk
  have hL : keepL l x = l.set (posK (l.map Entry.path) x.path) (stripE x) := by unfold keepL; rw [hk]; rfl
  rw [hL]
  have hcall := fun w' v' a b (hs : Sl cEntry 3 w' v' l) => clFind a b v' l x.path w' hs (by omega)
  rw [hk] at hcall
  clear hk hL
  generalize posK (l.map Entry.path) x.path = q at hcall hq
  have HC := Lib.hid hcall
  clear hcall
  obtain ⟨xp, xd, xt⟩ := x
  cases xt with
  | true =>
    rw [show stripE ⟨xp, xd, true⟩ = ⟨xp, xd, true⟩ from rfl]
    go_enter Try.func24, Try.ntmps24
    go_wp2_with (first | (go_at_call 26; refine (clCopied _ _ _ _ _ (((H.out.alloc _).alloc _).alloc _) (by omega) (by simp [maxLen]; omega)).mono ?_; rintro e w1 ⟨A', c', rfl, hown, hb⟩; obtain ⟨ext, d, rfl⟩ := Below.grown_eq _ hb; obtain ⟨g, J, rfl, hBg, hbk, hbl, hnc, hcm, hnl, v0, v1, v2, x0, y0, x1, y1, x2, y2⟩ := hown.open3 (N := w.heap.size + 1 + 1 + 1) (by simp) (by simp) hq; have HO := Lib.hid hown; have HB := Lib.hid hbk; have HBL := Lib.hid hbl; clear hown hbk hbl) | (go_at_call 25; refine (HC.out _ _ _ _ ((HO.out.regrow (Nat.le_refl _) (by simp)).sl)).mono ?_; rintro e w1 ⟨rfl, hb1⟩; obtain ⟨ext1, d1, rfl⟩ := Below.grown_eq _ hb1))
    have n1 : ¬ w.heap.size + 1 + 1 = g := by omega
    have n2 : ¬ g = w.heap.size + 1 + 1 := by omega
    refine bodyPost_ret (v := .agg #[.int .i64 s, .int .i64 n, .slice (some ⟨g, 0, none⟩) l.length c']) (by simp (config := { maxDischargeDepth := 8 }) [results, Try.results24, go_sem]) rfl ⟨some ⟨g, 0, none⟩, c', by rw [List.length_set], ?_, ?_⟩
    · rw [List.length_set]
      refine Ow.far (Ow.far (Ow.far (Ow.put3 (fun _ _ => rfl) ((HB.out.regrow (by simp; omega) (by simp)).below (below_grow0 _ _ (Below.refl _ _))) HBL.out (by omega) rfl hnc hcm hq _ rfl rfl) ?_) ?_) ?_ <;> omega
    · refine Below.put (Below.put (Below.put (Below.put (Below.put (Below.put ?_ ?_) ?_) ?_) ?_) ?_) ?_
      · exact (by repeat (first | exact Below.refl _ _ | assumption | refine Below.drew ?_ | refine Below.drewN' ?_ _ | refine below_grow0 _ _ ?_ | refine below_alloc0 _ ?_ | refine Below.alloc ?_ (by first | omega | (simp; done) | (simp; omega)) _ | refine Below.setCell ?_ (by first | omega | (simp; done) | (simp; omega)) _ | refine Below.grow _ _ _ ?_ (by first | omega | (simp; done) | (simp; omega))))
      all_goals omega
  | false =>
    rw [show stripE ⟨xp, xd, false⟩ = ⟨xp, ByteArray.empty, false⟩ from rfl]
    go_enter Try.func24, Try.ntmps24
    go_wp2_with (first | (go_at_call 26; refine (clCopied _ _ _ _ _ (((H.out.alloc _).alloc _).alloc _) (by omega) (by simp [maxLen]; omega)).mono ?_; rintro e w1 ⟨A', c', rfl, hown, hb⟩; obtain ⟨ext, d, rfl⟩ := Below.grown_eq _ hb; obtain ⟨g, J, rfl, hBg, hbk, hbl, hnc, hcm, hnl, v0, v1, v2, x0, y0, x1, y1, x2, y2⟩ := hown.open3 (N := w.heap.size + 1 + 1 + 1) (by simp) (by simp) hq; have HO := Lib.hid hown; have HB := Lib.hid hbk; have HBL := Lib.hid hbl; clear hown hbk hbl) | (go_at_call 25; refine (HC.out _ _ _ _ ((HO.out.regrow (Nat.le_refl _) (by simp)).sl)).mono ?_; rintro e w1 ⟨rfl, hb1⟩; obtain ⟨ext1, d1, rfl⟩ := Below.grown_eq _ hb1))
    have n1 : ¬ w.heap.size + 1 + 1 = g := by omega
    have n2 : ¬ g = w.heap.size + 1 + 1 := by omega
    refine bodyPost_ret (v := .agg #[.int .i64 s, .int .i64 n, .slice (some ⟨g, 0, none⟩) l.length c']) (by simp (config := { maxDischargeDepth := 8 }) [results, Try.results24, go_sem]) rfl ⟨some ⟨g, 0, none⟩, c', by rw [List.length_set], ?_, ?_⟩
    · rw [List.length_set]
      refine Ow.far (Ow.far (Ow.far (Ow.put3 (fun _ _ => rfl) ((HB.out.regrow (by simp; omega) (by simp)).below (below_grow0 _ _ (Below.refl _ _))) HBL.out (by omega) rfl hnc hcm hq _ rfl rfl) ?_) ?_) ?_ <;> omega
    · refine Below.put (Below.put (Below.put (Below.put (Below.put (Below.put ?_ ?_) ?_) ?_) ?_) ?_) ?_
      · exact (by repeat (first | exact Below.refl _ _ | assumption | refine Below.drew ?_ | refine Below.drewN' ?_ _ | refine below_grow0 _ _ ?_ | refine below_alloc0 _ ?_ | refine Below.alloc ?_ (by first | omega | (simp; done) | (simp; omega)) _ | refine Below.setCell ?_ (by first | omega | (simp; done) | (simp; omega)) _ | refine Below.grow _ _ _ ?_ (by first | omega | (simp; done) | (simp; omega))))
      all_goals omega
theorem clKeep (s n : Int) (v : Value) (l : List Entry) (x : Entry) (w : World) (h : Sl cEntry 3 w v l) (hn : (l.length + 1) * 40 ≤ 140737488355328) :
    Calls Try.prog 24 #[.agg #[.int .i64 s, .int .i64 n, v], .agg #[.string x.path, .string x.data, .bool x.there_]] w (ClIs s n (keepL l x) w) := by
  cases hk : isK (l.map Entry.path) x.path with
  | true => exact clKeep_old s n v l x w h hn hk
  | false => exact clKeep_new s n v l x w h hn hk
end Go.Proofs.Ytdfliajginlpiaa
