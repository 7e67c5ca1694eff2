/- The laws' 'caching': an end with entries. -/
import Derived.Test.YtdfliajginlpiaaCache2
import Derived.Deep.RegionHeld3
namespace Go.Proofs.Ytdfliajginlpiaa
open Go.RowKit
def cacheK (l : List Entry) (k : Nat) : List Entry := (l.take k).foldl keepL []
theorem keepL_length (l : List Entry) (x : Entry) : (keepL l x).length ≤ l.length + 1 := by
  unfold keepL
  split
  · simp
  · simp; omega
theorem cacheK_succ {l : List Entry} {k : Nat} {x : Entry} (h : l[k]? = some x) : cacheK l (k + 1) = keepL (cacheK l k) x := by
  unfold cacheK
  rw [List.take_add_one, h]
  simp
theorem cacheK_length (l : List Entry) (k : Nat) : (cacheK l k).length ≤ k := by
  induction k with
  | zero => simp [cacheK]
  | succ k ih =>
    cases h : l[k]? with
    | none =>
      have : cacheK l (k + 1) = cacheK l k := by unfold cacheK; rw [List.take_add_one, h]; simp
      rw [this]; omega
    | some x => rw [cacheK_succ h]; have := keepL_length (cacheK l k) x; omega
def cacheL (l : List Entry) : List Entry := cacheK l (Nat.min l.length 60)
set_option maxHeartbeats 1000000 in
theorem caching_is (s : Int) (v : Value) (l : List Entry) (w : World) (h : Sl cEntry 3 w v l) :
    Calls Try.prog 9 #[.int .i64 s, v] w (ClIs s 0 (cacheL l) w) := by
  obtain ⟨A, c, rfl, hc1, hc2⟩ := h.form
  have H := Lib.hid h
  clear h
  go_enter Try.func9, Try.ntmps9
  go_wp2
  go_loopw [6] (fun i wr => ∃ (k : Nat) (A' : Option Addr) (c' : Nat) (ext2 : Array Obj) (d2 : Nat), k ≤ l.length ∧ k ≤ 60 ∧ i = .int .i64 k ∧
     wr = grow ((w.alloc (.cells #[.int .i64 0, .int .i64 0, .slice none 0 0] 25)).alloc (.cells #[.int .i64 s, .int .i64 0, .slice A' (cacheK l k).length c'] 25)) ext2 d2 ∧ Hid (Ow cEntry 3 28 wr (w.heap.size + 1 + 1) (.slice A' (cacheK l k).length c') (cacheK l k))) (fun i _ => l.length - (intOf i).toNat)
  case atStart => exact ⟨0, none, 0, _, _, Nat.zero_le _, Nat.zero_le _, rfl, grown_of (by repeat (first | exact Below.refl _ _ | assumption | refine Below.drew ?_ | refine Below.drewN' ?_ _ | refine below_grow0 _ _ ?_ | refine below_alloc0 _ ?_ | refine Below.alloc ?_ (by first | omega | (simp; done) | (simp; omega)) _ | refine Below.setCell ?_ (by first | omega | (simp; done) | (simp; omega)) _ | refine Below.grow _ _ _ ?_ (by first | omega | (simp; done) | (simp; omega)))), Ow.nil _ _ _ _ _⟩
  case round =>
    obtain ⟨k, A', c', ext2, d2, hk, hk60, rfl, rfl, ho⟩ := hrel
    by_cases hlt : k < l.length
    · by_cases h60 : k < 60
      · have hx : l[k]? = some (l[k]'hlt) := List.getElem?_eq_getElem _
        obtain ⟨bk, off, rfl, hbw, c0, c1, c2⟩ := H.out.Entry_at hx
        generalize hxe : l[k]'hlt = x at hx c0 c1 c2
        have hcs := cacheK_succ hx
        have hml := cacheK_length l k
        have HSL := Lib.hid (fun d' => (ho.out.regrow (W' := (w.alloc (.cells #[.int .i64 0, .int .i64 0, .slice none 0 0] 25)).alloc (.cells #[.int .i64 s, .int .i64 0, .slice A' (cacheK l k).length c'] 25)) (d' := d') (by simp) rfl).sl)
        have HK := Lib.hid (fun (w' : World) (v' : Value) (hs : Sl cEntry 3 w' v' (cacheK l k)) => by
          have h := clKeep s 0 v' _ x w' hs (by omega)
          rw [← hcs] at h
          exact h)
        have HCS := Lib.hid hcs
        clear hcs
        go_wp2_with fail
        go_region_with (first | (go_at_call 24; refine (HK.out _ _ (HSL.out _)).mono ?_; rintro e w1 ⟨A2, c2, rfl, ho2, hb⟩; obtain ⟨ext3, d3, rfl⟩ := Below.grown_eq _ hb; have HO2 := Lib.hid ho2; clear ho2 hb))
        all_goals
          go_wp2_with fail
          go_roundw
          case rel =>
            exact ⟨k + 1, A2, c2, _, _, by omega, by omega, by go_num, grown_of (by repeat (first | exact Below.refl _ _ | assumption | refine Below.drew ?_ | refine Below.drewN' ?_ _ | refine below_grow0 _ _ ?_ | refine below_alloc0 _ ?_ | refine Below.alloc ?_ (by first | omega | (simp; done) | (simp; omega)) _ | refine Below.setCell ?_ (by first | omega | (simp; done) | (simp; omega)) _ | refine Below.grow _ _ _ ?_ (by first | omega | (simp; done) | (simp; omega)))), (HO2.out.regrow (Nat.le_refl _) (by simp)).mono (by simp <;> omega)⟩
          case measure => simp [intOf]; omega
      · have hcl : cacheL l = cacheK l k := by unfold cacheL; rw [show Nat.min l.length 60 = k from by rw [show ∀ a b, Nat.min a b = min a b from fun _ _ => rfl]; omega]
        go_wp2_with fail
        refine bodyPost_ret (v := .agg #[.int .i64 s, .int .i64 0, .slice A' (cacheK l k).length c']) (by simp [results, Try.results9, go_sem]) rfl ⟨A', c', by rw [hcl], ?_, ?_⟩
        · rw [hcl]
          exact (ho.out.regrow (by simp) (by simp)).mono (by omega)
        · exact (by repeat (first | exact Below.refl _ _ | assumption | refine Below.drew ?_ | refine Below.drewN' ?_ _ | refine below_grow0 _ _ ?_ | refine below_alloc0 _ ?_ | refine Below.alloc ?_ (by first | omega | (simp; done) | (simp; omega)) _ | refine Below.setCell ?_ (by first | omega | (simp; done) | (simp; omega)) _ | refine Below.grow _ _ _ ?_ (by first | omega | (simp; done) | (simp; omega))))
    · have hcl : cacheL l = cacheK l k := by unfold cacheL; rw [show Nat.min l.length 60 = k from by rw [show ∀ a b, Nat.min a b = min a b from fun _ _ => rfl]; omega]
      go_wp2_with fail
      refine bodyPost_ret (v := .agg #[.int .i64 s, .int .i64 0, .slice A' (cacheK l k).length c']) (by simp [results, Try.results9, go_sem]) rfl ⟨A', c', by rw [hcl], ?_, ?_⟩
      · rw [hcl]
        exact (ho.out.regrow (by simp) (by simp)).mono (by omega)
      · exact (by repeat (first | exact Below.refl _ _ | assumption | refine Below.drew ?_ | refine Below.drewN' ?_ _ | refine below_grow0 _ _ ?_ | refine below_alloc0 _ ?_ | refine Below.alloc ?_ (by first | omega | (simp; done) | (simp; omega)) _ | refine Below.setCell ?_ (by first | omega | (simp; done) | (simp; omega)) _ | refine Below.grow _ _ _ ?_ (by first | omega | (simp; done) | (simp; omega))))
end Go.Proofs.Ytdfliajginlpiaa
