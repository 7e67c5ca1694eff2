/- Walks of recipe.Fence and of the law RecipeFences. -/
import Derived.Test.YtahcmfnpfepimaaRows
import Derived.Test.YtahcmfnpfepimaaBase
namespace Go.Proofs.Ytahcmfnpfepimaa
open Go.RowKit

theorem fence_lt (a b : Int) (w : World) (h : b < a) :
    Calls Try.prog 16 #[.int .i64 a, .int .i64 b] w fun e w' => e = .returned (.tuple #[.int .i64 a, .bool false]) ∧ w = w' := by
  go_enter Try.func16, Try.ntmps16
  go_wp2
  go_ret2
  exact ⟨rfl, rfl⟩
theorem fence_ge (a b : Int) (w : World) (h : ¬ b < a) :
    Calls Try.prog 16 #[.int .i64 a, .int .i64 b] w fun e w' => e = .returned (.tuple #[.int .i64 b, .bool true]) ∧ w = w' := by
  go_enter Try.func16, Try.ntmps16
  go_wp2
  go_ret2
  exact ⟨rfl, rfl⟩
theorem fences_any (w : World) :
    Calls Try.prog 15 #[] w fun e w' => e = .returned (.bool true) ∧ w = w' := by
  go_enter Try.func15, Try.ntmps15
  go_wp2_with (go_at_call 16; refine (fence_ge _ _ _ (by omega)).mono ?_; rintro e w' ⟨rfl, rfl⟩)
  go_ret
  exact ⟨rfl, rfl⟩

set_option maxHeartbeats 400000 in
theorem recipeFences_any (seen : Int) (A : Option Addr) (len cap : Nat) (w : World) (hl : len ≤ 17592186044160)
    (hc : ∀ i, i < len → ∃ a x, A = some a ∧ w.cell? (a.add i) = some (.int .i64 x)) :
    Calls Try.prog 3 #[.int .i64 seen, .slice A len cap] w fun e w' => e = .returned (.bool true) ∧ w = w' := by
  go_enter Try.func3, Try.ntmps3
  go_wp2_with (go_at_call 15; refine (fences_any _).mono ?_; rintro e w' ⟨rfl, rfl⟩)
  go_loop [0, 5] (fun s i => ∃ (k : Nat) (m : Int), k ≤ len ∧ i = .int .i64 k ∧ s = .int .i64 m) (fun _ i => len - (intOf i).toNat)
  case atStart => exact ⟨0, _, Nat.zero_le _, rfl, rfl⟩
  case round =>
    obtain ⟨k, m, hk, rfl, rfl⟩ := hrel
    by_cases hlt : k < len
    · obtain ⟨a, x, rfl, hcell⟩ := hc k hlt
      clear hc
      by_cases hm : x < m
      · go_wp2_with (go_at_call 16; refine (fence_lt _ _ _ hm).mono ?_; rintro e w' ⟨rfl, rfl⟩)
        go_round
        case rel => exact ⟨k + 1, _, by omega, by go_num, rfl⟩
        case measure => simp [intOf]; omega
      · go_wp2_with (go_at_call 16; refine (fence_ge _ _ _ hm).mono ?_; rintro e w' ⟨rfl, rfl⟩)
        all_goals
          go_round
          case rel => exact ⟨k + 1, _, by omega, by go_num, rfl⟩
          case measure => simp [intOf]; omega
    · clear hc
      go_wp2
      go_ret
      exact ⟨rfl, rfl⟩

end Go.Proofs.Ytahcmfnpfepimaa
