/- 'within', in each package that has one. -/
import Derived.Test.YtnboppombhibbaaBase
namespace Go.Proofs.Ytnboppombhibbaa
open Go.RowKit
set_option linter.unusedVariables false
set_option linter.unusedSimpArgs false
theorem pf_within_pattern (n lo hi : Int) (w : World) : Calls Try.prog 53 #[.int .i64 n, .int .i64 lo, .int .i64 hi] w fun e w' => e = .returned (.bool (within n lo hi)) ∧ w = w' := by
  unfold within
  by_cases h1 : lo ≤ n
  · by_cases h2 : n ≤ hi
    all_goals
      go_enter Try.func53, Try.ntmps53
      go_wp2
      go_ret
      simp [h1, h2]
  · have h1' : decide (lo ≤ n) = false := by simpa using h1
    rw [h1', Bool.false_and]
    go_enter Try.func53, Try.ntmps53
    go_wp2
    go_ret
    exact ⟨rfl, rfl⟩
theorem pf_within_barleycornref04 (n lo hi : Int) (w : World) : Calls Try.prog 55 #[.int .i64 n, .int .i64 lo, .int .i64 hi] w fun e w' => e = .returned (.bool (within n lo hi)) ∧ w = w' := by
  unfold within
  by_cases h1 : lo ≤ n
  · by_cases h2 : n ≤ hi
    all_goals
      go_enter Try.func55, Try.ntmps55
      go_wp2
      go_ret
      simp [h1, h2]
  · have h1' : decide (lo ≤ n) = false := by simpa using h1
    rw [h1', Bool.false_and]
    go_enter Try.func55, Try.ntmps55
    go_wp2
    go_ret
    exact ⟨rfl, rfl⟩
theorem pf_within_barleycornref03 (n lo hi : Int) (w : World) : Calls Try.prog 94 #[.int .i64 n, .int .i64 lo, .int .i64 hi] w fun e w' => e = .returned (.bool (within n lo hi)) ∧ w = w' := by
  unfold within
  by_cases h1 : lo ≤ n
  · by_cases h2 : n ≤ hi
    all_goals
      go_enter Try.func94, Try.ntmps94
      go_wp2
      go_ret
      simp [h1, h2]
  · have h1' : decide (lo ≤ n) = false := by simpa using h1
    rw [h1', Bool.false_and]
    go_enter Try.func94, Try.ntmps94
    go_wp2
    go_ret
    exact ⟨rfl, rfl⟩
end Go.Proofs.Ytnboppombhibbaa
