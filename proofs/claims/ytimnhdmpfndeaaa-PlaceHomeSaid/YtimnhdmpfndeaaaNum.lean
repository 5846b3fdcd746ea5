/- What every seat has: the number of an error; 'from a least to a most'. -/
import Derived.Test.YtimnhdmpfndeaaaKit
namespace Go.Proofs.Ytimnhdmpfndeaaa.Nm
open Go.RowKit Go.Proofs.Ytimnhdmpfndeaaa.Kt
set_option linter.unusedVariables false
set_option linter.unusedSimpArgs false

set_option maxHeartbeats 400000 in
theorem enum_c (x : Int) (w : World) : Calls Try.prog 14 #[.int .i64 x] w fun e w' => e = .returned (.int .i64 x) ∧ w = w' := by
  go_enter Try.func14, Try.ntmps14
  go_wp2
  go_ret
  exact ⟨rfl, rfl⟩
set_option maxHeartbeats 400000 in
theorem upTo_c (x a b : Int) (w : World) : Calls Try.prog 44 #[.int .i64 x, .int .i64 a, .int .i64 b] w fun e w' => e = .returned (.bool (rngB x a b)) ∧ w = w' := by
  by_cases h : a ≤ x
  · go_enter Try.func44, Try.ntmps44
    go_wp2
    all_goals (go_ret; exact ⟨by first | (simp [rngB, h]; done) | (simp [rngB]; omega), rfl⟩)
  · go_enter Try.func44, Try.ntmps44
    go_wp2
    all_goals (go_ret; exact ⟨by first | (simp [rngB, h]; done) | (simp [rngB]; omega), rfl⟩)
end Go.Proofs.Ytimnhdmpfndeaaa.Nm
