/- Layer 12: whom a file is for: what the program's and the references' functions answer; the laws' walks. -/
import Derived.Test.YtalgfekpcklijaaGreatGb
namespace Go.Proofs.YtalgfekpcklijaaGreat.Id
open Go.RowKit Go.Proofs.YtalgfekpcklijaaGreat.Kt
set_option linter.unusedVariables false
set_option linter.unusedSimpArgs false

set_option maxHeartbeats 400000 in
theorem enum_c (x : Int) (w : World) : Calls Tryz.prog 18 #[.int .i64 x] w fun e w' => e = .returned (.int .i64 x) ∧ w = w' := by
  go_enter Tryz.func18, Tryz.ntmps18
  go_wp2
  go_ret
  exact ⟨rfl, rfl⟩
set_option maxHeartbeats 400000 in
theorem upTo_c (x a b : Int) (w : World) : Calls Tryz.prog 62 #[.int .i64 x, .int .i64 a, .int .i64 b] w fun e w' => e = .returned (.bool (rngB x a b)) ∧ w = w' := by
  by_cases h : a ≤ x
  · go_enter Tryz.func62, Tryz.ntmps62
    go_wp2
    all_goals (go_ret; exact ⟨by first | (simp [rngB, h]; done) | (simp [rngB]; omega), rfl⟩)
  · go_enter Tryz.func62, Tryz.ntmps62
    go_wp2
    all_goals (go_ret; exact ⟨by first | (simp [rngB, h]; done) | (simp [rngB]; omega), rfl⟩)
set_option maxHeartbeats 400000 in
theorem id_c (x : Int) (w : World) : Calls Tryz.prog 132 #[.int .i64 x] w fun e w' => e = .returned (.bool (rngB x 0 65535)) ∧ w = w' := by
  by_cases h : 0 ≤ x
  · go_enter Tryz.func132, Tryz.ntmps132
    go_wp2
    all_goals (go_ret; exact ⟨by first | (simp [rngB, h]; done) | (simp [rngB]; omega), rfl⟩)
  · go_enter Tryz.func132, Tryz.ntmps132
    go_wp2
    all_goals (go_ret; exact ⟨by first | (simp [rngB, h]; done) | (simp [rngB]; omega), rfl⟩)
def mayB (v p r : Int) : Bool := rngB v 0 65535 && (rngB p 0 65535 && rngB r 0 65535)
set_option maxHeartbeats 400000 in
theorem may_c (v p r : Int) (w : World) : Calls Tryz.prog 84 #[.agg #[.int .i64 v, .int .i64 p, .int .i64 r]] w fun e w' => e = .returned (.bool (mayB v p r)) ∧ Below w.heap.size w w' := by
  go_enter Tryz.func84, Tryz.ntmps84
  go_wp2_with (go_at_call 132; refine (id_c _ _).mono ?_; rintro e w' ⟨rfl, rfl⟩)
  all_goals (go_ret; exact ⟨by simp [mayB, *], (by repeat (with_reducible first | exact Below.refl _ _ | assumption | (refine bl_set ?_ (by omega)) | apply bl_alloc | apply bl_drewN | apply bl_drew | (refine bl_step ?_ (by assumption)) | fail))⟩)
def fitsB (a b : Int) : Bool := a == b || a == 65535
set_option maxHeartbeats 400000 in
theorem fits_c (a b : Int) (w : World) : Calls Tryz.prog 187 #[.int .i64 a, .int .i64 b] w fun e w' => e = .returned (.bool (fitsB a b)) ∧ w = w' := by
  go_enter Tryz.func187, Tryz.ntmps187
  go_wp2
  all_goals (go_ret; exact ⟨by simp [fitsB, *], rfl⟩)
end Go.Proofs.YtalgfekpcklijaaGreat.Id
