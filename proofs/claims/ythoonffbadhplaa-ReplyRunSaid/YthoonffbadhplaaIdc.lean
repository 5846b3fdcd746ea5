/- Layer 12: whom a file is for: contracts alone. -/
import Derived.Test.YthoonffbadhplaaNum
namespace Go.Proofs.Ythoonffbadhplaa.Ic
open Go.RowKit Go.Proofs.Ythoonffbadhplaa.Kt Go.Proofs.Ythoonffbadhplaa.Nm
set_option linter.unusedVariables false
set_option linter.unusedSimpArgs false

-- left out: id_c
set_option maxHeartbeats 400000 in
theorem idMay_c (x : Int) (w : World) : Calls Try.prog 62 #[.int .i64 x] w fun e w' => e = .returned (.bool (rngB x 0 65535)) ∧ w = w' := by
  go_enter Try.func62, Try.ntmps62
  go_wp2_with (go_at_call 51; refine (upTo_c _ _ _ _).mono ?_; rintro e w' ⟨rfl, rfl⟩)
  go_ret
  exact ⟨rfl, rfl⟩
def mayB (v p r : Int) : Bool := rngB v 0 65535 && (rngB p 0 65535 && rngB r 0 65535)
-- left out: may_c
set_option maxHeartbeats 400000 in
theorem idsMay_c (v p r : Int) (w : World) : Calls Try.prog 52 #[.agg #[.int .i64 v, .int .i64 p, .int .i64 r]] w fun e w' => e = .returned (.bool (mayB v p r)) ∧ Below w.heap.size w w' := by
  go_enter Try.func52, Try.ntmps52
  go_wp2_with (go_at_call 62; refine (idMay_c _ _).mono ?_; rintro e w' ⟨rfl, rfl⟩)
  all_goals (go_ret; exact ⟨by simp [mayB, *], (by repeat (with_reducible first | exact Below.refl _ _ | assumption | (refine bl_set ?_ (by omega)) | apply bl_alloc | apply bl_drewN | apply bl_drew | (refine bl_step ?_ (by assumption)) | fail))⟩)
def fitsB (a b : Int) : Bool := a == b || a == 65535
-- left out: fits_c
/-- is what is for a for b? -/
def matchB (v p r v' p' r' : Int) : Bool := (mayB v p r && mayB v' p' r') && (fitsB v v' && (fitsB p p' && fitsB r r'))
def matchE (v p r v' p' r' : Int) : Int := bif mayB v p r && mayB v' p' r' then 0 else 1200
-- left out: match_c
set_option maxHeartbeats 800000 in
theorem rmatch_c (v p r v' p' r' : Int) (w : World) : Calls Try.prog 55 #[.agg #[.int .i64 v, .int .i64 p, .int .i64 r], .agg #[.int .i64 v', .int .i64 p', .int .i64 r']] w fun e w' =>
    e = .returned (.tuple #[.bool (matchB v p r v' p' r'), .int .i64 (matchE v p r v' p' r')]) ∧ Below w.heap.size w w' := by
  have HB := Below.refl w.heap.size w
  have K0 := Blk.new w #[.int .i64 v, .int .i64 p, .int .i64 r] 61
  have K1 := Blk.new1 w (.cells #[.int .i64 v, .int .i64 p, .int .i64 r] 61) #[.int .i64 v', .int .i64 p', .int .i64 r'] 61
  cases h1 : mayB v p r <;> cases h2 : mayB v' p' r'
  all_goals
    go_enter Try.func55, Try.ntmps55
    go_wp2_with (first | (go_at_call 52; refine (idsMay_c _ _ _ _).mono ?_; rintro e w' ⟨rfl, hb⟩; have HB := bl_step (by repeat (with_reducible first | exact HB | apply bl_alloc | apply bl_drew | apply bl_drewN | fail)) hb; have K0 := Blk.below (by repeat (with_reducible first | exact K0 | exact K0 _ | exact K0 _ _ | apply Blk.alloc | apply Blk.drew | apply Blk.drewN | fail)) hb; obtain ⟨_, _, _, _, _, _, _⟩ := Blk.all3 K0; have K1 := Blk.below (by repeat (with_reducible first | exact K1 | exact K1 _ | exact K1 _ _ | apply Blk.alloc | apply Blk.drew | apply Blk.drewN | fail)) hb; obtain ⟨_, _, _, _, _, _, _⟩ := Blk.all3 K1) | fail)
    all_goals (go_ret2; exact ⟨by first | (simp [matchB, matchE, fitsB, h1, h2]; done) | (simp [matchB, matchE, fitsB, h1, h2]; omega) | (simp [matchB, matchE, fitsB, h1, h2]; rw [Bool.eq_iff_iff]; simp; omega), HB⟩)
end Go.Proofs.Ythoonffbadhplaa.Ic
