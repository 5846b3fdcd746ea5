/- Layer 12: whom a file is for: what the program's and the references' functions answer; the laws' walks. -/
import Derived.Test.YtnbbbpeelplfoaaKit
namespace Go.Proofs.Ytnbbbpeelplfoaa.Id
open Go.RowKit Go.Proofs.Ytnbbbpeelplfoaa.Kt
set_option linter.unusedVariables false
set_option linter.unusedSimpArgs false

set_option maxHeartbeats 400000 in
theorem enum_c (x : Int) (w : World) : Calls Try.prog 25 #[.int .i64 x] w fun e w' => e = .returned (.int .i64 x) ∧ w = w' := by
  go_enter Try.func25, Try.ntmps25
  go_wp2
  go_ret
  exact ⟨rfl, rfl⟩
set_option maxHeartbeats 400000 in
theorem upTo_c (x a b : Int) (w : World) : Calls Try.prog 45 #[.int .i64 x, .int .i64 a, .int .i64 b] w fun e w' => e = .returned (.bool (rngB x a b)) ∧ w = w' := by
  by_cases h : a ≤ x
  · go_enter Try.func45, Try.ntmps45
    go_wp2
    all_goals (go_ret; exact ⟨by first | (simp [rngB, h]; done) | (simp [rngB]; omega), rfl⟩)
  · go_enter Try.func45, Try.ntmps45
    go_wp2
    all_goals (go_ret; exact ⟨by first | (simp [rngB, h]; done) | (simp [rngB]; omega), rfl⟩)
set_option maxHeartbeats 400000 in
theorem id_c (x : Int) (w : World) : Calls Try.prog 40 #[.int .i64 x] w fun e w' => e = .returned (.bool (rngB x 0 65535)) ∧ w = w' := by
  by_cases h : 0 ≤ x
  · go_enter Try.func40, Try.ntmps40
    go_wp2
    all_goals (go_ret; exact ⟨by first | (simp [rngB, h]; done) | (simp [rngB]; omega), rfl⟩)
  · go_enter Try.func40, Try.ntmps40
    go_wp2
    all_goals (go_ret; exact ⟨by first | (simp [rngB, h]; done) | (simp [rngB]; omega), rfl⟩)
set_option maxHeartbeats 400000 in
theorem idMay_c (x : Int) (w : World) : Calls Try.prog 41 #[.int .i64 x] w fun e w' => e = .returned (.bool (rngB x 0 65535)) ∧ w = w' := by
  go_enter Try.func41, Try.ntmps41
  go_wp2_with (go_at_call 45; refine (upTo_c _ _ _ _).mono ?_; rintro e w' ⟨rfl, rfl⟩)
  go_ret
  exact ⟨rfl, rfl⟩
def mayB (v p r : Int) : Bool := rngB v 0 65535 && (rngB p 0 65535 && rngB r 0 65535)
set_option maxHeartbeats 400000 in
theorem may_c (v p r : Int) (w : World) : Calls Try.prog 26 #[.agg #[.int .i64 v, .int .i64 p, .int .i64 r]] w fun e w' => e = .returned (.bool (mayB v p r)) ∧ Below w.heap.size w w' := by
  go_enter Try.func26, Try.ntmps26
  go_wp2_with (go_at_call 40; refine (id_c _ _).mono ?_; rintro e w' ⟨rfl, rfl⟩)
  all_goals (go_ret; exact ⟨by simp [mayB, *], (by repeat (with_reducible first | exact Below.refl _ _ | assumption | (refine bl_set ?_ (by omega)) | apply bl_alloc | apply bl_drewN | apply bl_drew | (refine bl_step ?_ (by assumption)) | fail))⟩)
set_option maxHeartbeats 400000 in
theorem idsMay_c (v p r : Int) (w : World) : Calls Try.prog 27 #[.agg #[.int .i64 v, .int .i64 p, .int .i64 r]] w fun e w' => e = .returned (.bool (mayB v p r)) ∧ Below w.heap.size w w' := by
  go_enter Try.func27, Try.ntmps27
  go_wp2_with (go_at_call 41; refine (idMay_c _ _).mono ?_; rintro e w' ⟨rfl, rfl⟩)
  all_goals (go_ret; exact ⟨by simp [mayB, *], (by repeat (with_reducible first | exact Below.refl _ _ | assumption | (refine bl_set ?_ (by omega)) | apply bl_alloc | apply bl_drewN | apply bl_drew | (refine bl_step ?_ (by assumption)) | fail))⟩)
def fitsB (a b : Int) : Bool := a == b || a == 65535
set_option maxHeartbeats 400000 in
theorem fits_c (a b : Int) (w : World) : Calls Try.prog 39 #[.int .i64 a, .int .i64 b] w fun e w' => e = .returned (.bool (fitsB a b)) ∧ w = w' := by
  go_enter Try.func39, Try.ntmps39
  go_wp2
  all_goals (go_ret; exact ⟨by simp [fitsB, *], rfl⟩)
/-- is what is for a for b? -/
def matchB (v p r v' p' r' : Int) : Bool := (mayB v p r && mayB v' p' r') && (fitsB v v' && (fitsB p p' && fitsB r r'))
def matchE (v p r v' p' r' : Int) : Int := bif mayB v p r && mayB v' p' r' then 0 else 1200
set_option maxHeartbeats 800000 in
theorem match_c (v p r v' p' r' : Int) (w : World) : Calls Try.prog 23 #[.agg #[.int .i64 v, .int .i64 p, .int .i64 r], .agg #[.int .i64 v', .int .i64 p', .int .i64 r']] w fun e w' =>
    e = .returned (.tuple #[.bool (matchB v p r v' p' r'), .int .i64 (matchE v p r v' p' r')]) ∧ Below w.heap.size w w' := by
  have HB := Below.refl w.heap.size w
  have K0 := Blk.new w #[.int .i64 v, .int .i64 p, .int .i64 r] 24
  have K1 := Blk.new1 w (.cells #[.int .i64 v, .int .i64 p, .int .i64 r] 24) #[.int .i64 v', .int .i64 p', .int .i64 r'] 24
  cases h1 : mayB v p r <;> cases h2 : mayB v' p' r'
  all_goals
    go_enter Try.func23, Try.ntmps23
    go_wp2_with (first | (go_at_call 26; refine (may_c _ _ _ _).mono ?_; rintro e w' ⟨rfl, hb⟩; have HB := bl_step (by repeat (with_reducible first | exact HB | apply bl_alloc | apply bl_drew | apply bl_drewN | fail)) hb; have K0 := Blk.below (by repeat (with_reducible first | exact K0 | exact K0 _ | exact K0 _ _ | apply Blk.alloc | apply Blk.drew | apply Blk.drewN | fail)) hb; obtain ⟨_, _, _, _, _, _, _⟩ := Blk.all3 K0; have K1 := Blk.below (by repeat (with_reducible first | exact K1 | exact K1 _ | exact K1 _ _ | apply Blk.alloc | apply Blk.drew | apply Blk.drewN | fail)) hb; obtain ⟨_, _, _, _, _, _, _⟩ := Blk.all3 K1) | (go_at_call 39; refine (fits_c _ _ _).mono ?_; rintro e w' ⟨rfl, rfl⟩) | fail)
    all_goals (go_ret2; exact ⟨by simp [matchB, matchE, *], HB⟩)
set_option maxHeartbeats 800000 in
theorem rmatch_c (v p r v' p' r' : Int) (w : World) : Calls Try.prog 24 #[.agg #[.int .i64 v, .int .i64 p, .int .i64 r], .agg #[.int .i64 v', .int .i64 p', .int .i64 r']] w fun e w' =>
    e = .returned (.tuple #[.bool (matchB v p r v' p' r'), .int .i64 (matchE v p r v' p' r')]) ∧ Below w.heap.size w w' := by
  have HB := Below.refl w.heap.size w
  have K0 := Blk.new w #[.int .i64 v, .int .i64 p, .int .i64 r] 24
  have K1 := Blk.new1 w (.cells #[.int .i64 v, .int .i64 p, .int .i64 r] 24) #[.int .i64 v', .int .i64 p', .int .i64 r'] 24
  cases h1 : mayB v p r <;> cases h2 : mayB v' p' r'
  all_goals
    go_enter Try.func24, Try.ntmps24
    go_wp2_with (first | (go_at_call 27; refine (idsMay_c _ _ _ _).mono ?_; rintro e w' ⟨rfl, hb⟩; have HB := bl_step (by repeat (with_reducible first | exact HB | apply bl_alloc | apply bl_drew | apply bl_drewN | fail)) hb; have K0 := Blk.below (by repeat (with_reducible first | exact K0 | exact K0 _ | exact K0 _ _ | apply Blk.alloc | apply Blk.drew | apply Blk.drewN | fail)) hb; obtain ⟨_, _, _, _, _, _, _⟩ := Blk.all3 K0; have K1 := Blk.below (by repeat (with_reducible first | exact K1 | exact K1 _ | exact K1 _ _ | apply Blk.alloc | apply Blk.drew | apply Blk.drewN | fail)) hb; obtain ⟨_, _, _, _, _, _, _⟩ := Blk.all3 K1) | fail)
    all_goals (go_ret2; exact ⟨by first | (simp [matchB, matchE, fitsB, h1, h2]; done) | (simp [matchB, matchE, fitsB, h1, h2]; omega) | (simp [matchB, matchE, fitsB, h1, h2]; rw [Bool.eq_iff_iff]; simp; omega), HB⟩)

set_option maxHeartbeats 800000 in
theorem awake_c (w : World) : Calls Try.prog 28 #[] w fun e w' => e = .returned (.bool true) ∧ Below w.heap.size w w' := by
  have HB := Below.refl w.heap.size w
  have K0 := Blk.new w #[.int .i64 3, .int .i64 65535, .int .i64 7] 24
  have m1 : matchB 3 65535 7 3 9 7 = true := by decide
  have m2 : matchE 3 65535 7 3 9 7 = 0 := by decide
  have m3 : matchB 3 9 7 3 65535 7 = false := by decide
  have m4 : matchE 3 9 7 3 65535 7 = 0 := by decide
  have m5 : matchE 3 65535 7 (-1) 0 0 = 1200 := by decide
  have m6 : mayB 3 65535 7 = true := by decide
  go_enter Try.func28, Try.ntmps28
  go_wp2_with (first | (go_at_call 23; refine (match_c _ _ _ _ _ _ _).mono ?_; rintro e w' ⟨rfl, hb⟩; have HB := bl_step (by repeat (with_reducible first | exact HB | apply bl_alloc | apply bl_drew | apply bl_drewN | fail)) hb; have K0 := Blk.below (by repeat (with_reducible first | exact K0 | exact K0 _ | exact K0 _ _ | apply Blk.alloc | apply Blk.drew | apply Blk.drewN | fail)) hb; obtain ⟨_, _, _, _, _, _, _⟩ := Blk.all3 K0) | (go_at_call 26; refine (may_c _ _ _ _).mono ?_; rintro e w' ⟨rfl, hb⟩; have HB := bl_step (by repeat (with_reducible first | exact HB | apply bl_alloc | apply bl_drew | apply bl_drewN | fail)) hb; have K0 := Blk.below (by repeat (with_reducible first | exact K0 | exact K0 _ | exact K0 _ _ | apply Blk.alloc | apply Blk.drew | apply Blk.drewN | fail)) hb; obtain ⟨_, _, _, _, _, _, _⟩ := Blk.all3 K0) | (go_at_call 25; refine (enum_c _ _).mono ?_; rintro e w' ⟨rfl, rfl⟩) | fail)
  go_ret
  exact ⟨rfl, HB⟩
set_option maxHeartbeats 1600000 in
theorem idents_w (v p r v' p' r' : Int) (w : World) : Calls Try.prog 4 #[.agg #[.int .i64 v, .int .i64 p, .int .i64 r], .agg #[.int .i64 v', .int .i64 p', .int .i64 r']] w fun e w' =>
    e = .returned (.bool true) ∧ Below w.heap.size w w' := by
  have HB := Below.refl w.heap.size w
  have K0 := Blk.new w #[.int .i64 v, .int .i64 p, .int .i64 r] 24
  have K1 := Blk.new1 w (.cells #[.int .i64 v, .int .i64 p, .int .i64 r] 24) #[.int .i64 v', .int .i64 p', .int .i64 r'] 24
  go_enter Try.func4, Try.ntmps4
  go_wp2_with (first | (go_at_call 23; refine (match_c _ _ _ _ _ _ _).mono ?_; rintro e w' ⟨rfl, hb⟩; have HB := bl_step (by repeat (with_reducible first | exact HB | apply bl_alloc | apply bl_drew | apply bl_drewN | fail)) hb; have K0 := Blk.below (by repeat (with_reducible first | exact K0 | exact K0 _ | exact K0 _ _ | apply Blk.alloc | apply Blk.drew | apply Blk.drewN | fail)) hb; obtain ⟨_, _, _, _, _, _, _⟩ := Blk.all3 K0; have K1 := Blk.below (by repeat (with_reducible first | exact K1 | exact K1 _ | exact K1 _ _ | apply Blk.alloc | apply Blk.drew | apply Blk.drewN | fail)) hb; obtain ⟨_, _, _, _, _, _, _⟩ := Blk.all3 K1) | (go_at_call 24; refine (rmatch_c _ _ _ _ _ _ _).mono ?_; rintro e w' ⟨rfl, hb⟩; have HB := bl_step (by repeat (with_reducible first | exact HB | apply bl_alloc | apply bl_drew | apply bl_drewN | fail)) hb; have K0 := Blk.below (by repeat (with_reducible first | exact K0 | exact K0 _ | exact K0 _ _ | apply Blk.alloc | apply Blk.drew | apply Blk.drewN | fail)) hb; obtain ⟨_, _, _, _, _, _, _⟩ := Blk.all3 K0; have K1 := Blk.below (by repeat (with_reducible first | exact K1 | exact K1 _ | exact K1 _ _ | apply Blk.alloc | apply Blk.drew | apply Blk.drewN | fail)) hb; obtain ⟨_, _, _, _, _, _, _⟩ := Blk.all3 K1) | fail)
  have HC : w'.cell? ⟨w.heap.size, 0, none⟩ = some (.int .i64 v) ∧ w'.cell? ⟨w.heap.size, 1, none⟩ = some (.int .i64 p) ∧ w'.cell? ⟨w.heap.size, 2, none⟩ = some (.int .i64 r) := ⟨K0.cell 0, K0.cell 1, K0.cell 2⟩
  go_region_held3 (fun W => W.cell? ⟨w.heap.size, 0, none⟩ = some (.int .i64 v) ∧ W.cell? ⟨w.heap.size, 1, none⟩ = some (.int .i64 p) ∧ W.cell? ⟨w.heap.size, 2, none⟩ = some (.int .i64 r) ∧ Below w'.heap.size w' W) (first | (refine k3 HC ?_; (repeat (with_reducible first | exact Below.refl _ _ | (apply kz3; assumption) | apply bl_alloc | apply bl_drew | apply bl_drewN | (refine bl_setn ?_ (by apply kz3; assumption)) | (refine bl_step ?_ (by assumption)) | fail)); done) | fail)
    (first | (go_at_call 25; refine (enum_c _ _).mono ?_; rintro e w' ⟨rfl, rfl⟩) | (go_at_call 26; refine (may_c _ _ _ _).mono ?_; rintro e wq ⟨rfl, hb⟩) | (go_at_call 27; refine (idsMay_c _ _ _ _).mono ?_; rintro e wq ⟨rfl, hb⟩) | (go_at_call 28; refine (awake_c _).mono ?_; rintro e wq ⟨rfl, hb⟩) | fail)
  all_goals go_wp2
  all_goals go_ret
  all_goals exact ⟨by simp, bl_step HB (kz3 (by assumption))⟩
end Go.Proofs.Ytnbbbpeelplfoaa.Id
