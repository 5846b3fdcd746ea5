/- Layer 13: requests: what the program's and the references' functions answer. -/
import Derived.Test.YtnppbfjeibfamaaStr
import Derived.Test.YtnppbfjeibfamaaNum
namespace Go.Proofs.Ytnppbfjeibfamaa.Su
open Go.RowKit Go.Proofs.Ytnppbfjeibfamaa.Kt Go.Proofs.Ytnppbfjeibfamaa.Lw Go.Proofs.Ytnppbfjeibfamaa.St Go.Proofs.Ytnppbfjeibfamaa.Nm
set_option linter.unusedVariables false
set_option linter.unusedSimpArgs false

set_option maxHeartbeats 400000 in
theorem code_c (x : Int) (w : World) : Calls Try.prog 65 #[.int .i64 x] w fun e w' => e = .returned (.bool (rngB x 0 6)) ∧ w = w' := by
  go_enter Try.func65, Try.ntmps65
  go_wp2
  all_goals (go_ret; exact ⟨by simp [rngB]; omega, rfl⟩)
set_option maxHeartbeats 400000 in
theorem value_c (x : Int) (w : World) : Calls Try.prog 66 #[.int .i64 x] w fun e w' => e = .returned (.bool (rngB x 0 65535)) ∧ w = w' := by
  go_enter Try.func66, Try.ntmps66
  go_wp2
  all_goals (go_ret; exact ⟨by simp [rngB]; omega, rfl⟩)
set_option maxHeartbeats 400000 in
theorem length_c (x : Int) (w : World) : Calls Try.prog 67 #[.int .i64 x] w fun e w' => e = .returned (.bool (rngB x 0 32)) ∧ w = w' := by
  go_enter Try.func67, Try.ntmps67
  go_wp2
  all_goals (go_ret; exact ⟨by simp [rngB]; omega, rfl⟩)
def setMay (c v l : Int) : Bool := rngB c 0 6 && (rngB v 0 65535 && rngB l 0 32)
set_option maxHeartbeats 400000 in
theorem setMay_c (c v l : Int) (w : World) : Calls Try.prog 61 #[.agg #[.int .i64 c, .int .i64 v, .int .i64 l]] w fun e w' => e = .returned (.bool (setMay c v l)) ∧ Below w.heap.size w w' := by
  go_enter Try.func61, Try.ntmps61
  go_wp2_with (first | (go_at_call 65; refine (code_c _ _).mono ?_; rintro e w' ⟨rfl, rfl⟩) | (go_at_call 66; refine (value_c _ _).mono ?_; rintro e w' ⟨rfl, rfl⟩) | (go_at_call 67; refine (length_c _ _).mono ?_; rintro e w' ⟨rfl, rfl⟩) | fail)
  all_goals (go_ret; exact ⟨by simp [setMay, *], (by repeat (with_reducible first | exact Below.refl _ _ | assumption | (refine bl_set ?_ (by omega)) | apply bl_alloc | apply bl_drewN | apply bl_drew | (refine bl_step ?_ (by assumption)) | fail))⟩)
set_option maxHeartbeats 400000 in
theorem rsetMay_c (c v l : Int) (w : World) : Calls Try.prog 63 #[.agg #[.int .i64 c, .int .i64 v, .int .i64 l]] w fun e w' => e = .returned (.bool (setMay c v l)) ∧ Below w.heap.size w w' := by
  go_enter Try.func63, Try.ntmps63
  go_wp2_with (first | (go_at_call 37; refine (upTo_c _ _ _ _).mono ?_; rintro e w' ⟨rfl, rfl⟩) | fail)
  all_goals (go_ret; exact ⟨by simp [setMay, *], (by repeat (with_reducible first | exact Below.refl _ _ | assumption | (refine bl_set ?_ (by omega)) | apply bl_alloc | apply bl_drewN | apply bl_drew | (refine bl_step ?_ (by assumption)) | fail))⟩)
def wayI (c : Int) : Int := if c = 2 ∨ c = 3 ∨ c = 5 then 161 else 33
set_option maxHeartbeats 400000 in
theorem kind_c (c : Int) (w : World) : Calls Try.prog 62 #[.int .i64 c] w fun e w' => e = .returned (.int .i64 (wayI c)) ∧ w = w' := by
  go_enter Try.func62, Try.ntmps62
  go_wp2
  all_goals (go_ret; exact ⟨by simp_all [wayI], rfl⟩)
def supB (c v l : Int) : ByteArray := bif setMay c v l then lowB (wayI c) 1 ++ lowB c 1 ++ lowB v 2 ++ lowB 0 2 ++ lowB l 2 else ByteArray.empty
def supE (c v l : Int) : Int := bif setMay c v l then 0 else 1300
set_option maxHeartbeats 1600000 in
theorem sput_c (c v l : Int) (w : World) : Calls Try.prog 48 #[.agg #[.int .i64 c, .int .i64 v, .int .i64 l]] w fun e w' => e = .returned (.tuple #[.string (supB c v l), .int .i64 (supE c v l)]) ∧ Below w.heap.size w w' := by
  have HB := Below.refl w.heap.size w
  have K0 := Blk.new w #[.int .i64 c, .int .i64 v, .int .i64 l] 59
  cases hm : setMay c v l
  · go_enter Try.func48, Try.ntmps48
    go_wp2_with (first | (go_at_call 61; refine (setMay_c _ _ _ _).mono ?_; rintro e w' ⟨rfl, hb⟩; have HB := bl_step (by repeat (with_reducible first | exact HB | apply bl_alloc | apply bl_drew | apply bl_drewN | fail)) hb; have K0 := Blk.below (by repeat (with_reducible first | exact K0 | exact K0 _ | exact K0 _ _ | apply Blk.alloc | apply Blk.drew | apply Blk.drewN | fail)) hb; obtain ⟨_, _, _, _, _, _, _⟩ := Blk.all3 K0) | fail)
    go_ret2
    exact ⟨by simp [supB, supE, hm]; rfl, HB⟩
  · go_enter Try.func48, Try.ntmps48
    go_wp2_with (first | (go_at_call 61; refine (setMay_c _ _ _ _).mono ?_; rintro e w' ⟨rfl, hb⟩; have HB := bl_step (by repeat (with_reducible first | exact HB | apply bl_alloc | apply bl_drew | apply bl_drewN | fail)) hb; have K0 := Blk.below (by repeat (with_reducible first | exact K0 | exact K0 _ | exact K0 _ _ | apply Blk.alloc | apply Blk.drew | apply Blk.drewN | fail)) hb; obtain ⟨_, _, _, _, _, _, _⟩ := Blk.all3 K0) | fail)
    have HC : w'.cell? ⟨w.heap.size, 0, none⟩ = some (.int .i64 c) ∧ w'.cell? ⟨w.heap.size, 1, none⟩ = some (.int .i64 v) ∧ w'.cell? ⟨w.heap.size, 2, none⟩ = some (.int .i64 l) := ⟨K0.cell 0, K0.cell 1, K0.cell 2⟩
    have z1 := lowB_size (wayI c) 1
    have z2 := lowB_size c 1
    have z3 := lowB_size v 2
    have z4 := lowB_size 0 2
    have z5 := lowB_size l 2
    go_region_held3 (fun W => W.cell? ⟨w.heap.size, 0, none⟩ = some (.int .i64 c) ∧ W.cell? ⟨w.heap.size, 1, none⟩ = some (.int .i64 v) ∧ W.cell? ⟨w.heap.size, 2, none⟩ = some (.int .i64 l) ∧ Below w'.heap.size w' W) (first | (refine k3 HC ?_; (repeat (with_reducible first | exact Below.refl _ _ | (apply kz3; assumption) | apply bl_alloc | apply bl_drew | apply bl_drewN | (refine bl_setn ?_ (by apply kz3; assumption)) | (refine bl_step ?_ (by assumption)) | fail)); done) | fail) (first | (go_at_call 35; refine (low_c _ _ _ (by omega) (by omega)).mono ?_; rintro e wq ⟨rfl, hb⟩) | (go_at_call 62; refine (kind_c _ _).mono ?_; rintro e w' ⟨rfl, rfl⟩) | fail)
    go_wp2
    go_ret2
    exact ⟨by simp [supB, supE, hm], bl_step HB (kz3 (by assumption))⟩
end Go.Proofs.Ytnppbfjeibfamaa.Su
