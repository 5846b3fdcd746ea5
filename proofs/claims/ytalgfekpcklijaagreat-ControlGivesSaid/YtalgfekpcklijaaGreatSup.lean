/- Layer 13: requests: what the program's and the references' functions answer. -/
import Derived.Test.YtalgfekpcklijaaGreatGb
namespace Go.Proofs.YtalgfekpcklijaaGreat.Su
open Go.RowKit Go.Proofs.YtalgfekpcklijaaGreat.Kt Go.Proofs.YtalgfekpcklijaaGreat.Lw Go.Proofs.YtalgfekpcklijaaGreat.St Go.Proofs.YtalgfekpcklijaaGreat.Nm
set_option linter.unusedVariables false
set_option linter.unusedSimpArgs false

set_option maxHeartbeats 400000 in
theorem code_c (x : Int) (w : World) : Calls Tryz.prog 104 #[.int .i64 x] w fun e w' => e = .returned (.bool (rngB x 0 6)) ∧ w = w' := by
  go_enter Tryz.func104, Tryz.ntmps104
  go_wp2
  all_goals (go_ret; exact ⟨by simp [rngB]; omega, rfl⟩)
set_option maxHeartbeats 400000 in
theorem value_c (x : Int) (w : World) : Calls Tryz.prog 177 #[.int .i64 x] w fun e w' => e = .returned (.bool (rngB x 0 65535)) ∧ w = w' := by
  go_enter Tryz.func177, Tryz.ntmps177
  go_wp2
  all_goals (go_ret; exact ⟨by simp [rngB]; omega, rfl⟩)
set_option maxHeartbeats 400000 in
theorem length_c (x : Int) (w : World) : Calls Tryz.prog 178 #[.int .i64 x] w fun e w' => e = .returned (.bool (rngB x 0 32)) ∧ w = w' := by
  go_enter Tryz.func178, Tryz.ntmps178
  go_wp2
  all_goals (go_ret; exact ⟨by simp [rngB]; omega, rfl⟩)
def setMay (c v l : Int) : Bool := rngB c 0 6 && (rngB v 0 65535 && rngB l 0 32)
set_option maxHeartbeats 400000 in
theorem setMay_c (c v l : Int) (w : World) : Calls Tryz.prog 142 #[.agg #[.int .i64 c, .int .i64 v, .int .i64 l]] w fun e w' => e = .returned (.bool (setMay c v l)) ∧ Below w.heap.size w w' := by
  go_enter Tryz.func142, Tryz.ntmps142
  go_wp2_with (first | (go_at_call 104; refine (code_c _ _).mono ?_; rintro e w' ⟨rfl, rfl⟩) | (go_at_call 177; refine (value_c _ _).mono ?_; rintro e w' ⟨rfl, rfl⟩) | (go_at_call 178; refine (length_c _ _).mono ?_; rintro e w' ⟨rfl, rfl⟩) | fail)
  all_goals (go_ret; exact ⟨by simp [setMay, *], (by repeat (with_reducible first | exact Below.refl _ _ | assumption | (refine bl_set ?_ (by omega)) | apply bl_alloc | apply bl_drewN | apply bl_drew | (refine bl_step ?_ (by assumption)) | fail))⟩)
set_option maxHeartbeats 400000 in
theorem rsetMay_c (c v l : Int) (w : World) : Calls Tryz.prog 60 #[.agg #[.int .i64 c, .int .i64 v, .int .i64 l]] w fun e w' => e = .returned (.bool (setMay c v l)) ∧ Below w.heap.size w w' := by
  go_enter Tryz.func60, Tryz.ntmps60
  go_wp2_with (first | (go_at_call 62; refine (upTo_c _ _ _ _).mono ?_; rintro e w' ⟨rfl, rfl⟩) | fail)
  all_goals (go_ret; exact ⟨by simp [setMay, *], (by repeat (with_reducible first | exact Below.refl _ _ | assumption | (refine bl_set ?_ (by omega)) | apply bl_alloc | apply bl_drewN | apply bl_drew | (refine bl_step ?_ (by assumption)) | fail))⟩)
def wayI (c : Int) : Int := if c = 2 ∨ c = 3 ∨ c = 5 then 161 else 33
set_option maxHeartbeats 400000 in
theorem kind_c (c : Int) (w : World) : Calls Tryz.prog 144 #[.int .i64 c] w fun e w' => e = .returned (.int .i64 (wayI c)) ∧ w = w' := by
  go_enter Tryz.func144, Tryz.ntmps144
  go_wp2
  all_goals (go_ret; exact ⟨by simp_all [wayI], rfl⟩)
def supB (c v l : Int) : ByteArray := bif setMay c v l then lowB (wayI c) 1 ++ lowB c 1 ++ lowB v 2 ++ lowB 0 2 ++ lowB l 2 else ByteArray.empty
def supE (c v l : Int) : Int := bif setMay c v l then 0 else 1300
set_option maxHeartbeats 1600000 in
theorem sput_c (c v l : Int) (w : World) : Calls Tryz.prog 103 #[.agg #[.int .i64 c, .int .i64 v, .int .i64 l]] w fun e w' => e = .returned (.tuple #[.string (supB c v l), .int .i64 (supE c v l)]) ∧ Below w.heap.size w w' := by
  have HB := Below.refl w.heap.size w
  have K0 := Blk.new w #[.int .i64 c, .int .i64 v, .int .i64 l] 42
  cases hm : setMay c v l
  · go_enter Tryz.func103, Tryz.ntmps103
    go_wp2_with (first | (go_at_call 142; refine (setMay_c _ _ _ _).mono ?_; rintro e w' ⟨rfl, hb⟩; have HB := bl_step (by repeat (with_reducible first | exact HB | apply bl_alloc | apply bl_drew | apply bl_drewN | fail)) hb; have K0 := Blk.below (by repeat (with_reducible first | exact K0 | exact K0 _ | exact K0 _ _ | apply Blk.alloc | apply Blk.drew | apply Blk.drewN | fail)) hb; obtain ⟨_, _, _, _, _, _, _⟩ := Blk.all3 K0) | fail)
    go_ret2
    exact ⟨by simp [supB, supE, hm]; rfl, HB⟩
  · go_enter Tryz.func103, Tryz.ntmps103
    go_wp2_with (first | (go_at_call 142; refine (setMay_c _ _ _ _).mono ?_; rintro e w' ⟨rfl, hb⟩; have HB := bl_step (by repeat (with_reducible first | exact HB | apply bl_alloc | apply bl_drew | apply bl_drewN | fail)) hb; have K0 := Blk.below (by repeat (with_reducible first | exact K0 | exact K0 _ | exact K0 _ _ | apply Blk.alloc | apply Blk.drew | apply Blk.drewN | fail)) hb; obtain ⟨_, _, _, _, _, _, _⟩ := Blk.all3 K0) | fail)
    have HC : w'.cell? ⟨w.heap.size, 0, none⟩ = some (.int .i64 c) ∧ w'.cell? ⟨w.heap.size, 1, none⟩ = some (.int .i64 v) ∧ w'.cell? ⟨w.heap.size, 2, none⟩ = some (.int .i64 l) := ⟨K0.cell 0, K0.cell 1, K0.cell 2⟩
    have z1 := lowB_size (wayI c) 1
    have z2 := lowB_size c 1
    have z3 := lowB_size v 2
    have z4 := lowB_size 0 2
    have z5 := lowB_size l 2
    go_region_held3 (fun W => W.cell? ⟨w.heap.size, 0, none⟩ = some (.int .i64 c) ∧ W.cell? ⟨w.heap.size, 1, none⟩ = some (.int .i64 v) ∧ W.cell? ⟨w.heap.size, 2, none⟩ = some (.int .i64 l) ∧ Below w'.heap.size w' W) (first | (refine k3 HC ?_; (repeat (with_reducible first | exact Below.refl _ _ | (apply kz3; assumption) | apply bl_alloc | apply bl_drew | apply bl_drewN | (refine bl_setn ?_ (by apply kz3; assumption)) | (refine bl_step ?_ (by assumption)) | fail)); done) | fail) (first | (go_at_call 143; refine (low_c _ _ _ (by omega) (by omega)).mono ?_; rintro e wq ⟨rfl, hb⟩) | (go_at_call 144; refine (kind_c _ _).mono ?_; rintro e w' ⟨rfl, rfl⟩) | fail)
    go_wp2
    go_ret2
    exact ⟨by simp [supB, supE, hm], bl_step HB (kz3 (by assumption))⟩
end Go.Proofs.YtalgfekpcklijaaGreat.Su
