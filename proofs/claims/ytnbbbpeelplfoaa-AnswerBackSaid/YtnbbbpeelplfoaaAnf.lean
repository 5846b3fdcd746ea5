/- Layer 14: the laws AnswerForms, AnswerBack. -/
import Derived.Test.YtnbbbpeelplfoaaAnp
namespace Go.Proofs.Ytnbbbpeelplfoaa.An
open Go.RowKit Go.Proofs.Ytnbbbpeelplfoaa.Kt Go.Proofs.Ytnbbbpeelplfoaa.Lw Go.Proofs.Ytnbbbpeelplfoaa.St Go.Proofs.Ytnbbbpeelplfoaa.Id Go.Proofs.Ytnbbbpeelplfoaa.Es Go.Proofs.Ytnbbbpeelplfoaa.Bt
set_option linter.unusedVariables false
set_option linter.unusedSimpArgs false
attribute [local go_sem high] eqAns

set_option maxHeartbeats 3200000 in
theorem back_0 (x0 x1 x2 a t z : Int) (s : ByteArray) (w : World) (ha : wrap64 (Int.tmod (IntKind.u64.wrap x0) 7) = a) (ht : Go.bits .and .i64 x1 255 = t) (hz : Go.bits .and .i64 x2 7 = z) (hm : ansMay a t z = true) :
    Calls Try.prog 13 #[.int .i64 x0, .int .i64 x1, .int .i64 x2, .string s] w fun e w' => e = .returned (.bool true) ∧ Below w.heap.size w w' := by
  have HB := Below.refl w.heap.size w
  have p1 : putE a t z = 0 := by simp [putE, hm]
  have p2 := put_size hm
  obtain ⟨p3, p4⟩ := got_put hm
  clear hm
  cases hg : gotB s
  · have g1 : gotV s = #[.int .i64 0, .int .i64 0, .int .i64 0] := by simp [gotV, hg]
    go_enter Try.func13, Try.ntmps13
    go_wp2_with (first | (go_at_call 38; refine (awake_c _).mono ?_; rintro e w' ⟨rfl, hb⟩; have HB := bl_step (by repeat (with_reducible first | exact HB | apply bl_alloc | apply bl_drew | apply bl_drewN | fail)) hb; have K0 := fun cs => Blk.new w' cs 44) | (go_at_call 32; refine (put_c _ _ _ _).mono ?_; rintro e w' ⟨rfl, hb⟩; have HB := bl_step (by repeat (with_reducible first | exact HB | apply bl_alloc | apply bl_drew | apply bl_drewN | fail)) hb; have K0 := Blk.below (by repeat (with_reducible first | exact K0 | exact K0 _ | exact K0 _ _ | apply Blk.alloc | apply Blk.drew | apply Blk.drewN | fail)) hb; obtain ⟨_, _, _, _, _, _, _⟩ := Blk.all3 K0) | (go_at_call 34; refine (get_c _ _).mono ?_; rintro e w' ⟨rfl, hb⟩; have HB := bl_step (by repeat (with_reducible first | exact HB | apply bl_alloc | apply bl_drew | apply bl_drewN | fail)) hb; have K0 := Blk.below (by repeat (with_reducible first | exact K0 | exact K0 _ | exact K0 _ _ | apply Blk.alloc | apply Blk.drew | apply Blk.drewN | fail)) hb; obtain ⟨_, _, _, _, _, _, _⟩ := Blk.all3 K0) | (go_at_call 25; refine (enum_c _ _).mono ?_; rintro e w' ⟨rfl, rfl⟩) | fail)
    go_ret
    exact ⟨by simp, (by repeat (with_reducible first | exact Below.refl _ _ | assumption | (refine bl_set ?_ (by omega)) | apply bl_alloc | apply bl_drewN | apply bl_drew | (refine bl_step ?_ (by assumption)) | fail))⟩
  · obtain ⟨b0, b1, b2, g1, gm, g2⟩ := put_got s hg
    have g3 : putE b0 b1 b2 = 0 := by simp [putE, gm]
    clear gm
    go_enter Try.func13, Try.ntmps13
    go_wp2_with (first | (go_at_call 38; refine (awake_c _).mono ?_; rintro e w' ⟨rfl, hb⟩; have HB := bl_step (by repeat (with_reducible first | exact HB | apply bl_alloc | apply bl_drew | apply bl_drewN | fail)) hb; have K0 := fun cs => Blk.new w' cs 44) | (go_at_call 32; refine (put_c _ _ _ _).mono ?_; rintro e w' ⟨rfl, hb⟩; have HB := bl_step (by repeat (with_reducible first | exact HB | apply bl_alloc | apply bl_drew | apply bl_drewN | fail)) hb; have K0 := Blk.below (by repeat (with_reducible first | exact K0 | exact K0 _ | exact K0 _ _ | apply Blk.alloc | apply Blk.drew | apply Blk.drewN | fail)) hb; obtain ⟨_, _, _, _, _, _, _⟩ := Blk.all3 K0) | (go_at_call 34; refine (get_c _ _).mono ?_; rintro e w' ⟨rfl, hb⟩; have HB := bl_step (by repeat (with_reducible first | exact HB | apply bl_alloc | apply bl_drew | apply bl_drewN | fail)) hb; have K0 := Blk.below (by repeat (with_reducible first | exact K0 | exact K0 _ | exact K0 _ _ | apply Blk.alloc | apply Blk.drew | apply Blk.drewN | fail)) hb; obtain ⟨_, _, _, _, _, _, _⟩ := Blk.all3 K0) | (go_at_call 25; refine (enum_c _ _).mono ?_; rintro e w' ⟨rfl, rfl⟩) | fail)
    go_ret
    exact ⟨by simp, (by repeat (with_reducible first | exact Below.refl _ _ | assumption | (refine bl_set ?_ (by omega)) | apply bl_alloc | apply bl_drewN | apply bl_drew | (refine bl_step ?_ (by assumption)) | fail))⟩
theorem back_w (x0 x1 x2 : Int) (s : ByteArray) (w : World) :
    Calls Try.prog 13 #[.int .i64 x0, .int .i64 x1, .int .i64 x2, .string s] w fun e w' => e = .returned (.bool true) ∧ Below w.heap.size w w' := by
  have h0 := umod64 x0 7 (by decide) (by decide)
  have h1 := and255 x1
  have h2 := and7 x2
  exact back_0 x0 x1 x2 _ _ _ s w rfl rfl rfl (may_mk h0.1 h0.2 (by omega) (by omega) (by omega) (by omega))
end Go.Proofs.Ytnbbbpeelplfoaa.An
