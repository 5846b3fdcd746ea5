/- Layer 13: the laws SetupForms, SetupBack. -/
import Derived.Test.YtfnfnldndmkeeaaSul
namespace Go.Proofs.Ytfnfnldndmkeeaa.Su
open Go.RowKit Go.Proofs.Ytfnfnldndmkeeaa.Kt Go.Proofs.Ytfnfnldndmkeeaa.Lw Go.Proofs.Ytfnfnldndmkeeaa.St Go.Proofs.Ytfnfnldndmkeeaa.Nm Go.Proofs.Ytfnfnldndmkeeaa.Es Go.Proofs.Ytfnfnldndmkeeaa.Bt
set_option linter.unusedVariables false
set_option linter.unusedSimpArgs false
attribute [local go_sem high] eqSet

set_option maxHeartbeats 3200000 in
theorem back_0 (x0 x1 x2 a t z : Int) (s : ByteArray) (w : World) (ha : wrap64 (Int.tmod (IntKind.u64.wrap x0) 7) = a) (ht : Go.bits .and .i64 x1 65535 = t) (hz : wrap64 (Int.tmod (IntKind.u64.wrap x2) 33) = z) (hm : setMay a t z = true) :
    Calls Try.prog 9 #[.int .i64 x0, .int .i64 x1, .int .i64 x2, .string s] w fun e w' => e = .returned (.bool true) ∧ Below w.heap.size w w' := by
  have HB := Below.refl w.heap.size w
  have p1 : supE a t z = 0 := by simp [supE, hm]
  have p2 := sup_size hm
  obtain ⟨p3, p4⟩ := got_sup hm
  clear hm
  cases hg : gotS s
  · have g1 : gotW s = #[.int .i64 0, .int .i64 0, .int .i64 0] := by simp [gotW, hg]
    go_enter Try.func9, Try.ntmps9
    go_wp2_with (first | (go_at_call 31; refine (awake_c _).mono ?_; rintro e w' ⟨rfl, hb⟩; have HB := bl_step (by repeat (with_reducible first | exact HB | apply bl_alloc | apply bl_drew | apply bl_drewN | fail)) hb; have K0 := fun cs => Blk.new w' cs 45) | (go_at_call 25; refine (sput_c _ _ _ _).mono ?_; rintro e w' ⟨rfl, hb⟩; have HB := bl_step (by repeat (with_reducible first | exact HB | apply bl_alloc | apply bl_drew | apply bl_drewN | fail)) hb; have K0 := Blk.below (by repeat (with_reducible first | exact K0 | exact K0 _ | exact K0 _ _ | apply Blk.alloc | apply Blk.drew | apply Blk.drewN | fail)) hb; obtain ⟨_, _, _, _, _, _, _⟩ := Blk.all3 K0) | (go_at_call 27; refine (sget_c _ _).mono ?_; rintro e w' ⟨rfl, hb⟩; have HB := bl_step (by repeat (with_reducible first | exact HB | apply bl_alloc | apply bl_drew | apply bl_drewN | fail)) hb; have K0 := Blk.below (by repeat (with_reducible first | exact K0 | exact K0 _ | exact K0 _ _ | apply Blk.alloc | apply Blk.drew | apply Blk.drewN | fail)) hb; obtain ⟨_, _, _, _, _, _, _⟩ := Blk.all3 K0) | (go_at_call 19; refine (enum_c _ _).mono ?_; rintro e w' ⟨rfl, rfl⟩) | fail)
    go_ret
    exact ⟨by simp, (by repeat (with_reducible first | exact Below.refl _ _ | assumption | (refine bl_set ?_ (by omega)) | apply bl_alloc | apply bl_drewN | apply bl_drew | (refine bl_step ?_ (by assumption)) | fail))⟩
  · obtain ⟨b0, b1, b2, g1, gm, g2⟩ := sup_got s hg
    have g3 : supE b0 b1 b2 = 0 := by simp [supE, gm]
    clear gm
    go_enter Try.func9, Try.ntmps9
    go_wp2_with (first | (go_at_call 31; refine (awake_c _).mono ?_; rintro e w' ⟨rfl, hb⟩; have HB := bl_step (by repeat (with_reducible first | exact HB | apply bl_alloc | apply bl_drew | apply bl_drewN | fail)) hb; have K0 := fun cs => Blk.new w' cs 45) | (go_at_call 25; refine (sput_c _ _ _ _).mono ?_; rintro e w' ⟨rfl, hb⟩; have HB := bl_step (by repeat (with_reducible first | exact HB | apply bl_alloc | apply bl_drew | apply bl_drewN | fail)) hb; have K0 := Blk.below (by repeat (with_reducible first | exact K0 | exact K0 _ | exact K0 _ _ | apply Blk.alloc | apply Blk.drew | apply Blk.drewN | fail)) hb; obtain ⟨_, _, _, _, _, _, _⟩ := Blk.all3 K0) | (go_at_call 27; refine (sget_c _ _).mono ?_; rintro e w' ⟨rfl, hb⟩; have HB := bl_step (by repeat (with_reducible first | exact HB | apply bl_alloc | apply bl_drew | apply bl_drewN | fail)) hb; have K0 := Blk.below (by repeat (with_reducible first | exact K0 | exact K0 _ | exact K0 _ _ | apply Blk.alloc | apply Blk.drew | apply Blk.drewN | fail)) hb; obtain ⟨_, _, _, _, _, _, _⟩ := Blk.all3 K0) | (go_at_call 19; refine (enum_c _ _).mono ?_; rintro e w' ⟨rfl, rfl⟩) | fail)
    go_ret
    exact ⟨by simp, (by repeat (with_reducible first | exact Below.refl _ _ | assumption | (refine bl_set ?_ (by omega)) | apply bl_alloc | apply bl_drewN | apply bl_drew | (refine bl_step ?_ (by assumption)) | fail))⟩
theorem back_w (x0 x1 x2 : Int) (s : ByteArray) (w : World) :
    Calls Try.prog 9 #[.int .i64 x0, .int .i64 x1, .int .i64 x2, .string s] w fun e w' => e = .returned (.bool true) ∧ Below w.heap.size w w' := by
  have h0 := umod64 x0 7 (by decide) (by decide)
  have h1 := and65535 x1
  have h2 := umod64 x2 33 (by decide) (by decide)
  exact back_0 x0 x1 x2 _ _ _ s w rfl rfl rfl (sup_mk h0.1 h0.2 (by omega) (by omega) h2.1 h2.2)
end Go.Proofs.Ytfnfnldndmkeeaa.Su
