/- Layer 11: the laws' walks: SuffixUnlike, SuffixCut. -/
import Derived.Test.YtnppbfjeibfamaaSfm
namespace Go.Proofs.Ytnppbfjeibfamaa.Sf
open Go.RowKit Go.Proofs.Ytnppbfjeibfamaa.Kt Go.Proofs.Ytnppbfjeibfamaa.Lw Go.Proofs.Ytnppbfjeibfamaa.St Go.Proofs.Ytnppbfjeibfamaa.Nm Go.Proofs.Ytnppbfjeibfamaa.Ic Go.Proofs.Ytnppbfjeibfamaa.Cr Go.Proofs.Ytnppbfjeibfamaa.Es Go.Proofs.Ytnppbfjeibfamaa.Bt
set_option linter.unusedVariables false
set_option linter.unusedSimpArgs false
attribute [local go_sem high] eqIds
set_option maxHeartbeats 3200000 in
theorem unlike_w (x y : ByteArray) (v p r v' p' r' : Int) (w : World) (hx : x.size ≤ 9223372036854775807) (hy : y.size ≤ 9223372036854775807) : Calls Try.prog 7 #[.string x, .string y, .agg #[.int .i64 v, .int .i64 p, .int .i64 r], .agg #[.int .i64 v', .int .i64 p', .int .i64 r']] w fun e w' =>
    e = .returned (.bool true) ∧ Below w.heap.size w w' := by
  have HB := Below.refl w.heap.size w
  have K0 := fun cs => (Blk.new w #[.int .i64 v, .int .i64 p, .int .i64 r] 23).alloc cs
  have K1 := fun cs0 cs => Blk.new1 w (.cells cs0 23) cs 23
  cases h : bldOk x v p r <;> cases h' : bldOk y v' p' r'
  · obtain ⟨a1, a2⟩ := bld_no h
    obtain ⟨b1, b2⟩ := bld_no h'
    clear h h'
    go_enter Try.func7, Try.ntmps7
    go_wp2_with (first | (go_at_call 18; refine (awake_c _).mono ?_; rintro e w' ⟨rfl, hb⟩; have HB := bl_step (by repeat (with_reducible first | exact HB | apply bl_alloc | apply bl_drew | apply bl_drewN | fail)) hb; have K0 := Blk.below (by repeat (with_reducible first | exact K0 | exact K0 _ | exact K0 _ _ | apply Blk.alloc | apply Blk.drew | apply Blk.drewN | fail)) hb; obtain ⟨_, _, _, _, _, _, _⟩ := Blk.all3 K0; have K1 := Blk.below (by repeat (with_reducible first | exact K1 | exact K1 _ | exact K1 _ _ | apply Blk.alloc | apply Blk.drew | apply Blk.drewN | fail)) hb; obtain ⟨_, _, _, _, _, _, _⟩ := Blk.all3 K1) | (go_at_call 13; refine (build_c _ _ _ _ _ (by first | assumption | decide | (simp; omega) | omega)).mono ?_; rintro e w' ⟨rfl, hb⟩; have HB := bl_step (by repeat (with_reducible first | exact HB | apply bl_alloc | apply bl_drew | apply bl_drewN | fail)) hb; have K0 := Blk.below (by repeat (with_reducible first | exact K0 | exact K0 _ | exact K0 _ _ | apply Blk.alloc | apply Blk.drew | apply Blk.drewN | fail)) hb; obtain ⟨_, _, _, _, _, _, _⟩ := Blk.all3 K0; have K1 := Blk.below (by repeat (with_reducible first | exact K1 | exact K1 _ | exact K1 _ _ | apply Blk.alloc | apply Blk.drew | apply Blk.drewN | fail)) hb; obtain ⟨_, _, _, _, _, _, _⟩ := Blk.all3 K1) | (go_at_call 17; refine (enum_c _ _).mono ?_; rintro e w' ⟨rfl, rfl⟩) | fail)
    all_goals (go_ret; exact ⟨by simp, (by repeat (with_reducible first | exact Below.refl _ _ | assumption | (refine bl_set ?_ (by omega)) | apply bl_alloc | apply bl_drewN | apply bl_drew | (refine bl_step ?_ (by assumption)) | fail))⟩)
  · obtain ⟨a1, a2⟩ := bld_no h
    have b2 := bld_zero h'
    clear h h'
    go_enter Try.func7, Try.ntmps7
    go_wp2_with (first | (go_at_call 18; refine (awake_c _).mono ?_; rintro e w' ⟨rfl, hb⟩; have HB := bl_step (by repeat (with_reducible first | exact HB | apply bl_alloc | apply bl_drew | apply bl_drewN | fail)) hb; have K0 := Blk.below (by repeat (with_reducible first | exact K0 | exact K0 _ | exact K0 _ _ | apply Blk.alloc | apply Blk.drew | apply Blk.drewN | fail)) hb; obtain ⟨_, _, _, _, _, _, _⟩ := Blk.all3 K0; have K1 := Blk.below (by repeat (with_reducible first | exact K1 | exact K1 _ | exact K1 _ _ | apply Blk.alloc | apply Blk.drew | apply Blk.drewN | fail)) hb; obtain ⟨_, _, _, _, _, _, _⟩ := Blk.all3 K1) | (go_at_call 13; refine (build_c _ _ _ _ _ (by first | assumption | decide | (simp; omega) | omega)).mono ?_; rintro e w' ⟨rfl, hb⟩; have HB := bl_step (by repeat (with_reducible first | exact HB | apply bl_alloc | apply bl_drew | apply bl_drewN | fail)) hb; have K0 := Blk.below (by repeat (with_reducible first | exact K0 | exact K0 _ | exact K0 _ _ | apply Blk.alloc | apply Blk.drew | apply Blk.drewN | fail)) hb; obtain ⟨_, _, _, _, _, _, _⟩ := Blk.all3 K0; have K1 := Blk.below (by repeat (with_reducible first | exact K1 | exact K1 _ | exact K1 _ _ | apply Blk.alloc | apply Blk.drew | apply Blk.drewN | fail)) hb; obtain ⟨_, _, _, _, _, _, _⟩ := Blk.all3 K1) | (go_at_call 17; refine (enum_c _ _).mono ?_; rintro e w' ⟨rfl, rfl⟩) | fail)
    all_goals (go_ret; exact ⟨by simp, (by repeat (with_reducible first | exact Below.refl _ _ | assumption | (refine bl_set ?_ (by omega)) | apply bl_alloc | apply bl_drewN | apply bl_drew | (refine bl_step ?_ (by assumption)) | fail))⟩)
  · have a2 := bld_zero h
    obtain ⟨b1, b2⟩ := bld_no h'
    clear h h'
    go_enter Try.func7, Try.ntmps7
    go_wp2_with (first | (go_at_call 18; refine (awake_c _).mono ?_; rintro e w' ⟨rfl, hb⟩; have HB := bl_step (by repeat (with_reducible first | exact HB | apply bl_alloc | apply bl_drew | apply bl_drewN | fail)) hb; have K0 := Blk.below (by repeat (with_reducible first | exact K0 | exact K0 _ | exact K0 _ _ | apply Blk.alloc | apply Blk.drew | apply Blk.drewN | fail)) hb; obtain ⟨_, _, _, _, _, _, _⟩ := Blk.all3 K0; have K1 := Blk.below (by repeat (with_reducible first | exact K1 | exact K1 _ | exact K1 _ _ | apply Blk.alloc | apply Blk.drew | apply Blk.drewN | fail)) hb; obtain ⟨_, _, _, _, _, _, _⟩ := Blk.all3 K1) | (go_at_call 13; refine (build_c _ _ _ _ _ (by first | assumption | decide | (simp; omega) | omega)).mono ?_; rintro e w' ⟨rfl, hb⟩; have HB := bl_step (by repeat (with_reducible first | exact HB | apply bl_alloc | apply bl_drew | apply bl_drewN | fail)) hb; have K0 := Blk.below (by repeat (with_reducible first | exact K0 | exact K0 _ | exact K0 _ _ | apply Blk.alloc | apply Blk.drew | apply Blk.drewN | fail)) hb; obtain ⟨_, _, _, _, _, _, _⟩ := Blk.all3 K0; have K1 := Blk.below (by repeat (with_reducible first | exact K1 | exact K1 _ | exact K1 _ _ | apply Blk.alloc | apply Blk.drew | apply Blk.drewN | fail)) hb; obtain ⟨_, _, _, _, _, _, _⟩ := Blk.all3 K1) | (go_at_call 17; refine (enum_c _ _).mono ?_; rintro e w' ⟨rfl, rfl⟩) | fail)
    all_goals (go_ret; exact ⟨by simp, (by repeat (with_reducible first | exact Below.refl _ _ | assumption | (refine bl_set ?_ (by omega)) | apply bl_alloc | apply bl_drewN | apply bl_drew | (refine bl_step ?_ (by assumption)) | fail))⟩)
  · have a2 := bld_zero h
    have b2 := bld_zero h'
    have hinj := bld_inj h h'
    by_cases hxy : x = y
    · by_cases hid : v = v' ∧ p = p' ∧ r = r'
      · obtain ⟨rfl, rfl, rfl⟩ := hid
        subst hxy
        clear h h' hinj
        go_enter Try.func7, Try.ntmps7
        go_wp2_with (first | (go_at_call 18; refine (awake_c _).mono ?_; rintro e w' ⟨rfl, hb⟩; have HB := bl_step (by repeat (with_reducible first | exact HB | apply bl_alloc | apply bl_drew | apply bl_drewN | fail)) hb; have K0 := Blk.below (by repeat (with_reducible first | exact K0 | exact K0 _ | exact K0 _ _ | apply Blk.alloc | apply Blk.drew | apply Blk.drewN | fail)) hb; obtain ⟨_, _, _, _, _, _, _⟩ := Blk.all3 K0; have K1 := Blk.below (by repeat (with_reducible first | exact K1 | exact K1 _ | exact K1 _ _ | apply Blk.alloc | apply Blk.drew | apply Blk.drewN | fail)) hb; obtain ⟨_, _, _, _, _, _, _⟩ := Blk.all3 K1) | (go_at_call 13; refine (build_c _ _ _ _ _ (by first | assumption | decide | (simp; omega) | omega)).mono ?_; rintro e w' ⟨rfl, hb⟩; have HB := bl_step (by repeat (with_reducible first | exact HB | apply bl_alloc | apply bl_drew | apply bl_drewN | fail)) hb; have K0 := Blk.below (by repeat (with_reducible first | exact K0 | exact K0 _ | exact K0 _ _ | apply Blk.alloc | apply Blk.drew | apply Blk.drewN | fail)) hb; obtain ⟨_, _, _, _, _, _, _⟩ := Blk.all3 K0; have K1 := Blk.below (by repeat (with_reducible first | exact K1 | exact K1 _ | exact K1 _ _ | apply Blk.alloc | apply Blk.drew | apply Blk.drewN | fail)) hb; obtain ⟨_, _, _, _, _, _, _⟩ := Blk.all3 K1) | (go_at_call 17; refine (enum_c _ _).mono ?_; rintro e w' ⟨rfl, rfl⟩) | fail)
        all_goals (go_ret; exact ⟨by simp, (by repeat (with_reducible first | exact Below.refl _ _ | assumption | (refine bl_set ?_ (by omega)) | apply bl_alloc | apply bl_drewN | apply bl_drew | (refine bl_step ?_ (by assumption)) | fail))⟩)
      · have hne : bldB x v p r ≠ bldB y v' p' r' := fun e => hid (hinj e).2
        have q0 := eqs_f hne
        have q1 : (v == v' && (p == p' && r == r')) = false := by
          rw [← Bool.not_eq_true, Bool.and_eq_true, Bool.and_eq_true, beq_iff_eq, beq_iff_eq, beq_iff_eq]
          exact hid
        subst hxy
        clear h h' hinj hid hne
        go_enter Try.func7, Try.ntmps7
        go_wp2_with (first | (go_at_call 18; refine (awake_c _).mono ?_; rintro e w' ⟨rfl, hb⟩; have HB := bl_step (by repeat (with_reducible first | exact HB | apply bl_alloc | apply bl_drew | apply bl_drewN | fail)) hb; have K0 := Blk.below (by repeat (with_reducible first | exact K0 | exact K0 _ | exact K0 _ _ | apply Blk.alloc | apply Blk.drew | apply Blk.drewN | fail)) hb; obtain ⟨_, _, _, _, _, _, _⟩ := Blk.all3 K0; have K1 := Blk.below (by repeat (with_reducible first | exact K1 | exact K1 _ | exact K1 _ _ | apply Blk.alloc | apply Blk.drew | apply Blk.drewN | fail)) hb; obtain ⟨_, _, _, _, _, _, _⟩ := Blk.all3 K1) | (go_at_call 13; refine (build_c _ _ _ _ _ (by first | assumption | decide | (simp; omega) | omega)).mono ?_; rintro e w' ⟨rfl, hb⟩; have HB := bl_step (by repeat (with_reducible first | exact HB | apply bl_alloc | apply bl_drew | apply bl_drewN | fail)) hb; have K0 := Blk.below (by repeat (with_reducible first | exact K0 | exact K0 _ | exact K0 _ _ | apply Blk.alloc | apply Blk.drew | apply Blk.drewN | fail)) hb; obtain ⟨_, _, _, _, _, _, _⟩ := Blk.all3 K0; have K1 := Blk.below (by repeat (with_reducible first | exact K1 | exact K1 _ | exact K1 _ _ | apply Blk.alloc | apply Blk.drew | apply Blk.drewN | fail)) hb; obtain ⟨_, _, _, _, _, _, _⟩ := Blk.all3 K1) | (go_at_call 17; refine (enum_c _ _).mono ?_; rintro e w' ⟨rfl, rfl⟩) | fail)
        all_goals (go_ret; exact ⟨by simp, (by repeat (with_reducible first | exact Below.refl _ _ | assumption | (refine bl_set ?_ (by omega)) | apply bl_alloc | apply bl_drewN | apply bl_drew | (refine bl_step ?_ (by assumption)) | fail))⟩)
    · have hne : bldB x v p r ≠ bldB y v' p' r' := fun e => hxy (hinj e).1
      have q0 := eqs_f hne
      have q1 := eqs_f hxy
      clear h h' hinj hxy hne
      go_enter Try.func7, Try.ntmps7
      go_wp2_with (first | (go_at_call 18; refine (awake_c _).mono ?_; rintro e w' ⟨rfl, hb⟩; have HB := bl_step (by repeat (with_reducible first | exact HB | apply bl_alloc | apply bl_drew | apply bl_drewN | fail)) hb; have K0 := Blk.below (by repeat (with_reducible first | exact K0 | exact K0 _ | exact K0 _ _ | apply Blk.alloc | apply Blk.drew | apply Blk.drewN | fail)) hb; obtain ⟨_, _, _, _, _, _, _⟩ := Blk.all3 K0; have K1 := Blk.below (by repeat (with_reducible first | exact K1 | exact K1 _ | exact K1 _ _ | apply Blk.alloc | apply Blk.drew | apply Blk.drewN | fail)) hb; obtain ⟨_, _, _, _, _, _, _⟩ := Blk.all3 K1) | (go_at_call 13; refine (build_c _ _ _ _ _ (by first | assumption | decide | (simp; omega) | omega)).mono ?_; rintro e w' ⟨rfl, hb⟩; have HB := bl_step (by repeat (with_reducible first | exact HB | apply bl_alloc | apply bl_drew | apply bl_drewN | fail)) hb; have K0 := Blk.below (by repeat (with_reducible first | exact K0 | exact K0 _ | exact K0 _ _ | apply Blk.alloc | apply Blk.drew | apply Blk.drewN | fail)) hb; obtain ⟨_, _, _, _, _, _, _⟩ := Blk.all3 K0; have K1 := Blk.below (by repeat (with_reducible first | exact K1 | exact K1 _ | exact K1 _ _ | apply Blk.alloc | apply Blk.drew | apply Blk.drewN | fail)) hb; obtain ⟨_, _, _, _, _, _, _⟩ := Blk.all3 K1) | (go_at_call 17; refine (enum_c _ _).mono ?_; rintro e w' ⟨rfl, rfl⟩) | fail)
      all_goals (go_ret; exact ⟨by simp, (by repeat (with_reducible first | exact Below.refl _ _ | assumption | (refine bl_set ?_ (by omega)) | apply bl_alloc | apply bl_drewN | apply bl_drew | (refine bl_step ?_ (by assumption)) | fail))⟩)
end Go.Proofs.Ytnppbfjeibfamaa.Sf
