/- Layer 11: the laws' walks: SuffixCut. -/
import Derived.Test.YtnppbfjeibfamaaSfm
namespace Go.Proofs.Ytnppbfjeibfamaa.Sf
open Go.RowKit Go.Proofs.Ytnppbfjeibfamaa.Kt Go.Proofs.Ytnppbfjeibfamaa.Lw Go.Proofs.Ytnppbfjeibfamaa.St Go.Proofs.Ytnppbfjeibfamaa.Nm Go.Proofs.Ytnppbfjeibfamaa.Ic Go.Proofs.Ytnppbfjeibfamaa.Cr Go.Proofs.Ytnppbfjeibfamaa.Es Go.Proofs.Ytnppbfjeibfamaa.Bt
set_option linter.unusedVariables false
set_option linter.unusedSimpArgs false
attribute [local go_sem high] eqIds
theorem umod_n (x m : Int) (h0 : 0 < m) (h1 : m ≤ 1000000) : 0 ≤ wrap64 (Int.tmod (IntKind.u64.wrap x) m) ∧ wrap64 (Int.tmod (IntKind.u64.wrap x) m) < m := by
  have hu : 0 ≤ IntKind.u64.wrap x := by simp only [IntKind.wrap_u64]; omega
  rw [Int.tmod_eq_emod_of_nonneg hu]
  have a := Int.emod_nonneg (IntKind.u64.wrap x) (show m ≠ 0 by omega)
  have b := Int.emod_lt_of_pos (IntKind.u64.wrap x) h0
  unfold wrap64
  omega
theorem par_other {x t : ByteArray} (h : t.size ≠ x.size + 16) : ∃ (B : ByteArray) (V P R E : Int), parV3 t = .tuple #[.string B, .agg #[.int .i64 V, .int .i64 P, .int .i64 R], .int .i64 E] ∧ ((E ≠ 0 ∧ (E == 0) = false) ∨ (E = 0 ∧ (B.toList == x.toList) = false)) := by
  cases hp : parOk t
  · rcases par_no hp with e | e
    · exact ⟨_, _, _, _, _, e, .inl ⟨by decide, by decide⟩⟩
    · exact ⟨_, _, _, _, _, e, .inl ⟨by decide, by decide⟩⟩
  · refine ⟨_, _, _, _, _, par_yes hp, .inr ⟨rfl, eqs_f ?_⟩⟩
    rintro rfl
    have := (par_size hp).2.2
    omega
set_option maxHeartbeats 3200000 in
theorem cut_0 (x : ByteArray) (v p r c : Int) (F : ByteArray) (m : Nat) (w : World) (hx : x.size ≤ 288) (e0 : bldE x v p r = 0) (eB : bldB x v p r = F) (z0 : 17 ≤ F.size) (z1 : F.size ≤ 304) (z2 : F.size = x.size + 16)
    (hm : wrap64 (Int.tmod (IntKind.u64.wrap c) (F.size : Int)) = (m : Int)) (hm1 : m < F.size) : Calls Try.prog 6 #[.string x, .agg #[.int .i64 v, .int .i64 p, .int .i64 r], .int .i64 c] w fun e w' =>
    e = .returned (.bool true) ∧ Below w.heap.size w w' := by
  have HB := Below.refl w.heap.size w
  have K0 := fun cs => Blk.new w cs 23
  have y1 : (F.extract 0 m).size ≤ 9223372036854775807 := by simp; omega
  have y2 : (F ++ ⟨#[120]⟩ : ByteArray).size ≤ 9223372036854775807 := by rw [ByteArray.size_append, show (⟨#[120]⟩ : ByteArray).size = 1 from rfl]; omega
  obtain ⟨B, V, P, R, E, p1, hE⟩ := par_other (x := x) (t := F.extract 0 m) (by simp; omega)
  obtain ⟨B', V', P', R', E', p2, hE'⟩ := par_other (x := x) (t := F ++ ⟨#[120]⟩) (by rw [ByteArray.size_append, show (⟨#[120]⟩ : ByteArray).size = 1 from rfl]; omega)
  have u0 : IntKind.u64.wrap (F.size : Int) = (F.size : Int) := by simp only [IntKind.wrap_u64]; omega
  have g1 : (m : Int) ≤ (F.size : Int) := by omega
  have g2 : m ≤ F.size := by omega
  clear z2
  rcases hE with ⟨nE, hE⟩ | ⟨rfl, hE⟩ <;> rcases hE' with ⟨nE', hE'⟩ | ⟨rfl, hE'⟩
  · go_enter Try.func6, Try.ntmps6
    go_wp2_with (first | (go_at_call 18; refine (awake_c _).mono ?_; rintro e w' ⟨rfl, hb⟩; have HB := bl_step (by repeat (with_reducible first | exact HB | apply bl_alloc | apply bl_drew | apply bl_drewN | fail)) hb; have K0 := Blk.below (by repeat (with_reducible first | exact K0 | exact K0 _ | exact K0 _ _ | apply Blk.alloc | apply Blk.drew | apply Blk.drewN | fail)) hb; obtain ⟨_, _, _, _, _, _, _⟩ := Blk.all3 K0) | (go_at_call 13; refine (build_c _ _ _ _ _ (by first | assumption | decide | (simp; omega) | omega)).mono ?_; rintro e w' ⟨rfl, hb⟩; have HB := bl_step (by repeat (with_reducible first | exact HB | apply bl_alloc | apply bl_drew | apply bl_drewN | fail)) hb; have K0 := Blk.below (by repeat (with_reducible first | exact K0 | exact K0 _ | exact K0 _ _ | apply Blk.alloc | apply Blk.drew | apply Blk.drewN | fail)) hb; obtain ⟨_, _, _, _, _, _, _⟩ := Blk.all3 K0) | (go_at_call 15; refine (parse_c _ _ (by first | assumption | decide | (simp; omega) | omega)).mono ?_; rintro e w' ⟨rfl, hb⟩; have HB := bl_step (by repeat (with_reducible first | exact HB | apply bl_alloc | apply bl_drew | apply bl_drewN | fail)) hb; have K0 := Blk.below (by repeat (with_reducible first | exact K0 | exact K0 _ | exact K0 _ _ | apply Blk.alloc | apply Blk.drew | apply Blk.drewN | fail)) hb; obtain ⟨_, _, _, _, _, _, _⟩ := Blk.all3 K0; have K1 := fun cs => Blk.new w' cs 23) | (go_at_call 17; refine (enum_c _ _).mono ?_; rintro e w' ⟨rfl, rfl⟩) | fail)
    all_goals (go_ret; exact ⟨by simp, (by repeat (with_reducible first | exact Below.refl _ _ | assumption | (refine bl_set ?_ (by omega)) | apply bl_alloc | apply bl_drewN | apply bl_drew | (refine bl_step ?_ (by assumption)) | fail))⟩)
  · go_enter Try.func6, Try.ntmps6
    go_wp2_with (first | (go_at_call 18; refine (awake_c _).mono ?_; rintro e w' ⟨rfl, hb⟩; have HB := bl_step (by repeat (with_reducible first | exact HB | apply bl_alloc | apply bl_drew | apply bl_drewN | fail)) hb; have K0 := Blk.below (by repeat (with_reducible first | exact K0 | exact K0 _ | exact K0 _ _ | apply Blk.alloc | apply Blk.drew | apply Blk.drewN | fail)) hb; obtain ⟨_, _, _, _, _, _, _⟩ := Blk.all3 K0) | (go_at_call 13; refine (build_c _ _ _ _ _ (by first | assumption | decide | (simp; omega) | omega)).mono ?_; rintro e w' ⟨rfl, hb⟩; have HB := bl_step (by repeat (with_reducible first | exact HB | apply bl_alloc | apply bl_drew | apply bl_drewN | fail)) hb; have K0 := Blk.below (by repeat (with_reducible first | exact K0 | exact K0 _ | exact K0 _ _ | apply Blk.alloc | apply Blk.drew | apply Blk.drewN | fail)) hb; obtain ⟨_, _, _, _, _, _, _⟩ := Blk.all3 K0) | (go_at_call 15; refine (parse_c _ _ (by first | assumption | decide | (simp; omega) | omega)).mono ?_; rintro e w' ⟨rfl, hb⟩; have HB := bl_step (by repeat (with_reducible first | exact HB | apply bl_alloc | apply bl_drew | apply bl_drewN | fail)) hb; have K0 := Blk.below (by repeat (with_reducible first | exact K0 | exact K0 _ | exact K0 _ _ | apply Blk.alloc | apply Blk.drew | apply Blk.drewN | fail)) hb; obtain ⟨_, _, _, _, _, _, _⟩ := Blk.all3 K0; have K1 := fun cs => Blk.new w' cs 23) | (go_at_call 17; refine (enum_c _ _).mono ?_; rintro e w' ⟨rfl, rfl⟩) | fail)
    all_goals (go_ret; exact ⟨by simp, (by repeat (with_reducible first | exact Below.refl _ _ | assumption | (refine bl_set ?_ (by omega)) | apply bl_alloc | apply bl_drewN | apply bl_drew | (refine bl_step ?_ (by assumption)) | fail))⟩)
  · go_enter Try.func6, Try.ntmps6
    go_wp2_with (first | (go_at_call 18; refine (awake_c _).mono ?_; rintro e w' ⟨rfl, hb⟩; have HB := bl_step (by repeat (with_reducible first | exact HB | apply bl_alloc | apply bl_drew | apply bl_drewN | fail)) hb; have K0 := Blk.below (by repeat (with_reducible first | exact K0 | exact K0 _ | exact K0 _ _ | apply Blk.alloc | apply Blk.drew | apply Blk.drewN | fail)) hb; obtain ⟨_, _, _, _, _, _, _⟩ := Blk.all3 K0) | (go_at_call 13; refine (build_c _ _ _ _ _ (by first | assumption | decide | (simp; omega) | omega)).mono ?_; rintro e w' ⟨rfl, hb⟩; have HB := bl_step (by repeat (with_reducible first | exact HB | apply bl_alloc | apply bl_drew | apply bl_drewN | fail)) hb; have K0 := Blk.below (by repeat (with_reducible first | exact K0 | exact K0 _ | exact K0 _ _ | apply Blk.alloc | apply Blk.drew | apply Blk.drewN | fail)) hb; obtain ⟨_, _, _, _, _, _, _⟩ := Blk.all3 K0) | (go_at_call 15; refine (parse_c _ _ (by first | assumption | decide | (simp; omega) | omega)).mono ?_; rintro e w' ⟨rfl, hb⟩; have HB := bl_step (by repeat (with_reducible first | exact HB | apply bl_alloc | apply bl_drew | apply bl_drewN | fail)) hb; have K0 := Blk.below (by repeat (with_reducible first | exact K0 | exact K0 _ | exact K0 _ _ | apply Blk.alloc | apply Blk.drew | apply Blk.drewN | fail)) hb; obtain ⟨_, _, _, _, _, _, _⟩ := Blk.all3 K0; have K1 := fun cs => Blk.new w' cs 23) | (go_at_call 17; refine (enum_c _ _).mono ?_; rintro e w' ⟨rfl, rfl⟩) | fail)
    all_goals (go_ret; exact ⟨by simp, (by repeat (with_reducible first | exact Below.refl _ _ | assumption | (refine bl_set ?_ (by omega)) | apply bl_alloc | apply bl_drewN | apply bl_drew | (refine bl_step ?_ (by assumption)) | fail))⟩)
  · go_enter Try.func6, Try.ntmps6
    go_wp2_with (first | (go_at_call 18; refine (awake_c _).mono ?_; rintro e w' ⟨rfl, hb⟩; have HB := bl_step (by repeat (with_reducible first | exact HB | apply bl_alloc | apply bl_drew | apply bl_drewN | fail)) hb; have K0 := Blk.below (by repeat (with_reducible first | exact K0 | exact K0 _ | exact K0 _ _ | apply Blk.alloc | apply Blk.drew | apply Blk.drewN | fail)) hb; obtain ⟨_, _, _, _, _, _, _⟩ := Blk.all3 K0) | (go_at_call 13; refine (build_c _ _ _ _ _ (by first | assumption | decide | (simp; omega) | omega)).mono ?_; rintro e w' ⟨rfl, hb⟩; have HB := bl_step (by repeat (with_reducible first | exact HB | apply bl_alloc | apply bl_drew | apply bl_drewN | fail)) hb; have K0 := Blk.below (by repeat (with_reducible first | exact K0 | exact K0 _ | exact K0 _ _ | apply Blk.alloc | apply Blk.drew | apply Blk.drewN | fail)) hb; obtain ⟨_, _, _, _, _, _, _⟩ := Blk.all3 K0) | (go_at_call 15; refine (parse_c _ _ (by first | assumption | decide | (simp; omega) | omega)).mono ?_; rintro e w' ⟨rfl, hb⟩; have HB := bl_step (by repeat (with_reducible first | exact HB | apply bl_alloc | apply bl_drew | apply bl_drewN | fail)) hb; have K0 := Blk.below (by repeat (with_reducible first | exact K0 | exact K0 _ | exact K0 _ _ | apply Blk.alloc | apply Blk.drew | apply Blk.drewN | fail)) hb; obtain ⟨_, _, _, _, _, _, _⟩ := Blk.all3 K0; have K1 := fun cs => Blk.new w' cs 23) | (go_at_call 17; refine (enum_c _ _).mono ?_; rintro e w' ⟨rfl, rfl⟩) | fail)
    all_goals (go_ret; exact ⟨by simp, (by repeat (with_reducible first | exact Below.refl _ _ | assumption | (refine bl_set ?_ (by omega)) | apply bl_alloc | apply bl_drewN | apply bl_drew | (refine bl_step ?_ (by assumption)) | fail))⟩)
theorem cut_w (x : ByteArray) (v p r c : Int) (w : World) (hx : x.size ≤ 9223372036854775807) : Calls Try.prog 6 #[.string x, .agg #[.int .i64 v, .int .i64 p, .int .i64 r], .int .i64 c] w fun e w' =>
    e = .returned (.bool true) ∧ Below w.heap.size w w' := by
  cases h : bldOk x v p r
  · obtain ⟨a1, a2⟩ := bld_no h
    have HB := Below.refl w.heap.size w
    have K0 := fun cs => Blk.new w cs 23
    clear h
    go_enter Try.func6, Try.ntmps6
    go_wp2_with (first | (go_at_call 18; refine (awake_c _).mono ?_; rintro e w' ⟨rfl, hb⟩; have HB := bl_step (by repeat (with_reducible first | exact HB | apply bl_alloc | apply bl_drew | apply bl_drewN | fail)) hb; have K0 := Blk.below (by repeat (with_reducible first | exact K0 | exact K0 _ | exact K0 _ _ | apply Blk.alloc | apply Blk.drew | apply Blk.drewN | fail)) hb; obtain ⟨_, _, _, _, _, _, _⟩ := Blk.all3 K0) | (go_at_call 13; refine (build_c _ _ _ _ _ (by first | assumption | decide | (simp; omega) | omega)).mono ?_; rintro e w' ⟨rfl, hb⟩; have HB := bl_step (by repeat (with_reducible first | exact HB | apply bl_alloc | apply bl_drew | apply bl_drewN | fail)) hb; have K0 := Blk.below (by repeat (with_reducible first | exact K0 | exact K0 _ | exact K0 _ _ | apply Blk.alloc | apply Blk.drew | apply Blk.drewN | fail)) hb; obtain ⟨_, _, _, _, _, _, _⟩ := Blk.all3 K0) | (go_at_call 15; refine (parse_c _ _ (by first | assumption | decide | (simp; omega) | omega)).mono ?_; rintro e w' ⟨rfl, hb⟩; have HB := bl_step (by repeat (with_reducible first | exact HB | apply bl_alloc | apply bl_drew | apply bl_drewN | fail)) hb; have K0 := Blk.below (by repeat (with_reducible first | exact K0 | exact K0 _ | exact K0 _ _ | apply Blk.alloc | apply Blk.drew | apply Blk.drewN | fail)) hb; obtain ⟨_, _, _, _, _, _, _⟩ := Blk.all3 K0; have K1 := fun cs => Blk.new w' cs 23) | (go_at_call 17; refine (enum_c _ _).mono ?_; rintro e w' ⟨rfl, rfl⟩) | fail)
    all_goals (go_ret; exact ⟨by simp, (by repeat (with_reducible first | exact Below.refl _ _ | assumption | (refine bl_set ?_ (by omega)) | apply bl_alloc | apply bl_drewN | apply bl_drew | (refine bl_step ?_ (by assumption)) | fail))⟩)
  · have hz := bld_size h
    have hl : 1 ≤ x.size ∧ x.size ≤ 288 := by
      have : rngB (x.size : Int) 1 288 = true := by simp [bldOk] at h; exact h.1
      simp [rngB] at this
      omega
    have h0 := umod_n c ((bldB x v p r).size : Int) (by omega) (by omega)
    obtain ⟨m, hm⟩ := Int.eq_ofNat_of_zero_le h0.1
    exact cut_0 x v p r c _ m w hl.2 (bld_zero h) rfl (by omega) (by omega) hz hm (by omega)
end Go.Proofs.Ytnppbfjeibfamaa.Sf
