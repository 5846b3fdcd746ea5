/- Steps of a flash: what the program's and the references' functions answer of them. -/
import Derived.Test.YtimnhdmpfndeaaaStr
import Derived.Test.YtimnhdmpfndeaaaNum
import Derived.Test.YtimnhdmpfndeaaaSlc
import Derived.Test.YtimnhdmpfndeaaaEqs
namespace Go.Proofs.Ytimnhdmpfndeaaa.Ops
open Go.RowKit Go.Proofs.Ytimnhdmpfndeaaa.Kt Go.Proofs.Ytimnhdmpfndeaaa.Lw Go.Proofs.Ytimnhdmpfndeaaa.St Go.Proofs.Ytimnhdmpfndeaaa.Nm Go.Proofs.Ytimnhdmpfndeaaa.Es Go.Proofs.Ytimnhdmpfndeaaa.Sl
set_option linter.unusedVariables false
set_option linter.unusedSimpArgs false
/-- a step: is a sector erased, where, the text. -/
abbrev OpV := Bool × Int × ByteArray
def encOp (o : OpV) : List Value := [.bool o.1, .int .i64 o.2.1, .string o.2.2]
theorem retB {a b : Bool} (h : a = b) : Ending.returned (.bool a) = Ending.returned (.bool b) := by rw [h]
theorem sector_c (x : Int) (w : World) : Calls Try.prog 96 #[.int .i64 x] w fun e w' => e = .returned (.bool (rngB x 0 7)) ∧ w = w' := by
  go_enter Try.func96, Try.ntmps96
  go_wp2
  all_goals (go_ret; refine ⟨retB ?_, rfl⟩; rw [Bool.eq_iff_iff]; simp [rngB] <;> omega)
def bgnB (x : Int) : Bool := rngB x 0 764 && (x % 4 == 0)
theorem begins_c (x : Int) (w : World) : Calls Try.prog 97 #[.int .i64 x] w fun e w' => e = .returned (.bool (bgnB x)) ∧ w = w' := by
  go_enter Try.func97, Try.ntmps97
  go_wp2
  all_goals (go_ret; refine ⟨retB ?_, rfl⟩; rw [Bool.eq_iff_iff]; simp [bgnB, rngB] <;> omega)
theorem tmod_rng {x u m : Int} (h : rngB x 0 u = true) : x.tmod m = x % m := by
  apply Int.tmod_eq_emod_of_nonneg
  simp [rngB] at h
  exact h.1
theorem wordAt_c (x : Int) (w : World) : Calls Try.prog 46 #[.int .i64 x] w fun e w' => e = .returned (.bool (bgnB x)) ∧ w = w' := by
  cases hr : rngB x 0 764
  · go_enter Try.func46, Try.ntmps46
    go_wp2_with (first | (go_at_call 44; refine (upTo_c _ _ _ _).mono ?_; rintro e w' ⟨rfl, rfl⟩) | fail)
    all_goals (go_ret; refine ⟨retB ?_, rfl⟩; simp_all [bgnB])
  · have ht := tmod_rng (m := 4) hr
    go_enter Try.func46, Try.ntmps46
    go_wp2_with (first | (go_at_call 44; refine (upTo_c _ _ _ _).mono ?_; rintro e w' ⟨rfl, rfl⟩) | fail)
    all_goals (go_ret; refine ⟨retB ?_, rfl⟩; simp_all [bgnB])
def opMay (o : OpV) : Bool := bif o.1 then (rngB o.2.1 0 672 && (o.2.1 % 96 == 0 && o.2.2.toList.isEmpty)) else (bgnB o.2.1 && ((o.2.2.size : Int) == 4))
def OpOk (o : OpV) : Prop := -9223372036854775808 ≤ o.2.1 ∧ o.2.1 ≤ 9223372036854775807 ∧ o.2.2.size ≤ 9223372036854775807
theorem sec_at {a : Int} (h0 : 0 ≤ a) (h1 : a ≤ 9223372036854775807) (h2 : a % 96 = 0) : rngB (wrap64 (a.tdiv 96)) 0 7 = rngB a 0 672 := by
  rw [Int.tdiv_eq_ediv_of_nonneg h0, Bool.eq_iff_iff]
  simp [rngB]
  unfold wrap64
  omega
theorem opMay_c (o : OpV) (w : World) (ht : OpOk o) : Calls Try.prog 73 #[.agg #[.bool o.1, .int .i64 o.2.1, .string o.2.2]] w fun x w' => x = .returned (.bool (opMay o)) ∧ Below w.heap.size w w' := by
  obtain ⟨e, a, t⟩ := o
  obtain ⟨h1, h2, h3⟩ := ht
  simp only at h1 h2 h3
  have HB := Below.refl w.heap.size w
  have K0 := Blk.new w #[.bool e, .int .i64 a, .string t] 50
  cases e
  · go_enter Try.func73, Try.ntmps73
    go_wp2_with (first | (go_at_call 97; refine (begins_c _ _).mono ?_; rintro e w' ⟨rfl, rfl⟩) | (go_at_call 96; refine (sector_c _ _).mono ?_; rintro e w' ⟨rfl, rfl⟩) | fail)
    all_goals (go_ret; refine ⟨retB ?_, (by repeat (with_reducible first | exact Below.refl _ _ | assumption | (refine bl_set ?_ (by omega)) | apply bl_alloc | apply bl_drewN | apply bl_drew | (refine bl_step ?_ (by assumption)) | fail))⟩; simp_all [opMay])
  · have hs := fun (x0 : 0 ≤ a) (x2 : a % 96 = 0) => sec_at x0 h2 x2
    go_enter Try.func73, Try.ntmps73
    go_wp2_with (first | (go_at_call 97; refine (begins_c _ _).mono ?_; rintro e w' ⟨rfl, rfl⟩) | (go_at_call 96; refine (sector_c _ _).mono ?_; rintro e w' ⟨rfl, rfl⟩) | fail)
    all_goals (go_ret; refine ⟨retB ?_, (by repeat (with_reducible first | exact Below.refl _ _ | assumption | (refine bl_set ?_ (by omega)) | apply bl_alloc | apply bl_drewN | apply bl_drew | (refine bl_step ?_ (by assumption)) | fail))⟩; simp only [opMay, cond_true]; first | (simp_all; done) | (simp_all [rngB]; omega))
theorem rOpMay_c (o : OpV) (w : World) (ht : OpOk o) : Calls Try.prog 22 #[.agg #[.bool o.1, .int .i64 o.2.1, .string o.2.2]] w fun x w' => x = .returned (.bool (opMay o)) ∧ Below w.heap.size w w' := by
  obtain ⟨e, a, t⟩ := o
  obtain ⟨h1, h2, h3⟩ := ht
  simp only at h1 h2 h3
  have HB := Below.refl w.heap.size w
  have K0 := Blk.new w #[.bool e, .int .i64 a, .string t] 50
  cases e
  · go_enter Try.func22, Try.ntmps22
    go_wp2_with (first | (go_at_call 46; refine (wordAt_c _ _).mono ?_; rintro e w' ⟨rfl, rfl⟩) | (go_at_call 44; refine (upTo_c _ _ _ _).mono ?_; rintro e w' ⟨rfl, rfl⟩) | fail)
    all_goals (go_ret; refine ⟨retB ?_, (by repeat (with_reducible first | exact Below.refl _ _ | assumption | (refine bl_set ?_ (by omega)) | apply bl_alloc | apply bl_drewN | apply bl_drew | (refine bl_step ?_ (by assumption)) | fail))⟩; simp_all [opMay])
  · cases hr : rngB a 0 672
    · go_enter Try.func22, Try.ntmps22
      go_wp2_with (first | (go_at_call 46; refine (wordAt_c _ _).mono ?_; rintro e w' ⟨rfl, rfl⟩) | (go_at_call 44; refine (upTo_c _ _ _ _).mono ?_; rintro e w' ⟨rfl, rfl⟩) | fail)
      all_goals (go_ret; refine ⟨retB ?_, (by repeat (with_reducible first | exact Below.refl _ _ | assumption | (refine bl_set ?_ (by omega)) | apply bl_alloc | apply bl_drewN | apply bl_drew | (refine bl_step ?_ (by assumption)) | fail))⟩; simp only [opMay, cond_true]; simp_all)
    · have hm := tmod_rng (m := 96) hr
      go_enter Try.func22, Try.ntmps22
      go_wp2_with (first | (go_at_call 46; refine (wordAt_c _ _).mono ?_; rintro e w' ⟨rfl, rfl⟩) | (go_at_call 44; refine (upTo_c _ _ _ _).mono ?_; rintro e w' ⟨rfl, rfl⟩) | fail)
      all_goals (go_ret; refine ⟨retB ?_, (by repeat (with_reducible first | exact Below.refl _ _ | assumption | (refine bl_set ?_ (by omega)) | apply bl_alloc | apply bl_drewN | apply bl_drew | (refine bl_step ?_ (by assumption)) | fail))⟩; simp only [opMay, cond_true]; simp_all)
end Go.Proofs.Ytimnhdmpfndeaaa.Ops
