/- Layer 16: devices: failing, copies, likeness. -/
import Derived.Test.YtimnhdmpfndeaaaDev
import Derived.Maps.AppendAt
namespace Go.Proofs.Ytimnhdmpfndeaaa.Dv
open Go.RowKit Go.Proofs.Ytimnhdmpfndeaaa.Kt Go.Proofs.Ytimnhdmpfndeaaa.Lw Go.Proofs.Ytimnhdmpfndeaaa.St Go.Proofs.Ytimnhdmpfndeaaa.Nm Go.Proofs.Ytimnhdmpfndeaaa.Es Go.Proofs.Ytimnhdmpfndeaaa.Sl Go.Proofs.Ytimnhdmpfndeaaa.Ops
set_option linter.unusedVariables false
set_option linter.unusedSimpArgs false
theorem op_info : (Try.prog.info? 50).map (fun i => (i.zero, i.size, i.bytes)) = some (some (.agg #[.bool false, .int .i64 0, .string ⟨#[]⟩]), 3, 32) := by kernel_rfl
theorem encOp_len (x : OpV) : (encOp x).length = 3 := rfl
theorem encOp_one (x : OpV) : ∀ u ∈ encOp x, u.oneCell' = true := by
  intro u hu
  simp [encOp] at hu
  rcases hu with rfl | rfl | rfl <;> rfl
-- left out: copy_c
def sameDev (s st nx g sl : Int) (xs : List OpV) (s' st' nx' g' sl' : Int) (ys : List OpV) : Bool := s == s' && (st == st' && (nx == nx' && (g == g' && (sl == sl' && decide (xs = ys)))))
theorem sameDev_refl (s st nx g sl : Int) (xs : List OpV) : sameDev s st nx g sl xs s st nx g sl xs = true := by simp [sameDev]
set_option maxHeartbeats 3200000 in
theorem sameDev_c (s st nx g sl s' st' nx' g' sl' : Int) (A B : Option Addr) (c d n n' : Nat) (xs ys : List OpV) (w : World) (hl : Row w A xs) (hr : Row w B ys) (hn : xs.length = n) (hn' : ys.length = n') :
    Calls Try.prog 30 #[.agg #[.int .i64 s, .int .i64 st, .int .i64 nx, .int .i64 g, .int .i64 sl, .slice A n c], .agg #[.int .i64 s', .int .i64 st', .int .i64 nx', .int .i64 g', .int .i64 sl', .slice B n' d]] w fun e w' => e = .returned (.bool (sameDev s st nx g sl xs s' st' nx' g' sl' ys)) ∧ Below w.heap.size w w' := by
  have HB := Below.refl w.heap.size w
  have K0 := fun cs => Blk.new w cs 61
  have K1 := fun cs0 cs => Blk.new1 w (.cells cs0 61) cs 61
  go_enter Try.func30, Try.ntmps30
  go_wp2_with (first | (go_at_call 15; refine (same_c _ _ _ _ _ _ _ _ _ (hl.below (bl_alloc (bl_alloc (Below.refl _ _) _) _)) (hr.below (bl_alloc (bl_alloc (Below.refl _ _) _) _)) hn hn').mono ?_; rintro e w' ⟨rfl, hb⟩; have HB := bl_step (by repeat (with_reducible first | exact HB | apply bl_alloc | apply bl_drew | apply bl_drewN | fail)) hb; have K0 := Blk.below (by repeat (with_reducible first | exact K0 | exact K0 _ | exact K0 _ _ | apply Blk.alloc | apply Blk.drew | apply Blk.drewN | fail)) hb; obtain ⟨_, _, _, _, _, _, _, _, _, _⟩ := Blk.all6 K0; have K1 := Blk.below (by repeat (with_reducible first | exact K1 | exact K1 _ | exact K1 _ _ | apply Blk.alloc | apply Blk.drew | apply Blk.drewN | fail)) hb; obtain ⟨_, _, _, _, _, _, _, _, _, _⟩ := Blk.all6 K1) | fail)
  all_goals (go_ret; refine ⟨retB ?_, (by repeat (with_reducible first | exact Below.refl _ _ | assumption | (refine bl_set ?_ (by omega)) | apply bl_alloc | apply bl_drewN | apply bl_drew | (refine bl_step ?_ (by assumption)) | fail))⟩; simp_all [sameDev])
theorem new_c (w : World) : Calls Try.prog 101 #[] w fun e w' => e = .returned (.agg #[.int .i64 0, .int .i64 0, .int .i64 0, .int .i64 0, .int .i64 0, .slice none 0 0]) ∧ Below w.heap.size w w' := by
  have HB := Below.refl w.heap.size w
  go_enter Try.func101, Try.ntmps101
  go_wp2
  exact bodyPost_ret (v := .agg #[.int .i64 0, .int .i64 0, .int .i64 0, .int .i64 0, .int .i64 0, .slice none 0 0]) (by simp [results, Try.results101, go_sem]) rfl ⟨rfl, (by repeat (with_reducible first | exact Below.refl _ _ | assumption | (refine bl_set ?_ (by omega)) | apply bl_alloc | apply bl_drewN | apply bl_drew | (refine bl_step ?_ (by assumption)) | fail))⟩
theorem rnew_c (w : World) : Calls Try.prog 53 #[] w fun e w' => e = .returned (.agg #[.int .i64 0, .int .i64 0, .int .i64 0, .int .i64 0, .int .i64 0, .slice none 0 0]) ∧ Below w.heap.size w w' := by
  have HB := Below.refl w.heap.size w
  go_enter Try.func53, Try.ntmps53
  go_wp2
  exact bodyPost_ret (v := .agg #[.int .i64 0, .int .i64 0, .int .i64 0, .int .i64 0, .int .i64 0, .slice none 0 0]) (by simp [results, Try.results53, go_sem]) rfl ⟨rfl, (by repeat (with_reducible first | exact Below.refl _ _ | assumption | (refine bl_set ?_ (by omega)) | apply bl_alloc | apply bl_drewN | apply bl_drew | (refine bl_step ?_ (by assumption)) | fail))⟩
theorem failed_c (k : Int) (w : World) : Calls Try.prog 81 #[.int .i64 k] w fun e w' => e = .returned (.agg #[.int .i64 7, .int .i64 k, .int .i64 0, .int .i64 0, .int .i64 0, .slice none 0 0]) ∧ Below w.heap.size w w' := by
  have HB := Below.refl w.heap.size w
  have K0 := fun cs => Blk.new w cs 61
  go_enter Try.func81, Try.ntmps81
  go_wp2_with (first | (go_at_call 101; refine (new_c _).mono ?_; rintro e w' ⟨rfl, hb⟩; have HB := bl_step (by repeat (with_reducible first | exact HB | apply bl_alloc | apply bl_drew | apply bl_drewN | fail)) hb; have K0 := Blk.below (by repeat (with_reducible first | exact K0 | exact K0 _ | exact K0 _ _ | apply Blk.alloc | apply Blk.drew | apply Blk.drewN | fail)) hb; obtain ⟨_, _, _, _, _, _, _, _, _, _⟩ := Blk.all6 K0) | fail)
  exact bodyPost_ret (v := .agg #[.int .i64 7, .int .i64 k, .int .i64 0, .int .i64 0, .int .i64 0, .slice none 0 0]) (by simp [results, Try.results81, go_sem, *]) rfl ⟨rfl, (by repeat (with_reducible first | exact Below.refl _ _ | assumption | (refine bl_set ?_ (by omega)) | apply bl_alloc | apply bl_drewN | apply bl_drew | (refine bl_step ?_ (by assumption)) | fail))⟩
theorem rfailed_c (k : Int) (w : World) : Calls Try.prog 69 #[.int .i64 k] w fun e w' => e = .returned (.agg #[.int .i64 7, .int .i64 k, .int .i64 0, .int .i64 0, .int .i64 0, .slice none 0 0]) ∧ Below w.heap.size w w' := by
  have HB := Below.refl w.heap.size w
  go_enter Try.func69, Try.ntmps69
  go_wp2
  exact bodyPost_ret (v := .agg #[.int .i64 7, .int .i64 k, .int .i64 0, .int .i64 0, .int .i64 0, .slice none 0 0]) (by simp [results, Try.results69, go_sem]) rfl ⟨rfl, (by repeat (with_reducible first | exact Below.refl _ _ | assumption | (refine bl_set ?_ (by omega)) | apply bl_alloc | apply bl_drewN | apply bl_drew | (refine bl_step ?_ (by assumption)) | fail))⟩
def failOk (may : Bool) (k : Int) : Bool := may && (rngB k 0 6 && !(k == 0))
def failV (ok : Bool) (k : Int) : Value := bif ok then .tuple #[.agg #[.int .i64 7, .int .i64 k, .int .i64 0, .int .i64 0, .int .i64 0, .slice none 0 0], .int .i64 0] else .tuple #[.agg #[.int .i64 0, .int .i64 0, .int .i64 0, .int .i64 0, .int .i64 0, .slice none 0 0], .int .i64 1600]
theorem fail_no {k : Int} (h : failOk true k = false) : rngB k 0 6 = false ∨ (rngB k 0 6 = true ∧ k = 0) := by
  simp only [failOk, Bool.true_and] at h
  cases hr : rngB k 0 6
  · exact .inl rfl
  · rw [hr] at h
    exact .inr ⟨rfl, by simpa using h⟩
theorem fail_yes {k : Int} (h : failOk true k = true) : rngB k 0 6 = true ∧ (k == 0) = false := by
  simp only [failOk, Bool.true_and, Bool.and_eq_true] at h
  exact ⟨h.1, by simpa using h.2⟩
-- left out: fail_c
-- left out: rfail_c
-- left out: failT_c
-- left out: failF_c
-- left out: rfailT_c
-- left out: rfailF_c
theorem sameR_c (s st nx g sl : Int) (A B : Option Addr) (c d n n' : Nat) (xs : List OpV) (w : World) (hl : Row w A xs) (hr : Row w B xs) (hn : xs.length = n) (hn' : xs.length = n') :
    Calls Try.prog 30 #[.agg #[.int .i64 s, .int .i64 st, .int .i64 nx, .int .i64 g, .int .i64 sl, .slice A n c], .agg #[.int .i64 s, .int .i64 st, .int .i64 nx, .int .i64 g, .int .i64 sl, .slice B n' d]] w fun e w' => e = .returned (.bool true) ∧ Below w.heap.size w w' :=
  (sameDev_c s st nx g sl s st nx g sl A B c d n n' xs xs w hl hr hn hn').mono fun e w' h => ⟨by rw [h.1, sameDev_refl], h.2⟩
theorem Row.none {w : World} {A : Option Addr} : Row w A [] := ⟨Lies.nil, by simp, fun o ho => by simp at ho⟩
end Go.Proofs.Ytimnhdmpfndeaaa.Dv
