/- Layer 11: the laws' walks: awake, Suffixes. -/
import Derived.Test.YtnppbfjeibfamaaSue
import Derived.Test.YtnppbfjeibfamaaEqs
namespace Go.Proofs.Ytnppbfjeibfamaa.Sf
open Go.RowKit Go.Proofs.Ytnppbfjeibfamaa.Kt Go.Proofs.Ytnppbfjeibfamaa.Lw Go.Proofs.Ytnppbfjeibfamaa.St Go.Proofs.Ytnppbfjeibfamaa.Nm Go.Proofs.Ytnppbfjeibfamaa.Ic Go.Proofs.Ytnppbfjeibfamaa.Cr Go.Proofs.Ytnppbfjeibfamaa.Es
set_option linter.unusedVariables false
set_option linter.unusedSimpArgs false
attribute [local go_sem high] eqIds
def awk : ByteArray := ⟨#[105, 109, 97, 103, 101, 0, 2, 17, 223, 131, 4, 0, 1, 85, 70, 68, 16, 253, 249, 253, 164]⟩
set_option maxRecDepth 100000 in
theorem awake_facts : ∃ S : ByteArray, bldB ⟨#[105, 109, 97, 103, 101]⟩ 1155 57105 512 = S ∧ S.size = 21 ∧ ((S.extract 5 17).toList == [0, 2, 17, 223, 131, 4, 0, 1, 85, 70, 68, 16]) = true ∧
    parV3 S = .tuple #[.string ⟨#[105, 109, 97, 103, 101]⟩, .agg #[.int .i64 1155, .int .i64 57105, .int .i64 512], .int .i64 0] ∧
    parV3 (⟨#[106]⟩ ++ S.extract 1 21) = .tuple #[.string ⟨#[]⟩, .agg #[.int .i64 0, .int .i64 0, .int .i64 0], .int .i64 1101] := by
  refine ⟨awk, by decide +kernel, by decide +kernel, by decide +kernel, ?_, ?_⟩
  · rw [parV3_ok (s := awk) (k := 5) (by decide +kernel) (by decide +kernel) (by decide +kernel)]
    have e0 : awk.extract 0 5 = ⟨#[105, 109, 97, 103, 101]⟩ := by decide +kernel
    have e1 : numB (awk.extract (5 + 4) (5 + 6)) = 1155 := by decide +kernel
    have e2 : numB (awk.extract (5 + 2) (5 + 4)) = 57105 := by decide +kernel
    have e3 : numB (awk.extract 5 (5 + 2)) = 512 := by decide +kernel
    rw [e0, e1, e2, e3]
  · exact parV3_sum (by decide +kernel) (by decide +kernel)
set_option maxHeartbeats 1600000 in
theorem awake_c (w : World) : Calls Try.prog 18 #[] w fun e w' => e = .returned (.bool true) ∧ Below w.heap.size w w' := by
  have HB := Below.refl w.heap.size w
  have K0 := fun cs => Blk.new w cs 23
  obtain ⟨S, h0, h1, h2, h3, h4⟩ := awake_facts
  have f1 : bldE ⟨#[105, 109, 97, 103, 101]⟩ 1155 57105 512 = 0 := by decide
  have f2 : bldE ⟨#[]⟩ 1155 57105 512 = 1100 := by decide
  have f3 : parV3 ⟨#[120]⟩ = .tuple #[.string ⟨#[]⟩, .agg #[.int .i64 0, .int .i64 0, .int .i64 0], .int .i64 1100] := parV3_form (by decide +kernel)
  have z1 : (⟨#[106]⟩ ++ S.extract 1 21 : ByteArray).size ≤ 9223372036854775807 := by
    rw [ByteArray.size_append, show (⟨#[106]⟩ : ByteArray).size = 1 from rfl, ByteArray.size_extract]
    omega
  have z2 : S.size ≤ 9223372036854775807 := by omega
  go_enter Try.func18, Try.ntmps18
  go_wp2_with (first | (go_at_call 13; refine (build_c _ _ _ _ _ (by first | assumption | decide | (simp; omega) | omega)).mono ?_; rintro e w' ⟨rfl, hb⟩; have HB := bl_step (by repeat (with_reducible first | exact HB | apply bl_alloc | apply bl_drew | apply bl_drewN | fail)) hb; have K0 := Blk.below (by repeat (with_reducible first | exact K0 | exact K0 _ | exact K0 _ _ | apply Blk.alloc | apply Blk.drew | apply Blk.drewN | fail)) hb; obtain ⟨_, _, _, _, _, _, _⟩ := Blk.all3 K0; have K1 := Blk.below (by repeat (with_reducible first | exact K1 | exact K1 _ | exact K1 _ _ | apply Blk.alloc | apply Blk.drew | apply Blk.drewN | fail)) hb; obtain ⟨_, _, _, _, _, _, _⟩ := Blk.all3 K1) | (go_at_call 13; refine (build_c _ _ _ _ _ (by first | assumption | decide | (simp; omega) | omega)).mono ?_; rintro e w' ⟨rfl, hb⟩; have HB := bl_step (by repeat (with_reducible first | exact HB | apply bl_alloc | apply bl_drew | apply bl_drewN | fail)) hb; have K0 := Blk.below (by repeat (with_reducible first | exact K0 | exact K0 _ | exact K0 _ _ | apply Blk.alloc | apply Blk.drew | apply Blk.drewN | fail)) hb; obtain ⟨_, _, _, _, _, _, _⟩ := Blk.all3 K0) | (go_at_call 15; refine (parse_c _ _ (by first | assumption | decide | (simp; omega) | omega)).mono ?_; rintro e w' ⟨rfl, hb⟩; have HB := bl_step (by repeat (with_reducible first | exact HB | apply bl_alloc | apply bl_drew | apply bl_drewN | fail)) hb; have K0 := Blk.below (by repeat (with_reducible first | exact K0 | exact K0 _ | exact K0 _ _ | apply Blk.alloc | apply Blk.drew | apply Blk.drewN | fail)) hb; obtain ⟨_, _, _, _, _, _, _⟩ := Blk.all3 K0; have K1 := Blk.below (by repeat (with_reducible first | exact K1 | exact K1 _ | exact K1 _ _ | apply Blk.alloc | apply Blk.drew | apply Blk.drewN | fail)) hb; obtain ⟨_, _, _, _, _, _, _⟩ := Blk.all3 K1) | (go_at_call 15; refine (parse_c _ _ (by first | assumption | decide | (simp; omega) | omega)).mono ?_; rintro e w' ⟨rfl, hb⟩; have HB := bl_step (by repeat (with_reducible first | exact HB | apply bl_alloc | apply bl_drew | apply bl_drewN | fail)) hb; have K0 := Blk.below (by repeat (with_reducible first | exact K0 | exact K0 _ | exact K0 _ _ | apply Blk.alloc | apply Blk.drew | apply Blk.drewN | fail)) hb; obtain ⟨_, _, _, _, _, _, _⟩ := Blk.all3 K0; have K1 := fun cs => Blk.new w' cs 23) | (go_at_call 17; refine (enum_c _ _).mono ?_; rintro e w' ⟨rfl, rfl⟩) | fail)
  go_ret
  exact ⟨by simp, (by repeat (with_reducible first | exact Below.refl _ _ | assumption | (refine bl_set ?_ (by omega)) | apply bl_alloc | apply bl_drewN | apply bl_drew | (refine bl_step ?_ (by assumption)) | fail))⟩
set_option maxHeartbeats 3200000 in
theorem suffixes_w (x : ByteArray) (v p r : Int) (s : ByteArray) (w : World) (hx : x.size ≤ 9223372036854775807) (hs : s.size ≤ 9223372036854775807) : Calls Try.prog 3 #[.string x, .agg #[.int .i64 v, .int .i64 p, .int .i64 r], .string s] w fun e w' =>
    e = .returned (.bool true) ∧ Below w.heap.size w w' := by
  have HB := Below.refl w.heap.size w
  have K0 := fun cs => Blk.new w cs 23
  have hp : parV3 s = .tuple #[.string (parB s), .agg #[.int .i64 (parV s), .int .i64 (parP s), .int .i64 (parR s)], .int .i64 (parE s)] := rfl
  go_enter Try.func3, Try.ntmps3
  go_wp2_with (first | (go_at_call 13; refine (build_c _ _ _ _ _ hx).mono ?_; rintro e w' ⟨rfl, hb⟩; have HB := bl_step (by repeat (with_reducible first | exact HB | apply bl_alloc | apply bl_drew | apply bl_drewN | fail)) hb; have K0 := Blk.below (by repeat (with_reducible first | exact K0 | exact K0 _ | exact K0 _ _ | apply Blk.alloc | apply Blk.drew | apply Blk.drewN | fail)) hb; obtain ⟨_, _, _, _, _, _, _⟩ := Blk.all3 K0) | (go_at_call 14; refine (rbuild_c _ _ _ _ _ hx).mono ?_; rintro e w' ⟨rfl, hb⟩; have HB := bl_step (by repeat (with_reducible first | exact HB | apply bl_alloc | apply bl_drew | apply bl_drewN | fail)) hb; have K0 := Blk.below (by repeat (with_reducible first | exact K0 | exact K0 _ | exact K0 _ _ | apply Blk.alloc | apply Blk.drew | apply Blk.drewN | fail)) hb; obtain ⟨_, _, _, _, _, _, _⟩ := Blk.all3 K0) | (go_at_call 15; refine (parse_c _ _ hs).mono ?_; rintro e w' ⟨rfl, hb⟩; have HB := bl_step (by repeat (with_reducible first | exact HB | apply bl_alloc | apply bl_drew | apply bl_drewN | fail)) hb; have K0 := Blk.below (by repeat (with_reducible first | exact K0 | exact K0 _ | exact K0 _ _ | apply Blk.alloc | apply Blk.drew | apply Blk.drewN | fail)) hb; obtain ⟨_, _, _, _, _, _, _⟩ := Blk.all3 K0; have K1 := fun cs => Blk.new w' cs 23) | (go_at_call 16; refine (rparse_c _ _ hs).mono ?_; rintro e w' ⟨rfl, hb⟩; have HB := bl_step (by repeat (with_reducible first | exact HB | apply bl_alloc | apply bl_drew | apply bl_drewN | fail)) hb; have K0 := Blk.below (by repeat (with_reducible first | exact K0 | exact K0 _ | exact K0 _ _ | apply Blk.alloc | apply Blk.drew | apply Blk.drewN | fail)) hb; obtain ⟨_, _, _, _, _, _, _⟩ := Blk.all3 K0; have K1 := Blk.below (by repeat (with_reducible first | exact K1 | exact K1 _ | exact K1 _ _ | apply Blk.alloc | apply Blk.drew | apply Blk.drewN | fail)) hb; obtain ⟨_, _, _, _, _, _, _⟩ := Blk.all3 K1; have K2 := fun cs => Blk.new w' cs 23) | (go_at_call 17; refine (enum_c _ _).mono ?_; rintro e w' ⟨rfl, rfl⟩) | (go_at_call 18; refine (awake_c _).mono ?_; rintro e w' ⟨rfl, hb⟩; have HB := bl_step (by repeat (with_reducible first | exact HB | apply bl_alloc | apply bl_drew | apply bl_drewN | fail)) hb) | fail)
  go_ret
  exact ⟨by simp, (by repeat (with_reducible first | exact Below.refl _ _ | assumption | (refine bl_set ?_ (by omega)) | apply bl_alloc | apply bl_drewN | apply bl_drew | (refine bl_step ?_ (by assumption)) | fail))⟩
end Go.Proofs.Ytnppbfjeibfamaa.Sf
