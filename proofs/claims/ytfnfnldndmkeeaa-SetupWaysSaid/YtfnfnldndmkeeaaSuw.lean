/- Layer 13: the law SetupWays. -/
import Derived.Test.YtfnfnldndmkeeaaSul
import Derived.Deep.QuietTactic
import Derived.BigQuiet
namespace Go.Proofs.Ytfnfnldndmkeeaa.Su
open Go.RowKit Go.Proofs.Ytfnfnldndmkeeaa.Kt Go.Proofs.Ytfnfnldndmkeeaa.Lw Go.Proofs.Ytfnfnldndmkeeaa.St Go.Proofs.Ytfnfnldndmkeeaa.Nm Go.Proofs.Ytfnfnldndmkeeaa.Es Go.Proofs.Ytfnfnldndmkeeaa.Bt
set_option linter.unusedVariables false
set_option linter.unusedSimpArgs false
attribute [local go_sem high] eqSet

theorem sup_bytes {c v : Int} (h : setMay c v 5 = true) : byt (supB c v 5) 0 = wayI c ∧ byt (supB c v 5) 1 = c ∧ byt (supB c v 5) 2 = v % 256 ∧ byt (supB c v 5) 3 = v / 256 ∧ (supB c v 5).extract 4 8 = ⟨#[0, 0, 5, 0]⟩ := by
  have hb := may_sup h
  have e := sup_list h
  have hw : 0 ≤ wayI c ∧ wayI c < 256 := by unfold wayI; split <;> decide
  refine ⟨?_, ?_, ?_, ?_, ?_⟩
  · unfold byt; rw [e]; exact byte_back _ hw.1 hw.2
  · unfold byt; rw [e]; exact byte_back c (by omega) (by omega)
  · unfold byt; rw [e]; exact byte_back (v % 256) (by omega) (by omega)
  · unfold byt; rw [e]; exact byte_back (v / 256) (by omega) (by omega)
  · apply ext_data
    simp only [ByteArray.data_extract, Array.toList_extract, List.extract, e]
    rfl

set_option maxHeartbeats 6400000 in
theorem ways_0 (x0 x1 c v : Int) (w : World) (ha : wrap64 (Int.tmod (IntKind.u64.wrap x0) 7) = c) (hv : Go.bits .and .i64 x1 65535 = v) (v0 : 0 ≤ v) (v1 : v < 65536) (hm : setMay c v 5 = true) :
    Calls Try.prog 10 #[.int .i64 x0, .int .i64 x1] w fun e w' => e = .returned (.bool true) ∧ Below w.heap.size w w' := by
  have HB := Below.refl w.heap.size w
  have p1 : supE c v 5 = 0 := by simp [supE, hm]
  have p2 := sup_size hm
  have e0 := byt_at (supB c v 5) 0 (by omega)
  have e1 := byt_at (supB c v 5) 1 (by omega)
  have e2 := byt_at (supB c v 5) 2 (by omega)
  have e3 := byt_at (supB c v 5) 3 (by omega)
  obtain ⟨f0, f1, f2, f3, f4⟩ := sup_bytes hm
  rw [f0] at e0
  rw [f1] at e1
  rw [f2] at e2
  rw [f3] at e3
  have e4 : (((supB c v 5).extract 4 8).toList == [0, 0, 5, 0]) = true := by rw [f4]; decide +kernel
  have hb := may_sup hm
  have q1 : IntKind.i64.wrap c = c := by rw [IntKind.wrap_i64]; omega
  have q2 : IntKind.i64.wrap (v % 256) = v % 256 := by rw [IntKind.wrap_i64]; omega
  have q3 : IntKind.i64.wrap (v / 256) = v / 256 := by rw [IntKind.wrap_i64]; omega
  have q6 : v % 256 + 256 * (v / 256) = v := by omega
  have m0 : 0 ≤ v % 256 := by omega
  have m1 : v % 256 < 256 := by omega
  have m2 : 0 ≤ v / 256 := by omega
  have m3 : v / 256 < 256 := by omega
  generalize v % 256 = l at *
  generalize v / 256 = u at *
  have q7 : (l + 256 * u == v) = true := by simpa using q6
  clear hm f0 f1 f2 f3 f4 hb
  rcases (by omega : c = 2 ∨ c = 3 ∨ c = 5 ∨ (c ≠ 2 ∧ c ≠ 3 ∧ c ≠ 5)) with rfl | rfl | rfl | ⟨n2, n3, n5⟩
  · rw [show wayI 2 = 161 from rfl] at e0
    clear q1
    go_enter Try.func10, Try.ntmps10
    go_wp2_with (first | (go_at_call 31; refine (awake_c _).mono ?_; rintro e w' ⟨rfl, hb⟩; have HB := bl_step (by repeat (with_reducible first | exact HB | apply bl_alloc | apply bl_drew | apply bl_drewN | fail)) hb) | (go_at_call 25; refine (sput_c _ _ _ _).mono ?_; rintro e w' ⟨rfl, hb⟩; have HB := bl_step (by repeat (with_reducible first | exact HB | apply bl_alloc | apply bl_drew | apply bl_drewN | fail)) hb) | (go_at_call 19; refine (enum_c _ _).mono ?_; rintro e w' ⟨rfl, rfl⟩) | fail)
    go_quiet (first | (go_at_call 19; exact Calls.quiet_of_same ((enum_c _ _).mono fun _ _ h => ⟨h.1, h.2.symm⟩)) | fail)
    go_wp2_with fail
    go_ret
    exact ⟨by simp, (by repeat (with_reducible first | exact Below.refl _ _ | assumption | (refine bl_set ?_ (by omega)) | apply bl_alloc | apply bl_drewN | apply bl_drew | (refine bl_step ?_ (by assumption)) | fail))⟩
  · rw [show wayI 3 = 161 from rfl] at e0
    clear q1
    go_enter Try.func10, Try.ntmps10
    go_wp2_with (first | (go_at_call 31; refine (awake_c _).mono ?_; rintro e w' ⟨rfl, hb⟩; have HB := bl_step (by repeat (with_reducible first | exact HB | apply bl_alloc | apply bl_drew | apply bl_drewN | fail)) hb) | (go_at_call 25; refine (sput_c _ _ _ _).mono ?_; rintro e w' ⟨rfl, hb⟩; have HB := bl_step (by repeat (with_reducible first | exact HB | apply bl_alloc | apply bl_drew | apply bl_drewN | fail)) hb) | (go_at_call 19; refine (enum_c _ _).mono ?_; rintro e w' ⟨rfl, rfl⟩) | fail)
    go_quiet (first | (go_at_call 19; exact Calls.quiet_of_same ((enum_c _ _).mono fun _ _ h => ⟨h.1, h.2.symm⟩)) | fail)
    go_wp2_with fail
    go_ret
    exact ⟨by simp, (by repeat (with_reducible first | exact Below.refl _ _ | assumption | (refine bl_set ?_ (by omega)) | apply bl_alloc | apply bl_drewN | apply bl_drew | (refine bl_step ?_ (by assumption)) | fail))⟩
  · rw [show wayI 5 = 161 from rfl] at e0
    clear q1
    go_enter Try.func10, Try.ntmps10
    go_wp2_with (first | (go_at_call 31; refine (awake_c _).mono ?_; rintro e w' ⟨rfl, hb⟩; have HB := bl_step (by repeat (with_reducible first | exact HB | apply bl_alloc | apply bl_drew | apply bl_drewN | fail)) hb) | (go_at_call 25; refine (sput_c _ _ _ _).mono ?_; rintro e w' ⟨rfl, hb⟩; have HB := bl_step (by repeat (with_reducible first | exact HB | apply bl_alloc | apply bl_drew | apply bl_drewN | fail)) hb) | (go_at_call 19; refine (enum_c _ _).mono ?_; rintro e w' ⟨rfl, rfl⟩) | fail)
    go_quiet (first | (go_at_call 19; exact Calls.quiet_of_same ((enum_c _ _).mono fun _ _ h => ⟨h.1, h.2.symm⟩)) | fail)
    go_wp2_with fail
    go_ret
    exact ⟨by simp, (by repeat (with_reducible first | exact Below.refl _ _ | assumption | (refine bl_set ?_ (by omega)) | apply bl_alloc | apply bl_drewN | apply bl_drew | (refine bl_step ?_ (by assumption)) | fail))⟩
  · rw [show wayI c = 33 by simp [wayI, n2, n3, n5]] at e0
    have b2 : (c == 2) = false := by simpa using n2
    have b3 : (c == 3) = false := by simpa using n3
    have b5 : (c == 5) = false := by simpa using n5
    go_enter Try.func10, Try.ntmps10
    go_wp2_with (first | (go_at_call 31; refine (awake_c _).mono ?_; rintro e w' ⟨rfl, hb⟩; have HB := bl_step (by repeat (with_reducible first | exact HB | apply bl_alloc | apply bl_drew | apply bl_drewN | fail)) hb) | (go_at_call 25; refine (sput_c _ _ _ _).mono ?_; rintro e w' ⟨rfl, hb⟩; have HB := bl_step (by repeat (with_reducible first | exact HB | apply bl_alloc | apply bl_drew | apply bl_drewN | fail)) hb) | (go_at_call 19; refine (enum_c _ _).mono ?_; rintro e w' ⟨rfl, rfl⟩) | fail)
    go_quiet (first | (go_at_call 19; exact Calls.quiet_of_same ((enum_c _ _).mono fun _ _ h => ⟨h.1, h.2.symm⟩)) | fail)
    go_wp2_with fail
    go_ret
    exact ⟨by simp, (by repeat (with_reducible first | exact Below.refl _ _ | assumption | (refine bl_set ?_ (by omega)) | apply bl_alloc | apply bl_drewN | apply bl_drew | (refine bl_step ?_ (by assumption)) | fail))⟩
theorem ways_w (x0 x1 : Int) (w : World) :
    Calls Try.prog 10 #[.int .i64 x0, .int .i64 x1] w fun e w' => e = .returned (.bool true) ∧ Below w.heap.size w w' := by
  have h0 := umod64 x0 7 (by decide) (by decide)
  have h1 := and65535 x1
  exact ways_0 x0 x1 _ _ w rfl rfl (by omega) (by omega) (sup_mk h0.1 h0.2 (by omega) (by omega) (by decide) (by decide))
end Go.Proofs.Ytfnfnldndmkeeaa.Su
