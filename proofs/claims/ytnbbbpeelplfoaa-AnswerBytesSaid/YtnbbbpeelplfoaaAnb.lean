/- Layer 14: the law AnswerBytes. -/
import Derived.Test.YtnbbbpeelplfoaaAnp
import Derived.Test.YtnbbbpeelplfoaaByt
import Derived.Deep.QuietTactic
import Derived.BigQuiet
namespace Go.Proofs.Ytnbbbpeelplfoaa.An
open Go.RowKit Go.Proofs.Ytnbbbpeelplfoaa.Kt Go.Proofs.Ytnbbbpeelplfoaa.Lw Go.Proofs.Ytnbbbpeelplfoaa.St Go.Proofs.Ytnbbbpeelplfoaa.Id Go.Proofs.Ytnbbbpeelplfoaa.Es Go.Proofs.Ytnbbbpeelplfoaa.Bt Go.Proofs.Ytnbbbpeelplfoaa.By
set_option linter.unusedVariables false
set_option linter.unusedSimpArgs false
attribute [local go_sem high] eqAns

set_option maxHeartbeats 3200000 in
theorem bytes_0 (x0 x1 x2 at' by' a t z m : Int) (p : Nat) (w : World) (ha : wrap64 (Int.tmod (IntKind.u64.wrap x0) 7) = a) (ht : Go.bits .and .i64 x1 255 = t) (hz : Go.bits .and .i64 x2 7 = z) (hm : ansMay a t z = true)
    (hk : wrap64 (Int.tmod (IntKind.u64.wrap at') 6) = (p : Int)) (k1 : p < 6) (hb' : Go.bits .and .i64 by' 127 = m) (m0 : 0 ≤ m) (m1 : m < 128) :
    Calls Try.prog 14 #[.int .i64 x0, .int .i64 x1, .int .i64 x2, .int .i64 at', .int .i64 by'] w fun e w' => e = .returned (.bool true) ∧ Below w.heap.size w w' := by
  have HB := Below.refl w.heap.size w
  have p1 : putE a t z = 0 := by simp [putE, *]
  have p2 : (putB a t z).size = 6 := put_size (by assumption)
  have r1 := fun W : World => run_bytes W (putB a t z)
  have r2 := fun (W : World) (cap : Nat) (fr : Nat × Nat) => bytes_cell W (putB a t z) cap p fr (by omega)
  have r3 := fun (W : World) (cap : Nat) => bytes_frozen W (putB a t z) cap p (by omega)
  have hb1 := may_sta hm
  have bb := byt_bd (putB a t z) p
  obtain ⟨X0, X1, X2⟩ := turn8 (byt (putB a t z) p) (1 + m) bb.1 bb.2 (by omega) (by omega)
  have hne := setS_ne (putB a t z) p _ (by omega) X0 X1 X2
  have hss := setS_size (putB a t z) p (Go.bits .xor .u8 (byt (putB a t z) p) (1 + m))
  have r4 := fun (W : World) (cap : Nat) => back_set W (putB a t z) 6 cap p _ (by omega) (by omega) X0 X1
  have e0 := byt_at (putB a t z) 0 (by omega)
  have e1 := byt_at (putB a t z) 1 (by omega)
  have e4 := byt_at (putB a t z) 4 (by omega)
  have e5 := byt_at (putB a t z) 5 (by omega)
  obtain ⟨f0, f1, f4, f5, f2⟩ := put_bytes hm
  rw [f0] at e0
  rw [f1] at e1
  rw [f4] at e4
  rw [f5] at e5
  have e2 : (((putB a t z).extract 2 4).toList == [0, 0]) = true := by rw [f2]; decide +kernel
  have q0 : IntKind.i64.wrap a = a := by rw [IntKind.wrap_i64]; omega
  have q1 : IntKind.i64.wrap t = t := by rw [IntKind.wrap_i64]; omega
  have q4 : IntKind.i64.wrap z = z := by rw [IntKind.wrap_i64]; omega
  generalize hX : Go.bits .xor .u8 (byt (putB a t z) p) (1 + m) = X at *
  clear X0 X1 X2 bb hb1 f0 f1 f4 f5 f2
  cases hg : gotB (setS (putB a t z) p X)
  · have g1 : gotV (setS (putB a t z) p X) = #[.int .i64 0, .int .i64 0, .int .i64 0] := by simp [gotV, hg]
    clear hne hss hm
    go_enter Try.func14, Try.ntmps14
    go_wp2_with (first | (go_at_call 38; refine (awake_c _).mono ?_; rintro e w0 ⟨rfl, hb⟩; have HB := bl_step (by repeat (with_reducible first | exact HB | apply bl_alloc | apply bl_drew | apply bl_drewN | fail)) hb; have K0 := fun cs => Blk.new w0 cs 44) | (go_at_call 32; refine (put_c _ _ _ _).mono ?_; rintro e w' ⟨rfl, hb⟩; have HB := bl_step (by repeat (with_reducible first | exact HB | apply bl_alloc | apply bl_drew | apply bl_drewN | fail)) hb; have K0 := Blk.below (by repeat (with_reducible first | exact K0 | exact K0 _ | exact K0 _ _ | apply Blk.alloc | apply Blk.drew | apply Blk.drewN | fail)) hb; obtain ⟨_, _, _, _, _, _, _⟩ := Blk.all3 K0) | (go_at_call 34; refine (get_c _ _).mono ?_; rintro e w2 ⟨rfl, hb⟩; obtain ⟨HB, K0⟩ := keep_row HB K0 hb; obtain ⟨_, _, _, _, _, _, _⟩ := Blk.all3 K0) | (go_at_call 25; refine (enum_c _ _).mono ?_; rintro e w' ⟨rfl, rfl⟩) | fail)
    have B3 := bl_alloc HB (.cells #[.int .i64 0, .int .i64 0, .int .i64 0] 44)
    have HC : (w2.alloc (.cells #[.int .i64 0, .int .i64 0, .int .i64 0] 44)).cell? ⟨w0.heap.size, 0, none⟩ = some (.int .i64 a) ∧ (w2.alloc (.cells #[.int .i64 0, .int .i64 0, .int .i64 0] 44)).cell? ⟨w0.heap.size, 1, none⟩ = some (.int .i64 t) ∧ (w2.alloc (.cells #[.int .i64 0, .int .i64 0, .int .i64 0] 44)).cell? ⟨w0.heap.size, 2, none⟩ = some (.int .i64 z) ∧ (w2.alloc (.cells #[.int .i64 0, .int .i64 0, .int .i64 0] 44)).cell? ⟨w2.heap.size, 0, none⟩ = some (.int .i64 0) ∧ (w2.alloc (.cells #[.int .i64 0, .int .i64 0, .int .i64 0] 44)).cell? ⟨w2.heap.size, 1, none⟩ = some (.int .i64 0) ∧ (w2.alloc (.cells #[.int .i64 0, .int .i64 0, .int .i64 0] 44)).cell? ⟨w2.heap.size, 2, none⟩ = some (.int .i64 0) := (by
      have L0 := K0.alloc (.cells #[.int .i64 0, .int .i64 0, .int .i64 0] 44)
      have L1 := Blk.new w2 #[.int .i64 0, .int .i64 0, .int .i64 0] 44
      exact ⟨L0.cell 0, L0.cell 1, L0.cell 2, L1.cell 0, L1.cell 1, L1.cell 2⟩)
    clear K0
    generalize w2.alloc (.cells #[.int .i64 0, .int .i64 0, .int .i64 0] 44) = w3 at *
    obtain ⟨_, _, _, _, _, _⟩ := HC
    go_quiet (first | (go_at_call 25; exact Calls.quiet_of_same ((enum_c _ _).mono fun _ _ h => ⟨h.1, h.2.symm⟩)) | fail)
    go_wp2_with fail
    go_ret
    exact ⟨by simp, (by repeat (with_reducible first | exact Below.refl _ _ | assumption | (refine bl_set ?_ (by omega)) | apply bl_alloc | apply bl_drewN | apply bl_drew | (refine bl_step ?_ (by assumption)) | fail))⟩
  · obtain ⟨b0, b1, b2, g1, gm, g2⟩ := put_got _ hg
    have g3 : (b0 == a && (b1 == t && b2 == z)) = false := by
      rw [← Bool.not_eq_true, Bool.and_eq_true, Bool.and_eq_true, beq_iff_eq, beq_iff_eq, beq_iff_eq]
      rintro ⟨rfl, rfl, rfl⟩
      exact hne g2.symm
    clear hne hss hm gm g2
    go_enter Try.func14, Try.ntmps14
    go_wp2_with (first | (go_at_call 38; refine (awake_c _).mono ?_; rintro e w0 ⟨rfl, hb⟩; have HB := bl_step (by repeat (with_reducible first | exact HB | apply bl_alloc | apply bl_drew | apply bl_drewN | fail)) hb; have K0 := fun cs => Blk.new w0 cs 44) | (go_at_call 32; refine (put_c _ _ _ _).mono ?_; rintro e w' ⟨rfl, hb⟩; have HB := bl_step (by repeat (with_reducible first | exact HB | apply bl_alloc | apply bl_drew | apply bl_drewN | fail)) hb; have K0 := Blk.below (by repeat (with_reducible first | exact K0 | exact K0 _ | exact K0 _ _ | apply Blk.alloc | apply Blk.drew | apply Blk.drewN | fail)) hb; obtain ⟨_, _, _, _, _, _, _⟩ := Blk.all3 K0) | (go_at_call 34; refine (get_c _ _).mono ?_; rintro e w2 ⟨rfl, hb⟩; obtain ⟨HB, K0⟩ := keep_row HB K0 hb; obtain ⟨_, _, _, _, _, _, _⟩ := Blk.all3 K0) | (go_at_call 25; refine (enum_c _ _).mono ?_; rintro e w' ⟨rfl, rfl⟩) | fail)

    have B3 := bl_alloc HB (.cells #[.int .i64 b0, .int .i64 b1, .int .i64 b2] 44)
    have HC : (w2.alloc (.cells #[.int .i64 b0, .int .i64 b1, .int .i64 b2] 44)).cell? ⟨w0.heap.size, 0, none⟩ = some (.int .i64 a) ∧ (w2.alloc (.cells #[.int .i64 b0, .int .i64 b1, .int .i64 b2] 44)).cell? ⟨w0.heap.size, 1, none⟩ = some (.int .i64 t) ∧ (w2.alloc (.cells #[.int .i64 b0, .int .i64 b1, .int .i64 b2] 44)).cell? ⟨w0.heap.size, 2, none⟩ = some (.int .i64 z) ∧ (w2.alloc (.cells #[.int .i64 b0, .int .i64 b1, .int .i64 b2] 44)).cell? ⟨w2.heap.size, 0, none⟩ = some (.int .i64 b0) ∧ (w2.alloc (.cells #[.int .i64 b0, .int .i64 b1, .int .i64 b2] 44)).cell? ⟨w2.heap.size, 1, none⟩ = some (.int .i64 b1) ∧ (w2.alloc (.cells #[.int .i64 b0, .int .i64 b1, .int .i64 b2] 44)).cell? ⟨w2.heap.size, 2, none⟩ = some (.int .i64 b2) := (by
      have L0 := K0.alloc (.cells #[.int .i64 b0, .int .i64 b1, .int .i64 b2] 44)
      have L1 := Blk.new w2 #[.int .i64 b0, .int .i64 b1, .int .i64 b2] 44
      exact ⟨L0.cell 0, L0.cell 1, L0.cell 2, L1.cell 0, L1.cell 1, L1.cell 2⟩)
    clear K0
    generalize w2.alloc (.cells #[.int .i64 b0, .int .i64 b1, .int .i64 b2] 44) = w3 at *
    obtain ⟨_, _, _, _, _, _⟩ := HC
    go_quiet (first | (go_at_call 25; exact Calls.quiet_of_same ((enum_c _ _).mono fun _ _ h => ⟨h.1, h.2.symm⟩)) | fail)
    go_wp2_with fail
    go_ret
    exact ⟨by simp, (by repeat (with_reducible first | exact Below.refl _ _ | assumption | (refine bl_set ?_ (by omega)) | apply bl_alloc | apply bl_drewN | apply bl_drew | (refine bl_step ?_ (by assumption)) | fail))⟩
theorem bytes_w (x0 x1 x2 x3 x4 : Int) (w : World) :
    Calls Try.prog 14 #[.int .i64 x0, .int .i64 x1, .int .i64 x2, .int .i64 x3, .int .i64 x4] w fun e w' => e = .returned (.bool true) ∧ Below w.heap.size w w' := by
  have h0 := umod64 x0 7 (by decide) (by decide)
  have h1 := and255 x1
  have h2 := and7 x2
  have h3 := umod64 x3 6 (by decide) (by decide)
  have h4 := and127 x4
  obtain ⟨p, hp⟩ := Int.eq_ofNat_of_zero_le h3.1
  exact bytes_0 x0 x1 x2 x3 x4 _ _ _ _ p w rfl rfl rfl (may_mk h0.1 h0.2 (by omega) (by omega) (by omega) (by omega)) hp (by omega) rfl (by omega) (by omega)
end Go.Proofs.Ytnbbbpeelplfoaa.An
