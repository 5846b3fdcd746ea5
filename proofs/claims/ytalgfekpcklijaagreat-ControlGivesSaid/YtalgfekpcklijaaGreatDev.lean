/- Layer 16: devices: what the program's and the references' functions answer. -/
import Derived.Test.YtalgfekpcklijaaGreatGb
namespace Go.Proofs.YtalgfekpcklijaaGreat.Dv
open Go.RowKit Go.Proofs.YtalgfekpcklijaaGreat.Kt Go.Proofs.YtalgfekpcklijaaGreat.Lw Go.Proofs.YtalgfekpcklijaaGreat.St Go.Proofs.YtalgfekpcklijaaGreat.Nm Go.Proofs.YtalgfekpcklijaaGreat.Es Go.Proofs.YtalgfekpcklijaaGreat.Sl Go.Proofs.YtalgfekpcklijaaGreat.Ops
set_option linter.unusedVariables false
set_option linter.unusedSimpArgs false
theorem state_c (x : Int) (w : World) : Calls Tryz.prog 97 #[.int .i64 x] w fun e w' => e = .returned (.bool (rngB x 0 7)) ∧ w = w' := by
  go_enter Tryz.func97, Tryz.ntmps97
  go_wp2
  all_goals (go_ret; refine ⟨retB ?_, rfl⟩; rw [Bool.eq_iff_iff]; simp [rngB] <;> omega)
theorem status_c (x : Int) (w : World) : Calls Tryz.prog 98 #[.int .i64 x] w fun e w' => e = .returned (.bool (rngB x 0 6)) ∧ w = w' := by
  go_enter Tryz.func98, Tryz.ntmps98
  go_wp2
  all_goals (go_ret; refine ⟨retB ?_, rfl⟩; rw [Bool.eq_iff_iff]; simp [rngB] <;> omega)
theorem rstate_c (x : Int) (w : World) : Calls Tryz.prog 61 #[.int .i64 x] w fun e w' => e = .returned (.bool (rngB x 0 7)) ∧ w = w' := by
  go_enter Tryz.func61, Tryz.ntmps61
  go_wp2_with (first | (go_at_call 62; refine (upTo_c _ _ _ _).mono ?_; rintro e w' ⟨rfl, rfl⟩) | fail)
  go_ret
  exact ⟨by simp, rfl⟩
theorem rstatus_c (x : Int) (w : World) : Calls Tryz.prog 64 #[.int .i64 x] w fun e w' => e = .returned (.bool (rngB x 0 6)) ∧ w = w' := by
  go_enter Tryz.func64, Tryz.ntmps64
  go_wp2_with (first | (go_at_call 62; refine (upTo_c _ _ _ _).mono ?_; rintro e w' ⟨rfl, rfl⟩) | fail)
  go_ret
  exact ⟨by simp, rfl⟩
theorem in_c (x l m : Int) (w : World) : Calls Tryz.prog 140 #[.int .i64 x, .int .i64 l, .int .i64 m] w fun e w' => e = .returned (.bool (rngB x l m)) ∧ w = w' := by
  go_enter Tryz.func140, Tryz.ntmps140
  go_wp2
  all_goals (go_ret; refine ⟨retB ?_, rfl⟩; rw [Bool.eq_iff_iff]; simp [rngB] <;> omega)
theorem size_c (x : Int) (w : World) : Calls Tryz.prog 99 #[.int .i64 x] w fun e w' => e = .returned (.bool (rngB x 1 288)) ∧ w = w' := by
  go_enter Tryz.func99, Tryz.ntmps99
  go_wp2_with (first | (go_at_call 140; refine (in_c _ _ _ _).mono ?_; rintro e w' ⟨rfl, rfl⟩) | fail)
  go_ret
  exact ⟨by simp, rfl⟩
theorem slot_c (x : Int) (w : World) : Calls Tryz.prog 100 #[.int .i64 x] w fun e w' => e = .returned (.bool (rngB x 0 1)) ∧ w = w' := by
  go_enter Tryz.func100, Tryz.ntmps100
  go_wp2_with (first | (go_at_call 140; refine (in_c _ _ _ _).mono ?_; rintro e w' ⟨rfl, rfl⟩) | fail)
  go_ret
  exact ⟨by simp, rfl⟩
theorem upTo16_c (x l m : Int) (w : World) : Calls Tryz.prog 65 #[.int .i64 x, .int .i64 l, .int .i64 m] w fun e w' => e = .returned (.bool (rngB x l m)) ∧ w = w' := by
  go_enter Tryz.func65, Tryz.ntmps65
  go_wp2
  all_goals (go_ret; refine ⟨retB ?_, rfl⟩; rw [Bool.eq_iff_iff]; simp [rngB] <;> omega)
def devMay (s st nx g sl : Int) (xs : List OpV) : Bool := rngB s 0 7 && (rngB st 0 6 && (rngB nx 0 16 && (rngB g 0 288 && (rngB sl 0 1 && (decide ((xs.length : Int) ≤ 768) && !(xs.any (fun o => !opMay o)))))))
set_option maxHeartbeats 3200000 in
theorem devMay_c (s st nx g sl : Int) (A : Option Addr) (c n : Nat) (xs : List OpV) (w : World) (hl : Row w A xs) (hn : xs.length = n) :
    Calls Tryz.prog 43 #[.agg #[.int .i64 s, .int .i64 st, .int .i64 nx, .int .i64 g, .int .i64 sl, .slice A n c]] w fun e w' => e = .returned (.bool (devMay s st nx g sl xs)) ∧ Below w.heap.size w w' := by
  have HB := Below.refl w.heap.size w
  have K0 := fun cs => Blk.new w cs 24
  go_enter Tryz.func43, Tryz.ntmps43
  go_wp2_with (first | (go_at_call 97; refine (state_c _ _).mono ?_; rintro e w' ⟨rfl, rfl⟩) | (go_at_call 98; refine (status_c _ _).mono ?_; rintro e w' ⟨rfl, rfl⟩) | (go_at_call 99; refine (size_c _ _).mono ?_; rintro e w' ⟨rfl, rfl⟩) | (go_at_call 100; refine (slot_c _ _).mono ?_; rintro e w' ⟨rfl, rfl⟩) | (go_at_call 101; refine (odd_any _ _ _ _ _ (hl.below (bl_alloc (Below.refl _ _) _)) hn).mono ?_; rintro e w' ⟨rfl, hb⟩; have HB := bl_step (by repeat (with_reducible first | exact HB | apply bl_alloc | apply bl_drew | apply bl_drewN | fail)) hb; have K0 := Blk.below (by repeat (with_reducible first | exact K0 | exact K0 _ | exact K0 _ _ | apply Blk.alloc | apply Blk.drew | apply Blk.drewN | fail)) hb; obtain ⟨_, _, _, _, _, _, _, _, _, _⟩ := Blk.all6 K0) | fail)
  all_goals (go_ret; refine ⟨retB ?_, (by repeat (with_reducible first | exact Below.refl _ _ | assumption | (refine bl_set ?_ (by omega)) | apply bl_alloc | apply bl_drewN | apply bl_drew | (refine bl_step ?_ (by assumption)) | fail))⟩)
  all_goals (clear hl K0 HB; subst hn; simp only [devMay])
  all_goals (first | (simp_all [rngB]; done) | (simp_all [rngB]; omega))
set_option maxHeartbeats 3200000 in
theorem rdevMay_c (s st nx g sl : Int) (A : Option Addr) (c n : Nat) (xs : List OpV) (w : World) (hl : Row w A xs) (hn : xs.length = n) :
    Calls Tryz.prog 24 #[.agg #[.int .i64 s, .int .i64 st, .int .i64 nx, .int .i64 g, .int .i64 sl, .slice A n c]] w fun e w' => e = .returned (.bool (devMay s st nx g sl xs)) ∧ Below w.heap.size w w' := by
  have hb : n ≤ 9223372036854775807 := by rw [← hn]; exact hl.2.1
  have hrow : Aside (∀ (W : World), Below w.heap.size w W → Row W A xs) := fun W hW => hl.below hW
  clear hl
  have HB := Below.refl w.heap.size w
  have K0 := Blk.new w #[.int .i64 s, .int .i64 st, .int .i64 nx, .int .i64 g, .int .i64 sl, .slice A n c] 24
  go_enter Tryz.func24, Tryz.ntmps24
  go_wp2
  have HB1 := bl_alloc HB (.cells #[.int .i64 s, .int .i64 st, .int .i64 nx, .int .i64 g, .int .i64 sl, .slice A n c] 24)
  generalize w.alloc (.cells #[.int .i64 s, .int .i64 st, .int .i64 nx, .int .i64 g, .int .i64 sl, .slice A n c] 24) = w1 at *
  go_loopg [3] n (fun gg s3 wr => ∃ kk : Nat, kk ≤ n ∧ n - kk ≤ gg ∧ s3 = .int .i64 kk ∧ Aside (Below w.heap.size w wr) ∧ Aside (Blk wr w.heap.size #[.int .i64 s, .int .i64 st, .int .i64 nx, .int .i64 g, .int .i64 sl, .slice A n c] 24) ∧ Aside (∀ j x, j < kk → xs[j]? = some x → opMay x = true))
  case atStart => exact ⟨0, Nat.zero_le _, by omega, rfl, HB1, K0, fun j x hj => absurd hj (Nat.not_lt_zero _)⟩
  case round =>
    clear K0 HB1 w1
    obtain ⟨kk, hkk, hg, rfl, BW, BK, AA⟩ := hrel
    obtain ⟨_, _, _, _, _, _, _, _, _, _⟩ := Blk.all6 BK.out
    have HB := BW.out
    have K0 := BK.out
    by_cases hlt : kk < n
    · have hltz : (kk : Int) < (n : Int) := by omega
      obtain ⟨b, off, x, rfl, hbs, hx, hok, c0, c1, c2⟩ := (hrow.out wr BW.out).at_ (j := kk) (by omega)
      have hcall := rOpMay_c x wr hok
      have hx' : Aside (xs[kk]? = some x) := hx
      clear hx hok
      cases hq : opMay x with
      | false =>
        simp only [hq] at hcall
        have hq' : Aside (opMay x = false) := hq
        clear hq
        go_wp2_with (first | (go_at_call 63; refine hcall.mono ?_; rintro e w' ⟨rfl, hb'⟩) | fail)
        go_ret
        refine ⟨retB ?_, bl_step BW.out hb'⟩
        simp [devMay, any_hit hx'.out hq'.out]
      | true =>
        simp only [hq] at hcall
        have hq' : Aside (opMay x = true) := hq
        clear hq
        go_wp2_with (first | (go_at_call 63; refine hcall.mono ?_; rintro e w' ⟨rfl, hb'⟩) | fail)
        go_roundg (n - (kk + 1))
        case measure => omega
        case rel =>
          refine ⟨kk + 1, by omega, by omega, by go_num, bl_step BW.out hb', BK.out.below hb', (show Aside _ from fun j y hj hy => ?_)⟩
          by_cases e : j = kk
          · subst e
            rw [hx'.out] at hy
            cases hy
            exact hq'.out
          · exact AA.out j y (by omega) hy
    · have hltz : ¬ (kk : Int) < (n : Int) := by omega
      have : kk = n := by omega
      subst this
      have hany := any_miss (fun j x hj hx => AA.out j x (by omega) hx)
      clear AA
      go_wp2_with (first | (go_at_call 61; refine (rstate_c _ _).mono ?_; rintro e w' ⟨rfl, rfl⟩) | (go_at_call 64; refine (rstatus_c _ _).mono ?_; rintro e w' ⟨rfl, rfl⟩) | (go_at_call 65; refine (upTo16_c _ _ _ _).mono ?_; rintro e w' ⟨rfl, rfl⟩) | fail)
      all_goals (go_ret; refine ⟨retB ?_, BW.out⟩)
      all_goals (clear BW BK HB K0 hrow; simp only [devMay, hany])
      all_goals simp_all
end Go.Proofs.YtalgfekpcklijaaGreat.Dv
