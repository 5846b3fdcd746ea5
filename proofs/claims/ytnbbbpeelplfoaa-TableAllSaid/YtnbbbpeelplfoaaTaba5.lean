/- The law TableAll's walk, state 5. -/
import Derived.Test.YtnbbbpeelplfoaaTabb
namespace Go.Proofs.Ytnbbbpeelplfoaa.Tb
open Go.RowKit Go.Proofs.Ytnbbbpeelplfoaa.Kt Go.Proofs.Ytnbbbpeelplfoaa.Id
set_option linter.unusedVariables false
set_option linter.unusedSimpArgs false

set_option maxHeartbeats 12800000 in
theorem all_5 (s0 c0 x m c : Int) (p : Nat) (w : World) (hb : Go.bits .and .i64 s0 7 = 5) (hm : Go.bits .and .i64 x 1023 = m) (m0 : 0 ≤ m) (m1 : m < 1024) (hc : wrap64 (Int.tmod (IntKind.u64.wrap c0) 7) = c) (c1 : 0 ≤ c) (c2 : c < 7) (hx : Go.bits .and .i64 x 1 = (p : Int)) (hp : p < 2) :
    Calls Try.prog 9 #[.int .i64 s0, .int .i64 c0, .int .i64 x] w fun e w' => e = .returned (.bool true) ∧ Below w.heap.size w w' := by
  have HB := Below.refl w.heap.size w
  have hcell := fun (W : World) (a b : Int) => sel_cell p hp W a b 3
  have hs0 : ((⟨#[103, 115]⟩ : ByteArray)[0]'(by decide)).toNat = 103 := rfl
  have hs1 : ((⟨#[103, 115]⟩ : ByteArray)[1]'(by decide)).toNat = 115 := rfl
  have sb7 := sel_bad p m 7 m0 (by decide)
  have sb6 := sel_bad p m 6 m0 (by decide)
  have h7 : c = 0 ∨ c = 1 ∨ c = 2 ∨ c = 3 ∨ c = 4 ∨ c = 5 ∨ c = 6 := by omega
  rcases h7 with rfl | rfl | rfl | rfl | rfl | rfl | rfl
  · have e1 : allowB 5 0 = false := by decide
    have e2 : allowE 5 0 = 0 := by decide
    have hn : ((⟨#[45, 100, 117, 103, 99, 115, 97]⟩ : ByteArray)[0]'(by decide)).toNat = 45 := rfl
    go_enter Try.func9, Try.ntmps9
    go_wp2_with (first | (go_at_call 31; refine (awake_c _).mono ?_; rintro e w' ⟨rfl, hb⟩; have HB := bl_step (by repeat (with_reducible first | exact HB | apply bl_alloc | apply bl_drew | apply bl_drewN | fail)) hb) | fail)
    refine wp_loop_rounds 6 ?_
    repeat (rw [rounds_succ]; go_wp2_with (first | (go_at_call 29; refine (allowed_bad _ _ _ (by omega)).mono ?_; rintro e w' ⟨rfl, hb⟩; have HB := bl_step (by repeat (with_reducible first | exact HB | apply bl_alloc | apply bl_drew | apply bl_drewN | fail)) hb) | (go_at_call 29; refine (allowed_c _ _ _).mono ?_; rintro e w' ⟨rfl, hb⟩; have HB := bl_step (by repeat (with_reducible first | exact HB | apply bl_alloc | apply bl_drew | apply bl_drewN | fail)) hb) | (go_at_call 25; refine (num_c _ _).mono ?_; rintro e w' ⟨rfl, rfl⟩) | fail))
    go_ret
    exact ⟨rfl, HB⟩
  · have e1 : allowB 5 1 = false := by decide
    have e2 : allowE 5 1 = 0 := by decide
    have hn : ((⟨#[45, 100, 117, 103, 99, 115, 97]⟩ : ByteArray)[1]'(by decide)).toNat = 100 := rfl
    go_enter Try.func9, Try.ntmps9
    go_wp2_with (first | (go_at_call 31; refine (awake_c _).mono ?_; rintro e w' ⟨rfl, hb⟩; have HB := bl_step (by repeat (with_reducible first | exact HB | apply bl_alloc | apply bl_drew | apply bl_drewN | fail)) hb) | fail)
    refine wp_loop_rounds 6 ?_
    repeat (rw [rounds_succ]; go_wp2_with (first | (go_at_call 29; refine (allowed_bad _ _ _ (by omega)).mono ?_; rintro e w' ⟨rfl, hb⟩; have HB := bl_step (by repeat (with_reducible first | exact HB | apply bl_alloc | apply bl_drew | apply bl_drewN | fail)) hb) | (go_at_call 29; refine (allowed_c _ _ _).mono ?_; rintro e w' ⟨rfl, hb⟩; have HB := bl_step (by repeat (with_reducible first | exact HB | apply bl_alloc | apply bl_drew | apply bl_drewN | fail)) hb) | (go_at_call 25; refine (num_c _ _).mono ?_; rintro e w' ⟨rfl, rfl⟩) | fail))
    go_ret
    exact ⟨rfl, HB⟩
  · have e1 : allowB 5 2 = false := by decide
    have e2 : allowE 5 2 = 0 := by decide
    have hn : ((⟨#[45, 100, 117, 103, 99, 115, 97]⟩ : ByteArray)[2]'(by decide)).toNat = 117 := rfl
    go_enter Try.func9, Try.ntmps9
    go_wp2_with (first | (go_at_call 31; refine (awake_c _).mono ?_; rintro e w' ⟨rfl, hb⟩; have HB := bl_step (by repeat (with_reducible first | exact HB | apply bl_alloc | apply bl_drew | apply bl_drewN | fail)) hb) | fail)
    refine wp_loop_rounds 6 ?_
    repeat (rw [rounds_succ]; go_wp2_with (first | (go_at_call 29; refine (allowed_bad _ _ _ (by omega)).mono ?_; rintro e w' ⟨rfl, hb⟩; have HB := bl_step (by repeat (with_reducible first | exact HB | apply bl_alloc | apply bl_drew | apply bl_drewN | fail)) hb) | (go_at_call 29; refine (allowed_c _ _ _).mono ?_; rintro e w' ⟨rfl, hb⟩; have HB := bl_step (by repeat (with_reducible first | exact HB | apply bl_alloc | apply bl_drew | apply bl_drewN | fail)) hb) | (go_at_call 25; refine (num_c _ _).mono ?_; rintro e w' ⟨rfl, rfl⟩) | fail))
    go_ret
    exact ⟨rfl, HB⟩
  · have e1 : allowB 5 3 = true := by decide
    have e2 : allowE 5 3 = 0 := by decide
    have hn : ((⟨#[45, 100, 117, 103, 99, 115, 97]⟩ : ByteArray)[3]'(by decide)).toNat = 103 := rfl
    go_enter Try.func9, Try.ntmps9
    go_wp2_with (first | (go_at_call 31; refine (awake_c _).mono ?_; rintro e w' ⟨rfl, hb⟩; have HB := bl_step (by repeat (with_reducible first | exact HB | apply bl_alloc | apply bl_drew | apply bl_drewN | fail)) hb) | fail)
    refine wp_loop_rounds 6 ?_
    repeat (rw [rounds_succ]; go_wp2_with (first | (go_at_call 29; refine (allowed_bad _ _ _ (by omega)).mono ?_; rintro e w' ⟨rfl, hb⟩; have HB := bl_step (by repeat (with_reducible first | exact HB | apply bl_alloc | apply bl_drew | apply bl_drewN | fail)) hb) | (go_at_call 29; refine (allowed_c _ _ _).mono ?_; rintro e w' ⟨rfl, hb⟩; have HB := bl_step (by repeat (with_reducible first | exact HB | apply bl_alloc | apply bl_drew | apply bl_drewN | fail)) hb) | (go_at_call 25; refine (num_c _ _).mono ?_; rintro e w' ⟨rfl, rfl⟩) | fail))
    go_ret
    exact ⟨rfl, HB⟩
  · have e1 : allowB 5 4 = false := by decide
    have e2 : allowE 5 4 = 0 := by decide
    have hn : ((⟨#[45, 100, 117, 103, 99, 115, 97]⟩ : ByteArray)[4]'(by decide)).toNat = 99 := rfl
    go_enter Try.func9, Try.ntmps9
    go_wp2_with (first | (go_at_call 31; refine (awake_c _).mono ?_; rintro e w' ⟨rfl, hb⟩; have HB := bl_step (by repeat (with_reducible first | exact HB | apply bl_alloc | apply bl_drew | apply bl_drewN | fail)) hb) | fail)
    refine wp_loop_rounds 6 ?_
    repeat (rw [rounds_succ]; go_wp2_with (first | (go_at_call 29; refine (allowed_bad _ _ _ (by omega)).mono ?_; rintro e w' ⟨rfl, hb⟩; have HB := bl_step (by repeat (with_reducible first | exact HB | apply bl_alloc | apply bl_drew | apply bl_drewN | fail)) hb) | (go_at_call 29; refine (allowed_c _ _ _).mono ?_; rintro e w' ⟨rfl, hb⟩; have HB := bl_step (by repeat (with_reducible first | exact HB | apply bl_alloc | apply bl_drew | apply bl_drewN | fail)) hb) | (go_at_call 25; refine (num_c _ _).mono ?_; rintro e w' ⟨rfl, rfl⟩) | fail))
    go_ret
    exact ⟨rfl, HB⟩
  · have e1 : allowB 5 5 = true := by decide
    have e2 : allowE 5 5 = 0 := by decide
    have hn : ((⟨#[45, 100, 117, 103, 99, 115, 97]⟩ : ByteArray)[5]'(by decide)).toNat = 115 := rfl
    go_enter Try.func9, Try.ntmps9
    go_wp2_with (first | (go_at_call 31; refine (awake_c _).mono ?_; rintro e w' ⟨rfl, hb⟩; have HB := bl_step (by repeat (with_reducible first | exact HB | apply bl_alloc | apply bl_drew | apply bl_drewN | fail)) hb) | fail)
    refine wp_loop_rounds 6 ?_
    repeat (rw [rounds_succ]; go_wp2_with (first | (go_at_call 29; refine (allowed_bad _ _ _ (by omega)).mono ?_; rintro e w' ⟨rfl, hb⟩; have HB := bl_step (by repeat (with_reducible first | exact HB | apply bl_alloc | apply bl_drew | apply bl_drewN | fail)) hb) | (go_at_call 29; refine (allowed_c _ _ _).mono ?_; rintro e w' ⟨rfl, hb⟩; have HB := bl_step (by repeat (with_reducible first | exact HB | apply bl_alloc | apply bl_drew | apply bl_drewN | fail)) hb) | (go_at_call 25; refine (num_c _ _).mono ?_; rintro e w' ⟨rfl, rfl⟩) | fail))
    go_ret
    exact ⟨rfl, HB⟩
  · have e1 : allowB 5 6 = false := by decide
    have e2 : allowE 5 6 = 0 := by decide
    have hn : ((⟨#[45, 100, 117, 103, 99, 115, 97]⟩ : ByteArray)[6]'(by decide)).toNat = 97 := rfl
    go_enter Try.func9, Try.ntmps9
    go_wp2_with (first | (go_at_call 31; refine (awake_c _).mono ?_; rintro e w' ⟨rfl, hb⟩; have HB := bl_step (by repeat (with_reducible first | exact HB | apply bl_alloc | apply bl_drew | apply bl_drewN | fail)) hb) | fail)
    refine wp_loop_rounds 6 ?_
    repeat (rw [rounds_succ]; go_wp2_with (first | (go_at_call 29; refine (allowed_bad _ _ _ (by omega)).mono ?_; rintro e w' ⟨rfl, hb⟩; have HB := bl_step (by repeat (with_reducible first | exact HB | apply bl_alloc | apply bl_drew | apply bl_drewN | fail)) hb) | (go_at_call 29; refine (allowed_c _ _ _).mono ?_; rintro e w' ⟨rfl, hb⟩; have HB := bl_step (by repeat (with_reducible first | exact HB | apply bl_alloc | apply bl_drew | apply bl_drewN | fail)) hb) | (go_at_call 25; refine (num_c _ _).mono ?_; rintro e w' ⟨rfl, rfl⟩) | fail))
    go_ret
    exact ⟨rfl, HB⟩
end Go.Proofs.Ytnbbbpeelplfoaa.Tb
