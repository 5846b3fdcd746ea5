/- The law TableWays' walk. -/
import Derived.Test.YtnbbbpeelplfoaaTab
import Derived.Test.YtnbbbpeelplfoaaBits
namespace Go.Proofs.Ytnbbbpeelplfoaa.Tb
open Go.RowKit Go.Proofs.Ytnbbbpeelplfoaa.Kt Go.Proofs.Ytnbbbpeelplfoaa.Id
set_option linter.unusedVariables false
set_option linter.unusedSimpArgs false

/-- how many of the first k requests are allowed in a state. -/
def cnt (s : Int) (k : Nat) : Int := ((List.range k).filter fun c : Nat => allowB s (c : Int)).length
set_option maxHeartbeats 3200000 in
theorem ways_0 (x : Int) (w : World) (hb : Go.bits .and .i64 x 7 = 0) : Calls Try.prog 10 #[.int .i64 x] w fun e w' => e = .returned (.bool true) ∧ Below w.heap.size w w' := by
  have HB := Below.refl w.heap.size w
  go_enter Try.func10, Try.ntmps10
  go_wp2_with (first | (go_at_call 31; refine (awake_c _).mono ?_; rintro e w' ⟨rfl, hb⟩; have HB := bl_step (by repeat (with_reducible first | exact HB | apply bl_alloc | apply bl_drew | apply bl_drewN | fail)) hb) | fail)
  go_loopw [4, 5] (fun n i wr => ∃ k : Nat, k ≤ 7 ∧ i = .int .i64 k ∧ n = .int .i64 (cnt 0 k) ∧ Below w.heap.size w wr) (fun _ i _ => 7 - (intOf i).toNat)
  case atStart => exact ⟨0, by omega, rfl, rfl, HB⟩
  case round =>
    clear HB
    obtain ⟨k, hk, rfl, rfl, HB⟩ := hrel
    have h7 : k = 0 ∨ k = 1 ∨ k = 2 ∨ k = 3 ∨ k = 4 ∨ k = 5 ∨ k = 6 ∨ k = 7 := by omega
    rcases h7 with rfl | rfl | rfl | rfl | rfl | rfl | rfl | rfl
    · have e1 : allowB 0 0 = false := by decide
      have e2 : allowE 0 0 = 0 := by decide
      have e3 : cnt 0 0 = 0 := by decide
      go_wp2_with (first | (go_at_call 29; refine (allowed_c _ _ _).mono ?_; rintro e w' ⟨rfl, hb⟩; have HB := bl_step (by repeat (with_reducible first | exact HB | apply bl_alloc | apply bl_drew | apply bl_drewN | fail)) hb) | (go_at_call 25; refine (num_c _ _).mono ?_; rintro e w' ⟨rfl, rfl⟩) | fail)
      go_roundw
      case rel => exact ⟨1, by omega, rfl, by rw [show cnt 0 1 = 0 by decide], HB⟩
      case measure => decide
    · have e1 : allowB 0 1 = true := by decide
      have e2 : allowE 0 1 = 0 := by decide
      have e3 : cnt 0 1 = 0 := by decide
      go_wp2_with (first | (go_at_call 29; refine (allowed_c _ _ _).mono ?_; rintro e w' ⟨rfl, hb⟩; have HB := bl_step (by repeat (with_reducible first | exact HB | apply bl_alloc | apply bl_drew | apply bl_drewN | fail)) hb) | (go_at_call 25; refine (num_c _ _).mono ?_; rintro e w' ⟨rfl, rfl⟩) | fail)
      go_roundw
      case rel => exact ⟨2, by omega, rfl, by rw [show cnt 0 2 = 1 by decide], HB⟩
      case measure => decide
    · have e1 : allowB 0 2 = true := by decide
      have e2 : allowE 0 2 = 0 := by decide
      have e3 : cnt 0 2 = 1 := by decide
      go_wp2_with (first | (go_at_call 29; refine (allowed_c _ _ _).mono ?_; rintro e w' ⟨rfl, hb⟩; have HB := bl_step (by repeat (with_reducible first | exact HB | apply bl_alloc | apply bl_drew | apply bl_drewN | fail)) hb) | (go_at_call 25; refine (num_c _ _).mono ?_; rintro e w' ⟨rfl, rfl⟩) | fail)
      go_roundw
      case rel => exact ⟨3, by omega, rfl, by rw [show cnt 0 3 = 2 by decide], HB⟩
      case measure => decide
    · have e1 : allowB 0 3 = true := by decide
      have e2 : allowE 0 3 = 0 := by decide
      have e3 : cnt 0 3 = 2 := by decide
      go_wp2_with (first | (go_at_call 29; refine (allowed_c _ _ _).mono ?_; rintro e w' ⟨rfl, hb⟩; have HB := bl_step (by repeat (with_reducible first | exact HB | apply bl_alloc | apply bl_drew | apply bl_drewN | fail)) hb) | (go_at_call 25; refine (num_c _ _).mono ?_; rintro e w' ⟨rfl, rfl⟩) | fail)
      go_roundw
      case rel => exact ⟨4, by omega, rfl, by rw [show cnt 0 4 = 3 by decide], HB⟩
      case measure => decide
    · have e1 : allowB 0 4 = false := by decide
      have e2 : allowE 0 4 = 0 := by decide
      have e3 : cnt 0 4 = 3 := by decide
      go_wp2_with (first | (go_at_call 29; refine (allowed_c _ _ _).mono ?_; rintro e w' ⟨rfl, hb⟩; have HB := bl_step (by repeat (with_reducible first | exact HB | apply bl_alloc | apply bl_drew | apply bl_drewN | fail)) hb) | (go_at_call 25; refine (num_c _ _).mono ?_; rintro e w' ⟨rfl, rfl⟩) | fail)
      go_roundw
      case rel => exact ⟨5, by omega, rfl, by rw [show cnt 0 5 = 3 by decide], HB⟩
      case measure => decide
    · have e1 : allowB 0 5 = true := by decide
      have e2 : allowE 0 5 = 0 := by decide
      have e3 : cnt 0 5 = 3 := by decide
      go_wp2_with (first | (go_at_call 29; refine (allowed_c _ _ _).mono ?_; rintro e w' ⟨rfl, hb⟩; have HB := bl_step (by repeat (with_reducible first | exact HB | apply bl_alloc | apply bl_drew | apply bl_drewN | fail)) hb) | (go_at_call 25; refine (num_c _ _).mono ?_; rintro e w' ⟨rfl, rfl⟩) | fail)
      go_roundw
      case rel => exact ⟨6, by omega, rfl, by rw [show cnt 0 6 = 4 by decide], HB⟩
      case measure => decide
    · have e1 : allowB 0 6 = true := by decide
      have e2 : allowE 0 6 = 0 := by decide
      have e3 : cnt 0 6 = 4 := by decide
      go_wp2_with (first | (go_at_call 29; refine (allowed_c _ _ _).mono ?_; rintro e w' ⟨rfl, hb⟩; have HB := bl_step (by repeat (with_reducible first | exact HB | apply bl_alloc | apply bl_drew | apply bl_drewN | fail)) hb) | (go_at_call 25; refine (num_c _ _).mono ?_; rintro e w' ⟨rfl, rfl⟩) | fail)
      go_roundw
      case rel => exact ⟨7, by omega, rfl, by rw [show cnt 0 7 = 5 by decide], HB⟩
      case measure => decide
    · have e3 : cnt 0 7 = 5 := by decide
      go_wp2
      go_ret
      exact ⟨rfl, HB⟩
set_option maxHeartbeats 3200000 in
theorem ways_1 (x : Int) (w : World) (hb : Go.bits .and .i64 x 7 = 1) : Calls Try.prog 10 #[.int .i64 x] w fun e w' => e = .returned (.bool true) ∧ Below w.heap.size w w' := by
  have HB := Below.refl w.heap.size w
  go_enter Try.func10, Try.ntmps10
  go_wp2_with (first | (go_at_call 31; refine (awake_c _).mono ?_; rintro e w' ⟨rfl, hb⟩; have HB := bl_step (by repeat (with_reducible first | exact HB | apply bl_alloc | apply bl_drew | apply bl_drewN | fail)) hb) | fail)
  go_loopw [4, 5] (fun n i wr => ∃ k : Nat, k ≤ 7 ∧ i = .int .i64 k ∧ n = .int .i64 (cnt 1 k) ∧ Below w.heap.size w wr) (fun _ i _ => 7 - (intOf i).toNat)
  case atStart => exact ⟨0, by omega, rfl, rfl, HB⟩
  case round =>
    clear HB
    obtain ⟨k, hk, rfl, rfl, HB⟩ := hrel
    have h7 : k = 0 ∨ k = 1 ∨ k = 2 ∨ k = 3 ∨ k = 4 ∨ k = 5 ∨ k = 6 ∨ k = 7 := by omega
    rcases h7 with rfl | rfl | rfl | rfl | rfl | rfl | rfl | rfl
    · have e1 : allowB 1 0 = false := by decide
      have e2 : allowE 1 0 = 0 := by decide
      have e3 : cnt 1 0 = 0 := by decide
      go_wp2_with (first | (go_at_call 29; refine (allowed_c _ _ _).mono ?_; rintro e w' ⟨rfl, hb⟩; have HB := bl_step (by repeat (with_reducible first | exact HB | apply bl_alloc | apply bl_drew | apply bl_drewN | fail)) hb) | (go_at_call 25; refine (num_c _ _).mono ?_; rintro e w' ⟨rfl, rfl⟩) | fail)
      go_roundw
      case rel => exact ⟨1, by omega, rfl, by rw [show cnt 1 1 = 0 by decide], HB⟩
      case measure => decide
    · have e1 : allowB 1 1 = false := by decide
      have e2 : allowE 1 1 = 0 := by decide
      have e3 : cnt 1 1 = 0 := by decide
      go_wp2_with (first | (go_at_call 29; refine (allowed_c _ _ _).mono ?_; rintro e w' ⟨rfl, hb⟩; have HB := bl_step (by repeat (with_reducible first | exact HB | apply bl_alloc | apply bl_drew | apply bl_drewN | fail)) hb) | (go_at_call 25; refine (num_c _ _).mono ?_; rintro e w' ⟨rfl, rfl⟩) | fail)
      go_roundw
      case rel => exact ⟨2, by omega, rfl, by rw [show cnt 1 2 = 0 by decide], HB⟩
      case measure => decide
    · have e1 : allowB 1 2 = false := by decide
      have e2 : allowE 1 2 = 0 := by decide
      have e3 : cnt 1 2 = 0 := by decide
      go_wp2_with (first | (go_at_call 29; refine (allowed_c _ _ _).mono ?_; rintro e w' ⟨rfl, hb⟩; have HB := bl_step (by repeat (with_reducible first | exact HB | apply bl_alloc | apply bl_drew | apply bl_drewN | fail)) hb) | (go_at_call 25; refine (num_c _ _).mono ?_; rintro e w' ⟨rfl, rfl⟩) | fail)
      go_roundw
      case rel => exact ⟨3, by omega, rfl, by rw [show cnt 1 3 = 0 by decide], HB⟩
      case measure => decide
    · have e1 : allowB 1 3 = true := by decide
      have e2 : allowE 1 3 = 0 := by decide
      have e3 : cnt 1 3 = 0 := by decide
      go_wp2_with (first | (go_at_call 29; refine (allowed_c _ _ _).mono ?_; rintro e w' ⟨rfl, hb⟩; have HB := bl_step (by repeat (with_reducible first | exact HB | apply bl_alloc | apply bl_drew | apply bl_drewN | fail)) hb) | (go_at_call 25; refine (num_c _ _).mono ?_; rintro e w' ⟨rfl, rfl⟩) | fail)
      go_roundw
      case rel => exact ⟨4, by omega, rfl, by rw [show cnt 1 4 = 1 by decide], HB⟩
      case measure => decide
    · have e1 : allowB 1 4 = false := by decide
      have e2 : allowE 1 4 = 0 := by decide
      have e3 : cnt 1 4 = 1 := by decide
      go_wp2_with (first | (go_at_call 29; refine (allowed_c _ _ _).mono ?_; rintro e w' ⟨rfl, hb⟩; have HB := bl_step (by repeat (with_reducible first | exact HB | apply bl_alloc | apply bl_drew | apply bl_drewN | fail)) hb) | (go_at_call 25; refine (num_c _ _).mono ?_; rintro e w' ⟨rfl, rfl⟩) | fail)
      go_roundw
      case rel => exact ⟨5, by omega, rfl, by rw [show cnt 1 5 = 1 by decide], HB⟩
      case measure => decide
    · have e1 : allowB 1 5 = true := by decide
      have e2 : allowE 1 5 = 0 := by decide
      have e3 : cnt 1 5 = 1 := by decide
      go_wp2_with (first | (go_at_call 29; refine (allowed_c _ _ _).mono ?_; rintro e w' ⟨rfl, hb⟩; have HB := bl_step (by repeat (with_reducible first | exact HB | apply bl_alloc | apply bl_drew | apply bl_drewN | fail)) hb) | (go_at_call 25; refine (num_c _ _).mono ?_; rintro e w' ⟨rfl, rfl⟩) | fail)
      go_roundw
      case rel => exact ⟨6, by omega, rfl, by rw [show cnt 1 6 = 2 by decide], HB⟩
      case measure => decide
    · have e1 : allowB 1 6 = false := by decide
      have e2 : allowE 1 6 = 0 := by decide
      have e3 : cnt 1 6 = 2 := by decide
      go_wp2_with (first | (go_at_call 29; refine (allowed_c _ _ _).mono ?_; rintro e w' ⟨rfl, hb⟩; have HB := bl_step (by repeat (with_reducible first | exact HB | apply bl_alloc | apply bl_drew | apply bl_drewN | fail)) hb) | (go_at_call 25; refine (num_c _ _).mono ?_; rintro e w' ⟨rfl, rfl⟩) | fail)
      go_roundw
      case rel => exact ⟨7, by omega, rfl, by rw [show cnt 1 7 = 2 by decide], HB⟩
      case measure => decide
    · have e3 : cnt 1 7 = 2 := by decide
      go_wp2
      go_ret
      exact ⟨rfl, HB⟩
set_option maxHeartbeats 3200000 in
theorem ways_2 (x : Int) (w : World) (hb : Go.bits .and .i64 x 7 = 2) : Calls Try.prog 10 #[.int .i64 x] w fun e w' => e = .returned (.bool true) ∧ Below w.heap.size w w' := by
  have HB := Below.refl w.heap.size w
  go_enter Try.func10, Try.ntmps10
  go_wp2_with (first | (go_at_call 31; refine (awake_c _).mono ?_; rintro e w' ⟨rfl, hb⟩; have HB := bl_step (by repeat (with_reducible first | exact HB | apply bl_alloc | apply bl_drew | apply bl_drewN | fail)) hb) | fail)
  go_loopw [4, 5] (fun n i wr => ∃ k : Nat, k ≤ 7 ∧ i = .int .i64 k ∧ n = .int .i64 (cnt 2 k) ∧ Below w.heap.size w wr) (fun _ i _ => 7 - (intOf i).toNat)
  case atStart => exact ⟨0, by omega, rfl, rfl, HB⟩
  case round =>
    clear HB
    obtain ⟨k, hk, rfl, rfl, HB⟩ := hrel
    have h7 : k = 0 ∨ k = 1 ∨ k = 2 ∨ k = 3 ∨ k = 4 ∨ k = 5 ∨ k = 6 ∨ k = 7 := by omega
    rcases h7 with rfl | rfl | rfl | rfl | rfl | rfl | rfl | rfl
    · have e1 : allowB 2 0 = false := by decide
      have e2 : allowE 2 0 = 0 := by decide
      have e3 : cnt 2 0 = 0 := by decide
      go_wp2_with (first | (go_at_call 29; refine (allowed_c _ _ _).mono ?_; rintro e w' ⟨rfl, hb⟩; have HB := bl_step (by repeat (with_reducible first | exact HB | apply bl_alloc | apply bl_drew | apply bl_drewN | fail)) hb) | (go_at_call 25; refine (num_c _ _).mono ?_; rintro e w' ⟨rfl, rfl⟩) | fail)
      go_roundw
      case rel => exact ⟨1, by omega, rfl, by rw [show cnt 2 1 = 0 by decide], HB⟩
      case measure => decide
    · have e1 : allowB 2 1 = false := by decide
      have e2 : allowE 2 1 = 0 := by decide
      have e3 : cnt 2 1 = 0 := by decide
      go_wp2_with (first | (go_at_call 29; refine (allowed_c _ _ _).mono ?_; rintro e w' ⟨rfl, hb⟩; have HB := bl_step (by repeat (with_reducible first | exact HB | apply bl_alloc | apply bl_drew | apply bl_drewN | fail)) hb) | (go_at_call 25; refine (num_c _ _).mono ?_; rintro e w' ⟨rfl, rfl⟩) | fail)
      go_roundw
      case rel => exact ⟨2, by omega, rfl, by rw [show cnt 2 2 = 0 by decide], HB⟩
      case measure => decide
    · have e1 : allowB 2 2 = false := by decide
      have e2 : allowE 2 2 = 0 := by decide
      have e3 : cnt 2 2 = 0 := by decide
      go_wp2_with (first | (go_at_call 29; refine (allowed_c _ _ _).mono ?_; rintro e w' ⟨rfl, hb⟩; have HB := bl_step (by repeat (with_reducible first | exact HB | apply bl_alloc | apply bl_drew | apply bl_drewN | fail)) hb) | (go_at_call 25; refine (num_c _ _).mono ?_; rintro e w' ⟨rfl, rfl⟩) | fail)
      go_roundw
      case rel => exact ⟨3, by omega, rfl, by rw [show cnt 2 3 = 0 by decide], HB⟩
      case measure => decide
    · have e1 : allowB 2 3 = true := by decide
      have e2 : allowE 2 3 = 0 := by decide
      have e3 : cnt 2 3 = 0 := by decide
      go_wp2_with (first | (go_at_call 29; refine (allowed_c _ _ _).mono ?_; rintro e w' ⟨rfl, hb⟩; have HB := bl_step (by repeat (with_reducible first | exact HB | apply bl_alloc | apply bl_drew | apply bl_drewN | fail)) hb) | (go_at_call 25; refine (num_c _ _).mono ?_; rintro e w' ⟨rfl, rfl⟩) | fail)
      go_roundw
      case rel => exact ⟨4, by omega, rfl, by rw [show cnt 2 4 = 1 by decide], HB⟩
      case measure => decide
    · have e1 : allowB 2 4 = false := by decide
      have e2 : allowE 2 4 = 0 := by decide
      have e3 : cnt 2 4 = 1 := by decide
      go_wp2_with (first | (go_at_call 29; refine (allowed_c _ _ _).mono ?_; rintro e w' ⟨rfl, hb⟩; have HB := bl_step (by repeat (with_reducible first | exact HB | apply bl_alloc | apply bl_drew | apply bl_drewN | fail)) hb) | (go_at_call 25; refine (num_c _ _).mono ?_; rintro e w' ⟨rfl, rfl⟩) | fail)
      go_roundw
      case rel => exact ⟨5, by omega, rfl, by rw [show cnt 2 5 = 1 by decide], HB⟩
      case measure => decide
    · have e1 : allowB 2 5 = true := by decide
      have e2 : allowE 2 5 = 0 := by decide
      have e3 : cnt 2 5 = 1 := by decide
      go_wp2_with (first | (go_at_call 29; refine (allowed_c _ _ _).mono ?_; rintro e w' ⟨rfl, hb⟩; have HB := bl_step (by repeat (with_reducible first | exact HB | apply bl_alloc | apply bl_drew | apply bl_drewN | fail)) hb) | (go_at_call 25; refine (num_c _ _).mono ?_; rintro e w' ⟨rfl, rfl⟩) | fail)
      go_roundw
      case rel => exact ⟨6, by omega, rfl, by rw [show cnt 2 6 = 2 by decide], HB⟩
      case measure => decide
    · have e1 : allowB 2 6 = false := by decide
      have e2 : allowE 2 6 = 0 := by decide
      have e3 : cnt 2 6 = 2 := by decide
      go_wp2_with (first | (go_at_call 29; refine (allowed_c _ _ _).mono ?_; rintro e w' ⟨rfl, hb⟩; have HB := bl_step (by repeat (with_reducible first | exact HB | apply bl_alloc | apply bl_drew | apply bl_drewN | fail)) hb) | (go_at_call 25; refine (num_c _ _).mono ?_; rintro e w' ⟨rfl, rfl⟩) | fail)
      go_roundw
      case rel => exact ⟨7, by omega, rfl, by rw [show cnt 2 7 = 2 by decide], HB⟩
      case measure => decide
    · have e3 : cnt 2 7 = 2 := by decide
      go_wp2
      go_ret
      exact ⟨rfl, HB⟩
set_option maxHeartbeats 3200000 in
theorem ways_3 (x : Int) (w : World) (hb : Go.bits .and .i64 x 7 = 3) : Calls Try.prog 10 #[.int .i64 x] w fun e w' => e = .returned (.bool true) ∧ Below w.heap.size w w' := by
  have HB := Below.refl w.heap.size w
  go_enter Try.func10, Try.ntmps10
  go_wp2_with (first | (go_at_call 31; refine (awake_c _).mono ?_; rintro e w' ⟨rfl, hb⟩; have HB := bl_step (by repeat (with_reducible first | exact HB | apply bl_alloc | apply bl_drew | apply bl_drewN | fail)) hb) | fail)
  go_loopw [4, 5] (fun n i wr => ∃ k : Nat, k ≤ 7 ∧ i = .int .i64 k ∧ n = .int .i64 (cnt 3 k) ∧ Below w.heap.size w wr) (fun _ i _ => 7 - (intOf i).toNat)
  case atStart => exact ⟨0, by omega, rfl, rfl, HB⟩
  case round =>
    clear HB
    obtain ⟨k, hk, rfl, rfl, HB⟩ := hrel
    have h7 : k = 0 ∨ k = 1 ∨ k = 2 ∨ k = 3 ∨ k = 4 ∨ k = 5 ∨ k = 6 ∨ k = 7 := by omega
    rcases h7 with rfl | rfl | rfl | rfl | rfl | rfl | rfl | rfl
    · have e1 : allowB 3 0 = false := by decide
      have e2 : allowE 3 0 = 0 := by decide
      have e3 : cnt 3 0 = 0 := by decide
      go_wp2_with (first | (go_at_call 29; refine (allowed_c _ _ _).mono ?_; rintro e w' ⟨rfl, hb⟩; have HB := bl_step (by repeat (with_reducible first | exact HB | apply bl_alloc | apply bl_drew | apply bl_drewN | fail)) hb) | (go_at_call 25; refine (num_c _ _).mono ?_; rintro e w' ⟨rfl, rfl⟩) | fail)
      go_roundw
      case rel => exact ⟨1, by omega, rfl, by rw [show cnt 3 1 = 0 by decide], HB⟩
      case measure => decide
    · have e1 : allowB 3 1 = true := by decide
      have e2 : allowE 3 1 = 0 := by decide
      have e3 : cnt 3 1 = 0 := by decide
      go_wp2_with (first | (go_at_call 29; refine (allowed_c _ _ _).mono ?_; rintro e w' ⟨rfl, hb⟩; have HB := bl_step (by repeat (with_reducible first | exact HB | apply bl_alloc | apply bl_drew | apply bl_drewN | fail)) hb) | (go_at_call 25; refine (num_c _ _).mono ?_; rintro e w' ⟨rfl, rfl⟩) | fail)
      go_roundw
      case rel => exact ⟨2, by omega, rfl, by rw [show cnt 3 2 = 1 by decide], HB⟩
      case measure => decide
    · have e1 : allowB 3 2 = false := by decide
      have e2 : allowE 3 2 = 0 := by decide
      have e3 : cnt 3 2 = 1 := by decide
      go_wp2_with (first | (go_at_call 29; refine (allowed_c _ _ _).mono ?_; rintro e w' ⟨rfl, hb⟩; have HB := bl_step (by repeat (with_reducible first | exact HB | apply bl_alloc | apply bl_drew | apply bl_drewN | fail)) hb) | (go_at_call 25; refine (num_c _ _).mono ?_; rintro e w' ⟨rfl, rfl⟩) | fail)
      go_roundw
      case rel => exact ⟨3, by omega, rfl, by rw [show cnt 3 3 = 1 by decide], HB⟩
      case measure => decide
    · have e1 : allowB 3 3 = true := by decide
      have e2 : allowE 3 3 = 0 := by decide
      have e3 : cnt 3 3 = 1 := by decide
      go_wp2_with (first | (go_at_call 29; refine (allowed_c _ _ _).mono ?_; rintro e w' ⟨rfl, hb⟩; have HB := bl_step (by repeat (with_reducible first | exact HB | apply bl_alloc | apply bl_drew | apply bl_drewN | fail)) hb) | (go_at_call 25; refine (num_c _ _).mono ?_; rintro e w' ⟨rfl, rfl⟩) | fail)
      go_roundw
      case rel => exact ⟨4, by omega, rfl, by rw [show cnt 3 4 = 2 by decide], HB⟩
      case measure => decide
    · have e1 : allowB 3 4 = false := by decide
      have e2 : allowE 3 4 = 0 := by decide
      have e3 : cnt 3 4 = 2 := by decide
      go_wp2_with (first | (go_at_call 29; refine (allowed_c _ _ _).mono ?_; rintro e w' ⟨rfl, hb⟩; have HB := bl_step (by repeat (with_reducible first | exact HB | apply bl_alloc | apply bl_drew | apply bl_drewN | fail)) hb) | (go_at_call 25; refine (num_c _ _).mono ?_; rintro e w' ⟨rfl, rfl⟩) | fail)
      go_roundw
      case rel => exact ⟨5, by omega, rfl, by rw [show cnt 3 5 = 2 by decide], HB⟩
      case measure => decide
    · have e1 : allowB 3 5 = true := by decide
      have e2 : allowE 3 5 = 0 := by decide
      have e3 : cnt 3 5 = 2 := by decide
      go_wp2_with (first | (go_at_call 29; refine (allowed_c _ _ _).mono ?_; rintro e w' ⟨rfl, hb⟩; have HB := bl_step (by repeat (with_reducible first | exact HB | apply bl_alloc | apply bl_drew | apply bl_drewN | fail)) hb) | (go_at_call 25; refine (num_c _ _).mono ?_; rintro e w' ⟨rfl, rfl⟩) | fail)
      go_roundw
      case rel => exact ⟨6, by omega, rfl, by rw [show cnt 3 6 = 3 by decide], HB⟩
      case measure => decide
    · have e1 : allowB 3 6 = true := by decide
      have e2 : allowE 3 6 = 0 := by decide
      have e3 : cnt 3 6 = 3 := by decide
      go_wp2_with (first | (go_at_call 29; refine (allowed_c _ _ _).mono ?_; rintro e w' ⟨rfl, hb⟩; have HB := bl_step (by repeat (with_reducible first | exact HB | apply bl_alloc | apply bl_drew | apply bl_drewN | fail)) hb) | (go_at_call 25; refine (num_c _ _).mono ?_; rintro e w' ⟨rfl, rfl⟩) | fail)
      go_roundw
      case rel => exact ⟨7, by omega, rfl, by rw [show cnt 3 7 = 4 by decide], HB⟩
      case measure => decide
    · have e3 : cnt 3 7 = 4 := by decide
      go_wp2
      go_ret
      exact ⟨rfl, HB⟩
set_option maxHeartbeats 3200000 in
theorem ways_4 (x : Int) (w : World) (hb : Go.bits .and .i64 x 7 = 4) : Calls Try.prog 10 #[.int .i64 x] w fun e w' => e = .returned (.bool true) ∧ Below w.heap.size w w' := by
  have HB := Below.refl w.heap.size w
  go_enter Try.func10, Try.ntmps10
  go_wp2_with (first | (go_at_call 31; refine (awake_c _).mono ?_; rintro e w' ⟨rfl, hb⟩; have HB := bl_step (by repeat (with_reducible first | exact HB | apply bl_alloc | apply bl_drew | apply bl_drewN | fail)) hb) | fail)
  go_loopw [4, 5] (fun n i wr => ∃ k : Nat, k ≤ 7 ∧ i = .int .i64 k ∧ n = .int .i64 (cnt 4 k) ∧ Below w.heap.size w wr) (fun _ i _ => 7 - (intOf i).toNat)
  case atStart => exact ⟨0, by omega, rfl, rfl, HB⟩
  case round =>
    clear HB
    obtain ⟨k, hk, rfl, rfl, HB⟩ := hrel
    have h7 : k = 0 ∨ k = 1 ∨ k = 2 ∨ k = 3 ∨ k = 4 ∨ k = 5 ∨ k = 6 ∨ k = 7 := by omega
    rcases h7 with rfl | rfl | rfl | rfl | rfl | rfl | rfl | rfl
    · have e1 : allowB 4 0 = false := by decide
      have e2 : allowE 4 0 = 0 := by decide
      have e3 : cnt 4 0 = 0 := by decide
      go_wp2_with (first | (go_at_call 29; refine (allowed_c _ _ _).mono ?_; rintro e w' ⟨rfl, hb⟩; have HB := bl_step (by repeat (with_reducible first | exact HB | apply bl_alloc | apply bl_drew | apply bl_drewN | fail)) hb) | (go_at_call 25; refine (num_c _ _).mono ?_; rintro e w' ⟨rfl, rfl⟩) | fail)
      go_roundw
      case rel => exact ⟨1, by omega, rfl, by rw [show cnt 4 1 = 0 by decide], HB⟩
      case measure => decide
    · have e1 : allowB 4 1 = false := by decide
      have e2 : allowE 4 1 = 0 := by decide
      have e3 : cnt 4 1 = 0 := by decide
      go_wp2_with (first | (go_at_call 29; refine (allowed_c _ _ _).mono ?_; rintro e w' ⟨rfl, hb⟩; have HB := bl_step (by repeat (with_reducible first | exact HB | apply bl_alloc | apply bl_drew | apply bl_drewN | fail)) hb) | (go_at_call 25; refine (num_c _ _).mono ?_; rintro e w' ⟨rfl, rfl⟩) | fail)
      go_roundw
      case rel => exact ⟨2, by omega, rfl, by rw [show cnt 4 2 = 0 by decide], HB⟩
      case measure => decide
    · have e1 : allowB 4 2 = false := by decide
      have e2 : allowE 4 2 = 0 := by decide
      have e3 : cnt 4 2 = 0 := by decide
      go_wp2_with (first | (go_at_call 29; refine (allowed_c _ _ _).mono ?_; rintro e w' ⟨rfl, hb⟩; have HB := bl_step (by repeat (with_reducible first | exact HB | apply bl_alloc | apply bl_drew | apply bl_drewN | fail)) hb) | (go_at_call 25; refine (num_c _ _).mono ?_; rintro e w' ⟨rfl, rfl⟩) | fail)
      go_roundw
      case rel => exact ⟨3, by omega, rfl, by rw [show cnt 4 3 = 0 by decide], HB⟩
      case measure => decide
    · have e1 : allowB 4 3 = true := by decide
      have e2 : allowE 4 3 = 0 := by decide
      have e3 : cnt 4 3 = 0 := by decide
      go_wp2_with (first | (go_at_call 29; refine (allowed_c _ _ _).mono ?_; rintro e w' ⟨rfl, hb⟩; have HB := bl_step (by repeat (with_reducible first | exact HB | apply bl_alloc | apply bl_drew | apply bl_drewN | fail)) hb) | (go_at_call 25; refine (num_c _ _).mono ?_; rintro e w' ⟨rfl, rfl⟩) | fail)
      go_roundw
      case rel => exact ⟨4, by omega, rfl, by rw [show cnt 4 4 = 1 by decide], HB⟩
      case measure => decide
    · have e1 : allowB 4 4 = false := by decide
      have e2 : allowE 4 4 = 0 := by decide
      have e3 : cnt 4 4 = 1 := by decide
      go_wp2_with (first | (go_at_call 29; refine (allowed_c _ _ _).mono ?_; rintro e w' ⟨rfl, hb⟩; have HB := bl_step (by repeat (with_reducible first | exact HB | apply bl_alloc | apply bl_drew | apply bl_drewN | fail)) hb) | (go_at_call 25; refine (num_c _ _).mono ?_; rintro e w' ⟨rfl, rfl⟩) | fail)
      go_roundw
      case rel => exact ⟨5, by omega, rfl, by rw [show cnt 4 5 = 1 by decide], HB⟩
      case measure => decide
    · have e1 : allowB 4 5 = true := by decide
      have e2 : allowE 4 5 = 0 := by decide
      have e3 : cnt 4 5 = 1 := by decide
      go_wp2_with (first | (go_at_call 29; refine (allowed_c _ _ _).mono ?_; rintro e w' ⟨rfl, hb⟩; have HB := bl_step (by repeat (with_reducible first | exact HB | apply bl_alloc | apply bl_drew | apply bl_drewN | fail)) hb) | (go_at_call 25; refine (num_c _ _).mono ?_; rintro e w' ⟨rfl, rfl⟩) | fail)
      go_roundw
      case rel => exact ⟨6, by omega, rfl, by rw [show cnt 4 6 = 2 by decide], HB⟩
      case measure => decide
    · have e1 : allowB 4 6 = false := by decide
      have e2 : allowE 4 6 = 0 := by decide
      have e3 : cnt 4 6 = 2 := by decide
      go_wp2_with (first | (go_at_call 29; refine (allowed_c _ _ _).mono ?_; rintro e w' ⟨rfl, hb⟩; have HB := bl_step (by repeat (with_reducible first | exact HB | apply bl_alloc | apply bl_drew | apply bl_drewN | fail)) hb) | (go_at_call 25; refine (num_c _ _).mono ?_; rintro e w' ⟨rfl, rfl⟩) | fail)
      go_roundw
      case rel => exact ⟨7, by omega, rfl, by rw [show cnt 4 7 = 2 by decide], HB⟩
      case measure => decide
    · have e3 : cnt 4 7 = 2 := by decide
      go_wp2
      go_ret
      exact ⟨rfl, HB⟩
set_option maxHeartbeats 3200000 in
theorem ways_5 (x : Int) (w : World) (hb : Go.bits .and .i64 x 7 = 5) : Calls Try.prog 10 #[.int .i64 x] w fun e w' => e = .returned (.bool true) ∧ Below w.heap.size w w' := by
  have HB := Below.refl w.heap.size w
  go_enter Try.func10, Try.ntmps10
  go_wp2_with (first | (go_at_call 31; refine (awake_c _).mono ?_; rintro e w' ⟨rfl, hb⟩; have HB := bl_step (by repeat (with_reducible first | exact HB | apply bl_alloc | apply bl_drew | apply bl_drewN | fail)) hb) | fail)
  go_loopw [4, 5] (fun n i wr => ∃ k : Nat, k ≤ 7 ∧ i = .int .i64 k ∧ n = .int .i64 (cnt 5 k) ∧ Below w.heap.size w wr) (fun _ i _ => 7 - (intOf i).toNat)
  case atStart => exact ⟨0, by omega, rfl, rfl, HB⟩
  case round =>
    clear HB
    obtain ⟨k, hk, rfl, rfl, HB⟩ := hrel
    have h7 : k = 0 ∨ k = 1 ∨ k = 2 ∨ k = 3 ∨ k = 4 ∨ k = 5 ∨ k = 6 ∨ k = 7 := by omega
    rcases h7 with rfl | rfl | rfl | rfl | rfl | rfl | rfl | rfl
    · have e1 : allowB 5 0 = false := by decide
      have e2 : allowE 5 0 = 0 := by decide
      have e3 : cnt 5 0 = 0 := by decide
      go_wp2_with (first | (go_at_call 29; refine (allowed_c _ _ _).mono ?_; rintro e w' ⟨rfl, hb⟩; have HB := bl_step (by repeat (with_reducible first | exact HB | apply bl_alloc | apply bl_drew | apply bl_drewN | fail)) hb) | (go_at_call 25; refine (num_c _ _).mono ?_; rintro e w' ⟨rfl, rfl⟩) | fail)
      go_roundw
      case rel => exact ⟨1, by omega, rfl, by rw [show cnt 5 1 = 0 by decide], HB⟩
      case measure => decide
    · have e1 : allowB 5 1 = false := by decide
      have e2 : allowE 5 1 = 0 := by decide
      have e3 : cnt 5 1 = 0 := by decide
      go_wp2_with (first | (go_at_call 29; refine (allowed_c _ _ _).mono ?_; rintro e w' ⟨rfl, hb⟩; have HB := bl_step (by repeat (with_reducible first | exact HB | apply bl_alloc | apply bl_drew | apply bl_drewN | fail)) hb) | (go_at_call 25; refine (num_c _ _).mono ?_; rintro e w' ⟨rfl, rfl⟩) | fail)
      go_roundw
      case rel => exact ⟨2, by omega, rfl, by rw [show cnt 5 2 = 0 by decide], HB⟩
      case measure => decide
    · have e1 : allowB 5 2 = false := by decide
      have e2 : allowE 5 2 = 0 := by decide
      have e3 : cnt 5 2 = 0 := by decide
      go_wp2_with (first | (go_at_call 29; refine (allowed_c _ _ _).mono ?_; rintro e w' ⟨rfl, hb⟩; have HB := bl_step (by repeat (with_reducible first | exact HB | apply bl_alloc | apply bl_drew | apply bl_drewN | fail)) hb) | (go_at_call 25; refine (num_c _ _).mono ?_; rintro e w' ⟨rfl, rfl⟩) | fail)
      go_roundw
      case rel => exact ⟨3, by omega, rfl, by rw [show cnt 5 3 = 0 by decide], HB⟩
      case measure => decide
    · have e1 : allowB 5 3 = true := by decide
      have e2 : allowE 5 3 = 0 := by decide
      have e3 : cnt 5 3 = 0 := by decide
      go_wp2_with (first | (go_at_call 29; refine (allowed_c _ _ _).mono ?_; rintro e w' ⟨rfl, hb⟩; have HB := bl_step (by repeat (with_reducible first | exact HB | apply bl_alloc | apply bl_drew | apply bl_drewN | fail)) hb) | (go_at_call 25; refine (num_c _ _).mono ?_; rintro e w' ⟨rfl, rfl⟩) | fail)
      go_roundw
      case rel => exact ⟨4, by omega, rfl, by rw [show cnt 5 4 = 1 by decide], HB⟩
      case measure => decide
    · have e1 : allowB 5 4 = false := by decide
      have e2 : allowE 5 4 = 0 := by decide
      have e3 : cnt 5 4 = 1 := by decide
      go_wp2_with (first | (go_at_call 29; refine (allowed_c _ _ _).mono ?_; rintro e w' ⟨rfl, hb⟩; have HB := bl_step (by repeat (with_reducible first | exact HB | apply bl_alloc | apply bl_drew | apply bl_drewN | fail)) hb) | (go_at_call 25; refine (num_c _ _).mono ?_; rintro e w' ⟨rfl, rfl⟩) | fail)
      go_roundw
      case rel => exact ⟨5, by omega, rfl, by rw [show cnt 5 5 = 1 by decide], HB⟩
      case measure => decide
    · have e1 : allowB 5 5 = true := by decide
      have e2 : allowE 5 5 = 0 := by decide
      have e3 : cnt 5 5 = 1 := by decide
      go_wp2_with (first | (go_at_call 29; refine (allowed_c _ _ _).mono ?_; rintro e w' ⟨rfl, hb⟩; have HB := bl_step (by repeat (with_reducible first | exact HB | apply bl_alloc | apply bl_drew | apply bl_drewN | fail)) hb) | (go_at_call 25; refine (num_c _ _).mono ?_; rintro e w' ⟨rfl, rfl⟩) | fail)
      go_roundw
      case rel => exact ⟨6, by omega, rfl, by rw [show cnt 5 6 = 2 by decide], HB⟩
      case measure => decide
    · have e1 : allowB 5 6 = false := by decide
      have e2 : allowE 5 6 = 0 := by decide
      have e3 : cnt 5 6 = 2 := by decide
      go_wp2_with (first | (go_at_call 29; refine (allowed_c _ _ _).mono ?_; rintro e w' ⟨rfl, hb⟩; have HB := bl_step (by repeat (with_reducible first | exact HB | apply bl_alloc | apply bl_drew | apply bl_drewN | fail)) hb) | (go_at_call 25; refine (num_c _ _).mono ?_; rintro e w' ⟨rfl, rfl⟩) | fail)
      go_roundw
      case rel => exact ⟨7, by omega, rfl, by rw [show cnt 5 7 = 2 by decide], HB⟩
      case measure => decide
    · have e3 : cnt 5 7 = 2 := by decide
      go_wp2
      go_ret
      exact ⟨rfl, HB⟩
set_option maxHeartbeats 3200000 in
theorem ways_6 (x : Int) (w : World) (hb : Go.bits .and .i64 x 7 = 6) : Calls Try.prog 10 #[.int .i64 x] w fun e w' => e = .returned (.bool true) ∧ Below w.heap.size w w' := by
  have HB := Below.refl w.heap.size w
  go_enter Try.func10, Try.ntmps10
  go_wp2_with (first | (go_at_call 31; refine (awake_c _).mono ?_; rintro e w' ⟨rfl, hb⟩; have HB := bl_step (by repeat (with_reducible first | exact HB | apply bl_alloc | apply bl_drew | apply bl_drewN | fail)) hb) | fail)
  go_loopw [4, 5] (fun n i wr => ∃ k : Nat, k ≤ 7 ∧ i = .int .i64 k ∧ n = .int .i64 (cnt 6 k) ∧ Below w.heap.size w wr) (fun _ i _ => 7 - (intOf i).toNat)
  case atStart => exact ⟨0, by omega, rfl, rfl, HB⟩
  case round =>
    clear HB
    obtain ⟨k, hk, rfl, rfl, HB⟩ := hrel
    have h7 : k = 0 ∨ k = 1 ∨ k = 2 ∨ k = 3 ∨ k = 4 ∨ k = 5 ∨ k = 6 ∨ k = 7 := by omega
    rcases h7 with rfl | rfl | rfl | rfl | rfl | rfl | rfl | rfl
    · have e1 : allowB 6 0 = false := by decide
      have e2 : allowE 6 0 = 0 := by decide
      have e3 : cnt 6 0 = 0 := by decide
      go_wp2_with (first | (go_at_call 29; refine (allowed_c _ _ _).mono ?_; rintro e w' ⟨rfl, hb⟩; have HB := bl_step (by repeat (with_reducible first | exact HB | apply bl_alloc | apply bl_drew | apply bl_drewN | fail)) hb) | (go_at_call 25; refine (num_c _ _).mono ?_; rintro e w' ⟨rfl, rfl⟩) | fail)
      go_roundw
      case rel => exact ⟨1, by omega, rfl, by rw [show cnt 6 1 = 0 by decide], HB⟩
      case measure => decide
    · have e1 : allowB 6 1 = false := by decide
      have e2 : allowE 6 1 = 0 := by decide
      have e3 : cnt 6 1 = 0 := by decide
      go_wp2_with (first | (go_at_call 29; refine (allowed_c _ _ _).mono ?_; rintro e w' ⟨rfl, hb⟩; have HB := bl_step (by repeat (with_reducible first | exact HB | apply bl_alloc | apply bl_drew | apply bl_drewN | fail)) hb) | (go_at_call 25; refine (num_c _ _).mono ?_; rintro e w' ⟨rfl, rfl⟩) | fail)
      go_roundw
      case rel => exact ⟨2, by omega, rfl, by rw [show cnt 6 2 = 0 by decide], HB⟩
      case measure => decide
    · have e1 : allowB 6 2 = true := by decide
      have e2 : allowE 6 2 = 0 := by decide
      have e3 : cnt 6 2 = 0 := by decide
      go_wp2_with (first | (go_at_call 29; refine (allowed_c _ _ _).mono ?_; rintro e w' ⟨rfl, hb⟩; have HB := bl_step (by repeat (with_reducible first | exact HB | apply bl_alloc | apply bl_drew | apply bl_drewN | fail)) hb) | (go_at_call 25; refine (num_c _ _).mono ?_; rintro e w' ⟨rfl, rfl⟩) | fail)
      go_roundw
      case rel => exact ⟨3, by omega, rfl, by rw [show cnt 6 3 = 1 by decide], HB⟩
      case measure => decide
    · have e1 : allowB 6 3 = true := by decide
      have e2 : allowE 6 3 = 0 := by decide
      have e3 : cnt 6 3 = 1 := by decide
      go_wp2_with (first | (go_at_call 29; refine (allowed_c _ _ _).mono ?_; rintro e w' ⟨rfl, hb⟩; have HB := bl_step (by repeat (with_reducible first | exact HB | apply bl_alloc | apply bl_drew | apply bl_drewN | fail)) hb) | (go_at_call 25; refine (num_c _ _).mono ?_; rintro e w' ⟨rfl, rfl⟩) | fail)
      go_roundw
      case rel => exact ⟨4, by omega, rfl, by rw [show cnt 6 4 = 2 by decide], HB⟩
      case measure => decide
    · have e1 : allowB 6 4 = false := by decide
      have e2 : allowE 6 4 = 0 := by decide
      have e3 : cnt 6 4 = 2 := by decide
      go_wp2_with (first | (go_at_call 29; refine (allowed_c _ _ _).mono ?_; rintro e w' ⟨rfl, hb⟩; have HB := bl_step (by repeat (with_reducible first | exact HB | apply bl_alloc | apply bl_drew | apply bl_drewN | fail)) hb) | (go_at_call 25; refine (num_c _ _).mono ?_; rintro e w' ⟨rfl, rfl⟩) | fail)
      go_roundw
      case rel => exact ⟨5, by omega, rfl, by rw [show cnt 6 5 = 2 by decide], HB⟩
      case measure => decide
    · have e1 : allowB 6 5 = true := by decide
      have e2 : allowE 6 5 = 0 := by decide
      have e3 : cnt 6 5 = 2 := by decide
      go_wp2_with (first | (go_at_call 29; refine (allowed_c _ _ _).mono ?_; rintro e w' ⟨rfl, hb⟩; have HB := bl_step (by repeat (with_reducible first | exact HB | apply bl_alloc | apply bl_drew | apply bl_drewN | fail)) hb) | (go_at_call 25; refine (num_c _ _).mono ?_; rintro e w' ⟨rfl, rfl⟩) | fail)
      go_roundw
      case rel => exact ⟨6, by omega, rfl, by rw [show cnt 6 6 = 3 by decide], HB⟩
      case measure => decide
    · have e1 : allowB 6 6 = true := by decide
      have e2 : allowE 6 6 = 0 := by decide
      have e3 : cnt 6 6 = 3 := by decide
      go_wp2_with (first | (go_at_call 29; refine (allowed_c _ _ _).mono ?_; rintro e w' ⟨rfl, hb⟩; have HB := bl_step (by repeat (with_reducible first | exact HB | apply bl_alloc | apply bl_drew | apply bl_drewN | fail)) hb) | (go_at_call 25; refine (num_c _ _).mono ?_; rintro e w' ⟨rfl, rfl⟩) | fail)
      go_roundw
      case rel => exact ⟨7, by omega, rfl, by rw [show cnt 6 7 = 4 by decide], HB⟩
      case measure => decide
    · have e3 : cnt 6 7 = 4 := by decide
      go_wp2
      go_ret
      exact ⟨rfl, HB⟩
set_option maxHeartbeats 3200000 in
theorem ways_7 (x : Int) (w : World) (hb : Go.bits .and .i64 x 7 = 7) : Calls Try.prog 10 #[.int .i64 x] w fun e w' => e = .returned (.bool true) ∧ Below w.heap.size w w' := by
  have HB := Below.refl w.heap.size w
  go_enter Try.func10, Try.ntmps10
  go_wp2_with (first | (go_at_call 31; refine (awake_c _).mono ?_; rintro e w' ⟨rfl, hb⟩; have HB := bl_step (by repeat (with_reducible first | exact HB | apply bl_alloc | apply bl_drew | apply bl_drewN | fail)) hb) | fail)
  go_loopw [4, 5] (fun n i wr => ∃ k : Nat, k ≤ 7 ∧ i = .int .i64 k ∧ n = .int .i64 (cnt 7 k) ∧ Below w.heap.size w wr) (fun _ i _ => 7 - (intOf i).toNat)
  case atStart => exact ⟨0, by omega, rfl, rfl, HB⟩
  case round =>
    clear HB
    obtain ⟨k, hk, rfl, rfl, HB⟩ := hrel
    have h7 : k = 0 ∨ k = 1 ∨ k = 2 ∨ k = 3 ∨ k = 4 ∨ k = 5 ∨ k = 6 ∨ k = 7 := by omega
    rcases h7 with rfl | rfl | rfl | rfl | rfl | rfl | rfl | rfl
    · have e1 : allowB 7 0 = false := by decide
      have e2 : allowE 7 0 = 0 := by decide
      have e3 : cnt 7 0 = 0 := by decide
      go_wp2_with (first | (go_at_call 29; refine (allowed_c _ _ _).mono ?_; rintro e w' ⟨rfl, hb⟩; have HB := bl_step (by repeat (with_reducible first | exact HB | apply bl_alloc | apply bl_drew | apply bl_drewN | fail)) hb) | (go_at_call 25; refine (num_c _ _).mono ?_; rintro e w' ⟨rfl, rfl⟩) | fail)
      go_roundw
      case rel => exact ⟨1, by omega, rfl, by rw [show cnt 7 1 = 0 by decide], HB⟩
      case measure => decide
    · have e1 : allowB 7 1 = false := by decide
      have e2 : allowE 7 1 = 0 := by decide
      have e3 : cnt 7 1 = 0 := by decide
      go_wp2_with (first | (go_at_call 29; refine (allowed_c _ _ _).mono ?_; rintro e w' ⟨rfl, hb⟩; have HB := bl_step (by repeat (with_reducible first | exact HB | apply bl_alloc | apply bl_drew | apply bl_drewN | fail)) hb) | (go_at_call 25; refine (num_c _ _).mono ?_; rintro e w' ⟨rfl, rfl⟩) | fail)
      go_roundw
      case rel => exact ⟨2, by omega, rfl, by rw [show cnt 7 2 = 0 by decide], HB⟩
      case measure => decide
    · have e1 : allowB 7 2 = false := by decide
      have e2 : allowE 7 2 = 0 := by decide
      have e3 : cnt 7 2 = 0 := by decide
      go_wp2_with (first | (go_at_call 29; refine (allowed_c _ _ _).mono ?_; rintro e w' ⟨rfl, hb⟩; have HB := bl_step (by repeat (with_reducible first | exact HB | apply bl_alloc | apply bl_drew | apply bl_drewN | fail)) hb) | (go_at_call 25; refine (num_c _ _).mono ?_; rintro e w' ⟨rfl, rfl⟩) | fail)
      go_roundw
      case rel => exact ⟨3, by omega, rfl, by rw [show cnt 7 3 = 0 by decide], HB⟩
      case measure => decide
    · have e1 : allowB 7 3 = true := by decide
      have e2 : allowE 7 3 = 0 := by decide
      have e3 : cnt 7 3 = 0 := by decide
      go_wp2_with (first | (go_at_call 29; refine (allowed_c _ _ _).mono ?_; rintro e w' ⟨rfl, hb⟩; have HB := bl_step (by repeat (with_reducible first | exact HB | apply bl_alloc | apply bl_drew | apply bl_drewN | fail)) hb) | (go_at_call 25; refine (num_c _ _).mono ?_; rintro e w' ⟨rfl, rfl⟩) | fail)
      go_roundw
      case rel => exact ⟨4, by omega, rfl, by rw [show cnt 7 4 = 1 by decide], HB⟩
      case measure => decide
    · have e1 : allowB 7 4 = true := by decide
      have e2 : allowE 7 4 = 0 := by decide
      have e3 : cnt 7 4 = 1 := by decide
      go_wp2_with (first | (go_at_call 29; refine (allowed_c _ _ _).mono ?_; rintro e w' ⟨rfl, hb⟩; have HB := bl_step (by repeat (with_reducible first | exact HB | apply bl_alloc | apply bl_drew | apply bl_drewN | fail)) hb) | (go_at_call 25; refine (num_c _ _).mono ?_; rintro e w' ⟨rfl, rfl⟩) | fail)
      go_roundw
      case rel => exact ⟨5, by omega, rfl, by rw [show cnt 7 5 = 2 by decide], HB⟩
      case measure => decide
    · have e1 : allowB 7 5 = true := by decide
      have e2 : allowE 7 5 = 0 := by decide
      have e3 : cnt 7 5 = 2 := by decide
      go_wp2_with (first | (go_at_call 29; refine (allowed_c _ _ _).mono ?_; rintro e w' ⟨rfl, hb⟩; have HB := bl_step (by repeat (with_reducible first | exact HB | apply bl_alloc | apply bl_drew | apply bl_drewN | fail)) hb) | (go_at_call 25; refine (num_c _ _).mono ?_; rintro e w' ⟨rfl, rfl⟩) | fail)
      go_roundw
      case rel => exact ⟨6, by omega, rfl, by rw [show cnt 7 6 = 3 by decide], HB⟩
      case measure => decide
    · have e1 : allowB 7 6 = false := by decide
      have e2 : allowE 7 6 = 0 := by decide
      have e3 : cnt 7 6 = 3 := by decide
      go_wp2_with (first | (go_at_call 29; refine (allowed_c _ _ _).mono ?_; rintro e w' ⟨rfl, hb⟩; have HB := bl_step (by repeat (with_reducible first | exact HB | apply bl_alloc | apply bl_drew | apply bl_drewN | fail)) hb) | (go_at_call 25; refine (num_c _ _).mono ?_; rintro e w' ⟨rfl, rfl⟩) | fail)
      go_roundw
      case rel => exact ⟨7, by omega, rfl, by rw [show cnt 7 7 = 3 by decide], HB⟩
      case measure => decide
    · have e3 : cnt 7 7 = 3 := by decide
      go_wp2
      go_ret
      exact ⟨rfl, HB⟩
theorem ways_w (x : Int) (w : World) : Calls Try.prog 10 #[.int .i64 x] w fun e w' => e = .returned (.bool true) ∧ Below w.heap.size w w' := by
  have hb := Bt.and7 x
  have h8 : x % 8 = 0 ∨ x % 8 = 1 ∨ x % 8 = 2 ∨ x % 8 = 3 ∨ x % 8 = 4 ∨ x % 8 = 5 ∨ x % 8 = 6 ∨ x % 8 = 7 := by omega
  rcases h8 with h8 | h8 | h8 | h8 | h8 | h8 | h8 | h8
  · exact ways_0 x w (hb.trans h8)
  · exact ways_1 x w (hb.trans h8)
  · exact ways_2 x w (hb.trans h8)
  · exact ways_3 x w (hb.trans h8)
  · exact ways_4 x w (hb.trans h8)
  · exact ways_5 x w (hb.trans h8)
  · exact ways_6 x w (hb.trans h8)
  · exact ways_7 x w (hb.trans h8)
end Go.Proofs.Ytnbbbpeelplfoaa.Tb
