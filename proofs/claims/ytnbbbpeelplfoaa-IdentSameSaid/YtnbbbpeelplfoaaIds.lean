/- The law IdentSame's walk. -/
import Derived.Test.YtnbbbpeelplfoaaId
import Derived.Test.YtnbbbpeelplfoaaEqs
namespace Go.Proofs.Ytnbbbpeelplfoaa.Id
open Go.RowKit Go.Proofs.Ytnbbbpeelplfoaa.Kt Go.Proofs.Ytnbbbpeelplfoaa.Es
set_option linter.unusedVariables false
set_option linter.unusedSimpArgs false
attribute [local go_sem high] eqIds

theorem match_sym (v p r v' p' r' : Int) (h : ¬ (v = 65535 ∨ p = 65535 ∨ r = 65535 ∨ v' = 65535 ∨ p' = 65535 ∨ r' = 65535)) (h1 : mayB v p r = true) (h2 : mayB v' p' r' = true) :
    matchB v p r v' p' r' = (v == v' && (p == p' && r == r')) ∧ matchB v' p' r' v p r = (v == v' && (p == p' && r == r')) := by
  simp only [matchB, h1, h2, fitsB, Bool.and_self, Bool.true_and]
  constructor
  · rw [Bool.eq_iff_iff]; simp; omega
  · rw [Bool.eq_iff_iff]; simp; omega
set_option maxHeartbeats 3200000 in
theorem same_w (v p r v' p' r' : Int) (w : World) : Calls Try.prog 7 #[.agg #[.int .i64 v, .int .i64 p, .int .i64 r], .agg #[.int .i64 v', .int .i64 p', .int .i64 r']] w fun e w' =>
    e = .returned (.bool true) ∧ Below w.heap.size w w' := by
  have HB := Below.refl w.heap.size w
  have K0 := Blk.new w #[.int .i64 v, .int .i64 p, .int .i64 r] 24
  have K1 := Blk.new1 w (.cells #[.int .i64 v, .int .i64 p, .int .i64 r] 24) #[.int .i64 v', .int .i64 p', .int .i64 r'] 24
  by_cases h : mayB v p r = true ∧ mayB v' p' r' = true
  · obtain ⟨h1, h2⟩ := h
    have e1 : matchE v p r v' p' r' = 0 := by simp [matchE, h1, h2]
    have e2 : matchE v' p' r' v p r = 0 := by simp [matchE, h1, h2]
    by_cases hs : v = 65535 ∨ p = 65535 ∨ r = 65535 ∨ v' = 65535 ∨ p' = 65535 ∨ r' = 65535
    · go_enter Try.func7, Try.ntmps7
      go_wp2_with (first | (go_at_call 28; refine (awake_c _).mono ?_; rintro e w' ⟨rfl, hb⟩; have HB := bl_step (by repeat (with_reducible first | exact HB | apply bl_alloc | apply bl_drew | apply bl_drewN | fail)) hb; have K0 := Blk.below (by repeat (with_reducible first | exact K0 | apply Blk.alloc | apply Blk.drew | apply Blk.drewN | fail)) hb; obtain ⟨_, _, _, _, _, _, _⟩ := Blk.all3 K0; have K1 := Blk.below (by repeat (with_reducible first | exact K1 | apply Blk.alloc | apply Blk.drew | apply Blk.drewN | fail)) hb; obtain ⟨_, _, _, _, _, _, _⟩ := Blk.all3 K1) | (go_at_call 23; refine (match_c _ _ _ _ _ _ _).mono ?_; rintro e w' ⟨rfl, hb⟩; have HB := bl_step (by repeat (with_reducible first | exact HB | apply bl_alloc | apply bl_drew | apply bl_drewN | fail)) hb; have K0 := Blk.below (by repeat (with_reducible first | exact K0 | apply Blk.alloc | apply Blk.drew | apply Blk.drewN | fail)) hb; obtain ⟨_, _, _, _, _, _, _⟩ := Blk.all3 K0; have K1 := Blk.below (by repeat (with_reducible first | exact K1 | apply Blk.alloc | apply Blk.drew | apply Blk.drewN | fail)) hb; obtain ⟨_, _, _, _, _, _, _⟩ := Blk.all3 K1) | (go_at_call 25; refine (num_c _ _).mono ?_; rintro e w' ⟨rfl, rfl⟩) | fail)
      all_goals first | (go_ret; exact ⟨rfl, HB⟩) | (exfalso; omega)
    · obtain ⟨m1, m2⟩ := match_sym v p r v' p' r' hs h1 h2
      have g1 : (v == 65535) = false := by rw [beq_eq_false_iff_ne]; omega
      have g2 : (p == 65535) = false := by rw [beq_eq_false_iff_ne]; omega
      have g3 : (r == 65535) = false := by rw [beq_eq_false_iff_ne]; omega
      have g4 : (v' == 65535) = false := by rw [beq_eq_false_iff_ne]; omega
      have g5 : (p' == 65535) = false := by rw [beq_eq_false_iff_ne]; omega
      have g6 : (r' == 65535) = false := by rw [beq_eq_false_iff_ne]; omega
      have m3 : matchB v' p' r' v p r = matchB v p r v' p' r' := m2.trans m1.symm
      clear hs h1 h2 m2
      have M1 := Lib.hid m1
      clear m1
      go_enter Try.func7, Try.ntmps7
      go_wp2_with (first | (go_at_call 28; refine (awake_c _).mono ?_; rintro e w' ⟨rfl, hb⟩; have HB := bl_step (by repeat (with_reducible first | exact HB | apply bl_alloc | apply bl_drew | apply bl_drewN | fail)) hb; have K0 := Blk.below (by repeat (with_reducible first | exact K0 | apply Blk.alloc | apply Blk.drew | apply Blk.drewN | fail)) hb; obtain ⟨_, _, _, _, _, _, _⟩ := Blk.all3 K0; have K1 := Blk.below (by repeat (with_reducible first | exact K1 | apply Blk.alloc | apply Blk.drew | apply Blk.drewN | fail)) hb; obtain ⟨_, _, _, _, _, _, _⟩ := Blk.all3 K1) | (go_at_call 23; refine (match_c _ _ _ _ _ _ _).mono ?_; rintro e w' ⟨rfl, hb⟩; have HB := bl_step (by repeat (with_reducible first | exact HB | apply bl_alloc | apply bl_drew | apply bl_drewN | fail)) hb; have K0 := Blk.below (by repeat (with_reducible first | exact K0 | apply Blk.alloc | apply Blk.drew | apply Blk.drewN | fail)) hb; obtain ⟨_, _, _, _, _, _, _⟩ := Blk.all3 K0; have K1 := Blk.below (by repeat (with_reducible first | exact K1 | apply Blk.alloc | apply Blk.drew | apply Blk.drewN | fail)) hb; obtain ⟨_, _, _, _, _, _, _⟩ := Blk.all3 K1) | (go_at_call 25; refine (num_c _ _).mono ?_; rintro e w' ⟨rfl, rfl⟩) | fail)
      all_goals go_ret
      all_goals exact ⟨by simp [M1.out], HB⟩
  · have e0 : mayB v p r = false ∨ mayB v' p' r' = false := by
      cases h1 : mayB v p r <;> cases h2 : mayB v' p' r' <;> simp_all
    have e1 : matchE v p r v' p' r' = 1200 := by rcases e0 with e | e <;> simp [matchE, e]
    have e3 : matchB v p r v' p' r' = false := by rcases e0 with e | e <;> simp [matchB, e]
    have e4 : matchB v' p' r' v p r = false := by rcases e0 with e | e <;> simp [matchB, e]
    clear h
    rcases e0 with e | e
    · go_enter Try.func7, Try.ntmps7
      go_wp2_with (first | (go_at_call 28; refine (awake_c _).mono ?_; rintro e w' ⟨rfl, hb⟩; have HB := bl_step (by repeat (with_reducible first | exact HB | apply bl_alloc | apply bl_drew | apply bl_drewN | fail)) hb; have K0 := Blk.below (by repeat (with_reducible first | exact K0 | apply Blk.alloc | apply Blk.drew | apply Blk.drewN | fail)) hb; obtain ⟨_, _, _, _, _, _, _⟩ := Blk.all3 K0; have K1 := Blk.below (by repeat (with_reducible first | exact K1 | apply Blk.alloc | apply Blk.drew | apply Blk.drewN | fail)) hb; obtain ⟨_, _, _, _, _, _, _⟩ := Blk.all3 K1) | (go_at_call 23; refine (match_c _ _ _ _ _ _ _).mono ?_; rintro e w' ⟨rfl, hb⟩; have HB := bl_step (by repeat (with_reducible first | exact HB | apply bl_alloc | apply bl_drew | apply bl_drewN | fail)) hb; have K0 := Blk.below (by repeat (with_reducible first | exact K0 | apply Blk.alloc | apply Blk.drew | apply Blk.drewN | fail)) hb; obtain ⟨_, _, _, _, _, _, _⟩ := Blk.all3 K0; have K1 := Blk.below (by repeat (with_reducible first | exact K1 | apply Blk.alloc | apply Blk.drew | apply Blk.drewN | fail)) hb; obtain ⟨_, _, _, _, _, _, _⟩ := Blk.all3 K1) | (go_at_call 26; refine (may_c _ _ _ _).mono ?_; rintro e w' ⟨rfl, hb⟩; have HB := bl_step (by repeat (with_reducible first | exact HB | apply bl_alloc | apply bl_drew | apply bl_drewN | fail)) hb; have K0 := Blk.below (by repeat (with_reducible first | exact K0 | apply Blk.alloc | apply Blk.drew | apply Blk.drewN | fail)) hb; obtain ⟨_, _, _, _, _, _, _⟩ := Blk.all3 K0; have K1 := Blk.below (by repeat (with_reducible first | exact K1 | apply Blk.alloc | apply Blk.drew | apply Blk.drewN | fail)) hb; obtain ⟨_, _, _, _, _, _, _⟩ := Blk.all3 K1) | (go_at_call 25; refine (num_c _ _).mono ?_; rintro e w' ⟨rfl, rfl⟩) | fail)
      all_goals go_ret
      all_goals exact ⟨rfl, HB⟩
    · cases hm : mayB v p r
      all_goals
        go_enter Try.func7, Try.ntmps7
        go_wp2_with (first | (go_at_call 28; refine (awake_c _).mono ?_; rintro e w' ⟨rfl, hb⟩; have HB := bl_step (by repeat (with_reducible first | exact HB | apply bl_alloc | apply bl_drew | apply bl_drewN | fail)) hb; have K0 := Blk.below (by repeat (with_reducible first | exact K0 | apply Blk.alloc | apply Blk.drew | apply Blk.drewN | fail)) hb; obtain ⟨_, _, _, _, _, _, _⟩ := Blk.all3 K0; have K1 := Blk.below (by repeat (with_reducible first | exact K1 | apply Blk.alloc | apply Blk.drew | apply Blk.drewN | fail)) hb; obtain ⟨_, _, _, _, _, _, _⟩ := Blk.all3 K1) | (go_at_call 23; refine (match_c _ _ _ _ _ _ _).mono ?_; rintro e w' ⟨rfl, hb⟩; have HB := bl_step (by repeat (with_reducible first | exact HB | apply bl_alloc | apply bl_drew | apply bl_drewN | fail)) hb; have K0 := Blk.below (by repeat (with_reducible first | exact K0 | apply Blk.alloc | apply Blk.drew | apply Blk.drewN | fail)) hb; obtain ⟨_, _, _, _, _, _, _⟩ := Blk.all3 K0; have K1 := Blk.below (by repeat (with_reducible first | exact K1 | apply Blk.alloc | apply Blk.drew | apply Blk.drewN | fail)) hb; obtain ⟨_, _, _, _, _, _, _⟩ := Blk.all3 K1) | (go_at_call 26; refine (may_c _ _ _ _).mono ?_; rintro e w' ⟨rfl, hb⟩; have HB := bl_step (by repeat (with_reducible first | exact HB | apply bl_alloc | apply bl_drew | apply bl_drewN | fail)) hb; have K0 := Blk.below (by repeat (with_reducible first | exact K0 | apply Blk.alloc | apply Blk.drew | apply Blk.drewN | fail)) hb; obtain ⟨_, _, _, _, _, _, _⟩ := Blk.all3 K0; have K1 := Blk.below (by repeat (with_reducible first | exact K1 | apply Blk.alloc | apply Blk.drew | apply Blk.drewN | fail)) hb; obtain ⟨_, _, _, _, _, _, _⟩ := Blk.all3 K1) | (go_at_call 25; refine (num_c _ _).mono ?_; rintro e w' ⟨rfl, rfl⟩) | fail)
        all_goals go_ret
        all_goals exact ⟨rfl, HB⟩
end Go.Proofs.Ytnbbbpeelplfoaa.Id
