/- Layer 14: the law AnswerForms. -/
import Derived.Test.YtnbbbpeelplfoaaAnp
namespace Go.Proofs.Ytnbbbpeelplfoaa.An
open Go.RowKit Go.Proofs.Ytnbbbpeelplfoaa.Kt Go.Proofs.Ytnbbbpeelplfoaa.Lw Go.Proofs.Ytnbbbpeelplfoaa.St Go.Proofs.Ytnbbbpeelplfoaa.Id Go.Proofs.Ytnbbbpeelplfoaa.Es Go.Proofs.Ytnbbbpeelplfoaa.Bt
set_option linter.unusedVariables false
set_option linter.unusedSimpArgs false
attribute [local go_sem high] eqAns

/-- one of eight texts that are none. -/
theorem pick8 (j : Nat) (hj : j < 8) (T : TypeId) : ∃ t : ByteArray, gotB t = false ∧ ∀ W : World, (W.alloc (.cells #[.string ⟨#[]⟩, .string ⟨#[0, 0, 0, 0, 0]⟩, .string ⟨#[0, 0, 0, 0, 0, 0, 0]⟩, .string ⟨#[7, 0, 0, 0, 0, 0]⟩, .string ⟨#[0, 0, 1, 0, 0, 0]⟩, .string ⟨#[0, 0, 0, 1, 0, 0]⟩, .string ⟨#[0, 0, 0, 0, 8, 0]⟩, .string ⟨#[0, 0, 0, 0, 0, 1]⟩] T)).cell? ⟨W.heap.size, j, none⟩ = some (.string t) := by
  have h : j = 0 ∨ j = 1 ∨ j = 2 ∨ j = 3 ∨ j = 4 ∨ j = 5 ∨ j = 6 ∨ j = 7 := by omega
  rcases h with rfl | rfl | rfl | rfl | rfl | rfl | rfl | rfl
  · exact ⟨_, by decide +kernel, fun W => (Blk.new W _ T).cell 0⟩
  · exact ⟨_, by decide +kernel, fun W => (Blk.new W _ T).cell 1⟩
  · exact ⟨_, by decide +kernel, fun W => (Blk.new W _ T).cell 2⟩
  · exact ⟨_, by decide +kernel, fun W => (Blk.new W _ T).cell 3⟩
  · exact ⟨_, by decide +kernel, fun W => (Blk.new W _ T).cell 4⟩
  · exact ⟨_, by decide +kernel, fun W => (Blk.new W _ T).cell 5⟩
  · exact ⟨_, by decide +kernel, fun W => (Blk.new W _ T).cell 6⟩
  · exact ⟨_, by decide +kernel, fun W => (Blk.new W _ T).cell 7⟩
/-- one of six answers that may not be. -/
theorem pick6 (k : Nat) (hk : k < 6) (m : Int) (m0 : 0 ≤ m) (T : TypeId) : ∃ q0 q1 q2 : Int, ansMay q0 q1 q2 = false ∧ ∀ W : World, let W' := W.alloc (.cells #[.int .i64 (-(1 + m)), .int .i64 0, .int .i64 0, .int .i64 (6 + (1 + m)), .int .i64 0, .int .i64 0, .int .i64 0, .int .i64 (-(1 + m)), .int .i64 0, .int .i64 0, .int .i64 (255 + (1 + m)), .int .i64 0, .int .i64 0, .int .i64 0, .int .i64 (-(1 + m)), .int .i64 0, .int .i64 0, .int .i64 (7 + (1 + m))] T)
    W'.cell? ⟨W.heap.size, k * 3, none⟩ = some (.int .i64 q0) ∧ W'.cell? ⟨W.heap.size, k * 3 + 1, none⟩ = some (.int .i64 q1) ∧ W'.cell? ⟨W.heap.size, k * 3 + 2, none⟩ = some (.int .i64 q2) := by
  have h : k = 0 ∨ k = 1 ∨ k = 2 ∨ k = 3 ∨ k = 4 ∨ k = 5 := by omega
  rcases h with rfl | rfl | rfl | rfl | rfl | rfl
  · exact ⟨_, _, _, may_no (by omega), fun W => ⟨(Blk.new W _ T).cell 0, (Blk.new W _ T).cell 1, (Blk.new W _ T).cell 2⟩⟩
  · exact ⟨_, _, _, may_no (by omega), fun W => ⟨(Blk.new W _ T).cell 3, (Blk.new W _ T).cell 4, (Blk.new W _ T).cell 5⟩⟩
  · exact ⟨_, _, _, may_no (by omega), fun W => ⟨(Blk.new W _ T).cell 6, (Blk.new W _ T).cell 7, (Blk.new W _ T).cell 8⟩⟩
  · exact ⟨_, _, _, may_no (by omega), fun W => ⟨(Blk.new W _ T).cell 9, (Blk.new W _ T).cell 10, (Blk.new W _ T).cell 11⟩⟩
  · exact ⟨_, _, _, may_no (by omega), fun W => ⟨(Blk.new W _ T).cell 12, (Blk.new W _ T).cell 13, (Blk.new W _ T).cell 14⟩⟩
  · exact ⟨_, _, _, may_no (by omega), fun W => ⟨(Blk.new W _ T).cell 15, (Blk.new W _ T).cell 16, (Blk.new W _ T).cell 17⟩⟩
set_option maxHeartbeats 3200000 in
theorem forms_0 (x0 x1 m : Int) (k j : Nat) (w : World) (hk : wrap64 (Int.tmod (IntKind.u64.wrap x0) 6) = (k : Int)) (hj : Go.bits .and .i64 (x0 / 8) 7 = (j : Int)) (hm : Go.bits .and .i64 x1 1023 = m) (m0 : 0 ≤ m) (m1 : m < 1024) (k1 : k < 6) (j1 : j < 8) :
    Calls Try.prog 12 #[.int .i64 x0, .int .i64 x1] w fun e w' => e = .returned (.bool true) ∧ Below w.heap.size w w' := by
  have HB := Below.refl w.heap.size w
  obtain ⟨q0, q1, q2, hq, hc⟩ := pick6 k k1 m m0 44
  obtain ⟨t, ht, hct⟩ := pick8 j j1 9
  have hc0 := fun W => (hc W).1
  have hc1 := fun W => (hc W).2.1
  have hc2 := fun W => (hc W).2.2
  have ht2 : gotV t = #[.int .i64 0, .int .i64 0, .int .i64 0] := by simp [gotV, ht]
  have p1 : putE q0 q1 q2 = 1400 := by simp [putE, hq]
  have p2 : putB q0 q1 q2 = ⟨#[]⟩ := by simp [putB, hq]; rfl
  clear hc
  go_enter Try.func12, Try.ntmps12
  go_wp2_with (first | (go_at_call 38; refine (awake_c _).mono ?_; rintro e w' ⟨rfl, hb⟩; have HB := bl_step (by repeat (with_reducible first | exact HB | apply bl_alloc | apply bl_drew | apply bl_drewN | fail)) hb; have K0 := fun cs0 cs => Blk.new1 w' (.cells cs0 44) cs 44) | (go_at_call 32; refine (put_c _ _ _ _).mono ?_; rintro e w' ⟨rfl, hb⟩; have HB := bl_step (by repeat (with_reducible first | exact HB | apply bl_alloc | apply bl_drew | apply bl_drewN | fail)) hb; have K0 := Blk.below (by repeat (with_reducible first | exact K0 | exact K0 _ | exact K0 _ _ | apply Blk.alloc | apply Blk.drew | apply Blk.drewN | fail)) hb; obtain ⟨_, _, _, _, _, _, _⟩ := Blk.all3 K0) | (go_at_call 34; refine (get_c _ _).mono ?_; rintro e w' ⟨rfl, hb⟩; have HB := bl_step (by repeat (with_reducible first | exact HB | apply bl_alloc | apply bl_drew | apply bl_drewN | fail)) hb; have K0 := Blk.below (by repeat (with_reducible first | exact K0 | exact K0 _ | exact K0 _ _ | apply Blk.alloc | apply Blk.drew | apply Blk.drewN | fail)) hb; obtain ⟨_, _, _, _, _, _, _⟩ := Blk.all3 K0) | (go_at_call 36; refine (ansMay_c _ _ _ _).mono ?_; rintro e w' ⟨rfl, hb⟩; have HB := bl_step (by repeat (with_reducible first | exact HB | apply bl_alloc | apply bl_drew | apply bl_drewN | fail)) hb; have K0 := Blk.below (by repeat (with_reducible first | exact K0 | exact K0 _ | exact K0 _ _ | apply Blk.alloc | apply Blk.drew | apply Blk.drewN | fail)) hb; obtain ⟨_, _, _, _, _, _, _⟩ := Blk.all3 K0) | (go_at_call 25; refine (enum_c _ _).mono ?_; rintro e w' ⟨rfl, rfl⟩) | fail)

  go_ret
  exact ⟨by simp, (by repeat (with_reducible first | exact Below.refl _ _ | assumption | (refine bl_set ?_ (by omega)) | apply bl_alloc | apply bl_drewN | apply bl_drew | (refine bl_step ?_ (by assumption)) | fail))⟩

theorem forms_w (x0 x1 : Int) (w : World) :
    Calls Try.prog 12 #[.int .i64 x0, .int .i64 x1] w fun e w' => e = .returned (.bool true) ∧ Below w.heap.size w w' := by
  have h0 := umod64 x0 6 (by decide) (by decide)
  have h1 := and1023 x1
  have h2 := and7 (x0 / 8)
  obtain ⟨k, hk⟩ := Int.eq_ofNat_of_zero_le h0.1
  obtain ⟨j, hj⟩ := Int.eq_ofNat_of_zero_le (a := Go.bits .and .i64 (x0 / 8) 7) (by omega)
  exact forms_0 x0 x1 _ k j w hk hj rfl (by omega) (by omega) (by omega) (by omega)
end Go.Proofs.Ytnbbbpeelplfoaa.An
