/- Layer 13: the law SetupForms. -/
import Derived.Test.YtfnfnldndmkeeaaSul
namespace Go.Proofs.Ytfnfnldndmkeeaa.Su
open Go.RowKit Go.Proofs.Ytfnfnldndmkeeaa.Kt Go.Proofs.Ytfnfnldndmkeeaa.Lw Go.Proofs.Ytfnfnldndmkeeaa.St Go.Proofs.Ytfnfnldndmkeeaa.Nm Go.Proofs.Ytfnfnldndmkeeaa.Es Go.Proofs.Ytfnfnldndmkeeaa.Bt
set_option linter.unusedVariables false
set_option linter.unusedSimpArgs false
attribute [local go_sem high] eqSet

/-- one of eight texts that are none. -/
theorem pick8 (j : Nat) (hj : j < 8) (T : TypeId) : ∃ t : ByteArray, gotS t = false ∧ ∀ W : World, (W.alloc (.cells #[.string ⟨#[]⟩, .string ⟨#[33, 1, 0, 0, 0, 0, 0]⟩, .string ⟨#[33, 1, 0, 0, 0, 0, 0, 0, 0]⟩, .string ⟨#[161, 1, 0, 0, 0, 0, 0, 0]⟩, .string ⟨#[33, 2, 0, 0, 0, 0, 0, 0]⟩, .string ⟨#[33, 7, 0, 0, 0, 0, 0, 0]⟩, .string ⟨#[33, 1, 0, 0, 1, 0, 0, 0]⟩, .string ⟨#[33, 1, 0, 0, 0, 0, 33, 0]⟩] T)).cell? ⟨W.heap.size, j, none⟩ = some (.string t) := by
  have h : j = 0 ∨ j = 1 ∨ j = 2 ∨ j = 3 ∨ j = 4 ∨ j = 5 ∨ j = 6 ∨ j = 7 := by omega
  rcases h with rfl | rfl | rfl | rfl | rfl | rfl | rfl | rfl
  · exact ⟨_, by decide +kernel, fun W => (Blk.new W _ T).cell 0⟩
  · exact ⟨_, by decide +kernel, fun W => (Blk.new W _ T).cell 1⟩
  · exact ⟨_, by decide +kernel, fun W => (Blk.new W _ T).cell 2⟩
  · exact ⟨_, by decide +kernel, fun W => (Blk.new W _ T).cell 3⟩
  · exact ⟨_, by decide +kernel, fun W => (Blk.new W _ T).cell 4⟩
  · exact ⟨_, by decide +kernel, fun W => (Blk.new W _ T).cell 5⟩
  · exact ⟨_, by decide +kernel, fun W => (Blk.new W _ T).cell 6⟩
  · exact ⟨_, by decide +kernel, fun W => (Blk.new W _ T).cell 7⟩
/-- one of six answers that may not be. -/
theorem pick6 (k : Nat) (hk : k < 6) (m : Int) (m0 : 0 ≤ m) (T : TypeId) : ∃ q0 q1 q2 : Int, setMay q0 q1 q2 = false ∧ ∀ W : World, let W' := W.alloc (.cells #[.int .i64 (-(1 + m)), .int .i64 0, .int .i64 0, .int .i64 (6 + (1 + m)), .int .i64 0, .int .i64 0, .int .i64 0, .int .i64 (-(1 + m)), .int .i64 0, .int .i64 0, .int .i64 (65535 + (1 + m)), .int .i64 0, .int .i64 0, .int .i64 0, .int .i64 (-(1 + m)), .int .i64 0, .int .i64 0, .int .i64 (32 + (1 + m))] T)
    W'.cell? ⟨W.heap.size, k * 3, none⟩ = some (.int .i64 q0) ∧ W'.cell? ⟨W.heap.size, k * 3 + 1, none⟩ = some (.int .i64 q1) ∧ W'.cell? ⟨W.heap.size, k * 3 + 2, none⟩ = some (.int .i64 q2) := by
  have h : k = 0 ∨ k = 1 ∨ k = 2 ∨ k = 3 ∨ k = 4 ∨ k = 5 := by omega
  rcases h with rfl | rfl | rfl | rfl | rfl | rfl
  · exact ⟨_, _, _, sup_no (by omega), fun W => ⟨(Blk.new W _ T).cell 0, (Blk.new W _ T).cell 1, (Blk.new W _ T).cell 2⟩⟩
  · exact ⟨_, _, _, sup_no (by omega), fun W => ⟨(Blk.new W _ T).cell 3, (Blk.new W _ T).cell 4, (Blk.new W _ T).cell 5⟩⟩
  · exact ⟨_, _, _, sup_no (by omega), fun W => ⟨(Blk.new W _ T).cell 6, (Blk.new W _ T).cell 7, (Blk.new W _ T).cell 8⟩⟩
  · exact ⟨_, _, _, sup_no (by omega), fun W => ⟨(Blk.new W _ T).cell 9, (Blk.new W _ T).cell 10, (Blk.new W _ T).cell 11⟩⟩
  · exact ⟨_, _, _, sup_no (by omega), fun W => ⟨(Blk.new W _ T).cell 12, (Blk.new W _ T).cell 13, (Blk.new W _ T).cell 14⟩⟩
  · exact ⟨_, _, _, sup_no (by omega), fun W => ⟨(Blk.new W _ T).cell 15, (Blk.new W _ T).cell 16, (Blk.new W _ T).cell 17⟩⟩
set_option maxHeartbeats 3200000 in
theorem forms_0 (x0 x1 m : Int) (k j : Nat) (w : World) (hk : wrap64 (Int.tmod (IntKind.u64.wrap x0) 6) = (k : Int)) (hj : Go.bits .and .i64 (x0 / 8) 7 = (j : Int)) (hm : Go.bits .and .i64 x1 1023 = m) (m0 : 0 ≤ m) (m1 : m < 1024) (k1 : k < 6) (j1 : j < 8) :
    Calls Try.prog 8 #[.int .i64 x0, .int .i64 x1] w fun e w' => e = .returned (.bool true) ∧ Below w.heap.size w w' := by
  have HB := Below.refl w.heap.size w
  obtain ⟨q0, q1, q2, hq, hc⟩ := pick6 k k1 m m0 45
  obtain ⟨t, ht, hct⟩ := pick8 j j1 9
  have hc0 := fun W => (hc W).1
  have hc1 := fun W => (hc W).2.1
  have hc2 := fun W => (hc W).2.2
  have ht2 : gotW t = #[.int .i64 0, .int .i64 0, .int .i64 0] := by simp [gotW, ht]
  have p1 : supE q0 q1 q2 = 1300 := by simp [supE, hq]
  have p2 : supB q0 q1 q2 = ⟨#[]⟩ := by simp [supB, hq]; rfl
  clear hc
  go_enter Try.func8, Try.ntmps8
  go_wp2_with (first | (go_at_call 31; refine (awake_c _).mono ?_; rintro e w' ⟨rfl, hb⟩; have HB := bl_step (by repeat (with_reducible first | exact HB | apply bl_alloc | apply bl_drew | apply bl_drewN | fail)) hb; have K0 := fun cs0 cs => Blk.new1 w' (.cells cs0 45) cs 45) | (go_at_call 25; refine (sput_c _ _ _ _).mono ?_; rintro e w' ⟨rfl, hb⟩; have HB := bl_step (by repeat (with_reducible first | exact HB | apply bl_alloc | apply bl_drew | apply bl_drewN | fail)) hb; have K0 := Blk.below (by repeat (with_reducible first | exact K0 | exact K0 _ | exact K0 _ _ | apply Blk.alloc | apply Blk.drew | apply Blk.drewN | fail)) hb; obtain ⟨_, _, _, _, _, _, _⟩ := Blk.all3 K0) | (go_at_call 27; refine (sget_c _ _).mono ?_; rintro e w' ⟨rfl, hb⟩; have HB := bl_step (by repeat (with_reducible first | exact HB | apply bl_alloc | apply bl_drew | apply bl_drewN | fail)) hb; have K0 := Blk.below (by repeat (with_reducible first | exact K0 | exact K0 _ | exact K0 _ _ | apply Blk.alloc | apply Blk.drew | apply Blk.drewN | fail)) hb; obtain ⟨_, _, _, _, _, _, _⟩ := Blk.all3 K0) | (go_at_call 29; refine (setMay_c _ _ _ _).mono ?_; rintro e w' ⟨rfl, hb⟩; have HB := bl_step (by repeat (with_reducible first | exact HB | apply bl_alloc | apply bl_drew | apply bl_drewN | fail)) hb; have K0 := Blk.below (by repeat (with_reducible first | exact K0 | exact K0 _ | exact K0 _ _ | apply Blk.alloc | apply Blk.drew | apply Blk.drewN | fail)) hb; obtain ⟨_, _, _, _, _, _, _⟩ := Blk.all3 K0) | (go_at_call 19; refine (enum_c _ _).mono ?_; rintro e w' ⟨rfl, rfl⟩) | fail)

  go_ret
  exact ⟨by simp, (by repeat (with_reducible first | exact Below.refl _ _ | assumption | (refine bl_set ?_ (by omega)) | apply bl_alloc | apply bl_drewN | apply bl_drew | (refine bl_step ?_ (by assumption)) | fail))⟩

theorem forms_w (x0 x1 : Int) (w : World) :
    Calls Try.prog 8 #[.int .i64 x0, .int .i64 x1] w fun e w' => e = .returned (.bool true) ∧ Below w.heap.size w w' := by
  have h0 := umod64 x0 6 (by decide) (by decide)
  have h1 := and1023 x1
  have h2 := and7 (x0 / 8)
  obtain ⟨k, hk⟩ := Int.eq_ofNat_of_zero_le h0.1
  obtain ⟨j, hj⟩ := Int.eq_ofNat_of_zero_le (a := Go.bits .and .i64 (x0 / 8) 7) (by omega)
  exact forms_0 x0 x1 _ k j w hk hj rfl (by omega) (by omega) (by omega) (by omega)
end Go.Proofs.Ytfnfnldndmkeeaa.Su
