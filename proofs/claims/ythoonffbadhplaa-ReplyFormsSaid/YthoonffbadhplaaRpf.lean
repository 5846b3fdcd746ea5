/- Layer 23: the law's walk: ReplyForms. -/
import Derived.Test.YthoonffbadhplaaRpl
import Derived.Test.YthoonffbadhplaaBits
namespace Go.Proofs.Ythoonffbadhplaa.Rp
open Go.RowKit Go.Proofs.Ythoonffbadhplaa.Kt Go.Proofs.Ythoonffbadhplaa.Lw Go.Proofs.Ythoonffbadhplaa.St Go.Proofs.Ythoonffbadhplaa.Nm Go.Proofs.Ythoonffbadhplaa.An Go.Proofs.Ythoonffbadhplaa.Ho Go.Proofs.Ythoonffbadhplaa.Es
set_option linter.unusedVariables false
set_option linter.unusedSimpArgs false
attribute [local go_sem high] eqHost
theorem rng_not {x l u : Int} (h : x < l ∨ u < x) : rngB x l u = false := by
  rw [← Bool.not_eq_true]
  simp [rngB]
  omega
theorem may_no {ph : Int} {im : ByteArray} {bl tr : Int} {rd : ByteArray} {rp : Int} (h : rngB ph 0 7 = false ∨ (im.toList.isEmpty = true ∧ offB ph = false) ∨ rngB bl 0 (manyI im) = false ∨ rngB tr 0 8 = false) : hostMay ph im bl tr rd rp = false := by
  rcases h with h | ⟨h, h'⟩ | h | h
  · simp [hostMay, h]
  · simp [hostMay, h, h']
  · simp [hostMay, h]
  · simp [hostMay, h]
set_option maxRecDepth 100000 in
set_option maxHeartbeats 6400000 in
theorem rforms_0 (x0 x1 m : Int) (G : ByteArray) (w : World) (hq : Int.tmod (IntKind.u64.wrap x0) 6 = 0) (hm : Go.bits .and .i64 x1 1023 = m) (m0 : 0 ≤ m) (m1 : m < 1024) (hG : G.size = 40)
    (hc : Hid (∀ W : World, Calls Try.prog 14 #[.int .i64 40] W fun e w' => e = .returned (hostV 1 G 0 false 0 ⟨#[]⟩ 0) ∧ Below W.heap.size W w')) :
    Calls Try.prog 4 #[.int .i64 x0, .int .i64 x1] w fun e w' => e = .returned (.bool true) ∧ Below w.heap.size w w' := by
  have HB := Below.refl w.heap.size w
  have t1 : Hid (∀ (a b : Bool) (W : World), Calls Try.prog 10 #[hostV (0) (G) (0) false (0) ⟨#[]⟩ 0, .agg #[.bool a, .bool b, .string ⟨#[]⟩]] W fun e w' => e = .returned (.tuple #[hostV 0 ⟨#[]⟩ 0 false 0 ⟨#[]⟩ 0, .int .i64 2300]) ∧ Below W.heap.size W w') :=
    Lib.hid fun a b W => by
      have := take_c ⟨0, G, 0, false, 0, ⟨#[]⟩, 0⟩ a b ⟨#[]⟩ W (by show (G : ByteArray).size ≤ _; first | decide | omega) (show (⟨#[]⟩ : ByteArray).size ≤ 1000000000000000 by decide) (by decide +kernel)
      rwa [take_off (.inl (show offB 0 = true by decide))] at this
  have HG := Lib.hid hG
  clear hG
  go_enter Try.func4, Try.ntmps4
  go_wp2_with (first | (go_at_call 13; with_reducible refine (awake_c _).mono ?_; rintro e w' ⟨rfl, hb⟩; have HB := bl_step (w := w) (by repeat (with_reducible first | exact HB | (refine bl_set ?_ (by omega)) | apply bl_alloc | apply bl_drew | apply bl_drewN | fail)) hb; have hzB := HB.size) | (go_at_call 14; with_reducible refine (hc.out _).mono ?_; rintro e w' ⟨rfl, hb⟩; have HB := bl_step (w := w) (by repeat (with_reducible first | exact HB | (refine bl_set ?_ (by omega)) | apply bl_alloc | apply bl_drew | apply bl_drewN | fail)) hb; have hzB := HB.size; have K0 := fun cs => Blk.new w' cs 23) | (go_at_call 10; with_reducible refine (t1.out _ _ _).mono ?_; rintro e w' ⟨rfl, hb⟩; have HB := bl_step (w := w) (by repeat (with_reducible first | exact HB | (refine bl_set ?_ (by omega)) | apply bl_alloc | apply bl_drew | apply bl_drewN | fail)) hb; have hzB := HB.size) | (go_at_call 12; with_reducible refine (enum_c _ _).mono ?_; rintro e w' ⟨rfl, rfl⟩) | fail)
  go_ret
  exact ⟨by simp, (by repeat (with_reducible first | exact Below.refl _ _ | assumption | (refine bl_set ?_ (by omega)) | apply bl_alloc | apply bl_drewN | apply bl_drew | (refine bl_step ?_ (by assumption)) | fail))⟩
set_option maxRecDepth 100000 in
set_option maxHeartbeats 6400000 in
theorem rforms_1 (x0 x1 m : Int) (G : ByteArray) (w : World) (hq : Int.tmod (IntKind.u64.wrap x0) 6 = 1) (hm : Go.bits .and .i64 x1 1023 = m) (m0 : 0 ≤ m) (m1 : m < 1024) (hG : G.size = 40)
    (hc : Hid (∀ W : World, Calls Try.prog 14 #[.int .i64 40] W fun e w' => e = .returned (hostV 1 G 0 false 0 ⟨#[]⟩ 0) ∧ Below W.heap.size W w')) :
    Calls Try.prog 4 #[.int .i64 x0, .int .i64 x1] w fun e w' => e = .returned (.bool true) ∧ Below w.heap.size w w' := by
  have HB := Below.refl w.heap.size w
  have t1 : Hid (∀ (a b : Bool) (W : World), Calls Try.prog 10 #[hostV (7) (G) (0) false (0) ⟨#[]⟩ 0, .agg #[.bool a, .bool b, .string ⟨#[]⟩]] W fun e w' => e = .returned (.tuple #[hostV 0 ⟨#[]⟩ 0 false 0 ⟨#[]⟩ 0, .int .i64 2300]) ∧ Below W.heap.size W w') :=
    Lib.hid fun a b W => by
      have := take_c ⟨7, G, 0, false, 0, ⟨#[]⟩, 0⟩ a b ⟨#[]⟩ W (by show (G : ByteArray).size ≤ _; first | decide | omega) (show (⟨#[]⟩ : ByteArray).size ≤ 1000000000000000 by decide) (by decide +kernel)
      rwa [take_off (.inl (show offB 7 = true by decide))] at this
  have HG := Lib.hid hG
  clear hG
  go_enter Try.func4, Try.ntmps4
  go_wp2_with (first | (go_at_call 13; with_reducible refine (awake_c _).mono ?_; rintro e w' ⟨rfl, hb⟩; have HB := bl_step (w := w) (by repeat (with_reducible first | exact HB | (refine bl_set ?_ (by omega)) | apply bl_alloc | apply bl_drew | apply bl_drewN | fail)) hb; have hzB := HB.size) | (go_at_call 14; with_reducible refine (hc.out _).mono ?_; rintro e w' ⟨rfl, hb⟩; have HB := bl_step (w := w) (by repeat (with_reducible first | exact HB | (refine bl_set ?_ (by omega)) | apply bl_alloc | apply bl_drew | apply bl_drewN | fail)) hb; have hzB := HB.size; have K0 := fun cs => Blk.new w' cs 23) | (go_at_call 10; with_reducible refine (t1.out _ _ _).mono ?_; rintro e w' ⟨rfl, hb⟩; have HB := bl_step (w := w) (by repeat (with_reducible first | exact HB | (refine bl_set ?_ (by omega)) | apply bl_alloc | apply bl_drew | apply bl_drewN | fail)) hb; have hzB := HB.size) | (go_at_call 12; with_reducible refine (enum_c _ _).mono ?_; rintro e w' ⟨rfl, rfl⟩) | fail)
  go_ret
  exact ⟨by simp, (by repeat (with_reducible first | exact Below.refl _ _ | assumption | (refine bl_set ?_ (by omega)) | apply bl_alloc | apply bl_drewN | apply bl_drew | (refine bl_step ?_ (by assumption)) | fail))⟩
set_option maxRecDepth 100000 in
set_option maxHeartbeats 6400000 in
theorem rforms_2 (x0 x1 m : Int) (G : ByteArray) (w : World) (hq : Int.tmod (IntKind.u64.wrap x0) 6 = 2) (hm : Go.bits .and .i64 x1 1023 = m) (m0 : 0 ≤ m) (m1 : m < 1024) (hG : G.size = 40)
    (hc : Hid (∀ W : World, Calls Try.prog 14 #[.int .i64 40] W fun e w' => e = .returned (hostV 1 G 0 false 0 ⟨#[]⟩ 0) ∧ Below W.heap.size W w')) :
    Calls Try.prog 4 #[.int .i64 x0, .int .i64 x1] w fun e w' => e = .returned (.bool true) ∧ Below w.heap.size w w' := by
  have HB := Below.refl w.heap.size w
  have t1 : Hid (∀ (a b : Bool) (W : World), Calls Try.prog 10 #[hostV (1) (G) (2 + (1 + m)) false (0) ⟨#[]⟩ 0, .agg #[.bool a, .bool b, .string ⟨#[]⟩]] W fun e w' => e = .returned (.tuple #[hostV 0 ⟨#[]⟩ 0 false 0 ⟨#[]⟩ 0, .int .i64 2300]) ∧ Below W.heap.size W w') :=
    Lib.hid fun a b W => by
      have := take_c ⟨1, G, 2 + (1 + m), false, 0, ⟨#[]⟩, 0⟩ a b ⟨#[]⟩ W (by show (G : ByteArray).size ≤ _; first | decide | omega) (show (⟨#[]⟩ : ByteArray).size ≤ 1000000000000000 by decide) (by decide +kernel)
      rwa [take_off (.inr (may_no (.inr (.inr (.inl (rng_not (by right; show manyI G < 2 + (1 + m); unfold manyI; omega)))))))] at this
  have HG := Lib.hid hG
  clear hG
  go_enter Try.func4, Try.ntmps4
  go_wp2_with (first | (go_at_call 13; with_reducible refine (awake_c _).mono ?_; rintro e w' ⟨rfl, hb⟩; have HB := bl_step (w := w) (by repeat (with_reducible first | exact HB | (refine bl_set ?_ (by omega)) | apply bl_alloc | apply bl_drew | apply bl_drewN | fail)) hb; have hzB := HB.size) | (go_at_call 14; with_reducible refine (hc.out _).mono ?_; rintro e w' ⟨rfl, hb⟩; have HB := bl_step (w := w) (by repeat (with_reducible first | exact HB | (refine bl_set ?_ (by omega)) | apply bl_alloc | apply bl_drew | apply bl_drewN | fail)) hb; have hzB := HB.size; have K0 := fun cs => Blk.new w' cs 23) | (go_at_call 10; with_reducible refine (t1.out _ _ _).mono ?_; rintro e w' ⟨rfl, hb⟩; have HB := bl_step (w := w) (by repeat (with_reducible first | exact HB | (refine bl_set ?_ (by omega)) | apply bl_alloc | apply bl_drew | apply bl_drewN | fail)) hb; have hzB := HB.size) | (go_at_call 12; with_reducible refine (enum_c _ _).mono ?_; rintro e w' ⟨rfl, rfl⟩) | fail)
  go_ret
  exact ⟨by simp, (by repeat (with_reducible first | exact Below.refl _ _ | assumption | (refine bl_set ?_ (by omega)) | apply bl_alloc | apply bl_drewN | apply bl_drew | (refine bl_step ?_ (by assumption)) | fail))⟩
set_option maxRecDepth 100000 in
set_option maxHeartbeats 6400000 in
theorem rforms_3 (x0 x1 m : Int) (G : ByteArray) (w : World) (hq : Int.tmod (IntKind.u64.wrap x0) 6 = 3) (hm : Go.bits .and .i64 x1 1023 = m) (m0 : 0 ≤ m) (m1 : m < 1024) (hG : G.size = 40)
    (hc : Hid (∀ W : World, Calls Try.prog 14 #[.int .i64 40] W fun e w' => e = .returned (hostV 1 G 0 false 0 ⟨#[]⟩ 0) ∧ Below W.heap.size W w')) :
    Calls Try.prog 4 #[.int .i64 x0, .int .i64 x1] w fun e w' => e = .returned (.bool true) ∧ Below w.heap.size w w' := by
  have HB := Below.refl w.heap.size w
  have t1 : Hid (∀ (a b : Bool) (W : World), Calls Try.prog 10 #[hostV (1) (G) (0) false (8 + (1 + m)) ⟨#[]⟩ 0, .agg #[.bool a, .bool b, .string ⟨#[]⟩]] W fun e w' => e = .returned (.tuple #[hostV 0 ⟨#[]⟩ 0 false 0 ⟨#[]⟩ 0, .int .i64 2300]) ∧ Below W.heap.size W w') :=
    Lib.hid fun a b W => by
      have := take_c ⟨1, G, 0, false, 8 + (1 + m), ⟨#[]⟩, 0⟩ a b ⟨#[]⟩ W (by show (G : ByteArray).size ≤ _; first | decide | omega) (show (⟨#[]⟩ : ByteArray).size ≤ 1000000000000000 by decide) (by decide +kernel)
      rwa [take_off (.inr (may_no (.inr (.inr (.inr (rng_not (by right; show 8 < 8 + (1 + m); omega)))))))] at this
  have HG := Lib.hid hG
  clear hG
  go_enter Try.func4, Try.ntmps4
  go_wp2_with (first | (go_at_call 13; with_reducible refine (awake_c _).mono ?_; rintro e w' ⟨rfl, hb⟩; have HB := bl_step (w := w) (by repeat (with_reducible first | exact HB | (refine bl_set ?_ (by omega)) | apply bl_alloc | apply bl_drew | apply bl_drewN | fail)) hb; have hzB := HB.size) | (go_at_call 14; with_reducible refine (hc.out _).mono ?_; rintro e w' ⟨rfl, hb⟩; have HB := bl_step (w := w) (by repeat (with_reducible first | exact HB | (refine bl_set ?_ (by omega)) | apply bl_alloc | apply bl_drew | apply bl_drewN | fail)) hb; have hzB := HB.size; have K0 := fun cs => Blk.new w' cs 23) | (go_at_call 10; with_reducible refine (t1.out _ _ _).mono ?_; rintro e w' ⟨rfl, hb⟩; have HB := bl_step (w := w) (by repeat (with_reducible first | exact HB | (refine bl_set ?_ (by omega)) | apply bl_alloc | apply bl_drew | apply bl_drewN | fail)) hb; have hzB := HB.size) | (go_at_call 12; with_reducible refine (enum_c _ _).mono ?_; rintro e w' ⟨rfl, rfl⟩) | fail)
  go_ret
  exact ⟨by simp, (by repeat (with_reducible first | exact Below.refl _ _ | assumption | (refine bl_set ?_ (by omega)) | apply bl_alloc | apply bl_drewN | apply bl_drew | (refine bl_step ?_ (by assumption)) | fail))⟩
set_option maxRecDepth 100000 in
set_option maxHeartbeats 6400000 in
theorem rforms_4 (x0 x1 m : Int) (G : ByteArray) (w : World) (hq : Int.tmod (IntKind.u64.wrap x0) 6 = 4) (hm : Go.bits .and .i64 x1 1023 = m) (m0 : 0 ≤ m) (m1 : m < 1024) (hG : G.size = 40)
    (hc : Hid (∀ W : World, Calls Try.prog 14 #[.int .i64 40] W fun e w' => e = .returned (hostV 1 G 0 false 0 ⟨#[]⟩ 0) ∧ Below W.heap.size W w')) :
    Calls Try.prog 4 #[.int .i64 x0, .int .i64 x1] w fun e w' => e = .returned (.bool true) ∧ Below w.heap.size w w' := by
  have HB := Below.refl w.heap.size w
  have t1 : Hid (∀ (a b : Bool) (W : World), Calls Try.prog 10 #[hostV (1) (⟨#[]⟩) (0) false (0) ⟨#[]⟩ 0, .agg #[.bool a, .bool b, .string ⟨#[]⟩]] W fun e w' => e = .returned (.tuple #[hostV 0 ⟨#[]⟩ 0 false 0 ⟨#[]⟩ 0, .int .i64 2300]) ∧ Below W.heap.size W w') :=
    Lib.hid fun a b W => by
      have := take_c ⟨1, ⟨#[]⟩, 0, false, 0, ⟨#[]⟩, 0⟩ a b ⟨#[]⟩ W (by show (⟨#[]⟩ : ByteArray).size ≤ _; first | decide | omega) (show (⟨#[]⟩ : ByteArray).size ≤ 1000000000000000 by decide) (by decide +kernel)
      rwa [take_off (.inr (may_no (.inr (.inl ⟨show (⟨#[]⟩ : ByteArray).toList.isEmpty = true by decide +kernel, show offB 1 = false by decide⟩))))] at this
  have HG := Lib.hid hG
  clear hG
  go_enter Try.func4, Try.ntmps4
  go_wp2_with (first | (go_at_call 13; with_reducible refine (awake_c _).mono ?_; rintro e w' ⟨rfl, hb⟩; have HB := bl_step (w := w) (by repeat (with_reducible first | exact HB | (refine bl_set ?_ (by omega)) | apply bl_alloc | apply bl_drew | apply bl_drewN | fail)) hb; have hzB := HB.size) | (go_at_call 14; with_reducible refine (hc.out _).mono ?_; rintro e w' ⟨rfl, hb⟩; have HB := bl_step (w := w) (by repeat (with_reducible first | exact HB | (refine bl_set ?_ (by omega)) | apply bl_alloc | apply bl_drew | apply bl_drewN | fail)) hb; have hzB := HB.size; have K0 := fun cs => Blk.new w' cs 23) | (go_at_call 10; with_reducible refine (t1.out _ _ _).mono ?_; rintro e w' ⟨rfl, hb⟩; have HB := bl_step (w := w) (by repeat (with_reducible first | exact HB | (refine bl_set ?_ (by omega)) | apply bl_alloc | apply bl_drew | apply bl_drewN | fail)) hb; have hzB := HB.size) | (go_at_call 12; with_reducible refine (enum_c _ _).mono ?_; rintro e w' ⟨rfl, rfl⟩) | fail)
  go_ret
  exact ⟨by simp, (by repeat (with_reducible first | exact Below.refl _ _ | assumption | (refine bl_set ?_ (by omega)) | apply bl_alloc | apply bl_drewN | apply bl_drew | (refine bl_step ?_ (by assumption)) | fail))⟩
set_option maxRecDepth 100000 in
set_option maxHeartbeats 6400000 in
theorem rforms_5 (x0 x1 m : Int) (G : ByteArray) (w : World) (hq : Int.tmod (IntKind.u64.wrap x0) 6 = 5) (hm : Go.bits .and .i64 x1 1023 = m) (m0 : 0 ≤ m) (m1 : m < 1024) (hG : G.size = 40)
    (hc : Hid (∀ W : World, Calls Try.prog 14 #[.int .i64 40] W fun e w' => e = .returned (hostV 1 G 0 false 0 ⟨#[]⟩ 0) ∧ Below W.heap.size W w')) :
    Calls Try.prog 4 #[.int .i64 x0, .int .i64 x1] w fun e w' => e = .returned (.bool true) ∧ Below w.heap.size w w' := by
  have HB := Below.refl w.heap.size w
  have t1 : Hid (∀ (a b : Bool) (W : World), Calls Try.prog 10 #[hostV (7 + (1 + m)) (G) (0) false (0) ⟨#[]⟩ 0, .agg #[.bool a, .bool b, .string ⟨#[]⟩]] W fun e w' => e = .returned (.tuple #[hostV 0 ⟨#[]⟩ 0 false 0 ⟨#[]⟩ 0, .int .i64 2300]) ∧ Below W.heap.size W w') :=
    Lib.hid fun a b W => by
      have := take_c ⟨7 + (1 + m), G, 0, false, 0, ⟨#[]⟩, 0⟩ a b ⟨#[]⟩ W (by show (G : ByteArray).size ≤ _; first | decide | omega) (show (⟨#[]⟩ : ByteArray).size ≤ 1000000000000000 by decide) (by decide +kernel)
      rwa [take_off (.inr (may_no (.inl (rng_not (by right; show 7 < 7 + (1 + m); omega)))))] at this
  have HG := Lib.hid hG
  clear hG
  go_enter Try.func4, Try.ntmps4
  go_wp2_with (first | (go_at_call 13; with_reducible refine (awake_c _).mono ?_; rintro e w' ⟨rfl, hb⟩; have HB := bl_step (w := w) (by repeat (with_reducible first | exact HB | (refine bl_set ?_ (by omega)) | apply bl_alloc | apply bl_drew | apply bl_drewN | fail)) hb; have hzB := HB.size) | (go_at_call 14; with_reducible refine (hc.out _).mono ?_; rintro e w' ⟨rfl, hb⟩; have HB := bl_step (w := w) (by repeat (with_reducible first | exact HB | (refine bl_set ?_ (by omega)) | apply bl_alloc | apply bl_drew | apply bl_drewN | fail)) hb; have hzB := HB.size; have K0 := fun cs => Blk.new w' cs 23) | (go_at_call 10; with_reducible refine (t1.out _ _ _).mono ?_; rintro e w' ⟨rfl, hb⟩; have HB := bl_step (w := w) (by repeat (with_reducible first | exact HB | (refine bl_set ?_ (by omega)) | apply bl_alloc | apply bl_drew | apply bl_drewN | fail)) hb; have hzB := HB.size) | (go_at_call 12; with_reducible refine (enum_c _ _).mono ?_; rintro e w' ⟨rfl, rfl⟩) | fail)
  go_ret
  exact ⟨by simp, (by repeat (with_reducible first | exact Below.refl _ _ | assumption | (refine bl_set ?_ (by omega)) | apply bl_alloc | apply bl_drewN | apply bl_drew | (refine bl_step ?_ (by assumption)) | fail))⟩
theorem rforms_w (x0 x1 : Int) (w : World) : Calls Try.prog 4 #[.int .i64 x0, .int .i64 x1] w fun e w' => e = .returned (.bool true) ∧ Below w.heap.size w w' := by
  have h0 : 0 ≤ Int.tmod (IntKind.u64.wrap x0) 6 ∧ Int.tmod (IntKind.u64.wrap x0) 6 < 6 := by
    have := Bt.wrapu x0
    rw [Int.tmod_eq_emod_of_nonneg this.1]
    omega
  have h2 := Bt.and1023 x1
  have hc := Lib.hid (fun W : World => carry_c 40 W (by decide) (by decide))
  rw [show ((40 : Nat) : Int) = 40 from rfl] at hc
  rcases (by omega : Int.tmod (IntKind.u64.wrap x0) 6 = 0 ∨ Int.tmod (IntKind.u64.wrap x0) 6 = 1 ∨ Int.tmod (IntKind.u64.wrap x0) 6 = 2 ∨ Int.tmod (IntKind.u64.wrap x0) 6 = 3 ∨ Int.tmod (IntKind.u64.wrap x0) 6 = 4 ∨ Int.tmod (IntKind.u64.wrap x0) 6 = 5) with h | h | h | h | h | h
  · exact rforms_0 x0 x1 _ _ w h rfl (by omega) (by omega) (cnt_size 40) hc
  · exact rforms_1 x0 x1 _ _ w h rfl (by omega) (by omega) (cnt_size 40) hc
  · exact rforms_2 x0 x1 _ _ w h rfl (by omega) (by omega) (cnt_size 40) hc
  · exact rforms_3 x0 x1 _ _ w h rfl (by omega) (by omega) (cnt_size 40) hc
  · exact rforms_4 x0 x1 _ _ w h rfl (by omega) (by omega) (cnt_size 40) hc
  · exact rforms_5 x0 x1 _ _ w h rfl (by omega) (by omega) (cnt_size 40) hc
end Go.Proofs.Ythoonffbadhplaa.Rp
