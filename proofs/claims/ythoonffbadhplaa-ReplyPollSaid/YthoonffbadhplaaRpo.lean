/- Layer 23: the law's walk: ReplyLost. -/
import Derived.Test.YthoonffbadhplaaRpl
import Derived.Test.YthoonffbadhplaaBits
namespace Go.Proofs.Ythoonffbadhplaa.Rp
open Go.RowKit Go.Proofs.Ythoonffbadhplaa.Kt Go.Proofs.Ythoonffbadhplaa.Lw Go.Proofs.Ythoonffbadhplaa.St Go.Proofs.Ythoonffbadhplaa.Nm Go.Proofs.Ythoonffbadhplaa.An Go.Proofs.Ythoonffbadhplaa.Ho Go.Proofs.Ythoonffbadhplaa.Es
set_option linter.unusedVariables false
set_option linter.unusedSimpArgs false
attribute [local go_sem high] eqHost
set_option maxRecDepth 100000 in
set_option maxHeartbeats 6400000 in
theorem rlost_1 (x0 x2 t : Int) (ag : Bool) (G : ByteArray) (w : World) (hq : wrap64 (Int.tmod (IntKind.u64.wrap x0) 6) = 0) (ht : Go.bits .and .i64 x2 7 = t) (t0 : 0 ≤ t) (t1 : t < 8) (hG : G.size = 40)
    (hc : Hid (∀ W : World, Calls Try.prog 14 #[.int .i64 40] W fun e w' => e = .returned (hostV 1 G 0 false 0 ⟨#[]⟩ 0) ∧ Below W.heap.size W w')) :
    Calls Try.prog 9 #[.int .i64 x0, .bool ag, .int .i64 x2] w fun e w' => e = .returned (.bool true) ∧ Below w.heap.size w w' := by
  have HB := Below.refl w.heap.size w
  have ok : HS.Ok ⟨1, G, 1, ag, t, ⟨#[]⟩, 0⟩ := ok_any (by omega) (by omega) (by decide) (by decide) (by decide) (by omega) t0 (by omega) (by decide) (by decide) (by decide)
  have tk := Lib.hid (fun W : World => take_c ⟨1, G, 1, ag, t, ⟨#[]⟩, 0⟩ true ag ⟨#[120, 121, 122]⟩ W (by show G.size ≤ _; omega) (show (⟨#[]⟩ : ByteArray).size ≤ 1000000000000000 by decide) (by decide +kernel))
  rw [take_on ok, show takeH ⟨1, G, 1, ag, t, ⟨#[]⟩, 0⟩ true ag ⟨#[120, 121, 122]⟩ = ⟨1, G, 0, false, t + 1, ⟨#[]⟩, 0⟩ by simp [takeH, lostH, t1]] at tk
  have HG := Lib.hid hG
  clear hG ok
  go_enter Try.func9, Try.ntmps9
  go_wp2_with (first | (go_at_call 13; with_reducible refine (awake_c _).mono ?_; rintro e w' ⟨rfl, hb⟩; have HB := bl_step (w := w) (by repeat (with_reducible first | exact HB | (refine bl_set ?_ (by omega)) | apply bl_alloc | apply bl_drew | apply bl_drewN | fail)) hb; have hzB := HB.size) | (go_at_call 14; with_reducible refine (hc.out _).mono ?_; rintro e w' ⟨rfl, hb⟩; have HB := bl_step (w := w) (by repeat (with_reducible first | exact HB | (refine bl_set ?_ (by omega)) | apply bl_alloc | apply bl_drew | apply bl_drewN | fail)) hb; have hzB := HB.size; have K0 := fun cs => Blk.new w' cs 23) | (go_at_call 10; with_reducible refine (tk.out _).mono ?_; rintro e w' ⟨rfl, hb⟩; have HB := bl_step (w := w) (by repeat (with_reducible first | exact HB | (refine bl_set ?_ (by omega)) | apply bl_alloc | apply bl_drew | apply bl_drewN | fail)) hb; have hzB := HB.size; have K0 := Blk.on (by first | exact K0 | exact K0 #[] | exact K0 (.cells #[] 0) #[]) (by repeat (with_reducible first | exact K0 | exact K0 _ | exact K0 _ _ | apply Blk.alloc | apply Blk.drew | apply Blk.drewN | apply Blk.set7_0 | apply Blk.set7_1 | apply Blk.set7_2 | apply Blk.set7_3 | apply Blk.set7_4 | apply Blk.set7_5 | apply Blk.set7_6 | (apply Blk.off; (first | assumption | omega | (simp; omega))) | fail)) hb; (try clear cK0_0 cK0_1 cK0_2 cK0_3 cK0_4 cK0_5 cK0_6 fK0 lK0 nK0 mK0); obtain ⟨cK0_0, cK0_1, cK0_2, cK0_3, cK0_4, cK0_5, cK0_6, fK0, lK0, nK0, mK0⟩ := Blk.all7 K0; have K1 := fun cs => Blk.new w' cs 23) | (go_at_call 12; with_reducible refine (enum_c _ _).mono ?_; rintro e w' ⟨rfl, rfl⟩) | fail)
  go_ret
  exact ⟨by simp, (by repeat (with_reducible first | exact Below.refl _ _ | assumption | (refine bl_set ?_ (by omega)) | apply bl_alloc | apply bl_drewN | apply bl_drew | (refine bl_step ?_ (by assumption)) | fail))⟩
set_option maxRecDepth 100000 in
set_option maxHeartbeats 6400000 in
theorem rlost_2 (x0 x2 t : Int) (ag : Bool) (G : ByteArray) (w : World) (hq : wrap64 (Int.tmod (IntKind.u64.wrap x0) 6) = 1) (ht : Go.bits .and .i64 x2 7 = t) (t0 : 0 ≤ t) (t1 : t < 8) (hG : G.size = 40)
    (hc : Hid (∀ W : World, Calls Try.prog 14 #[.int .i64 40] W fun e w' => e = .returned (hostV 1 G 0 false 0 ⟨#[]⟩ 0) ∧ Below W.heap.size W w')) :
    Calls Try.prog 9 #[.int .i64 x0, .bool ag, .int .i64 x2] w fun e w' => e = .returned (.bool true) ∧ Below w.heap.size w w' := by
  have HB := Below.refl w.heap.size w
  have ok : HS.Ok ⟨2, G, 1, ag, t, ⟨#[]⟩, 0⟩ := ok_any (by omega) (by omega) (by decide) (by decide) (by decide) (by omega) t0 (by omega) (by decide) (by decide) (by decide)
  have tk := Lib.hid (fun W : World => take_c ⟨2, G, 1, ag, t, ⟨#[]⟩, 0⟩ true ag ⟨#[120, 121, 122]⟩ W (by show G.size ≤ _; omega) (show (⟨#[]⟩ : ByteArray).size ≤ 1000000000000000 by decide) (by decide +kernel))
  rw [take_on ok, show takeH ⟨2, G, 1, ag, t, ⟨#[]⟩, 0⟩ true ag ⟨#[120, 121, 122]⟩ = ⟨3, G, 1, true, t + 1, ⟨#[]⟩, 0⟩ by simp [takeH, lostH, t1]] at tk
  have HG := Lib.hid hG
  clear hG ok
  go_enter Try.func9, Try.ntmps9
  go_wp2_with (first | (go_at_call 13; with_reducible refine (awake_c _).mono ?_; rintro e w' ⟨rfl, hb⟩; have HB := bl_step (w := w) (by repeat (with_reducible first | exact HB | (refine bl_set ?_ (by omega)) | apply bl_alloc | apply bl_drew | apply bl_drewN | fail)) hb; have hzB := HB.size) | (go_at_call 14; with_reducible refine (hc.out _).mono ?_; rintro e w' ⟨rfl, hb⟩; have HB := bl_step (w := w) (by repeat (with_reducible first | exact HB | (refine bl_set ?_ (by omega)) | apply bl_alloc | apply bl_drew | apply bl_drewN | fail)) hb; have hzB := HB.size; have K0 := fun cs => Blk.new w' cs 23) | (go_at_call 10; with_reducible refine (tk.out _).mono ?_; rintro e w' ⟨rfl, hb⟩; have HB := bl_step (w := w) (by repeat (with_reducible first | exact HB | (refine bl_set ?_ (by omega)) | apply bl_alloc | apply bl_drew | apply bl_drewN | fail)) hb; have hzB := HB.size; have K0 := Blk.on (by first | exact K0 | exact K0 #[] | exact K0 (.cells #[] 0) #[]) (by repeat (with_reducible first | exact K0 | exact K0 _ | exact K0 _ _ | apply Blk.alloc | apply Blk.drew | apply Blk.drewN | apply Blk.set7_0 | apply Blk.set7_1 | apply Blk.set7_2 | apply Blk.set7_3 | apply Blk.set7_4 | apply Blk.set7_5 | apply Blk.set7_6 | (apply Blk.off; (first | assumption | omega | (simp; omega))) | fail)) hb; (try clear cK0_0 cK0_1 cK0_2 cK0_3 cK0_4 cK0_5 cK0_6 fK0 lK0 nK0 mK0); obtain ⟨cK0_0, cK0_1, cK0_2, cK0_3, cK0_4, cK0_5, cK0_6, fK0, lK0, nK0, mK0⟩ := Blk.all7 K0; have K1 := fun cs => Blk.new w' cs 23) | (go_at_call 12; with_reducible refine (enum_c _ _).mono ?_; rintro e w' ⟨rfl, rfl⟩) | fail)
  go_ret
  exact ⟨by simp, (by repeat (with_reducible first | exact Below.refl _ _ | assumption | (refine bl_set ?_ (by omega)) | apply bl_alloc | apply bl_drewN | apply bl_drew | (refine bl_step ?_ (by assumption)) | fail))⟩
set_option maxRecDepth 100000 in
set_option maxHeartbeats 6400000 in
theorem rlost_3 (x0 x2 t : Int) (ag : Bool) (G : ByteArray) (w : World) (hq : wrap64 (Int.tmod (IntKind.u64.wrap x0) 6) = 2) (ht : Go.bits .and .i64 x2 7 = t) (t0 : 0 ≤ t) (t1 : t < 8) (hG : G.size = 40)
    (hc : Hid (∀ W : World, Calls Try.prog 14 #[.int .i64 40] W fun e w' => e = .returned (hostV 1 G 0 false 0 ⟨#[]⟩ 0) ∧ Below W.heap.size W w')) :
    Calls Try.prog 9 #[.int .i64 x0, .bool ag, .int .i64 x2] w fun e w' => e = .returned (.bool true) ∧ Below w.heap.size w w' := by
  have HB := Below.refl w.heap.size w
  have ok : HS.Ok ⟨3, G, 1, ag, t, ⟨#[]⟩, 0⟩ := ok_any (by omega) (by omega) (by decide) (by decide) (by decide) (by omega) t0 (by omega) (by decide) (by decide) (by decide)
  have tk := Lib.hid (fun W : World => take_c ⟨3, G, 1, ag, t, ⟨#[]⟩, 0⟩ true ag ⟨#[120, 121, 122]⟩ W (by show G.size ≤ _; omega) (show (⟨#[]⟩ : ByteArray).size ≤ 1000000000000000 by decide) (by decide +kernel))
  rw [take_on ok, show takeH ⟨3, G, 1, ag, t, ⟨#[]⟩, 0⟩ true ag ⟨#[120, 121, 122]⟩ = ⟨3, G, 1, ag, t + 1, ⟨#[]⟩, 0⟩ by simp [takeH, lostH, t1]] at tk
  have HG := Lib.hid hG
  clear hG ok
  go_enter Try.func9, Try.ntmps9
  go_wp2_with (first | (go_at_call 13; with_reducible refine (awake_c _).mono ?_; rintro e w' ⟨rfl, hb⟩; have HB := bl_step (w := w) (by repeat (with_reducible first | exact HB | (refine bl_set ?_ (by omega)) | apply bl_alloc | apply bl_drew | apply bl_drewN | fail)) hb; have hzB := HB.size) | (go_at_call 14; with_reducible refine (hc.out _).mono ?_; rintro e w' ⟨rfl, hb⟩; have HB := bl_step (w := w) (by repeat (with_reducible first | exact HB | (refine bl_set ?_ (by omega)) | apply bl_alloc | apply bl_drew | apply bl_drewN | fail)) hb; have hzB := HB.size; have K0 := fun cs => Blk.new w' cs 23) | (go_at_call 10; with_reducible refine (tk.out _).mono ?_; rintro e w' ⟨rfl, hb⟩; have HB := bl_step (w := w) (by repeat (with_reducible first | exact HB | (refine bl_set ?_ (by omega)) | apply bl_alloc | apply bl_drew | apply bl_drewN | fail)) hb; have hzB := HB.size; have K0 := Blk.on (by first | exact K0 | exact K0 #[] | exact K0 (.cells #[] 0) #[]) (by repeat (with_reducible first | exact K0 | exact K0 _ | exact K0 _ _ | apply Blk.alloc | apply Blk.drew | apply Blk.drewN | apply Blk.set7_0 | apply Blk.set7_1 | apply Blk.set7_2 | apply Blk.set7_3 | apply Blk.set7_4 | apply Blk.set7_5 | apply Blk.set7_6 | (apply Blk.off; (first | assumption | omega | (simp; omega))) | fail)) hb; (try clear cK0_0 cK0_1 cK0_2 cK0_3 cK0_4 cK0_5 cK0_6 fK0 lK0 nK0 mK0); obtain ⟨cK0_0, cK0_1, cK0_2, cK0_3, cK0_4, cK0_5, cK0_6, fK0, lK0, nK0, mK0⟩ := Blk.all7 K0; have K1 := fun cs => Blk.new w' cs 23) | (go_at_call 12; with_reducible refine (enum_c _ _).mono ?_; rintro e w' ⟨rfl, rfl⟩) | fail)
  go_ret
  exact ⟨by simp, (by repeat (with_reducible first | exact Below.refl _ _ | assumption | (refine bl_set ?_ (by omega)) | apply bl_alloc | apply bl_drewN | apply bl_drew | (refine bl_step ?_ (by assumption)) | fail))⟩
set_option maxRecDepth 100000 in
set_option maxHeartbeats 6400000 in
theorem rlost_4 (x0 x2 t : Int) (ag : Bool) (G : ByteArray) (w : World) (hq : wrap64 (Int.tmod (IntKind.u64.wrap x0) 6) = 3) (ht : Go.bits .and .i64 x2 7 = t) (t0 : 0 ≤ t) (t1 : t < 8) (hG : G.size = 40)
    (hc : Hid (∀ W : World, Calls Try.prog 14 #[.int .i64 40] W fun e w' => e = .returned (hostV 1 G 0 false 0 ⟨#[]⟩ 0) ∧ Below W.heap.size W w')) :
    Calls Try.prog 9 #[.int .i64 x0, .bool ag, .int .i64 x2] w fun e w' => e = .returned (.bool true) ∧ Below w.heap.size w w' := by
  have HB := Below.refl w.heap.size w
  have ok : HS.Ok ⟨4, G, 1, ag, t, ⟨#[]⟩, 0⟩ := ok_any (by omega) (by omega) (by decide) (by decide) (by decide) (by omega) t0 (by omega) (by decide) (by decide) (by decide)
  have tk := Lib.hid (fun W : World => take_c ⟨4, G, 1, ag, t, ⟨#[]⟩, 0⟩ true ag ⟨#[120, 121, 122]⟩ W (by show G.size ≤ _; omega) (show (⟨#[]⟩ : ByteArray).size ≤ 1000000000000000 by decide) (by decide +kernel))
  rw [take_on ok, show takeH ⟨4, G, 1, ag, t, ⟨#[]⟩, 0⟩ true ag ⟨#[120, 121, 122]⟩ = ⟨5, G, 1, true, t + 1, ⟨#[]⟩, 0⟩ by simp [takeH, lostH, t1]] at tk
  have HG := Lib.hid hG
  clear hG ok
  go_enter Try.func9, Try.ntmps9
  go_wp2_with (first | (go_at_call 13; with_reducible refine (awake_c _).mono ?_; rintro e w' ⟨rfl, hb⟩; have HB := bl_step (w := w) (by repeat (with_reducible first | exact HB | (refine bl_set ?_ (by omega)) | apply bl_alloc | apply bl_drew | apply bl_drewN | fail)) hb; have hzB := HB.size) | (go_at_call 14; with_reducible refine (hc.out _).mono ?_; rintro e w' ⟨rfl, hb⟩; have HB := bl_step (w := w) (by repeat (with_reducible first | exact HB | (refine bl_set ?_ (by omega)) | apply bl_alloc | apply bl_drew | apply bl_drewN | fail)) hb; have hzB := HB.size; have K0 := fun cs => Blk.new w' cs 23) | (go_at_call 10; with_reducible refine (tk.out _).mono ?_; rintro e w' ⟨rfl, hb⟩; have HB := bl_step (w := w) (by repeat (with_reducible first | exact HB | (refine bl_set ?_ (by omega)) | apply bl_alloc | apply bl_drew | apply bl_drewN | fail)) hb; have hzB := HB.size; have K0 := Blk.on (by first | exact K0 | exact K0 #[] | exact K0 (.cells #[] 0) #[]) (by repeat (with_reducible first | exact K0 | exact K0 _ | exact K0 _ _ | apply Blk.alloc | apply Blk.drew | apply Blk.drewN | apply Blk.set7_0 | apply Blk.set7_1 | apply Blk.set7_2 | apply Blk.set7_3 | apply Blk.set7_4 | apply Blk.set7_5 | apply Blk.set7_6 | (apply Blk.off; (first | assumption | omega | (simp; omega))) | fail)) hb; (try clear cK0_0 cK0_1 cK0_2 cK0_3 cK0_4 cK0_5 cK0_6 fK0 lK0 nK0 mK0); obtain ⟨cK0_0, cK0_1, cK0_2, cK0_3, cK0_4, cK0_5, cK0_6, fK0, lK0, nK0, mK0⟩ := Blk.all7 K0; have K1 := fun cs => Blk.new w' cs 23) | (go_at_call 12; with_reducible refine (enum_c _ _).mono ?_; rintro e w' ⟨rfl, rfl⟩) | fail)
  go_ret
  exact ⟨by simp, (by repeat (with_reducible first | exact Below.refl _ _ | assumption | (refine bl_set ?_ (by omega)) | apply bl_alloc | apply bl_drewN | apply bl_drew | (refine bl_step ?_ (by assumption)) | fail))⟩
set_option maxRecDepth 100000 in
set_option maxHeartbeats 6400000 in
theorem rlost_5 (x0 x2 t : Int) (ag : Bool) (G : ByteArray) (w : World) (hq : wrap64 (Int.tmod (IntKind.u64.wrap x0) 6) = 4) (ht : Go.bits .and .i64 x2 7 = t) (t0 : 0 ≤ t) (t1 : t < 8) (hG : G.size = 40)
    (hc : Hid (∀ W : World, Calls Try.prog 14 #[.int .i64 40] W fun e w' => e = .returned (hostV 1 G 0 false 0 ⟨#[]⟩ 0) ∧ Below W.heap.size W w')) :
    Calls Try.prog 9 #[.int .i64 x0, .bool ag, .int .i64 x2] w fun e w' => e = .returned (.bool true) ∧ Below w.heap.size w w' := by
  have HB := Below.refl w.heap.size w
  have ok : HS.Ok ⟨5, G, 1, ag, t, ⟨#[]⟩, 0⟩ := ok_any (by omega) (by omega) (by decide) (by decide) (by decide) (by omega) t0 (by omega) (by decide) (by decide) (by decide)
  have tk := Lib.hid (fun W : World => take_c ⟨5, G, 1, ag, t, ⟨#[]⟩, 0⟩ true ag ⟨#[120, 121, 122]⟩ W (by show G.size ≤ _; omega) (show (⟨#[]⟩ : ByteArray).size ≤ 1000000000000000 by decide) (by decide +kernel))
  rw [take_on ok, show takeH ⟨5, G, 1, ag, t, ⟨#[]⟩, 0⟩ true ag ⟨#[120, 121, 122]⟩ = ⟨5, G, 1, ag, t + 1, ⟨#[]⟩, 0⟩ by simp [takeH, lostH, t1]] at tk
  have HG := Lib.hid hG
  clear hG ok
  go_enter Try.func9, Try.ntmps9
  go_wp2_with (first | (go_at_call 13; with_reducible refine (awake_c _).mono ?_; rintro e w' ⟨rfl, hb⟩; have HB := bl_step (w := w) (by repeat (with_reducible first | exact HB | (refine bl_set ?_ (by omega)) | apply bl_alloc | apply bl_drew | apply bl_drewN | fail)) hb; have hzB := HB.size) | (go_at_call 14; with_reducible refine (hc.out _).mono ?_; rintro e w' ⟨rfl, hb⟩; have HB := bl_step (w := w) (by repeat (with_reducible first | exact HB | (refine bl_set ?_ (by omega)) | apply bl_alloc | apply bl_drew | apply bl_drewN | fail)) hb; have hzB := HB.size; have K0 := fun cs => Blk.new w' cs 23) | (go_at_call 10; with_reducible refine (tk.out _).mono ?_; rintro e w' ⟨rfl, hb⟩; have HB := bl_step (w := w) (by repeat (with_reducible first | exact HB | (refine bl_set ?_ (by omega)) | apply bl_alloc | apply bl_drew | apply bl_drewN | fail)) hb; have hzB := HB.size; have K0 := Blk.on (by first | exact K0 | exact K0 #[] | exact K0 (.cells #[] 0) #[]) (by repeat (with_reducible first | exact K0 | exact K0 _ | exact K0 _ _ | apply Blk.alloc | apply Blk.drew | apply Blk.drewN | apply Blk.set7_0 | apply Blk.set7_1 | apply Blk.set7_2 | apply Blk.set7_3 | apply Blk.set7_4 | apply Blk.set7_5 | apply Blk.set7_6 | (apply Blk.off; (first | assumption | omega | (simp; omega))) | fail)) hb; (try clear cK0_0 cK0_1 cK0_2 cK0_3 cK0_4 cK0_5 cK0_6 fK0 lK0 nK0 mK0); obtain ⟨cK0_0, cK0_1, cK0_2, cK0_3, cK0_4, cK0_5, cK0_6, fK0, lK0, nK0, mK0⟩ := Blk.all7 K0; have K1 := fun cs => Blk.new w' cs 23) | (go_at_call 12; with_reducible refine (enum_c _ _).mono ?_; rintro e w' ⟨rfl, rfl⟩) | fail)
  go_ret
  exact ⟨by simp, (by repeat (with_reducible first | exact Below.refl _ _ | assumption | (refine bl_set ?_ (by omega)) | apply bl_alloc | apply bl_drewN | apply bl_drew | (refine bl_step ?_ (by assumption)) | fail))⟩
set_option maxRecDepth 100000 in
set_option maxHeartbeats 6400000 in
theorem rlost_6 (x0 x2 t : Int) (ag : Bool) (G : ByteArray) (w : World) (hq : wrap64 (Int.tmod (IntKind.u64.wrap x0) 6) = 5) (ht : Go.bits .and .i64 x2 7 = t) (t0 : 0 ≤ t) (t1 : t < 8) (hG : G.size = 40)
    (hc : Hid (∀ W : World, Calls Try.prog 14 #[.int .i64 40] W fun e w' => e = .returned (hostV 1 G 0 false 0 ⟨#[]⟩ 0) ∧ Below W.heap.size W w')) :
    Calls Try.prog 9 #[.int .i64 x0, .bool ag, .int .i64 x2] w fun e w' => e = .returned (.bool true) ∧ Below w.heap.size w w' := by
  have HB := Below.refl w.heap.size w
  have ok : HS.Ok ⟨6, G, 1, ag, t, ⟨#[]⟩, 0⟩ := ok_any (by omega) (by omega) (by decide) (by decide) (by decide) (by omega) t0 (by omega) (by decide) (by decide) (by decide)
  have tk := Lib.hid (fun W : World => take_c ⟨6, G, 1, ag, t, ⟨#[]⟩, 0⟩ true ag ⟨#[120, 121, 122]⟩ W (by show G.size ≤ _; omega) (show (⟨#[]⟩ : ByteArray).size ≤ 1000000000000000 by decide) (by decide +kernel))
  rw [take_on ok, show takeH ⟨6, G, 1, ag, t, ⟨#[]⟩, 0⟩ true ag ⟨#[120, 121, 122]⟩ = ⟨1, G, 1, true, t + 1, ⟨#[33]⟩, 0⟩ by simp [takeH, lostH, t1]] at tk
  have HG := Lib.hid hG
  clear hG ok
  go_enter Try.func9, Try.ntmps9
  go_wp2_with (first | (go_at_call 13; with_reducible refine (awake_c _).mono ?_; rintro e w' ⟨rfl, hb⟩; have HB := bl_step (w := w) (by repeat (with_reducible first | exact HB | (refine bl_set ?_ (by omega)) | apply bl_alloc | apply bl_drew | apply bl_drewN | fail)) hb; have hzB := HB.size) | (go_at_call 14; with_reducible refine (hc.out _).mono ?_; rintro e w' ⟨rfl, hb⟩; have HB := bl_step (w := w) (by repeat (with_reducible first | exact HB | (refine bl_set ?_ (by omega)) | apply bl_alloc | apply bl_drew | apply bl_drewN | fail)) hb; have hzB := HB.size; have K0 := fun cs => Blk.new w' cs 23) | (go_at_call 10; with_reducible refine (tk.out _).mono ?_; rintro e w' ⟨rfl, hb⟩; have HB := bl_step (w := w) (by repeat (with_reducible first | exact HB | (refine bl_set ?_ (by omega)) | apply bl_alloc | apply bl_drew | apply bl_drewN | fail)) hb; have hzB := HB.size; have K0 := Blk.on (by first | exact K0 | exact K0 #[] | exact K0 (.cells #[] 0) #[]) (by repeat (with_reducible first | exact K0 | exact K0 _ | exact K0 _ _ | apply Blk.alloc | apply Blk.drew | apply Blk.drewN | apply Blk.set7_0 | apply Blk.set7_1 | apply Blk.set7_2 | apply Blk.set7_3 | apply Blk.set7_4 | apply Blk.set7_5 | apply Blk.set7_6 | (apply Blk.off; (first | assumption | omega | (simp; omega))) | fail)) hb; (try clear cK0_0 cK0_1 cK0_2 cK0_3 cK0_4 cK0_5 cK0_6 fK0 lK0 nK0 mK0); obtain ⟨cK0_0, cK0_1, cK0_2, cK0_3, cK0_4, cK0_5, cK0_6, fK0, lK0, nK0, mK0⟩ := Blk.all7 K0; have K1 := fun cs => Blk.new w' cs 23) | (go_at_call 12; with_reducible refine (enum_c _ _).mono ?_; rintro e w' ⟨rfl, rfl⟩) | fail)
  go_ret
  exact ⟨by simp, (by repeat (with_reducible first | exact Below.refl _ _ | assumption | (refine bl_set ?_ (by omega)) | apply bl_alloc | apply bl_drewN | apply bl_drew | (refine bl_step ?_ (by assumption)) | fail))⟩
theorem umod64 (x m : Int) (h0 : 0 < m) (h1 : m ≤ 1000000) : 0 ≤ wrap64 (Int.tmod (IntKind.u64.wrap x) m) ∧ wrap64 (Int.tmod (IntKind.u64.wrap x) m) < m := by
  have h := Bt.umod x m h0 h1
  simp only [IntKind.wrap_i64] at h
  unfold wrap64; exact h
theorem rlost_w (x0 : Int) (ag : Bool) (x2 : Int) (w : World) : Calls Try.prog 9 #[.int .i64 x0, .bool ag, .int .i64 x2] w fun e w' => e = .returned (.bool true) ∧ Below w.heap.size w w' := by
  have h0 := umod64 x0 6 (by decide) (by decide)
  have h2 := Bt.and7 x2
  have hc := Lib.hid (fun W : World => carry_c 40 W (by decide) (by decide))
  rw [show ((40 : Nat) : Int) = 40 from rfl] at hc
  rcases (by omega : wrap64 (Int.tmod (IntKind.u64.wrap x0) 6) = 0 ∨ wrap64 (Int.tmod (IntKind.u64.wrap x0) 6) = 1 ∨ wrap64 (Int.tmod (IntKind.u64.wrap x0) 6) = 2 ∨ wrap64 (Int.tmod (IntKind.u64.wrap x0) 6) = 3 ∨ wrap64 (Int.tmod (IntKind.u64.wrap x0) 6) = 4 ∨ wrap64 (Int.tmod (IntKind.u64.wrap x0) 6) = 5) with h | h | h | h | h | h
  · exact rlost_1 x0 x2 _ ag _ w h rfl (by omega) (by omega) (cnt_size 40) hc
  · exact rlost_2 x0 x2 _ ag _ w h rfl (by omega) (by omega) (cnt_size 40) hc
  · exact rlost_3 x0 x2 _ ag _ w h rfl (by omega) (by omega) (cnt_size 40) hc
  · exact rlost_4 x0 x2 _ ag _ w h rfl (by omega) (by omega) (cnt_size 40) hc
  · exact rlost_5 x0 x2 _ ag _ w h rfl (by omega) (by omega) (cnt_size 40) hc
  · exact rlost_6 x0 x2 _ ag _ w h rfl (by omega) (by omega) (cnt_size 40) hc
end Go.Proofs.Ythoonffbadhplaa.Rp
