/- Layer 6: a record's image: what the program's and the references' functions answer. -/
import Derived.Test.YtimnhdmpfndeaaaJrd
import Derived.Test.YtimnhdmpfndeaaaCrc
namespace Go.Proofs.Ytimnhdmpfndeaaa.Im
open Go.RowKit Go.Proofs.Ytimnhdmpfndeaaa.Kt Go.Proofs.Ytimnhdmpfndeaaa.Lw Go.Proofs.Ytimnhdmpfndeaaa.St Go.Proofs.Ytimnhdmpfndeaaa.Nm Go.Proofs.Ytimnhdmpfndeaaa.By Go.Proofs.Ytimnhdmpfndeaaa.En Go.Proofs.Ytimnhdmpfndeaaa.Jr Go.Proofs.Ytimnhdmpfndeaaa.Cr
set_option linter.unusedVariables false
set_option linter.unusedSimpArgs false
/-- where a slot begins, a record's image, whether that has its sum. -/
def baseN (s : Int) : Nat := ((2 + 3 * s) * 96).toNat
def imgB (f : ByteArray) (s z : Int) : ByteArray := f.extract (baseN s) (baseN s + z.toNat)
def goodB (f : ByteArray) (s z m : Int) : Bool := crcB (imgB f s z) == m
theorem base_le {s : Int} (h0 : 0 ≤ s) (h1 : s ≤ 1) : baseN s ≤ 480 ∧ 192 ≤ baseN s := by unfold baseN; omega
theorem sector_c (s : Int) (w : World) (h0 : 0 ≤ s) (h1 : s ≤ 1) : Calls Try.prog 111 #[.int .i64 s] w fun e w' => e = .returned (.int .i64 (2 + 3 * s)) ∧ w = w' := by
  go_enter Try.func111, Try.ntmps111
  go_wp2
  go_ret
  exact ⟨rfl, rfl⟩
theorem begin2_c (s : Int) (w : World) (h0 : 0 ≤ s) (h1 : s ≤ 1) : Calls Try.prog 38 #[.int .i64 (2 + 3 * s)] w fun e w' => e = .returned (.int .i64 (baseN s)) ∧ w = w' := by
  have h := begin_c (2 + 3 * s) w (by omega) (by omega)
  rwa [show (2 + 3 * s) * 96 = (baseN s : Int) by unfold baseN; omega] at h
theorem base_c (s : Int) (w : World) (h0 : 0 ≤ s) (h1 : s ≤ 1) : Calls Try.prog 99 #[.int .i64 s] w fun e w' => e = .returned (.tuple #[.int .i64 (baseN s), .int .i64 0]) ∧ w = w' := by
  have ss := Lib.hid (fun W : World => slot_c s W)
  rw [show rngB s 0 1 = true by simp [rngB]; omega] at ss
  go_enter Try.func99, Try.ntmps99
  go_wp2_with (first | (go_at_call 77; with_reducible refine (ss.out _).mono ?_; rintro e w' ⟨rfl, rfl⟩) | (go_at_call 111; with_reducible refine (sector_c s _ h0 h1).mono ?_; rintro e w' ⟨rfl, rfl⟩) | (go_at_call 38; with_reducible refine (begin2_c s _ h0 h1).mono ?_; rintro e w' ⟨rfl, rfl⟩) | fail)
  go_ret2
  exact ⟨rfl, rfl⟩
theorem rbase_c (s : Int) (w : World) (h0 : 0 ≤ s) (h1 : s ≤ 1) : Calls Try.prog 43 #[.int .i64 s] w fun e w' => e = .returned (.tuple #[.int .i64 (baseN s), .int .i64 0]) ∧ w = w' := by
  have uu := Lib.hid (fun W : World => upTo_c s 0 1 W)
  rw [show rngB s 0 1 = true by simp [rngB]; omega] at uu
  have hb : (2 + 3 * s) * 96 = (baseN s : Int) := by unfold baseN; omega
  go_enter Try.func43, Try.ntmps43
  go_wp2_with (first | (go_at_call 44; with_reducible refine (uu.out _).mono ?_; rintro e w' ⟨rfl, rfl⟩) | fail)
  go_ret2
  exact ⟨rfl, rfl⟩
theorem may_parts {q s z m : Int} (h : recMay q s z m = true) : (1 ≤ q ∧ q ≤ 1048576) ∧ (0 ≤ s ∧ s ≤ 1) ∧ (1 ≤ z ∧ z ≤ 288) ∧ (0 ≤ m ∧ m ≤ 4294967295) := by
  simp [recMay, rngB] at h
  omega
set_option maxHeartbeats 1600000 in
theorem of_c (f : ByteArray) (q s z m : Int) (w : World) (hf : f.size = 768) (hm : recMay q s z m = true) : Calls Try.prog 103 #[.string f, .agg #[.int .i64 q, .int .i64 s, .int .i64 z, .int .i64 m]] w fun e w' => e = .returned (.tuple #[.string (imgB f s z), .int .i64 0]) ∧ Below w.heap.size w w' := by
  have HB := Below.refl w.heap.size w
  have K0 := Blk.new w #[.int .i64 q, .int .i64 s, .int .i64 z, .int .i64 m] 23
  obtain ⟨_, ⟨s0, s1⟩, ⟨z0, z1⟩, _⟩ := may_parts hm
  have mm := Lib.hid (fun W : World => may_c f W (by omega))
  rw [decide_eq_true hf] at mm
  have rr := Lib.hid (fun W : World => recMay_c q s z m W)
  rw [hm] at rr
  have hb := base_le s0 s1
  obtain ⟨n, rfl⟩ := Int.eq_ofNat_of_zero_le (show 0 ≤ z by omega)
  have bb := Lib.hid (fun W : World => base_c s W s0 s1)
  have hv := Lib.hid (show imgB f s (n : Int) = f.extract (baseN s) (baseN s + n) from rfl)
  obtain ⟨hb1, hb2⟩ := hb
  generalize imgB f s (n : Int) = I at *
  generalize baseN s = b at *
  have h1 : b + n ≤ f.size := by omega
  have h2 : (b : Int) + (n : Int) ≤ (f.size : Int) := by omega
  have h3 : b ≤ f.size := by omega
  clear hm hf
  go_enter Try.func103, Try.ntmps103
  go_wp2_with (first | (go_at_call 35; with_reducible refine (mm.out _).mono ?_; rintro e w' ⟨rfl, rfl⟩) | (go_at_call 60; with_reducible refine (rr.out _).mono ?_; rintro e w' ⟨rfl, hb⟩; have HB := bl_step (w := w) (by repeat (with_reducible first | exact HB | (refine bl_set ?_ (by omega)) | apply bl_alloc | apply bl_drew | apply bl_drewN | fail)) hb; have hzB := HB.size; have K0 := Blk.on (by first | exact K0 | exact K0 #[] | exact K0 (.cells #[] 0) #[]) (by repeat (with_reducible first | exact K0 | exact K0 _ | exact K0 _ _ | apply Blk.alloc | apply Blk.drew | apply Blk.drewN | apply Blk.set4_0 | apply Blk.set4_1 | apply Blk.set4_2 | apply Blk.set4_3 | (apply Blk.off; (first | assumption | omega | (simp; omega))) | fail)) hb; (try clear cK0_0 cK0_1 cK0_2 cK0_3 fK0 lK0 nK0 mK0); obtain ⟨cK0_0, cK0_1, cK0_2, cK0_3, fK0, lK0, nK0, mK0⟩ := Blk.all4 K0) | (go_at_call 99; with_reducible refine (bb.out _).mono ?_; rintro e w' ⟨rfl, rfl⟩) | fail)
  go_ret2
  exact ⟨by rw [hv.out]; rfl, HB⟩
set_option maxHeartbeats 1600000 in
theorem rof_c (f : ByteArray) (q s z m : Int) (w : World) (hf : f.size = 768) (hm : recMay q s z m = true) : Calls Try.prog 65 #[.string f, .agg #[.int .i64 q, .int .i64 s, .int .i64 z, .int .i64 m]] w fun e w' => e = .returned (.tuple #[.string (imgB f s z), .int .i64 0]) ∧ Below w.heap.size w w' := by
  have HB := Below.refl w.heap.size w
  have K0 := Blk.new w #[.int .i64 q, .int .i64 s, .int .i64 z, .int .i64 m] 23
  obtain ⟨_, ⟨s0, s1⟩, ⟨z0, z1⟩, _⟩ := may_parts hm
  have mm := Lib.hid (fun W : World => rmay_c f W (by omega))
  rw [decide_eq_true hf] at mm
  have rr := Lib.hid (fun W : World => rrecMay_c q s z m W)
  rw [hm] at rr
  have hb := base_le s0 s1
  obtain ⟨n, rfl⟩ := Int.eq_ofNat_of_zero_le (show 0 ≤ z by omega)
  have bb := Lib.hid (fun W : World => rbase_c s W s0 s1)
  have hv := Lib.hid (show imgB f s (n : Int) = f.extract (baseN s) (baseN s + n) from rfl)
  obtain ⟨hb1, hb2⟩ := hb
  generalize imgB f s (n : Int) = I at *
  generalize baseN s = b at *
  have h1 : b + n ≤ f.size := by omega
  have h2 : (b : Int) + (n : Int) ≤ (f.size : Int) := by omega
  have h3 : b ≤ f.size := by omega
  clear hm hf
  go_enter Try.func65, Try.ntmps65
  go_wp2_with (first | (go_at_call 31; with_reducible refine (mm.out _).mono ?_; rintro e w' ⟨rfl, rfl⟩) | (go_at_call 50; with_reducible refine (rr.out _).mono ?_; rintro e w' ⟨rfl, hb⟩; have HB := bl_step (w := w) (by repeat (with_reducible first | exact HB | (refine bl_set ?_ (by omega)) | apply bl_alloc | apply bl_drew | apply bl_drewN | fail)) hb; have hzB := HB.size; have K0 := Blk.on (by first | exact K0 | exact K0 #[] | exact K0 (.cells #[] 0) #[]) (by repeat (with_reducible first | exact K0 | exact K0 _ | exact K0 _ _ | apply Blk.alloc | apply Blk.drew | apply Blk.drewN | apply Blk.set4_0 | apply Blk.set4_1 | apply Blk.set4_2 | apply Blk.set4_3 | (apply Blk.off; (first | assumption | omega | (simp; omega))) | fail)) hb; (try clear cK0_0 cK0_1 cK0_2 cK0_3 fK0 lK0 nK0 mK0); obtain ⟨cK0_0, cK0_1, cK0_2, cK0_3, fK0, lK0, nK0, mK0⟩ := Blk.all4 K0) | (go_at_call 43; with_reducible refine (bb.out _).mono ?_; rintro e w' ⟨rfl, rfl⟩) | fail)
  go_ret2
  exact ⟨by rw [hv.out]; rfl, HB⟩
theorem img_size (f : ByteArray) (s z : Int) : (imgB f s z).size ≤ f.size := by
  unfold imgB
  rw [ByteArray.size_extract]
  omega
set_option maxHeartbeats 1600000 in
theorem good_c (f : ByteArray) (q s z m : Int) (w : World) (hf : f.size = 768) (hm : recMay q s z m = true) : Calls Try.prog 88 #[.string f, .agg #[.int .i64 q, .int .i64 s, .int .i64 z, .int .i64 m]] w fun e w' => e = .returned (.tuple #[.bool (goodB f s z m), .int .i64 0]) ∧ Below w.heap.size w w' := by
  have HB := Below.refl w.heap.size w
  have K0 := Blk.new w #[.int .i64 q, .int .i64 s, .int .i64 z, .int .i64 m] 23
  have oo := Lib.hid (fun W : World => of_c f q s z m W hf hm)
  have cc := Lib.hid (fun W : World => sum_c (imgB f s z) W (by have := img_size f s z; omega))
  have hg : goodB f s z m = (crcB (imgB f s z) == m) := rfl
  generalize goodB f s z m = G at *
  generalize crcB (imgB f s z) = C at *
  generalize imgB f s z = I at *
  clear hm hf
  cases hb : C == m
  · rw [hb] at hg
    subst hg
    go_enter Try.func88, Try.ntmps88
    go_wp2_with (first | (go_at_call 103; with_reducible refine (oo.out _).mono ?_; rintro e w' ⟨rfl, hb⟩; have HB := bl_step (w := w) (by repeat (with_reducible first | exact HB | (refine bl_set ?_ (by omega)) | apply bl_alloc | apply bl_drew | apply bl_drewN | fail)) hb; have hzB := HB.size; have K0 := Blk.on (by first | exact K0 | exact K0 #[] | exact K0 (.cells #[] 0) #[]) (by repeat (with_reducible first | exact K0 | exact K0 _ | exact K0 _ _ | apply Blk.alloc | apply Blk.drew | apply Blk.drewN | apply Blk.set4_0 | apply Blk.set4_1 | apply Blk.set4_2 | apply Blk.set4_3 | (apply Blk.off; (first | assumption | omega | (simp; omega))) | fail)) hb; (try clear cK0_0 cK0_1 cK0_2 cK0_3 fK0 lK0 nK0 mK0); obtain ⟨cK0_0, cK0_1, cK0_2, cK0_3, fK0, lK0, nK0, mK0⟩ := Blk.all4 K0) | fail)
    have qK0_0 := fun s : Wld _ => Wld.cell cK0_0 s; have qK0_1 := fun s : Wld _ => Wld.cell cK0_1 s; have qK0_2 := fun s : Wld _ => Wld.cell cK0_2 s; have qK0_3 := fun s : Wld _ => Wld.cell cK0_3 s
    refine wld_lit (by kernel_rfl) (by kernel_rfl) ?_
    repeat (go_big_quiet_step (first | (go_at_call 100; with_reducible exact Wld.call (cc.out _)) | fail))
    refine wpQuiet_nil ?_; refine Wld.elim ?_; intro w' hb; clear qK0_0 qK0_1 qK0_2 qK0_3; have HB := bl_step (w := w) (by repeat (with_reducible first | exact HB | (refine bl_set ?_ (by omega)) | apply bl_alloc | apply bl_drew | apply bl_drewN | fail)) hb; have hzB := HB.size; have K0 := Blk.on (by first | exact K0 | exact K0 #[] | exact K0 (.cells #[] 0) #[]) (by repeat (with_reducible first | exact K0 | exact K0 _ | exact K0 _ _ | apply Blk.alloc | apply Blk.drew | apply Blk.drewN | apply Blk.set4_0 | apply Blk.set4_1 | apply Blk.set4_2 | apply Blk.set4_3 | (apply Blk.off; (first | assumption | omega | (simp; omega))) | fail)) hb; (try clear cK0_0 cK0_1 cK0_2 cK0_3 fK0 lK0 nK0 mK0); obtain ⟨cK0_0, cK0_1, cK0_2, cK0_3, fK0, lK0, nK0, mK0⟩ := Blk.all4 K0
    go_wp2_with fail
    go_ret2
    exact ⟨rfl, (by repeat (with_reducible first | exact Below.refl _ _ | assumption | (refine bl_set ?_ (by omega)) | apply bl_alloc | apply bl_drewN | apply bl_drew | (refine bl_step ?_ (by assumption)) | fail))⟩
  · rw [hb] at hg
    subst hg
    go_enter Try.func88, Try.ntmps88
    go_wp2_with (first | (go_at_call 103; with_reducible refine (oo.out _).mono ?_; rintro e w' ⟨rfl, hb⟩; have HB := bl_step (w := w) (by repeat (with_reducible first | exact HB | (refine bl_set ?_ (by omega)) | apply bl_alloc | apply bl_drew | apply bl_drewN | fail)) hb; have hzB := HB.size; have K0 := Blk.on (by first | exact K0 | exact K0 #[] | exact K0 (.cells #[] 0) #[]) (by repeat (with_reducible first | exact K0 | exact K0 _ | exact K0 _ _ | apply Blk.alloc | apply Blk.drew | apply Blk.drewN | apply Blk.set4_0 | apply Blk.set4_1 | apply Blk.set4_2 | apply Blk.set4_3 | (apply Blk.off; (first | assumption | omega | (simp; omega))) | fail)) hb; (try clear cK0_0 cK0_1 cK0_2 cK0_3 fK0 lK0 nK0 mK0); obtain ⟨cK0_0, cK0_1, cK0_2, cK0_3, fK0, lK0, nK0, mK0⟩ := Blk.all4 K0) | fail)
    have qK0_0 := fun s : Wld _ => Wld.cell cK0_0 s; have qK0_1 := fun s : Wld _ => Wld.cell cK0_1 s; have qK0_2 := fun s : Wld _ => Wld.cell cK0_2 s; have qK0_3 := fun s : Wld _ => Wld.cell cK0_3 s
    refine wld_lit (by kernel_rfl) (by kernel_rfl) ?_
    repeat (go_big_quiet_step (first | (go_at_call 100; with_reducible exact Wld.call (cc.out _)) | fail))
    refine wpQuiet_nil ?_; refine Wld.elim ?_; intro w' hb; clear qK0_0 qK0_1 qK0_2 qK0_3; have HB := bl_step (w := w) (by repeat (with_reducible first | exact HB | (refine bl_set ?_ (by omega)) | apply bl_alloc | apply bl_drew | apply bl_drewN | fail)) hb; have hzB := HB.size; have K0 := Blk.on (by first | exact K0 | exact K0 #[] | exact K0 (.cells #[] 0) #[]) (by repeat (with_reducible first | exact K0 | exact K0 _ | exact K0 _ _ | apply Blk.alloc | apply Blk.drew | apply Blk.drewN | apply Blk.set4_0 | apply Blk.set4_1 | apply Blk.set4_2 | apply Blk.set4_3 | (apply Blk.off; (first | assumption | omega | (simp; omega))) | fail)) hb; (try clear cK0_0 cK0_1 cK0_2 cK0_3 fK0 lK0 nK0 mK0); obtain ⟨cK0_0, cK0_1, cK0_2, cK0_3, fK0, lK0, nK0, mK0⟩ := Blk.all4 K0
    go_wp2_with fail
    go_ret2
    exact ⟨rfl, (by repeat (with_reducible first | exact Below.refl _ _ | assumption | (refine bl_set ?_ (by omega)) | apply bl_alloc | apply bl_drewN | apply bl_drew | (refine bl_step ?_ (by assumption)) | fail))⟩
set_option maxHeartbeats 1600000 in
theorem rgood_c (f : ByteArray) (q s z m : Int) (w : World) (hf : f.size = 768) (hm : recMay q s z m = true) : Calls Try.prog 42 #[.string f, .agg #[.int .i64 q, .int .i64 s, .int .i64 z, .int .i64 m]] w fun e w' => e = .returned (.tuple #[.bool (goodB f s z m), .int .i64 0]) ∧ Below w.heap.size w w' := by
  have HB := Below.refl w.heap.size w
  have K0 := Blk.new w #[.int .i64 q, .int .i64 s, .int .i64 z, .int .i64 m] 23
  have oo := Lib.hid (fun W : World => rof_c f q s z m W hf hm)
  have cc := Lib.hid (fun W : World => rcrc_c (imgB f s z) W (by have := img_size f s z; omega))
  have hg : goodB f s z m = (crcB (imgB f s z) == m) := rfl
  generalize goodB f s z m = G at *
  generalize crcB (imgB f s z) = C at *
  generalize imgB f s z = I at *
  clear hm hf
  cases hb : C == m
  · rw [hb] at hg
    subst hg
    go_enter Try.func42, Try.ntmps42
    go_wp2_with (first | (go_at_call 65; with_reducible refine (oo.out _).mono ?_; rintro e w' ⟨rfl, hb⟩; have HB := bl_step (w := w) (by repeat (with_reducible first | exact HB | (refine bl_set ?_ (by omega)) | apply bl_alloc | apply bl_drew | apply bl_drewN | fail)) hb; have hzB := HB.size; have K0 := Blk.on (by first | exact K0 | exact K0 #[] | exact K0 (.cells #[] 0) #[]) (by repeat (with_reducible first | exact K0 | exact K0 _ | exact K0 _ _ | apply Blk.alloc | apply Blk.drew | apply Blk.drewN | apply Blk.set4_0 | apply Blk.set4_1 | apply Blk.set4_2 | apply Blk.set4_3 | (apply Blk.off; (first | assumption | omega | (simp; omega))) | fail)) hb; (try clear cK0_0 cK0_1 cK0_2 cK0_3 fK0 lK0 nK0 mK0); obtain ⟨cK0_0, cK0_1, cK0_2, cK0_3, fK0, lK0, nK0, mK0⟩ := Blk.all4 K0) | fail)
    have qK0_0 := fun s : Wld _ => Wld.cell cK0_0 s; have qK0_1 := fun s : Wld _ => Wld.cell cK0_1 s; have qK0_2 := fun s : Wld _ => Wld.cell cK0_2 s; have qK0_3 := fun s : Wld _ => Wld.cell cK0_3 s
    refine wld_lit (by kernel_rfl) (by kernel_rfl) ?_
    repeat (go_big_quiet_step (first | (go_at_call 45; with_reducible exact Wld.same (cc.out _)) | fail))
    refine wpQuiet_nil ?_; refine Wld.elim ?_; intro w' hb; clear qK0_0 qK0_1 qK0_2 qK0_3; have HB := bl_step (w := w) (by repeat (with_reducible first | exact HB | (refine bl_set ?_ (by omega)) | apply bl_alloc | apply bl_drew | apply bl_drewN | fail)) hb; have hzB := HB.size; have K0 := Blk.on (by first | exact K0 | exact K0 #[] | exact K0 (.cells #[] 0) #[]) (by repeat (with_reducible first | exact K0 | exact K0 _ | exact K0 _ _ | apply Blk.alloc | apply Blk.drew | apply Blk.drewN | apply Blk.set4_0 | apply Blk.set4_1 | apply Blk.set4_2 | apply Blk.set4_3 | (apply Blk.off; (first | assumption | omega | (simp; omega))) | fail)) hb; (try clear cK0_0 cK0_1 cK0_2 cK0_3 fK0 lK0 nK0 mK0); obtain ⟨cK0_0, cK0_1, cK0_2, cK0_3, fK0, lK0, nK0, mK0⟩ := Blk.all4 K0
    go_wp2_with fail
    go_ret2
    exact ⟨rfl, (by repeat (with_reducible first | exact Below.refl _ _ | assumption | (refine bl_set ?_ (by omega)) | apply bl_alloc | apply bl_drewN | apply bl_drew | (refine bl_step ?_ (by assumption)) | fail))⟩
  · rw [hb] at hg
    subst hg
    go_enter Try.func42, Try.ntmps42
    go_wp2_with (first | (go_at_call 65; with_reducible refine (oo.out _).mono ?_; rintro e w' ⟨rfl, hb⟩; have HB := bl_step (w := w) (by repeat (with_reducible first | exact HB | (refine bl_set ?_ (by omega)) | apply bl_alloc | apply bl_drew | apply bl_drewN | fail)) hb; have hzB := HB.size; have K0 := Blk.on (by first | exact K0 | exact K0 #[] | exact K0 (.cells #[] 0) #[]) (by repeat (with_reducible first | exact K0 | exact K0 _ | exact K0 _ _ | apply Blk.alloc | apply Blk.drew | apply Blk.drewN | apply Blk.set4_0 | apply Blk.set4_1 | apply Blk.set4_2 | apply Blk.set4_3 | (apply Blk.off; (first | assumption | omega | (simp; omega))) | fail)) hb; (try clear cK0_0 cK0_1 cK0_2 cK0_3 fK0 lK0 nK0 mK0); obtain ⟨cK0_0, cK0_1, cK0_2, cK0_3, fK0, lK0, nK0, mK0⟩ := Blk.all4 K0) | fail)
    have qK0_0 := fun s : Wld _ => Wld.cell cK0_0 s; have qK0_1 := fun s : Wld _ => Wld.cell cK0_1 s; have qK0_2 := fun s : Wld _ => Wld.cell cK0_2 s; have qK0_3 := fun s : Wld _ => Wld.cell cK0_3 s
    refine wld_lit (by kernel_rfl) (by kernel_rfl) ?_
    repeat (go_big_quiet_step (first | (go_at_call 45; with_reducible exact Wld.same (cc.out _)) | fail))
    refine wpQuiet_nil ?_; refine Wld.elim ?_; intro w' hb; clear qK0_0 qK0_1 qK0_2 qK0_3; have HB := bl_step (w := w) (by repeat (with_reducible first | exact HB | (refine bl_set ?_ (by omega)) | apply bl_alloc | apply bl_drew | apply bl_drewN | fail)) hb; have hzB := HB.size; have K0 := Blk.on (by first | exact K0 | exact K0 #[] | exact K0 (.cells #[] 0) #[]) (by repeat (with_reducible first | exact K0 | exact K0 _ | exact K0 _ _ | apply Blk.alloc | apply Blk.drew | apply Blk.drewN | apply Blk.set4_0 | apply Blk.set4_1 | apply Blk.set4_2 | apply Blk.set4_3 | (apply Blk.off; (first | assumption | omega | (simp; omega))) | fail)) hb; (try clear cK0_0 cK0_1 cK0_2 cK0_3 fK0 lK0 nK0 mK0); obtain ⟨cK0_0, cK0_1, cK0_2, cK0_3, fK0, lK0, nK0, mK0⟩ := Blk.all4 K0
    go_wp2_with fail
    go_ret2
    exact ⟨rfl, (by repeat (with_reducible first | exact Below.refl _ _ | assumption | (refine bl_set ?_ (by omega)) | apply bl_alloc | apply bl_drewN | apply bl_drew | (refine bl_step ?_ (by assumption)) | fail))⟩
end Go.Proofs.Ytimnhdmpfndeaaa.Im
