/- Layer 8: forms of flashes, of records. -/
import Derived.Test.YtimnhdmpfndeaaaPln
namespace Go.Proofs.Ytimnhdmpfndeaaa.Pl
open Go.RowKit Go.Proofs.Ytimnhdmpfndeaaa.Kt Go.Proofs.Ytimnhdmpfndeaaa.Lw Go.Proofs.Ytimnhdmpfndeaaa.St Go.Proofs.Ytimnhdmpfndeaaa.Nm Go.Proofs.Ytimnhdmpfndeaaa.By Go.Proofs.Ytimnhdmpfndeaaa.En Go.Proofs.Ytimnhdmpfndeaaa.Jr Go.Proofs.Ytimnhdmpfndeaaa.Im Go.Proofs.Ytimnhdmpfndeaaa.Sl Go.Proofs.Ytimnhdmpfndeaaa.Gr Go.Proofs.Ytimnhdmpfndeaaa.Ops Go.Proofs.Ytimnhdmpfndeaaa.Ch Go.Proofs.Ytimnhdmpfndeaaa.Fl
set_option linter.unusedVariables false
set_option linter.unusedSimpArgs false
/-- one of three texts that are no flash. -/
theorem pick3 (k : Nat) (hk : k < 3) (a b : ByteArray) (ha : a.size = 767) (hb : b.size = 769) (T : TypeId) : ∃ t : ByteArray, (¬ t.size = 768 ∧ t.size ≤ 769) ∧ ∀ W : World, (W.alloc (.cells #[.string ⟨#[]⟩, .string a, .string b] T)).cell? ⟨W.heap.size, k, none⟩ = some (.string t) := by
  have h : k = 0 ∨ k = 1 ∨ k = 2 := by omega
  rcases h with rfl | rfl | rfl
  · exact ⟨_, by decide, fun W => (Blk.new W _ T).cell 0⟩
  · exact ⟨_, by omega, fun W => (Blk.new W _ T).cell 1⟩
  · exact ⟨_, by omega, fun W => (Blk.new W _ T).cell 2⟩
theorem big_no (d : Int) (h : 0 ≤ d) : recMay 1048576 0 (288 + (1 + d)) 0 = false := by
  have : rngB (288 + (1 + d)) 1 288 = false := by simp [rngB]; omega
  simp [recMay, this]
attribute [local irreducible] gotB goodB Cr.crcB nQ nS nZ nM placeB wholeB topB
set_option maxRecDepth 100000 in
set_option maxHeartbeats 6400000 in
theorem pforms_0 (x0 x1 d : Int) (k j : Nat) (w : World) (hk : wrap64 (Int.tmod (IntKind.u64.wrap x0) 3) = (k : Int)) (hj : Go.bits .and .i64 x0 7 = (j : Int)) (hd : Go.bits .and .i64 x1 1023 = d) (k3 : k < 3) (j8 : j < 8) (d0 : 0 ≤ d) (d1 : d < 1024) :
    Calls Try.prog 5 #[.int .i64 x0, .int .i64 x1] w fun e w' => e = .returned (.bool true) ∧ Below w.heap.size w w' := by
  have HB := Below.refl w.heap.size w
  have bl := Lib.hid (fun W : World => blank_c W)
  have FS := full_size 768
  have pt := Lib.hid (fun W : World => rput_c 1048576 0 5 0 W)
  rw [top_put.1, top_put.2] at pt
  have TS := top_size
  have n1 := Lib.hid (fun W : World => next_c (fullB 768) W (by rw [full_size]; decide))
  rw [full_next] at n1
  have n2 := Lib.hid (fun W : World => next_c (topF j) W (by rw [topF_size j8]; decide))
  rw [topF_next j8] at n2
  unfold topF at n2
  have a2 := Lib.hid (fun W : World => append_no (fullB 768) 1048576 0 (288 + (1 + d)) 0 W (by rw [full_size]; decide) (by rw [big_no d d0]; simp))
  generalize fullB 768 = F at *
  generalize topB = S at *
  obtain ⟨t, ⟨t1, t2⟩, hc⟩ := pick3 k k3 (F.extract 1 768) (F ++ ⟨#[120]⟩) (by rw [ByteArray.size_extract]; omega) (by rw [ByteArray.size_append, FS]; rfl) 9
  have n3 := Lib.hid (fun W : World => next_c t W (by omega))
  rw [next_form t1] at n3
  have a1 := Lib.hid (fun W : World => append_no t 1048576 0 5 0 W (by omega) (by rintro ⟨h, _⟩; exact t1 h))
  have k3' : (k : Int) < 3 := by omega
  have j8' : (j : Int) < 8 := by omega
  clear t1 t2
  go_enter Try.func5, Try.ntmps5
  go_upto_region 9 with (first | (go_at_call 17; with_reducible refine (awake_c _).mono ?_; rintro e w' ⟨rfl, hb⟩; have HB := bl_step (w := w) (by repeat (with_reducible first | exact HB | (refine bl_set ?_ (by omega)) | apply bl_alloc | apply bl_drew | apply bl_drewN | fail)) hb; have hzB := HB.size) | (go_at_call 24; with_reducible refine (bl.out _).mono ?_; rintro e w' ⟨rfl, hb⟩; have HB := bl_step (w := w) (by repeat (with_reducible first | exact HB | (refine bl_set ?_ (by omega)) | apply bl_alloc | apply bl_drew | apply bl_drewN | fail)) hb; have hzB := HB.size) | fail)
  have K1 := (Blk.new1 w' (.cells #[.string ⟨#[]⟩, .string (F.extract 1 768), .string (F ++ ⟨#[120]⟩)] 9) #[.int .i64 1048576, .int .i64 0, .int .i64 5, .int .i64 0] 23).alloc (.cells #[.int .i64 1048576, .int .i64 0, .int .i64 (288 + (1 + d)), .int .i64 0] 23)
  have K2 := Blk.new2 w' (.cells #[.string ⟨#[]⟩, .string (F.extract 1 768), .string (F ++ ⟨#[120]⟩)] 9) (.cells #[.int .i64 1048576, .int .i64 0, .int .i64 5, .int .i64 0] 23) #[.int .i64 1048576, .int .i64 0, .int .i64 (288 + (1 + d)), .int .i64 0] 23
  have HB3 := bl_alloc (bl_alloc (bl_alloc HB (.cells #[.string ⟨#[]⟩, .string (F.extract 1 768), .string (F ++ ⟨#[120]⟩)] 9)) (.cells #[.int .i64 1048576, .int .i64 0, .int .i64 5, .int .i64 0] 23)) (.cells #[.int .i64 1048576, .int .i64 0, .int .i64 (288 + (1 + d)), .int .i64 0] 23)
  clear HB hb hzB hc hk
  have HB := HB3
  clear HB3
  generalize ((w'.alloc (.cells #[.string ⟨#[]⟩, .string (F.extract 1 768), .string (F ++ ⟨#[120]⟩)] 9)).alloc (.cells #[.int .i64 1048576, .int .i64 0, .int .i64 5, .int .i64 0] 23)).alloc (.cells #[.int .i64 1048576, .int .i64 0, .int .i64 (288 + (1 + d)), .int .i64 0] 23) = w1 at *
  generalize w'.heap.size + 1 + 1 = g2 at *
  generalize w'.heap.size + 1 = g1 at *
  generalize w'.heap.size = g0 at *
  go_upto_region 14 with (first | (go_at_call 10; with_reducible refine (n3.out _).mono ?_; rintro e w' ⟨rfl, hb⟩; have HB := bl_step (w := w) (by repeat (with_reducible first | exact HB | (refine bl_set ?_ (by omega)) | apply bl_alloc | apply bl_drew | apply bl_drewN | fail)) hb; have hzB := HB.size; have K1 := Blk.on (by first | exact K1 | exact K1 #[] | exact K1 (.cells #[] 0) #[]) (by repeat (with_reducible first | exact K1 | exact K1 _ | exact K1 _ _ | apply Blk.alloc | apply Blk.drew | apply Blk.drewN | apply Blk.set4_0 | apply Blk.set4_1 | apply Blk.set4_2 | apply Blk.set4_3 | (apply Blk.off; (first | assumption | omega | (simp; omega))) | fail)) hb; (try clear cK1_0 cK1_1 cK1_2 cK1_3 fK1 lK1 nK1 mK1); obtain ⟨cK1_0, cK1_1, cK1_2, cK1_3, fK1, lK1, nK1, mK1⟩ := Blk.all4 K1; have K2 := Blk.on (by first | exact K2 | exact K2 #[] | exact K2 (.cells #[] 0) #[]) (by repeat (with_reducible first | exact K2 | exact K2 _ | exact K2 _ _ | apply Blk.alloc | apply Blk.drew | apply Blk.drewN | apply Blk.set4_0 | apply Blk.set4_1 | apply Blk.set4_2 | apply Blk.set4_3 | (apply Blk.off; (first | assumption | omega | (simp; omega))) | fail)) hb; (try clear cK2_0 cK2_1 cK2_2 cK2_3 fK2 lK2 nK2 mK2); obtain ⟨cK2_0, cK2_1, cK2_2, cK2_3, fK2, lK2, nK2, mK2⟩ := Blk.all4 K2) | (go_at_call 12; with_reducible refine (a1.out _).mono ?_; rintro e w' ⟨rfl, hb⟩; have HB := bl_step (w := w) (by repeat (with_reducible first | exact HB | (refine bl_set ?_ (by omega)) | apply bl_alloc | apply bl_drew | apply bl_drewN | fail)) hb; have hzB := HB.size; have K1 := Blk.on (by first | exact K1 | exact K1 #[] | exact K1 (.cells #[] 0) #[]) (by repeat (with_reducible first | exact K1 | exact K1 _ | exact K1 _ _ | apply Blk.alloc | apply Blk.drew | apply Blk.drewN | apply Blk.set4_0 | apply Blk.set4_1 | apply Blk.set4_2 | apply Blk.set4_3 | (apply Blk.off; (first | assumption | omega | (simp; omega))) | fail)) hb; (try clear cK1_0 cK1_1 cK1_2 cK1_3 fK1 lK1 nK1 mK1); obtain ⟨cK1_0, cK1_1, cK1_2, cK1_3, fK1, lK1, nK1, mK1⟩ := Blk.all4 K1; have K2 := Blk.on (by first | exact K2 | exact K2 #[] | exact K2 (.cells #[] 0) #[]) (by repeat (with_reducible first | exact K2 | exact K2 _ | exact K2 _ _ | apply Blk.alloc | apply Blk.drew | apply Blk.drewN | apply Blk.set4_0 | apply Blk.set4_1 | apply Blk.set4_2 | apply Blk.set4_3 | (apply Blk.off; (first | assumption | omega | (simp; omega))) | fail)) hb; (try clear cK2_0 cK2_1 cK2_2 cK2_3 fK2 lK2 nK2 mK2); obtain ⟨cK2_0, cK2_1, cK2_2, cK2_3, fK2, lK2, nK2, mK2⟩ := Blk.all4 K2) | (go_at_call 12; with_reducible refine (a2.out _).mono ?_; rintro e w' ⟨rfl, hb⟩; have HB := bl_step (w := w) (by repeat (with_reducible first | exact HB | (refine bl_set ?_ (by omega)) | apply bl_alloc | apply bl_drew | apply bl_drewN | fail)) hb; have hzB := HB.size; have K1 := Blk.on (by first | exact K1 | exact K1 #[] | exact K1 (.cells #[] 0) #[]) (by repeat (with_reducible first | exact K1 | exact K1 _ | exact K1 _ _ | apply Blk.alloc | apply Blk.drew | apply Blk.drewN | apply Blk.set4_0 | apply Blk.set4_1 | apply Blk.set4_2 | apply Blk.set4_3 | (apply Blk.off; (first | assumption | omega | (simp; omega))) | fail)) hb; (try clear cK1_0 cK1_1 cK1_2 cK1_3 fK1 lK1 nK1 mK1); obtain ⟨cK1_0, cK1_1, cK1_2, cK1_3, fK1, lK1, nK1, mK1⟩ := Blk.all4 K1; have K2 := Blk.on (by first | exact K2 | exact K2 #[] | exact K2 (.cells #[] 0) #[]) (by repeat (with_reducible first | exact K2 | exact K2 _ | exact K2 _ _ | apply Blk.alloc | apply Blk.drew | apply Blk.drewN | apply Blk.set4_0 | apply Blk.set4_1 | apply Blk.set4_2 | apply Blk.set4_3 | (apply Blk.off; (first | assumption | omega | (simp; omega))) | fail)) hb; (try clear cK2_0 cK2_1 cK2_2 cK2_3 fK2 lK2 nK2 mK2); obtain ⟨cK2_0, cK2_1, cK2_2, cK2_3, fK2, lK2, nK2, mK2⟩ := Blk.all4 K2) | (go_at_call 25; with_reducible refine (pt.out _).mono ?_; rintro e w' ⟨rfl, hb⟩; have HB := bl_step (w := w) (by repeat (with_reducible first | exact HB | (refine bl_set ?_ (by omega)) | apply bl_alloc | apply bl_drew | apply bl_drewN | fail)) hb; have hzB := HB.size; have K1 := Blk.on (by first | exact K1 | exact K1 #[] | exact K1 (.cells #[] 0) #[]) (by repeat (with_reducible first | exact K1 | exact K1 _ | exact K1 _ _ | apply Blk.alloc | apply Blk.drew | apply Blk.drewN | apply Blk.set4_0 | apply Blk.set4_1 | apply Blk.set4_2 | apply Blk.set4_3 | (apply Blk.off; (first | assumption | omega | (simp; omega))) | fail)) hb; (try clear cK1_0 cK1_1 cK1_2 cK1_3 fK1 lK1 nK1 mK1); obtain ⟨cK1_0, cK1_1, cK1_2, cK1_3, fK1, lK1, nK1, mK1⟩ := Blk.all4 K1; have K2 := Blk.on (by first | exact K2 | exact K2 #[] | exact K2 (.cells #[] 0) #[]) (by repeat (with_reducible first | exact K2 | exact K2 _ | exact K2 _ _ | apply Blk.alloc | apply Blk.drew | apply Blk.drewN | apply Blk.set4_0 | apply Blk.set4_1 | apply Blk.set4_2 | apply Blk.set4_3 | (apply Blk.off; (first | assumption | omega | (simp; omega))) | fail)) hb; (try clear cK2_0 cK2_1 cK2_2 cK2_3 fK2 lK2 nK2 mK2); obtain ⟨cK2_0, cK2_1, cK2_2, cK2_3, fK2, lK2, nK2, mK2⟩ := Blk.all4 K2) | fail)
  clear hj hd d0 d1 a1 a2 n3 pt K1 K2
  have b0 : F.size = 768 := FS
  have b1 : 24 * (j : Int) ≤ 768 := by omega
  have b2 : 24 * j ≤ 768 := by omega
  have b3 : 24 * (j : Int) + 24 ≤ 768 := by omega
  have b4 : 24 * j + 24 ≤ 768 := by omega
  have s1 : (F.extract 0 (24 * j)).size = 24 * j := by rw [ByteArray.size_extract]; omega
  have s2 : (F.extract 0 (24 * j) ++ S).size = 24 * j + 24 := by rw [ByteArray.size_append, s1, TS]
  have s3 : (F.extract (24 * j + 24) 768).size = 768 - (24 * j + 24) := by rw [ByteArray.size_extract]; omega
  have hq1 : (9223372036854775807 < 24 * j + 24) = False := eq_false (by omega)
  have hq2 : (9223372036854775807 < 24 * j + 24 + (768 - (24 * j + 24))) = False := eq_false (by omega)
  clear k3' j8' FS
  refine wld_lit (by kernel_rfl) (by kernel_rfl) ?_
  repeat (go_big_quiet_step (first | fail))
  refine wpQuiet_nil ?_; refine Wld.elim ?_; intro w' hb; have HB := bl_step (w := w) (by repeat (with_reducible first | exact HB | (refine bl_set ?_ (by omega)) | apply bl_alloc | apply bl_drew | apply bl_drewN | fail)) hb; have hzB := HB.size
  go_wp2_with (first | (go_at_call 10; with_reducible refine (n1.out _).mono ?_; rintro e w' ⟨rfl, hb⟩; have HB := bl_step (w := w) (by repeat (with_reducible first | exact HB | (refine bl_set ?_ (by omega)) | apply bl_alloc | apply bl_drew | apply bl_drewN | fail)) hb; have hzB := HB.size) | (go_at_call 10; with_reducible refine (n2.out _).mono ?_; rintro e w' ⟨rfl, hb⟩; have HB := bl_step (w := w) (by repeat (with_reducible first | exact HB | (refine bl_set ?_ (by omega)) | apply bl_alloc | apply bl_drew | apply bl_drewN | fail)) hb; have hzB := HB.size) | (go_at_call 14; with_reducible refine (enum_c _ _).mono ?_; rintro e w' ⟨rfl, rfl⟩) | fail)
  go_ret
  exact ⟨rfl, HB⟩
theorem pforms_w (x0 x1 : Int) (w : World) : Calls Try.prog 5 #[.int .i64 x0, .int .i64 x1] w fun e w' => e = .returned (.bool true) ∧ Below w.heap.size w w' := by
  have h0 : 0 ≤ wrap64 (Int.tmod (IntKind.u64.wrap x0) 3) ∧ wrap64 (Int.tmod (IntKind.u64.wrap x0) 3) < 3 := by
    have h := Bt.umod x0 3 (by decide) (by decide)
    simp only [IntKind.wrap_i64] at h
    unfold wrap64; exact h
  have h1 := Bt.and1023 x1
  have h2 := Bt.and7 x0
  obtain ⟨k, hk⟩ := Int.eq_ofNat_of_zero_le h0.1
  obtain ⟨j, hj⟩ := Int.eq_ofNat_of_zero_le (a := Go.bits .and .i64 x0 7) (by omega)
  exact pforms_0 x0 x1 _ k j w hk hj rfl (by omega) (by omega) (by omega) (by omega)
end Go.Proofs.Ytimnhdmpfndeaaa.Pl
