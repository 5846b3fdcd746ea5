/- Layer 19: StatusForms: the walk. -/
import Derived.Test.YtimnhdmpfndeaaaGtd
namespace Go.Proofs.Ytimnhdmpfndeaaa.Dv
open Go.RowKit Go.Proofs.Ytimnhdmpfndeaaa.Kt Go.Proofs.Ytimnhdmpfndeaaa.Lw Go.Proofs.Ytimnhdmpfndeaaa.St Go.Proofs.Ytimnhdmpfndeaaa.Nm Go.Proofs.Ytimnhdmpfndeaaa.Es Go.Proofs.Ytimnhdmpfndeaaa.By Go.Proofs.Ytimnhdmpfndeaaa.En Go.Proofs.Ytimnhdmpfndeaaa.Jr Go.Proofs.Ytimnhdmpfndeaaa.Im Go.Proofs.Ytimnhdmpfndeaaa.Sl Go.Proofs.Ytimnhdmpfndeaaa.Gr Go.Proofs.Ytimnhdmpfndeaaa.Ops Go.Proofs.Ytimnhdmpfndeaaa.Ch Go.Proofs.Ytimnhdmpfndeaaa.Fl Go.Proofs.Ytimnhdmpfndeaaa.Pl
set_option linter.unusedVariables false
set_option linter.unusedSimpArgs false
attribute [local irreducible] gotB goodB Cr.crcB nQ nS nZ nM placeB wholeB
attribute [local go_sem high] eqAns
theorem rng_out {x a b : Int} (h : x < a ∨ b < x) : rngB x a b = false := by
  unfold rngB
  rcases h with h | h
  · simp; omega
  · simp; omega
theorem form_go {e : Int} (he : 1 ≤ e) : (⟨1, 0, 1, 288 + e, 0, sentL⟩ : DS).may = false := by
  have := rng_out (x := 288 + e) (a := 0) (b := 288) (.inr (by omega))
  simp [DS.may, devMay, this]
theorem form_su {e : Int} (he : 1 ≤ e) : (⟨1, -e, 1, 32, 0, sentL⟩ : DS).may = false := by
  have := rng_out (x := -e) (a := 0) (b := 6) (.inl (by omega))
  simp [DS.may, devMay, this]
theorem form_sl {e : Int} (he : 1 ≤ e) : (⟨1, 0, 1, 32, -e, sentL⟩ : DS).may = false := by
  have := rng_out (x := -e) (a := 0) (b := 1) (.inl (by omega))
  simp [DS.may, devMay, this]
theorem form_get {f : ByteArray} {d : DS} (hb : bothB f d = false) (h : f.size ≤ 9223372036854775807) (hx : d.ops = sentL) (W : World) (A : Option Addr) (c : Nat) (hl : Row W A sentL) :
    Calls Try.prog 29 #[.string f, (.agg #[.int .i64 d.st, .int .i64 d.su, .int .i64 d.nx, .int .i64 d.go, .int .i64 d.sl, .slice A 11 c])] W fun e w' => (∃ A' c', e = .returned (.tuple #[.agg #[.int .i64 0, .int .i64 0, .int .i64 0, .int .i64 0, .int .i64 0, .slice A' 0 c'], .agg #[.int .i64 0, .int .i64 0, .int .i64 0], .int .i64 1900])) ∧ Below W.heap.size W w' := by
  refine (get_c f d A c 11 W h (by rw [hx]; exact hl) (by rw [hx]; exact sent_len)).mono ?_
  rw [(get_no hb).1, (get_no hb).2]
  rintro e w' ⟨⟨A', n, c', h1, h2, h3⟩, h4⟩
  have hn : n = 0 := by rw [← h2]; rfl
  subst hn
  exact ⟨⟨A', c', h1⟩, h4⟩
set_option maxRecDepth 100000 in
set_option maxHeartbeats 12800000 in
theorem sforms_0 (x0 x1 d : Int) (j : Int) (w : World) (hj : Go.bits .and .i64 x0 3 = j) (j4 : j = 0 ∨ j = 1 ∨ j = 2 ∨ j = 3) (hd : Go.bits .and .i64 x1 1023 = d) (d0 : 0 ≤ d) (d1 : d ≤ 1023) :
    Calls Try.prog 8 #[.int .i64 x0, .int .i64 x1] w fun e w' => e = .returned (.bool true) ∧ Below w.heap.size w w' := by
  have HB := Below.refl w.heap.size w
  have bl := Lib.hid (fun W : World => blank_c W)
  have FS := full_size 768
  have z0 := Lib.hid (show ([] : List OpV).length = 0 from rfl)
  have hz : ((fullB 768).extract 1 768).size = 767 := by rw [ByteArray.size_extract, FS]; decide
  have G0 := Lib.hid (form_get (f := (fullB 768).extract 1 768) (d := ⟨1, 0, 1, 32, 0, sentL⟩) (by simp [bothB, hz]) (by rw [hz]; decide) rfl)
  have G1 := Lib.hid (form_get (f := fullB 768) (d := ⟨1, 0, 1, 288 + (1 + d), 0, sentL⟩) (by simp [bothB, form_go (show 1 ≤ 1 + d by omega)]) (by rw [FS]; decide) rfl)
  have G2 := Lib.hid (form_get (f := fullB 768) (d := ⟨1, -(1 + d), 1, 32, 0, sentL⟩) (by simp only [bothB, form_su (show 1 ≤ 1 + d by omega), Bool.and_false]) (by rw [FS]; decide) rfl)
  have G3 := Lib.hid (form_get (f := fullB 768) (d := ⟨1, 0, 1, 32, -(1 + d), sentL⟩) (by simp only [bothB, form_sl (show 1 ≤ 1 + d by omega), Bool.and_false]) (by rw [FS]; decide) rfl)
  simp only at G0 G1 G2 G3
  generalize fullB 768 = F at *
  rcases j4 with rfl | rfl | rfl | rfl
  all_goals (go_enter Try.func8, Try.ntmps8; go_upto_region 13 with (first | (go_at_call 27; with_reducible refine (awake19_c _).mono ?_; rintro e w' ⟨rfl, hb⟩; have HB := bl_step (w := w) (by repeat (with_reducible first | exact HB | (refine bl_set ?_ (by omega)) | apply bl_alloc | apply bl_drew | apply bl_drewN | fail)) hb; have hzB := HB.size) | (go_at_call 24; with_reducible refine (bl.out _).mono ?_; rintro e w' ⟨rfl, hb⟩; have HB := bl_step (w := w) (by repeat (with_reducible first | exact HB | (refine bl_set ?_ (by omega)) | apply bl_alloc | apply bl_drew | apply bl_drewN | fail)) hb; have hzB := HB.size) | (go_at_call 28; (with_reducible refine (sent_c _).mono ?_); rintro e w1 ⟨⟨A, c, rfl, R0⟩, hb⟩; have HB := bl_step (w := w) (by repeat (with_reducible first | exact HB | (refine bl_set ?_ (by omega)) | apply bl_alloc | apply bl_drew | apply bl_drewN | fail)) hb; have hzB := HB.size; have R0 := Lib.hid R0; have K1 := fun cs => Blk.new w1 cs 61) | fail))
  all_goals clear K1
  all_goals (go_wp2_with (first | (go_at_call 29; (with_reducible refine (G0.out _ _ _ (R0.out.below (bl_alloc (Below.refl _ _) _))).mono ?_); rintro e w2 ⟨⟨A2, c2, rfl⟩, hb⟩; have HB := bl_step (w := w) (by repeat (with_reducible first | exact HB | (refine bl_set ?_ (by omega)) | apply bl_alloc | apply bl_drew | apply bl_drewN | fail)) hb; have hzB := HB.size; have K2 := fun cs => Blk.new w2 cs 61; have K3 := fun o cs => Blk.new1 w2 o cs 64) | (go_at_call 29; (with_reducible refine (G1.out _ _ _ (R0.out.below (bl_alloc (Below.refl _ _) _))).mono ?_); rintro e w2 ⟨⟨A2, c2, rfl⟩, hb⟩; have HB := bl_step (w := w) (by repeat (with_reducible first | exact HB | (refine bl_set ?_ (by omega)) | apply bl_alloc | apply bl_drew | apply bl_drewN | fail)) hb; have hzB := HB.size; have K2 := fun cs => Blk.new w2 cs 61; have K3 := fun o cs => Blk.new1 w2 o cs 64) | (go_at_call 29; (with_reducible refine (G2.out _ _ _ (R0.out.below (bl_alloc (Below.refl _ _) _))).mono ?_); rintro e w2 ⟨⟨A2, c2, rfl⟩, hb⟩; have HB := bl_step (w := w) (by repeat (with_reducible first | exact HB | (refine bl_set ?_ (by omega)) | apply bl_alloc | apply bl_drew | apply bl_drewN | fail)) hb; have hzB := HB.size; have K2 := fun cs => Blk.new w2 cs 61; have K3 := fun o cs => Blk.new1 w2 o cs 64) | (go_at_call 29; (with_reducible refine (G3.out _ _ _ (R0.out.below (bl_alloc (Below.refl _ _) _))).mono ?_); rintro e w2 ⟨⟨A2, c2, rfl⟩, hb⟩; have HB := bl_step (w := w) (by repeat (with_reducible first | exact HB | (refine bl_set ?_ (by omega)) | apply bl_alloc | apply bl_drew | apply bl_drewN | fail)) hb; have hzB := HB.size; have K2 := fun cs => Blk.new w2 cs 61; have K3 := fun o cs => Blk.new1 w2 o cs 64) | (go_at_call 30; (with_reducible refine (sameR_c _ _ _ _ _ _ _ _ _ _ _ _ _ Row.none Row.none z0.out z0.out).mono ?_); rintro e w3 ⟨rfl, hb⟩; have HB := bl_step (w := w) (by repeat (with_reducible first | exact HB | (refine bl_set ?_ (by omega)) | apply bl_alloc | apply bl_drew | apply bl_drewN | fail)) hb; have hzB := HB.size; have K2 := Blk.on (by first | exact K2 | exact K2 #[] | exact K2 (.cells #[] 0) #[] | exact K2 #[] #[]) (by repeat (with_reducible first | exact K2 | exact K2 _ | exact K2 _ _ | apply Blk.alloc | apply Blk.drew | apply Blk.drewN | apply Blk.set6_0 | apply Blk.set6_1 | apply Blk.set6_2 | apply Blk.set6_3 | apply Blk.set6_4 | apply Blk.set6_5 | (apply Blk.off; (first | assumption | omega | (simp; omega))) | fail)) hb; (try clear cK2_0 cK2_1 cK2_2 cK2_3 cK2_4 cK2_5 fK2 lK2 nK2 mK2); obtain ⟨cK2_0, cK2_1, cK2_2, cK2_3, cK2_4, cK2_5, fK2, lK2, nK2, mK2⟩ := Blk.all6 K2; have K3 := Blk.on (by first | exact K3 | exact K3 #[] | exact K3 (.cells #[] 0) #[] | exact K3 #[] #[]) (by repeat (with_reducible first | exact K3 | exact K3 _ | exact K3 _ _ | apply Blk.alloc | apply Blk.drew | apply Blk.drewN | apply Blk.set3_0 | apply Blk.set3_1 | apply Blk.set3_2 | (apply Blk.off; (first | assumption | omega | (simp; omega))) | fail)) hb; (try clear cK3_0 cK3_1 cK3_2 fK3 lK3 nK3 mK3); obtain ⟨cK3_0, cK3_1, cK3_2, fK3, lK3, nK3, mK3⟩ := Blk.all3 K3) | (go_at_call 14; with_reducible refine (enum_c _ _).mono ?_; rintro e w' ⟨rfl, rfl⟩) | fail); go_ret; exact ⟨rfl, (by repeat (with_reducible first | exact Below.refl _ _ | assumption | (refine bl_set ?_ (by omega)) | apply bl_alloc | apply bl_drewN | apply bl_drew | (refine bl_step ?_ (by assumption)) | fail))⟩)
theorem sforms_w (x0 x1 : Int) (w : World) : Calls Try.prog 8 #[.int .i64 x0, .int .i64 x1] w fun e w' => e = .returned (.bool true) ∧ Below w.heap.size w w' := by
  have h1 := Bt.and3 x0
  have h2 := Bt.and1023 x1
  exact sforms_0 x0 x1 _ _ w rfl (by omega) rfl (by omega) (by omega)
end Go.Proofs.Ytimnhdmpfndeaaa.Dv
