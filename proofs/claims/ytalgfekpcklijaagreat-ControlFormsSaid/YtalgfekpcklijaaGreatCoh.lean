/- Layer 21: ControlForms: the walk. -/
import Derived.Test.YtalgfekpcklijaaGreatCof
namespace Go.Proofs.YtalgfekpcklijaaGreat.Dv
open Go.RowKit Go.Proofs.YtalgfekpcklijaaGreat.Kt Go.Proofs.YtalgfekpcklijaaGreat.Lw Go.Proofs.YtalgfekpcklijaaGreat.St Go.Proofs.YtalgfekpcklijaaGreat.Nm Go.Proofs.YtalgfekpcklijaaGreat.Es Go.Proofs.YtalgfekpcklijaaGreat.By Go.Proofs.YtalgfekpcklijaaGreat.En Go.Proofs.YtalgfekpcklijaaGreat.Jr Go.Proofs.YtalgfekpcklijaaGreat.Im Go.Proofs.YtalgfekpcklijaaGreat.Sl Go.Proofs.YtalgfekpcklijaaGreat.Gr Go.Proofs.YtalgfekpcklijaaGreat.Ops Go.Proofs.YtalgfekpcklijaaGreat.Ch Go.Proofs.YtalgfekpcklijaaGreat.Fl Go.Proofs.YtalgfekpcklijaaGreat.Pl
set_option linter.unusedVariables false
set_option linter.unusedSimpArgs false
attribute [local irreducible] gotB goodB Cr.crcB nQ nS nZ nM placeB wholeB
attribute [local go_sem high] eqRep
theorem rng_off {x a b : Int} (h : x < a ∨ b < x) : rngB x a b = false := by
  unfold rngB
  rcases h with h | h
  · simp; omega
  · simp; omega
theorem cform_su {e : Int} (he : 1 ≤ e) : (⟨0, 6 + e, 0, 0, 0, []⟩ : DS).may = false := by
  have := rng_off (x := 6 + e) (a := 0) (b := 6) (.inr (by omega))
  simp [DS.may, devMay, this]
theorem cform_go {e : Int} (he : 1 ≤ e) : (⟨0, 0, 0, -e, 0, []⟩ : DS).may = false := by
  have := rng_off (x := -e) (a := 0) (b := 288) (.inl (by omega))
  simp [DS.may, devMay, this]
theorem cform_sl {e : Int} (he : 1 ≤ e) : (⟨0, 0, 0, 0, 1 + e, []⟩ : DS).may = false := by
  have := rng_off (x := 1 + e) (a := 0) (b := 1) (.inr (by omega))
  simp [DS.may, devMay, this]
theorem form_ctl {f : ByteArray} {d : DS} (s : ByteArray) (hb : bothB f d = false) (h : f.size ≤ 9223372036854775807) (hx : d.ops = []) (W : World) :
    Calls Tryz.prog 15 #[.string f, .agg #[.int .i64 d.st, .int .i64 d.su, .int .i64 d.nx, .int .i64 d.go, .int .i64 d.sl, .slice none 0 0], .string s, .string ⟨#[]⟩] W fun e w' => (∃ A' c', e = .returned (.tuple #[.agg #[.int .i64 0, .int .i64 0, .int .i64 0, .int .i64 0, .int .i64 0, .slice A' 0 c'], repV false false ⟨#[]⟩, .int .i64 2100])) ∧ Below W.heap.size W w' := by
  refine (handle_f f d s ⟨#[]⟩ none 0 0 W (by rw [hx]; exact row_none) (by rw [hx]; rfl) h hb).mono ?_
  rintro e w' ⟨⟨A', n, c', h1, h2, h3⟩, h4⟩
  have hn : n = 0 := by rw [← h2]; rfl
  subst hn
  exact ⟨⟨A', c', h1⟩, h4⟩
set_option maxRecDepth 100000 in
set_option maxHeartbeats 12800000 in
theorem cforms_0 (x0 x1 d : Int) (j : Int) (w : World) (hj : Go.bits .and .i64 x0 3 = j) (j4 : j = 0 ∨ j = 1 ∨ j = 2 ∨ j = 3) (hd : Go.bits .and .i64 x1 1023 = d) (d0 : 0 ≤ d) (d1 : d ≤ 1023) :
    Calls Tryz.prog 4 #[.int .i64 x0, .int .i64 x1] w fun e w' => e = .returned (.bool true) ∧ Below w.heap.size w w' := by
  have HB := Below.refl w.heap.size w
  have bl := Lib.hid (fun W : World => blank_c W)
  have FS := full_size 768
  have z0 := Lib.hid (show ([] : List OpV).length = 0 from rfl)
  have p1 := Lib.hid (fun W : World => Su.rsput_c 5 0 0 W)
  rw [show Su.supE 5 0 0 = 0 by decide] at p1
  have G0 := Lib.hid (form_ctl (f := ⟨#[]⟩) (d := ⟨0, 0, 0, 0, 0, []⟩) (Su.supB 5 0 0) rfl (by decide) rfl)
  have G1 := Lib.hid (form_ctl (f := fullB 768) (d := ⟨0, 6 + (1 + d), 0, 0, 0, []⟩) (Su.supB 5 0 0) (by simp only [bothB, cform_su (show 1 ≤ 1 + d by omega), Bool.and_false]) (by rw [FS]; decide) rfl)
  have G2 := Lib.hid (form_ctl (f := fullB 768) (d := ⟨0, 0, 0, -(1 + d), 0, []⟩) (Su.supB 5 0 0) (by simp only [bothB, cform_go (show 1 ≤ 1 + d by omega), Bool.and_false]) (by rw [FS]; decide) rfl)
  have G3 := Lib.hid (form_ctl (f := fullB 768) (d := ⟨0, 0, 0, 0, 1 + (1 + d), []⟩) (Su.supB 5 0 0) (by simp only [bothB, cform_sl (show 1 ≤ 1 + d by omega), Bool.and_false]) (by rw [FS]; decide) rfl)
  simp only at G0 G1 G2 G3
  generalize fullB 768 = F at *
  generalize Su.supB 5 0 0 = S at *
  rcases j4 with rfl | rfl | rfl | rfl
  all_goals (go_enter Tryz.func4, Tryz.ntmps4; go_upto_region 14 with (first | (go_at_call 20; with_reducible refine (awake21_c _).mono ?_; rintro e w' ⟨rfl, hb⟩; have HB := bl_step (w := w) (by repeat (with_reducible first | exact HB | (refine bl_set ?_ (by omega)) | apply bl_alloc | apply bl_drew | apply bl_drewN | fail)) hb; have hzB := HB.size) | (go_at_call 21; with_reducible refine (bl.out _).mono ?_; rintro e w' ⟨rfl, hb⟩; have HB := bl_step (w := w) (by repeat (with_reducible first | exact HB | (refine bl_set ?_ (by omega)) | apply bl_alloc | apply bl_drew | apply bl_drewN | fail)) hb; have hzB := HB.size; have K1 := fun cs => Blk.new w' cs 24) | (go_at_call 22; with_reducible refine (p1.out _).mono ?_; rintro e w' ⟨rfl, hb⟩; have HB := bl_step (w := w) (by repeat (with_reducible first | exact HB | (refine bl_set ?_ (by omega)) | apply bl_alloc | apply bl_drew | apply bl_drewN | fail)) hb; have hzB := HB.size; have K1 := Blk.on (by first | exact K1 | exact K1 #[] | exact K1 (.cells #[] 0) #[] | exact K1 #[] #[]) (by repeat (with_reducible first | exact K1 | exact K1 _ | exact K1 _ _ | apply Blk.alloc | apply Blk.drew | apply Blk.drewN | apply Blk.set6_0 | apply Blk.set6_1 | apply Blk.set6_2 | apply Blk.set6_3 | apply Blk.set6_4 | apply Blk.set6_5 | (apply Blk.off; (first | assumption | omega | (simp; omega))) | fail)) hb; (try clear cK1_0 cK1_1 cK1_2 cK1_3 cK1_4 cK1_5 fK1 lK1 nK1 mK1); obtain ⟨cK1_0, cK1_1, cK1_2, cK1_3, cK1_4, cK1_5, fK1, lK1, nK1, mK1⟩ := Blk.all6 K1) | fail))
  all_goals clear K1
  all_goals (go_wp2_with (first | (go_at_call 15; (with_reducible refine (G0.out _).mono ?_); rintro e w2 ⟨⟨A2, c2, rfl⟩, hb⟩; have HB := bl_step (w := w) (by repeat (with_reducible first | exact HB | (refine bl_set ?_ (by omega)) | apply bl_alloc | apply bl_drew | apply bl_drewN | fail)) hb; have hzB := HB.size; have K2 := fun cs => Blk.new w2 cs 24; have K3 := fun o cs => Blk.new1 w2 o cs 27) | (go_at_call 15; (with_reducible refine (G1.out _).mono ?_); rintro e w2 ⟨⟨A2, c2, rfl⟩, hb⟩; have HB := bl_step (w := w) (by repeat (with_reducible first | exact HB | (refine bl_set ?_ (by omega)) | apply bl_alloc | apply bl_drew | apply bl_drewN | fail)) hb; have hzB := HB.size; have K2 := fun cs => Blk.new w2 cs 24; have K3 := fun o cs => Blk.new1 w2 o cs 27) | (go_at_call 15; (with_reducible refine (G2.out _).mono ?_); rintro e w2 ⟨⟨A2, c2, rfl⟩, hb⟩; have HB := bl_step (w := w) (by repeat (with_reducible first | exact HB | (refine bl_set ?_ (by omega)) | apply bl_alloc | apply bl_drew | apply bl_drewN | fail)) hb; have hzB := HB.size; have K2 := fun cs => Blk.new w2 cs 24; have K3 := fun o cs => Blk.new1 w2 o cs 27) | (go_at_call 15; (with_reducible refine (G3.out _).mono ?_); rintro e w2 ⟨⟨A2, c2, rfl⟩, hb⟩; have HB := bl_step (w := w) (by repeat (with_reducible first | exact HB | (refine bl_set ?_ (by omega)) | apply bl_alloc | apply bl_drew | apply bl_drewN | fail)) hb; have hzB := HB.size; have K2 := fun cs => Blk.new w2 cs 24; have K3 := fun o cs => Blk.new1 w2 o cs 27) | (go_at_call 17; (with_reducible refine (sameR_c _ _ _ _ _ _ _ _ _ _ _ _ _ row_none row_none z0.out z0.out).mono ?_); rintro e w3 ⟨rfl, hb⟩; have HB := bl_step (w := w) (by repeat (with_reducible first | exact HB | (refine bl_set ?_ (by omega)) | apply bl_alloc | apply bl_drew | apply bl_drewN | fail)) hb; have hzB := HB.size; have K3 := Blk.on (by first | exact K3 | exact K3 #[] | exact K3 (.cells #[] 0) #[] | exact K3 #[] #[]) (by repeat (with_reducible first | exact K3 | exact K3 _ | exact K3 _ _ | apply Blk.alloc | apply Blk.drew | apply Blk.drewN | apply Blk.set3_0 | apply Blk.set3_1 | apply Blk.set3_2 | (apply Blk.off; (first | assumption | omega | (simp; omega))) | fail)) hb; (try clear cK3_0 cK3_1 cK3_2 fK3 lK3 nK3 mK3); obtain ⟨cK3_0, cK3_1, cK3_2, fK3, lK3, nK3, mK3⟩ := Blk.all3 K3) | (go_at_call 18; with_reducible refine (enum_c _ _).mono ?_; rintro e w' ⟨rfl, rfl⟩) | fail); go_ret; exact ⟨rfl, (by repeat (with_reducible first | exact Below.refl _ _ | assumption | (refine bl_set ?_ (by omega)) | apply bl_alloc | apply bl_drewN | apply bl_drew | (refine bl_step ?_ (by assumption)) | fail))⟩)
theorem cforms_w (x0 x1 : Int) (w : World) : Calls Tryz.prog 4 #[.int .i64 x0, .int .i64 x1] w fun e w' => e = .returned (.bool true) ∧ Below w.heap.size w w' := by
  have h1 := Bt.and3 x0
  have h2 := Bt.and1023 x1
  exact cforms_0 x0 x1 _ _ w rfl (by omega) rfl (by omega) (by omega)
end Go.Proofs.YtalgfekpcklijaaGreat.Dv
