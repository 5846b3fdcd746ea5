/- Layer 8: the references' Append. -/
import Derived.Test.YtimnhdmpfndeaaaPle
namespace Go.Proofs.Ytimnhdmpfndeaaa.Pl
open Go.RowKit Go.Proofs.Ytimnhdmpfndeaaa.Kt Go.Proofs.Ytimnhdmpfndeaaa.Lw Go.Proofs.Ytimnhdmpfndeaaa.St Go.Proofs.Ytimnhdmpfndeaaa.Nm Go.Proofs.Ytimnhdmpfndeaaa.By Go.Proofs.Ytimnhdmpfndeaaa.En Go.Proofs.Ytimnhdmpfndeaaa.Jr Go.Proofs.Ytimnhdmpfndeaaa.Im Go.Proofs.Ytimnhdmpfndeaaa.Sl Go.Proofs.Ytimnhdmpfndeaaa.Gr Go.Proofs.Ytimnhdmpfndeaaa.Ops Go.Proofs.Ytimnhdmpfndeaaa.Ch
set_option linter.unusedVariables false
set_option linter.unusedSimpArgs false
attribute [local irreducible] gotB goodB Cr.crcB nQ nS nZ nM placeB wholeB
set_option maxRecDepth 100000 in
set_option maxHeartbeats 12800000 in
theorem rappend_yes (f : ByteArray) (q s z m : Int) (w : World) (hf : f.size = 768) (hm : recMay q s z m = true) :
    Calls Try.prog 13 #[.string f, .agg #[.int .i64 q, .int .i64 s, .int .i64 z, .int .i64 m]] w (appY f q s z m w) := by
  obtain ⟨i0, hi, hz0, hz1, hz2⟩ := info_parts infoOp
  have HB := Below.refl w.heap.size w
  have K0 := Blk.new w #[.int .i64 q, .int .i64 s, .int .i64 z, .int .i64 m] 23
  have mm := Lib.hid (fun W : World => rmay_c f W (by omega))
  rw [decide_eq_true hf] at mm
  have pp := Lib.hid (fun W : World => rput_c q s z m W)
  have hv : putB q s z m = wholeB q s z m ∧ putE q s z m = 0 := by simp [putB, putE, hm]
  rw [hv.1, hv.2] at pp
  have ac := Lib.hid (fun W : World => ractive_c f W hf)
  have hl := home_lt f
  have fr := Lib.hid (fun W : World => rfree_c f (homeN f) W hf hl)
  have ht := whole_size q s z m
  have hwl := Lib.hid (fun a : Int => words24_len (a := a) ht)
  cases hao : activeO f
  · have hav := act_none hao
    rw [hav.1, hav.2] at ac
    have hh := home_none hao
    rw [hh] at fr hl
    rw [show ((0 : Nat) : Int) = 0 from rfl] at fr
    clear hav hao
    cases ho : freeO f 0 with
    | some k =>
      have hk := freeO_lt ho
      rw [freeV_some ho] at fr
      have wd := Lib.hid (fun W : World => rwords24_c (24 * (k : Int)) (wholeB q s z m) W (by omega) (by omega) (by omega) ht)
      have hap := Lib.hid (show appL f q s z m = [] ++ wordsL (24 * (k : Int)) (wholeB q s z m) by simp only [appL, headL, spotN, hh, ho])
      have hal : (appL f q s z m).length = 6 := by rw [hap.out, List.nil_append]; exact words24_len ht
      have HAL := Lib.hid hal
      clear hm hf hv ho hk ht hal hh
      generalize wholeB q s z m = T at *
      go_enter Try.func13, Try.ntmps13
      go_upto_region 14 with (first | (go_at_call 25; with_reducible refine (pp.out _).mono ?_; rintro e w' ⟨rfl, hb⟩; have HB := bl_step (w := w) (by repeat (with_reducible first | exact HB | (refine bl_set ?_ (by omega)) | apply bl_alloc | apply bl_drew | apply bl_drewN | fail)) hb; have hzB := HB.size; have K0 := Blk.on (by first | exact K0 | exact K0 #[] | exact K0 (.cells #[] 0) #[]) (by repeat (with_reducible first | exact K0 | exact K0 _ | exact K0 _ _ | apply Blk.alloc | apply Blk.drew | apply Blk.drewN | apply Blk.set4_0 | apply Blk.set4_1 | apply Blk.set4_2 | apply Blk.set4_3 | (apply Blk.off; (first | assumption | omega | (simp; omega))) | fail)) hb; (try clear cK0_0 cK0_1 cK0_2 cK0_3 fK0 lK0 nK0 mK0); obtain ⟨cK0_0, cK0_1, cK0_2, cK0_3, fK0, lK0, nK0, mK0⟩ := Blk.all4 K0) | (go_at_call 31; with_reducible refine (mm.out _).mono ?_; rintro e w' ⟨rfl, rfl⟩) | (go_at_call 18; with_reducible refine (ac.out _).mono ?_; rintro e w' ⟨rfl, hb⟩; have HB := bl_step (w := w) (by repeat (with_reducible first | exact HB | (refine bl_set ?_ (by omega)) | apply bl_alloc | apply bl_drew | apply bl_drewN | fail)) hb; have hzB := HB.size; have K0 := Blk.on (by first | exact K0 | exact K0 #[] | exact K0 (.cells #[] 0) #[]) (by repeat (with_reducible first | exact K0 | exact K0 _ | exact K0 _ _ | apply Blk.alloc | apply Blk.drew | apply Blk.drewN | apply Blk.set4_0 | apply Blk.set4_1 | apply Blk.set4_2 | apply Blk.set4_3 | (apply Blk.off; (first | assumption | omega | (simp; omega))) | fail)) hb; (try clear cK0_0 cK0_1 cK0_2 cK0_3 fK0 lK0 nK0 mK0); obtain ⟨cK0_0, cK0_1, cK0_2, cK0_3, fK0, lK0, nK0, mK0⟩ := Blk.all4 K0; have K1 := fun cs => Blk.new w' cs 40) | (go_at_call 40; with_reducible refine (fr.out _).mono ?_; rintro e w' ⟨rfl, hb⟩; have HB := bl_step (w := w) (by repeat (with_reducible first | exact HB | (refine bl_set ?_ (by omega)) | apply bl_alloc | apply bl_drew | apply bl_drewN | fail)) hb; have hzB := HB.size; have K0 := Blk.on (by first | exact K0 | exact K0 #[] | exact K0 (.cells #[] 0) #[]) (by repeat (with_reducible first | exact K0 | exact K0 _ | exact K0 _ _ | apply Blk.alloc | apply Blk.drew | apply Blk.drewN | apply Blk.set4_0 | apply Blk.set4_1 | apply Blk.set4_2 | apply Blk.set4_3 | (apply Blk.off; (first | assumption | omega | (simp; omega))) | fail)) hb; (try clear cK0_0 cK0_1 cK0_2 cK0_3 fK0 lK0 nK0 mK0); obtain ⟨cK0_0, cK0_1, cK0_2, cK0_3, fK0, lK0, nK0, mK0⟩ := Blk.all4 K0) | (go_at_call 41; (with_reducible refine (wd.out _).mono ?_); rintro e w4 ⟨A, c, rfl, hown, hb4⟩) | fail)
      have LW := lies_own encOp_len hown (hwl.out _)
      have HB4 : Below w.heap.size w w4 := bl_step (w := w) (by repeat (with_reducible first | exact HB | apply bl_alloc | apply bl_drew | fail)) hb4
      go_wp2_with (first | (at_builtin; refine wpList_grow rfl _ _ 29 rfl w4 w.heap.size 50 i0 (.agg #[.bool false, .int .i64 0, .string ⟨#[]⟩]) 32 Try.underlying29 hi hz0 hz1 hz2 rfl (by decide) encOp_len encOp_one (.slice none 0 0) rfl 0 [] (World.ownsRow_nil _ _ _ _) A 6 c rfl (wordsL (24 * (k : Int)) T) LW (hwl.out _) (by decide) (by decide) HB4.size ?_; intro A' c' w5 hown' hgrow5 hat5) | fail)
      go_ret2
      refine ⟨A', c', by rw [HAL.out]; rfl, ?_, bl_grown HB4 hgrow5 (fun g hg => by simp [Value.ownBlock] at hg)⟩
      rw [HAL.out, hap.out]
      exact hown'
    | none =>
      rw [freeV_none ho] at fr
      have wd := Lib.hid (fun W : World => rwords24_c (96) (wholeB q s z m) W (by omega) (by omega) (by omega) ht)
      have hap := Lib.hid (show appL f q s z m = [(true, 96, (⟨#[]⟩ : ByteArray))] ++ wordsL (96) (wholeB q s z m) by simp only [appL, headL, spotN, hh, ho]; rfl)
      have hal : (appL f q s z m).length = 7 := by rw [hap.out, List.length_append, words24_len ht]; rfl
      have HAL := Lib.hid hal
      clear hm hf hv ho ht hal hh
      generalize wholeB q s z m = T at *
      go_enter Try.func13, Try.ntmps13
      go_upto_region 12 with (first | (go_at_call 25; with_reducible refine (pp.out _).mono ?_; rintro e w' ⟨rfl, hb⟩; have HB := bl_step (w := w) (by repeat (with_reducible first | exact HB | (refine bl_set ?_ (by omega)) | apply bl_alloc | apply bl_drew | apply bl_drewN | fail)) hb; have hzB := HB.size; have K0 := Blk.on (by first | exact K0 | exact K0 #[] | exact K0 (.cells #[] 0) #[]) (by repeat (with_reducible first | exact K0 | exact K0 _ | exact K0 _ _ | apply Blk.alloc | apply Blk.drew | apply Blk.drewN | apply Blk.set4_0 | apply Blk.set4_1 | apply Blk.set4_2 | apply Blk.set4_3 | (apply Blk.off; (first | assumption | omega | (simp; omega))) | fail)) hb; (try clear cK0_0 cK0_1 cK0_2 cK0_3 fK0 lK0 nK0 mK0); obtain ⟨cK0_0, cK0_1, cK0_2, cK0_3, fK0, lK0, nK0, mK0⟩ := Blk.all4 K0) | (go_at_call 31; with_reducible refine (mm.out _).mono ?_; rintro e w' ⟨rfl, rfl⟩) | (go_at_call 18; with_reducible refine (ac.out _).mono ?_; rintro e w' ⟨rfl, hb⟩; have HB := bl_step (w := w) (by repeat (with_reducible first | exact HB | (refine bl_set ?_ (by omega)) | apply bl_alloc | apply bl_drew | apply bl_drewN | fail)) hb; have hzB := HB.size; have K0 := Blk.on (by first | exact K0 | exact K0 #[] | exact K0 (.cells #[] 0) #[]) (by repeat (with_reducible first | exact K0 | exact K0 _ | exact K0 _ _ | apply Blk.alloc | apply Blk.drew | apply Blk.drewN | apply Blk.set4_0 | apply Blk.set4_1 | apply Blk.set4_2 | apply Blk.set4_3 | (apply Blk.off; (first | assumption | omega | (simp; omega))) | fail)) hb; (try clear cK0_0 cK0_1 cK0_2 cK0_3 fK0 lK0 nK0 mK0); obtain ⟨cK0_0, cK0_1, cK0_2, cK0_3, fK0, lK0, nK0, mK0⟩ := Blk.all4 K0; have K1 := fun cs => Blk.new w' cs 40) | (go_at_call 40; with_reducible refine (fr.out _).mono ?_; rintro e w' ⟨rfl, hb⟩; have HB := bl_step (w := w) (by repeat (with_reducible first | exact HB | (refine bl_set ?_ (by omega)) | apply bl_alloc | apply bl_drew | apply bl_drewN | fail)) hb; have hzB := HB.size; have K0 := Blk.on (by first | exact K0 | exact K0 #[] | exact K0 (.cells #[] 0) #[]) (by repeat (with_reducible first | exact K0 | exact K0 _ | exact K0 _ _ | apply Blk.alloc | apply Blk.drew | apply Blk.drewN | apply Blk.set4_0 | apply Blk.set4_1 | apply Blk.set4_2 | apply Blk.set4_3 | (apply Blk.off; (first | assumption | omega | (simp; omega))) | fail)) hb; (try clear cK0_0 cK0_1 cK0_2 cK0_3 fK0 lK0 nK0 mK0); obtain ⟨cK0_0, cK0_1, cK0_2, cK0_3, fK0, lK0, nK0, mK0⟩ := Blk.all4 K0) | fail)
      go_upto_region 13 with (first | (at_builtin; refine wpList_append_own _ rfl _ _ 29 rfl w.heap.size 50 i0 (.agg #[.bool false, .int .i64 0, .string ⟨#[]⟩]) 3 32 Try.underlying29 hi hz0 hz1 hz2 rfl (by decide) _ _ _ rfl (World.ownsRow_nil _ _ _ _) ⟨w'.heap.size, 0, none⟩ 1 1 [.bool true, .int .i64 (96), .string ⟨#[]⟩] rfl rfl (cells_new _ _ _) (fun x hx => by simp at hx; rcases hx with rfl | rfl | rfl <;> rfl) (by decide) (by decide) (by have := HB.size; simp; omega) ?_; intro v' w3 hown' hgrow3 hnil3) | fail)
      obtain ⟨⟨g3, cv', rfl, hcv⟩, hb3⟩ := row_stepz (by decide) (World.ownsRow_nil _ _ _ _) hown' hgrow3 HB
      have hg3 : w.heap.size ≤ g3 := (hown'.lt g3 rfl).1
      go_upto_region 14 with (first | (go_at_call 41; (with_reducible refine (wd.out _).mono ?_); rintro e w4 ⟨A, c, rfl, hown4, hb4⟩) | fail)
      have HB4 := bl_step hb3 hb4
      have LW := lies_own encOp_len hown4 (hwl.out _)
      have hown5 : w4.ownsRow w.heap.size 50 3 (.slice (some ⟨g3, 0, none⟩) 1 cv') 1 ([(true, 96, (⟨#[]⟩ : ByteArray))].flatMap encOp) := own_below hown' hb4
      go_wp2_with (first | (at_builtin; refine wpList_grow rfl _ _ 29 rfl w4 w.heap.size 50 i0 (.agg #[.bool false, .int .i64 0, .string ⟨#[]⟩]) 32 Try.underlying29 hi hz0 hz1 hz2 rfl (by decide) encOp_len encOp_one (.slice (some ⟨g3, 0, none⟩) 1 cv') rfl 1 [(true, 96, (⟨#[]⟩ : ByteArray))] hown5 A 6 c rfl (wordsL (96) T) LW (hwl.out _) (by decide) (by decide) HB4.size ?_; intro A' c' w5 hown6 hgrow5 hat5) | fail)
      go_ret2
      refine ⟨A', c', by rw [HAL.out]; rfl, ?_, bl_grown HB4 hgrow5 (fun g hg => by simp [Value.ownBlock] at hg; omega)⟩
      rw [HAL.out, hap.out]
      exact hown6
  · rename_i p
    have hav := act_some hao
    rw [hav.1, hav.2] at ac
    obtain ⟨hr0, hr1⟩ := (act_ok hao).at_rng
    have hh : p.at_ / 96 = (homeN f : Int) := by rw [home_some hao]; omega
    clear hav hao
    cases ho : freeO f (homeN f) with
    | some k =>
      have hk := freeO_lt ho
      rw [freeV_some ho] at fr
      have wd := Lib.hid (fun W : World => rwords24_c (24 * (k : Int)) (wholeB q s z m) W (by omega) (by omega) (by omega) ht)
      have hap := Lib.hid (show appL f q s z m = [] ++ wordsL (24 * (k : Int)) (wholeB q s z m) by simp only [appL, headL, spotN, ho])
      have hal : (appL f q s z m).length = 6 := by rw [hap.out, List.nil_append]; exact words24_len ht
      have HAL := Lib.hid hal
      clear hm hf hv ho hk ht hal
      generalize homeN f = h at *
      generalize wholeB q s z m = T at *
      go_enter Try.func13, Try.ntmps13
      go_upto_region 14 with (first | (go_at_call 25; with_reducible refine (pp.out _).mono ?_; rintro e w' ⟨rfl, hb⟩; have HB := bl_step (w := w) (by repeat (with_reducible first | exact HB | (refine bl_set ?_ (by omega)) | apply bl_alloc | apply bl_drew | apply bl_drewN | fail)) hb; have hzB := HB.size; have K0 := Blk.on (by first | exact K0 | exact K0 #[] | exact K0 (.cells #[] 0) #[]) (by repeat (with_reducible first | exact K0 | exact K0 _ | exact K0 _ _ | apply Blk.alloc | apply Blk.drew | apply Blk.drewN | apply Blk.set4_0 | apply Blk.set4_1 | apply Blk.set4_2 | apply Blk.set4_3 | (apply Blk.off; (first | assumption | omega | (simp; omega))) | fail)) hb; (try clear cK0_0 cK0_1 cK0_2 cK0_3 fK0 lK0 nK0 mK0); obtain ⟨cK0_0, cK0_1, cK0_2, cK0_3, fK0, lK0, nK0, mK0⟩ := Blk.all4 K0) | (go_at_call 31; with_reducible refine (mm.out _).mono ?_; rintro e w' ⟨rfl, rfl⟩) | (go_at_call 18; with_reducible refine (ac.out _).mono ?_; rintro e w' ⟨rfl, hb⟩; have HB := bl_step (w := w) (by repeat (with_reducible first | exact HB | (refine bl_set ?_ (by omega)) | apply bl_alloc | apply bl_drew | apply bl_drewN | fail)) hb; have hzB := HB.size; have K0 := Blk.on (by first | exact K0 | exact K0 #[] | exact K0 (.cells #[] 0) #[]) (by repeat (with_reducible first | exact K0 | exact K0 _ | exact K0 _ _ | apply Blk.alloc | apply Blk.drew | apply Blk.drewN | apply Blk.set4_0 | apply Blk.set4_1 | apply Blk.set4_2 | apply Blk.set4_3 | (apply Blk.off; (first | assumption | omega | (simp; omega))) | fail)) hb; (try clear cK0_0 cK0_1 cK0_2 cK0_3 fK0 lK0 nK0 mK0); obtain ⟨cK0_0, cK0_1, cK0_2, cK0_3, fK0, lK0, nK0, mK0⟩ := Blk.all4 K0; have K1 := fun cs => Blk.new w' cs 40) | (go_at_call 40; with_reducible refine (fr.out _).mono ?_; rintro e w' ⟨rfl, hb⟩; have HB := bl_step (w := w) (by repeat (with_reducible first | exact HB | (refine bl_set ?_ (by omega)) | apply bl_alloc | apply bl_drew | apply bl_drewN | fail)) hb; have hzB := HB.size; have K0 := Blk.on (by first | exact K0 | exact K0 #[] | exact K0 (.cells #[] 0) #[]) (by repeat (with_reducible first | exact K0 | exact K0 _ | exact K0 _ _ | apply Blk.alloc | apply Blk.drew | apply Blk.drewN | apply Blk.set4_0 | apply Blk.set4_1 | apply Blk.set4_2 | apply Blk.set4_3 | (apply Blk.off; (first | assumption | omega | (simp; omega))) | fail)) hb; (try clear cK0_0 cK0_1 cK0_2 cK0_3 fK0 lK0 nK0 mK0); obtain ⟨cK0_0, cK0_1, cK0_2, cK0_3, fK0, lK0, nK0, mK0⟩ := Blk.all4 K0) | (go_at_call 41; (with_reducible refine (wd.out _).mono ?_); rintro e w4 ⟨A, c, rfl, hown, hb4⟩) | fail)
      have LW := lies_own encOp_len hown (hwl.out _)
      have HB4 : Below w.heap.size w w4 := bl_step (w := w) (by repeat (with_reducible first | exact HB | apply bl_alloc | apply bl_drew | fail)) hb4
      go_wp2_with (first | (at_builtin; refine wpList_grow rfl _ _ 29 rfl w4 w.heap.size 50 i0 (.agg #[.bool false, .int .i64 0, .string ⟨#[]⟩]) 32 Try.underlying29 hi hz0 hz1 hz2 rfl (by decide) encOp_len encOp_one (.slice none 0 0) rfl 0 [] (World.ownsRow_nil _ _ _ _) A 6 c rfl (wordsL (24 * (k : Int)) T) LW (hwl.out _) (by decide) (by decide) HB4.size ?_; intro A' c' w5 hown' hgrow5 hat5) | fail)
      go_ret2
      refine ⟨A', c', by rw [HAL.out]; rfl, ?_, bl_grown HB4 hgrow5 (fun g hg => by simp [Value.ownBlock] at hg)⟩
      rw [HAL.out, hap.out]
      exact hown'
    | none =>
      rw [freeV_none ho] at fr
      have wd := Lib.hid (fun W : World => rwords24_c ((1 - (homeN f : Int)) * 96) (wholeB q s z m) W (by omega) (by omega) (by omega) ht)
      have hap := Lib.hid (show appL f q s z m = [(true, (1 - (homeN f : Int)) * 96, (⟨#[]⟩ : ByteArray))] ++ wordsL ((1 - (homeN f : Int)) * 96) (wholeB q s z m) by simp only [appL, headL, spotN, ho])
      have hal : (appL f q s z m).length = 7 := by rw [hap.out, List.length_append, words24_len ht]; rfl
      have HAL := Lib.hid hal
      clear hm hf hv ho ht hal
      generalize homeN f = h at *
      generalize wholeB q s z m = T at *
      go_enter Try.func13, Try.ntmps13
      go_upto_region 12 with (first | (go_at_call 25; with_reducible refine (pp.out _).mono ?_; rintro e w' ⟨rfl, hb⟩; have HB := bl_step (w := w) (by repeat (with_reducible first | exact HB | (refine bl_set ?_ (by omega)) | apply bl_alloc | apply bl_drew | apply bl_drewN | fail)) hb; have hzB := HB.size; have K0 := Blk.on (by first | exact K0 | exact K0 #[] | exact K0 (.cells #[] 0) #[]) (by repeat (with_reducible first | exact K0 | exact K0 _ | exact K0 _ _ | apply Blk.alloc | apply Blk.drew | apply Blk.drewN | apply Blk.set4_0 | apply Blk.set4_1 | apply Blk.set4_2 | apply Blk.set4_3 | (apply Blk.off; (first | assumption | omega | (simp; omega))) | fail)) hb; (try clear cK0_0 cK0_1 cK0_2 cK0_3 fK0 lK0 nK0 mK0); obtain ⟨cK0_0, cK0_1, cK0_2, cK0_3, fK0, lK0, nK0, mK0⟩ := Blk.all4 K0) | (go_at_call 31; with_reducible refine (mm.out _).mono ?_; rintro e w' ⟨rfl, rfl⟩) | (go_at_call 18; with_reducible refine (ac.out _).mono ?_; rintro e w' ⟨rfl, hb⟩; have HB := bl_step (w := w) (by repeat (with_reducible first | exact HB | (refine bl_set ?_ (by omega)) | apply bl_alloc | apply bl_drew | apply bl_drewN | fail)) hb; have hzB := HB.size; have K0 := Blk.on (by first | exact K0 | exact K0 #[] | exact K0 (.cells #[] 0) #[]) (by repeat (with_reducible first | exact K0 | exact K0 _ | exact K0 _ _ | apply Blk.alloc | apply Blk.drew | apply Blk.drewN | apply Blk.set4_0 | apply Blk.set4_1 | apply Blk.set4_2 | apply Blk.set4_3 | (apply Blk.off; (first | assumption | omega | (simp; omega))) | fail)) hb; (try clear cK0_0 cK0_1 cK0_2 cK0_3 fK0 lK0 nK0 mK0); obtain ⟨cK0_0, cK0_1, cK0_2, cK0_3, fK0, lK0, nK0, mK0⟩ := Blk.all4 K0; have K1 := fun cs => Blk.new w' cs 40) | (go_at_call 40; with_reducible refine (fr.out _).mono ?_; rintro e w' ⟨rfl, hb⟩; have HB := bl_step (w := w) (by repeat (with_reducible first | exact HB | (refine bl_set ?_ (by omega)) | apply bl_alloc | apply bl_drew | apply bl_drewN | fail)) hb; have hzB := HB.size; have K0 := Blk.on (by first | exact K0 | exact K0 #[] | exact K0 (.cells #[] 0) #[]) (by repeat (with_reducible first | exact K0 | exact K0 _ | exact K0 _ _ | apply Blk.alloc | apply Blk.drew | apply Blk.drewN | apply Blk.set4_0 | apply Blk.set4_1 | apply Blk.set4_2 | apply Blk.set4_3 | (apply Blk.off; (first | assumption | omega | (simp; omega))) | fail)) hb; (try clear cK0_0 cK0_1 cK0_2 cK0_3 fK0 lK0 nK0 mK0); obtain ⟨cK0_0, cK0_1, cK0_2, cK0_3, fK0, lK0, nK0, mK0⟩ := Blk.all4 K0) | fail)
      go_upto_region 13 with (first | (at_builtin; refine wpList_append_own _ rfl _ _ 29 rfl w.heap.size 50 i0 (.agg #[.bool false, .int .i64 0, .string ⟨#[]⟩]) 3 32 Try.underlying29 hi hz0 hz1 hz2 rfl (by decide) _ _ _ rfl (World.ownsRow_nil _ _ _ _) ⟨w'.heap.size, 0, none⟩ 1 1 [.bool true, .int .i64 ((1 - (h : Int)) * 96), .string ⟨#[]⟩] rfl rfl (cells_new _ _ _) (fun x hx => by simp at hx; rcases hx with rfl | rfl | rfl <;> rfl) (by decide) (by decide) (by have := HB.size; simp; omega) ?_; intro v' w3 hown' hgrow3 hnil3) | fail)
      obtain ⟨⟨g3, cv', rfl, hcv⟩, hb3⟩ := row_stepz (by decide) (World.ownsRow_nil _ _ _ _) hown' hgrow3 HB
      have hg3 : w.heap.size ≤ g3 := (hown'.lt g3 rfl).1
      go_upto_region 14 with (first | (go_at_call 41; (with_reducible refine (wd.out _).mono ?_); rintro e w4 ⟨A, c, rfl, hown4, hb4⟩) | fail)
      have HB4 := bl_step hb3 hb4
      have LW := lies_own encOp_len hown4 (hwl.out _)
      have hown5 : w4.ownsRow w.heap.size 50 3 (.slice (some ⟨g3, 0, none⟩) 1 cv') 1 ([(true, (1 - (h : Int)) * 96, (⟨#[]⟩ : ByteArray))].flatMap encOp) := own_below hown' hb4
      go_wp2_with (first | (at_builtin; refine wpList_grow rfl _ _ 29 rfl w4 w.heap.size 50 i0 (.agg #[.bool false, .int .i64 0, .string ⟨#[]⟩]) 32 Try.underlying29 hi hz0 hz1 hz2 rfl (by decide) encOp_len encOp_one (.slice (some ⟨g3, 0, none⟩) 1 cv') rfl 1 [(true, (1 - (h : Int)) * 96, (⟨#[]⟩ : ByteArray))] hown5 A 6 c rfl (wordsL ((1 - (h : Int)) * 96) T) LW (hwl.out _) (by decide) (by decide) HB4.size ?_; intro A' c' w5 hown6 hgrow5 hat5) | fail)
      go_ret2
      refine ⟨A', c', by rw [HAL.out]; rfl, ?_, bl_grown HB4 hgrow5 (fun g hg => by simp [Value.ownBlock] at hg; omega)⟩
      rw [HAL.out, hap.out]
      exact hown6
end Go.Proofs.Ytimnhdmpfndeaaa.Pl
