/- Layer 21: awake: what a device answers first. -/
import Derived.Test.YtalgfekpcklijaaGreatCod
import Derived.Test.YtalgfekpcklijaaGreatSuq
import Derived.Test.YtalgfekpcklijaaGreatKitb
namespace Go.Proofs.YtalgfekpcklijaaGreat.Dv
open Go.RowKit Go.Proofs.YtalgfekpcklijaaGreat.Kt Go.Proofs.YtalgfekpcklijaaGreat.Lw Go.Proofs.YtalgfekpcklijaaGreat.St Go.Proofs.YtalgfekpcklijaaGreat.Nm Go.Proofs.YtalgfekpcklijaaGreat.Es Go.Proofs.YtalgfekpcklijaaGreat.By Go.Proofs.YtalgfekpcklijaaGreat.En Go.Proofs.YtalgfekpcklijaaGreat.Jr Go.Proofs.YtalgfekpcklijaaGreat.Im Go.Proofs.YtalgfekpcklijaaGreat.Sl Go.Proofs.YtalgfekpcklijaaGreat.Gr Go.Proofs.YtalgfekpcklijaaGreat.Ops Go.Proofs.YtalgfekpcklijaaGreat.Ch Go.Proofs.YtalgfekpcklijaaGreat.Fl Go.Proofs.YtalgfekpcklijaaGreat.Pl
set_option linter.unusedVariables false
set_option linter.unusedSimpArgs false
attribute [local irreducible] gotB goodB Cr.crcB nQ nS nZ nM placeB wholeB
def abcd : ByteArray := ⟨#[97, 98, 99, 100]⟩
def S21 : ByteArray := Su.supB 1 0 4
def T21 : ByteArray := Su.supB 5 0 1
def L21 : List OpV := erL 0 ++ wordsL (slotAt 0) abcd
def D21 : DS := ⟨1, 0, 1, 4, 0, L21⟩
theorem blank_act21 : activeO (fullB 768) = none := active_none fun x hx => by rw [blank_scan] at hx; simp at hx
theorem blank_other21 : otherN (fullB 768) = 0 := by simp only [otherN, blank_act21]
theorem blank_both21 {d : DS} (h : d.may = true) : bothB (fullB 768) d = true := by simp [bothB, full_size, h]
theorem ok1 : handOk DS.zero S21 abcd = true := by decide +kernel
theorem set1 : setC S21 = 1 ∧ setV S21 = 0 ∧ setL S21 = 4 := by decide +kernel
theorem set5 : setC T21 = 5 ∧ setV T21 = 0 ∧ setL T21 = 1 := by decide +kernel
theorem ok3 : handOk (DS.fail 6) T21 ⟨#[]⟩ = true := by decide +kernel
theorem done1 : doneD (fullB 768) DS.zero S21 abcd = D21 := by
  unfold doneD doesD
  rw [set1.1, set1.2.1, if_pos rfl]
  unfold downD
  rw [if_pos (show DS.zero.st = 0 from rfl), if_neg (show ¬ abcd.size = 0 by decide), if_neg (by simp)]
  unfold downM
  rw [blank_other21]
  rfl
theorem may21 : D21.may = true := by
  have h := hand_down (f := fullB 768) (blank_both21 may_zero) ok1 set1.1
  have := may_down h
  have e : downD (fullB 768) DS.zero (setV S21) abcd = D21 := by
    have := done1
    unfold doneD doesD at this
    rw [set1.1, if_pos rfl] at this
    exact this
  rw [e] at this
  exact this
theorem no2 : handOk D21 S21 abcd = false := by
  have : Tb.allowB 1 (setC S21) = false := by decide +kernel
  have e : Tb.allowB D21.st (setC S21) = false := this
  simp [handOk, e]
theorem ctl1 : ctlD (fullB 768) DS.zero S21 abcd = D21 ∧ ctlS (fullB 768) DS.zero S21 abcd = false ∧ ctlT (fullB 768) DS.zero S21 abcd = ⟨#[]⟩ ∧ ctlE (fullB 768) DS.zero = 0 := by
  have hb := blank_both21 may_zero
  have hy := hand_yes (f := fullB 768) ok1
  rw [done1] at hy
  have hf : failB DS.zero D21 = false := rfl
  rw [hf] at hy
  refine ⟨?_, ?_, ?_, ?_⟩
  · simp only [ctlD, hb, cond_true]; exact hy.1
  · simp only [ctlS, hb, cond_true]; exact hy.2.1
  · simp only [ctlT, hb, cond_true]
    rw [hy.2.2, set1.1]
    simp [doesT]
  · simp only [ctlE, hb, cond_true]
theorem ctl2 : ctlD (fullB 768) D21 S21 abcd = DS.fail 6 ∧ ctlS (fullB 768) D21 S21 abcd = true ∧ ctlT (fullB 768) D21 S21 abcd = ⟨#[]⟩ ∧ ctlE (fullB 768) D21 = 0 := by
  have hb := blank_both21 may21
  have hn := hand_no (f := fullB 768) no2
  refine ⟨?_, ?_, ?_, ?_⟩
  · simp only [ctlD, hb, cond_true]; exact hn.1
  · simp only [ctlS, hb, cond_true]; exact hn.2.1
  · simp only [ctlT, hb, cond_true]; exact hn.2.2
  · simp only [ctlE, hb, cond_true]
theorem ctl3 : ctlD (fullB 768) (DS.fail 6) T21 ⟨#[]⟩ = DS.fail 6 ∧ ctlS (fullB 768) (DS.fail 6) T21 ⟨#[]⟩ = false ∧ ctlT (fullB 768) (DS.fail 6) T21 ⟨#[]⟩ = ⟨#[7]⟩ ∧ ctlE (fullB 768) (DS.fail 6) = 0 := by
  have hb := blank_both21 (may_fail (k := 6) (by decide))
  have hy := hand_yes (f := fullB 768) ok3
  have hd : doneD (fullB 768) (DS.fail 6) T21 ⟨#[]⟩ = DS.fail 6 := by
    unfold doneD doesD
    rw [set5.1]
    simp
  rw [hd] at hy
  have hf : failB (DS.fail 6) (DS.fail 6) = false := rfl
  rw [hf] at hy
  refine ⟨?_, ?_, ?_, ?_⟩
  · simp only [ctlD, hb, cond_true]; exact hy.1
  · simp only [ctlS, hb, cond_true]; exact hy.2.1
  · simp only [ctlT, hb, cond_true]
    rw [hy.2.2, set5.1]
    show doesT (fullB 768) (DS.fail 6) 5 (setV T21) (setL T21) = _
    simp only [doesT, show ¬ (5 : Int) = 2 by decide, show ¬ (5 : Int) = 3 by decide, if_false, if_true]
    decide +kernel
  · simp only [ctlE, hb, cond_true]
theorem ctl4 (t : ByteArray) : ctlD ⟨#[]⟩ DS.zero t ⟨#[]⟩ = DS.zero ∧ ctlS ⟨#[]⟩ DS.zero t ⟨#[]⟩ = false ∧ ctlT ⟨#[]⟩ DS.zero t ⟨#[]⟩ = ⟨#[]⟩ ∧ ctlE ⟨#[]⟩ DS.zero = 2100 := by
  have hb : bothB ⟨#[]⟩ DS.zero = false := rfl
  refine ⟨?_, ?_, ?_, ?_⟩ <;> simp only [ctlD, ctlS, ctlT, ctlE, hb, cond_false]
theorem len21 : L21.length = 4 := by
  simp only [L21, List.length_append, erL, erN_len, wordsL, wordsN_len]
  decide
theorem hand1 (W : World) : Calls Tryz.prog 15 #[.string (fullB 768), .agg #[.int .i64 0, .int .i64 0, .int .i64 0, .int .i64 0, .int .i64 0, .slice none 0 0], .string S21, .string abcd] W fun e w' => (∃ A' c', e = .returned (.tuple #[.agg #[.int .i64 1, .int .i64 0, .int .i64 1, .int .i64 4, .int .i64 0, .slice A' 4 c'], repV false false ⟨#[]⟩, .int .i64 0]) ∧ Row w' A' L21) ∧ Below W.heap.size W w' := by
  have h := control_c (fullB 768) DS.zero S21 abcd none 0 0 W (by rw [full_size]; decide) row_none rfl
  rw [ctl1.1, ctl1.2.1, ctl1.2.2.1, ctl1.2.2.2] at h
  refine h.mono ?_
  rintro e w' ⟨⟨A, n, c, h1, h2, h3⟩, h4⟩
  have h2 : n = 4 := by rw [← h2]; exact len21
  subst h2
  exact ⟨⟨A, c, h1, h3.1⟩, h4⟩
theorem hand2 (W : World) (A : Option Addr) (c : Nat) (hl : Row W A L21) : Calls Tryz.prog 15 #[.string (fullB 768), .agg #[.int .i64 1, .int .i64 0, .int .i64 1, .int .i64 4, .int .i64 0, .slice A 4 c], .string S21, .string abcd] W fun e w' => (∃ A' c', e = .returned (.tuple #[.agg #[.int .i64 7, .int .i64 6, .int .i64 0, .int .i64 0, .int .i64 0, .slice A' 0 c'], repV false true ⟨#[]⟩, .int .i64 0])) ∧ Below W.heap.size W w' := by
  have h := control_c (fullB 768) D21 S21 abcd A c 4 W (by rw [full_size]; decide) hl len21
  rw [ctl2.1, ctl2.2.1, ctl2.2.2.1, ctl2.2.2.2] at h
  refine h.mono ?_
  rintro e w' ⟨⟨A, n, c, h1, h2, h3⟩, h4⟩
  have h2 : n = 0 := h2.symm
  subst h2
  exact ⟨⟨A, c, h1⟩, h4⟩
theorem hand3 (W : World) (A : Option Addr) (c : Nat) : Calls Tryz.prog 15 #[.string (fullB 768), .agg #[.int .i64 7, .int .i64 6, .int .i64 0, .int .i64 0, .int .i64 0, .slice A 0 c], .string T21, .string ⟨#[]⟩] W fun e w' => (∃ A' c', e = .returned (.tuple #[.agg #[.int .i64 7, .int .i64 6, .int .i64 0, .int .i64 0, .int .i64 0, .slice A' 0 c'], repV false false ⟨#[7]⟩, .int .i64 0])) ∧ Below W.heap.size W w' := by
  have h := control_c (fullB 768) (DS.fail 6) T21 ⟨#[]⟩ A c 0 W (by rw [full_size]; decide) row_none rfl
  rw [ctl3.1, ctl3.2.1, ctl3.2.2.1, ctl3.2.2.2] at h
  refine h.mono ?_
  rintro e w' ⟨⟨A, n, c, h1, h2, h3⟩, h4⟩
  have h2 : n = 0 := h2.symm
  subst h2
  exact ⟨⟨A, c, h1⟩, h4⟩
theorem hand4 (W : World) : Calls Tryz.prog 15 #[.string ⟨#[]⟩, .agg #[.int .i64 0, .int .i64 0, .int .i64 0, .int .i64 0, .int .i64 0, .slice none 0 0], .string T21, .string ⟨#[]⟩] W fun e w' => (∃ A' c', e = .returned (.tuple #[.agg #[.int .i64 0, .int .i64 0, .int .i64 0, .int .i64 0, .int .i64 0, .slice A' 0 c'], repV false false ⟨#[]⟩, .int .i64 2100])) ∧ Below W.heap.size W w' := by
  have h := control_c ⟨#[]⟩ DS.zero T21 ⟨#[]⟩ none 0 0 W (by decide) row_none rfl
  rw [(ctl4 T21).1, (ctl4 T21).2.1, (ctl4 T21).2.2.1, (ctl4 T21).2.2.2] at h
  refine h.mono ?_
  rintro e w' ⟨⟨A, n, c, h1, h2, h3⟩, h4⟩
  have h2 : n = 0 := h2.symm
  subst h2
  exact ⟨⟨A, c, h1⟩, h4⟩
attribute [local go_sem high] eqRep
set_option maxRecDepth 100000 in
set_option maxHeartbeats 12800000 in
theorem awake21_c (w : World) : Calls Tryz.prog 20 #[] w fun e w' => e = .returned (.bool true) ∧ Below w.heap.size w w' := by
  have HB := Below.refl w.heap.size w
  have bl := Lib.hid (fun W : World => blank_c W)
  have p1 := Lib.hid (fun W : World => Su.rsput_c 1 0 4 W)
  have p2 := Lib.hid (fun W : World => Su.rsput_c 5 0 1 W)
  rw [show Su.supB 1 0 4 = S21 from rfl, show Su.supE 1 0 4 = 0 by decide] at p1
  rw [show Su.supB 5 0 1 = T21 from rfl, show Su.supE 5 0 1 = 0 by decide] at p2
  have g1 := Lib.hid hand1
  have g2 := Lib.hid hand2
  have g3 := Lib.hid hand3
  have g4 := Lib.hid hand4
  have z0 := Lib.hid (show ([] : List OpV).length = 0 from rfl)
  have hab : abcd = ⟨#[97, 98, 99, 100]⟩ := rfl
  rw [hab] at g1 g2
  clear hab
  have e7 : (⟨#[7]⟩ : ByteArray).toList = [7] := by decide +kernel
  generalize fullB 768 = F at *
  generalize S21 = S at *
  generalize T21 = T at *
  go_enter Tryz.func20, Tryz.ntmps20
  go_upto_region 5 with (first | (go_at_call 21; with_reducible refine (bl.out _).mono ?_; rintro e w' ⟨rfl, hb⟩; have HB := bl_step (w := w) (by repeat (with_reducible first | exact HB | (refine bl_set ?_ (by omega)) | apply bl_alloc | apply bl_drew | apply bl_drewN | fail)) hb; have hzB := HB.size) | (go_at_call 22; with_reducible refine (p1.out _).mono ?_; rintro e w' ⟨rfl, hb⟩; have HB := bl_step (w := w) (by repeat (with_reducible first | exact HB | (refine bl_set ?_ (by omega)) | apply bl_alloc | apply bl_drew | apply bl_drewN | fail)) hb; have hzB := HB.size) | (go_at_call 22; with_reducible refine (p2.out _).mono ?_; rintro e w' ⟨rfl, hb⟩; have HB := bl_step (w := w) (by repeat (with_reducible first | exact HB | (refine bl_set ?_ (by omega)) | apply bl_alloc | apply bl_drew | apply bl_drewN | fail)) hb; have hzB := HB.size) | (go_at_call 15; (with_reducible refine (g1.out _).mono ?_); rintro e w2 ⟨⟨A1, c1, rfl, R1⟩, hb⟩; have HB := bl_step (w := w) (by repeat (with_reducible first | exact HB | (refine bl_set ?_ (by omega)) | apply bl_alloc | apply bl_drew | apply bl_drewN | fail)) hb; have hzB := HB.size; have K1 := fun cs => Blk.new w2 cs 24; have K2 := fun o cs => Blk.new1 w2 o cs 27) | fail)
  go_upto_region 6 with (first | (go_at_call 15; (with_reducible refine (g2.out _ _ _ (R1.below (bl_alloc (bl_alloc (Below.refl _ _) _) _))).mono ?_); rintro e w3 ⟨⟨A2, c2, rfl⟩, hb⟩; have HB := bl_step (w := w) (by repeat (with_reducible first | exact HB | (refine bl_set ?_ (by omega)) | apply bl_alloc | apply bl_drew | apply bl_drewN | fail)) hb; have hzB := HB.size; have K1 := Blk.on (by first | exact K1 | exact K1 #[] | exact K1 (.cells #[] 0) #[] | exact K1 #[] #[]) (by repeat (with_reducible first | exact K1 | exact K1 _ | exact K1 _ _ | apply Blk.alloc | apply Blk.drew | apply Blk.drewN | apply Blk.set6_0 | apply Blk.set6_1 | apply Blk.set6_2 | apply Blk.set6_3 | apply Blk.set6_4 | apply Blk.set6_5 | (apply Blk.off; (first | assumption | omega | (simp; omega))) | fail)) hb; (try clear cK1_0 cK1_1 cK1_2 cK1_3 cK1_4 cK1_5 fK1 lK1 nK1 mK1); obtain ⟨cK1_0, cK1_1, cK1_2, cK1_3, cK1_4, cK1_5, fK1, lK1, nK1, mK1⟩ := Blk.all6 K1; have K2 := Blk.on (by first | exact K2 | exact K2 #[] | exact K2 (.cells #[] 0) #[] | exact K2 #[] #[]) (by repeat (with_reducible first | exact K2 | exact K2 _ | exact K2 _ _ | apply Blk.alloc | apply Blk.drew | apply Blk.drewN | apply Blk.set3_0 | apply Blk.set3_1 | apply Blk.set3_2 | (apply Blk.off; (first | assumption | omega | (simp; omega))) | fail)) hb; (try clear cK2_0 cK2_1 cK2_2 fK2 lK2 nK2 mK2); obtain ⟨cK2_0, cK2_1, cK2_2, fK2, lK2, nK2, mK2⟩ := Blk.all3 K2; have K3 := fun cs => Blk.new w3 cs 24; have K4 := fun o cs => Blk.new1 w3 o cs 27) | fail)
  go_upto_region 7 with (first | (go_at_call 15; (with_reducible refine (g3.out _ _ _).mono ?_); rintro e w4 ⟨⟨A3, c3, rfl⟩, hb⟩; have HB := bl_step (w := w) (by repeat (with_reducible first | exact HB | (refine bl_set ?_ (by omega)) | apply bl_alloc | apply bl_drew | apply bl_drewN | fail)) hb; have hzB := HB.size; have K1 := Blk.on (by first | exact K1 | exact K1 #[] | exact K1 (.cells #[] 0) #[] | exact K1 #[] #[]) (by repeat (with_reducible first | exact K1 | exact K1 _ | exact K1 _ _ | apply Blk.alloc | apply Blk.drew | apply Blk.drewN | apply Blk.set6_0 | apply Blk.set6_1 | apply Blk.set6_2 | apply Blk.set6_3 | apply Blk.set6_4 | apply Blk.set6_5 | (apply Blk.off; (first | assumption | omega | (simp; omega))) | fail)) hb; (try clear cK1_0 cK1_1 cK1_2 cK1_3 cK1_4 cK1_5 fK1 lK1 nK1 mK1); obtain ⟨cK1_0, cK1_1, cK1_2, cK1_3, cK1_4, cK1_5, fK1, lK1, nK1, mK1⟩ := Blk.all6 K1; have K2 := Blk.on (by first | exact K2 | exact K2 #[] | exact K2 (.cells #[] 0) #[] | exact K2 #[] #[]) (by repeat (with_reducible first | exact K2 | exact K2 _ | exact K2 _ _ | apply Blk.alloc | apply Blk.drew | apply Blk.drewN | apply Blk.set3_0 | apply Blk.set3_1 | apply Blk.set3_2 | (apply Blk.off; (first | assumption | omega | (simp; omega))) | fail)) hb; (try clear cK2_0 cK2_1 cK2_2 fK2 lK2 nK2 mK2); obtain ⟨cK2_0, cK2_1, cK2_2, fK2, lK2, nK2, mK2⟩ := Blk.all3 K2; have K3 := Blk.on (by first | exact K3 | exact K3 #[] | exact K3 (.cells #[] 0) #[] | exact K3 #[] #[]) (by repeat (with_reducible first | exact K3 | exact K3 _ | exact K3 _ _ | apply Blk.alloc | apply Blk.drew | apply Blk.drewN | apply Blk.set6_0 | apply Blk.set6_1 | apply Blk.set6_2 | apply Blk.set6_3 | apply Blk.set6_4 | apply Blk.set6_5 | (apply Blk.off; (first | assumption | omega | (simp; omega))) | fail)) hb; (try clear cK3_0 cK3_1 cK3_2 cK3_3 cK3_4 cK3_5 fK3 lK3 nK3 mK3); obtain ⟨cK3_0, cK3_1, cK3_2, cK3_3, cK3_4, cK3_5, fK3, lK3, nK3, mK3⟩ := Blk.all6 K3; have K4 := Blk.on (by first | exact K4 | exact K4 #[] | exact K4 (.cells #[] 0) #[] | exact K4 #[] #[]) (by repeat (with_reducible first | exact K4 | exact K4 _ | exact K4 _ _ | apply Blk.alloc | apply Blk.drew | apply Blk.drewN | apply Blk.set3_0 | apply Blk.set3_1 | apply Blk.set3_2 | (apply Blk.off; (first | assumption | omega | (simp; omega))) | fail)) hb; (try clear cK4_0 cK4_1 cK4_2 fK4 lK4 nK4 mK4); obtain ⟨cK4_0, cK4_1, cK4_2, fK4, lK4, nK4, mK4⟩ := Blk.all3 K4; have K5 := fun cs => Blk.new w4 cs 24; have K6 := fun o cs => Blk.new1 w4 o cs 27) | fail)
  go_upto_region 8 with (first | (go_at_call 15; (with_reducible refine (g4.out _).mono ?_); rintro e w5 ⟨⟨A4, c4, rfl⟩, hb⟩; have HB := bl_step (w := w) (by repeat (with_reducible first | exact HB | (refine bl_set ?_ (by omega)) | apply bl_alloc | apply bl_drew | apply bl_drewN | fail)) hb; have hzB := HB.size; have K1 := Blk.on (by first | exact K1 | exact K1 #[] | exact K1 (.cells #[] 0) #[] | exact K1 #[] #[]) (by repeat (with_reducible first | exact K1 | exact K1 _ | exact K1 _ _ | apply Blk.alloc | apply Blk.drew | apply Blk.drewN | apply Blk.set6_0 | apply Blk.set6_1 | apply Blk.set6_2 | apply Blk.set6_3 | apply Blk.set6_4 | apply Blk.set6_5 | (apply Blk.off; (first | assumption | omega | (simp; omega))) | fail)) hb; (try clear cK1_0 cK1_1 cK1_2 cK1_3 cK1_4 cK1_5 fK1 lK1 nK1 mK1); obtain ⟨cK1_0, cK1_1, cK1_2, cK1_3, cK1_4, cK1_5, fK1, lK1, nK1, mK1⟩ := Blk.all6 K1; have K2 := Blk.on (by first | exact K2 | exact K2 #[] | exact K2 (.cells #[] 0) #[] | exact K2 #[] #[]) (by repeat (with_reducible first | exact K2 | exact K2 _ | exact K2 _ _ | apply Blk.alloc | apply Blk.drew | apply Blk.drewN | apply Blk.set3_0 | apply Blk.set3_1 | apply Blk.set3_2 | (apply Blk.off; (first | assumption | omega | (simp; omega))) | fail)) hb; (try clear cK2_0 cK2_1 cK2_2 fK2 lK2 nK2 mK2); obtain ⟨cK2_0, cK2_1, cK2_2, fK2, lK2, nK2, mK2⟩ := Blk.all3 K2; have K3 := Blk.on (by first | exact K3 | exact K3 #[] | exact K3 (.cells #[] 0) #[] | exact K3 #[] #[]) (by repeat (with_reducible first | exact K3 | exact K3 _ | exact K3 _ _ | apply Blk.alloc | apply Blk.drew | apply Blk.drewN | apply Blk.set6_0 | apply Blk.set6_1 | apply Blk.set6_2 | apply Blk.set6_3 | apply Blk.set6_4 | apply Blk.set6_5 | (apply Blk.off; (first | assumption | omega | (simp; omega))) | fail)) hb; (try clear cK3_0 cK3_1 cK3_2 cK3_3 cK3_4 cK3_5 fK3 lK3 nK3 mK3); obtain ⟨cK3_0, cK3_1, cK3_2, cK3_3, cK3_4, cK3_5, fK3, lK3, nK3, mK3⟩ := Blk.all6 K3; have K4 := Blk.on (by first | exact K4 | exact K4 #[] | exact K4 (.cells #[] 0) #[] | exact K4 #[] #[]) (by repeat (with_reducible first | exact K4 | exact K4 _ | exact K4 _ _ | apply Blk.alloc | apply Blk.drew | apply Blk.drewN | apply Blk.set3_0 | apply Blk.set3_1 | apply Blk.set3_2 | (apply Blk.off; (first | assumption | omega | (simp; omega))) | fail)) hb; (try clear cK4_0 cK4_1 cK4_2 fK4 lK4 nK4 mK4); obtain ⟨cK4_0, cK4_1, cK4_2, fK4, lK4, nK4, mK4⟩ := Blk.all3 K4; have K5 := Blk.on (by first | exact K5 | exact K5 #[] | exact K5 (.cells #[] 0) #[] | exact K5 #[] #[]) (by repeat (with_reducible first | exact K5 | exact K5 _ | exact K5 _ _ | apply Blk.alloc | apply Blk.drew | apply Blk.drewN | apply Blk.set6_0 | apply Blk.set6_1 | apply Blk.set6_2 | apply Blk.set6_3 | apply Blk.set6_4 | apply Blk.set6_5 | (apply Blk.off; (first | assumption | omega | (simp; omega))) | fail)) hb; (try clear cK5_0 cK5_1 cK5_2 cK5_3 cK5_4 cK5_5 fK5 lK5 nK5 mK5); obtain ⟨cK5_0, cK5_1, cK5_2, cK5_3, cK5_4, cK5_5, fK5, lK5, nK5, mK5⟩ := Blk.all6 K5; have K6 := Blk.on (by first | exact K6 | exact K6 #[] | exact K6 (.cells #[] 0) #[] | exact K6 #[] #[]) (by repeat (with_reducible first | exact K6 | exact K6 _ | exact K6 _ _ | apply Blk.alloc | apply Blk.drew | apply Blk.drewN | apply Blk.set3_0 | apply Blk.set3_1 | apply Blk.set3_2 | (apply Blk.off; (first | assumption | omega | (simp; omega))) | fail)) hb; (try clear cK6_0 cK6_1 cK6_2 fK6 lK6 nK6 mK6); obtain ⟨cK6_0, cK6_1, cK6_2, fK6, lK6, nK6, mK6⟩ := Blk.all3 K6; have K7 := fun cs => Blk.new w5 cs 24; have K8 := fun o cs => Blk.new1 w5 o cs 27) | fail)
  go_wp2_with (first | (go_at_call 18; with_reducible refine (enum_c _ _).mono ?_; rintro e w' ⟨rfl, rfl⟩) | (go_at_call 17; with_reducible refine (sameR_c _ _ _ _ _ _ _ _ _ _ _ _ _ row_none row_none z0.out z0.out).mono ?_; rintro e w' ⟨rfl, hb⟩; have HB := bl_step (w := w) (by repeat (with_reducible first | exact HB | (refine bl_set ?_ (by omega)) | apply bl_alloc | apply bl_drew | apply bl_drewN | fail)) hb; have hzB := HB.size; have K4 := Blk.on (by first | exact K4 | exact K4 #[] | exact K4 (.cells #[] 0) #[] | exact K4 #[] #[]) (by repeat (with_reducible first | exact K4 | exact K4 _ | exact K4 _ _ | apply Blk.alloc | apply Blk.drew | apply Blk.drewN | apply Blk.set3_0 | apply Blk.set3_1 | apply Blk.set3_2 | (apply Blk.off; (first | assumption | omega | (simp; omega))) | fail)) hb; (try clear cK4_0 cK4_1 cK4_2 fK4 lK4 nK4 mK4); obtain ⟨cK4_0, cK4_1, cK4_2, fK4, lK4, nK4, mK4⟩ := Blk.all3 K4; have K6 := Blk.on (by first | exact K6 | exact K6 #[] | exact K6 (.cells #[] 0) #[] | exact K6 #[] #[]) (by repeat (with_reducible first | exact K6 | exact K6 _ | exact K6 _ _ | apply Blk.alloc | apply Blk.drew | apply Blk.drewN | apply Blk.set3_0 | apply Blk.set3_1 | apply Blk.set3_2 | (apply Blk.off; (first | assumption | omega | (simp; omega))) | fail)) hb; (try clear cK6_0 cK6_1 cK6_2 fK6 lK6 nK6 mK6); obtain ⟨cK6_0, cK6_1, cK6_2, fK6, lK6, nK6, mK6⟩ := Blk.all3 K6) | fail)
  go_ret
  exact ⟨rfl, (by repeat (with_reducible first | exact Below.refl _ _ | assumption | (refine bl_set ?_ (by omega)) | apply bl_alloc | apply bl_drewN | apply bl_drew | (refine bl_step ?_ (by assumption)) | fail))⟩
end Go.Proofs.YtalgfekpcklijaaGreat.Dv
