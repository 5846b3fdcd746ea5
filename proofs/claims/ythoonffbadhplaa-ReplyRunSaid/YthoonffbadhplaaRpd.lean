/- Layer 23: replies: the program's methods: poll, wait. -/
import Derived.Test.YthoonffbadhplaaRpb
namespace Go.Proofs.Ythoonffbadhplaa.Rp
open Go.RowKit Go.Proofs.Ythoonffbadhplaa.Kt Go.Proofs.Ythoonffbadhplaa.Lw Go.Proofs.Ythoonffbadhplaa.St Go.Proofs.Ythoonffbadhplaa.Nm Go.Proofs.Ythoonffbadhplaa.An Go.Proofs.Ythoonffbadhplaa.Ho
set_option linter.unusedVariables false
set_option linter.unusedSimpArgs false
set_option maxHeartbeats 6400000 in
theorem next1_c (g : Nat) (ph : Int) (im : ByteArray) (bl : Int) (ag : Bool) (tr : Int) (rd : ByteArray) (rp : Int) (w : World) (K0 : Blk w g #[.int .i64 ph, .string im, .int .i64 bl, .bool ag, .int .i64 tr, .string rd, .int .i64 rp] 52) (b0 : 0 ≤ bl) (b1 : bl + 1 < manyI im) (i1 : im.size ≤ 288) : Calls Try.prog 46 #[.pointer (some ⟨g, 0, none⟩)] w fun e w' => e = .returned (.tuple #[]) ∧ Blk w' g #[.int .i64 (2), .string (im), .int .i64 (bl + 1), .bool (ag), .int .i64 (tr), .string (rd), .int .i64 (rp)] 52 ∧ w.grownBy w' (some g) := by
  have b2 : manyI im ≤ 9 := by unfold manyI; omega
  have GB := gb_refl w g
  obtain ⟨cK0_0, cK0_1, cK0_2, cK0_3, cK0_4, cK0_5, cK0_6, fK0, lK0, nK0, mK0⟩ := Blk.all7 K0
  have e1 : (bl + 1 == manyI im) = false := beq_eq_false_iff_ne.2 (by omega)
  go_enter Try.func46, Try.ntmps46
  go_wp2_with fail
  have qK0_0 := fun s : Wld _ => Wld.cell cK0_0 s; have qK0_1 := fun s : Wld _ => Wld.cell cK0_1 s; have qK0_2 := fun s : Wld _ => Wld.cell cK0_2 s; have qK0_3 := fun s : Wld _ => Wld.cell cK0_3 s; have qK0_4 := fun s : Wld _ => Wld.cell cK0_4 s; have qK0_5 := fun s : Wld _ => Wld.cell cK0_5 s; have qK0_6 := fun s : Wld _ => Wld.cell cK0_6 s
  refine wld_tail 15 (by kernel_rfl) (by kernel_rfl) ?_
  simp only [List.take_succ_cons, List.take_zero, List.drop_succ_cons, List.drop_zero]
  repeat (go_big_quiet_step (first | (go_at_call 43; with_reducible exact Wld.same (hmany_c g _ _ (qK0_1 _) (by omega))) | fail))
  refine wpQuiet_nil ?_; refine Wld.elim ?_; intro w' hb; clear qK0_0 qK0_1 qK0_2 qK0_3 qK0_4 qK0_5 qK0_6; have GB := gb_bel (w := w) (by repeat (with_reducible first | exact GB | exact gb_refl _ _ | apply gb_set | apply gb_alloc | apply gb_drew | fail)) hb; have K0 := Blk.on (by first | exact K0 | exact K0 #[] | exact K0 (.cells #[] 0) #[]) (by repeat (with_reducible first | exact K0 | exact K0 _ | exact K0 _ _ | apply Blk.alloc | apply Blk.drew | apply Blk.set7_0 | apply Blk.set7_1 | apply Blk.set7_2 | apply Blk.set7_3 | apply Blk.set7_4 | apply Blk.set7_5 | apply Blk.set7_6 | (apply Blk.off; (first | assumption | omega | (simp; omega))) | fail)) hb; (try clear cK0_0 cK0_1 cK0_2 cK0_3 cK0_4 cK0_5 cK0_6 fK0 lK0 nK0 mK0); obtain ⟨cK0_0, cK0_1, cK0_2, cK0_3, cK0_4, cK0_5, cK0_6, fK0, lK0, nK0, mK0⟩ := Blk.all7 K0
  go_upto_region 2 with fail
  have K0 := Blk.set7_0 (Blk.set7_2 K0 (.int .i64 (bl + 1))) (.int .i64 2)
  have GB := gb_set (j := 0) (v := .int .i64 2) (gb_set (j := 2) (v := .int .i64 (bl + 1)) GB)
  clear cK0_0 cK0_1 cK0_2 cK0_3 cK0_4 cK0_5 cK0_6 fK0 lK0 nK0 mK0
  generalize (w'.setCell ⟨g, 2, none⟩ (.int .i64 (bl + 1))).setCell ⟨g, 0, none⟩ (.int .i64 2) = w2 at *
  obtain ⟨cK0_0, cK0_1, cK0_2, cK0_3, cK0_4, cK0_5, cK0_6, fK0, lK0, nK0, mK0⟩ := Blk.all7 K0
  have qK0_0 := fun s : Wld _ => Wld.cell cK0_0 s; have qK0_1 := fun s : Wld _ => Wld.cell cK0_1 s; have qK0_2 := fun s : Wld _ => Wld.cell cK0_2 s; have qK0_3 := fun s : Wld _ => Wld.cell cK0_3 s; have qK0_4 := fun s : Wld _ => Wld.cell cK0_4 s; have qK0_5 := fun s : Wld _ => Wld.cell cK0_5 s; have qK0_6 := fun s : Wld _ => Wld.cell cK0_6 s
  refine wld_lit (by kernel_rfl) (by kernel_rfl) ?_
  repeat (go_big_quiet_step (first | (go_at_call 43; with_reducible exact Wld.same (hmany_c g _ _ (qK0_1 _) (by omega))) | fail))
  refine wpQuiet_nil ?_; refine Wld.elim ?_; intro w' hb; clear qK0_0 qK0_1 qK0_2 qK0_3 qK0_4 qK0_5 qK0_6; have GB := gb_bel (w := w) (by repeat (with_reducible first | exact GB | exact gb_refl _ _ | apply gb_set | apply gb_alloc | apply gb_drew | fail)) hb; have K0 := Blk.on (by first | exact K0 | exact K0 #[] | exact K0 (.cells #[] 0) #[]) (by repeat (with_reducible first | exact K0 | exact K0 _ | exact K0 _ _ | apply Blk.alloc | apply Blk.drew | apply Blk.set7_0 | apply Blk.set7_1 | apply Blk.set7_2 | apply Blk.set7_3 | apply Blk.set7_4 | apply Blk.set7_5 | apply Blk.set7_6 | (apply Blk.off; (first | assumption | omega | (simp; omega))) | fail)) hb; (try clear cK0_0 cK0_1 cK0_2 cK0_3 cK0_4 cK0_5 cK0_6 fK0 lK0 nK0 mK0); obtain ⟨cK0_0, cK0_1, cK0_2, cK0_3, cK0_4, cK0_5, cK0_6, fK0, lK0, nK0, mK0⟩ := Blk.all7 K0
  go_wp2_with fail
  go_end0
  exact ⟨rfl, ⟨(by repeat (with_reducible first | exact K0 | apply Blk.alloc | apply Blk.drew | apply Blk.set7_0 | apply Blk.set7_1 | apply Blk.set7_2 | apply Blk.set7_3 | apply Blk.set7_4 | apply Blk.set7_5 | apply Blk.set7_6 | (apply Blk.off; (first | assumption | omega | (simp; omega))) | fail)), (by repeat (with_reducible first | exact GB | exact gb_refl _ _ | apply gb_set | apply gb_alloc | apply gb_drew | fail))⟩⟩
set_option maxHeartbeats 6400000 in
theorem next2_c (g : Nat) (ph : Int) (im : ByteArray) (bl : Int) (ag : Bool) (tr : Int) (rd : ByteArray) (rp : Int) (w : World) (K0 : Blk w g #[.int .i64 ph, .string im, .int .i64 bl, .bool ag, .int .i64 tr, .string rd, .int .i64 rp] 52) (b0 : 0 ≤ bl) (b1 : manyI im ≤ bl + 1) (i1 : im.size ≤ 288) (b3 : bl ≤ manyI im) : Calls Try.prog 46 #[.pointer (some ⟨g, 0, none⟩)] w fun e w' => e = .returned (.tuple #[]) ∧ Blk w' g #[.int .i64 (4), .string (im), .int .i64 (manyI im), .bool (ag), .int .i64 (tr), .string (rd), .int .i64 (rp)] 52 ∧ w.grownBy w' (some g) := by
  have b2 : manyI im ≤ 9 := by unfold manyI; omega
  have GB := gb_refl w g
  obtain ⟨cK0_0, cK0_1, cK0_2, cK0_3, cK0_4, cK0_5, cK0_6, fK0, lK0, nK0, mK0⟩ := Blk.all7 K0
  rcases Int.lt_or_eq_of_le b1 with b4 | b4
  · go_enter Try.func46, Try.ntmps46
    go_wp2_with fail
    have qK0_0 := fun s : Wld _ => Wld.cell cK0_0 s; have qK0_1 := fun s : Wld _ => Wld.cell cK0_1 s; have qK0_2 := fun s : Wld _ => Wld.cell cK0_2 s; have qK0_3 := fun s : Wld _ => Wld.cell cK0_3 s; have qK0_4 := fun s : Wld _ => Wld.cell cK0_4 s; have qK0_5 := fun s : Wld _ => Wld.cell cK0_5 s; have qK0_6 := fun s : Wld _ => Wld.cell cK0_6 s
    refine wld_tail 15 (by kernel_rfl) (by kernel_rfl) ?_
    simp only [List.take_succ_cons, List.take_zero, List.drop_succ_cons, List.drop_zero]
    repeat (go_big_quiet_step (first | (go_at_call 43; with_reducible exact Wld.same (hmany_c g _ _ (qK0_1 _) (by omega))) | fail))
    refine wpQuiet_nil ?_; refine Wld.elim ?_; intro w' hb; clear qK0_0 qK0_1 qK0_2 qK0_3 qK0_4 qK0_5 qK0_6; have GB := gb_bel (w := w) (by repeat (with_reducible first | exact GB | exact gb_refl _ _ | apply gb_set | apply gb_alloc | apply gb_drew | fail)) hb; have K0 := Blk.on (by first | exact K0 | exact K0 #[] | exact K0 (.cells #[] 0) #[]) (by repeat (with_reducible first | exact K0 | exact K0 _ | exact K0 _ _ | apply Blk.alloc | apply Blk.drew | apply Blk.set7_0 | apply Blk.set7_1 | apply Blk.set7_2 | apply Blk.set7_3 | apply Blk.set7_4 | apply Blk.set7_5 | apply Blk.set7_6 | (apply Blk.off; (first | assumption | omega | (simp; omega))) | fail)) hb; (try clear cK0_0 cK0_1 cK0_2 cK0_3 cK0_4 cK0_5 cK0_6 fK0 lK0 nK0 mK0); obtain ⟨cK0_0, cK0_1, cK0_2, cK0_3, cK0_4, cK0_5, cK0_6, fK0, lK0, nK0, mK0⟩ := Blk.all7 K0
    go_upto_region 2 with fail
    have K0 := Blk.set7_0 (Blk.set7_2 K0 (.int .i64 (manyI im))) (.int .i64 2)
    have GB := gb_set (j := 0) (v := .int .i64 2) (gb_set (j := 2) (v := .int .i64 (manyI im)) GB)
    clear cK0_0 cK0_1 cK0_2 cK0_3 cK0_4 cK0_5 cK0_6 fK0 lK0 nK0 mK0
    generalize (w'.setCell ⟨g, 2, none⟩ (.int .i64 (manyI im))).setCell ⟨g, 0, none⟩ (.int .i64 2) = w2 at *
    obtain ⟨cK0_0, cK0_1, cK0_2, cK0_3, cK0_4, cK0_5, cK0_6, fK0, lK0, nK0, mK0⟩ := Blk.all7 K0
    have qK0_0 := fun s : Wld _ => Wld.cell cK0_0 s; have qK0_1 := fun s : Wld _ => Wld.cell cK0_1 s; have qK0_2 := fun s : Wld _ => Wld.cell cK0_2 s; have qK0_3 := fun s : Wld _ => Wld.cell cK0_3 s; have qK0_4 := fun s : Wld _ => Wld.cell cK0_4 s; have qK0_5 := fun s : Wld _ => Wld.cell cK0_5 s; have qK0_6 := fun s : Wld _ => Wld.cell cK0_6 s
    refine wld_lit (by kernel_rfl) (by kernel_rfl) ?_
    repeat (go_big_quiet_step (first | (go_at_call 43; with_reducible exact Wld.same (hmany_c g _ _ (qK0_1 _) (by omega))) | fail))
    refine wpQuiet_nil ?_; refine Wld.elim ?_; intro w' hb; clear qK0_0 qK0_1 qK0_2 qK0_3 qK0_4 qK0_5 qK0_6; have GB := gb_bel (w := w) (by repeat (with_reducible first | exact GB | exact gb_refl _ _ | apply gb_set | apply gb_alloc | apply gb_drew | fail)) hb; have K0 := Blk.on (by first | exact K0 | exact K0 #[] | exact K0 (.cells #[] 0) #[]) (by repeat (with_reducible first | exact K0 | exact K0 _ | exact K0 _ _ | apply Blk.alloc | apply Blk.drew | apply Blk.set7_0 | apply Blk.set7_1 | apply Blk.set7_2 | apply Blk.set7_3 | apply Blk.set7_4 | apply Blk.set7_5 | apply Blk.set7_6 | (apply Blk.off; (first | assumption | omega | (simp; omega))) | fail)) hb; (try clear cK0_0 cK0_1 cK0_2 cK0_3 cK0_4 cK0_5 cK0_6 fK0 lK0 nK0 mK0); obtain ⟨cK0_0, cK0_1, cK0_2, cK0_3, cK0_4, cK0_5, cK0_6, fK0, lK0, nK0, mK0⟩ := Blk.all7 K0
    go_wp2_with fail
    go_end0
    exact ⟨rfl, ⟨(by repeat (with_reducible first | exact K0 | apply Blk.alloc | apply Blk.drew | apply Blk.set7_0 | apply Blk.set7_1 | apply Blk.set7_2 | apply Blk.set7_3 | apply Blk.set7_4 | apply Blk.set7_5 | apply Blk.set7_6 | (apply Blk.off; (first | assumption | omega | (simp; omega))) | fail)), (by repeat (with_reducible first | exact GB | exact gb_refl _ _ | apply gb_set | apply gb_alloc | apply gb_drew | fail))⟩⟩
  · rw [b4]
    have e1 : (bl + 1 == manyI im) = true := by rw [b4]; simp
    go_enter Try.func46, Try.ntmps46
    go_wp2_with fail
    have qK0_0 := fun s : Wld _ => Wld.cell cK0_0 s; have qK0_1 := fun s : Wld _ => Wld.cell cK0_1 s; have qK0_2 := fun s : Wld _ => Wld.cell cK0_2 s; have qK0_3 := fun s : Wld _ => Wld.cell cK0_3 s; have qK0_4 := fun s : Wld _ => Wld.cell cK0_4 s; have qK0_5 := fun s : Wld _ => Wld.cell cK0_5 s; have qK0_6 := fun s : Wld _ => Wld.cell cK0_6 s
    refine wld_tail 15 (by kernel_rfl) (by kernel_rfl) ?_
    simp only [List.take_succ_cons, List.take_zero, List.drop_succ_cons, List.drop_zero]
    repeat (go_big_quiet_step (first | (go_at_call 43; with_reducible exact Wld.same (hmany_c g _ _ (qK0_1 _) (by omega))) | fail))
    refine wpQuiet_nil ?_; refine Wld.elim ?_; intro w' hb; clear qK0_0 qK0_1 qK0_2 qK0_3 qK0_4 qK0_5 qK0_6; have GB := gb_bel (w := w) (by repeat (with_reducible first | exact GB | exact gb_refl _ _ | apply gb_set | apply gb_alloc | apply gb_drew | fail)) hb; have K0 := Blk.on (by first | exact K0 | exact K0 #[] | exact K0 (.cells #[] 0) #[]) (by repeat (with_reducible first | exact K0 | exact K0 _ | exact K0 _ _ | apply Blk.alloc | apply Blk.drew | apply Blk.set7_0 | apply Blk.set7_1 | apply Blk.set7_2 | apply Blk.set7_3 | apply Blk.set7_4 | apply Blk.set7_5 | apply Blk.set7_6 | (apply Blk.off; (first | assumption | omega | (simp; omega))) | fail)) hb; (try clear cK0_0 cK0_1 cK0_2 cK0_3 cK0_4 cK0_5 cK0_6 fK0 lK0 nK0 mK0); obtain ⟨cK0_0, cK0_1, cK0_2, cK0_3, cK0_4, cK0_5, cK0_6, fK0, lK0, nK0, mK0⟩ := Blk.all7 K0
    go_upto_region 2 with fail
    have K0 := Blk.set7_0 (Blk.set7_2 K0 (.int .i64 (bl + 1))) (.int .i64 2)
    have GB := gb_set (j := 0) (v := .int .i64 2) (gb_set (j := 2) (v := .int .i64 (bl + 1)) GB)
    clear cK0_0 cK0_1 cK0_2 cK0_3 cK0_4 cK0_5 cK0_6 fK0 lK0 nK0 mK0
    generalize (w'.setCell ⟨g, 2, none⟩ (.int .i64 (bl + 1))).setCell ⟨g, 0, none⟩ (.int .i64 2) = w2 at *
    obtain ⟨cK0_0, cK0_1, cK0_2, cK0_3, cK0_4, cK0_5, cK0_6, fK0, lK0, nK0, mK0⟩ := Blk.all7 K0
    have qK0_0 := fun s : Wld _ => Wld.cell cK0_0 s; have qK0_1 := fun s : Wld _ => Wld.cell cK0_1 s; have qK0_2 := fun s : Wld _ => Wld.cell cK0_2 s; have qK0_3 := fun s : Wld _ => Wld.cell cK0_3 s; have qK0_4 := fun s : Wld _ => Wld.cell cK0_4 s; have qK0_5 := fun s : Wld _ => Wld.cell cK0_5 s; have qK0_6 := fun s : Wld _ => Wld.cell cK0_6 s
    refine wld_lit (by kernel_rfl) (by kernel_rfl) ?_
    repeat (go_big_quiet_step (first | (go_at_call 43; with_reducible exact Wld.same (hmany_c g _ _ (qK0_1 _) (by omega))) | fail))
    refine wpQuiet_nil ?_; refine Wld.elim ?_; intro w' hb; clear qK0_0 qK0_1 qK0_2 qK0_3 qK0_4 qK0_5 qK0_6; have GB := gb_bel (w := w) (by repeat (with_reducible first | exact GB | exact gb_refl _ _ | apply gb_set | apply gb_alloc | apply gb_drew | fail)) hb; have K0 := Blk.on (by first | exact K0 | exact K0 #[] | exact K0 (.cells #[] 0) #[]) (by repeat (with_reducible first | exact K0 | exact K0 _ | exact K0 _ _ | apply Blk.alloc | apply Blk.drew | apply Blk.set7_0 | apply Blk.set7_1 | apply Blk.set7_2 | apply Blk.set7_3 | apply Blk.set7_4 | apply Blk.set7_5 | apply Blk.set7_6 | (apply Blk.off; (first | assumption | omega | (simp; omega))) | fail)) hb; (try clear cK0_0 cK0_1 cK0_2 cK0_3 cK0_4 cK0_5 cK0_6 fK0 lK0 nK0 mK0); obtain ⟨cK0_0, cK0_1, cK0_2, cK0_3, cK0_4, cK0_5, cK0_6, fK0, lK0, nK0, mK0⟩ := Blk.all7 K0
    go_wp2_with fail
    go_end0
    exact ⟨rfl, ⟨(by repeat (with_reducible first | exact K0 | apply Blk.alloc | apply Blk.drew | apply Blk.set7_0 | apply Blk.set7_1 | apply Blk.set7_2 | apply Blk.set7_3 | apply Blk.set7_4 | apply Blk.set7_5 | apply Blk.set7_6 | (apply Blk.off; (first | assumption | omega | (simp; omega))) | fail)), (by repeat (with_reducible first | exact GB | exact gb_refl _ _ | apply gb_set | apply gb_alloc | apply gb_drew | fail))⟩⟩
set_option maxHeartbeats 6400000 in
theorem poll_c (g : Nat) (h : HS) (s : ByteArray) (w : World) (K0 : Blk w g #[.int .i64 h.ph, .string h.im, .int .i64 h.bl, .bool h.ag, .int .i64 h.tr, .string h.rd, .int .i64 h.rp] 52) (ok : h.Ok) : Calls Try.prog 21 #[.pointer (some ⟨g, 0, none⟩), .string s] w fun e w' => e = .returned (.tuple #[]) ∧ Blk w' g (polledH h s).cs 52 ∧ w.grownBy w' (some g) := by
  obtain ⟨ph0, ph1, im0, im1, bl0, bl1, tr0, tr1, rd1, rp0, rp1⟩ := ok
  have GB := gb_refl w g
  obtain ⟨cK0_0, cK0_1, cK0_2, cK0_3, cK0_4, cK0_5, cK0_6, fK0, lK0, nK0, mK0⟩ := Blk.all7 K0
  obtain ⟨u1, u2, hv⟩ := gotV_form s
  have ga := Lib.hid (fun W : World => get_c s W)
  rw [hv] at ga
  have aa := Lib.hid (fun (W : World) (K : Blk W g #[.int .i64 h.ph, .string h.im, .int .i64 h.bl, .bool h.ag, .int .i64 h.tr, .string h.rd, .int .i64 h.rp] 52) => anew_c g h W K tr0 tr1)
  cases hg : gotB s
  · rw [hg] at ga
    simp only [cond_false] at ga
    have er : (polledH h s).cs = (anewH h).cs := by simp [HS.cs, polledH, hg]
    rw [er]
    clear hg
    go_enter Try.func21, Try.ntmps21
    go_wp2_with (first | (go_at_call 45; with_reducible refine (ga.out _).mono ?_; rintro e w' ⟨rfl, hb⟩; have GB := gb_bel (w := w) (by repeat (with_reducible first | exact GB | exact gb_refl _ _ | apply gb_set | apply gb_alloc | apply gb_drew | fail)) hb; have K0 := Blk.on (by first | exact K0 | exact K0 #[] | exact K0 (.cells #[] 0) #[]) (by repeat (with_reducible first | exact K0 | exact K0 _ | exact K0 _ _ | apply Blk.alloc | apply Blk.drew | apply Blk.set7_0 | apply Blk.set7_1 | apply Blk.set7_2 | apply Blk.set7_3 | apply Blk.set7_4 | apply Blk.set7_5 | apply Blk.set7_6 | (apply Blk.off; (first | assumption | omega | (simp; omega))) | fail)) hb; (try clear cK0_0 cK0_1 cK0_2 cK0_3 cK0_4 cK0_5 cK0_6 fK0 lK0 nK0 mK0); obtain ⟨cK0_0, cK0_1, cK0_2, cK0_3, cK0_4, cK0_5, cK0_6, fK0, lK0, nK0, mK0⟩ := Blk.all7 K0; have K1 := fun cs => Blk.new w' cs 43) | (go_at_call 26; with_reducible refine (aa.out _ (by repeat (with_reducible first | exact K0 | apply Blk.alloc | apply Blk.drew | apply Blk.set7_0 | apply Blk.set7_1 | apply Blk.set7_2 | apply Blk.set7_3 | apply Blk.set7_4 | apply Blk.set7_5 | apply Blk.set7_6 | (apply Blk.off; (first | assumption | omega | (simp; omega))) | fail))).mono ?_; rintro e w' ⟨rfl, hk, hg⟩; have GB := gb_step (w := w) (by repeat (with_reducible first | exact GB | exact gb_refl _ _ | apply gb_set | apply gb_alloc | apply gb_drew | fail)) hg; have K0 := hk; (try clear cK0_0 cK0_1 cK0_2 cK0_3 cK0_4 cK0_5 cK0_6 fK0 lK0 nK0 mK0); obtain ⟨cK0_0, cK0_1, cK0_2, cK0_3, cK0_4, cK0_5, cK0_6, fK0, lK0, nK0, mK0⟩ := Blk.all7 K0) | fail)
    go_end0
    exact ⟨rfl, ⟨(by repeat (with_reducible first | exact K0 | apply Blk.alloc | apply Blk.drew | apply Blk.set7_0 | apply Blk.set7_1 | apply Blk.set7_2 | apply Blk.set7_3 | apply Blk.set7_4 | apply Blk.set7_5 | apply Blk.set7_6 | (apply Blk.off; (first | assumption | omega | (simp; omega))) | fail)), (by repeat (with_reducible first | exact GB | exact gb_refl _ _ | apply gb_set | apply gb_alloc | apply gb_drew | fail))⟩⟩
  · rw [hg] at ga
    simp only [cond_true] at ga
    rcases (by omega : ansS s = 1 ∨ ansS s = 2 ∨ ansS s = 3 ∨ ansS s = 0 ∨ (ansS s ≠ 0 ∧ ansS s ≠ 1 ∧ ansS s ≠ 2 ∧ ansS s ≠ 3)) with hs | hs | hs | hs | ⟨n0, n1, n2, n3⟩
    · have er : (polledH h s).cs = #[.int .i64 h.ph, .string h.im, .int .i64 h.bl, .bool h.ag, .int .i64 h.tr, .string h.rd, .int .i64 h.rp] := by simp [HS.cs, polledH, hg, hs]
      rw [er]
      rw [hs] at ga
      clear hs
      clear hg
      go_enter Try.func21, Try.ntmps21
      go_wp2_with (first | (go_at_call 45; with_reducible refine (ga.out _).mono ?_; rintro e w' ⟨rfl, hb⟩; have GB := gb_bel (w := w) (by repeat (with_reducible first | exact GB | exact gb_refl _ _ | apply gb_set | apply gb_alloc | apply gb_drew | fail)) hb; have K0 := Blk.on (by first | exact K0 | exact K0 #[] | exact K0 (.cells #[] 0) #[]) (by repeat (with_reducible first | exact K0 | exact K0 _ | exact K0 _ _ | apply Blk.alloc | apply Blk.drew | apply Blk.set7_0 | apply Blk.set7_1 | apply Blk.set7_2 | apply Blk.set7_3 | apply Blk.set7_4 | apply Blk.set7_5 | apply Blk.set7_6 | (apply Blk.off; (first | assumption | omega | (simp; omega))) | fail)) hb; (try clear cK0_0 cK0_1 cK0_2 cK0_3 cK0_4 cK0_5 cK0_6 fK0 lK0 nK0 mK0); obtain ⟨cK0_0, cK0_1, cK0_2, cK0_3, cK0_4, cK0_5, cK0_6, fK0, lK0, nK0, mK0⟩ := Blk.all7 K0; have K1 := fun cs => Blk.new w' cs 43) | (go_at_call 26; with_reducible refine (aa.out _ (by repeat (with_reducible first | exact K0 | apply Blk.alloc | apply Blk.drew | apply Blk.set7_0 | apply Blk.set7_1 | apply Blk.set7_2 | apply Blk.set7_3 | apply Blk.set7_4 | apply Blk.set7_5 | apply Blk.set7_6 | (apply Blk.off; (first | assumption | omega | (simp; omega))) | fail))).mono ?_; rintro e w' ⟨rfl, hk, hg⟩; have GB := gb_step (w := w) (by repeat (with_reducible first | exact GB | exact gb_refl _ _ | apply gb_set | apply gb_alloc | apply gb_drew | fail)) hg; have K0 := hk; (try clear cK0_0 cK0_1 cK0_2 cK0_3 cK0_4 cK0_5 cK0_6 fK0 lK0 nK0 mK0); obtain ⟨cK0_0, cK0_1, cK0_2, cK0_3, cK0_4, cK0_5, cK0_6, fK0, lK0, nK0, mK0⟩ := Blk.all7 K0) | fail)
      go_end0
      exact ⟨rfl, ⟨(by repeat (with_reducible first | exact K0 | apply Blk.alloc | apply Blk.drew | apply Blk.set7_0 | apply Blk.set7_1 | apply Blk.set7_2 | apply Blk.set7_3 | apply Blk.set7_4 | apply Blk.set7_5 | apply Blk.set7_6 | (apply Blk.off; (first | assumption | omega | (simp; omega))) | fail)), (by repeat (with_reducible first | exact GB | exact gb_refl _ _ | apply gb_set | apply gb_alloc | apply gb_drew | fail))⟩⟩
    · have er : (polledH h s).cs = #[.int .i64 h.ph, .string h.im, .int .i64 h.bl, .bool h.ag, .int .i64 h.tr, .string h.rd, .int .i64 h.rp] := by simp [HS.cs, polledH, hg, hs]
      rw [er]
      rw [hs] at ga
      clear hs
      clear hg
      go_enter Try.func21, Try.ntmps21
      go_wp2_with (first | (go_at_call 45; with_reducible refine (ga.out _).mono ?_; rintro e w' ⟨rfl, hb⟩; have GB := gb_bel (w := w) (by repeat (with_reducible first | exact GB | exact gb_refl _ _ | apply gb_set | apply gb_alloc | apply gb_drew | fail)) hb; have K0 := Blk.on (by first | exact K0 | exact K0 #[] | exact K0 (.cells #[] 0) #[]) (by repeat (with_reducible first | exact K0 | exact K0 _ | exact K0 _ _ | apply Blk.alloc | apply Blk.drew | apply Blk.set7_0 | apply Blk.set7_1 | apply Blk.set7_2 | apply Blk.set7_3 | apply Blk.set7_4 | apply Blk.set7_5 | apply Blk.set7_6 | (apply Blk.off; (first | assumption | omega | (simp; omega))) | fail)) hb; (try clear cK0_0 cK0_1 cK0_2 cK0_3 cK0_4 cK0_5 cK0_6 fK0 lK0 nK0 mK0); obtain ⟨cK0_0, cK0_1, cK0_2, cK0_3, cK0_4, cK0_5, cK0_6, fK0, lK0, nK0, mK0⟩ := Blk.all7 K0; have K1 := fun cs => Blk.new w' cs 43) | (go_at_call 26; with_reducible refine (aa.out _ (by repeat (with_reducible first | exact K0 | apply Blk.alloc | apply Blk.drew | apply Blk.set7_0 | apply Blk.set7_1 | apply Blk.set7_2 | apply Blk.set7_3 | apply Blk.set7_4 | apply Blk.set7_5 | apply Blk.set7_6 | (apply Blk.off; (first | assumption | omega | (simp; omega))) | fail))).mono ?_; rintro e w' ⟨rfl, hk, hg⟩; have GB := gb_step (w := w) (by repeat (with_reducible first | exact GB | exact gb_refl _ _ | apply gb_set | apply gb_alloc | apply gb_drew | fail)) hg; have K0 := hk; (try clear cK0_0 cK0_1 cK0_2 cK0_3 cK0_4 cK0_5 cK0_6 fK0 lK0 nK0 mK0); obtain ⟨cK0_0, cK0_1, cK0_2, cK0_3, cK0_4, cK0_5, cK0_6, fK0, lK0, nK0, mK0⟩ := Blk.all7 K0) | fail)
      go_end0
      exact ⟨rfl, ⟨(by repeat (with_reducible first | exact K0 | apply Blk.alloc | apply Blk.drew | apply Blk.set7_0 | apply Blk.set7_1 | apply Blk.set7_2 | apply Blk.set7_3 | apply Blk.set7_4 | apply Blk.set7_5 | apply Blk.set7_6 | (apply Blk.off; (first | assumption | omega | (simp; omega))) | fail)), (by repeat (with_reducible first | exact GB | exact gb_refl _ _ | apply gb_set | apply gb_alloc | apply gb_drew | fail))⟩⟩
    · cases hag : h.ag
      · rw [hag] at K0 cK0_3 aa
        by_cases hbk : h.bl + 1 < manyI h.im
        · have er : (polledH h s).cs = #[.int .i64 (2), .string (h.im), .int .i64 (h.bl + 1), .bool (false), .int .i64 (h.tr), .string (h.rd), .int .i64 (h.rp)] := by simp [HS.cs, polledH, hg, hs, hag, hbk]
          rw [er]
          rw [hs] at ga
          clear hs
          clear hg hag
          go_enter Try.func21, Try.ntmps21
          go_wp2_with (first | (go_at_call 45; with_reducible refine (ga.out _).mono ?_; rintro e w' ⟨rfl, hb⟩; have GB := gb_bel (w := w) (by repeat (with_reducible first | exact GB | exact gb_refl _ _ | apply gb_set | apply gb_alloc | apply gb_drew | fail)) hb; have K0 := Blk.on (by first | exact K0 | exact K0 #[] | exact K0 (.cells #[] 0) #[]) (by repeat (with_reducible first | exact K0 | exact K0 _ | exact K0 _ _ | apply Blk.alloc | apply Blk.drew | apply Blk.set7_0 | apply Blk.set7_1 | apply Blk.set7_2 | apply Blk.set7_3 | apply Blk.set7_4 | apply Blk.set7_5 | apply Blk.set7_6 | (apply Blk.off; (first | assumption | omega | (simp; omega))) | fail)) hb; (try clear cK0_0 cK0_1 cK0_2 cK0_3 cK0_4 cK0_5 cK0_6 fK0 lK0 nK0 mK0); obtain ⟨cK0_0, cK0_1, cK0_2, cK0_3, cK0_4, cK0_5, cK0_6, fK0, lK0, nK0, mK0⟩ := Blk.all7 K0; have K1 := fun cs => Blk.new w' cs 43) | (go_at_call 46; with_reducible refine (next1_c _ _ _ _ _ _ _ _ _ (by repeat (with_reducible first | exact K0 | apply Blk.alloc | apply Blk.drew | apply Blk.set7_0 | apply Blk.set7_1 | apply Blk.set7_2 | apply Blk.set7_3 | apply Blk.set7_4 | apply Blk.set7_5 | apply Blk.set7_6 | (apply Blk.off; (first | assumption | omega | (simp; omega))) | fail)) bl0 hbk im1).mono ?_; rintro e w' ⟨rfl, hk, hg⟩; have GB := gb_step (w := w) (by repeat (with_reducible first | exact GB | exact gb_refl _ _ | apply gb_set | apply gb_alloc | apply gb_drew | fail)) hg; have K0 := hk; (try clear cK0_0 cK0_1 cK0_2 cK0_3 cK0_4 cK0_5 cK0_6 fK0 lK0 nK0 mK0); obtain ⟨cK0_0, cK0_1, cK0_2, cK0_3, cK0_4, cK0_5, cK0_6, fK0, lK0, nK0, mK0⟩ := Blk.all7 K0) | fail)
          go_end0
          exact ⟨rfl, ⟨(by repeat (with_reducible first | exact K0 | apply Blk.alloc | apply Blk.drew | apply Blk.set7_0 | apply Blk.set7_1 | apply Blk.set7_2 | apply Blk.set7_3 | apply Blk.set7_4 | apply Blk.set7_5 | apply Blk.set7_6 | (apply Blk.off; (first | assumption | omega | (simp; omega))) | fail)), (by repeat (with_reducible first | exact GB | exact gb_refl _ _ | apply gb_set | apply gb_alloc | apply gb_drew | fail))⟩⟩
        · have hb' := hbk
          have hbk : manyI h.im ≤ h.bl + 1 := by omega
          have er : (polledH h s).cs = #[.int .i64 (4), .string (h.im), .int .i64 (manyI h.im), .bool (false), .int .i64 (h.tr), .string (h.rd), .int .i64 (h.rp)] := by simp [HS.cs, polledH, hg, hs, hag, hb']
          rw [er]
          rw [hs] at ga
          clear hs
          clear hg hag
          go_enter Try.func21, Try.ntmps21
          go_wp2_with (first | (go_at_call 45; with_reducible refine (ga.out _).mono ?_; rintro e w' ⟨rfl, hb⟩; have GB := gb_bel (w := w) (by repeat (with_reducible first | exact GB | exact gb_refl _ _ | apply gb_set | apply gb_alloc | apply gb_drew | fail)) hb; have K0 := Blk.on (by first | exact K0 | exact K0 #[] | exact K0 (.cells #[] 0) #[]) (by repeat (with_reducible first | exact K0 | exact K0 _ | exact K0 _ _ | apply Blk.alloc | apply Blk.drew | apply Blk.set7_0 | apply Blk.set7_1 | apply Blk.set7_2 | apply Blk.set7_3 | apply Blk.set7_4 | apply Blk.set7_5 | apply Blk.set7_6 | (apply Blk.off; (first | assumption | omega | (simp; omega))) | fail)) hb; (try clear cK0_0 cK0_1 cK0_2 cK0_3 cK0_4 cK0_5 cK0_6 fK0 lK0 nK0 mK0); obtain ⟨cK0_0, cK0_1, cK0_2, cK0_3, cK0_4, cK0_5, cK0_6, fK0, lK0, nK0, mK0⟩ := Blk.all7 K0; have K1 := fun cs => Blk.new w' cs 43) | (go_at_call 46; with_reducible refine (next2_c _ _ _ _ _ _ _ _ _ (by repeat (with_reducible first | exact K0 | apply Blk.alloc | apply Blk.drew | apply Blk.set7_0 | apply Blk.set7_1 | apply Blk.set7_2 | apply Blk.set7_3 | apply Blk.set7_4 | apply Blk.set7_5 | apply Blk.set7_6 | (apply Blk.off; (first | assumption | omega | (simp; omega))) | fail)) bl0 hbk im1 bl1).mono ?_; rintro e w' ⟨rfl, hk, hg⟩; have GB := gb_step (w := w) (by repeat (with_reducible first | exact GB | exact gb_refl _ _ | apply gb_set | apply gb_alloc | apply gb_drew | fail)) hg; have K0 := hk; (try clear cK0_0 cK0_1 cK0_2 cK0_3 cK0_4 cK0_5 cK0_6 fK0 lK0 nK0 mK0); obtain ⟨cK0_0, cK0_1, cK0_2, cK0_3, cK0_4, cK0_5, cK0_6, fK0, lK0, nK0, mK0⟩ := Blk.all7 K0) | fail)
          go_end0
          exact ⟨rfl, ⟨(by repeat (with_reducible first | exact K0 | apply Blk.alloc | apply Blk.drew | apply Blk.set7_0 | apply Blk.set7_1 | apply Blk.set7_2 | apply Blk.set7_3 | apply Blk.set7_4 | apply Blk.set7_5 | apply Blk.set7_6 | (apply Blk.off; (first | assumption | omega | (simp; omega))) | fail)), (by repeat (with_reducible first | exact GB | exact gb_refl _ _ | apply gb_set | apply gb_alloc | apply gb_drew | fail))⟩⟩
      · rw [hag] at K0 cK0_3 aa
        have er : (polledH h s).cs = #[.int .i64 (2), .string (h.im), .int .i64 (h.bl), .bool (false), .int .i64 (h.tr), .string (h.rd), .int .i64 (h.rp)] := by simp [HS.cs, polledH, hg, hs, hag]
        rw [er]
        rw [hs] at ga
        clear hs
        clear hg hag
        go_enter Try.func21, Try.ntmps21
        go_wp2_with (first | (go_at_call 45; with_reducible refine (ga.out _).mono ?_; rintro e w' ⟨rfl, hb⟩; have GB := gb_bel (w := w) (by repeat (with_reducible first | exact GB | exact gb_refl _ _ | apply gb_set | apply gb_alloc | apply gb_drew | fail)) hb; have K0 := Blk.on (by first | exact K0 | exact K0 #[] | exact K0 (.cells #[] 0) #[]) (by repeat (with_reducible first | exact K0 | exact K0 _ | exact K0 _ _ | apply Blk.alloc | apply Blk.drew | apply Blk.set7_0 | apply Blk.set7_1 | apply Blk.set7_2 | apply Blk.set7_3 | apply Blk.set7_4 | apply Blk.set7_5 | apply Blk.set7_6 | (apply Blk.off; (first | assumption | omega | (simp; omega))) | fail)) hb; (try clear cK0_0 cK0_1 cK0_2 cK0_3 cK0_4 cK0_5 cK0_6 fK0 lK0 nK0 mK0); obtain ⟨cK0_0, cK0_1, cK0_2, cK0_3, cK0_4, cK0_5, cK0_6, fK0, lK0, nK0, mK0⟩ := Blk.all7 K0; have K1 := fun cs => Blk.new w' cs 43) | (go_at_call 26; with_reducible refine (aa.out _ (by repeat (with_reducible first | exact K0 | apply Blk.alloc | apply Blk.drew | apply Blk.set7_0 | apply Blk.set7_1 | apply Blk.set7_2 | apply Blk.set7_3 | apply Blk.set7_4 | apply Blk.set7_5 | apply Blk.set7_6 | (apply Blk.off; (first | assumption | omega | (simp; omega))) | fail))).mono ?_; rintro e w' ⟨rfl, hk, hg⟩; have GB := gb_step (w := w) (by repeat (with_reducible first | exact GB | exact gb_refl _ _ | apply gb_set | apply gb_alloc | apply gb_drew | fail)) hg; have K0 := hk; (try clear cK0_0 cK0_1 cK0_2 cK0_3 cK0_4 cK0_5 cK0_6 fK0 lK0 nK0 mK0); obtain ⟨cK0_0, cK0_1, cK0_2, cK0_3, cK0_4, cK0_5, cK0_6, fK0, lK0, nK0, mK0⟩ := Blk.all7 K0) | fail)
        go_end0
        exact ⟨rfl, ⟨(by repeat (with_reducible first | exact K0 | apply Blk.alloc | apply Blk.drew | apply Blk.set7_0 | apply Blk.set7_1 | apply Blk.set7_2 | apply Blk.set7_3 | apply Blk.set7_4 | apply Blk.set7_5 | apply Blk.set7_6 | (apply Blk.off; (first | assumption | omega | (simp; omega))) | fail)), (by repeat (with_reducible first | exact GB | exact gb_refl _ _ | apply gb_set | apply gb_alloc | apply gb_drew | fail))⟩⟩
    · cases hag : h.ag
      · rw [hag] at K0 cK0_3 aa
        have er : (polledH h s).cs = (anewH h).cs := by simp [HS.cs, polledH, hg, hs, hag]
        rw [er]
        rw [hs] at ga
        clear hs
        clear hg hag
        go_enter Try.func21, Try.ntmps21
        go_wp2_with (first | (go_at_call 45; with_reducible refine (ga.out _).mono ?_; rintro e w' ⟨rfl, hb⟩; have GB := gb_bel (w := w) (by repeat (with_reducible first | exact GB | exact gb_refl _ _ | apply gb_set | apply gb_alloc | apply gb_drew | fail)) hb; have K0 := Blk.on (by first | exact K0 | exact K0 #[] | exact K0 (.cells #[] 0) #[]) (by repeat (with_reducible first | exact K0 | exact K0 _ | exact K0 _ _ | apply Blk.alloc | apply Blk.drew | apply Blk.set7_0 | apply Blk.set7_1 | apply Blk.set7_2 | apply Blk.set7_3 | apply Blk.set7_4 | apply Blk.set7_5 | apply Blk.set7_6 | (apply Blk.off; (first | assumption | omega | (simp; omega))) | fail)) hb; (try clear cK0_0 cK0_1 cK0_2 cK0_3 cK0_4 cK0_5 cK0_6 fK0 lK0 nK0 mK0); obtain ⟨cK0_0, cK0_1, cK0_2, cK0_3, cK0_4, cK0_5, cK0_6, fK0, lK0, nK0, mK0⟩ := Blk.all7 K0; have K1 := fun cs => Blk.new w' cs 43) | (go_at_call 26; with_reducible refine (aa.out _ (by repeat (with_reducible first | exact K0 | apply Blk.alloc | apply Blk.drew | apply Blk.set7_0 | apply Blk.set7_1 | apply Blk.set7_2 | apply Blk.set7_3 | apply Blk.set7_4 | apply Blk.set7_5 | apply Blk.set7_6 | (apply Blk.off; (first | assumption | omega | (simp; omega))) | fail))).mono ?_; rintro e w' ⟨rfl, hk, hg⟩; have GB := gb_step (w := w) (by repeat (with_reducible first | exact GB | exact gb_refl _ _ | apply gb_set | apply gb_alloc | apply gb_drew | fail)) hg; have K0 := hk; (try clear cK0_0 cK0_1 cK0_2 cK0_3 cK0_4 cK0_5 cK0_6 fK0 lK0 nK0 mK0); obtain ⟨cK0_0, cK0_1, cK0_2, cK0_3, cK0_4, cK0_5, cK0_6, fK0, lK0, nK0, mK0⟩ := Blk.all7 K0) | fail)
        go_end0
        exact ⟨rfl, ⟨(by repeat (with_reducible first | exact K0 | apply Blk.alloc | apply Blk.drew | apply Blk.set7_0 | apply Blk.set7_1 | apply Blk.set7_2 | apply Blk.set7_3 | apply Blk.set7_4 | apply Blk.set7_5 | apply Blk.set7_6 | (apply Blk.off; (first | assumption | omega | (simp; omega))) | fail)), (by repeat (with_reducible first | exact GB | exact gb_refl _ _ | apply gb_set | apply gb_alloc | apply gb_drew | fail))⟩⟩
      · rw [hag] at K0 cK0_3 aa
        by_cases hb : h.bl = 0
        · have hb2 : (h.bl == 0) = true := by simp [hb]
          have er : (polledH h s).cs = #[.int .i64 (2), .string (h.im), .int .i64 (h.bl), .bool (false), .int .i64 (h.tr), .string (h.rd), .int .i64 (h.rp)] := by simp [HS.cs, polledH, hg, hs, hag, hb]
          rw [er]
          rw [hs] at ga
          clear hs
          clear hg hag hb
          go_enter Try.func21, Try.ntmps21
          go_wp2_with (first | (go_at_call 45; with_reducible refine (ga.out _).mono ?_; rintro e w' ⟨rfl, hb⟩; have GB := gb_bel (w := w) (by repeat (with_reducible first | exact GB | exact gb_refl _ _ | apply gb_set | apply gb_alloc | apply gb_drew | fail)) hb; have K0 := Blk.on (by first | exact K0 | exact K0 #[] | exact K0 (.cells #[] 0) #[]) (by repeat (with_reducible first | exact K0 | exact K0 _ | exact K0 _ _ | apply Blk.alloc | apply Blk.drew | apply Blk.set7_0 | apply Blk.set7_1 | apply Blk.set7_2 | apply Blk.set7_3 | apply Blk.set7_4 | apply Blk.set7_5 | apply Blk.set7_6 | (apply Blk.off; (first | assumption | omega | (simp; omega))) | fail)) hb; (try clear cK0_0 cK0_1 cK0_2 cK0_3 cK0_4 cK0_5 cK0_6 fK0 lK0 nK0 mK0); obtain ⟨cK0_0, cK0_1, cK0_2, cK0_3, cK0_4, cK0_5, cK0_6, fK0, lK0, nK0, mK0⟩ := Blk.all7 K0; have K1 := fun cs => Blk.new w' cs 43) | (go_at_call 26; with_reducible refine (aa.out _ (by repeat (with_reducible first | exact K0 | apply Blk.alloc | apply Blk.drew | apply Blk.set7_0 | apply Blk.set7_1 | apply Blk.set7_2 | apply Blk.set7_3 | apply Blk.set7_4 | apply Blk.set7_5 | apply Blk.set7_6 | (apply Blk.off; (first | assumption | omega | (simp; omega))) | fail))).mono ?_; rintro e w' ⟨rfl, hk, hg⟩; have GB := gb_step (w := w) (by repeat (with_reducible first | exact GB | exact gb_refl _ _ | apply gb_set | apply gb_alloc | apply gb_drew | fail)) hg; have K0 := hk; (try clear cK0_0 cK0_1 cK0_2 cK0_3 cK0_4 cK0_5 cK0_6 fK0 lK0 nK0 mK0); obtain ⟨cK0_0, cK0_1, cK0_2, cK0_3, cK0_4, cK0_5, cK0_6, fK0, lK0, nK0, mK0⟩ := Blk.all7 K0) | fail)
          go_end0
          exact ⟨rfl, ⟨(by repeat (with_reducible first | exact K0 | apply Blk.alloc | apply Blk.drew | apply Blk.set7_0 | apply Blk.set7_1 | apply Blk.set7_2 | apply Blk.set7_3 | apply Blk.set7_4 | apply Blk.set7_5 | apply Blk.set7_6 | (apply Blk.off; (first | assumption | omega | (simp; omega))) | fail)), (by repeat (with_reducible first | exact GB | exact gb_refl _ _ | apply gb_set | apply gb_alloc | apply gb_drew | fail))⟩⟩
        · have hb2 : (h.bl == 0) = false := by simp [hb]
          have er : (polledH h s).cs = (anewH h).cs := by simp [HS.cs, polledH, hg, hs, hag, hb]
          rw [er]
          rw [hs] at ga
          clear hs
          clear hg hag hb
          go_enter Try.func21, Try.ntmps21
          go_wp2_with (first | (go_at_call 45; with_reducible refine (ga.out _).mono ?_; rintro e w' ⟨rfl, hb⟩; have GB := gb_bel (w := w) (by repeat (with_reducible first | exact GB | exact gb_refl _ _ | apply gb_set | apply gb_alloc | apply gb_drew | fail)) hb; have K0 := Blk.on (by first | exact K0 | exact K0 #[] | exact K0 (.cells #[] 0) #[]) (by repeat (with_reducible first | exact K0 | exact K0 _ | exact K0 _ _ | apply Blk.alloc | apply Blk.drew | apply Blk.set7_0 | apply Blk.set7_1 | apply Blk.set7_2 | apply Blk.set7_3 | apply Blk.set7_4 | apply Blk.set7_5 | apply Blk.set7_6 | (apply Blk.off; (first | assumption | omega | (simp; omega))) | fail)) hb; (try clear cK0_0 cK0_1 cK0_2 cK0_3 cK0_4 cK0_5 cK0_6 fK0 lK0 nK0 mK0); obtain ⟨cK0_0, cK0_1, cK0_2, cK0_3, cK0_4, cK0_5, cK0_6, fK0, lK0, nK0, mK0⟩ := Blk.all7 K0; have K1 := fun cs => Blk.new w' cs 43) | (go_at_call 26; with_reducible refine (aa.out _ (by repeat (with_reducible first | exact K0 | apply Blk.alloc | apply Blk.drew | apply Blk.set7_0 | apply Blk.set7_1 | apply Blk.set7_2 | apply Blk.set7_3 | apply Blk.set7_4 | apply Blk.set7_5 | apply Blk.set7_6 | (apply Blk.off; (first | assumption | omega | (simp; omega))) | fail))).mono ?_; rintro e w' ⟨rfl, hk, hg⟩; have GB := gb_step (w := w) (by repeat (with_reducible first | exact GB | exact gb_refl _ _ | apply gb_set | apply gb_alloc | apply gb_drew | fail)) hg; have K0 := hk; (try clear cK0_0 cK0_1 cK0_2 cK0_3 cK0_4 cK0_5 cK0_6 fK0 lK0 nK0 mK0); obtain ⟨cK0_0, cK0_1, cK0_2, cK0_3, cK0_4, cK0_5, cK0_6, fK0, lK0, nK0, mK0⟩ := Blk.all7 K0) | fail)
          go_end0
          exact ⟨rfl, ⟨(by repeat (with_reducible first | exact K0 | apply Blk.alloc | apply Blk.drew | apply Blk.set7_0 | apply Blk.set7_1 | apply Blk.set7_2 | apply Blk.set7_3 | apply Blk.set7_4 | apply Blk.set7_5 | apply Blk.set7_6 | (apply Blk.off; (first | assumption | omega | (simp; omega))) | fail)), (by repeat (with_reducible first | exact GB | exact gb_refl _ _ | apply gb_set | apply gb_alloc | apply gb_drew | fail))⟩⟩
    · have er : (polledH h s).cs = (anewH h).cs := by simp [HS.cs, polledH, hg, n0, n1, n2, n3]
      rw [er]
      have s0 : (ansS s == 0) = false := beq_eq_false_iff_ne.2 (by omega)
      have s1 : (ansS s == 1) = false := beq_eq_false_iff_ne.2 (by omega)
      have s2 : (ansS s == 2) = false := beq_eq_false_iff_ne.2 (by omega)
      have s3 : (ansS s == 3) = false := beq_eq_false_iff_ne.2 (by omega)
      generalize ansS s = st at *
      clear hg
      go_enter Try.func21, Try.ntmps21
      go_wp2_with (first | (go_at_call 45; with_reducible refine (ga.out _).mono ?_; rintro e w' ⟨rfl, hb⟩; have GB := gb_bel (w := w) (by repeat (with_reducible first | exact GB | exact gb_refl _ _ | apply gb_set | apply gb_alloc | apply gb_drew | fail)) hb; have K0 := Blk.on (by first | exact K0 | exact K0 #[] | exact K0 (.cells #[] 0) #[]) (by repeat (with_reducible first | exact K0 | exact K0 _ | exact K0 _ _ | apply Blk.alloc | apply Blk.drew | apply Blk.set7_0 | apply Blk.set7_1 | apply Blk.set7_2 | apply Blk.set7_3 | apply Blk.set7_4 | apply Blk.set7_5 | apply Blk.set7_6 | (apply Blk.off; (first | assumption | omega | (simp; omega))) | fail)) hb; (try clear cK0_0 cK0_1 cK0_2 cK0_3 cK0_4 cK0_5 cK0_6 fK0 lK0 nK0 mK0); obtain ⟨cK0_0, cK0_1, cK0_2, cK0_3, cK0_4, cK0_5, cK0_6, fK0, lK0, nK0, mK0⟩ := Blk.all7 K0; have K1 := fun cs => Blk.new w' cs 43) | (go_at_call 26; with_reducible refine (aa.out _ (by repeat (with_reducible first | exact K0 | apply Blk.alloc | apply Blk.drew | apply Blk.set7_0 | apply Blk.set7_1 | apply Blk.set7_2 | apply Blk.set7_3 | apply Blk.set7_4 | apply Blk.set7_5 | apply Blk.set7_6 | (apply Blk.off; (first | assumption | omega | (simp; omega))) | fail))).mono ?_; rintro e w' ⟨rfl, hk, hg⟩; have GB := gb_step (w := w) (by repeat (with_reducible first | exact GB | exact gb_refl _ _ | apply gb_set | apply gb_alloc | apply gb_drew | fail)) hg; have K0 := hk; (try clear cK0_0 cK0_1 cK0_2 cK0_3 cK0_4 cK0_5 cK0_6 fK0 lK0 nK0 mK0); obtain ⟨cK0_0, cK0_1, cK0_2, cK0_3, cK0_4, cK0_5, cK0_6, fK0, lK0, nK0, mK0⟩ := Blk.all7 K0) | fail)
      go_end0
      exact ⟨rfl, ⟨(by repeat (with_reducible first | exact K0 | apply Blk.alloc | apply Blk.drew | apply Blk.set7_0 | apply Blk.set7_1 | apply Blk.set7_2 | apply Blk.set7_3 | apply Blk.set7_4 | apply Blk.set7_5 | apply Blk.set7_6 | (apply Blk.off; (first | assumption | omega | (simp; omega))) | fail)), (by repeat (with_reducible first | exact GB | exact gb_refl _ _ | apply gb_set | apply gb_alloc | apply gb_drew | fail))⟩⟩
set_option maxHeartbeats 6400000 in
theorem wait_c (g : Nat) (h : HS) (s : ByteArray) (w : World) (K0 : Blk w g #[.int .i64 h.ph, .string h.im, .int .i64 h.bl, .bool h.ag, .int .i64 h.tr, .string h.rd, .int .i64 h.rp] 52) (ok : h.Ok) : Calls Try.prog 23 #[.pointer (some ⟨g, 0, none⟩), .string s] w fun e w' => e = .returned (.tuple #[]) ∧ Blk w' g (waitedH h s).cs 52 ∧ w.grownBy w' (some g) := by
  obtain ⟨ph0, ph1, im0, im1, bl0, bl1, tr0, tr1, rd1, rp0, rp1⟩ := ok
  have GB := gb_refl w g
  obtain ⟨cK0_0, cK0_1, cK0_2, cK0_3, cK0_4, cK0_5, cK0_6, fK0, lK0, nK0, mK0⟩ := Blk.all7 K0
  obtain ⟨u1, u2, hv⟩ := gotV_form s
  have ga := Lib.hid (fun W : World => get_c s W)
  rw [hv] at ga
  have aa := Lib.hid (fun (W : World) (K : Blk W g #[.int .i64 h.ph, .string h.im, .int .i64 h.bl, .bool h.ag, .int .i64 h.tr, .string h.rd, .int .i64 h.rp] 52) => anew_c g h W K tr0 tr1)
  cases hg : gotB s
  · rw [hg] at ga
    simp only [cond_false] at ga
    have er : (waitedH h s).cs = (anewH h).cs := by simp [HS.cs, waitedH, hg]
    rw [er]
    clear hg
    go_enter Try.func23, Try.ntmps23
    go_wp2_with (first | (go_at_call 45; with_reducible refine (ga.out _).mono ?_; rintro e w' ⟨rfl, hb⟩; have GB := gb_bel (w := w) (by repeat (with_reducible first | exact GB | exact gb_refl _ _ | apply gb_set | apply gb_alloc | apply gb_drew | fail)) hb; have K0 := Blk.on (by first | exact K0 | exact K0 #[] | exact K0 (.cells #[] 0) #[]) (by repeat (with_reducible first | exact K0 | exact K0 _ | exact K0 _ _ | apply Blk.alloc | apply Blk.drew | apply Blk.set7_0 | apply Blk.set7_1 | apply Blk.set7_2 | apply Blk.set7_3 | apply Blk.set7_4 | apply Blk.set7_5 | apply Blk.set7_6 | (apply Blk.off; (first | assumption | omega | (simp; omega))) | fail)) hb; (try clear cK0_0 cK0_1 cK0_2 cK0_3 cK0_4 cK0_5 cK0_6 fK0 lK0 nK0 mK0); obtain ⟨cK0_0, cK0_1, cK0_2, cK0_3, cK0_4, cK0_5, cK0_6, fK0, lK0, nK0, mK0⟩ := Blk.all7 K0; have K1 := fun cs => Blk.new w' cs 43) | (go_at_call 26; with_reducible refine (aa.out _ (by repeat (with_reducible first | exact K0 | apply Blk.alloc | apply Blk.drew | apply Blk.set7_0 | apply Blk.set7_1 | apply Blk.set7_2 | apply Blk.set7_3 | apply Blk.set7_4 | apply Blk.set7_5 | apply Blk.set7_6 | (apply Blk.off; (first | assumption | omega | (simp; omega))) | fail))).mono ?_; rintro e w' ⟨rfl, hk, hg⟩; have GB := gb_step (w := w) (by repeat (with_reducible first | exact GB | exact gb_refl _ _ | apply gb_set | apply gb_alloc | apply gb_drew | fail)) hg; have K0 := hk; (try clear cK0_0 cK0_1 cK0_2 cK0_3 cK0_4 cK0_5 cK0_6 fK0 lK0 nK0 mK0); obtain ⟨cK0_0, cK0_1, cK0_2, cK0_3, cK0_4, cK0_5, cK0_6, fK0, lK0, nK0, mK0⟩ := Blk.all7 K0) | fail)
    go_end0
    exact ⟨rfl, ⟨(by repeat (with_reducible first | exact K0 | apply Blk.alloc | apply Blk.drew | apply Blk.set7_0 | apply Blk.set7_1 | apply Blk.set7_2 | apply Blk.set7_3 | apply Blk.set7_4 | apply Blk.set7_5 | apply Blk.set7_6 | (apply Blk.off; (first | assumption | omega | (simp; omega))) | fail)), (by repeat (with_reducible first | exact GB | exact gb_refl _ _ | apply gb_set | apply gb_alloc | apply gb_drew | fail))⟩⟩
  · rw [hg] at ga
    simp only [cond_true] at ga
    rcases (by omega : ansS s = 0 ∨ ansS s = 3 ∨ ansS s = 4 ∨ ansS s = 5 ∨ (ansS s ≠ 0 ∧ ansS s ≠ 3 ∧ ansS s ≠ 4 ∧ ansS s ≠ 5)) with hs | hs | hs | hs | ⟨n0, n3, n4, n5⟩
    · have er : (waitedH h s).cs = #[.int .i64 (6), .string (h.im), .int .i64 (0), .bool (false), .int .i64 (h.tr), .string (⟨#[]⟩), .int .i64 (h.rp)] := by simp [HS.cs, waitedH, hg, hs]
      rw [er]
      rw [hs] at ga
      clear hs
      clear hg
      go_enter Try.func23, Try.ntmps23
      go_wp2_with (first | (go_at_call 45; with_reducible refine (ga.out _).mono ?_; rintro e w' ⟨rfl, hb⟩; have GB := gb_bel (w := w) (by repeat (with_reducible first | exact GB | exact gb_refl _ _ | apply gb_set | apply gb_alloc | apply gb_drew | fail)) hb; have K0 := Blk.on (by first | exact K0 | exact K0 #[] | exact K0 (.cells #[] 0) #[]) (by repeat (with_reducible first | exact K0 | exact K0 _ | exact K0 _ _ | apply Blk.alloc | apply Blk.drew | apply Blk.set7_0 | apply Blk.set7_1 | apply Blk.set7_2 | apply Blk.set7_3 | apply Blk.set7_4 | apply Blk.set7_5 | apply Blk.set7_6 | (apply Blk.off; (first | assumption | omega | (simp; omega))) | fail)) hb; (try clear cK0_0 cK0_1 cK0_2 cK0_3 cK0_4 cK0_5 cK0_6 fK0 lK0 nK0 mK0); obtain ⟨cK0_0, cK0_1, cK0_2, cK0_3, cK0_4, cK0_5, cK0_6, fK0, lK0, nK0, mK0⟩ := Blk.all7 K0; have K1 := fun cs => Blk.new w' cs 43) | (go_at_call 44; with_reducible refine (to_c _ _ _ _ _ _ _ _ _ _ (by repeat (with_reducible first | exact K0 | apply Blk.alloc | apply Blk.drew | apply Blk.set7_0 | apply Blk.set7_1 | apply Blk.set7_2 | apply Blk.set7_3 | apply Blk.set7_4 | apply Blk.set7_5 | apply Blk.set7_6 | (apply Blk.off; (first | assumption | omega | (simp; omega))) | fail))).mono ?_; rintro e w' ⟨rfl, hk, hg⟩; have GB := gb_step (w := w) (by repeat (with_reducible first | exact GB | exact gb_refl _ _ | apply gb_set | apply gb_alloc | apply gb_drew | fail)) hg; have K0 := hk; (try clear cK0_0 cK0_1 cK0_2 cK0_3 cK0_4 cK0_5 cK0_6 fK0 lK0 nK0 mK0); obtain ⟨cK0_0, cK0_1, cK0_2, cK0_3, cK0_4, cK0_5, cK0_6, fK0, lK0, nK0, mK0⟩ := Blk.all7 K0) | fail)
      go_end0
      exact ⟨rfl, ⟨(by repeat (with_reducible first | exact K0 | apply Blk.alloc | apply Blk.drew | apply Blk.set7_0 | apply Blk.set7_1 | apply Blk.set7_2 | apply Blk.set7_3 | apply Blk.set7_4 | apply Blk.set7_5 | apply Blk.set7_6 | (apply Blk.off; (first | assumption | omega | (simp; omega))) | fail)), (by repeat (with_reducible first | exact GB | exact gb_refl _ _ | apply gb_set | apply gb_alloc | apply gb_drew | fail))⟩⟩
    · cases hag : h.ag
      · rw [hag] at K0 cK0_3 aa
        have er : (waitedH h s).cs = (anewH h).cs := by simp [HS.cs, waitedH, hg, hs, hag]
        rw [er]
        rw [hs] at ga
        clear hs
        clear hg hag
        go_enter Try.func23, Try.ntmps23
        go_wp2_with (first | (go_at_call 45; with_reducible refine (ga.out _).mono ?_; rintro e w' ⟨rfl, hb⟩; have GB := gb_bel (w := w) (by repeat (with_reducible first | exact GB | exact gb_refl _ _ | apply gb_set | apply gb_alloc | apply gb_drew | fail)) hb; have K0 := Blk.on (by first | exact K0 | exact K0 #[] | exact K0 (.cells #[] 0) #[]) (by repeat (with_reducible first | exact K0 | exact K0 _ | exact K0 _ _ | apply Blk.alloc | apply Blk.drew | apply Blk.set7_0 | apply Blk.set7_1 | apply Blk.set7_2 | apply Blk.set7_3 | apply Blk.set7_4 | apply Blk.set7_5 | apply Blk.set7_6 | (apply Blk.off; (first | assumption | omega | (simp; omega))) | fail)) hb; (try clear cK0_0 cK0_1 cK0_2 cK0_3 cK0_4 cK0_5 cK0_6 fK0 lK0 nK0 mK0); obtain ⟨cK0_0, cK0_1, cK0_2, cK0_3, cK0_4, cK0_5, cK0_6, fK0, lK0, nK0, mK0⟩ := Blk.all7 K0; have K1 := fun cs => Blk.new w' cs 43) | (go_at_call 26; with_reducible refine (aa.out _ (by repeat (with_reducible first | exact K0 | apply Blk.alloc | apply Blk.drew | apply Blk.set7_0 | apply Blk.set7_1 | apply Blk.set7_2 | apply Blk.set7_3 | apply Blk.set7_4 | apply Blk.set7_5 | apply Blk.set7_6 | (apply Blk.off; (first | assumption | omega | (simp; omega))) | fail))).mono ?_; rintro e w' ⟨rfl, hk, hg⟩; have GB := gb_step (w := w) (by repeat (with_reducible first | exact GB | exact gb_refl _ _ | apply gb_set | apply gb_alloc | apply gb_drew | fail)) hg; have K0 := hk; (try clear cK0_0 cK0_1 cK0_2 cK0_3 cK0_4 cK0_5 cK0_6 fK0 lK0 nK0 mK0); obtain ⟨cK0_0, cK0_1, cK0_2, cK0_3, cK0_4, cK0_5, cK0_6, fK0, lK0, nK0, mK0⟩ := Blk.all7 K0) | fail)
        go_end0
        exact ⟨rfl, ⟨(by repeat (with_reducible first | exact K0 | apply Blk.alloc | apply Blk.drew | apply Blk.set7_0 | apply Blk.set7_1 | apply Blk.set7_2 | apply Blk.set7_3 | apply Blk.set7_4 | apply Blk.set7_5 | apply Blk.set7_6 | (apply Blk.off; (first | assumption | omega | (simp; omega))) | fail)), (by repeat (with_reducible first | exact GB | exact gb_refl _ _ | apply gb_set | apply gb_alloc | apply gb_drew | fail))⟩⟩
      · rw [hag] at K0 cK0_3 aa
        have er : (waitedH h s).cs = #[.int .i64 (4), .string (h.im), .int .i64 (h.bl), .bool (false), .int .i64 (h.tr), .string (h.rd), .int .i64 (h.rp)] := by simp [HS.cs, waitedH, hg, hs, hag]
        rw [er]
        rw [hs] at ga
        clear hs
        clear hg hag
        go_enter Try.func23, Try.ntmps23
        go_wp2_with (first | (go_at_call 45; with_reducible refine (ga.out _).mono ?_; rintro e w' ⟨rfl, hb⟩; have GB := gb_bel (w := w) (by repeat (with_reducible first | exact GB | exact gb_refl _ _ | apply gb_set | apply gb_alloc | apply gb_drew | fail)) hb; have K0 := Blk.on (by first | exact K0 | exact K0 #[] | exact K0 (.cells #[] 0) #[]) (by repeat (with_reducible first | exact K0 | exact K0 _ | exact K0 _ _ | apply Blk.alloc | apply Blk.drew | apply Blk.set7_0 | apply Blk.set7_1 | apply Blk.set7_2 | apply Blk.set7_3 | apply Blk.set7_4 | apply Blk.set7_5 | apply Blk.set7_6 | (apply Blk.off; (first | assumption | omega | (simp; omega))) | fail)) hb; (try clear cK0_0 cK0_1 cK0_2 cK0_3 cK0_4 cK0_5 cK0_6 fK0 lK0 nK0 mK0); obtain ⟨cK0_0, cK0_1, cK0_2, cK0_3, cK0_4, cK0_5, cK0_6, fK0, lK0, nK0, mK0⟩ := Blk.all7 K0; have K1 := fun cs => Blk.new w' cs 43) | (go_at_call 26; with_reducible refine (aa.out _ (by repeat (with_reducible first | exact K0 | apply Blk.alloc | apply Blk.drew | apply Blk.set7_0 | apply Blk.set7_1 | apply Blk.set7_2 | apply Blk.set7_3 | apply Blk.set7_4 | apply Blk.set7_5 | apply Blk.set7_6 | (apply Blk.off; (first | assumption | omega | (simp; omega))) | fail))).mono ?_; rintro e w' ⟨rfl, hk, hg⟩; have GB := gb_step (w := w) (by repeat (with_reducible first | exact GB | exact gb_refl _ _ | apply gb_set | apply gb_alloc | apply gb_drew | fail)) hg; have K0 := hk; (try clear cK0_0 cK0_1 cK0_2 cK0_3 cK0_4 cK0_5 cK0_6 fK0 lK0 nK0 mK0); obtain ⟨cK0_0, cK0_1, cK0_2, cK0_3, cK0_4, cK0_5, cK0_6, fK0, lK0, nK0, mK0⟩ := Blk.all7 K0) | fail)
        go_end0
        exact ⟨rfl, ⟨(by repeat (with_reducible first | exact K0 | apply Blk.alloc | apply Blk.drew | apply Blk.set7_0 | apply Blk.set7_1 | apply Blk.set7_2 | apply Blk.set7_3 | apply Blk.set7_4 | apply Blk.set7_5 | apply Blk.set7_6 | (apply Blk.off; (first | assumption | omega | (simp; omega))) | fail)), (by repeat (with_reducible first | exact GB | exact gb_refl _ _ | apply gb_set | apply gb_alloc | apply gb_drew | fail))⟩⟩
    · have er : (waitedH h s).cs = #[.int .i64 h.ph, .string h.im, .int .i64 h.bl, .bool h.ag, .int .i64 h.tr, .string h.rd, .int .i64 h.rp] := by simp [HS.cs, waitedH, hg, hs]
      rw [er]
      rw [hs] at ga
      clear hs
      clear hg
      go_enter Try.func23, Try.ntmps23
      go_wp2_with (first | (go_at_call 45; with_reducible refine (ga.out _).mono ?_; rintro e w' ⟨rfl, hb⟩; have GB := gb_bel (w := w) (by repeat (with_reducible first | exact GB | exact gb_refl _ _ | apply gb_set | apply gb_alloc | apply gb_drew | fail)) hb; have K0 := Blk.on (by first | exact K0 | exact K0 #[] | exact K0 (.cells #[] 0) #[]) (by repeat (with_reducible first | exact K0 | exact K0 _ | exact K0 _ _ | apply Blk.alloc | apply Blk.drew | apply Blk.set7_0 | apply Blk.set7_1 | apply Blk.set7_2 | apply Blk.set7_3 | apply Blk.set7_4 | apply Blk.set7_5 | apply Blk.set7_6 | (apply Blk.off; (first | assumption | omega | (simp; omega))) | fail)) hb; (try clear cK0_0 cK0_1 cK0_2 cK0_3 cK0_4 cK0_5 cK0_6 fK0 lK0 nK0 mK0); obtain ⟨cK0_0, cK0_1, cK0_2, cK0_3, cK0_4, cK0_5, cK0_6, fK0, lK0, nK0, mK0⟩ := Blk.all7 K0; have K1 := fun cs => Blk.new w' cs 43) | (go_at_call 26; with_reducible refine (aa.out _ (by repeat (with_reducible first | exact K0 | apply Blk.alloc | apply Blk.drew | apply Blk.set7_0 | apply Blk.set7_1 | apply Blk.set7_2 | apply Blk.set7_3 | apply Blk.set7_4 | apply Blk.set7_5 | apply Blk.set7_6 | (apply Blk.off; (first | assumption | omega | (simp; omega))) | fail))).mono ?_; rintro e w' ⟨rfl, hk, hg⟩; have GB := gb_step (w := w) (by repeat (with_reducible first | exact GB | exact gb_refl _ _ | apply gb_set | apply gb_alloc | apply gb_drew | fail)) hg; have K0 := hk; (try clear cK0_0 cK0_1 cK0_2 cK0_3 cK0_4 cK0_5 cK0_6 fK0 lK0 nK0 mK0); obtain ⟨cK0_0, cK0_1, cK0_2, cK0_3, cK0_4, cK0_5, cK0_6, fK0, lK0, nK0, mK0⟩ := Blk.all7 K0) | fail)
      go_end0
      exact ⟨rfl, ⟨(by repeat (with_reducible first | exact K0 | apply Blk.alloc | apply Blk.drew | apply Blk.set7_0 | apply Blk.set7_1 | apply Blk.set7_2 | apply Blk.set7_3 | apply Blk.set7_4 | apply Blk.set7_5 | apply Blk.set7_6 | (apply Blk.off; (first | assumption | omega | (simp; omega))) | fail)), (by repeat (with_reducible first | exact GB | exact gb_refl _ _ | apply gb_set | apply gb_alloc | apply gb_drew | fail))⟩⟩
    · have er : (waitedH h s).cs = #[.int .i64 h.ph, .string h.im, .int .i64 h.bl, .bool h.ag, .int .i64 h.tr, .string h.rd, .int .i64 h.rp] := by simp [HS.cs, waitedH, hg, hs]
      rw [er]
      rw [hs] at ga
      clear hs
      clear hg
      go_enter Try.func23, Try.ntmps23
      go_wp2_with (first | (go_at_call 45; with_reducible refine (ga.out _).mono ?_; rintro e w' ⟨rfl, hb⟩; have GB := gb_bel (w := w) (by repeat (with_reducible first | exact GB | exact gb_refl _ _ | apply gb_set | apply gb_alloc | apply gb_drew | fail)) hb; have K0 := Blk.on (by first | exact K0 | exact K0 #[] | exact K0 (.cells #[] 0) #[]) (by repeat (with_reducible first | exact K0 | exact K0 _ | exact K0 _ _ | apply Blk.alloc | apply Blk.drew | apply Blk.set7_0 | apply Blk.set7_1 | apply Blk.set7_2 | apply Blk.set7_3 | apply Blk.set7_4 | apply Blk.set7_5 | apply Blk.set7_6 | (apply Blk.off; (first | assumption | omega | (simp; omega))) | fail)) hb; (try clear cK0_0 cK0_1 cK0_2 cK0_3 cK0_4 cK0_5 cK0_6 fK0 lK0 nK0 mK0); obtain ⟨cK0_0, cK0_1, cK0_2, cK0_3, cK0_4, cK0_5, cK0_6, fK0, lK0, nK0, mK0⟩ := Blk.all7 K0; have K1 := fun cs => Blk.new w' cs 43) | (go_at_call 26; with_reducible refine (aa.out _ (by repeat (with_reducible first | exact K0 | apply Blk.alloc | apply Blk.drew | apply Blk.set7_0 | apply Blk.set7_1 | apply Blk.set7_2 | apply Blk.set7_3 | apply Blk.set7_4 | apply Blk.set7_5 | apply Blk.set7_6 | (apply Blk.off; (first | assumption | omega | (simp; omega))) | fail))).mono ?_; rintro e w' ⟨rfl, hk, hg⟩; have GB := gb_step (w := w) (by repeat (with_reducible first | exact GB | exact gb_refl _ _ | apply gb_set | apply gb_alloc | apply gb_drew | fail)) hg; have K0 := hk; (try clear cK0_0 cK0_1 cK0_2 cK0_3 cK0_4 cK0_5 cK0_6 fK0 lK0 nK0 mK0); obtain ⟨cK0_0, cK0_1, cK0_2, cK0_3, cK0_4, cK0_5, cK0_6, fK0, lK0, nK0, mK0⟩ := Blk.all7 K0) | fail)
      go_end0
      exact ⟨rfl, ⟨(by repeat (with_reducible first | exact K0 | apply Blk.alloc | apply Blk.drew | apply Blk.set7_0 | apply Blk.set7_1 | apply Blk.set7_2 | apply Blk.set7_3 | apply Blk.set7_4 | apply Blk.set7_5 | apply Blk.set7_6 | (apply Blk.off; (first | assumption | omega | (simp; omega))) | fail)), (by repeat (with_reducible first | exact GB | exact gb_refl _ _ | apply gb_set | apply gb_alloc | apply gb_drew | fail))⟩⟩
    · have er : (waitedH h s).cs = (anewH h).cs := by simp [HS.cs, waitedH, hg, n0, n3, n4, n5]
      rw [er]
      have s0 : (ansS s == 0) = false := beq_eq_false_iff_ne.2 (by omega)
      have s3 : (ansS s == 3) = false := beq_eq_false_iff_ne.2 (by omega)
      have s4 : (ansS s == 4) = false := beq_eq_false_iff_ne.2 (by omega)
      have s5 : (ansS s == 5) = false := beq_eq_false_iff_ne.2 (by omega)
      generalize ansS s = st at *
      clear hg
      go_enter Try.func23, Try.ntmps23
      go_wp2_with (first | (go_at_call 45; with_reducible refine (ga.out _).mono ?_; rintro e w' ⟨rfl, hb⟩; have GB := gb_bel (w := w) (by repeat (with_reducible first | exact GB | exact gb_refl _ _ | apply gb_set | apply gb_alloc | apply gb_drew | fail)) hb; have K0 := Blk.on (by first | exact K0 | exact K0 #[] | exact K0 (.cells #[] 0) #[]) (by repeat (with_reducible first | exact K0 | exact K0 _ | exact K0 _ _ | apply Blk.alloc | apply Blk.drew | apply Blk.set7_0 | apply Blk.set7_1 | apply Blk.set7_2 | apply Blk.set7_3 | apply Blk.set7_4 | apply Blk.set7_5 | apply Blk.set7_6 | (apply Blk.off; (first | assumption | omega | (simp; omega))) | fail)) hb; (try clear cK0_0 cK0_1 cK0_2 cK0_3 cK0_4 cK0_5 cK0_6 fK0 lK0 nK0 mK0); obtain ⟨cK0_0, cK0_1, cK0_2, cK0_3, cK0_4, cK0_5, cK0_6, fK0, lK0, nK0, mK0⟩ := Blk.all7 K0; have K1 := fun cs => Blk.new w' cs 43) | (go_at_call 26; with_reducible refine (aa.out _ (by repeat (with_reducible first | exact K0 | apply Blk.alloc | apply Blk.drew | apply Blk.set7_0 | apply Blk.set7_1 | apply Blk.set7_2 | apply Blk.set7_3 | apply Blk.set7_4 | apply Blk.set7_5 | apply Blk.set7_6 | (apply Blk.off; (first | assumption | omega | (simp; omega))) | fail))).mono ?_; rintro e w' ⟨rfl, hk, hg⟩; have GB := gb_step (w := w) (by repeat (with_reducible first | exact GB | exact gb_refl _ _ | apply gb_set | apply gb_alloc | apply gb_drew | fail)) hg; have K0 := hk; (try clear cK0_0 cK0_1 cK0_2 cK0_3 cK0_4 cK0_5 cK0_6 fK0 lK0 nK0 mK0); obtain ⟨cK0_0, cK0_1, cK0_2, cK0_3, cK0_4, cK0_5, cK0_6, fK0, lK0, nK0, mK0⟩ := Blk.all7 K0) | fail)
      go_end0
      exact ⟨rfl, ⟨(by repeat (with_reducible first | exact K0 | apply Blk.alloc | apply Blk.drew | apply Blk.set7_0 | apply Blk.set7_1 | apply Blk.set7_2 | apply Blk.set7_3 | apply Blk.set7_4 | apply Blk.set7_5 | apply Blk.set7_6 | (apply Blk.off; (first | assumption | omega | (simp; omega))) | fail)), (by repeat (with_reducible first | exact GB | exact gb_refl _ _ | apply gb_set | apply gb_alloc | apply gb_drew | fail))⟩⟩
end Go.Proofs.Ythoonffbadhplaa.Rp
