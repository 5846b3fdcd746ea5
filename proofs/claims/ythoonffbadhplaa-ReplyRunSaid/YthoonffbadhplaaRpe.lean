/- Layer 23: replies: the program's methods: read. -/
import Derived.Test.YthoonffbadhplaaRpb
namespace Go.Proofs.Ythoonffbadhplaa.Rp
open Go.RowKit Go.Proofs.Ythoonffbadhplaa.Kt Go.Proofs.Ythoonffbadhplaa.Lw Go.Proofs.Ythoonffbadhplaa.St Go.Proofs.Ythoonffbadhplaa.Nm Go.Proofs.Ythoonffbadhplaa.An Go.Proofs.Ythoonffbadhplaa.Ho
set_option linter.unusedVariables false
set_option linter.unusedSimpArgs false
set_option maxHeartbeats 6400000 in
theorem read_c (g : Nat) (h : HS) (s : ByteArray) (w : World) (K0 : Blk w g #[.int .i64 h.ph, .string h.im, .int .i64 h.bl, .bool h.ag, .int .i64 h.tr, .string h.rd, .int .i64 h.rp] 52) (ok : h.Ok) (hs0 : s.size ≤ 140737488351232) : Calls Try.prog 24 #[.pointer (some ⟨g, 0, none⟩), .string s] w fun e w' => e = .returned (.tuple #[]) ∧ Blk w' g (readH h s).cs 52 ∧ w.grownBy w' (some g) := by
  obtain ⟨ph0, ph1, im0, im1, bl0, bl1, tr0, tr1, rd1, rp0, rp1⟩ := ok
  have GB := gb_refl w g
  obtain ⟨cK0_0, cK0_1, cK0_2, cK0_3, cK0_4, cK0_5, cK0_6, fK0, lK0, nK0, mK0⟩ := Blk.all7 K0
  have q : (9223372036854775807 < h.rd.size + s.size) = False := eq_false (by omega)
  have hz : (h.rd ++ s).size = h.rd.size + s.size := ByteArray.size_append
  have b2 : manyI h.im ≤ 9 := by unfold manyI; omega
  by_cases h1 : 32 < s.size
  · have er : (readH h s).cs = (anewH h).cs := by simp [HS.cs, readH, h1]
    rw [er]
    go_enter Try.func24, Try.ntmps24
    go_wp2_with (first | (go_at_call 26; with_reducible refine (anew_c g h _ (by repeat (with_reducible first | exact K0 | apply Blk.alloc | apply Blk.drew | apply Blk.set7_0 | apply Blk.set7_1 | apply Blk.set7_2 | apply Blk.set7_3 | apply Blk.set7_4 | apply Blk.set7_5 | apply Blk.set7_6 | (apply Blk.off; (first | assumption | omega | (simp; omega))) | fail)) tr0 tr1).mono ?_; rintro e w' ⟨rfl, hk, hg⟩; have GB := gb_step (w := w) (by repeat (with_reducible first | exact GB | exact gb_refl _ _ | apply gb_set | apply gb_alloc | apply gb_drew | fail)) hg; have K0 := hk; (try clear cK0_0 cK0_1 cK0_2 cK0_3 cK0_4 cK0_5 cK0_6 fK0 lK0 nK0 mK0); obtain ⟨cK0_0, cK0_1, cK0_2, cK0_3, cK0_4, cK0_5, cK0_6, fK0, lK0, nK0, mK0⟩ := Blk.all7 K0) | fail)
    (try simp only [Exit.inBlock, Exit.then]); refine bodyPost_ret (results_none rfl _ _ _) rfl ?_
    exact ⟨rfl, ⟨(by repeat (with_reducible first | exact K0 | apply Blk.alloc | apply Blk.drew | apply Blk.set7_0 | apply Blk.set7_1 | apply Blk.set7_2 | apply Blk.set7_3 | apply Blk.set7_4 | apply Blk.set7_5 | apply Blk.set7_6 | (apply Blk.off; (first | assumption | omega | (simp; omega))) | fail)), (by repeat (with_reducible first | exact GB | exact gb_refl _ _ | apply gb_set | apply gb_alloc | apply gb_drew | fail))⟩⟩
  · by_cases h2 : s.size < 32
    · have i2 : (s.size : Int) < 32 := by omega
      have j2 : decide ((s.size : Int) < 32) = true := decide_eq_true i2
      by_cases h3 : h.rd ++ s = h.im
      · have e1 : ((h.rd ++ s).toList == h.im.toList) = true := eqs_t h3
        have er : (readH h s).cs = #[.int .i64 (7), .string (h.im), .int .i64 (0), .bool (h.ag), .int .i64 (h.tr), .string (⟨#[]⟩), .int .i64 (1)] := by rw [readH_2 h2 h3]
        rw [er]
        clear h3
        go_enter Try.func24, Try.ntmps24
        go_upto_region 4 with fail
        have K0 := Blk.set7_5 K0 (.string (h.rd ++ s))
        have GB := gb_set (j := 5) (v := .string (h.rd ++ s)) GB
        clear cK0_0 cK0_1 cK0_2 cK0_3 cK0_4 cK0_5 cK0_6 fK0 lK0 nK0 mK0
        generalize w.setCell ⟨g, 5, none⟩ (.string (h.rd ++ s)) = w1 at *
        obtain ⟨cK0_0, cK0_1, cK0_2, cK0_3, cK0_4, cK0_5, cK0_6, fK0, lK0, nK0, mK0⟩ := Blk.all7 K0
        have qK0_0 := fun s : Wld _ => Wld.cell cK0_0 s; have qK0_1 := fun s : Wld _ => Wld.cell cK0_1 s; have qK0_2 := fun s : Wld _ => Wld.cell cK0_2 s; have qK0_3 := fun s : Wld _ => Wld.cell cK0_3 s; have qK0_4 := fun s : Wld _ => Wld.cell cK0_4 s; have qK0_5 := fun s : Wld _ => Wld.cell cK0_5 s; have qK0_6 := fun s : Wld _ => Wld.cell cK0_6 s
        refine wld_lit (by kernel_rfl) (by kernel_rfl) ?_
        repeat (go_big_quiet_step (fail))
        refine wpQuiet_nil ?_; refine Wld.elim ?_; intro w' hb; clear qK0_0 qK0_1 qK0_2 qK0_3 qK0_4 qK0_5 qK0_6; have GB := gb_bel (w := w) (by repeat (with_reducible first | exact GB | exact gb_refl _ _ | apply gb_set | apply gb_alloc | apply gb_drew | fail)) hb; have K0 := Blk.on (by first | exact K0 | exact K0 #[] | exact K0 (.cells #[] 0) #[]) (by repeat (with_reducible first | exact K0 | exact K0 _ | exact K0 _ _ | apply Blk.alloc | apply Blk.drew | apply Blk.set7_0 | apply Blk.set7_1 | apply Blk.set7_2 | apply Blk.set7_3 | apply Blk.set7_4 | apply Blk.set7_5 | apply Blk.set7_6 | (apply Blk.off; (first | assumption | omega | (simp; omega))) | fail)) hb; (try clear cK0_0 cK0_1 cK0_2 cK0_3 cK0_4 cK0_5 cK0_6 fK0 lK0 nK0 mK0); obtain ⟨cK0_0, cK0_1, cK0_2, cK0_3, cK0_4, cK0_5, cK0_6, fK0, lK0, nK0, mK0⟩ := Blk.all7 K0
        go_wp2_with (first | (go_at_call 47; with_reducible refine (done_c _ _ _ _ _ _ _ _ _ _ (by repeat (with_reducible first | exact K0 | apply Blk.alloc | apply Blk.drew | apply Blk.set7_0 | apply Blk.set7_1 | apply Blk.set7_2 | apply Blk.set7_3 | apply Blk.set7_4 | apply Blk.set7_5 | apply Blk.set7_6 | (apply Blk.off; (first | assumption | omega | (simp; omega))) | fail))).mono ?_; rintro e w' ⟨rfl, hk, hg⟩; have GB := gb_step (w := w) (by repeat (with_reducible first | exact GB | exact gb_refl _ _ | apply gb_set | apply gb_alloc | apply gb_drew | fail)) hg; have K0 := hk; (try clear cK0_0 cK0_1 cK0_2 cK0_3 cK0_4 cK0_5 cK0_6 fK0 lK0 nK0 mK0); obtain ⟨cK0_0, cK0_1, cK0_2, cK0_3, cK0_4, cK0_5, cK0_6, fK0, lK0, nK0, mK0⟩ := Blk.all7 K0) | fail)
        go_end0
        exact ⟨rfl, ⟨(by repeat (with_reducible first | exact K0 | apply Blk.alloc | apply Blk.drew | apply Blk.set7_0 | apply Blk.set7_1 | apply Blk.set7_2 | apply Blk.set7_3 | apply Blk.set7_4 | apply Blk.set7_5 | apply Blk.set7_6 | (apply Blk.off; (first | assumption | omega | (simp; omega))) | fail)), (by repeat (with_reducible first | exact GB | exact gb_refl _ _ | apply gb_set | apply gb_alloc | apply gb_drew | fail))⟩⟩
      · have e1 : ((h.rd ++ s).toList == h.im.toList) = false := eqs_f h3
        have er : (readH h s).cs = (anewH ⟨h.ph, h.im, h.bl, h.ag, h.tr, h.rd ++ s, h.rp⟩).cs := by rw [readH_3 h2 h3]; (first | done | rfl | fail) --
        rw [er]
        clear h3
        go_enter Try.func24, Try.ntmps24
        go_upto_region 4 with fail
        have K0 := Blk.set7_5 K0 (.string (h.rd ++ s))
        have GB := gb_set (j := 5) (v := .string (h.rd ++ s)) GB
        clear cK0_0 cK0_1 cK0_2 cK0_3 cK0_4 cK0_5 cK0_6 fK0 lK0 nK0 mK0
        generalize w.setCell ⟨g, 5, none⟩ (.string (h.rd ++ s)) = w1 at *
        obtain ⟨cK0_0, cK0_1, cK0_2, cK0_3, cK0_4, cK0_5, cK0_6, fK0, lK0, nK0, mK0⟩ := Blk.all7 K0
        have qK0_0 := fun s : Wld _ => Wld.cell cK0_0 s; have qK0_1 := fun s : Wld _ => Wld.cell cK0_1 s; have qK0_2 := fun s : Wld _ => Wld.cell cK0_2 s; have qK0_3 := fun s : Wld _ => Wld.cell cK0_3 s; have qK0_4 := fun s : Wld _ => Wld.cell cK0_4 s; have qK0_5 := fun s : Wld _ => Wld.cell cK0_5 s; have qK0_6 := fun s : Wld _ => Wld.cell cK0_6 s
        refine wld_lit (by kernel_rfl) (by kernel_rfl) ?_
        repeat (go_big_quiet_step (fail))
        refine wpQuiet_nil ?_; refine Wld.elim ?_; intro w' hb; clear qK0_0 qK0_1 qK0_2 qK0_3 qK0_4 qK0_5 qK0_6; have GB := gb_bel (w := w) (by repeat (with_reducible first | exact GB | exact gb_refl _ _ | apply gb_set | apply gb_alloc | apply gb_drew | fail)) hb; have K0 := Blk.on (by first | exact K0 | exact K0 #[] | exact K0 (.cells #[] 0) #[]) (by repeat (with_reducible first | exact K0 | exact K0 _ | exact K0 _ _ | apply Blk.alloc | apply Blk.drew | apply Blk.set7_0 | apply Blk.set7_1 | apply Blk.set7_2 | apply Blk.set7_3 | apply Blk.set7_4 | apply Blk.set7_5 | apply Blk.set7_6 | (apply Blk.off; (first | assumption | omega | (simp; omega))) | fail)) hb; (try clear cK0_0 cK0_1 cK0_2 cK0_3 cK0_4 cK0_5 cK0_6 fK0 lK0 nK0 mK0); obtain ⟨cK0_0, cK0_1, cK0_2, cK0_3, cK0_4, cK0_5, cK0_6, fK0, lK0, nK0, mK0⟩ := Blk.all7 K0
        go_upto_region 6 with fail
        have qK0_0 := fun s : Wld _ => Wld.cell cK0_0 s; have qK0_1 := fun s : Wld _ => Wld.cell cK0_1 s; have qK0_2 := fun s : Wld _ => Wld.cell cK0_2 s; have qK0_3 := fun s : Wld _ => Wld.cell cK0_3 s; have qK0_4 := fun s : Wld _ => Wld.cell cK0_4 s; have qK0_5 := fun s : Wld _ => Wld.cell cK0_5 s; have qK0_6 := fun s : Wld _ => Wld.cell cK0_6 s
        refine wld_lit (by kernel_rfl) (by kernel_rfl) ?_
        repeat (go_big_quiet_step (first | (go_at_call 43; with_reducible exact Wld.same (hmany_c g _ _ (qK0_1 _) (by omega))) | fail))
        refine wpQuiet_nil ?_; refine Wld.elim ?_; intro w' hb; clear qK0_0 qK0_1 qK0_2 qK0_3 qK0_4 qK0_5 qK0_6; have GB := gb_bel (w := w) (by repeat (with_reducible first | exact GB | exact gb_refl _ _ | apply gb_set | apply gb_alloc | apply gb_drew | fail)) hb; have K0 := Blk.on (by first | exact K0 | exact K0 #[] | exact K0 (.cells #[] 0) #[]) (by repeat (with_reducible first | exact K0 | exact K0 _ | exact K0 _ _ | apply Blk.alloc | apply Blk.drew | apply Blk.set7_0 | apply Blk.set7_1 | apply Blk.set7_2 | apply Blk.set7_3 | apply Blk.set7_4 | apply Blk.set7_5 | apply Blk.set7_6 | (apply Blk.off; (first | assumption | omega | (simp; omega))) | fail)) hb; (try clear cK0_0 cK0_1 cK0_2 cK0_3 cK0_4 cK0_5 cK0_6 fK0 lK0 nK0 mK0); obtain ⟨cK0_0, cK0_1, cK0_2, cK0_3, cK0_4, cK0_5, cK0_6, fK0, lK0, nK0, mK0⟩ := Blk.all7 K0
        go_wp2_with (first | (go_at_call 26; with_reducible refine (anew_c g ⟨h.ph, h.im, h.bl, h.ag, h.tr, h.rd ++ s, h.rp⟩ _ (by repeat (with_reducible first | exact K0 | apply Blk.alloc | apply Blk.drew | apply Blk.set7_0 | apply Blk.set7_1 | apply Blk.set7_2 | apply Blk.set7_3 | apply Blk.set7_4 | apply Blk.set7_5 | apply Blk.set7_6 | (apply Blk.off; (first | assumption | omega | (simp; omega))) | fail)) tr0 tr1).mono ?_; rintro e w' ⟨rfl, hk, hg⟩; have GB := gb_step (w := w) (by repeat (with_reducible first | exact GB | exact gb_refl _ _ | apply gb_set | apply gb_alloc | apply gb_drew | fail)) hg; have K0 := hk; (try clear cK0_0 cK0_1 cK0_2 cK0_3 cK0_4 cK0_5 cK0_6 fK0 lK0 nK0 mK0); obtain ⟨cK0_0, cK0_1, cK0_2, cK0_3, cK0_4, cK0_5, cK0_6, fK0, lK0, nK0, mK0⟩ := Blk.all7 K0) | fail)
        go_end0
        exact ⟨rfl, ⟨(by repeat (with_reducible first | exact K0 | apply Blk.alloc | apply Blk.drew | apply Blk.set7_0 | apply Blk.set7_1 | apply Blk.set7_2 | apply Blk.set7_3 | apply Blk.set7_4 | apply Blk.set7_5 | apply Blk.set7_6 | (apply Blk.off; (first | assumption | omega | (simp; omega))) | fail)), (by repeat (with_reducible first | exact GB | exact gb_refl _ _ | apply gb_set | apply gb_alloc | apply gb_drew | fail))⟩⟩
    · have h4 : s.size = 32 := by omega
      have i2 : (32 : Int) ≤ (s.size : Int) := by omega
      have j2 : decide ((s.size : Int) < 32) = false := decide_eq_false (by omega)
      have HZ4 := Lib.hid h4
      by_cases h5 : h.im.size < (h.rd ++ s).size
      · have h6 := h5
        rw [hz] at h6
        have i6 : (h.im.size : Int) < ((h.rd.size + s.size : Nat) : Int) := by omega
        have j6 : decide (h.im.size < h.rd.size + s.size) = true := decide_eq_true h6
        have j7 : decide ((h.im.size : Int) < (h.rd.size : Int) + (s.size : Int)) = true := decide_eq_true (by omega)
        have j8 : decide ((h.im.size : Int) < (h.rd.size : Int) + 32) = true := decide_eq_true (by omega)
        have er : (readH h s).cs = (anewH ⟨h.ph, h.im, h.bl, h.ag, h.tr, h.rd ++ s, h.rp⟩).cs := by rw [readH_4 h1 h2 (.inl h5)]; (first | done | rfl | fail) --
        rw [er]
        clear h5 h4
        go_enter Try.func24, Try.ntmps24
        go_upto_region 4 with fail
        have K0 := Blk.set7_5 K0 (.string (h.rd ++ s))
        have GB := gb_set (j := 5) (v := .string (h.rd ++ s)) GB
        clear cK0_0 cK0_1 cK0_2 cK0_3 cK0_4 cK0_5 cK0_6 fK0 lK0 nK0 mK0
        generalize w.setCell ⟨g, 5, none⟩ (.string (h.rd ++ s)) = w1 at *
        obtain ⟨cK0_0, cK0_1, cK0_2, cK0_3, cK0_4, cK0_5, cK0_6, fK0, lK0, nK0, mK0⟩ := Blk.all7 K0
        have qK0_0 := fun s : Wld _ => Wld.cell cK0_0 s; have qK0_1 := fun s : Wld _ => Wld.cell cK0_1 s; have qK0_2 := fun s : Wld _ => Wld.cell cK0_2 s; have qK0_3 := fun s : Wld _ => Wld.cell cK0_3 s; have qK0_4 := fun s : Wld _ => Wld.cell cK0_4 s; have qK0_5 := fun s : Wld _ => Wld.cell cK0_5 s; have qK0_6 := fun s : Wld _ => Wld.cell cK0_6 s
        refine wld_lit (by kernel_rfl) (by kernel_rfl) ?_
        repeat (go_big_quiet_step (fail))
        refine wpQuiet_nil ?_; refine Wld.elim ?_; intro w' hb; clear qK0_0 qK0_1 qK0_2 qK0_3 qK0_4 qK0_5 qK0_6; have GB := gb_bel (w := w) (by repeat (with_reducible first | exact GB | exact gb_refl _ _ | apply gb_set | apply gb_alloc | apply gb_drew | fail)) hb; have K0 := Blk.on (by first | exact K0 | exact K0 #[] | exact K0 (.cells #[] 0) #[]) (by repeat (with_reducible first | exact K0 | exact K0 _ | exact K0 _ _ | apply Blk.alloc | apply Blk.drew | apply Blk.set7_0 | apply Blk.set7_1 | apply Blk.set7_2 | apply Blk.set7_3 | apply Blk.set7_4 | apply Blk.set7_5 | apply Blk.set7_6 | (apply Blk.off; (first | assumption | omega | (simp; omega))) | fail)) hb; (try clear cK0_0 cK0_1 cK0_2 cK0_3 cK0_4 cK0_5 cK0_6 fK0 lK0 nK0 mK0); obtain ⟨cK0_0, cK0_1, cK0_2, cK0_3, cK0_4, cK0_5, cK0_6, fK0, lK0, nK0, mK0⟩ := Blk.all7 K0
        go_upto_region 6 with fail
        have qK0_0 := fun s : Wld _ => Wld.cell cK0_0 s; have qK0_1 := fun s : Wld _ => Wld.cell cK0_1 s; have qK0_2 := fun s : Wld _ => Wld.cell cK0_2 s; have qK0_3 := fun s : Wld _ => Wld.cell cK0_3 s; have qK0_4 := fun s : Wld _ => Wld.cell cK0_4 s; have qK0_5 := fun s : Wld _ => Wld.cell cK0_5 s; have qK0_6 := fun s : Wld _ => Wld.cell cK0_6 s
        refine wld_lit (by kernel_rfl) (by kernel_rfl) ?_
        repeat (go_big_quiet_step (first | (go_at_call 43; with_reducible exact Wld.same (hmany_c g _ _ (qK0_1 _) (by omega))) | fail))
        refine wpQuiet_nil ?_; refine Wld.elim ?_; intro w' hb; clear qK0_0 qK0_1 qK0_2 qK0_3 qK0_4 qK0_5 qK0_6; have GB := gb_bel (w := w) (by repeat (with_reducible first | exact GB | exact gb_refl _ _ | apply gb_set | apply gb_alloc | apply gb_drew | fail)) hb; have K0 := Blk.on (by first | exact K0 | exact K0 #[] | exact K0 (.cells #[] 0) #[]) (by repeat (with_reducible first | exact K0 | exact K0 _ | exact K0 _ _ | apply Blk.alloc | apply Blk.drew | apply Blk.set7_0 | apply Blk.set7_1 | apply Blk.set7_2 | apply Blk.set7_3 | apply Blk.set7_4 | apply Blk.set7_5 | apply Blk.set7_6 | (apply Blk.off; (first | assumption | omega | (simp; omega))) | fail)) hb; (try clear cK0_0 cK0_1 cK0_2 cK0_3 cK0_4 cK0_5 cK0_6 fK0 lK0 nK0 mK0); obtain ⟨cK0_0, cK0_1, cK0_2, cK0_3, cK0_4, cK0_5, cK0_6, fK0, lK0, nK0, mK0⟩ := Blk.all7 K0
        go_wp2_with (first | (go_at_call 26; with_reducible refine (anew_c g ⟨h.ph, h.im, h.bl, h.ag, h.tr, h.rd ++ s, h.rp⟩ _ (by repeat (with_reducible first | exact K0 | apply Blk.alloc | apply Blk.drew | apply Blk.set7_0 | apply Blk.set7_1 | apply Blk.set7_2 | apply Blk.set7_3 | apply Blk.set7_4 | apply Blk.set7_5 | apply Blk.set7_6 | (apply Blk.off; (first | assumption | omega | (simp; omega))) | fail)) tr0 tr1).mono ?_; rintro e w' ⟨rfl, hk, hg⟩; have GB := gb_step (w := w) (by repeat (with_reducible first | exact GB | exact gb_refl _ _ | apply gb_set | apply gb_alloc | apply gb_drew | fail)) hg; have K0 := hk; (try clear cK0_0 cK0_1 cK0_2 cK0_3 cK0_4 cK0_5 cK0_6 fK0 lK0 nK0 mK0); obtain ⟨cK0_0, cK0_1, cK0_2, cK0_3, cK0_4, cK0_5, cK0_6, fK0, lK0, nK0, mK0⟩ := Blk.all7 K0) | fail)
        go_end0
        exact ⟨rfl, ⟨(by repeat (with_reducible first | exact K0 | apply Blk.alloc | apply Blk.drew | apply Blk.set7_0 | apply Blk.set7_1 | apply Blk.set7_2 | apply Blk.set7_3 | apply Blk.set7_4 | apply Blk.set7_5 | apply Blk.set7_6 | (apply Blk.off; (first | assumption | omega | (simp; omega))) | fail)), (by repeat (with_reducible first | exact GB | exact gb_refl _ _ | apply gb_set | apply gb_alloc | apply gb_drew | fail))⟩⟩
      · have h6 : (h.rd ++ s).size ≤ h.im.size := by omega
        rw [hz] at h6
        have i6 : ((h.rd.size + s.size : Nat) : Int) ≤ (h.im.size : Int) := by omega
        have j6 : decide (h.im.size < h.rd.size + s.size) = false := decide_eq_false (by omega)
        have j7 : decide ((h.im.size : Int) < (h.rd.size : Int) + (s.size : Int)) = false := decide_eq_false (by omega)
        have j8 : decide ((h.im.size : Int) < (h.rd.size : Int) + 32) = false := decide_eq_false (by omega)
        by_cases h7 : h.bl = manyI h.im
        · have e2 : (h.bl == manyI h.im) = true := by simp [h7]
          have er : (readH h s).cs = (anewH ⟨h.ph, h.im, h.bl, h.ag, h.tr, h.rd ++ s, h.rp⟩).cs := by rw [readH_4 h1 h2 (.inr h7)]; (first | done | rfl | fail) --
          rw [er]
          clear h5 h7 h4
          go_enter Try.func24, Try.ntmps24
          go_upto_region 4 with fail
          have K0 := Blk.set7_5 K0 (.string (h.rd ++ s))
          have GB := gb_set (j := 5) (v := .string (h.rd ++ s)) GB
          clear cK0_0 cK0_1 cK0_2 cK0_3 cK0_4 cK0_5 cK0_6 fK0 lK0 nK0 mK0
          generalize w.setCell ⟨g, 5, none⟩ (.string (h.rd ++ s)) = w1 at *
          obtain ⟨cK0_0, cK0_1, cK0_2, cK0_3, cK0_4, cK0_5, cK0_6, fK0, lK0, nK0, mK0⟩ := Blk.all7 K0
          have qK0_0 := fun s : Wld _ => Wld.cell cK0_0 s; have qK0_1 := fun s : Wld _ => Wld.cell cK0_1 s; have qK0_2 := fun s : Wld _ => Wld.cell cK0_2 s; have qK0_3 := fun s : Wld _ => Wld.cell cK0_3 s; have qK0_4 := fun s : Wld _ => Wld.cell cK0_4 s; have qK0_5 := fun s : Wld _ => Wld.cell cK0_5 s; have qK0_6 := fun s : Wld _ => Wld.cell cK0_6 s
          refine wld_lit (by kernel_rfl) (by kernel_rfl) ?_
          repeat (go_big_quiet_step (fail))
          refine wpQuiet_nil ?_; refine Wld.elim ?_; intro w' hb; clear qK0_0 qK0_1 qK0_2 qK0_3 qK0_4 qK0_5 qK0_6; have GB := gb_bel (w := w) (by repeat (with_reducible first | exact GB | exact gb_refl _ _ | apply gb_set | apply gb_alloc | apply gb_drew | fail)) hb; have K0 := Blk.on (by first | exact K0 | exact K0 #[] | exact K0 (.cells #[] 0) #[]) (by repeat (with_reducible first | exact K0 | exact K0 _ | exact K0 _ _ | apply Blk.alloc | apply Blk.drew | apply Blk.set7_0 | apply Blk.set7_1 | apply Blk.set7_2 | apply Blk.set7_3 | apply Blk.set7_4 | apply Blk.set7_5 | apply Blk.set7_6 | (apply Blk.off; (first | assumption | omega | (simp; omega))) | fail)) hb; (try clear cK0_0 cK0_1 cK0_2 cK0_3 cK0_4 cK0_5 cK0_6 fK0 lK0 nK0 mK0); obtain ⟨cK0_0, cK0_1, cK0_2, cK0_3, cK0_4, cK0_5, cK0_6, fK0, lK0, nK0, mK0⟩ := Blk.all7 K0
          go_upto_region 6 with fail
          have qK0_0 := fun s : Wld _ => Wld.cell cK0_0 s; have qK0_1 := fun s : Wld _ => Wld.cell cK0_1 s; have qK0_2 := fun s : Wld _ => Wld.cell cK0_2 s; have qK0_3 := fun s : Wld _ => Wld.cell cK0_3 s; have qK0_4 := fun s : Wld _ => Wld.cell cK0_4 s; have qK0_5 := fun s : Wld _ => Wld.cell cK0_5 s; have qK0_6 := fun s : Wld _ => Wld.cell cK0_6 s
          refine wld_lit (by kernel_rfl) (by kernel_rfl) ?_
          repeat (go_big_quiet_step (first | (go_at_call 43; with_reducible exact Wld.same (hmany_c g _ _ (qK0_1 _) (by omega))) | fail))
          refine wpQuiet_nil ?_; refine Wld.elim ?_; intro w' hb; clear qK0_0 qK0_1 qK0_2 qK0_3 qK0_4 qK0_5 qK0_6; have GB := gb_bel (w := w) (by repeat (with_reducible first | exact GB | exact gb_refl _ _ | apply gb_set | apply gb_alloc | apply gb_drew | fail)) hb; have K0 := Blk.on (by first | exact K0 | exact K0 #[] | exact K0 (.cells #[] 0) #[]) (by repeat (with_reducible first | exact K0 | exact K0 _ | exact K0 _ _ | apply Blk.alloc | apply Blk.drew | apply Blk.set7_0 | apply Blk.set7_1 | apply Blk.set7_2 | apply Blk.set7_3 | apply Blk.set7_4 | apply Blk.set7_5 | apply Blk.set7_6 | (apply Blk.off; (first | assumption | omega | (simp; omega))) | fail)) hb; (try clear cK0_0 cK0_1 cK0_2 cK0_3 cK0_4 cK0_5 cK0_6 fK0 lK0 nK0 mK0); obtain ⟨cK0_0, cK0_1, cK0_2, cK0_3, cK0_4, cK0_5, cK0_6, fK0, lK0, nK0, mK0⟩ := Blk.all7 K0
          go_wp2_with (first | (go_at_call 26; with_reducible refine (anew_c g ⟨h.ph, h.im, h.bl, h.ag, h.tr, h.rd ++ s, h.rp⟩ _ (by repeat (with_reducible first | exact K0 | apply Blk.alloc | apply Blk.drew | apply Blk.set7_0 | apply Blk.set7_1 | apply Blk.set7_2 | apply Blk.set7_3 | apply Blk.set7_4 | apply Blk.set7_5 | apply Blk.set7_6 | (apply Blk.off; (first | assumption | omega | (simp; omega))) | fail)) tr0 tr1).mono ?_; rintro e w' ⟨rfl, hk, hg⟩; have GB := gb_step (w := w) (by repeat (with_reducible first | exact GB | exact gb_refl _ _ | apply gb_set | apply gb_alloc | apply gb_drew | fail)) hg; have K0 := hk; (try clear cK0_0 cK0_1 cK0_2 cK0_3 cK0_4 cK0_5 cK0_6 fK0 lK0 nK0 mK0); obtain ⟨cK0_0, cK0_1, cK0_2, cK0_3, cK0_4, cK0_5, cK0_6, fK0, lK0, nK0, mK0⟩ := Blk.all7 K0) | fail)
          go_end0
          exact ⟨rfl, ⟨(by repeat (with_reducible first | exact K0 | apply Blk.alloc | apply Blk.drew | apply Blk.set7_0 | apply Blk.set7_1 | apply Blk.set7_2 | apply Blk.set7_3 | apply Blk.set7_4 | apply Blk.set7_5 | apply Blk.set7_6 | (apply Blk.off; (first | assumption | omega | (simp; omega))) | fail)), (by repeat (with_reducible first | exact GB | exact gb_refl _ _ | apply gb_set | apply gb_alloc | apply gb_drew | fail))⟩⟩
        · have e2 : (h.bl == manyI h.im) = false := by simp [h7]
          have h9 : ¬ (h.im.size < (h.rd ++ s).size ∨ h.bl = manyI h.im) := by simp only [not_or]; exact ⟨h5, h7⟩
          have er : (readH h s).cs = #[.int .i64 (h.ph), .string (h.im), .int .i64 (h.bl + 1), .bool (h.ag), .int .i64 (h.tr), .string (h.rd ++ s), .int .i64 (h.rp)] := by rw [readH_5 h1 h2 h9]
          rw [er]
          clear h5 h7 h9 h4
          go_enter Try.func24, Try.ntmps24
          go_upto_region 4 with fail
          have K0 := Blk.set7_5 K0 (.string (h.rd ++ s))
          have GB := gb_set (j := 5) (v := .string (h.rd ++ s)) GB
          clear cK0_0 cK0_1 cK0_2 cK0_3 cK0_4 cK0_5 cK0_6 fK0 lK0 nK0 mK0
          generalize w.setCell ⟨g, 5, none⟩ (.string (h.rd ++ s)) = w1 at *
          obtain ⟨cK0_0, cK0_1, cK0_2, cK0_3, cK0_4, cK0_5, cK0_6, fK0, lK0, nK0, mK0⟩ := Blk.all7 K0
          have qK0_0 := fun s : Wld _ => Wld.cell cK0_0 s; have qK0_1 := fun s : Wld _ => Wld.cell cK0_1 s; have qK0_2 := fun s : Wld _ => Wld.cell cK0_2 s; have qK0_3 := fun s : Wld _ => Wld.cell cK0_3 s; have qK0_4 := fun s : Wld _ => Wld.cell cK0_4 s; have qK0_5 := fun s : Wld _ => Wld.cell cK0_5 s; have qK0_6 := fun s : Wld _ => Wld.cell cK0_6 s
          refine wld_lit (by kernel_rfl) (by kernel_rfl) ?_
          repeat (go_big_quiet_step (fail))
          refine wpQuiet_nil ?_; refine Wld.elim ?_; intro w' hb; clear qK0_0 qK0_1 qK0_2 qK0_3 qK0_4 qK0_5 qK0_6; have GB := gb_bel (w := w) (by repeat (with_reducible first | exact GB | exact gb_refl _ _ | apply gb_set | apply gb_alloc | apply gb_drew | fail)) hb; have K0 := Blk.on (by first | exact K0 | exact K0 #[] | exact K0 (.cells #[] 0) #[]) (by repeat (with_reducible first | exact K0 | exact K0 _ | exact K0 _ _ | apply Blk.alloc | apply Blk.drew | apply Blk.set7_0 | apply Blk.set7_1 | apply Blk.set7_2 | apply Blk.set7_3 | apply Blk.set7_4 | apply Blk.set7_5 | apply Blk.set7_6 | (apply Blk.off; (first | assumption | omega | (simp; omega))) | fail)) hb; (try clear cK0_0 cK0_1 cK0_2 cK0_3 cK0_4 cK0_5 cK0_6 fK0 lK0 nK0 mK0); obtain ⟨cK0_0, cK0_1, cK0_2, cK0_3, cK0_4, cK0_5, cK0_6, fK0, lK0, nK0, mK0⟩ := Blk.all7 K0
          go_upto_region 6 with fail
          have qK0_0 := fun s : Wld _ => Wld.cell cK0_0 s; have qK0_1 := fun s : Wld _ => Wld.cell cK0_1 s; have qK0_2 := fun s : Wld _ => Wld.cell cK0_2 s; have qK0_3 := fun s : Wld _ => Wld.cell cK0_3 s; have qK0_4 := fun s : Wld _ => Wld.cell cK0_4 s; have qK0_5 := fun s : Wld _ => Wld.cell cK0_5 s; have qK0_6 := fun s : Wld _ => Wld.cell cK0_6 s
          refine wld_lit (by kernel_rfl) (by kernel_rfl) ?_
          repeat (go_big_quiet_step (first | (go_at_call 43; with_reducible exact Wld.same (hmany_c g _ _ (qK0_1 _) (by omega))) | fail))
          refine wpQuiet_nil ?_; refine Wld.elim ?_; intro w' hb; clear qK0_0 qK0_1 qK0_2 qK0_3 qK0_4 qK0_5 qK0_6; have GB := gb_bel (w := w) (by repeat (with_reducible first | exact GB | exact gb_refl _ _ | apply gb_set | apply gb_alloc | apply gb_drew | fail)) hb; have K0 := Blk.on (by first | exact K0 | exact K0 #[] | exact K0 (.cells #[] 0) #[]) (by repeat (with_reducible first | exact K0 | exact K0 _ | exact K0 _ _ | apply Blk.alloc | apply Blk.drew | apply Blk.set7_0 | apply Blk.set7_1 | apply Blk.set7_2 | apply Blk.set7_3 | apply Blk.set7_4 | apply Blk.set7_5 | apply Blk.set7_6 | (apply Blk.off; (first | assumption | omega | (simp; omega))) | fail)) hb; (try clear cK0_0 cK0_1 cK0_2 cK0_3 cK0_4 cK0_5 cK0_6 fK0 lK0 nK0 mK0); obtain ⟨cK0_0, cK0_1, cK0_2, cK0_3, cK0_4, cK0_5, cK0_6, fK0, lK0, nK0, mK0⟩ := Blk.all7 K0
          go_wp2_with fail
          go_end0
          exact ⟨rfl, ⟨(by repeat (with_reducible first | exact K0 | apply Blk.alloc | apply Blk.drew | apply Blk.set7_0 | apply Blk.set7_1 | apply Blk.set7_2 | apply Blk.set7_3 | apply Blk.set7_4 | apply Blk.set7_5 | apply Blk.set7_6 | (apply Blk.off; (first | assumption | omega | (simp; omega))) | fail)), (by repeat (with_reducible first | exact GB | exact gb_refl _ _ | apply gb_set | apply gb_alloc | apply gb_drew | fail))⟩⟩
end Go.Proofs.Ythoonffbadhplaa.Rp
