/- Layer 23: replies: what the program's methods make of them. -/
import Derived.Test.YthoonffbadhplaaRpa
namespace Go.Proofs.Ythoonffbadhplaa.Rp
open Go.RowKit Go.Proofs.Ythoonffbadhplaa.Kt Go.Proofs.Ythoonffbadhplaa.Lw Go.Proofs.Ythoonffbadhplaa.St Go.Proofs.Ythoonffbadhplaa.Nm Go.Proofs.Ythoonffbadhplaa.An Go.Proofs.Ythoonffbadhplaa.Ho
set_option linter.unusedVariables false
set_option linter.unusedSimpArgs false
set_option maxHeartbeats 1600000 in
theorem to_c (g : Nat) (ph : Int) (im : ByteArray) (bl : Int) (ag : Bool) (tr : Int) (rd : ByteArray) (rp : Int) (p : Int) (w : World) (K0 : Blk w g #[.int .i64 ph, .string im, .int .i64 bl, .bool ag, .int .i64 tr, .string rd, .int .i64 rp] 52) : Calls Try.prog 44 #[.pointer (some ⟨g, 0, none⟩), .int .i64 p] w fun e w' => e = .returned (.tuple #[]) ∧ Blk w' g #[.int .i64 (p), .string (im), .int .i64 (0), .bool (false), .int .i64 (tr), .string (⟨#[]⟩), .int .i64 (rp)] 52 ∧ w.grownBy w' (some g) := by
  have GB := gb_refl w g
  obtain ⟨cK0_0, cK0_1, cK0_2, cK0_3, cK0_4, cK0_5, cK0_6, fK0, lK0, nK0, mK0⟩ := Blk.all7 K0
  go_enter Try.func44, Try.ntmps44
  go_wp2
  go_end0
  exact ⟨rfl, ⟨(by repeat (with_reducible first | exact K0 | apply Blk.alloc | apply Blk.drew | apply Blk.set7_0 | apply Blk.set7_1 | apply Blk.set7_2 | apply Blk.set7_3 | apply Blk.set7_4 | apply Blk.set7_5 | apply Blk.set7_6 | (apply Blk.off; (first | assumption | omega | (simp; omega))) | fail)), (by repeat (with_reducible first | exact GB | exact gb_refl _ _ | apply gb_set | apply gb_alloc | apply gb_drew | fail))⟩⟩
set_option maxHeartbeats 1600000 in
theorem done_c (g : Nat) (ph : Int) (im : ByteArray) (bl : Int) (ag : Bool) (tr : Int) (rd : ByteArray) (rp : Int) (r : Int) (w : World) (K0 : Blk w g #[.int .i64 ph, .string im, .int .i64 bl, .bool ag, .int .i64 tr, .string rd, .int .i64 rp] 52) : Calls Try.prog 47 #[.pointer (some ⟨g, 0, none⟩), .int .i64 r] w fun e w' => e = .returned (.tuple #[]) ∧ Blk w' g #[.int .i64 (7), .string (im), .int .i64 (0), .bool (ag), .int .i64 (tr), .string (⟨#[]⟩), .int .i64 (r)] 52 ∧ w.grownBy w' (some g) := by
  have GB := gb_refl w g
  obtain ⟨cK0_0, cK0_1, cK0_2, cK0_3, cK0_4, cK0_5, cK0_6, fK0, lK0, nK0, mK0⟩ := Blk.all7 K0
  go_enter Try.func47, Try.ntmps47
  go_wp2
  go_end0
  exact ⟨rfl, ⟨(by repeat (with_reducible first | exact K0 | apply Blk.alloc | apply Blk.drew | apply Blk.set7_0 | apply Blk.set7_1 | apply Blk.set7_2 | apply Blk.set7_3 | apply Blk.set7_4 | apply Blk.set7_5 | apply Blk.set7_6 | (apply Blk.off; (first | assumption | omega | (simp; omega))) | fail)), (by repeat (with_reducible first | exact GB | exact gb_refl _ _ | apply gb_set | apply gb_alloc | apply gb_drew | fail))⟩⟩
set_option maxHeartbeats 1600000 in
theorem wrong1_c (g : Nat) (ph : Int) (im : ByteArray) (bl : Int) (ag : Bool) (tr : Int) (rd : ByteArray) (rp : Int) (t0 : 0 ≤ tr) (t1 : tr < 8) (w : World) (K0 : Blk w g #[.int .i64 ph, .string im, .int .i64 bl, .bool ag, .int .i64 tr, .string rd, .int .i64 rp] 52) : Calls Try.prog 48 #[.pointer (some ⟨g, 0, none⟩)] w fun e w' => e = .returned (.bool true) ∧ Blk w' g #[.int .i64 (ph), .string (im), .int .i64 (bl), .bool (ag), .int .i64 (tr + 1), .string (rd), .int .i64 (rp)] 52 ∧ w.grownBy w' (some g) := by
  have GB := gb_refl w g
  obtain ⟨cK0_0, cK0_1, cK0_2, cK0_3, cK0_4, cK0_5, cK0_6, fK0, lK0, nK0, mK0⟩ := Blk.all7 K0
  go_enter Try.func48, Try.ntmps48
  go_wp2
  go_ret
  exact ⟨rfl, ⟨(by repeat (with_reducible first | exact K0 | apply Blk.alloc | apply Blk.drew | apply Blk.set7_0 | apply Blk.set7_1 | apply Blk.set7_2 | apply Blk.set7_3 | apply Blk.set7_4 | apply Blk.set7_5 | apply Blk.set7_6 | (apply Blk.off; (first | assumption | omega | (simp; omega))) | fail)), (by repeat (with_reducible first | exact GB | exact gb_refl _ _ | apply gb_set | apply gb_alloc | apply gb_drew | fail))⟩⟩
set_option maxHeartbeats 1600000 in
theorem wrong2_c (g : Nat) (ph : Int) (im : ByteArray) (bl : Int) (ag : Bool) (tr : Int) (rd : ByteArray) (rp : Int) (t0 : 8 ≤ tr) (t1 : tr ≤ 8) (w : World) (K0 : Blk w g #[.int .i64 ph, .string im, .int .i64 bl, .bool ag, .int .i64 tr, .string rd, .int .i64 rp] 52) : Calls Try.prog 48 #[.pointer (some ⟨g, 0, none⟩)] w fun e w' => e = .returned (.bool false) ∧ Blk w' g #[.int .i64 (7), .string (im), .int .i64 (0), .bool (false), .int .i64 (8), .string (⟨#[]⟩), .int .i64 (2)] 52 ∧ w.grownBy w' (some g) := by
  have GB := gb_refl w g
  obtain ⟨cK0_0, cK0_1, cK0_2, cK0_3, cK0_4, cK0_5, cK0_6, fK0, lK0, nK0, mK0⟩ := Blk.all7 K0
  go_enter Try.func48, Try.ntmps48
  go_wp2_with (first | (go_at_call 47; with_reducible refine (done_c _ _ _ _ _ _ _ _ _ _ (by repeat (with_reducible first | exact K0 | apply Blk.alloc | apply Blk.drew | apply Blk.set7_0 | apply Blk.set7_1 | apply Blk.set7_2 | apply Blk.set7_3 | apply Blk.set7_4 | apply Blk.set7_5 | apply Blk.set7_6 | (apply Blk.off; (first | assumption | omega | (simp; omega))) | fail))).mono ?_; rintro e w' ⟨rfl, hk, hg⟩; have GB := gb_step (w := w) (by repeat (with_reducible first | exact GB | exact gb_refl _ _ | apply gb_set | apply gb_alloc | apply gb_drew | fail)) hg; have K0 := hk; (try clear cK0_0 cK0_1 cK0_2 cK0_3 cK0_4 cK0_5 cK0_6 fK0 lK0 nK0 mK0); obtain ⟨cK0_0, cK0_1, cK0_2, cK0_3, cK0_4, cK0_5, cK0_6, fK0, lK0, nK0, mK0⟩ := Blk.all7 K0) | fail)
  go_ret
  exact ⟨rfl, ⟨(by repeat (with_reducible first | exact K0 | apply Blk.alloc | apply Blk.drew | apply Blk.set7_0 | apply Blk.set7_1 | apply Blk.set7_2 | apply Blk.set7_3 | apply Blk.set7_4 | apply Blk.set7_5 | apply Blk.set7_6 | (apply Blk.off; (first | assumption | omega | (simp; omega))) | fail)), (by repeat (with_reducible first | exact GB | exact gb_refl _ _ | apply gb_set | apply gb_alloc | apply gb_drew | fail))⟩⟩
set_option maxHeartbeats 6400000 in
theorem anew_c (g : Nat) (h : HS) (w : World) (K0 : Blk w g #[.int .i64 h.ph, .string h.im, .int .i64 h.bl, .bool h.ag, .int .i64 h.tr, .string h.rd, .int .i64 h.rp] 52) (tr0 : 0 ≤ h.tr) (tr1 : h.tr ≤ 8) : Calls Try.prog 26 #[.pointer (some ⟨g, 0, none⟩)] w fun e w' => e = .returned (.tuple #[]) ∧ Blk w' g (anewH h).cs 52 ∧ w.grownBy w' (some g) := by
  have GB := gb_refl w g
  obtain ⟨cK0_0, cK0_1, cK0_2, cK0_3, cK0_4, cK0_5, cK0_6, fK0, lK0, nK0, mK0⟩ := Blk.all7 K0
  by_cases tx : h.tr < 8
  · have er : (anewH h).cs = #[.int .i64 (1), .string (h.im), .int .i64 (0), .bool (false), .int .i64 (h.tr + 1), .string (⟨#[]⟩), .int .i64 (h.rp)] := by simp [HS.cs, anewH, tx]
    rw [er]
    go_enter Try.func26, Try.ntmps26
    go_wp2_with (first | (go_at_call 48; with_reducible refine (wrong1_c _ _ _ _ _ _ _ _ tr0 tx _ (by repeat (with_reducible first | exact K0 | apply Blk.alloc | apply Blk.drew | apply Blk.set7_0 | apply Blk.set7_1 | apply Blk.set7_2 | apply Blk.set7_3 | apply Blk.set7_4 | apply Blk.set7_5 | apply Blk.set7_6 | (apply Blk.off; (first | assumption | omega | (simp; omega))) | fail))).mono ?_; rintro e w' ⟨rfl, hk, hg⟩; have GB := gb_step (w := w) (by repeat (with_reducible first | exact GB | exact gb_refl _ _ | apply gb_set | apply gb_alloc | apply gb_drew | fail)) hg; have K0 := hk; (try clear cK0_0 cK0_1 cK0_2 cK0_3 cK0_4 cK0_5 cK0_6 fK0 lK0 nK0 mK0); obtain ⟨cK0_0, cK0_1, cK0_2, cK0_3, cK0_4, cK0_5, cK0_6, fK0, lK0, nK0, mK0⟩ := Blk.all7 K0) | (go_at_call 44; with_reducible refine (to_c _ _ _ _ _ _ _ _ _ _ (by repeat (with_reducible first | exact K0 | apply Blk.alloc | apply Blk.drew | apply Blk.set7_0 | apply Blk.set7_1 | apply Blk.set7_2 | apply Blk.set7_3 | apply Blk.set7_4 | apply Blk.set7_5 | apply Blk.set7_6 | (apply Blk.off; (first | assumption | omega | (simp; omega))) | fail))).mono ?_; rintro e w' ⟨rfl, hk, hg⟩; have GB := gb_step (w := w) (by repeat (with_reducible first | exact GB | exact gb_refl _ _ | apply gb_set | apply gb_alloc | apply gb_drew | fail)) hg; have K0 := hk; (try clear cK0_0 cK0_1 cK0_2 cK0_3 cK0_4 cK0_5 cK0_6 fK0 lK0 nK0 mK0); obtain ⟨cK0_0, cK0_1, cK0_2, cK0_3, cK0_4, cK0_5, cK0_6, fK0, lK0, nK0, mK0⟩ := Blk.all7 K0) | fail)
    go_end0
    exact ⟨rfl, ⟨(by repeat (with_reducible first | exact K0 | apply Blk.alloc | apply Blk.drew | apply Blk.set7_0 | apply Blk.set7_1 | apply Blk.set7_2 | apply Blk.set7_3 | apply Blk.set7_4 | apply Blk.set7_5 | apply Blk.set7_6 | (apply Blk.off; (first | assumption | omega | (simp; omega))) | fail)), (by repeat (with_reducible first | exact GB | exact gb_refl _ _ | apply gb_set | apply gb_alloc | apply gb_drew | fail))⟩⟩
  · have tx : 8 ≤ h.tr := by omega
    have ty : ¬ h.tr < 8 := by omega
    have er : (anewH h).cs = #[.int .i64 (7), .string (h.im), .int .i64 (0), .bool (false), .int .i64 (8), .string (⟨#[]⟩), .int .i64 (2)] := by simp [HS.cs, anewH, ty]
    rw [er]
    go_enter Try.func26, Try.ntmps26
    go_wp2_with (first | (go_at_call 48; with_reducible refine (wrong2_c _ _ _ _ _ _ _ _ tx tr1 _ (by repeat (with_reducible first | exact K0 | apply Blk.alloc | apply Blk.drew | apply Blk.set7_0 | apply Blk.set7_1 | apply Blk.set7_2 | apply Blk.set7_3 | apply Blk.set7_4 | apply Blk.set7_5 | apply Blk.set7_6 | (apply Blk.off; (first | assumption | omega | (simp; omega))) | fail))).mono ?_; rintro e w' ⟨rfl, hk, hg⟩; have GB := gb_step (w := w) (by repeat (with_reducible first | exact GB | exact gb_refl _ _ | apply gb_set | apply gb_alloc | apply gb_drew | fail)) hg; have K0 := hk; (try clear cK0_0 cK0_1 cK0_2 cK0_3 cK0_4 cK0_5 cK0_6 fK0 lK0 nK0 mK0); obtain ⟨cK0_0, cK0_1, cK0_2, cK0_3, cK0_4, cK0_5, cK0_6, fK0, lK0, nK0, mK0⟩ := Blk.all7 K0) | fail)
    go_end0
    exact ⟨rfl, ⟨(by repeat (with_reducible first | exact K0 | apply Blk.alloc | apply Blk.drew | apply Blk.set7_0 | apply Blk.set7_1 | apply Blk.set7_2 | apply Blk.set7_3 | apply Blk.set7_4 | apply Blk.set7_5 | apply Blk.set7_6 | (apply Blk.off; (first | assumption | omega | (simp; omega))) | fail)), (by repeat (with_reducible first | exact GB | exact gb_refl _ _ | apply gb_set | apply gb_alloc | apply gb_drew | fail))⟩⟩
set_option maxHeartbeats 6400000 in
theorem lost_c (g : Nat) (h : HS) (w : World) (K0 : Blk w g #[.int .i64 h.ph, .string h.im, .int .i64 h.bl, .bool h.ag, .int .i64 h.tr, .string h.rd, .int .i64 h.rp] 52) (ok : h.Ok) : Calls Try.prog 25 #[.pointer (some ⟨g, 0, none⟩)] w fun e w' => e = .returned (.tuple #[]) ∧ Blk w' g (lostH h).cs 52 ∧ w.grownBy w' (some g) := by
  obtain ⟨ph0, ph1, im0, im1, bl0, bl1, tr0, tr1, rd1, rp0, rp1⟩ := ok
  have GB := gb_refl w g
  obtain ⟨cK0_0, cK0_1, cK0_2, cK0_3, cK0_4, cK0_5, cK0_6, fK0, lK0, nK0, mK0⟩ := Blk.all7 K0
  by_cases tx : h.tr < 8
  · rcases (by omega : h.ph = 1 ∨ h.ph = 2 ∨ h.ph = 3 ∨ h.ph = 4 ∨ h.ph = 5 ∨ h.ph = 6) with hp | hp | hp | hp | hp | hp
    · rw [hp] at K0 cK0_0
      have HP := Lib.hid hp
      have er : (lostH h).cs = #[.int .i64 (1), .string (h.im), .int .i64 (0), .bool (false), .int .i64 (h.tr + 1), .string (⟨#[]⟩), .int .i64 (h.rp)] := by simp [HS.cs, lostH, tx, hp]
      rw [er]
      clear hp ph0 ph1
      go_enter Try.func25, Try.ntmps25
      go_wp2_with (first | (go_at_call 48; with_reducible refine (wrong1_c _ _ _ _ _ _ _ _ tr0 tx _ (by repeat (with_reducible first | exact K0 | apply Blk.alloc | apply Blk.drew | apply Blk.set7_0 | apply Blk.set7_1 | apply Blk.set7_2 | apply Blk.set7_3 | apply Blk.set7_4 | apply Blk.set7_5 | apply Blk.set7_6 | (apply Blk.off; (first | assumption | omega | (simp; omega))) | fail))).mono ?_; rintro e w' ⟨rfl, hk, hg⟩; have GB := gb_step (w := w) (by repeat (with_reducible first | exact GB | exact gb_refl _ _ | apply gb_set | apply gb_alloc | apply gb_drew | fail)) hg; have K0 := hk; (try clear cK0_0 cK0_1 cK0_2 cK0_3 cK0_4 cK0_5 cK0_6 fK0 lK0 nK0 mK0); obtain ⟨cK0_0, cK0_1, cK0_2, cK0_3, cK0_4, cK0_5, cK0_6, fK0, lK0, nK0, mK0⟩ := Blk.all7 K0) | (go_at_call 44; with_reducible refine (to_c _ _ _ _ _ _ _ _ _ _ (by repeat (with_reducible first | exact K0 | apply Blk.alloc | apply Blk.drew | apply Blk.set7_0 | apply Blk.set7_1 | apply Blk.set7_2 | apply Blk.set7_3 | apply Blk.set7_4 | apply Blk.set7_5 | apply Blk.set7_6 | (apply Blk.off; (first | assumption | omega | (simp; omega))) | fail))).mono ?_; rintro e w' ⟨rfl, hk, hg⟩; have GB := gb_step (w := w) (by repeat (with_reducible first | exact GB | exact gb_refl _ _ | apply gb_set | apply gb_alloc | apply gb_drew | fail)) hg; have K0 := hk; (try clear cK0_0 cK0_1 cK0_2 cK0_3 cK0_4 cK0_5 cK0_6 fK0 lK0 nK0 mK0); obtain ⟨cK0_0, cK0_1, cK0_2, cK0_3, cK0_4, cK0_5, cK0_6, fK0, lK0, nK0, mK0⟩ := Blk.all7 K0) | fail)
      go_end0
      exact ⟨rfl, ⟨(by repeat (with_reducible first | exact K0 | apply Blk.alloc | apply Blk.drew | apply Blk.set7_0 | apply Blk.set7_1 | apply Blk.set7_2 | apply Blk.set7_3 | apply Blk.set7_4 | apply Blk.set7_5 | apply Blk.set7_6 | (apply Blk.off; (first | assumption | omega | (simp; omega))) | fail)), (by repeat (with_reducible first | exact GB | exact gb_refl _ _ | apply gb_set | apply gb_alloc | apply gb_drew | fail))⟩⟩
    · rw [hp] at K0 cK0_0
      have HP := Lib.hid hp
      have er : (lostH h).cs = #[.int .i64 (3), .string (h.im), .int .i64 (h.bl), .bool (true), .int .i64 (h.tr + 1), .string (h.rd), .int .i64 (h.rp)] := by simp [HS.cs, lostH, tx, hp]
      rw [er]
      clear hp ph0 ph1
      go_enter Try.func25, Try.ntmps25
      go_wp2_with (first | (go_at_call 48; with_reducible refine (wrong1_c _ _ _ _ _ _ _ _ tr0 tx _ (by repeat (with_reducible first | exact K0 | apply Blk.alloc | apply Blk.drew | apply Blk.set7_0 | apply Blk.set7_1 | apply Blk.set7_2 | apply Blk.set7_3 | apply Blk.set7_4 | apply Blk.set7_5 | apply Blk.set7_6 | (apply Blk.off; (first | assumption | omega | (simp; omega))) | fail))).mono ?_; rintro e w' ⟨rfl, hk, hg⟩; have GB := gb_step (w := w) (by repeat (with_reducible first | exact GB | exact gb_refl _ _ | apply gb_set | apply gb_alloc | apply gb_drew | fail)) hg; have K0 := hk; (try clear cK0_0 cK0_1 cK0_2 cK0_3 cK0_4 cK0_5 cK0_6 fK0 lK0 nK0 mK0); obtain ⟨cK0_0, cK0_1, cK0_2, cK0_3, cK0_4, cK0_5, cK0_6, fK0, lK0, nK0, mK0⟩ := Blk.all7 K0) | (go_at_call 44; with_reducible refine (to_c _ _ _ _ _ _ _ _ _ _ (by repeat (with_reducible first | exact K0 | apply Blk.alloc | apply Blk.drew | apply Blk.set7_0 | apply Blk.set7_1 | apply Blk.set7_2 | apply Blk.set7_3 | apply Blk.set7_4 | apply Blk.set7_5 | apply Blk.set7_6 | (apply Blk.off; (first | assumption | omega | (simp; omega))) | fail))).mono ?_; rintro e w' ⟨rfl, hk, hg⟩; have GB := gb_step (w := w) (by repeat (with_reducible first | exact GB | exact gb_refl _ _ | apply gb_set | apply gb_alloc | apply gb_drew | fail)) hg; have K0 := hk; (try clear cK0_0 cK0_1 cK0_2 cK0_3 cK0_4 cK0_5 cK0_6 fK0 lK0 nK0 mK0); obtain ⟨cK0_0, cK0_1, cK0_2, cK0_3, cK0_4, cK0_5, cK0_6, fK0, lK0, nK0, mK0⟩ := Blk.all7 K0) | fail)
      go_end0
      exact ⟨rfl, ⟨(by repeat (with_reducible first | exact K0 | apply Blk.alloc | apply Blk.drew | apply Blk.set7_0 | apply Blk.set7_1 | apply Blk.set7_2 | apply Blk.set7_3 | apply Blk.set7_4 | apply Blk.set7_5 | apply Blk.set7_6 | (apply Blk.off; (first | assumption | omega | (simp; omega))) | fail)), (by repeat (with_reducible first | exact GB | exact gb_refl _ _ | apply gb_set | apply gb_alloc | apply gb_drew | fail))⟩⟩
    · rw [hp] at K0 cK0_0
      have HP := Lib.hid hp
      have er : (lostH h).cs = #[.int .i64 (3), .string (h.im), .int .i64 (h.bl), .bool (h.ag), .int .i64 (h.tr + 1), .string (h.rd), .int .i64 (h.rp)] := by simp [HS.cs, lostH, tx, hp]
      rw [er]
      clear hp ph0 ph1
      go_enter Try.func25, Try.ntmps25
      go_wp2_with (first | (go_at_call 48; with_reducible refine (wrong1_c _ _ _ _ _ _ _ _ tr0 tx _ (by repeat (with_reducible first | exact K0 | apply Blk.alloc | apply Blk.drew | apply Blk.set7_0 | apply Blk.set7_1 | apply Blk.set7_2 | apply Blk.set7_3 | apply Blk.set7_4 | apply Blk.set7_5 | apply Blk.set7_6 | (apply Blk.off; (first | assumption | omega | (simp; omega))) | fail))).mono ?_; rintro e w' ⟨rfl, hk, hg⟩; have GB := gb_step (w := w) (by repeat (with_reducible first | exact GB | exact gb_refl _ _ | apply gb_set | apply gb_alloc | apply gb_drew | fail)) hg; have K0 := hk; (try clear cK0_0 cK0_1 cK0_2 cK0_3 cK0_4 cK0_5 cK0_6 fK0 lK0 nK0 mK0); obtain ⟨cK0_0, cK0_1, cK0_2, cK0_3, cK0_4, cK0_5, cK0_6, fK0, lK0, nK0, mK0⟩ := Blk.all7 K0) | (go_at_call 44; with_reducible refine (to_c _ _ _ _ _ _ _ _ _ _ (by repeat (with_reducible first | exact K0 | apply Blk.alloc | apply Blk.drew | apply Blk.set7_0 | apply Blk.set7_1 | apply Blk.set7_2 | apply Blk.set7_3 | apply Blk.set7_4 | apply Blk.set7_5 | apply Blk.set7_6 | (apply Blk.off; (first | assumption | omega | (simp; omega))) | fail))).mono ?_; rintro e w' ⟨rfl, hk, hg⟩; have GB := gb_step (w := w) (by repeat (with_reducible first | exact GB | exact gb_refl _ _ | apply gb_set | apply gb_alloc | apply gb_drew | fail)) hg; have K0 := hk; (try clear cK0_0 cK0_1 cK0_2 cK0_3 cK0_4 cK0_5 cK0_6 fK0 lK0 nK0 mK0); obtain ⟨cK0_0, cK0_1, cK0_2, cK0_3, cK0_4, cK0_5, cK0_6, fK0, lK0, nK0, mK0⟩ := Blk.all7 K0) | fail)
      go_end0
      exact ⟨rfl, ⟨(by repeat (with_reducible first | exact K0 | apply Blk.alloc | apply Blk.drew | apply Blk.set7_0 | apply Blk.set7_1 | apply Blk.set7_2 | apply Blk.set7_3 | apply Blk.set7_4 | apply Blk.set7_5 | apply Blk.set7_6 | (apply Blk.off; (first | assumption | omega | (simp; omega))) | fail)), (by repeat (with_reducible first | exact GB | exact gb_refl _ _ | apply gb_set | apply gb_alloc | apply gb_drew | fail))⟩⟩
    · rw [hp] at K0 cK0_0
      have HP := Lib.hid hp
      have er : (lostH h).cs = #[.int .i64 (5), .string (h.im), .int .i64 (h.bl), .bool (true), .int .i64 (h.tr + 1), .string (h.rd), .int .i64 (h.rp)] := by simp [HS.cs, lostH, tx, hp]
      rw [er]
      clear hp ph0 ph1
      go_enter Try.func25, Try.ntmps25
      go_wp2_with (first | (go_at_call 48; with_reducible refine (wrong1_c _ _ _ _ _ _ _ _ tr0 tx _ (by repeat (with_reducible first | exact K0 | apply Blk.alloc | apply Blk.drew | apply Blk.set7_0 | apply Blk.set7_1 | apply Blk.set7_2 | apply Blk.set7_3 | apply Blk.set7_4 | apply Blk.set7_5 | apply Blk.set7_6 | (apply Blk.off; (first | assumption | omega | (simp; omega))) | fail))).mono ?_; rintro e w' ⟨rfl, hk, hg⟩; have GB := gb_step (w := w) (by repeat (with_reducible first | exact GB | exact gb_refl _ _ | apply gb_set | apply gb_alloc | apply gb_drew | fail)) hg; have K0 := hk; (try clear cK0_0 cK0_1 cK0_2 cK0_3 cK0_4 cK0_5 cK0_6 fK0 lK0 nK0 mK0); obtain ⟨cK0_0, cK0_1, cK0_2, cK0_3, cK0_4, cK0_5, cK0_6, fK0, lK0, nK0, mK0⟩ := Blk.all7 K0) | (go_at_call 44; with_reducible refine (to_c _ _ _ _ _ _ _ _ _ _ (by repeat (with_reducible first | exact K0 | apply Blk.alloc | apply Blk.drew | apply Blk.set7_0 | apply Blk.set7_1 | apply Blk.set7_2 | apply Blk.set7_3 | apply Blk.set7_4 | apply Blk.set7_5 | apply Blk.set7_6 | (apply Blk.off; (first | assumption | omega | (simp; omega))) | fail))).mono ?_; rintro e w' ⟨rfl, hk, hg⟩; have GB := gb_step (w := w) (by repeat (with_reducible first | exact GB | exact gb_refl _ _ | apply gb_set | apply gb_alloc | apply gb_drew | fail)) hg; have K0 := hk; (try clear cK0_0 cK0_1 cK0_2 cK0_3 cK0_4 cK0_5 cK0_6 fK0 lK0 nK0 mK0); obtain ⟨cK0_0, cK0_1, cK0_2, cK0_3, cK0_4, cK0_5, cK0_6, fK0, lK0, nK0, mK0⟩ := Blk.all7 K0) | fail)
      go_end0
      exact ⟨rfl, ⟨(by repeat (with_reducible first | exact K0 | apply Blk.alloc | apply Blk.drew | apply Blk.set7_0 | apply Blk.set7_1 | apply Blk.set7_2 | apply Blk.set7_3 | apply Blk.set7_4 | apply Blk.set7_5 | apply Blk.set7_6 | (apply Blk.off; (first | assumption | omega | (simp; omega))) | fail)), (by repeat (with_reducible first | exact GB | exact gb_refl _ _ | apply gb_set | apply gb_alloc | apply gb_drew | fail))⟩⟩
    · rw [hp] at K0 cK0_0
      have HP := Lib.hid hp
      have er : (lostH h).cs = #[.int .i64 (5), .string (h.im), .int .i64 (h.bl), .bool (h.ag), .int .i64 (h.tr + 1), .string (h.rd), .int .i64 (h.rp)] := by simp [HS.cs, lostH, tx, hp]
      rw [er]
      clear hp ph0 ph1
      go_enter Try.func25, Try.ntmps25
      go_wp2_with (first | (go_at_call 48; with_reducible refine (wrong1_c _ _ _ _ _ _ _ _ tr0 tx _ (by repeat (with_reducible first | exact K0 | apply Blk.alloc | apply Blk.drew | apply Blk.set7_0 | apply Blk.set7_1 | apply Blk.set7_2 | apply Blk.set7_3 | apply Blk.set7_4 | apply Blk.set7_5 | apply Blk.set7_6 | (apply Blk.off; (first | assumption | omega | (simp; omega))) | fail))).mono ?_; rintro e w' ⟨rfl, hk, hg⟩; have GB := gb_step (w := w) (by repeat (with_reducible first | exact GB | exact gb_refl _ _ | apply gb_set | apply gb_alloc | apply gb_drew | fail)) hg; have K0 := hk; (try clear cK0_0 cK0_1 cK0_2 cK0_3 cK0_4 cK0_5 cK0_6 fK0 lK0 nK0 mK0); obtain ⟨cK0_0, cK0_1, cK0_2, cK0_3, cK0_4, cK0_5, cK0_6, fK0, lK0, nK0, mK0⟩ := Blk.all7 K0) | (go_at_call 44; with_reducible refine (to_c _ _ _ _ _ _ _ _ _ _ (by repeat (with_reducible first | exact K0 | apply Blk.alloc | apply Blk.drew | apply Blk.set7_0 | apply Blk.set7_1 | apply Blk.set7_2 | apply Blk.set7_3 | apply Blk.set7_4 | apply Blk.set7_5 | apply Blk.set7_6 | (apply Blk.off; (first | assumption | omega | (simp; omega))) | fail))).mono ?_; rintro e w' ⟨rfl, hk, hg⟩; have GB := gb_step (w := w) (by repeat (with_reducible first | exact GB | exact gb_refl _ _ | apply gb_set | apply gb_alloc | apply gb_drew | fail)) hg; have K0 := hk; (try clear cK0_0 cK0_1 cK0_2 cK0_3 cK0_4 cK0_5 cK0_6 fK0 lK0 nK0 mK0); obtain ⟨cK0_0, cK0_1, cK0_2, cK0_3, cK0_4, cK0_5, cK0_6, fK0, lK0, nK0, mK0⟩ := Blk.all7 K0) | fail)
      go_end0
      exact ⟨rfl, ⟨(by repeat (with_reducible first | exact K0 | apply Blk.alloc | apply Blk.drew | apply Blk.set7_0 | apply Blk.set7_1 | apply Blk.set7_2 | apply Blk.set7_3 | apply Blk.set7_4 | apply Blk.set7_5 | apply Blk.set7_6 | (apply Blk.off; (first | assumption | omega | (simp; omega))) | fail)), (by repeat (with_reducible first | exact GB | exact gb_refl _ _ | apply gb_set | apply gb_alloc | apply gb_drew | fail))⟩⟩
    · rw [hp] at K0 cK0_0
      have HP := Lib.hid hp
      have er : (lostH h).cs = #[.int .i64 (1), .string (h.im), .int .i64 (1), .bool (true), .int .i64 (h.tr + 1), .string (⟨#[33]⟩), .int .i64 (h.rp)] := by simp [HS.cs, lostH, tx, hp]
      rw [er]
      clear hp ph0 ph1
      go_enter Try.func25, Try.ntmps25
      go_wp2_with (first | (go_at_call 48; with_reducible refine (wrong1_c _ _ _ _ _ _ _ _ tr0 tx _ (by repeat (with_reducible first | exact K0 | apply Blk.alloc | apply Blk.drew | apply Blk.set7_0 | apply Blk.set7_1 | apply Blk.set7_2 | apply Blk.set7_3 | apply Blk.set7_4 | apply Blk.set7_5 | apply Blk.set7_6 | (apply Blk.off; (first | assumption | omega | (simp; omega))) | fail))).mono ?_; rintro e w' ⟨rfl, hk, hg⟩; have GB := gb_step (w := w) (by repeat (with_reducible first | exact GB | exact gb_refl _ _ | apply gb_set | apply gb_alloc | apply gb_drew | fail)) hg; have K0 := hk; (try clear cK0_0 cK0_1 cK0_2 cK0_3 cK0_4 cK0_5 cK0_6 fK0 lK0 nK0 mK0); obtain ⟨cK0_0, cK0_1, cK0_2, cK0_3, cK0_4, cK0_5, cK0_6, fK0, lK0, nK0, mK0⟩ := Blk.all7 K0) | (go_at_call 44; with_reducible refine (to_c _ _ _ _ _ _ _ _ _ _ (by repeat (with_reducible first | exact K0 | apply Blk.alloc | apply Blk.drew | apply Blk.set7_0 | apply Blk.set7_1 | apply Blk.set7_2 | apply Blk.set7_3 | apply Blk.set7_4 | apply Blk.set7_5 | apply Blk.set7_6 | (apply Blk.off; (first | assumption | omega | (simp; omega))) | fail))).mono ?_; rintro e w' ⟨rfl, hk, hg⟩; have GB := gb_step (w := w) (by repeat (with_reducible first | exact GB | exact gb_refl _ _ | apply gb_set | apply gb_alloc | apply gb_drew | fail)) hg; have K0 := hk; (try clear cK0_0 cK0_1 cK0_2 cK0_3 cK0_4 cK0_5 cK0_6 fK0 lK0 nK0 mK0); obtain ⟨cK0_0, cK0_1, cK0_2, cK0_3, cK0_4, cK0_5, cK0_6, fK0, lK0, nK0, mK0⟩ := Blk.all7 K0) | fail)
      go_end0
      exact ⟨rfl, ⟨(by repeat (with_reducible first | exact K0 | apply Blk.alloc | apply Blk.drew | apply Blk.set7_0 | apply Blk.set7_1 | apply Blk.set7_2 | apply Blk.set7_3 | apply Blk.set7_4 | apply Blk.set7_5 | apply Blk.set7_6 | (apply Blk.off; (first | assumption | omega | (simp; omega))) | fail)), (by repeat (with_reducible first | exact GB | exact gb_refl _ _ | apply gb_set | apply gb_alloc | apply gb_drew | fail))⟩⟩
  · have tx : 8 ≤ h.tr := by omega
    have ty : ¬ h.tr < 8 := by omega
    have er : (lostH h).cs = #[.int .i64 (7), .string (h.im), .int .i64 (0), .bool (false), .int .i64 (8), .string (⟨#[]⟩), .int .i64 (2)] := by simp [HS.cs, lostH, ty]
    rw [er]
    go_enter Try.func25, Try.ntmps25
    go_wp2_with (first | (go_at_call 48; with_reducible refine (wrong2_c _ _ _ _ _ _ _ _ tx tr1 _ (by repeat (with_reducible first | exact K0 | apply Blk.alloc | apply Blk.drew | apply Blk.set7_0 | apply Blk.set7_1 | apply Blk.set7_2 | apply Blk.set7_3 | apply Blk.set7_4 | apply Blk.set7_5 | apply Blk.set7_6 | (apply Blk.off; (first | assumption | omega | (simp; omega))) | fail))).mono ?_; rintro e w' ⟨rfl, hk, hg⟩; have GB := gb_step (w := w) (by repeat (with_reducible first | exact GB | exact gb_refl _ _ | apply gb_set | apply gb_alloc | apply gb_drew | fail)) hg; have K0 := hk; (try clear cK0_0 cK0_1 cK0_2 cK0_3 cK0_4 cK0_5 cK0_6 fK0 lK0 nK0 mK0); obtain ⟨cK0_0, cK0_1, cK0_2, cK0_3, cK0_4, cK0_5, cK0_6, fK0, lK0, nK0, mK0⟩ := Blk.all7 K0) | fail)
    (try simp only [Exit.inBlock, Exit.then]); refine bodyPost_ret (results_none rfl _ _ _) rfl ?_
    exact ⟨rfl, ⟨(by repeat (with_reducible first | exact K0 | apply Blk.alloc | apply Blk.drew | apply Blk.set7_0 | apply Blk.set7_1 | apply Blk.set7_2 | apply Blk.set7_3 | apply Blk.set7_4 | apply Blk.set7_5 | apply Blk.set7_6 | (apply Blk.off; (first | assumption | omega | (simp; omega))) | fail)), (by repeat (with_reducible first | exact GB | exact gb_refl _ _ | apply gb_set | apply gb_alloc | apply gb_drew | fail))⟩⟩
set_option maxHeartbeats 1600000 in
theorem send_c (g : Nat) (ph : Int) (im : ByteArray) (bl : Int) (ag : Bool) (tr : Int) (rd : ByteArray) (rp : Int) (s : ByteArray) (w : World) (K0 : Blk w g #[.int .i64 ph, .string im, .int .i64 bl, .bool ag, .int .i64 tr, .string rd, .int .i64 rp] 52) : Calls Try.prog 20 #[.pointer (some ⟨g, 0, none⟩), .string s] w fun e w' => e = .returned (.tuple #[]) ∧ Blk w' g #[.int .i64 (3), .string (im), .int .i64 (bl), .bool (false), .int .i64 (tr), .string (rd), .int .i64 (rp)] 52 ∧ w.grownBy w' (some g) := by
  have GB := gb_refl w g
  obtain ⟨cK0_0, cK0_1, cK0_2, cK0_3, cK0_4, cK0_5, cK0_6, fK0, lK0, nK0, mK0⟩ := Blk.all7 K0
  go_enter Try.func20, Try.ntmps20
  go_wp2
  go_end0
  exact ⟨rfl, ⟨(by repeat (with_reducible first | exact K0 | apply Blk.alloc | apply Blk.drew | apply Blk.set7_0 | apply Blk.set7_1 | apply Blk.set7_2 | apply Blk.set7_3 | apply Blk.set7_4 | apply Blk.set7_5 | apply Blk.set7_6 | (apply Blk.off; (first | assumption | omega | (simp; omega))) | fail)), (by repeat (with_reducible first | exact GB | exact gb_refl _ _ | apply gb_set | apply gb_alloc | apply gb_drew | fail))⟩⟩
set_option maxHeartbeats 1600000 in
theorem end_c (g : Nat) (ph : Int) (im : ByteArray) (bl : Int) (ag : Bool) (tr : Int) (rd : ByteArray) (rp : Int) (s : ByteArray) (w : World) (K0 : Blk w g #[.int .i64 ph, .string im, .int .i64 bl, .bool ag, .int .i64 tr, .string rd, .int .i64 rp] 52) : Calls Try.prog 22 #[.pointer (some ⟨g, 0, none⟩), .string s] w fun e w' => e = .returned (.tuple #[]) ∧ Blk w' g #[.int .i64 (5), .string (im), .int .i64 (bl), .bool (false), .int .i64 (tr), .string (rd), .int .i64 (rp)] 52 ∧ w.grownBy w' (some g) := by
  have GB := gb_refl w g
  obtain ⟨cK0_0, cK0_1, cK0_2, cK0_3, cK0_4, cK0_5, cK0_6, fK0, lK0, nK0, mK0⟩ := Blk.all7 K0
  go_enter Try.func22, Try.ntmps22
  go_wp2
  go_end0
  exact ⟨rfl, ⟨(by repeat (with_reducible first | exact K0 | apply Blk.alloc | apply Blk.drew | apply Blk.set7_0 | apply Blk.set7_1 | apply Blk.set7_2 | apply Blk.set7_3 | apply Blk.set7_4 | apply Blk.set7_5 | apply Blk.set7_6 | (apply Blk.off; (first | assumption | omega | (simp; omega))) | fail)), (by repeat (with_reducible first | exact GB | exact gb_refl _ _ | apply gb_set | apply gb_alloc | apply gb_drew | fail))⟩⟩
set_option maxHeartbeats 6400000 in
theorem clear_c (g : Nat) (h : HS) (s : ByteArray) (w : World) (K0 : Blk w g #[.int .i64 h.ph, .string h.im, .int .i64 h.bl, .bool h.ag, .int .i64 h.tr, .string h.rd, .int .i64 h.rp] 52) (ok : h.Ok) (hp : h.ph = 1) : Calls Try.prog 19 #[.pointer (some ⟨g, 0, none⟩), .string s] w fun e w' => e = .returned (.tuple #[]) ∧ Blk w' g (clearedH h s).cs 52 ∧ w.grownBy w' (some g) := by
  obtain ⟨ph0, ph1, im0, im1, bl0, bl1, tr0, tr1, rd1, rp0, rp1⟩ := ok
  have GB := gb_refl w g
  obtain ⟨cK0_0, cK0_1, cK0_2, cK0_3, cK0_4, cK0_5, cK0_6, fK0, lK0, nK0, mK0⟩ := Blk.all7 K0
  obtain ⟨u1, u2, hv⟩ := gotV_form s
  have ga := Lib.hid (fun W : World => get_c s W)
  rw [hv] at ga
  cases hag : h.ag
  · rw [hag] at K0 cK0_3
    cases hg : gotB s
    · rw [hg] at ga
      simp only [cond_false] at ga
      have aa := Lib.hid (fun (W : World) (K : Blk W g #[.int .i64 h.ph, .string h.im, .int .i64 h.bl, .bool h.ag, .int .i64 h.tr, .string h.rd, .int .i64 h.rp] 52) => anew_c g h W K tr0 tr1)
      rw [hag] at aa
      have er : (clearedH h s).cs = (anewH h).cs := by simp [HS.cs, clearedH, hag, hg]
      rw [er]
      clear hag hg hp
      go_enter Try.func19, Try.ntmps19
      go_wp2_with (first | (go_at_call 45; with_reducible refine (ga.out _).mono ?_; rintro e w' ⟨rfl, hb⟩; have GB := gb_bel (w := w) (by repeat (with_reducible first | exact GB | exact gb_refl _ _ | apply gb_set | apply gb_alloc | apply gb_drew | fail)) hb; have K0 := Blk.on (by first | exact K0 | exact K0 #[] | exact K0 (.cells #[] 0) #[]) (by repeat (with_reducible first | exact K0 | exact K0 _ | exact K0 _ _ | apply Blk.alloc | apply Blk.drew | apply Blk.set7_0 | apply Blk.set7_1 | apply Blk.set7_2 | apply Blk.set7_3 | apply Blk.set7_4 | apply Blk.set7_5 | apply Blk.set7_6 | (apply Blk.off; (first | assumption | omega | (simp; omega))) | fail)) hb; (try clear cK0_0 cK0_1 cK0_2 cK0_3 cK0_4 cK0_5 cK0_6 fK0 lK0 nK0 mK0); obtain ⟨cK0_0, cK0_1, cK0_2, cK0_3, cK0_4, cK0_5, cK0_6, fK0, lK0, nK0, mK0⟩ := Blk.all7 K0; have K1 := fun cs => Blk.new w' cs 43) | (go_at_call 26; with_reducible refine (aa.out _ (by repeat (with_reducible first | exact K0 | apply Blk.alloc | apply Blk.drew | apply Blk.set7_0 | apply Blk.set7_1 | apply Blk.set7_2 | apply Blk.set7_3 | apply Blk.set7_4 | apply Blk.set7_5 | apply Blk.set7_6 | (apply Blk.off; (first | assumption | omega | (simp; omega))) | fail))).mono ?_; rintro e w' ⟨rfl, hk, hg⟩; have GB := gb_step (w := w) (by repeat (with_reducible first | exact GB | exact gb_refl _ _ | apply gb_set | apply gb_alloc | apply gb_drew | fail)) hg; have K0 := hk; (try clear cK0_0 cK0_1 cK0_2 cK0_3 cK0_4 cK0_5 cK0_6 fK0 lK0 nK0 mK0); obtain ⟨cK0_0, cK0_1, cK0_2, cK0_3, cK0_4, cK0_5, cK0_6, fK0, lK0, nK0, mK0⟩ := Blk.all7 K0) | fail)
      (try simp only [Exit.inBlock, Exit.then]); refine bodyPost_ret (results_none rfl _ _ _) rfl ?_
      exact ⟨rfl, ⟨(by repeat (with_reducible first | exact K0 | apply Blk.alloc | apply Blk.drew | apply Blk.set7_0 | apply Blk.set7_1 | apply Blk.set7_2 | apply Blk.set7_3 | apply Blk.set7_4 | apply Blk.set7_5 | apply Blk.set7_6 | (apply Blk.off; (first | assumption | omega | (simp; omega))) | fail)), (by repeat (with_reducible first | exact GB | exact gb_refl _ _ | apply gb_set | apply gb_alloc | apply gb_drew | fail))⟩⟩
    · rw [hg] at ga
      simp only [cond_true] at ga
      rcases (by omega : ansS s = 0 ∨ ansS s = 7 ∨ ansS s = 3 ∨ ansS s = 6 ∨ (ansS s ≠ 0 ∧ ansS s ≠ 7 ∧ ansS s ≠ 3 ∧ ansS s ≠ 6)) with hs | hs | hs | hs | ⟨n0, n7, n3, n6⟩
      · rw [hp] at K0 cK0_0
        have er : (clearedH h s).cs = #[.int .i64 (2), .string (h.im), .int .i64 (0), .bool (false), .int .i64 (h.tr), .string (h.rd), .int .i64 (h.rp)] := by simp [HS.cs, clearedH, hag, hg, hs]
        rw [er]
        rw [hs] at ga
        clear hs
        clear hag hg hp
        go_enter Try.func19, Try.ntmps19
        go_wp2_with (first | (go_at_call 45; with_reducible refine (ga.out _).mono ?_; rintro e w' ⟨rfl, hb⟩; have GB := gb_bel (w := w) (by repeat (with_reducible first | exact GB | exact gb_refl _ _ | apply gb_set | apply gb_alloc | apply gb_drew | fail)) hb; have K0 := Blk.on (by first | exact K0 | exact K0 #[] | exact K0 (.cells #[] 0) #[]) (by repeat (with_reducible first | exact K0 | exact K0 _ | exact K0 _ _ | apply Blk.alloc | apply Blk.drew | apply Blk.set7_0 | apply Blk.set7_1 | apply Blk.set7_2 | apply Blk.set7_3 | apply Blk.set7_4 | apply Blk.set7_5 | apply Blk.set7_6 | (apply Blk.off; (first | assumption | omega | (simp; omega))) | fail)) hb; (try clear cK0_0 cK0_1 cK0_2 cK0_3 cK0_4 cK0_5 cK0_6 fK0 lK0 nK0 mK0); obtain ⟨cK0_0, cK0_1, cK0_2, cK0_3, cK0_4, cK0_5, cK0_6, fK0, lK0, nK0, mK0⟩ := Blk.all7 K0; have K1 := fun cs => Blk.new w' cs 43) | fail)
        go_end0
        exact ⟨rfl, ⟨(by repeat (with_reducible first | exact K0 | apply Blk.alloc | apply Blk.drew | apply Blk.set7_0 | apply Blk.set7_1 | apply Blk.set7_2 | apply Blk.set7_3 | apply Blk.set7_4 | apply Blk.set7_5 | apply Blk.set7_6 | (apply Blk.off; (first | assumption | omega | (simp; omega))) | fail)), (by repeat (with_reducible first | exact GB | exact gb_refl _ _ | apply gb_set | apply gb_alloc | apply gb_drew | fail))⟩⟩
      · rw [hp] at K0 cK0_0
        have er : (clearedH h s).cs = #[.int .i64 (1), .string (h.im), .int .i64 (0), .bool (true), .int .i64 (h.tr), .string (h.rd), .int .i64 (h.rp)] := by simp [HS.cs, clearedH, hag, hg, hs]
        rw [er]
        rw [hs] at ga
        clear hs
        clear hag hg hp
        go_enter Try.func19, Try.ntmps19
        go_wp2_with (first | (go_at_call 45; with_reducible refine (ga.out _).mono ?_; rintro e w' ⟨rfl, hb⟩; have GB := gb_bel (w := w) (by repeat (with_reducible first | exact GB | exact gb_refl _ _ | apply gb_set | apply gb_alloc | apply gb_drew | fail)) hb; have K0 := Blk.on (by first | exact K0 | exact K0 #[] | exact K0 (.cells #[] 0) #[]) (by repeat (with_reducible first | exact K0 | exact K0 _ | exact K0 _ _ | apply Blk.alloc | apply Blk.drew | apply Blk.set7_0 | apply Blk.set7_1 | apply Blk.set7_2 | apply Blk.set7_3 | apply Blk.set7_4 | apply Blk.set7_5 | apply Blk.set7_6 | (apply Blk.off; (first | assumption | omega | (simp; omega))) | fail)) hb; (try clear cK0_0 cK0_1 cK0_2 cK0_3 cK0_4 cK0_5 cK0_6 fK0 lK0 nK0 mK0); obtain ⟨cK0_0, cK0_1, cK0_2, cK0_3, cK0_4, cK0_5, cK0_6, fK0, lK0, nK0, mK0⟩ := Blk.all7 K0; have K1 := fun cs => Blk.new w' cs 43) | fail)
        go_end0
        exact ⟨rfl, ⟨(by repeat (with_reducible first | exact K0 | apply Blk.alloc | apply Blk.drew | apply Blk.set7_0 | apply Blk.set7_1 | apply Blk.set7_2 | apply Blk.set7_3 | apply Blk.set7_4 | apply Blk.set7_5 | apply Blk.set7_6 | (apply Blk.off; (first | assumption | omega | (simp; omega))) | fail)), (by repeat (with_reducible first | exact GB | exact gb_refl _ _ | apply gb_set | apply gb_alloc | apply gb_drew | fail))⟩⟩
      · rw [hp] at K0 cK0_0
        have er : (clearedH h s).cs = #[.int .i64 (1), .string (h.im), .int .i64 (1), .bool (true), .int .i64 (h.tr), .string (h.rd), .int .i64 (h.rp)] := by simp [HS.cs, clearedH, hag, hg, hs]
        rw [er]
        rw [hs] at ga
        clear hs
        clear hag hg hp
        go_enter Try.func19, Try.ntmps19
        go_wp2_with (first | (go_at_call 45; with_reducible refine (ga.out _).mono ?_; rintro e w' ⟨rfl, hb⟩; have GB := gb_bel (w := w) (by repeat (with_reducible first | exact GB | exact gb_refl _ _ | apply gb_set | apply gb_alloc | apply gb_drew | fail)) hb; have K0 := Blk.on (by first | exact K0 | exact K0 #[] | exact K0 (.cells #[] 0) #[]) (by repeat (with_reducible first | exact K0 | exact K0 _ | exact K0 _ _ | apply Blk.alloc | apply Blk.drew | apply Blk.set7_0 | apply Blk.set7_1 | apply Blk.set7_2 | apply Blk.set7_3 | apply Blk.set7_4 | apply Blk.set7_5 | apply Blk.set7_6 | (apply Blk.off; (first | assumption | omega | (simp; omega))) | fail)) hb; (try clear cK0_0 cK0_1 cK0_2 cK0_3 cK0_4 cK0_5 cK0_6 fK0 lK0 nK0 mK0); obtain ⟨cK0_0, cK0_1, cK0_2, cK0_3, cK0_4, cK0_5, cK0_6, fK0, lK0, nK0, mK0⟩ := Blk.all7 K0; have K1 := fun cs => Blk.new w' cs 43) | fail)
        go_end0
        exact ⟨rfl, ⟨(by repeat (with_reducible first | exact K0 | apply Blk.alloc | apply Blk.drew | apply Blk.set7_0 | apply Blk.set7_1 | apply Blk.set7_2 | apply Blk.set7_3 | apply Blk.set7_4 | apply Blk.set7_5 | apply Blk.set7_6 | (apply Blk.off; (first | assumption | omega | (simp; omega))) | fail)), (by repeat (with_reducible first | exact GB | exact gb_refl _ _ | apply gb_set | apply gb_alloc | apply gb_drew | fail))⟩⟩
      · rw [hp] at K0 cK0_0
        have er : (clearedH h s).cs = #[.int .i64 (1), .string (h.im), .int .i64 (1), .bool (true), .int .i64 (h.tr), .string (h.rd), .int .i64 (h.rp)] := by simp [HS.cs, clearedH, hag, hg, hs]
        rw [er]
        rw [hs] at ga
        clear hs
        clear hag hg hp
        go_enter Try.func19, Try.ntmps19
        go_wp2_with (first | (go_at_call 45; with_reducible refine (ga.out _).mono ?_; rintro e w' ⟨rfl, hb⟩; have GB := gb_bel (w := w) (by repeat (with_reducible first | exact GB | exact gb_refl _ _ | apply gb_set | apply gb_alloc | apply gb_drew | fail)) hb; have K0 := Blk.on (by first | exact K0 | exact K0 #[] | exact K0 (.cells #[] 0) #[]) (by repeat (with_reducible first | exact K0 | exact K0 _ | exact K0 _ _ | apply Blk.alloc | apply Blk.drew | apply Blk.set7_0 | apply Blk.set7_1 | apply Blk.set7_2 | apply Blk.set7_3 | apply Blk.set7_4 | apply Blk.set7_5 | apply Blk.set7_6 | (apply Blk.off; (first | assumption | omega | (simp; omega))) | fail)) hb; (try clear cK0_0 cK0_1 cK0_2 cK0_3 cK0_4 cK0_5 cK0_6 fK0 lK0 nK0 mK0); obtain ⟨cK0_0, cK0_1, cK0_2, cK0_3, cK0_4, cK0_5, cK0_6, fK0, lK0, nK0, mK0⟩ := Blk.all7 K0; have K1 := fun cs => Blk.new w' cs 43) | fail)
        go_end0
        exact ⟨rfl, ⟨(by repeat (with_reducible first | exact K0 | apply Blk.alloc | apply Blk.drew | apply Blk.set7_0 | apply Blk.set7_1 | apply Blk.set7_2 | apply Blk.set7_3 | apply Blk.set7_4 | apply Blk.set7_5 | apply Blk.set7_6 | (apply Blk.off; (first | assumption | omega | (simp; omega))) | fail)), (by repeat (with_reducible first | exact GB | exact gb_refl _ _ | apply gb_set | apply gb_alloc | apply gb_drew | fail))⟩⟩
      · rw [hp] at K0 cK0_0
        have er : (clearedH h s).cs = #[.int .i64 (1), .string (h.im), .int .i64 (h.bl), .bool (false), .int .i64 (h.tr), .string (h.rd), .int .i64 (h.rp)] := by simp [HS.cs, clearedH, hag, hg, n0, n7, n3, n6, hp]
        rw [er]
        have s0 : (ansS s == 0) = false := beq_eq_false_iff_ne.2 (by omega)
        have s7 : (ansS s == 7) = false := beq_eq_false_iff_ne.2 (by omega)
        have s3 : (ansS s == 3) = false := beq_eq_false_iff_ne.2 (by omega)
        have s6 : (ansS s == 6) = false := beq_eq_false_iff_ne.2 (by omega)
        generalize ansS s = st at *
        clear hag hg hp
        go_enter Try.func19, Try.ntmps19
        go_wp2_with (first | (go_at_call 45; with_reducible refine (ga.out _).mono ?_; rintro e w' ⟨rfl, hb⟩; have GB := gb_bel (w := w) (by repeat (with_reducible first | exact GB | exact gb_refl _ _ | apply gb_set | apply gb_alloc | apply gb_drew | fail)) hb; have K0 := Blk.on (by first | exact K0 | exact K0 #[] | exact K0 (.cells #[] 0) #[]) (by repeat (with_reducible first | exact K0 | exact K0 _ | exact K0 _ _ | apply Blk.alloc | apply Blk.drew | apply Blk.set7_0 | apply Blk.set7_1 | apply Blk.set7_2 | apply Blk.set7_3 | apply Blk.set7_4 | apply Blk.set7_5 | apply Blk.set7_6 | (apply Blk.off; (first | assumption | omega | (simp; omega))) | fail)) hb; (try clear cK0_0 cK0_1 cK0_2 cK0_3 cK0_4 cK0_5 cK0_6 fK0 lK0 nK0 mK0); obtain ⟨cK0_0, cK0_1, cK0_2, cK0_3, cK0_4, cK0_5, cK0_6, fK0, lK0, nK0, mK0⟩ := Blk.all7 K0; have K1 := fun cs => Blk.new w' cs 43) | fail)
        go_end0
        exact ⟨rfl, ⟨(by repeat (with_reducible first | exact K0 | apply Blk.alloc | apply Blk.drew | apply Blk.set7_0 | apply Blk.set7_1 | apply Blk.set7_2 | apply Blk.set7_3 | apply Blk.set7_4 | apply Blk.set7_5 | apply Blk.set7_6 | (apply Blk.off; (first | assumption | omega | (simp; omega))) | fail)), (by repeat (with_reducible first | exact GB | exact gb_refl _ _ | apply gb_set | apply gb_alloc | apply gb_drew | fail))⟩⟩
  · rw [hag] at K0 cK0_3
    by_cases hr : h.rd = ⟨#[33]⟩
    · have e1 : (h.rd.toList == [33]) = true := rd_yes hr
      have er : (clearedH h s).cs = #[.int .i64 (5), .string (h.im), .int .i64 (0), .bool (false), .int .i64 (h.tr), .string (⟨#[]⟩), .int .i64 (h.rp)] := by simp [HS.cs, clearedH, hag, hr]
      rw [er]
      clear hr hag hp
      go_enter Try.func19, Try.ntmps19
      go_wp2_with (first | (go_at_call 44; with_reducible refine (to_c _ _ _ _ _ _ _ _ _ _ (by repeat (with_reducible first | exact K0 | apply Blk.alloc | apply Blk.drew | apply Blk.set7_0 | apply Blk.set7_1 | apply Blk.set7_2 | apply Blk.set7_3 | apply Blk.set7_4 | apply Blk.set7_5 | apply Blk.set7_6 | (apply Blk.off; (first | assumption | omega | (simp; omega))) | fail))).mono ?_; rintro e w' ⟨rfl, hk, hg⟩; have GB := gb_step (w := w) (by repeat (with_reducible first | exact GB | exact gb_refl _ _ | apply gb_set | apply gb_alloc | apply gb_drew | fail)) hg; have K0 := hk; (try clear cK0_0 cK0_1 cK0_2 cK0_3 cK0_4 cK0_5 cK0_6 fK0 lK0 nK0 mK0); obtain ⟨cK0_0, cK0_1, cK0_2, cK0_3, cK0_4, cK0_5, cK0_6, fK0, lK0, nK0, mK0⟩ := Blk.all7 K0) | fail)
      (try simp only [Exit.inBlock, Exit.then]); refine bodyPost_ret (results_none rfl _ _ _) rfl ?_
      exact ⟨rfl, ⟨(by repeat (with_reducible first | exact K0 | apply Blk.alloc | apply Blk.drew | apply Blk.set7_0 | apply Blk.set7_1 | apply Blk.set7_2 | apply Blk.set7_3 | apply Blk.set7_4 | apply Blk.set7_5 | apply Blk.set7_6 | (apply Blk.off; (first | assumption | omega | (simp; omega))) | fail)), (by repeat (with_reducible first | exact GB | exact gb_refl _ _ | apply gb_set | apply gb_alloc | apply gb_drew | fail))⟩⟩
    · have e1 : (h.rd.toList == [33]) = false := rd_no hr
      have er : (clearedH h s).cs = #[.int .i64 (1), .string (h.im), .int .i64 (0), .bool (false), .int .i64 (h.tr), .string (⟨#[]⟩), .int .i64 (h.rp)] := by simp [HS.cs, clearedH, hag, hr]
      rw [er]
      clear hr hag hp
      go_enter Try.func19, Try.ntmps19
      go_wp2_with (first | (go_at_call 44; with_reducible refine (to_c _ _ _ _ _ _ _ _ _ _ (by repeat (with_reducible first | exact K0 | apply Blk.alloc | apply Blk.drew | apply Blk.set7_0 | apply Blk.set7_1 | apply Blk.set7_2 | apply Blk.set7_3 | apply Blk.set7_4 | apply Blk.set7_5 | apply Blk.set7_6 | (apply Blk.off; (first | assumption | omega | (simp; omega))) | fail))).mono ?_; rintro e w' ⟨rfl, hk, hg⟩; have GB := gb_step (w := w) (by repeat (with_reducible first | exact GB | exact gb_refl _ _ | apply gb_set | apply gb_alloc | apply gb_drew | fail)) hg; have K0 := hk; (try clear cK0_0 cK0_1 cK0_2 cK0_3 cK0_4 cK0_5 cK0_6 fK0 lK0 nK0 mK0); obtain ⟨cK0_0, cK0_1, cK0_2, cK0_3, cK0_4, cK0_5, cK0_6, fK0, lK0, nK0, mK0⟩ := Blk.all7 K0) | fail)
      (try simp only [Exit.inBlock, Exit.then]); refine bodyPost_ret (results_none rfl _ _ _) rfl ?_
      exact ⟨rfl, ⟨(by repeat (with_reducible first | exact K0 | apply Blk.alloc | apply Blk.drew | apply Blk.set7_0 | apply Blk.set7_1 | apply Blk.set7_2 | apply Blk.set7_3 | apply Blk.set7_4 | apply Blk.set7_5 | apply Blk.set7_6 | (apply Blk.off; (first | assumption | omega | (simp; omega))) | fail)), (by repeat (with_reducible first | exact GB | exact gb_refl _ _ | apply gb_set | apply gb_alloc | apply gb_drew | fail))⟩⟩
end Go.Proofs.Ythoonffbadhplaa.Rp
