/- Texts laid as one: Rpb Rpd Rpe. -/
import Derived.Test.YtccblleobcidfaaGreatGr
/- Layer 23: replies: what the program's methods make of them. -/
section
namespace Go.Proofs.YtccblleobcidfaaGreat.Rp
open Go.RowKit Go.Proofs.YtccblleobcidfaaGreat.Kt Go.Proofs.YtccblleobcidfaaGreat.Lw Go.Proofs.YtccblleobcidfaaGreat.St Go.Proofs.YtccblleobcidfaaGreat.Nm Go.Proofs.YtccblleobcidfaaGreat.An Go.Proofs.YtccblleobcidfaaGreat.Ho
set_option linter.unusedVariables false
set_option linter.unusedSimpArgs false
set_option maxHeartbeats 1600000 in
theorem to_c (g : Nat) (ph : Int) (im : ByteArray) (bl : Int) (ag : Bool) (tr : Int) (rd : ByteArray) (rp : Int) (p : Int) (w : World) (K0 : Blk w g #[.int .i64 ph, .string im, .int .i64 bl, .bool ag, .int .i64 tr, .string rd, .int .i64 rp] 251) : Calls Tryz.prog 254 #[.pointer (some ⟨g, 0, none⟩), .int .i64 p] w fun e w' => e = .returned (.tuple #[]) ∧ Blk w' g #[.int .i64 (p), .string (im), .int .i64 (0), .bool (false), .int .i64 (tr), .string (⟨#[]⟩), .int .i64 (rp)] 251 ∧ w.grownBy w' (some g) := by
  have GB := gb_refl w g
  obtain ⟨cK0_0, cK0_1, cK0_2, cK0_3, cK0_4, cK0_5, cK0_6, fK0, lK0, nK0, mK0⟩ := Blk.all7 K0
  go_enter Tryz.func254, Tryz.ntmps254
  go_wp2
  go_end0
  exact ⟨rfl, ⟨zq11, zq20⟩⟩
set_option maxHeartbeats 1600000 in
theorem done_c (g : Nat) (ph : Int) (im : ByteArray) (bl : Int) (ag : Bool) (tr : Int) (rd : ByteArray) (rp : Int) (r : Int) (w : World) (K0 : Blk w g #[.int .i64 ph, .string im, .int .i64 bl, .bool ag, .int .i64 tr, .string rd, .int .i64 rp] 251) : Calls Tryz.prog 257 #[.pointer (some ⟨g, 0, none⟩), .int .i64 r] w fun e w' => e = .returned (.tuple #[]) ∧ Blk w' g #[.int .i64 (7), .string (im), .int .i64 (0), .bool (ag), .int .i64 (tr), .string (⟨#[]⟩), .int .i64 (r)] 251 ∧ w.grownBy w' (some g) := by
  have GB := gb_refl w g
  obtain ⟨cK0_0, cK0_1, cK0_2, cK0_3, cK0_4, cK0_5, cK0_6, fK0, lK0, nK0, mK0⟩ := Blk.all7 K0
  go_enter Tryz.func257, Tryz.ntmps257
  go_wp2
  go_end0
  exact ⟨rfl, ⟨zq11, zq20⟩⟩
set_option maxHeartbeats 1600000 in
theorem wrong1_c (g : Nat) (ph : Int) (im : ByteArray) (bl : Int) (ag : Bool) (tr : Int) (rd : ByteArray) (rp : Int) (t0 : 0 ≤ tr) (t1 : tr < 8) (w : World) (K0 : Blk w g #[.int .i64 ph, .string im, .int .i64 bl, .bool ag, .int .i64 tr, .string rd, .int .i64 rp] 251) : Calls Tryz.prog 258 #[.pointer (some ⟨g, 0, none⟩)] w fun e w' => e = .returned (.bool true) ∧ Blk w' g #[.int .i64 (ph), .string (im), .int .i64 (bl), .bool (ag), .int .i64 (tr + 1), .string (rd), .int .i64 (rp)] 251 ∧ w.grownBy w' (some g) := by
  have GB := gb_refl w g
  obtain ⟨cK0_0, cK0_1, cK0_2, cK0_3, cK0_4, cK0_5, cK0_6, fK0, lK0, nK0, mK0⟩ := Blk.all7 K0
  go_enter Tryz.func258, Tryz.ntmps258
  go_wp2
  go_ret
  exact ⟨rfl, ⟨zq11, zq20⟩⟩
set_option maxHeartbeats 1600000 in
theorem wrong2_c (g : Nat) (ph : Int) (im : ByteArray) (bl : Int) (ag : Bool) (tr : Int) (rd : ByteArray) (rp : Int) (t0 : 8 ≤ tr) (t1 : tr ≤ 8) (w : World) (K0 : Blk w g #[.int .i64 ph, .string im, .int .i64 bl, .bool ag, .int .i64 tr, .string rd, .int .i64 rp] 251) : Calls Tryz.prog 258 #[.pointer (some ⟨g, 0, none⟩)] w fun e w' => e = .returned (.bool false) ∧ Blk w' g #[.int .i64 (7), .string (im), .int .i64 (0), .bool (false), .int .i64 (8), .string (⟨#[]⟩), .int .i64 (2)] 251 ∧ w.grownBy w' (some g) := by
  have GB := gb_refl w g
  obtain ⟨cK0_0, cK0_1, cK0_2, cK0_3, cK0_4, cK0_5, cK0_6, fK0, lK0, nK0, mK0⟩ := Blk.all7 K0
  go_enter Tryz.func258, Tryz.ntmps258
  go_wp2_with (first | (go_at_call 257; with_reducible refine (done_c _ _ _ _ _ _ _ _ _ _ zq11).mono ?_; rintro e w' ⟨rfl, hk, hg⟩; have GB := gb_step (w := w) zq20 hg; have K0 := hk; (try clear cK0_0 cK0_1 cK0_2 cK0_3 cK0_4 cK0_5 cK0_6 fK0 lK0 nK0 mK0); obtain ⟨cK0_0, cK0_1, cK0_2, cK0_3, cK0_4, cK0_5, cK0_6, fK0, lK0, nK0, mK0⟩ := Blk.all7 K0) | fail)
  go_ret
  exact ⟨rfl, ⟨zq11, zq20⟩⟩
set_option maxHeartbeats 6400000 in
theorem anew_c (g : Nat) (h : HS) (w : World) (K0 : Blk w g #[.int .i64 h.ph, .string h.im, .int .i64 h.bl, .bool h.ag, .int .i64 h.tr, .string h.rd, .int .i64 h.rp] 251) (tr0 : 0 ≤ h.tr) (tr1 : h.tr ≤ 8) : Calls Tryz.prog 213 #[.pointer (some ⟨g, 0, none⟩)] w fun e w' => e = .returned (.tuple #[]) ∧ Blk w' g (anewH h).cs 251 ∧ w.grownBy w' (some g) := by
  have GB := gb_refl w g
  obtain ⟨cK0_0, cK0_1, cK0_2, cK0_3, cK0_4, cK0_5, cK0_6, fK0, lK0, nK0, mK0⟩ := Blk.all7 K0
  by_cases tx : h.tr < 8
  · have er : (anewH h).cs = #[.int .i64 (1), .string (h.im), .int .i64 (0), .bool (false), .int .i64 (h.tr + 1), .string (⟨#[]⟩), .int .i64 (h.rp)] := by simp [HS.cs, anewH, tx]
    rw [er]
    go_enter Tryz.func213, Tryz.ntmps213
    go_wp2_with (first | (go_at_call 258; with_reducible refine (wrong1_c _ _ _ _ _ _ _ _ tr0 tx _ zq11).mono ?_; rintro e w' ⟨rfl, hk, hg⟩; have GB := gb_step (w := w) zq20 hg; have K0 := hk; (try clear cK0_0 cK0_1 cK0_2 cK0_3 cK0_4 cK0_5 cK0_6 fK0 lK0 nK0 mK0); obtain ⟨cK0_0, cK0_1, cK0_2, cK0_3, cK0_4, cK0_5, cK0_6, fK0, lK0, nK0, mK0⟩ := Blk.all7 K0) | (go_at_call 254; with_reducible refine (to_c _ _ _ _ _ _ _ _ _ _ zq11).mono ?_; rintro e w' ⟨rfl, hk, hg⟩; have GB := gb_step (w := w) zq20 hg; have K0 := hk; (try clear cK0_0 cK0_1 cK0_2 cK0_3 cK0_4 cK0_5 cK0_6 fK0 lK0 nK0 mK0); obtain ⟨cK0_0, cK0_1, cK0_2, cK0_3, cK0_4, cK0_5, cK0_6, fK0, lK0, nK0, mK0⟩ := Blk.all7 K0) | fail)
    go_end0
    exact ⟨rfl, ⟨zq11, zq20⟩⟩
  · have tx : 8 ≤ h.tr := by omega
    have ty : ¬ h.tr < 8 := by omega
    have er : (anewH h).cs = #[.int .i64 (7), .string (h.im), .int .i64 (0), .bool (false), .int .i64 (8), .string (⟨#[]⟩), .int .i64 (2)] := by simp [HS.cs, anewH, ty]
    rw [er]
    go_enter Tryz.func213, Tryz.ntmps213
    go_wp2_with (first | (go_at_call 258; with_reducible refine (wrong2_c _ _ _ _ _ _ _ _ tx tr1 _ zq11).mono ?_; rintro e w' ⟨rfl, hk, hg⟩; have GB := gb_step (w := w) zq20 hg; have K0 := hk; (try clear cK0_0 cK0_1 cK0_2 cK0_3 cK0_4 cK0_5 cK0_6 fK0 lK0 nK0 mK0); obtain ⟨cK0_0, cK0_1, cK0_2, cK0_3, cK0_4, cK0_5, cK0_6, fK0, lK0, nK0, mK0⟩ := Blk.all7 K0) | fail)
    go_end0
    exact ⟨rfl, ⟨zq11, zq20⟩⟩
set_option maxHeartbeats 6400000 in
theorem lost_c (g : Nat) (h : HS) (w : World) (K0 : Blk w g #[.int .i64 h.ph, .string h.im, .int .i64 h.bl, .bool h.ag, .int .i64 h.tr, .string h.rd, .int .i64 h.rp] 251) (ok : h.Ok) : Calls Tryz.prog 212 #[.pointer (some ⟨g, 0, none⟩)] w fun e w' => e = .returned (.tuple #[]) ∧ Blk w' g (lostH h).cs 251 ∧ w.grownBy w' (some g) := by
  obtain ⟨ph0, ph1, im0, im1, bl0, bl1, tr0, tr1, rd1, rp0, rp1⟩ := ok
  have GB := gb_refl w g
  obtain ⟨cK0_0, cK0_1, cK0_2, cK0_3, cK0_4, cK0_5, cK0_6, fK0, lK0, nK0, mK0⟩ := Blk.all7 K0
  by_cases tx : h.tr < 8
  · rcases (by omega : h.ph = 1 ∨ h.ph = 2 ∨ h.ph = 3 ∨ h.ph = 4 ∨ h.ph = 5 ∨ h.ph = 6) with hp | hp | hp | hp | hp | hp
    · rw [hp] at K0 cK0_0
      have HP := Lib.hid hp
      have er : (lostH h).cs = #[.int .i64 (1), .string (h.im), .int .i64 (0), .bool (false), .int .i64 (h.tr + 1), .string (⟨#[]⟩), .int .i64 (h.rp)] := by simp [HS.cs, lostH, tx, hp]
      rw [er]
      clear hp ph0 ph1
      go_enter Tryz.func212, Tryz.ntmps212
      go_wp2_with (first | (go_at_call 258; with_reducible refine (wrong1_c _ _ _ _ _ _ _ _ tr0 tx _ zq11).mono ?_; rintro e w' ⟨rfl, hk, hg⟩; have GB := gb_step (w := w) zq20 hg; have K0 := hk; (try clear cK0_0 cK0_1 cK0_2 cK0_3 cK0_4 cK0_5 cK0_6 fK0 lK0 nK0 mK0); obtain ⟨cK0_0, cK0_1, cK0_2, cK0_3, cK0_4, cK0_5, cK0_6, fK0, lK0, nK0, mK0⟩ := Blk.all7 K0) | (go_at_call 254; with_reducible refine (to_c _ _ _ _ _ _ _ _ _ _ zq11).mono ?_; rintro e w' ⟨rfl, hk, hg⟩; have GB := gb_step (w := w) zq20 hg; have K0 := hk; (try clear cK0_0 cK0_1 cK0_2 cK0_3 cK0_4 cK0_5 cK0_6 fK0 lK0 nK0 mK0); obtain ⟨cK0_0, cK0_1, cK0_2, cK0_3, cK0_4, cK0_5, cK0_6, fK0, lK0, nK0, mK0⟩ := Blk.all7 K0) | fail)
      go_end0
      exact ⟨rfl, ⟨zq11, zq20⟩⟩
    · rw [hp] at K0 cK0_0
      have HP := Lib.hid hp
      have er : (lostH h).cs = #[.int .i64 (3), .string (h.im), .int .i64 (h.bl), .bool (true), .int .i64 (h.tr + 1), .string (h.rd), .int .i64 (h.rp)] := by simp [HS.cs, lostH, tx, hp]
      rw [er]
      clear hp ph0 ph1
      go_enter Tryz.func212, Tryz.ntmps212
      go_wp2_with (first | (go_at_call 258; with_reducible refine (wrong1_c _ _ _ _ _ _ _ _ tr0 tx _ zq11).mono ?_; rintro e w' ⟨rfl, hk, hg⟩; have GB := gb_step (w := w) zq20 hg; have K0 := hk; (try clear cK0_0 cK0_1 cK0_2 cK0_3 cK0_4 cK0_5 cK0_6 fK0 lK0 nK0 mK0); obtain ⟨cK0_0, cK0_1, cK0_2, cK0_3, cK0_4, cK0_5, cK0_6, fK0, lK0, nK0, mK0⟩ := Blk.all7 K0) | (go_at_call 254; with_reducible refine (to_c _ _ _ _ _ _ _ _ _ _ zq11).mono ?_; rintro e w' ⟨rfl, hk, hg⟩; have GB := gb_step (w := w) zq20 hg; have K0 := hk; (try clear cK0_0 cK0_1 cK0_2 cK0_3 cK0_4 cK0_5 cK0_6 fK0 lK0 nK0 mK0); obtain ⟨cK0_0, cK0_1, cK0_2, cK0_3, cK0_4, cK0_5, cK0_6, fK0, lK0, nK0, mK0⟩ := Blk.all7 K0) | fail)
      go_end0
      exact ⟨rfl, ⟨zq11, zq20⟩⟩
    · rw [hp] at K0 cK0_0
      have HP := Lib.hid hp
      have er : (lostH h).cs = #[.int .i64 (3), .string (h.im), .int .i64 (h.bl), .bool (h.ag), .int .i64 (h.tr + 1), .string (h.rd), .int .i64 (h.rp)] := by simp [HS.cs, lostH, tx, hp]
      rw [er]
      clear hp ph0 ph1
      go_enter Tryz.func212, Tryz.ntmps212
      go_wp2_with (first | (go_at_call 258; with_reducible refine (wrong1_c _ _ _ _ _ _ _ _ tr0 tx _ zq11).mono ?_; rintro e w' ⟨rfl, hk, hg⟩; have GB := gb_step (w := w) zq20 hg; have K0 := hk; (try clear cK0_0 cK0_1 cK0_2 cK0_3 cK0_4 cK0_5 cK0_6 fK0 lK0 nK0 mK0); obtain ⟨cK0_0, cK0_1, cK0_2, cK0_3, cK0_4, cK0_5, cK0_6, fK0, lK0, nK0, mK0⟩ := Blk.all7 K0) | (go_at_call 254; with_reducible refine (to_c _ _ _ _ _ _ _ _ _ _ zq11).mono ?_; rintro e w' ⟨rfl, hk, hg⟩; have GB := gb_step (w := w) zq20 hg; have K0 := hk; (try clear cK0_0 cK0_1 cK0_2 cK0_3 cK0_4 cK0_5 cK0_6 fK0 lK0 nK0 mK0); obtain ⟨cK0_0, cK0_1, cK0_2, cK0_3, cK0_4, cK0_5, cK0_6, fK0, lK0, nK0, mK0⟩ := Blk.all7 K0) | fail)
      go_end0
      exact ⟨rfl, ⟨zq11, zq20⟩⟩
    · rw [hp] at K0 cK0_0
      have HP := Lib.hid hp
      have er : (lostH h).cs = #[.int .i64 (5), .string (h.im), .int .i64 (h.bl), .bool (true), .int .i64 (h.tr + 1), .string (h.rd), .int .i64 (h.rp)] := by simp [HS.cs, lostH, tx, hp]
      rw [er]
      clear hp ph0 ph1
      go_enter Tryz.func212, Tryz.ntmps212
      go_wp2_with (first | (go_at_call 258; with_reducible refine (wrong1_c _ _ _ _ _ _ _ _ tr0 tx _ zq11).mono ?_; rintro e w' ⟨rfl, hk, hg⟩; have GB := gb_step (w := w) zq20 hg; have K0 := hk; (try clear cK0_0 cK0_1 cK0_2 cK0_3 cK0_4 cK0_5 cK0_6 fK0 lK0 nK0 mK0); obtain ⟨cK0_0, cK0_1, cK0_2, cK0_3, cK0_4, cK0_5, cK0_6, fK0, lK0, nK0, mK0⟩ := Blk.all7 K0) | (go_at_call 254; with_reducible refine (to_c _ _ _ _ _ _ _ _ _ _ zq11).mono ?_; rintro e w' ⟨rfl, hk, hg⟩; have GB := gb_step (w := w) zq20 hg; have K0 := hk; (try clear cK0_0 cK0_1 cK0_2 cK0_3 cK0_4 cK0_5 cK0_6 fK0 lK0 nK0 mK0); obtain ⟨cK0_0, cK0_1, cK0_2, cK0_3, cK0_4, cK0_5, cK0_6, fK0, lK0, nK0, mK0⟩ := Blk.all7 K0) | fail)
      go_end0
      exact ⟨rfl, ⟨zq11, zq20⟩⟩
    · rw [hp] at K0 cK0_0
      have HP := Lib.hid hp
      have er : (lostH h).cs = #[.int .i64 (5), .string (h.im), .int .i64 (h.bl), .bool (h.ag), .int .i64 (h.tr + 1), .string (h.rd), .int .i64 (h.rp)] := by simp [HS.cs, lostH, tx, hp]
      rw [er]
      clear hp ph0 ph1
      go_enter Tryz.func212, Tryz.ntmps212
      go_wp2_with (first | (go_at_call 258; with_reducible refine (wrong1_c _ _ _ _ _ _ _ _ tr0 tx _ zq11).mono ?_; rintro e w' ⟨rfl, hk, hg⟩; have GB := gb_step (w := w) zq20 hg; have K0 := hk; (try clear cK0_0 cK0_1 cK0_2 cK0_3 cK0_4 cK0_5 cK0_6 fK0 lK0 nK0 mK0); obtain ⟨cK0_0, cK0_1, cK0_2, cK0_3, cK0_4, cK0_5, cK0_6, fK0, lK0, nK0, mK0⟩ := Blk.all7 K0) | (go_at_call 254; with_reducible refine (to_c _ _ _ _ _ _ _ _ _ _ zq11).mono ?_; rintro e w' ⟨rfl, hk, hg⟩; have GB := gb_step (w := w) zq20 hg; have K0 := hk; (try clear cK0_0 cK0_1 cK0_2 cK0_3 cK0_4 cK0_5 cK0_6 fK0 lK0 nK0 mK0); obtain ⟨cK0_0, cK0_1, cK0_2, cK0_3, cK0_4, cK0_5, cK0_6, fK0, lK0, nK0, mK0⟩ := Blk.all7 K0) | fail)
      go_end0
      exact ⟨rfl, ⟨zq11, zq20⟩⟩
    · rw [hp] at K0 cK0_0
      have HP := Lib.hid hp
      have er : (lostH h).cs = #[.int .i64 (1), .string (h.im), .int .i64 (1), .bool (true), .int .i64 (h.tr + 1), .string (⟨#[33]⟩), .int .i64 (h.rp)] := by simp [HS.cs, lostH, tx, hp]
      rw [er]
      clear hp ph0 ph1
      go_enter Tryz.func212, Tryz.ntmps212
      go_wp2_with (first | (go_at_call 258; with_reducible refine (wrong1_c _ _ _ _ _ _ _ _ tr0 tx _ zq11).mono ?_; rintro e w' ⟨rfl, hk, hg⟩; have GB := gb_step (w := w) zq20 hg; have K0 := hk; (try clear cK0_0 cK0_1 cK0_2 cK0_3 cK0_4 cK0_5 cK0_6 fK0 lK0 nK0 mK0); obtain ⟨cK0_0, cK0_1, cK0_2, cK0_3, cK0_4, cK0_5, cK0_6, fK0, lK0, nK0, mK0⟩ := Blk.all7 K0) | (go_at_call 254; with_reducible refine (to_c _ _ _ _ _ _ _ _ _ _ zq11).mono ?_; rintro e w' ⟨rfl, hk, hg⟩; have GB := gb_step (w := w) zq20 hg; have K0 := hk; (try clear cK0_0 cK0_1 cK0_2 cK0_3 cK0_4 cK0_5 cK0_6 fK0 lK0 nK0 mK0); obtain ⟨cK0_0, cK0_1, cK0_2, cK0_3, cK0_4, cK0_5, cK0_6, fK0, lK0, nK0, mK0⟩ := Blk.all7 K0) | fail)
      go_end0
      exact ⟨rfl, ⟨zq11, zq20⟩⟩
  · have tx : 8 ≤ h.tr := by omega
    have ty : ¬ h.tr < 8 := by omega
    have er : (lostH h).cs = #[.int .i64 (7), .string (h.im), .int .i64 (0), .bool (false), .int .i64 (8), .string (⟨#[]⟩), .int .i64 (2)] := by simp [HS.cs, lostH, ty]
    rw [er]
    go_enter Tryz.func212, Tryz.ntmps212
    go_wp2_with (first | (go_at_call 258; with_reducible refine (wrong2_c _ _ _ _ _ _ _ _ tx tr1 _ zq11).mono ?_; rintro e w' ⟨rfl, hk, hg⟩; have GB := gb_step (w := w) zq20 hg; have K0 := hk; (try clear cK0_0 cK0_1 cK0_2 cK0_3 cK0_4 cK0_5 cK0_6 fK0 lK0 nK0 mK0); obtain ⟨cK0_0, cK0_1, cK0_2, cK0_3, cK0_4, cK0_5, cK0_6, fK0, lK0, nK0, mK0⟩ := Blk.all7 K0) | fail)
    (try simp only [Exit.inBlock, Exit.then]); refine bodyPost_ret (results_none rfl _ _ _) rfl ?_
    exact ⟨rfl, ⟨zq11, zq20⟩⟩
set_option maxHeartbeats 1600000 in
theorem send_c (g : Nat) (ph : Int) (im : ByteArray) (bl : Int) (ag : Bool) (tr : Int) (rd : ByteArray) (rp : Int) (s : ByteArray) (w : World) (K0 : Blk w g #[.int .i64 ph, .string im, .int .i64 bl, .bool ag, .int .i64 tr, .string rd, .int .i64 rp] 251) : Calls Tryz.prog 207 #[.pointer (some ⟨g, 0, none⟩), .string s] w fun e w' => e = .returned (.tuple #[]) ∧ Blk w' g #[.int .i64 (3), .string (im), .int .i64 (bl), .bool (false), .int .i64 (tr), .string (rd), .int .i64 (rp)] 251 ∧ w.grownBy w' (some g) := by
  have GB := gb_refl w g
  obtain ⟨cK0_0, cK0_1, cK0_2, cK0_3, cK0_4, cK0_5, cK0_6, fK0, lK0, nK0, mK0⟩ := Blk.all7 K0
  go_enter Tryz.func207, Tryz.ntmps207
  go_wp2
  go_end0
  exact ⟨rfl, ⟨zq11, zq20⟩⟩
set_option maxHeartbeats 1600000 in
theorem end_c (g : Nat) (ph : Int) (im : ByteArray) (bl : Int) (ag : Bool) (tr : Int) (rd : ByteArray) (rp : Int) (s : ByteArray) (w : World) (K0 : Blk w g #[.int .i64 ph, .string im, .int .i64 bl, .bool ag, .int .i64 tr, .string rd, .int .i64 rp] 251) : Calls Tryz.prog 209 #[.pointer (some ⟨g, 0, none⟩), .string s] w fun e w' => e = .returned (.tuple #[]) ∧ Blk w' g #[.int .i64 (5), .string (im), .int .i64 (bl), .bool (false), .int .i64 (tr), .string (rd), .int .i64 (rp)] 251 ∧ w.grownBy w' (some g) := by
  have GB := gb_refl w g
  obtain ⟨cK0_0, cK0_1, cK0_2, cK0_3, cK0_4, cK0_5, cK0_6, fK0, lK0, nK0, mK0⟩ := Blk.all7 K0
  go_enter Tryz.func209, Tryz.ntmps209
  go_wp2
  go_end0
  exact ⟨rfl, ⟨zq11, zq20⟩⟩
set_option maxHeartbeats 6400000 in
theorem clear_c (g : Nat) (h : HS) (s : ByteArray) (w : World) (K0 : Blk w g #[.int .i64 h.ph, .string h.im, .int .i64 h.bl, .bool h.ag, .int .i64 h.tr, .string h.rd, .int .i64 h.rp] 251) (ok : h.Ok) (hp : h.ph = 1) : Calls Tryz.prog 206 #[.pointer (some ⟨g, 0, none⟩), .string s] w fun e w' => e = .returned (.tuple #[]) ∧ Blk w' g (clearedH h s).cs 251 ∧ w.grownBy w' (some g) := by
  obtain ⟨ph0, ph1, im0, im1, bl0, bl1, tr0, tr1, rd1, rp0, rp1⟩ := ok
  have GB := gb_refl w g
  obtain ⟨cK0_0, cK0_1, cK0_2, cK0_3, cK0_4, cK0_5, cK0_6, fK0, lK0, nK0, mK0⟩ := Blk.all7 K0
  obtain ⟨u1, u2, hv⟩ := gotV_form s
  have ga := Lib.hid (fun W : World => get_c s W)
  rw [hv] at ga
  cases hag : h.ag
  · rw [hag] at K0 cK0_3
    cases hg : gotB s
    · rw [hg] at ga
      simp only [cond_false] at ga
      have aa := Lib.hid (fun (W : World) (K : Blk W g #[.int .i64 h.ph, .string h.im, .int .i64 h.bl, .bool h.ag, .int .i64 h.tr, .string h.rd, .int .i64 h.rp] 251) => anew_c g h W K tr0 tr1)
      rw [hag] at aa
      have er : (clearedH h s).cs = (anewH h).cs := by simp [HS.cs, clearedH, hag, hg]
      rw [er]
      clear hag hg hp
      go_enter Tryz.func206, Tryz.ntmps206
      go_wp2_with (first | (go_at_call 255; with_reducible refine (ga.out _).mono ?_; rintro e w' ⟨rfl, hb⟩; have GB := gb_bel (w := w) zq20 hb; have K0 := Blk.on zq3 zq23 hb; (try clear cK0_0 cK0_1 cK0_2 cK0_3 cK0_4 cK0_5 cK0_6 fK0 lK0 nK0 mK0); obtain ⟨cK0_0, cK0_1, cK0_2, cK0_3, cK0_4, cK0_5, cK0_6, fK0, lK0, nK0, mK0⟩ := Blk.all7 K0; have K1 := fun cs => Blk.new w' cs 111) | (go_at_call 213; with_reducible refine (aa.out _ zq11).mono ?_; rintro e w' ⟨rfl, hk, hg⟩; have GB := gb_step (w := w) zq20 hg; have K0 := hk; (try clear cK0_0 cK0_1 cK0_2 cK0_3 cK0_4 cK0_5 cK0_6 fK0 lK0 nK0 mK0); obtain ⟨cK0_0, cK0_1, cK0_2, cK0_3, cK0_4, cK0_5, cK0_6, fK0, lK0, nK0, mK0⟩ := Blk.all7 K0) | fail)
      (try simp only [Exit.inBlock, Exit.then]); refine bodyPost_ret (results_none rfl _ _ _) rfl ?_
      exact ⟨rfl, ⟨zq11, zq20⟩⟩
    · rw [hg] at ga
      simp only [cond_true] at ga
      rcases (by omega : ansS s = 0 ∨ ansS s = 7 ∨ ansS s = 3 ∨ ansS s = 6 ∨ (ansS s ≠ 0 ∧ ansS s ≠ 7 ∧ ansS s ≠ 3 ∧ ansS s ≠ 6)) with hs | hs | hs | hs | ⟨n0, n7, n3, n6⟩
      · rw [hp] at K0 cK0_0
        have er : (clearedH h s).cs = #[.int .i64 (2), .string (h.im), .int .i64 (0), .bool (false), .int .i64 (h.tr), .string (h.rd), .int .i64 (h.rp)] := by simp [HS.cs, clearedH, hag, hg, hs]
        rw [er]
        rw [hs] at ga
        clear hs
        clear hag hg hp
        go_enter Tryz.func206, Tryz.ntmps206
        go_wp2_with (first | (go_at_call 255; with_reducible refine (ga.out _).mono ?_; rintro e w' ⟨rfl, hb⟩; have GB := gb_bel (w := w) zq20 hb; have K0 := Blk.on zq3 zq23 hb; (try clear cK0_0 cK0_1 cK0_2 cK0_3 cK0_4 cK0_5 cK0_6 fK0 lK0 nK0 mK0); obtain ⟨cK0_0, cK0_1, cK0_2, cK0_3, cK0_4, cK0_5, cK0_6, fK0, lK0, nK0, mK0⟩ := Blk.all7 K0; have K1 := fun cs => Blk.new w' cs 111) | fail)
        go_end0
        exact ⟨rfl, ⟨zq11, zq20⟩⟩
      · rw [hp] at K0 cK0_0
        have er : (clearedH h s).cs = #[.int .i64 (1), .string (h.im), .int .i64 (0), .bool (true), .int .i64 (h.tr), .string (h.rd), .int .i64 (h.rp)] := by simp [HS.cs, clearedH, hag, hg, hs]
        rw [er]
        rw [hs] at ga
        clear hs
        clear hag hg hp
        go_enter Tryz.func206, Tryz.ntmps206
        go_wp2_with (first | (go_at_call 255; with_reducible refine (ga.out _).mono ?_; rintro e w' ⟨rfl, hb⟩; have GB := gb_bel (w := w) zq20 hb; have K0 := Blk.on zq3 zq23 hb; (try clear cK0_0 cK0_1 cK0_2 cK0_3 cK0_4 cK0_5 cK0_6 fK0 lK0 nK0 mK0); obtain ⟨cK0_0, cK0_1, cK0_2, cK0_3, cK0_4, cK0_5, cK0_6, fK0, lK0, nK0, mK0⟩ := Blk.all7 K0; have K1 := fun cs => Blk.new w' cs 111) | fail)
        go_end0
        exact ⟨rfl, ⟨zq11, zq20⟩⟩
      · rw [hp] at K0 cK0_0
        have er : (clearedH h s).cs = #[.int .i64 (1), .string (h.im), .int .i64 (1), .bool (true), .int .i64 (h.tr), .string (h.rd), .int .i64 (h.rp)] := by simp [HS.cs, clearedH, hag, hg, hs]
        rw [er]
        rw [hs] at ga
        clear hs
        clear hag hg hp
        go_enter Tryz.func206, Tryz.ntmps206
        go_wp2_with (first | (go_at_call 255; with_reducible refine (ga.out _).mono ?_; rintro e w' ⟨rfl, hb⟩; have GB := gb_bel (w := w) zq20 hb; have K0 := Blk.on zq3 zq23 hb; (try clear cK0_0 cK0_1 cK0_2 cK0_3 cK0_4 cK0_5 cK0_6 fK0 lK0 nK0 mK0); obtain ⟨cK0_0, cK0_1, cK0_2, cK0_3, cK0_4, cK0_5, cK0_6, fK0, lK0, nK0, mK0⟩ := Blk.all7 K0; have K1 := fun cs => Blk.new w' cs 111) | fail)
        go_end0
        exact ⟨rfl, ⟨zq11, zq20⟩⟩
      · rw [hp] at K0 cK0_0
        have er : (clearedH h s).cs = #[.int .i64 (1), .string (h.im), .int .i64 (1), .bool (true), .int .i64 (h.tr), .string (h.rd), .int .i64 (h.rp)] := by simp [HS.cs, clearedH, hag, hg, hs]
        rw [er]
        rw [hs] at ga
        clear hs
        clear hag hg hp
        go_enter Tryz.func206, Tryz.ntmps206
        go_wp2_with (first | (go_at_call 255; with_reducible refine (ga.out _).mono ?_; rintro e w' ⟨rfl, hb⟩; have GB := gb_bel (w := w) zq20 hb; have K0 := Blk.on zq3 zq23 hb; (try clear cK0_0 cK0_1 cK0_2 cK0_3 cK0_4 cK0_5 cK0_6 fK0 lK0 nK0 mK0); obtain ⟨cK0_0, cK0_1, cK0_2, cK0_3, cK0_4, cK0_5, cK0_6, fK0, lK0, nK0, mK0⟩ := Blk.all7 K0; have K1 := fun cs => Blk.new w' cs 111) | fail)
        go_end0
        exact ⟨rfl, ⟨zq11, zq20⟩⟩
      · rw [hp] at K0 cK0_0
        have er : (clearedH h s).cs = #[.int .i64 (1), .string (h.im), .int .i64 (h.bl), .bool (false), .int .i64 (h.tr), .string (h.rd), .int .i64 (h.rp)] := by simp [HS.cs, clearedH, hag, hg, n0, n7, n3, n6, hp]
        rw [er]
        have s0 : (ansS s == 0) = false := beq_eq_false_iff_ne.2 (by omega)
        have s7 : (ansS s == 7) = false := beq_eq_false_iff_ne.2 (by omega)
        have s3 : (ansS s == 3) = false := beq_eq_false_iff_ne.2 (by omega)
        have s6 : (ansS s == 6) = false := beq_eq_false_iff_ne.2 (by omega)
        generalize ansS s = st at *
        clear hag hg hp
        go_enter Tryz.func206, Tryz.ntmps206
        go_wp2_with (first | (go_at_call 255; with_reducible refine (ga.out _).mono ?_; rintro e w' ⟨rfl, hb⟩; have GB := gb_bel (w := w) zq20 hb; have K0 := Blk.on zq3 zq23 hb; (try clear cK0_0 cK0_1 cK0_2 cK0_3 cK0_4 cK0_5 cK0_6 fK0 lK0 nK0 mK0); obtain ⟨cK0_0, cK0_1, cK0_2, cK0_3, cK0_4, cK0_5, cK0_6, fK0, lK0, nK0, mK0⟩ := Blk.all7 K0; have K1 := fun cs => Blk.new w' cs 111) | fail)
        go_end0
        exact ⟨rfl, ⟨zq11, zq20⟩⟩
  · rw [hag] at K0 cK0_3
    by_cases hr : h.rd = ⟨#[33]⟩
    · have e1 : (h.rd.toList == [33]) = true := rd_yes hr
      have er : (clearedH h s).cs = #[.int .i64 (5), .string (h.im), .int .i64 (0), .bool (false), .int .i64 (h.tr), .string (⟨#[]⟩), .int .i64 (h.rp)] := by simp [HS.cs, clearedH, hag, hr]
      rw [er]
      clear hr hag hp
      go_enter Tryz.func206, Tryz.ntmps206
      go_wp2_with (first | (go_at_call 254; with_reducible refine (to_c _ _ _ _ _ _ _ _ _ _ zq11).mono ?_; rintro e w' ⟨rfl, hk, hg⟩; have GB := gb_step (w := w) zq20 hg; have K0 := hk; (try clear cK0_0 cK0_1 cK0_2 cK0_3 cK0_4 cK0_5 cK0_6 fK0 lK0 nK0 mK0); obtain ⟨cK0_0, cK0_1, cK0_2, cK0_3, cK0_4, cK0_5, cK0_6, fK0, lK0, nK0, mK0⟩ := Blk.all7 K0) | fail)
      (try simp only [Exit.inBlock, Exit.then]); refine bodyPost_ret (results_none rfl _ _ _) rfl ?_
      exact ⟨rfl, ⟨zq11, zq20⟩⟩
    · have e1 : (h.rd.toList == [33]) = false := rd_no hr
      have er : (clearedH h s).cs = #[.int .i64 (1), .string (h.im), .int .i64 (0), .bool (false), .int .i64 (h.tr), .string (⟨#[]⟩), .int .i64 (h.rp)] := by simp [HS.cs, clearedH, hag, hr]
      rw [er]
      clear hr hag hp
      go_enter Tryz.func206, Tryz.ntmps206
      go_wp2_with (first | (go_at_call 254; with_reducible refine (to_c _ _ _ _ _ _ _ _ _ _ zq11).mono ?_; rintro e w' ⟨rfl, hk, hg⟩; have GB := gb_step (w := w) zq20 hg; have K0 := hk; (try clear cK0_0 cK0_1 cK0_2 cK0_3 cK0_4 cK0_5 cK0_6 fK0 lK0 nK0 mK0); obtain ⟨cK0_0, cK0_1, cK0_2, cK0_3, cK0_4, cK0_5, cK0_6, fK0, lK0, nK0, mK0⟩ := Blk.all7 K0) | fail)
      (try simp only [Exit.inBlock, Exit.then]); refine bodyPost_ret (results_none rfl _ _ _) rfl ?_
      exact ⟨rfl, ⟨zq11, zq20⟩⟩
end Go.Proofs.YtccblleobcidfaaGreat.Rp
end
/- Layer 23: replies: the program's methods: poll, wait. -/
section
namespace Go.Proofs.YtccblleobcidfaaGreat.Rp
open Go.RowKit Go.Proofs.YtccblleobcidfaaGreat.Kt Go.Proofs.YtccblleobcidfaaGreat.Lw Go.Proofs.YtccblleobcidfaaGreat.St Go.Proofs.YtccblleobcidfaaGreat.Nm Go.Proofs.YtccblleobcidfaaGreat.An Go.Proofs.YtccblleobcidfaaGreat.Ho
set_option linter.unusedVariables false
set_option linter.unusedSimpArgs false
set_option maxHeartbeats 6400000 in
theorem next1_c (g : Nat) (ph : Int) (im : ByteArray) (bl : Int) (ag : Bool) (tr : Int) (rd : ByteArray) (rp : Int) (w : World) (K0 : Blk w g #[.int .i64 ph, .string im, .int .i64 bl, .bool ag, .int .i64 tr, .string rd, .int .i64 rp] 251) (b0 : 0 ≤ bl) (b1 : bl + 1 < manyI im) (i1 : im.size ≤ 288) : Calls Tryz.prog 256 #[.pointer (some ⟨g, 0, none⟩)] w fun e w' => e = .returned (.tuple #[]) ∧ Blk w' g #[.int .i64 (2), .string (im), .int .i64 (bl + 1), .bool (ag), .int .i64 (tr), .string (rd), .int .i64 (rp)] 251 ∧ w.grownBy w' (some g) := by
  have b2 : manyI im ≤ 9 := by unfold manyI; omega
  have GB := gb_refl w g
  obtain ⟨cK0_0, cK0_1, cK0_2, cK0_3, cK0_4, cK0_5, cK0_6, fK0, lK0, nK0, mK0⟩ := Blk.all7 K0
  have m1 : min (bl + 1) (manyI im) = bl + 1 := by omega
  have e1 : (bl + 1 == manyI im) = false := beq_eq_false_iff_ne.2 (by omega)
  go_enter Tryz.func256, Tryz.ntmps256
  go_wp2_with fail
  have qK0_0 := fun s : Wld _ => Wld.cell cK0_0 s; have qK0_1 := fun s : Wld _ => Wld.cell cK0_1 s; have qK0_2 := fun s : Wld _ => Wld.cell cK0_2 s; have qK0_3 := fun s : Wld _ => Wld.cell cK0_3 s; have qK0_4 := fun s : Wld _ => Wld.cell cK0_4 s; have qK0_5 := fun s : Wld _ => Wld.cell cK0_5 s; have qK0_6 := fun s : Wld _ => Wld.cell cK0_6 s
  refine wld_tail 15 (by kernel_rfl) (by kernel_rfl) ?_
  simp only [List.take_succ_cons, List.take_zero, List.drop_succ_cons, List.drop_zero]
  repeat (go_big_quiet_step (first | (go_at_call 177; with_reducible exact Wld.same (hmany_c g _ _ (qK0_1 _) (by omega))) | fail))
  refine wpQuiet_nil ?_; refine Wld.elim ?_; intro w' hb; clear qK0_0 qK0_1 qK0_2 qK0_3 qK0_4 qK0_5 qK0_6; have GB := gb_bel (w := w) zq20 hb; have K0 := Blk.on zq3 zq23 hb; (try clear cK0_0 cK0_1 cK0_2 cK0_3 cK0_4 cK0_5 cK0_6 fK0 lK0 nK0 mK0); obtain ⟨cK0_0, cK0_1, cK0_2, cK0_3, cK0_4, cK0_5, cK0_6, fK0, lK0, nK0, mK0⟩ := Blk.all7 K0
  go_upto_region 2 with fail
  have K0 := Blk.set7_0 (Blk.set7_2 K0 (.int .i64 (bl + 1))) (.int .i64 2)
  have GB := gb_set (j := 0) (v := .int .i64 2) (gb_set (j := 2) (v := .int .i64 (bl + 1)) GB)
  clear cK0_0 cK0_1 cK0_2 cK0_3 cK0_4 cK0_5 cK0_6 fK0 lK0 nK0 mK0
  generalize (w'.setCell ⟨g, 2, none⟩ (.int .i64 (bl + 1))).setCell ⟨g, 0, none⟩ (.int .i64 2) = w2 at *
  obtain ⟨cK0_0, cK0_1, cK0_2, cK0_3, cK0_4, cK0_5, cK0_6, fK0, lK0, nK0, mK0⟩ := Blk.all7 K0
  have qK0_0 := fun s : Wld _ => Wld.cell cK0_0 s; have qK0_1 := fun s : Wld _ => Wld.cell cK0_1 s; have qK0_2 := fun s : Wld _ => Wld.cell cK0_2 s; have qK0_3 := fun s : Wld _ => Wld.cell cK0_3 s; have qK0_4 := fun s : Wld _ => Wld.cell cK0_4 s; have qK0_5 := fun s : Wld _ => Wld.cell cK0_5 s; have qK0_6 := fun s : Wld _ => Wld.cell cK0_6 s
  refine wld_lit (by kernel_rfl) (by kernel_rfl) ?_
  repeat (go_big_quiet_step (first | (go_at_call 177; with_reducible exact Wld.same (hmany_c g _ _ (qK0_1 _) (by omega))) | fail))
  refine wpQuiet_nil ?_; refine Wld.elim ?_; intro w' hb; clear qK0_0 qK0_1 qK0_2 qK0_3 qK0_4 qK0_5 qK0_6; have GB := gb_bel (w := w) zq20 hb; have K0 := Blk.on zq3 zq23 hb; (try clear cK0_0 cK0_1 cK0_2 cK0_3 cK0_4 cK0_5 cK0_6 fK0 lK0 nK0 mK0); obtain ⟨cK0_0, cK0_1, cK0_2, cK0_3, cK0_4, cK0_5, cK0_6, fK0, lK0, nK0, mK0⟩ := Blk.all7 K0
  go_wp2_with fail
  go_end0
  exact ⟨rfl, ⟨zq11, zq20⟩⟩
set_option maxHeartbeats 6400000 in
theorem next2_c (g : Nat) (ph : Int) (im : ByteArray) (bl : Int) (ag : Bool) (tr : Int) (rd : ByteArray) (rp : Int) (w : World) (K0 : Blk w g #[.int .i64 ph, .string im, .int .i64 bl, .bool ag, .int .i64 tr, .string rd, .int .i64 rp] 251) (b0 : 0 ≤ bl) (b1 : manyI im ≤ bl + 1) (i1 : im.size ≤ 288) (b3 : bl ≤ manyI im) : Calls Tryz.prog 256 #[.pointer (some ⟨g, 0, none⟩)] w fun e w' => e = .returned (.tuple #[]) ∧ Blk w' g #[.int .i64 (4), .string (im), .int .i64 (manyI im), .bool (ag), .int .i64 (tr), .string (rd), .int .i64 (rp)] 251 ∧ w.grownBy w' (some g) := by
  have b2 : manyI im ≤ 9 := by unfold manyI; omega
  have m1 : min (bl + 1) (manyI im) = manyI im := by omega
  have GB := gb_refl w g
  obtain ⟨cK0_0, cK0_1, cK0_2, cK0_3, cK0_4, cK0_5, cK0_6, fK0, lK0, nK0, mK0⟩ := Blk.all7 K0
  rcases Int.lt_or_eq_of_le b1 with b4 | b4
  · go_enter Tryz.func256, Tryz.ntmps256
    go_wp2_with fail
    have qK0_0 := fun s : Wld _ => Wld.cell cK0_0 s; have qK0_1 := fun s : Wld _ => Wld.cell cK0_1 s; have qK0_2 := fun s : Wld _ => Wld.cell cK0_2 s; have qK0_3 := fun s : Wld _ => Wld.cell cK0_3 s; have qK0_4 := fun s : Wld _ => Wld.cell cK0_4 s; have qK0_5 := fun s : Wld _ => Wld.cell cK0_5 s; have qK0_6 := fun s : Wld _ => Wld.cell cK0_6 s
    refine wld_tail 15 (by kernel_rfl) (by kernel_rfl) ?_
    simp only [List.take_succ_cons, List.take_zero, List.drop_succ_cons, List.drop_zero]
    repeat (go_big_quiet_step (first | (go_at_call 177; with_reducible exact Wld.same (hmany_c g _ _ (qK0_1 _) (by omega))) | fail))
    refine wpQuiet_nil ?_; refine Wld.elim ?_; intro w' hb; clear qK0_0 qK0_1 qK0_2 qK0_3 qK0_4 qK0_5 qK0_6; have GB := gb_bel (w := w) zq20 hb; have K0 := Blk.on zq3 zq23 hb; (try clear cK0_0 cK0_1 cK0_2 cK0_3 cK0_4 cK0_5 cK0_6 fK0 lK0 nK0 mK0); obtain ⟨cK0_0, cK0_1, cK0_2, cK0_3, cK0_4, cK0_5, cK0_6, fK0, lK0, nK0, mK0⟩ := Blk.all7 K0
    go_upto_region 2 with fail
    have K0 := Blk.set7_0 (Blk.set7_2 K0 (.int .i64 (manyI im))) (.int .i64 2)
    have GB := gb_set (j := 0) (v := .int .i64 2) (gb_set (j := 2) (v := .int .i64 (manyI im)) GB)
    clear cK0_0 cK0_1 cK0_2 cK0_3 cK0_4 cK0_5 cK0_6 fK0 lK0 nK0 mK0
    generalize (w'.setCell ⟨g, 2, none⟩ (.int .i64 (manyI im))).setCell ⟨g, 0, none⟩ (.int .i64 2) = w2 at *
    obtain ⟨cK0_0, cK0_1, cK0_2, cK0_3, cK0_4, cK0_5, cK0_6, fK0, lK0, nK0, mK0⟩ := Blk.all7 K0
    have qK0_0 := fun s : Wld _ => Wld.cell cK0_0 s; have qK0_1 := fun s : Wld _ => Wld.cell cK0_1 s; have qK0_2 := fun s : Wld _ => Wld.cell cK0_2 s; have qK0_3 := fun s : Wld _ => Wld.cell cK0_3 s; have qK0_4 := fun s : Wld _ => Wld.cell cK0_4 s; have qK0_5 := fun s : Wld _ => Wld.cell cK0_5 s; have qK0_6 := fun s : Wld _ => Wld.cell cK0_6 s
    refine wld_lit (by kernel_rfl) (by kernel_rfl) ?_
    repeat (go_big_quiet_step (first | (go_at_call 177; with_reducible exact Wld.same (hmany_c g _ _ (qK0_1 _) (by omega))) | fail))
    refine wpQuiet_nil ?_; refine Wld.elim ?_; intro w' hb; clear qK0_0 qK0_1 qK0_2 qK0_3 qK0_4 qK0_5 qK0_6; have GB := gb_bel (w := w) zq20 hb; have K0 := Blk.on zq3 zq23 hb; (try clear cK0_0 cK0_1 cK0_2 cK0_3 cK0_4 cK0_5 cK0_6 fK0 lK0 nK0 mK0); obtain ⟨cK0_0, cK0_1, cK0_2, cK0_3, cK0_4, cK0_5, cK0_6, fK0, lK0, nK0, mK0⟩ := Blk.all7 K0
    go_wp2_with fail
    go_end0
    exact ⟨rfl, ⟨zq11, zq20⟩⟩
  · rw [b4]
    have e1 : (bl + 1 == manyI im) = true := by rw [b4]; simp
    go_enter Tryz.func256, Tryz.ntmps256
    go_wp2_with fail
    have qK0_0 := fun s : Wld _ => Wld.cell cK0_0 s; have qK0_1 := fun s : Wld _ => Wld.cell cK0_1 s; have qK0_2 := fun s : Wld _ => Wld.cell cK0_2 s; have qK0_3 := fun s : Wld _ => Wld.cell cK0_3 s; have qK0_4 := fun s : Wld _ => Wld.cell cK0_4 s; have qK0_5 := fun s : Wld _ => Wld.cell cK0_5 s; have qK0_6 := fun s : Wld _ => Wld.cell cK0_6 s
    refine wld_tail 15 (by kernel_rfl) (by kernel_rfl) ?_
    simp only [List.take_succ_cons, List.take_zero, List.drop_succ_cons, List.drop_zero]
    repeat (go_big_quiet_step (first | (go_at_call 177; with_reducible exact Wld.same (hmany_c g _ _ (qK0_1 _) (by omega))) | fail))
    refine wpQuiet_nil ?_; refine Wld.elim ?_; intro w' hb; clear qK0_0 qK0_1 qK0_2 qK0_3 qK0_4 qK0_5 qK0_6; have GB := gb_bel (w := w) zq20 hb; have K0 := Blk.on zq3 zq23 hb; (try clear cK0_0 cK0_1 cK0_2 cK0_3 cK0_4 cK0_5 cK0_6 fK0 lK0 nK0 mK0); obtain ⟨cK0_0, cK0_1, cK0_2, cK0_3, cK0_4, cK0_5, cK0_6, fK0, lK0, nK0, mK0⟩ := Blk.all7 K0
    go_upto_region 2 with fail
    have K0 := Blk.set7_0 (Blk.set7_2 K0 (.int .i64 (bl + 1))) (.int .i64 2)
    have GB := gb_set (j := 0) (v := .int .i64 2) (gb_set (j := 2) (v := .int .i64 (bl + 1)) GB)
    clear cK0_0 cK0_1 cK0_2 cK0_3 cK0_4 cK0_5 cK0_6 fK0 lK0 nK0 mK0
    generalize (w'.setCell ⟨g, 2, none⟩ (.int .i64 (bl + 1))).setCell ⟨g, 0, none⟩ (.int .i64 2) = w2 at *
    obtain ⟨cK0_0, cK0_1, cK0_2, cK0_3, cK0_4, cK0_5, cK0_6, fK0, lK0, nK0, mK0⟩ := Blk.all7 K0
    have qK0_0 := fun s : Wld _ => Wld.cell cK0_0 s; have qK0_1 := fun s : Wld _ => Wld.cell cK0_1 s; have qK0_2 := fun s : Wld _ => Wld.cell cK0_2 s; have qK0_3 := fun s : Wld _ => Wld.cell cK0_3 s; have qK0_4 := fun s : Wld _ => Wld.cell cK0_4 s; have qK0_5 := fun s : Wld _ => Wld.cell cK0_5 s; have qK0_6 := fun s : Wld _ => Wld.cell cK0_6 s
    refine wld_lit (by kernel_rfl) (by kernel_rfl) ?_
    repeat (go_big_quiet_step (first | (go_at_call 177; with_reducible exact Wld.same (hmany_c g _ _ (qK0_1 _) (by omega))) | fail))
    refine wpQuiet_nil ?_; refine Wld.elim ?_; intro w' hb; clear qK0_0 qK0_1 qK0_2 qK0_3 qK0_4 qK0_5 qK0_6; have GB := gb_bel (w := w) zq20 hb; have K0 := Blk.on zq3 zq23 hb; (try clear cK0_0 cK0_1 cK0_2 cK0_3 cK0_4 cK0_5 cK0_6 fK0 lK0 nK0 mK0); obtain ⟨cK0_0, cK0_1, cK0_2, cK0_3, cK0_4, cK0_5, cK0_6, fK0, lK0, nK0, mK0⟩ := Blk.all7 K0
    go_wp2_with fail
    go_end0
    exact ⟨rfl, ⟨zq11, zq20⟩⟩
set_option maxHeartbeats 6400000 in
theorem poll_c (g : Nat) (h : HS) (s : ByteArray) (w : World) (K0 : Blk w g #[.int .i64 h.ph, .string h.im, .int .i64 h.bl, .bool h.ag, .int .i64 h.tr, .string h.rd, .int .i64 h.rp] 251) (ok : h.Ok) : Calls Tryz.prog 208 #[.pointer (some ⟨g, 0, none⟩), .string s] w fun e w' => e = .returned (.tuple #[]) ∧ Blk w' g (polledH h s).cs 251 ∧ w.grownBy w' (some g) := by
  obtain ⟨ph0, ph1, im0, im1, bl0, bl1, tr0, tr1, rd1, rp0, rp1⟩ := ok
  have GB := gb_refl w g
  obtain ⟨cK0_0, cK0_1, cK0_2, cK0_3, cK0_4, cK0_5, cK0_6, fK0, lK0, nK0, mK0⟩ := Blk.all7 K0
  obtain ⟨u1, u2, hv⟩ := gotV_form s
  have ga := Lib.hid (fun W : World => get_c s W)
  rw [hv] at ga
  have aa := Lib.hid (fun (W : World) (K : Blk W g #[.int .i64 h.ph, .string h.im, .int .i64 h.bl, .bool h.ag, .int .i64 h.tr, .string h.rd, .int .i64 h.rp] 251) => anew_c g h W K tr0 tr1)
  cases hg : gotB s
  · rw [hg] at ga
    simp only [cond_false] at ga
    have er : (polledH h s).cs = (anewH h).cs := by simp [HS.cs, polledH, hg]
    rw [er]
    clear hg
    go_enter Tryz.func208, Tryz.ntmps208
    go_wp2_with (first | (go_at_call 255; with_reducible refine (ga.out _).mono ?_; rintro e w' ⟨rfl, hb⟩; have GB := gb_bel (w := w) zq20 hb; have K0 := Blk.on zq3 zq23 hb; (try clear cK0_0 cK0_1 cK0_2 cK0_3 cK0_4 cK0_5 cK0_6 fK0 lK0 nK0 mK0); obtain ⟨cK0_0, cK0_1, cK0_2, cK0_3, cK0_4, cK0_5, cK0_6, fK0, lK0, nK0, mK0⟩ := Blk.all7 K0; have K1 := fun cs => Blk.new w' cs 111) | (go_at_call 213; with_reducible refine (aa.out _ zq11).mono ?_; rintro e w' ⟨rfl, hk, hg⟩; have GB := gb_step (w := w) zq20 hg; have K0 := hk; (try clear cK0_0 cK0_1 cK0_2 cK0_3 cK0_4 cK0_5 cK0_6 fK0 lK0 nK0 mK0); obtain ⟨cK0_0, cK0_1, cK0_2, cK0_3, cK0_4, cK0_5, cK0_6, fK0, lK0, nK0, mK0⟩ := Blk.all7 K0) | fail)
    go_end0
    exact ⟨rfl, ⟨zq11, zq20⟩⟩
  · rw [hg] at ga
    simp only [cond_true] at ga
    rcases (by omega : ansS s = 1 ∨ ansS s = 2 ∨ ansS s = 3 ∨ ansS s = 0 ∨ (ansS s ≠ 0 ∧ ansS s ≠ 1 ∧ ansS s ≠ 2 ∧ ansS s ≠ 3)) with hs | hs | hs | hs | ⟨n0, n1, n2, n3⟩
    · have er : (polledH h s).cs = #[.int .i64 h.ph, .string h.im, .int .i64 h.bl, .bool h.ag, .int .i64 h.tr, .string h.rd, .int .i64 h.rp] := by simp [HS.cs, polledH, hg, hs]
      rw [er]
      rw [hs] at ga
      clear hs
      clear hg
      go_enter Tryz.func208, Tryz.ntmps208
      go_wp2_with (first | (go_at_call 255; with_reducible refine (ga.out _).mono ?_; rintro e w' ⟨rfl, hb⟩; have GB := gb_bel (w := w) zq20 hb; have K0 := Blk.on zq3 zq23 hb; (try clear cK0_0 cK0_1 cK0_2 cK0_3 cK0_4 cK0_5 cK0_6 fK0 lK0 nK0 mK0); obtain ⟨cK0_0, cK0_1, cK0_2, cK0_3, cK0_4, cK0_5, cK0_6, fK0, lK0, nK0, mK0⟩ := Blk.all7 K0; have K1 := fun cs => Blk.new w' cs 111) | (go_at_call 213; with_reducible refine (aa.out _ zq11).mono ?_; rintro e w' ⟨rfl, hk, hg⟩; have GB := gb_step (w := w) zq20 hg; have K0 := hk; (try clear cK0_0 cK0_1 cK0_2 cK0_3 cK0_4 cK0_5 cK0_6 fK0 lK0 nK0 mK0); obtain ⟨cK0_0, cK0_1, cK0_2, cK0_3, cK0_4, cK0_5, cK0_6, fK0, lK0, nK0, mK0⟩ := Blk.all7 K0) | fail)
      go_end0
      exact ⟨rfl, ⟨zq11, zq20⟩⟩
    · have er : (polledH h s).cs = #[.int .i64 h.ph, .string h.im, .int .i64 h.bl, .bool h.ag, .int .i64 h.tr, .string h.rd, .int .i64 h.rp] := by simp [HS.cs, polledH, hg, hs]
      rw [er]
      rw [hs] at ga
      clear hs
      clear hg
      go_enter Tryz.func208, Tryz.ntmps208
      go_wp2_with (first | (go_at_call 255; with_reducible refine (ga.out _).mono ?_; rintro e w' ⟨rfl, hb⟩; have GB := gb_bel (w := w) zq20 hb; have K0 := Blk.on zq3 zq23 hb; (try clear cK0_0 cK0_1 cK0_2 cK0_3 cK0_4 cK0_5 cK0_6 fK0 lK0 nK0 mK0); obtain ⟨cK0_0, cK0_1, cK0_2, cK0_3, cK0_4, cK0_5, cK0_6, fK0, lK0, nK0, mK0⟩ := Blk.all7 K0; have K1 := fun cs => Blk.new w' cs 111) | (go_at_call 213; with_reducible refine (aa.out _ zq11).mono ?_; rintro e w' ⟨rfl, hk, hg⟩; have GB := gb_step (w := w) zq20 hg; have K0 := hk; (try clear cK0_0 cK0_1 cK0_2 cK0_3 cK0_4 cK0_5 cK0_6 fK0 lK0 nK0 mK0); obtain ⟨cK0_0, cK0_1, cK0_2, cK0_3, cK0_4, cK0_5, cK0_6, fK0, lK0, nK0, mK0⟩ := Blk.all7 K0) | fail)
      go_end0
      exact ⟨rfl, ⟨zq11, zq20⟩⟩
    · cases hag : h.ag
      · rw [hag] at K0 cK0_3 aa
        by_cases hbk : h.bl + 1 < manyI h.im
        · have er : (polledH h s).cs = #[.int .i64 (2), .string (h.im), .int .i64 (h.bl + 1), .bool (false), .int .i64 (h.tr), .string (h.rd), .int .i64 (h.rp)] := by simp [HS.cs, polledH, hg, hs, hag, hbk]
          rw [er]
          rw [hs] at ga
          clear hs
          clear hg hag
          go_enter Tryz.func208, Tryz.ntmps208
          go_wp2_with (first | (go_at_call 255; with_reducible refine (ga.out _).mono ?_; rintro e w' ⟨rfl, hb⟩; have GB := gb_bel (w := w) zq20 hb; have K0 := Blk.on zq3 zq23 hb; (try clear cK0_0 cK0_1 cK0_2 cK0_3 cK0_4 cK0_5 cK0_6 fK0 lK0 nK0 mK0); obtain ⟨cK0_0, cK0_1, cK0_2, cK0_3, cK0_4, cK0_5, cK0_6, fK0, lK0, nK0, mK0⟩ := Blk.all7 K0; have K1 := fun cs => Blk.new w' cs 111) | (go_at_call 256; with_reducible refine (next1_c _ _ _ _ _ _ _ _ _ zq11 bl0 hbk im1).mono ?_; rintro e w' ⟨rfl, hk, hg⟩; have GB := gb_step (w := w) zq20 hg; have K0 := hk; (try clear cK0_0 cK0_1 cK0_2 cK0_3 cK0_4 cK0_5 cK0_6 fK0 lK0 nK0 mK0); obtain ⟨cK0_0, cK0_1, cK0_2, cK0_3, cK0_4, cK0_5, cK0_6, fK0, lK0, nK0, mK0⟩ := Blk.all7 K0) | fail)
          go_end0
          exact ⟨rfl, ⟨zq11, zq20⟩⟩
        · have hb' := hbk
          have hbk : manyI h.im ≤ h.bl + 1 := by omega
          have er : (polledH h s).cs = #[.int .i64 (4), .string (h.im), .int .i64 (manyI h.im), .bool (false), .int .i64 (h.tr), .string (h.rd), .int .i64 (h.rp)] := by simp [HS.cs, polledH, hg, hs, hag, hb']
          rw [er]
          rw [hs] at ga
          clear hs
          clear hg hag
          go_enter Tryz.func208, Tryz.ntmps208
          go_wp2_with (first | (go_at_call 255; with_reducible refine (ga.out _).mono ?_; rintro e w' ⟨rfl, hb⟩; have GB := gb_bel (w := w) zq20 hb; have K0 := Blk.on zq3 zq23 hb; (try clear cK0_0 cK0_1 cK0_2 cK0_3 cK0_4 cK0_5 cK0_6 fK0 lK0 nK0 mK0); obtain ⟨cK0_0, cK0_1, cK0_2, cK0_3, cK0_4, cK0_5, cK0_6, fK0, lK0, nK0, mK0⟩ := Blk.all7 K0; have K1 := fun cs => Blk.new w' cs 111) | (go_at_call 256; with_reducible refine (next2_c _ _ _ _ _ _ _ _ _ zq11 bl0 hbk im1 bl1).mono ?_; rintro e w' ⟨rfl, hk, hg⟩; have GB := gb_step (w := w) zq20 hg; have K0 := hk; (try clear cK0_0 cK0_1 cK0_2 cK0_3 cK0_4 cK0_5 cK0_6 fK0 lK0 nK0 mK0); obtain ⟨cK0_0, cK0_1, cK0_2, cK0_3, cK0_4, cK0_5, cK0_6, fK0, lK0, nK0, mK0⟩ := Blk.all7 K0) | fail)
          go_end0
          exact ⟨rfl, ⟨zq11, zq20⟩⟩
      · rw [hag] at K0 cK0_3 aa
        have er : (polledH h s).cs = #[.int .i64 (2), .string (h.im), .int .i64 (h.bl), .bool (false), .int .i64 (h.tr), .string (h.rd), .int .i64 (h.rp)] := by simp [HS.cs, polledH, hg, hs, hag]
        rw [er]
        rw [hs] at ga
        clear hs
        clear hg hag
        go_enter Tryz.func208, Tryz.ntmps208
        go_wp2_with (first | (go_at_call 255; with_reducible refine (ga.out _).mono ?_; rintro e w' ⟨rfl, hb⟩; have GB := gb_bel (w := w) zq20 hb; have K0 := Blk.on zq3 zq23 hb; (try clear cK0_0 cK0_1 cK0_2 cK0_3 cK0_4 cK0_5 cK0_6 fK0 lK0 nK0 mK0); obtain ⟨cK0_0, cK0_1, cK0_2, cK0_3, cK0_4, cK0_5, cK0_6, fK0, lK0, nK0, mK0⟩ := Blk.all7 K0; have K1 := fun cs => Blk.new w' cs 111) | (go_at_call 213; with_reducible refine (aa.out _ zq11).mono ?_; rintro e w' ⟨rfl, hk, hg⟩; have GB := gb_step (w := w) zq20 hg; have K0 := hk; (try clear cK0_0 cK0_1 cK0_2 cK0_3 cK0_4 cK0_5 cK0_6 fK0 lK0 nK0 mK0); obtain ⟨cK0_0, cK0_1, cK0_2, cK0_3, cK0_4, cK0_5, cK0_6, fK0, lK0, nK0, mK0⟩ := Blk.all7 K0) | fail)
        go_end0
        exact ⟨rfl, ⟨zq11, zq20⟩⟩
    · cases hag : h.ag
      · rw [hag] at K0 cK0_3 aa
        have er : (polledH h s).cs = (anewH h).cs := by simp [HS.cs, polledH, hg, hs, hag]
        rw [er]
        rw [hs] at ga
        clear hs
        clear hg hag
        go_enter Tryz.func208, Tryz.ntmps208
        go_wp2_with (first | (go_at_call 255; with_reducible refine (ga.out _).mono ?_; rintro e w' ⟨rfl, hb⟩; have GB := gb_bel (w := w) zq20 hb; have K0 := Blk.on zq3 zq23 hb; (try clear cK0_0 cK0_1 cK0_2 cK0_3 cK0_4 cK0_5 cK0_6 fK0 lK0 nK0 mK0); obtain ⟨cK0_0, cK0_1, cK0_2, cK0_3, cK0_4, cK0_5, cK0_6, fK0, lK0, nK0, mK0⟩ := Blk.all7 K0; have K1 := fun cs => Blk.new w' cs 111) | (go_at_call 213; with_reducible refine (aa.out _ zq11).mono ?_; rintro e w' ⟨rfl, hk, hg⟩; have GB := gb_step (w := w) zq20 hg; have K0 := hk; (try clear cK0_0 cK0_1 cK0_2 cK0_3 cK0_4 cK0_5 cK0_6 fK0 lK0 nK0 mK0); obtain ⟨cK0_0, cK0_1, cK0_2, cK0_3, cK0_4, cK0_5, cK0_6, fK0, lK0, nK0, mK0⟩ := Blk.all7 K0) | fail)
        go_end0
        exact ⟨rfl, ⟨zq11, zq20⟩⟩
      · rw [hag] at K0 cK0_3 aa
        by_cases hb : h.bl = 0
        · have hb2 : (h.bl == 0) = true := by simp [hb]
          have er : (polledH h s).cs = #[.int .i64 (2), .string (h.im), .int .i64 (h.bl), .bool (false), .int .i64 (h.tr), .string (h.rd), .int .i64 (h.rp)] := by simp [HS.cs, polledH, hg, hs, hag, hb]
          rw [er]
          rw [hs] at ga
          clear hs
          clear hg hag hb
          go_enter Tryz.func208, Tryz.ntmps208
          go_wp2_with (first | (go_at_call 255; with_reducible refine (ga.out _).mono ?_; rintro e w' ⟨rfl, hb⟩; have GB := gb_bel (w := w) zq20 hb; have K0 := Blk.on zq3 zq23 hb; (try clear cK0_0 cK0_1 cK0_2 cK0_3 cK0_4 cK0_5 cK0_6 fK0 lK0 nK0 mK0); obtain ⟨cK0_0, cK0_1, cK0_2, cK0_3, cK0_4, cK0_5, cK0_6, fK0, lK0, nK0, mK0⟩ := Blk.all7 K0; have K1 := fun cs => Blk.new w' cs 111) | (go_at_call 213; with_reducible refine (aa.out _ zq11).mono ?_; rintro e w' ⟨rfl, hk, hg⟩; have GB := gb_step (w := w) zq20 hg; have K0 := hk; (try clear cK0_0 cK0_1 cK0_2 cK0_3 cK0_4 cK0_5 cK0_6 fK0 lK0 nK0 mK0); obtain ⟨cK0_0, cK0_1, cK0_2, cK0_3, cK0_4, cK0_5, cK0_6, fK0, lK0, nK0, mK0⟩ := Blk.all7 K0) | fail)
          go_end0
          exact ⟨rfl, ⟨zq11, zq20⟩⟩
        · have hb2 : (h.bl == 0) = false := by simp [hb]
          have er : (polledH h s).cs = (anewH h).cs := by simp [HS.cs, polledH, hg, hs, hag, hb]
          rw [er]
          rw [hs] at ga
          clear hs
          clear hg hag hb
          go_enter Tryz.func208, Tryz.ntmps208
          go_wp2_with (first | (go_at_call 255; with_reducible refine (ga.out _).mono ?_; rintro e w' ⟨rfl, hb⟩; have GB := gb_bel (w := w) zq20 hb; have K0 := Blk.on zq3 zq23 hb; (try clear cK0_0 cK0_1 cK0_2 cK0_3 cK0_4 cK0_5 cK0_6 fK0 lK0 nK0 mK0); obtain ⟨cK0_0, cK0_1, cK0_2, cK0_3, cK0_4, cK0_5, cK0_6, fK0, lK0, nK0, mK0⟩ := Blk.all7 K0; have K1 := fun cs => Blk.new w' cs 111) | (go_at_call 213; with_reducible refine (aa.out _ zq11).mono ?_; rintro e w' ⟨rfl, hk, hg⟩; have GB := gb_step (w := w) zq20 hg; have K0 := hk; (try clear cK0_0 cK0_1 cK0_2 cK0_3 cK0_4 cK0_5 cK0_6 fK0 lK0 nK0 mK0); obtain ⟨cK0_0, cK0_1, cK0_2, cK0_3, cK0_4, cK0_5, cK0_6, fK0, lK0, nK0, mK0⟩ := Blk.all7 K0) | fail)
          go_end0
          exact ⟨rfl, ⟨zq11, zq20⟩⟩
    · have er : (polledH h s).cs = (anewH h).cs := by simp [HS.cs, polledH, hg, n0, n1, n2, n3]
      rw [er]
      have s0 : (ansS s == 0) = false := beq_eq_false_iff_ne.2 (by omega)
      have s1 : (ansS s == 1) = false := beq_eq_false_iff_ne.2 (by omega)
      have s2 : (ansS s == 2) = false := beq_eq_false_iff_ne.2 (by omega)
      have s3 : (ansS s == 3) = false := beq_eq_false_iff_ne.2 (by omega)
      generalize ansS s = st at *
      clear hg
      go_enter Tryz.func208, Tryz.ntmps208
      go_wp2_with (first | (go_at_call 255; with_reducible refine (ga.out _).mono ?_; rintro e w' ⟨rfl, hb⟩; have GB := gb_bel (w := w) zq20 hb; have K0 := Blk.on zq3 zq23 hb; (try clear cK0_0 cK0_1 cK0_2 cK0_3 cK0_4 cK0_5 cK0_6 fK0 lK0 nK0 mK0); obtain ⟨cK0_0, cK0_1, cK0_2, cK0_3, cK0_4, cK0_5, cK0_6, fK0, lK0, nK0, mK0⟩ := Blk.all7 K0; have K1 := fun cs => Blk.new w' cs 111) | (go_at_call 213; with_reducible refine (aa.out _ zq11).mono ?_; rintro e w' ⟨rfl, hk, hg⟩; have GB := gb_step (w := w) zq20 hg; have K0 := hk; (try clear cK0_0 cK0_1 cK0_2 cK0_3 cK0_4 cK0_5 cK0_6 fK0 lK0 nK0 mK0); obtain ⟨cK0_0, cK0_1, cK0_2, cK0_3, cK0_4, cK0_5, cK0_6, fK0, lK0, nK0, mK0⟩ := Blk.all7 K0) | fail)
      go_end0
      exact ⟨rfl, ⟨zq11, zq20⟩⟩
set_option maxHeartbeats 6400000 in
theorem wait_c (g : Nat) (h : HS) (s : ByteArray) (w : World) (K0 : Blk w g #[.int .i64 h.ph, .string h.im, .int .i64 h.bl, .bool h.ag, .int .i64 h.tr, .string h.rd, .int .i64 h.rp] 251) (ok : h.Ok) : Calls Tryz.prog 210 #[.pointer (some ⟨g, 0, none⟩), .string s] w fun e w' => e = .returned (.tuple #[]) ∧ Blk w' g (waitedH h s).cs 251 ∧ w.grownBy w' (some g) := by
  obtain ⟨ph0, ph1, im0, im1, bl0, bl1, tr0, tr1, rd1, rp0, rp1⟩ := ok
  have GB := gb_refl w g
  obtain ⟨cK0_0, cK0_1, cK0_2, cK0_3, cK0_4, cK0_5, cK0_6, fK0, lK0, nK0, mK0⟩ := Blk.all7 K0
  obtain ⟨u1, u2, hv⟩ := gotV_form s
  have ga := Lib.hid (fun W : World => get_c s W)
  rw [hv] at ga
  have aa := Lib.hid (fun (W : World) (K : Blk W g #[.int .i64 h.ph, .string h.im, .int .i64 h.bl, .bool h.ag, .int .i64 h.tr, .string h.rd, .int .i64 h.rp] 251) => anew_c g h W K tr0 tr1)
  cases hg : gotB s
  · rw [hg] at ga
    simp only [cond_false] at ga
    have er : (waitedH h s).cs = (anewH h).cs := by simp [HS.cs, waitedH, hg]
    rw [er]
    clear hg
    go_enter Tryz.func210, Tryz.ntmps210
    go_wp2_with (first | (go_at_call 255; with_reducible refine (ga.out _).mono ?_; rintro e w' ⟨rfl, hb⟩; have GB := gb_bel (w := w) zq20 hb; have K0 := Blk.on zq3 zq23 hb; (try clear cK0_0 cK0_1 cK0_2 cK0_3 cK0_4 cK0_5 cK0_6 fK0 lK0 nK0 mK0); obtain ⟨cK0_0, cK0_1, cK0_2, cK0_3, cK0_4, cK0_5, cK0_6, fK0, lK0, nK0, mK0⟩ := Blk.all7 K0; have K1 := fun cs => Blk.new w' cs 111) | (go_at_call 213; with_reducible refine (aa.out _ zq11).mono ?_; rintro e w' ⟨rfl, hk, hg⟩; have GB := gb_step (w := w) zq20 hg; have K0 := hk; (try clear cK0_0 cK0_1 cK0_2 cK0_3 cK0_4 cK0_5 cK0_6 fK0 lK0 nK0 mK0); obtain ⟨cK0_0, cK0_1, cK0_2, cK0_3, cK0_4, cK0_5, cK0_6, fK0, lK0, nK0, mK0⟩ := Blk.all7 K0) | fail)
    go_end0
    exact ⟨rfl, ⟨zq11, zq20⟩⟩
  · rw [hg] at ga
    simp only [cond_true] at ga
    rcases (by omega : ansS s = 0 ∨ ansS s = 3 ∨ ansS s = 4 ∨ ansS s = 5 ∨ (ansS s ≠ 0 ∧ ansS s ≠ 3 ∧ ansS s ≠ 4 ∧ ansS s ≠ 5)) with hs | hs | hs | hs | ⟨n0, n3, n4, n5⟩
    · have er : (waitedH h s).cs = #[.int .i64 (6), .string (h.im), .int .i64 (0), .bool (false), .int .i64 (h.tr), .string (⟨#[]⟩), .int .i64 (h.rp)] := by simp [HS.cs, waitedH, hg, hs]
      rw [er]
      rw [hs] at ga
      clear hs
      clear hg
      go_enter Tryz.func210, Tryz.ntmps210
      go_wp2_with (first | (go_at_call 255; with_reducible refine (ga.out _).mono ?_; rintro e w' ⟨rfl, hb⟩; have GB := gb_bel (w := w) zq20 hb; have K0 := Blk.on zq3 zq23 hb; (try clear cK0_0 cK0_1 cK0_2 cK0_3 cK0_4 cK0_5 cK0_6 fK0 lK0 nK0 mK0); obtain ⟨cK0_0, cK0_1, cK0_2, cK0_3, cK0_4, cK0_5, cK0_6, fK0, lK0, nK0, mK0⟩ := Blk.all7 K0; have K1 := fun cs => Blk.new w' cs 111) | (go_at_call 254; with_reducible refine (to_c _ _ _ _ _ _ _ _ _ _ zq11).mono ?_; rintro e w' ⟨rfl, hk, hg⟩; have GB := gb_step (w := w) zq20 hg; have K0 := hk; (try clear cK0_0 cK0_1 cK0_2 cK0_3 cK0_4 cK0_5 cK0_6 fK0 lK0 nK0 mK0); obtain ⟨cK0_0, cK0_1, cK0_2, cK0_3, cK0_4, cK0_5, cK0_6, fK0, lK0, nK0, mK0⟩ := Blk.all7 K0) | fail)
      go_end0
      exact ⟨rfl, ⟨zq11, zq20⟩⟩
    · cases hag : h.ag
      · rw [hag] at K0 cK0_3 aa
        have er : (waitedH h s).cs = (anewH h).cs := by simp [HS.cs, waitedH, hg, hs, hag]
        rw [er]
        rw [hs] at ga
        clear hs
        clear hg hag
        go_enter Tryz.func210, Tryz.ntmps210
        go_wp2_with (first | (go_at_call 255; with_reducible refine (ga.out _).mono ?_; rintro e w' ⟨rfl, hb⟩; have GB := gb_bel (w := w) zq20 hb; have K0 := Blk.on zq3 zq23 hb; (try clear cK0_0 cK0_1 cK0_2 cK0_3 cK0_4 cK0_5 cK0_6 fK0 lK0 nK0 mK0); obtain ⟨cK0_0, cK0_1, cK0_2, cK0_3, cK0_4, cK0_5, cK0_6, fK0, lK0, nK0, mK0⟩ := Blk.all7 K0; have K1 := fun cs => Blk.new w' cs 111) | (go_at_call 213; with_reducible refine (aa.out _ zq11).mono ?_; rintro e w' ⟨rfl, hk, hg⟩; have GB := gb_step (w := w) zq20 hg; have K0 := hk; (try clear cK0_0 cK0_1 cK0_2 cK0_3 cK0_4 cK0_5 cK0_6 fK0 lK0 nK0 mK0); obtain ⟨cK0_0, cK0_1, cK0_2, cK0_3, cK0_4, cK0_5, cK0_6, fK0, lK0, nK0, mK0⟩ := Blk.all7 K0) | fail)
        go_end0
        exact ⟨rfl, ⟨zq11, zq20⟩⟩
      · rw [hag] at K0 cK0_3 aa
        have er : (waitedH h s).cs = #[.int .i64 (4), .string (h.im), .int .i64 (h.bl), .bool (false), .int .i64 (h.tr), .string (h.rd), .int .i64 (h.rp)] := by simp [HS.cs, waitedH, hg, hs, hag]
        rw [er]
        rw [hs] at ga
        clear hs
        clear hg hag
        go_enter Tryz.func210, Tryz.ntmps210
        go_wp2_with (first | (go_at_call 255; with_reducible refine (ga.out _).mono ?_; rintro e w' ⟨rfl, hb⟩; have GB := gb_bel (w := w) zq20 hb; have K0 := Blk.on zq3 zq23 hb; (try clear cK0_0 cK0_1 cK0_2 cK0_3 cK0_4 cK0_5 cK0_6 fK0 lK0 nK0 mK0); obtain ⟨cK0_0, cK0_1, cK0_2, cK0_3, cK0_4, cK0_5, cK0_6, fK0, lK0, nK0, mK0⟩ := Blk.all7 K0; have K1 := fun cs => Blk.new w' cs 111) | (go_at_call 213; with_reducible refine (aa.out _ zq11).mono ?_; rintro e w' ⟨rfl, hk, hg⟩; have GB := gb_step (w := w) zq20 hg; have K0 := hk; (try clear cK0_0 cK0_1 cK0_2 cK0_3 cK0_4 cK0_5 cK0_6 fK0 lK0 nK0 mK0); obtain ⟨cK0_0, cK0_1, cK0_2, cK0_3, cK0_4, cK0_5, cK0_6, fK0, lK0, nK0, mK0⟩ := Blk.all7 K0) | fail)
        go_end0
        exact ⟨rfl, ⟨zq11, zq20⟩⟩
    · have er : (waitedH h s).cs = #[.int .i64 h.ph, .string h.im, .int .i64 h.bl, .bool h.ag, .int .i64 h.tr, .string h.rd, .int .i64 h.rp] := by simp [HS.cs, waitedH, hg, hs]
      rw [er]
      rw [hs] at ga
      clear hs
      clear hg
      go_enter Tryz.func210, Tryz.ntmps210
      go_wp2_with (first | (go_at_call 255; with_reducible refine (ga.out _).mono ?_; rintro e w' ⟨rfl, hb⟩; have GB := gb_bel (w := w) zq20 hb; have K0 := Blk.on zq3 zq23 hb; (try clear cK0_0 cK0_1 cK0_2 cK0_3 cK0_4 cK0_5 cK0_6 fK0 lK0 nK0 mK0); obtain ⟨cK0_0, cK0_1, cK0_2, cK0_3, cK0_4, cK0_5, cK0_6, fK0, lK0, nK0, mK0⟩ := Blk.all7 K0; have K1 := fun cs => Blk.new w' cs 111) | (go_at_call 213; with_reducible refine (aa.out _ zq11).mono ?_; rintro e w' ⟨rfl, hk, hg⟩; have GB := gb_step (w := w) zq20 hg; have K0 := hk; (try clear cK0_0 cK0_1 cK0_2 cK0_3 cK0_4 cK0_5 cK0_6 fK0 lK0 nK0 mK0); obtain ⟨cK0_0, cK0_1, cK0_2, cK0_3, cK0_4, cK0_5, cK0_6, fK0, lK0, nK0, mK0⟩ := Blk.all7 K0) | fail)
      go_end0
      exact ⟨rfl, ⟨zq11, zq20⟩⟩
    · have er : (waitedH h s).cs = #[.int .i64 h.ph, .string h.im, .int .i64 h.bl, .bool h.ag, .int .i64 h.tr, .string h.rd, .int .i64 h.rp] := by simp [HS.cs, waitedH, hg, hs]
      rw [er]
      rw [hs] at ga
      clear hs
      clear hg
      go_enter Tryz.func210, Tryz.ntmps210
      go_wp2_with (first | (go_at_call 255; with_reducible refine (ga.out _).mono ?_; rintro e w' ⟨rfl, hb⟩; have GB := gb_bel (w := w) zq20 hb; have K0 := Blk.on zq3 zq23 hb; (try clear cK0_0 cK0_1 cK0_2 cK0_3 cK0_4 cK0_5 cK0_6 fK0 lK0 nK0 mK0); obtain ⟨cK0_0, cK0_1, cK0_2, cK0_3, cK0_4, cK0_5, cK0_6, fK0, lK0, nK0, mK0⟩ := Blk.all7 K0; have K1 := fun cs => Blk.new w' cs 111) | (go_at_call 213; with_reducible refine (aa.out _ zq11).mono ?_; rintro e w' ⟨rfl, hk, hg⟩; have GB := gb_step (w := w) zq20 hg; have K0 := hk; (try clear cK0_0 cK0_1 cK0_2 cK0_3 cK0_4 cK0_5 cK0_6 fK0 lK0 nK0 mK0); obtain ⟨cK0_0, cK0_1, cK0_2, cK0_3, cK0_4, cK0_5, cK0_6, fK0, lK0, nK0, mK0⟩ := Blk.all7 K0) | fail)
      go_end0
      exact ⟨rfl, ⟨zq11, zq20⟩⟩
    · have er : (waitedH h s).cs = (anewH h).cs := by simp [HS.cs, waitedH, hg, n0, n3, n4, n5]
      rw [er]
      have s0 : (ansS s == 0) = false := beq_eq_false_iff_ne.2 (by omega)
      have s3 : (ansS s == 3) = false := beq_eq_false_iff_ne.2 (by omega)
      have s4 : (ansS s == 4) = false := beq_eq_false_iff_ne.2 (by omega)
      have s5 : (ansS s == 5) = false := beq_eq_false_iff_ne.2 (by omega)
      generalize ansS s = st at *
      clear hg
      go_enter Tryz.func210, Tryz.ntmps210
      go_wp2_with (first | (go_at_call 255; with_reducible refine (ga.out _).mono ?_; rintro e w' ⟨rfl, hb⟩; have GB := gb_bel (w := w) zq20 hb; have K0 := Blk.on zq3 zq23 hb; (try clear cK0_0 cK0_1 cK0_2 cK0_3 cK0_4 cK0_5 cK0_6 fK0 lK0 nK0 mK0); obtain ⟨cK0_0, cK0_1, cK0_2, cK0_3, cK0_4, cK0_5, cK0_6, fK0, lK0, nK0, mK0⟩ := Blk.all7 K0; have K1 := fun cs => Blk.new w' cs 111) | (go_at_call 213; with_reducible refine (aa.out _ zq11).mono ?_; rintro e w' ⟨rfl, hk, hg⟩; have GB := gb_step (w := w) zq20 hg; have K0 := hk; (try clear cK0_0 cK0_1 cK0_2 cK0_3 cK0_4 cK0_5 cK0_6 fK0 lK0 nK0 mK0); obtain ⟨cK0_0, cK0_1, cK0_2, cK0_3, cK0_4, cK0_5, cK0_6, fK0, lK0, nK0, mK0⟩ := Blk.all7 K0) | fail)
      go_end0
      exact ⟨rfl, ⟨zq11, zq20⟩⟩
end Go.Proofs.YtccblleobcidfaaGreat.Rp
end
/- Layer 23: replies: the program's methods: read. -/
section
namespace Go.Proofs.YtccblleobcidfaaGreat.Rp
open Go.RowKit Go.Proofs.YtccblleobcidfaaGreat.Kt Go.Proofs.YtccblleobcidfaaGreat.Lw Go.Proofs.YtccblleobcidfaaGreat.St Go.Proofs.YtccblleobcidfaaGreat.Nm Go.Proofs.YtccblleobcidfaaGreat.An Go.Proofs.YtccblleobcidfaaGreat.Ho
set_option linter.unusedVariables false
set_option linter.unusedSimpArgs false
set_option maxHeartbeats 6400000 in
theorem read_c (g : Nat) (h : HS) (s : ByteArray) (w : World) (K0 : Blk w g #[.int .i64 h.ph, .string h.im, .int .i64 h.bl, .bool h.ag, .int .i64 h.tr, .string h.rd, .int .i64 h.rp] 251) (ok : h.Ok) (hs0 : s.size ≤ 140737488351232) : Calls Tryz.prog 211 #[.pointer (some ⟨g, 0, none⟩), .string s] w fun e w' => e = .returned (.tuple #[]) ∧ Blk w' g (readH h s).cs 251 ∧ w.grownBy w' (some g) := by
  obtain ⟨ph0, ph1, im0, im1, bl0, bl1, tr0, tr1, rd1, rp0, rp1⟩ := ok
  have GB := gb_refl w g
  obtain ⟨cK0_0, cK0_1, cK0_2, cK0_3, cK0_4, cK0_5, cK0_6, fK0, lK0, nK0, mK0⟩ := Blk.all7 K0
  have q : (9223372036854775807 < h.rd.size + s.size) = False := eq_false (by omega)
  have hz : (h.rd ++ s).size = h.rd.size + s.size := ByteArray.size_append
  have b2 : manyI h.im ≤ 9 := by unfold manyI; omega
  by_cases h1 : 32 < s.size
  · have er : (readH h s).cs = (anewH h).cs := by simp [HS.cs, readH, h1]
    rw [er]
    go_enter Tryz.func211, Tryz.ntmps211
    go_wp2_with (first | (go_at_call 213; with_reducible refine (anew_c g h _ zq11 tr0 tr1).mono ?_; rintro e w' ⟨rfl, hk, hg⟩; have GB := gb_step (w := w) zq20 hg; have K0 := hk; (try clear cK0_0 cK0_1 cK0_2 cK0_3 cK0_4 cK0_5 cK0_6 fK0 lK0 nK0 mK0); obtain ⟨cK0_0, cK0_1, cK0_2, cK0_3, cK0_4, cK0_5, cK0_6, fK0, lK0, nK0, mK0⟩ := Blk.all7 K0) | fail)
    (try simp only [Exit.inBlock, Exit.then]); refine bodyPost_ret (results_none rfl _ _ _) rfl ?_
    exact ⟨rfl, ⟨zq11, zq20⟩⟩
  · by_cases h2 : s.size < 32
    · have i2 : (s.size : Int) < 32 := by omega
      have j2 : decide ((s.size : Int) < 32) = true := decide_eq_true i2
      by_cases h3 : h.rd ++ s = h.im
      · have e1 : ((h.rd ++ s).toList == h.im.toList) = true := eqs_t h3
        have er : (readH h s).cs = #[.int .i64 (7), .string (h.im), .int .i64 (0), .bool (h.ag), .int .i64 (h.tr), .string (⟨#[]⟩), .int .i64 (1)] := by rw [readH_2 h2 h3]
        rw [er]
        clear h3
        go_enter Tryz.func211, Tryz.ntmps211
        go_upto_region 4 with fail
        have K0 := Blk.set7_5 K0 (.string (h.rd ++ s))
        have GB := gb_set (j := 5) (v := .string (h.rd ++ s)) GB
        clear cK0_0 cK0_1 cK0_2 cK0_3 cK0_4 cK0_5 cK0_6 fK0 lK0 nK0 mK0
        generalize w.setCell ⟨g, 5, none⟩ (.string (h.rd ++ s)) = w1 at *
        obtain ⟨cK0_0, cK0_1, cK0_2, cK0_3, cK0_4, cK0_5, cK0_6, fK0, lK0, nK0, mK0⟩ := Blk.all7 K0
        have qK0_0 := fun s : Wld _ => Wld.cell cK0_0 s; have qK0_1 := fun s : Wld _ => Wld.cell cK0_1 s; have qK0_2 := fun s : Wld _ => Wld.cell cK0_2 s; have qK0_3 := fun s : Wld _ => Wld.cell cK0_3 s; have qK0_4 := fun s : Wld _ => Wld.cell cK0_4 s; have qK0_5 := fun s : Wld _ => Wld.cell cK0_5 s; have qK0_6 := fun s : Wld _ => Wld.cell cK0_6 s
        refine wld_lit (by kernel_rfl) (by kernel_rfl) ?_
        repeat (go_big_quiet_step (fail))
        refine wpQuiet_nil ?_; refine Wld.elim ?_; intro w' hb; clear qK0_0 qK0_1 qK0_2 qK0_3 qK0_4 qK0_5 qK0_6; have GB := gb_bel (w := w) zq20 hb; have K0 := Blk.on zq3 zq23 hb; (try clear cK0_0 cK0_1 cK0_2 cK0_3 cK0_4 cK0_5 cK0_6 fK0 lK0 nK0 mK0); obtain ⟨cK0_0, cK0_1, cK0_2, cK0_3, cK0_4, cK0_5, cK0_6, fK0, lK0, nK0, mK0⟩ := Blk.all7 K0
        go_wp2_with (first | (go_at_call 257; with_reducible refine (done_c _ _ _ _ _ _ _ _ _ _ zq11).mono ?_; rintro e w' ⟨rfl, hk, hg⟩; have GB := gb_step (w := w) zq20 hg; have K0 := hk; (try clear cK0_0 cK0_1 cK0_2 cK0_3 cK0_4 cK0_5 cK0_6 fK0 lK0 nK0 mK0); obtain ⟨cK0_0, cK0_1, cK0_2, cK0_3, cK0_4, cK0_5, cK0_6, fK0, lK0, nK0, mK0⟩ := Blk.all7 K0) | fail)
        go_end0
        exact ⟨rfl, ⟨zq11, zq20⟩⟩
      · have e1 : ((h.rd ++ s).toList == h.im.toList) = false := eqs_f h3
        have er : (readH h s).cs = (anewH ⟨h.ph, h.im, h.bl, h.ag, h.tr, h.rd ++ s, h.rp⟩).cs := by rw [readH_3 h2 h3]; (first | done | rfl | fail) --
        rw [er]
        clear h3
        go_enter Tryz.func211, Tryz.ntmps211
        go_upto_region 4 with fail
        have K0 := Blk.set7_5 K0 (.string (h.rd ++ s))
        have GB := gb_set (j := 5) (v := .string (h.rd ++ s)) GB
        clear cK0_0 cK0_1 cK0_2 cK0_3 cK0_4 cK0_5 cK0_6 fK0 lK0 nK0 mK0
        generalize w.setCell ⟨g, 5, none⟩ (.string (h.rd ++ s)) = w1 at *
        obtain ⟨cK0_0, cK0_1, cK0_2, cK0_3, cK0_4, cK0_5, cK0_6, fK0, lK0, nK0, mK0⟩ := Blk.all7 K0
        have qK0_0 := fun s : Wld _ => Wld.cell cK0_0 s; have qK0_1 := fun s : Wld _ => Wld.cell cK0_1 s; have qK0_2 := fun s : Wld _ => Wld.cell cK0_2 s; have qK0_3 := fun s : Wld _ => Wld.cell cK0_3 s; have qK0_4 := fun s : Wld _ => Wld.cell cK0_4 s; have qK0_5 := fun s : Wld _ => Wld.cell cK0_5 s; have qK0_6 := fun s : Wld _ => Wld.cell cK0_6 s
        refine wld_lit (by kernel_rfl) (by kernel_rfl) ?_
        repeat (go_big_quiet_step (fail))
        refine wpQuiet_nil ?_; refine Wld.elim ?_; intro w' hb; clear qK0_0 qK0_1 qK0_2 qK0_3 qK0_4 qK0_5 qK0_6; have GB := gb_bel (w := w) zq20 hb; have K0 := Blk.on zq3 zq23 hb; (try clear cK0_0 cK0_1 cK0_2 cK0_3 cK0_4 cK0_5 cK0_6 fK0 lK0 nK0 mK0); obtain ⟨cK0_0, cK0_1, cK0_2, cK0_3, cK0_4, cK0_5, cK0_6, fK0, lK0, nK0, mK0⟩ := Blk.all7 K0
        go_upto_region 6 with fail
        have qK0_0 := fun s : Wld _ => Wld.cell cK0_0 s; have qK0_1 := fun s : Wld _ => Wld.cell cK0_1 s; have qK0_2 := fun s : Wld _ => Wld.cell cK0_2 s; have qK0_3 := fun s : Wld _ => Wld.cell cK0_3 s; have qK0_4 := fun s : Wld _ => Wld.cell cK0_4 s; have qK0_5 := fun s : Wld _ => Wld.cell cK0_5 s; have qK0_6 := fun s : Wld _ => Wld.cell cK0_6 s
        refine wld_lit (by kernel_rfl) (by kernel_rfl) ?_
        repeat (go_big_quiet_step (first | (go_at_call 177; with_reducible exact Wld.same (hmany_c g _ _ (qK0_1 _) (by omega))) | fail))
        refine wpQuiet_nil ?_; refine Wld.elim ?_; intro w' hb; clear qK0_0 qK0_1 qK0_2 qK0_3 qK0_4 qK0_5 qK0_6; have GB := gb_bel (w := w) zq20 hb; have K0 := Blk.on zq3 zq23 hb; (try clear cK0_0 cK0_1 cK0_2 cK0_3 cK0_4 cK0_5 cK0_6 fK0 lK0 nK0 mK0); obtain ⟨cK0_0, cK0_1, cK0_2, cK0_3, cK0_4, cK0_5, cK0_6, fK0, lK0, nK0, mK0⟩ := Blk.all7 K0
        go_wp2_with (first | (go_at_call 213; with_reducible refine (anew_c g ⟨h.ph, h.im, h.bl, h.ag, h.tr, h.rd ++ s, h.rp⟩ _ zq11 tr0 tr1).mono ?_; rintro e w' ⟨rfl, hk, hg⟩; have GB := gb_step (w := w) zq20 hg; have K0 := hk; (try clear cK0_0 cK0_1 cK0_2 cK0_3 cK0_4 cK0_5 cK0_6 fK0 lK0 nK0 mK0); obtain ⟨cK0_0, cK0_1, cK0_2, cK0_3, cK0_4, cK0_5, cK0_6, fK0, lK0, nK0, mK0⟩ := Blk.all7 K0) | fail)
        go_end0
        exact ⟨rfl, ⟨zq11, zq20⟩⟩
    · have h4 : s.size = 32 := by omega
      have i2 : (32 : Int) ≤ (s.size : Int) := by omega
      have j2 : decide ((s.size : Int) < 32) = false := decide_eq_false (by omega)
      have HZ4 := Lib.hid h4
      by_cases h5 : h.im.size < (h.rd ++ s).size
      · have h6 := h5
        rw [hz] at h6
        have i6 : (h.im.size : Int) < ((h.rd.size + s.size : Nat) : Int) := by omega
        have j6 : decide (h.im.size < h.rd.size + s.size) = true := decide_eq_true h6
        have j7 : decide ((h.im.size : Int) < (h.rd.size : Int) + (s.size : Int)) = true := decide_eq_true (by omega)
        have j8 : decide ((h.im.size : Int) < (h.rd.size : Int) + 32) = true := decide_eq_true (by omega)
        have er : (readH h s).cs = (anewH ⟨h.ph, h.im, h.bl, h.ag, h.tr, h.rd ++ s, h.rp⟩).cs := by rw [readH_4 h1 h2 (.inl h5)]; (first | done | rfl | fail) --
        rw [er]
        clear h5 h4
        go_enter Tryz.func211, Tryz.ntmps211
        go_upto_region 4 with fail
        have K0 := Blk.set7_5 K0 (.string (h.rd ++ s))
        have GB := gb_set (j := 5) (v := .string (h.rd ++ s)) GB
        clear cK0_0 cK0_1 cK0_2 cK0_3 cK0_4 cK0_5 cK0_6 fK0 lK0 nK0 mK0
        generalize w.setCell ⟨g, 5, none⟩ (.string (h.rd ++ s)) = w1 at *
        obtain ⟨cK0_0, cK0_1, cK0_2, cK0_3, cK0_4, cK0_5, cK0_6, fK0, lK0, nK0, mK0⟩ := Blk.all7 K0
        have qK0_0 := fun s : Wld _ => Wld.cell cK0_0 s; have qK0_1 := fun s : Wld _ => Wld.cell cK0_1 s; have qK0_2 := fun s : Wld _ => Wld.cell cK0_2 s; have qK0_3 := fun s : Wld _ => Wld.cell cK0_3 s; have qK0_4 := fun s : Wld _ => Wld.cell cK0_4 s; have qK0_5 := fun s : Wld _ => Wld.cell cK0_5 s; have qK0_6 := fun s : Wld _ => Wld.cell cK0_6 s
        refine wld_lit (by kernel_rfl) (by kernel_rfl) ?_
        repeat (go_big_quiet_step (fail))
        refine wpQuiet_nil ?_; refine Wld.elim ?_; intro w' hb; clear qK0_0 qK0_1 qK0_2 qK0_3 qK0_4 qK0_5 qK0_6; have GB := gb_bel (w := w) zq20 hb; have K0 := Blk.on zq3 zq23 hb; (try clear cK0_0 cK0_1 cK0_2 cK0_3 cK0_4 cK0_5 cK0_6 fK0 lK0 nK0 mK0); obtain ⟨cK0_0, cK0_1, cK0_2, cK0_3, cK0_4, cK0_5, cK0_6, fK0, lK0, nK0, mK0⟩ := Blk.all7 K0
        go_upto_region 6 with fail
        have qK0_0 := fun s : Wld _ => Wld.cell cK0_0 s; have qK0_1 := fun s : Wld _ => Wld.cell cK0_1 s; have qK0_2 := fun s : Wld _ => Wld.cell cK0_2 s; have qK0_3 := fun s : Wld _ => Wld.cell cK0_3 s; have qK0_4 := fun s : Wld _ => Wld.cell cK0_4 s; have qK0_5 := fun s : Wld _ => Wld.cell cK0_5 s; have qK0_6 := fun s : Wld _ => Wld.cell cK0_6 s
        refine wld_lit (by kernel_rfl) (by kernel_rfl) ?_
        repeat (go_big_quiet_step (first | (go_at_call 177; with_reducible exact Wld.same (hmany_c g _ _ (qK0_1 _) (by omega))) | fail))
        refine wpQuiet_nil ?_; refine Wld.elim ?_; intro w' hb; clear qK0_0 qK0_1 qK0_2 qK0_3 qK0_4 qK0_5 qK0_6; have GB := gb_bel (w := w) zq20 hb; have K0 := Blk.on zq3 zq23 hb; (try clear cK0_0 cK0_1 cK0_2 cK0_3 cK0_4 cK0_5 cK0_6 fK0 lK0 nK0 mK0); obtain ⟨cK0_0, cK0_1, cK0_2, cK0_3, cK0_4, cK0_5, cK0_6, fK0, lK0, nK0, mK0⟩ := Blk.all7 K0
        go_wp2_with (first | (go_at_call 213; with_reducible refine (anew_c g ⟨h.ph, h.im, h.bl, h.ag, h.tr, h.rd ++ s, h.rp⟩ _ zq11 tr0 tr1).mono ?_; rintro e w' ⟨rfl, hk, hg⟩; have GB := gb_step (w := w) zq20 hg; have K0 := hk; (try clear cK0_0 cK0_1 cK0_2 cK0_3 cK0_4 cK0_5 cK0_6 fK0 lK0 nK0 mK0); obtain ⟨cK0_0, cK0_1, cK0_2, cK0_3, cK0_4, cK0_5, cK0_6, fK0, lK0, nK0, mK0⟩ := Blk.all7 K0) | fail)
        go_end0
        exact ⟨rfl, ⟨zq11, zq20⟩⟩
      · have h6 : (h.rd ++ s).size ≤ h.im.size := by omega
        rw [hz] at h6
        have i6 : ((h.rd.size + s.size : Nat) : Int) ≤ (h.im.size : Int) := by omega
        have j6 : decide (h.im.size < h.rd.size + s.size) = false := decide_eq_false (by omega)
        have j7 : decide ((h.im.size : Int) < (h.rd.size : Int) + (s.size : Int)) = false := decide_eq_false (by omega)
        have j8 : decide ((h.im.size : Int) < (h.rd.size : Int) + 32) = false := decide_eq_false (by omega)
        by_cases h7 : h.bl = manyI h.im
        · have e2 : (h.bl == manyI h.im) = true := by simp [h7]
          have er : (readH h s).cs = (anewH ⟨h.ph, h.im, h.bl, h.ag, h.tr, h.rd ++ s, h.rp⟩).cs := by rw [readH_4 h1 h2 (.inr h7)]; (first | done | rfl | fail) --
          rw [er]
          clear h5 h7 h4
          go_enter Tryz.func211, Tryz.ntmps211
          go_upto_region 4 with fail
          have K0 := Blk.set7_5 K0 (.string (h.rd ++ s))
          have GB := gb_set (j := 5) (v := .string (h.rd ++ s)) GB
          clear cK0_0 cK0_1 cK0_2 cK0_3 cK0_4 cK0_5 cK0_6 fK0 lK0 nK0 mK0
          generalize w.setCell ⟨g, 5, none⟩ (.string (h.rd ++ s)) = w1 at *
          obtain ⟨cK0_0, cK0_1, cK0_2, cK0_3, cK0_4, cK0_5, cK0_6, fK0, lK0, nK0, mK0⟩ := Blk.all7 K0
          have qK0_0 := fun s : Wld _ => Wld.cell cK0_0 s; have qK0_1 := fun s : Wld _ => Wld.cell cK0_1 s; have qK0_2 := fun s : Wld _ => Wld.cell cK0_2 s; have qK0_3 := fun s : Wld _ => Wld.cell cK0_3 s; have qK0_4 := fun s : Wld _ => Wld.cell cK0_4 s; have qK0_5 := fun s : Wld _ => Wld.cell cK0_5 s; have qK0_6 := fun s : Wld _ => Wld.cell cK0_6 s
          refine wld_lit (by kernel_rfl) (by kernel_rfl) ?_
          repeat (go_big_quiet_step (fail))
          refine wpQuiet_nil ?_; refine Wld.elim ?_; intro w' hb; clear qK0_0 qK0_1 qK0_2 qK0_3 qK0_4 qK0_5 qK0_6; have GB := gb_bel (w := w) zq20 hb; have K0 := Blk.on zq3 zq23 hb; (try clear cK0_0 cK0_1 cK0_2 cK0_3 cK0_4 cK0_5 cK0_6 fK0 lK0 nK0 mK0); obtain ⟨cK0_0, cK0_1, cK0_2, cK0_3, cK0_4, cK0_5, cK0_6, fK0, lK0, nK0, mK0⟩ := Blk.all7 K0
          go_upto_region 6 with fail
          have qK0_0 := fun s : Wld _ => Wld.cell cK0_0 s; have qK0_1 := fun s : Wld _ => Wld.cell cK0_1 s; have qK0_2 := fun s : Wld _ => Wld.cell cK0_2 s; have qK0_3 := fun s : Wld _ => Wld.cell cK0_3 s; have qK0_4 := fun s : Wld _ => Wld.cell cK0_4 s; have qK0_5 := fun s : Wld _ => Wld.cell cK0_5 s; have qK0_6 := fun s : Wld _ => Wld.cell cK0_6 s
          refine wld_lit (by kernel_rfl) (by kernel_rfl) ?_
          repeat (go_big_quiet_step (first | (go_at_call 177; with_reducible exact Wld.same (hmany_c g _ _ (qK0_1 _) (by omega))) | fail))
          refine wpQuiet_nil ?_; refine Wld.elim ?_; intro w' hb; clear qK0_0 qK0_1 qK0_2 qK0_3 qK0_4 qK0_5 qK0_6; have GB := gb_bel (w := w) zq20 hb; have K0 := Blk.on zq3 zq23 hb; (try clear cK0_0 cK0_1 cK0_2 cK0_3 cK0_4 cK0_5 cK0_6 fK0 lK0 nK0 mK0); obtain ⟨cK0_0, cK0_1, cK0_2, cK0_3, cK0_4, cK0_5, cK0_6, fK0, lK0, nK0, mK0⟩ := Blk.all7 K0
          go_wp2_with (first | (go_at_call 213; with_reducible refine (anew_c g ⟨h.ph, h.im, h.bl, h.ag, h.tr, h.rd ++ s, h.rp⟩ _ zq11 tr0 tr1).mono ?_; rintro e w' ⟨rfl, hk, hg⟩; have GB := gb_step (w := w) zq20 hg; have K0 := hk; (try clear cK0_0 cK0_1 cK0_2 cK0_3 cK0_4 cK0_5 cK0_6 fK0 lK0 nK0 mK0); obtain ⟨cK0_0, cK0_1, cK0_2, cK0_3, cK0_4, cK0_5, cK0_6, fK0, lK0, nK0, mK0⟩ := Blk.all7 K0) | fail)
          go_end0
          exact ⟨rfl, ⟨zq11, zq20⟩⟩
        · have e2 : (h.bl == manyI h.im) = false := by simp [h7]
          have h9 : ¬ (h.im.size < (h.rd ++ s).size ∨ h.bl = manyI h.im) := by simp only [not_or]; exact ⟨h5, h7⟩
          have er : (readH h s).cs = #[.int .i64 (h.ph), .string (h.im), .int .i64 (h.bl + 1), .bool (h.ag), .int .i64 (h.tr), .string (h.rd ++ s), .int .i64 (h.rp)] := by rw [readH_5 h1 h2 h9]
          rw [er]
          clear h5 h7 h9 h4
          go_enter Tryz.func211, Tryz.ntmps211
          go_upto_region 4 with fail
          have K0 := Blk.set7_5 K0 (.string (h.rd ++ s))
          have GB := gb_set (j := 5) (v := .string (h.rd ++ s)) GB
          clear cK0_0 cK0_1 cK0_2 cK0_3 cK0_4 cK0_5 cK0_6 fK0 lK0 nK0 mK0
          generalize w.setCell ⟨g, 5, none⟩ (.string (h.rd ++ s)) = w1 at *
          obtain ⟨cK0_0, cK0_1, cK0_2, cK0_3, cK0_4, cK0_5, cK0_6, fK0, lK0, nK0, mK0⟩ := Blk.all7 K0
          have qK0_0 := fun s : Wld _ => Wld.cell cK0_0 s; have qK0_1 := fun s : Wld _ => Wld.cell cK0_1 s; have qK0_2 := fun s : Wld _ => Wld.cell cK0_2 s; have qK0_3 := fun s : Wld _ => Wld.cell cK0_3 s; have qK0_4 := fun s : Wld _ => Wld.cell cK0_4 s; have qK0_5 := fun s : Wld _ => Wld.cell cK0_5 s; have qK0_6 := fun s : Wld _ => Wld.cell cK0_6 s
          refine wld_lit (by kernel_rfl) (by kernel_rfl) ?_
          repeat (go_big_quiet_step (fail))
          refine wpQuiet_nil ?_; refine Wld.elim ?_; intro w' hb; clear qK0_0 qK0_1 qK0_2 qK0_3 qK0_4 qK0_5 qK0_6; have GB := gb_bel (w := w) zq20 hb; have K0 := Blk.on zq3 zq23 hb; (try clear cK0_0 cK0_1 cK0_2 cK0_3 cK0_4 cK0_5 cK0_6 fK0 lK0 nK0 mK0); obtain ⟨cK0_0, cK0_1, cK0_2, cK0_3, cK0_4, cK0_5, cK0_6, fK0, lK0, nK0, mK0⟩ := Blk.all7 K0
          go_upto_region 6 with fail
          have qK0_0 := fun s : Wld _ => Wld.cell cK0_0 s; have qK0_1 := fun s : Wld _ => Wld.cell cK0_1 s; have qK0_2 := fun s : Wld _ => Wld.cell cK0_2 s; have qK0_3 := fun s : Wld _ => Wld.cell cK0_3 s; have qK0_4 := fun s : Wld _ => Wld.cell cK0_4 s; have qK0_5 := fun s : Wld _ => Wld.cell cK0_5 s; have qK0_6 := fun s : Wld _ => Wld.cell cK0_6 s
          refine wld_lit (by kernel_rfl) (by kernel_rfl) ?_
          repeat (go_big_quiet_step (first | (go_at_call 177; with_reducible exact Wld.same (hmany_c g _ _ (qK0_1 _) (by omega))) | fail))
          refine wpQuiet_nil ?_; refine Wld.elim ?_; intro w' hb; clear qK0_0 qK0_1 qK0_2 qK0_3 qK0_4 qK0_5 qK0_6; have GB := gb_bel (w := w) zq20 hb; have K0 := Blk.on zq3 zq23 hb; (try clear cK0_0 cK0_1 cK0_2 cK0_3 cK0_4 cK0_5 cK0_6 fK0 lK0 nK0 mK0); obtain ⟨cK0_0, cK0_1, cK0_2, cK0_3, cK0_4, cK0_5, cK0_6, fK0, lK0, nK0, mK0⟩ := Blk.all7 K0
          go_wp2_with fail
          go_end0
          exact ⟨rfl, ⟨zq11, zq20⟩⟩
end Go.Proofs.YtccblleobcidfaaGreat.Rp
end
