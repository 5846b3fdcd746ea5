/- Layer 10: the law's walk: BlockMany. -/
import Derived.Test.YtfnfnldndmkeeaaBkw
namespace Go.Proofs.Ytfnfnldndmkeeaa.Bk
open Go.RowKit Go.Proofs.Ytfnfnldndmkeeaa.Kt Go.Proofs.Ytfnfnldndmkeeaa.Lw Go.Proofs.Ytfnfnldndmkeeaa.St Go.Proofs.Ytfnfnldndmkeeaa.Nm Go.Proofs.Ytfnfnldndmkeeaa.Sl Go.Proofs.Ytfnfnldndmkeeaa.Bt
set_option linter.unusedVariables false
set_option linter.unusedSimpArgs false
theorem chunk_size (s : ByteArray) (k : Nat) : (chunkB s k).size = min (32 * k + 32) s.size - 32 * k := by
  unfold chunkB
  rw [ByteArray.size_extract]
  omega
theorem chunk_ext {s : ByteArray} {k : Nat} (h : 32 * k < s.size) : s.extract (32 * k) (32 * k + (chunkB s k).size) = chunkB s k := by
  rw [chunk_size]
  unfold chunkB
  congr 1
  omega
set_option maxRecDepth 100000 in
set_option maxHeartbeats 3200000 in
theorem many_y (s : ByteArray) (w : World) (h : rngB (s.size : Int) 1 288 = true) :
    Calls Try.prog 13 #[.string s] w fun e w' => e = .returned (.bool true) ∧ Below w.heap.size w w' := by
  have hb : 1 ≤ s.size ∧ s.size ≤ 288 := by simp [rngB] at h; omega
  obtain ⟨hb1, hb2⟩ := hb
  have hs := Lib.hid h
  have hmn : 32 * manyN s ≤ s.size + 31 ∧ s.size ≤ 32 * manyN s := by unfold manyN; omega
  have hmz : ((s.size : Int) + 31) / 32 = (manyN s : Int) := by unfold manyN; omega
  have hmn' := Lib.hid hmn
  have hmb : manyN s ≤ 9 := by omega
  clear h hmn
  go_enter Try.func13, Try.ntmps13
  go_wp2_with (first | (go_at_call 40; (with_reducible refine (awake_c _).mono ?_); rintro e w1 ⟨rfl, hb1'⟩) | (go_at_call 33; (with_reducible refine (split_t _ _ hs.out).mono ?_); rintro e w2 ⟨A, d, rfl, ⟨T1, hc⟩, hb2'⟩; have HB := bl_step hb1' hb2') | (go_at_call 19; with_reducible refine (enum_c _ _).mono ?_; rintro e w' ⟨rfl, rfl⟩) | fail)
  have T2 := Lib.hid T1
  clear T1
  go_loopg [5, 6] (manyN s) (fun gg s5 s6 wr => ∃ (k a : Nat), k ≤ manyN s ∧ manyN s - k ≤ gg ∧ s6 = .int .i64 k ∧ s5 = .int .i64 a ∧ Aside (a = min (32 * k) s.size) ∧ Aside (Below w2.heap.size w2 wr))
  case atStart => exact ⟨0, 0, Nat.zero_le _, by omega, rfl, rfl, (show Aside _ from (by simp : (0 : Nat) = min (32 * 0) s.size)), Below.refl _ _⟩
  case round =>
    obtain ⟨k, a, hk, hg, rfl, rfl, HA, BW⟩ := hrel
    by_cases hlt : k < manyN s
    · have hltz : (k : Int) < (manyN s : Int) := by omega
      have hm := hmn'.out
      have ha := HA.out
      have ha' : a = 32 * k := by omega
      obtain ⟨b, off, x, rfl, hbs, hx', hok, c0⟩ := (T2.out.below BW.out).at_ (j := k) (by rw [split_len]; exact hlt)
      have hxx : x = chunkB s k := by rw [split_at hlt] at hx'; exact (Option.some.inj hx').symm
      have hz : x.size = min (32 * k + 32) s.size - 32 * k := by rw [hxx, chunk_size]
      have he : s.extract a (a + x.size) = x := by rw [hxx, ha']; exact chunk_ext (by omega)
      have e1 := eqs_t he
      have g0 : decide ((s.size : Int) < (a : Int) + (x.size : Int)) = false := decide_eq_false (by omega)
      have g1 : decide ((x.size : Int) < 1) = false := decide_eq_false (by omega)
      have g2 : decide ((32 : Int) < (x.size : Int)) = false := decide_eq_false (by omega)
      have ab : a ≤ 288 := by omega
      have xb : x.size ≤ 32 := by omega
      have axs : a + x.size ≤ s.size := by omega
      have HN0 : a + x.size = min (32 * (k + 1)) s.size := by omega
      have HN : Aside (a + x.size = min (32 * (k + 1)) s.size) := HN0
      clear HN0
      by_cases hl : k + 1 < manyN s
      · have g3 : decide ((k : Int) < (manyN s : Int) - 1) = true := decide_eq_true (by omega)
        have g4 : ((x.size : Int) == 32) = true := by rw [beq_iff_eq]; omega
        clear hm ha ha' hx' hxx hz he hl HA
        go_wp2_with fail
        go_quiet (fail)
        go_wp2_with fail
        go_roundg (manyN s - (k + 1))
        case measure => omega
        case rel => exact ⟨k + 1, a + x.size, by omega, by omega, by go_num, by go_num, HN, bl_drewN BW.out _⟩
      · have g3 : decide ((k : Int) < (manyN s : Int) - 1) = false := decide_eq_false (by omega)
        clear hm ha ha' hx' hxx hz he hl HA
        go_wp2_with fail
        go_quiet (fail)
        go_wp2_with fail
        go_roundg (manyN s - (k + 1))
        case measure => omega
        case rel => exact ⟨k + 1, a + x.size, by omega, by omega, by go_num, by go_num, HN, bl_drewN BW.out _⟩
    · obtain rfl : k = manyN s := by omega
      have hm := hmn'.out
      have ha := HA.out
      have hae : a = s.size := by omega
      subst hae
      clear hm ha HA
      go_wp2_with fail
      go_ret
      exact ⟨by simp, bl_step HB BW.out⟩
theorem size_zero {s : ByteArray} (h : s.size = 0) : s = ⟨#[]⟩ := by
  obtain ⟨d⟩ := s
  have : d.size = 0 := h
  rw [Array.size_eq_zero_iff.1 this]
set_option maxRecDepth 100000 in
set_option maxHeartbeats 1600000 in
theorem manyl_w (s : ByteArray) (w : World) (hs : s.size ≤ 9223372036854775807) : Calls Try.prog 13 #[.string s] w fun e w' => e = .returned (.bool true) ∧ Below w.heap.size w w' := by
  cases h : rngB (s.size : Int) 1 288
  · have hh := Lib.hid h
    have hb : s.size = 0 ∨ 288 < s.size := by simp [rngB] at h; omega
    clear h
    rcases hb with h0 | h1
    · obtain rfl := size_zero h0
      go_enter Try.func13, Try.ntmps13
      go_wp2_with (first | (go_at_call 40; (with_reducible refine (awake_c _).mono ?_); rintro e w1 ⟨rfl, hb1'⟩) | (go_at_call 33; (with_reducible refine (split_no _ _ hs hh.out).mono ?_); rintro e w2 ⟨rfl, rfl⟩) | (go_at_call 19; with_reducible refine (enum_c _ _).mono ?_; rintro e w' ⟨rfl, rfl⟩) | fail)
      go_ret
      exact ⟨by simp, hb1'⟩
    · have e0 : (s.toList == (ByteArray.mk #[]).toList) = false := eqs_f (by rintro rfl; exact absurd h1 (by decide))
      have e1 : (s.toList == []) = false := by
        have h2 : (ByteArray.mk #[]).toList = [] := by decide +kernel
        rwa [h2] at e0
      have g0 : (288 : Int) < (s.size : Int) := by omega
      go_enter Try.func13, Try.ntmps13
      go_wp2_with (first | (go_at_call 40; (with_reducible refine (awake_c _).mono ?_); rintro e w1 ⟨rfl, hb1'⟩) | (go_at_call 33; (with_reducible refine (split_no _ _ hs hh.out).mono ?_); rintro e w2 ⟨rfl, rfl⟩) | (go_at_call 19; with_reducible refine (enum_c _ _).mono ?_; rintro e w' ⟨rfl, rfl⟩) | fail)
      go_ret
      exact ⟨by simp, hb1'⟩
  · exact many_y s w h
end Go.Proofs.Ytfnfnldndmkeeaa.Bk
