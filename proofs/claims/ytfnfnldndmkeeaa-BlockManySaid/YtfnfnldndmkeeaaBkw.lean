/- Layer 10: the law's walk: BlockPlaces. -/
import Derived.Test.YtfnfnldndmkeeaaBkv
import Derived.Test.YtfnfnldndmkeeaaBits
namespace Go.Proofs.Ytfnfnldndmkeeaa.Bk
open Go.RowKit Go.Proofs.Ytfnfnldndmkeeaa.Kt Go.Proofs.Ytfnfnldndmkeeaa.Lw Go.Proofs.Ytfnfnldndmkeeaa.St Go.Proofs.Ytfnfnldndmkeeaa.Nm Go.Proofs.Ytfnfnldndmkeeaa.Sl Go.Proofs.Ytfnfnldndmkeeaa.Bt
set_option linter.unusedVariables false
set_option linter.unusedSimpArgs false
theorem umod_n (x m : Int) (h0 : 0 < m) (h1 : m ≤ 1000000) : 0 ≤ wrap64 (Int.tmod (IntKind.u64.wrap x) m) ∧ wrap64 (Int.tmod (IntKind.u64.wrap x) m) < m := by
  have hu : 0 ≤ IntKind.u64.wrap x := by simp only [IntKind.wrap_u64]; omega
  rw [Int.tmod_eq_emod_of_nonneg hu]
  have a := Int.emod_nonneg (IntKind.u64.wrap x) (show m ≠ 0 by omega)
  have b := Int.emod_lt_of_pos (IntKind.u64.wrap x) h0
  unfold wrap64
  omega
theorem split_at {s : ByteArray} {q : Nat} (h : q < manyN s) : (splitL s)[q]? = some (chunkB s q) := by
  simp [splitL, chunks, h]
theorem chunk_byt {s : ByteArray} {q r : Nat} (hr : r < 32) (h : 32 * q + r < s.size) : r < (chunkB s q).size ∧ byt (chunkB s q) r = byt s (32 * q + r) := by
  have hz : (chunkB s q).size = min (32 * q + 32) s.size - 32 * q := by
    unfold chunkB
    rw [ByteArray.size_extract]
    omega
  have hlt : r < (chunkB s q).size := by omega
  refine ⟨hlt, ?_⟩
  rw [← byt_at _ _ hlt, ← byt_at _ _ h]
  have key : ∀ (t : ByteArray) (e : t = s.extract (32 * q) (min (32 * q + 32) s.size)) (hh : r < t.size), t[r] = s[32 * q + r] := by
    rintro t rfl hh
    rw [ByteArray.getElem_extract]
  exact congrArg (fun b : UInt8 => (b.toNat : Int)) (key (chunkB s q) rfl hlt)
set_option maxHeartbeats 1600000 in
theorem places_0 (s : ByteArray) (c : Int) (m q r : Nat) (w : World) (h : rngB (s.size : Int) 1 288 = true) (hm : wrap64 (Int.tmod (IntKind.u64.wrap c) (s.size : Int)) = (m : Int)) (hm1 : m < s.size) (hq : m / 32 = q) (hr : m % 32 = r) :
    Calls Try.prog 14 #[.string s, .int .i64 c] w fun e w' => e = .returned (.bool true) ∧ Below w.heap.size w w' := by
  have hb : 1 ≤ s.size ∧ s.size ≤ 288 := by simp [rngB] at h; omega
  obtain ⟨hb1, hb2⟩ := hb
  have hqn : q < manyN s := by unfold manyN; omega
  have hmq : m = 32 * q + r := by omega
  have hr32 : r < 32 := by omega
  obtain ⟨hlt, hbyt⟩ := chunk_byt (s := s) (q := q) hr32 (by omega)
  rw [← hmq] at hbyt
  have q1 : IntKind.i64.wrap ((m : Int) / 32) = (q : Int) := by rw [IntKind.wrap_i64]; omega
  have r0 : Int.tmod (m : Int) 32 = (r : Int) := by rw [Int.tmod_eq_emod_of_nonneg (by omega)]; omega
  have g1 : decide ((q : Int) < (manyN s : Int)) = true := decide_eq_true (by omega)
  have g2 : decide ((r : Int) < ((chunkB s q).size : Int)) = true := decide_eq_true (by omega)
  clear hmq hq hr
  have e1 := byt_at (chunkB s q) r hlt
  have e2 := byt_at s m hm1
  have hx := split_at hqn
  have hs := Lib.hid h
  clear h
  go_enter Try.func14, Try.ntmps14
  go_wp2_with (first | (go_at_call 40; (with_reducible refine (awake_c _).mono ?_); rintro e w1 ⟨rfl, hb1'⟩) | (go_at_call 33; (with_reducible refine (split_t _ _ hs.out).mono ?_); rintro e w2 ⟨A, d, rfl, ⟨T1, hc⟩, hb2'⟩; have HB := bl_step hb1' hb2') | (go_at_call 19; with_reducible refine (enum_c _ _).mono ?_; rintro e w' ⟨rfl, rfl⟩) | fail)
  obtain ⟨b, off, x, rfl, hbs, hx', hok, c0⟩ := T1.at_ (j := q) (by rw [split_len]; exact hqn)
  obtain rfl : x = chunkB s q := by rw [hx] at hx'; exact (Option.some.inj hx').symm
  go_quiet (fail)
  go_wp2_with fail
  go_ret
  exact ⟨by simp, bl_drewN HB _⟩
set_option maxHeartbeats 1600000 in
theorem places_w (s : ByteArray) (c : Int) (w : World) (hs : s.size ≤ 9223372036854775807) : Calls Try.prog 14 #[.string s, .int .i64 c] w fun e w' => e = .returned (.bool true) ∧ Below w.heap.size w w' := by
  cases h : rngB (s.size : Int) 1 288
  · have hh := Lib.hid h
    clear h
    go_enter Try.func14, Try.ntmps14
    go_wp2_with (first | (go_at_call 40; (with_reducible refine (awake_c _).mono ?_); rintro e w1 ⟨rfl, hb1'⟩) | (go_at_call 33; (with_reducible refine (split_no _ _ hs hh.out).mono ?_); rintro e w2 ⟨rfl, rfl⟩) | (go_at_call 19; with_reducible refine (enum_c _ _).mono ?_; rintro e w' ⟨rfl, rfl⟩) | fail)
    go_ret
    exact ⟨by simp, hb1'⟩
  · have hb : 1 ≤ s.size ∧ s.size ≤ 288 := by simp [rngB] at h; omega
    have h0 := umod_n c (s.size : Int) (by omega) (by omega)
    obtain ⟨m, hm⟩ := Int.eq_ofNat_of_zero_le h0.1
    exact places_0 s c m _ _ w h hm (by omega) rfl rfl
end Go.Proofs.Ytfnfnldndmkeeaa.Bk
