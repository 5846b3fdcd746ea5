/- Layer 22: the law's walk: HostPieces. -/
import Derived.Test.YtnppbfjeibfamaaHsm
import Derived.Test.YtnppbfjeibfamaaSuq
namespace Go.Proofs.Ytnppbfjeibfamaa.Ho
open Go.RowKit Go.Proofs.Ytnppbfjeibfamaa.Kt Go.Proofs.Ytnppbfjeibfamaa.Lw Go.Proofs.Ytnppbfjeibfamaa.St Go.Proofs.Ytnppbfjeibfamaa.Nm Go.Proofs.Ytnppbfjeibfamaa.Ic Go.Proofs.Ytnppbfjeibfamaa.Sf Go.Proofs.Ytnppbfjeibfamaa.Su Go.Proofs.Ytnppbfjeibfamaa.Es
set_option linter.unusedVariables false
set_option linter.unusedSimpArgs false
attribute [local go_sem high] eqHost
/-- what has been sent. -/
def preB (im : ByteArray) (k : Nat) : ByteArray := im.extract 0 (32 * k)
theorem pre_zero (im : ByteArray) : preB im 0 = ⟨#[]⟩ := by
  apply ext_data
  simp [preB]
theorem pre_succ (im : ByteArray) (k : Nat) : preB im k ++ dataB im (k : Int) = preB im (k + 1) := by
  have h1 : (32 * (k : Int)).toNat = 32 * k := by omega
  have h2 : (32 * (k : Int) + 32).toNat = 32 * (k + 1) := by omega
  apply ext_data
  simp only [preB, dataB, h1, h2, ByteArray.data_append, Array.toList_append, ByteArray.data_extract, Array.toList_extract, List.extract]
  simp only [Nat.sub_zero, List.drop_zero]
  rw [show 32 * (k + 1) - 32 * k = 32 by omega, show 32 * (k + 1) = 32 * k + 32 by omega, List.take_add]
theorem pre_size (im : ByteArray) (k : Nat) : (preB im k).size = min (32 * k) im.size := by simp [preB]
theorem pre_all {im : ByteArray} {k : Nat} (h : im.size ≤ 32 * k) : preB im k = im := by
  apply ext_data
  simp only [preB, ByteArray.data_extract, Array.toList_extract, List.extract, Nat.sub_zero, List.drop_zero]
  exact List.take_of_length_le (by simpa using h)
theorem data_size {im : ByteArray} {k : Nat} (h : 32 * k < im.size) : 0 < (dataB im (k : Int)).size ∧ (dataB im (k : Int)).size ≤ 32 := by
  unfold dataB
  rw [ByteArray.size_extract]
  omega
theorem rng_yes {x l u : Int} (h1 : l ≤ x) (h2 : x ≤ u) : rngB x l u = true := by simp [rngB, h1, h2]
theorem send_may {im : ByteArray} {bl : Int} (h0 : 1 ≤ im.size) (h1 : im.size ≤ 288) (h2 : 0 ≤ bl) (h3 : 32 * bl < (im.size : Int)) : hostMay 2 im bl 0 ⟨#[]⟩ 0 = true := by
  have h4 := not_empty h0
  have h5 : rngB bl 0 (manyI im) = true := rng_yes h2 (by unfold manyI; omega)
  simp only [hostMay, h4, h5]
  simp
  exact ⟨by decide, by decide, by omega, by decide, by decide⟩
theorem asks_send {im : ByteArray} {k : Nat} (h0 : 1 ≤ im.size) (h1 : im.size ≤ 288) (h3 : 32 * k < im.size) : asksV 2 im (k : Int) false 0 ⟨#[]⟩ 0 = .tuple #[.string (supB 1 (k : Int) ((dataB im (k : Int)).size : Int)), .string (dataB im (k : Int)), .int .i64 0] := by
  have h := send_may (bl := (k : Int)) h0 h1 (by omega) (by omega)
  have hk : asksOk 2 im (k : Int) 0 ⟨#[]⟩ 0 = true := by
    simp only [asksOk, h]
    decide
  simp [asksV, hk, askC, askW, askL, askD]
theorem carry1_c (m : Nat) (w : World) (hn : m < 288) : Calls Try.prog 28 #[.int .i64 (1 + (m : Int))] w fun e w' => e = .returned (hostV 1 (cntB (m + 1)) 0 false 0 ⟨#[]⟩ 0) ∧ Below w.heap.size w w' := by
  have h := carry_c (m + 1) w (by omega) (by omega)
  rwa [show ((m + 1 : Nat) : Int) = 1 + (m : Int) by omega] at h
set_option maxRecDepth 100000 in
set_option maxHeartbeats 6400000 in
theorem pieces_0 (x0 : Int) (m : Nat) (im : ByteArray) (w : World) (hk : wrap64 (Int.tmod (IntKind.u64.wrap x0) 288) = (m : Int)) (hm : m < 288) (hz : im.size = m + 1)
    (hc : Hid (∀ W : World, Calls Try.prog 28 #[.int .i64 (1 + (m : Int))] W fun e w' => e = .returned (hostV 1 im 0 false 0 ⟨#[]⟩ 0) ∧ Below W.heap.size W w')) :
    Calls Try.prog 12 #[.int .i64 x0] w fun e w' => e = .returned (.bool true) ∧ Below w.heap.size w w' := by
  have HB := Below.refl w.heap.size w
  have hz1 : 1 ≤ im.size := by omega
  have hz2 : im.size ≤ 288 := by omega
  have hz3 : (im.size : Int) = 1 + (m : Int) := by omega
  have HZ := Lib.hid hz
  have HZ3 := Lib.hid hz3
  clear hz hz3
  go_enter Try.func12, Try.ntmps12
  go_wp2_with (first | (go_at_call 27; with_reducible refine (awake_c _).mono ?_; rintro e w' ⟨rfl, hb⟩; have HB := bl_step (by repeat (with_reducible first | exact HB | (refine bl_set ?_ (by omega)) | apply bl_alloc | apply bl_drew | apply bl_drewN | fail)) hb; have hzB := HB.size) | (go_at_call 28; with_reducible refine (hc.out _).mono ?_; rintro e w' ⟨rfl, hb⟩; have HB := bl_step (by repeat (with_reducible first | exact HB | (refine bl_set ?_ (by omega)) | apply bl_alloc | apply bl_drew | apply bl_drewN | fail)) hb; have hzB := HB.size; have K0 := fun cs => Blk.new w' cs 44) | fail)
  have B1 : Below w.heap.size w (w'.alloc (.cells #[.int .i64 2, .string im, .int .i64 0, .bool false, .int .i64 0, .string ⟨#[]⟩, .int .i64 0] 44)) := bl_alloc HB _
  have K1 := K0 #[.int .i64 2, .string im, .int .i64 0, .bool false, .int .i64 0, .string ⟨#[]⟩, .int .i64 0]
  have hg0 : w.heap.size ≤ w'.heap.size := HB.size
  clear K0 HB
  generalize w'.alloc (.cells #[.int .i64 2, .string im, .int .i64 0, .bool false, .int .i64 0, .string ⟨#[]⟩, .int .i64 0] 44) = w1 at *
  generalize w'.heap.size = g at *
  go_loopg [5, 6] (m / 32 + 2) (fun gg s5 s6 wr => ∃ (k : Nat) (bl : Int), 32 * k ≤ m + 32 ∧ m / 32 + 2 - k ≤ gg ∧ s6 = .int .i64 k ∧ s5 = .string (preB im k) ∧ 0 ≤ bl ∧ 32 * bl ≤ (m : Int) ∧ Aside (Below w.heap.size w wr) ∧ Aside (Blk wr g #[.int .i64 2, .string im, .int .i64 bl, .bool false, .int .i64 0, .string ⟨#[]⟩, .int .i64 0] 44))
  case atStart => exact ⟨0, 0, by omega, by omega, rfl, by rw [pre_zero], by omega, by omega, B1, K1⟩
  case round =>
    clear B1 K1 w1 hc
    obtain ⟨k, bl, hk1, hg1, rfl, rfl, hb0, hb1, BW, BK⟩ := hrel
    have HB := BW.out
    have K0 := BK.out
    obtain ⟨cK0_0, cK0_1, cK0_2, cK0_3, cK0_4, cK0_5, cK0_6, fK0, lK0, nK0, mK0⟩ := Blk.all7 K0
    clear BW BK
    by_cases hlt : 32 * k ≤ m
    · have hd := data_size (im := im) (k := k) (by have := HZ.out; omega)
      have hp := pre_size im k
      have hp2 : (preB im k).size ≤ 288 := by omega
      have hs := Lib.hid (pre_succ im k)
      have ha := Lib.hid (fun W : World => asks_c 2 im (k : Int) false 0 ⟨#[]⟩ 0 W (by omega) (by decide))
      rw [asks_send hz1 hz2 (by have := HZ.out; omega)] at ha
      have hv : setMay 1 (k : Int) ((dataB im (k : Int)).size : Int) = true := by
        simp [setMay, rngB]
        omega
      obtain ⟨g1, g2⟩ := got_sup hv
      have hq := Lib.hid (fun W : World => rsget_c (supB 1 (k : Int) ((dataB im (k : Int)).size : Int)) W)
      rw [g1, g2] at hq
      simp only [cond_true] at hq
      clear g1 g2 hv hp
      generalize supB 1 (k : Int) ((dataB im (k : Int)).size : Int) = S at *
      generalize dataB im (k : Int) = D at *
      have q : (9223372036854775807 < (preB im k).size + D.size) = False := eq_false (by omega)
      have hd0 : ((D.size : Int) == 0) = false := beq_eq_false_iff_ne.2 (by omega)
      have hlt1 : (k : Int) < (1 + (m : Int) + 31) / 32 := by omega
      go_wp2_with (first | (go_at_call 23; with_reducible refine (ha.out _).mono ?_; rintro e w' ⟨rfl, hb⟩; have HB := bl_step (by repeat (with_reducible first | exact HB | (refine bl_set ?_ (by omega)) | apply bl_alloc | apply bl_drew | apply bl_drewN | fail)) hb; have hzB := HB.size; have K0 := Blk.below (by repeat (with_reducible first | exact K0 | exact K0 _ | exact K0 _ _ | apply Blk.alloc | apply Blk.drew | apply Blk.drewN | apply Blk.set7_0 | apply Blk.set7_1 | apply Blk.set7_2 | apply Blk.set7_3 | apply Blk.set7_4 | apply Blk.set7_5 | apply Blk.set7_6 | (refine Blk.far ?_ (by first | assumption | (simp; omega) | omega) _) | fail)) hb; (try clear cK0_0 cK0_1 cK0_2 cK0_3 cK0_4 cK0_5 cK0_6 fK0 lK0 nK0 mK0); obtain ⟨cK0_0, cK0_1, cK0_2, cK0_3, cK0_4, cK0_5, cK0_6, fK0, lK0, nK0, mK0⟩ := Blk.all7 K0) | (go_at_call 30; with_reducible refine (hq.out _).mono ?_; rintro e w' ⟨rfl, hb⟩; have HB := bl_step (by repeat (with_reducible first | exact HB | (refine bl_set ?_ (by omega)) | apply bl_alloc | apply bl_drew | apply bl_drewN | fail)) hb; have hzB := HB.size; have K0 := Blk.below (by repeat (with_reducible first | exact K0 | exact K0 _ | exact K0 _ _ | apply Blk.alloc | apply Blk.drew | apply Blk.drewN | apply Blk.set7_0 | apply Blk.set7_1 | apply Blk.set7_2 | apply Blk.set7_3 | apply Blk.set7_4 | apply Blk.set7_5 | apply Blk.set7_6 | (refine Blk.far ?_ (by first | assumption | (simp; omega) | omega) _) | fail)) hb; (try clear cK0_0 cK0_1 cK0_2 cK0_3 cK0_4 cK0_5 cK0_6 fK0 lK0 nK0 mK0); obtain ⟨cK0_0, cK0_1, cK0_2, cK0_3, cK0_4, cK0_5, cK0_6, fK0, lK0, nK0, mK0⟩ := Blk.all7 K0; have K1 := fun cs => Blk.new w' cs 59) | (go_at_call 17; with_reducible refine (enum_c _ _).mono ?_; rintro e w' ⟨rfl, rfl⟩) | fail)
      go_roundg (m / 32 + 2 - (k + 1))
      case measure => omega
      case rel => exact ⟨k + 1, (k : Int), by omega, by omega, by go_num, by rw [hs.out], by omega, by omega, bl_alloc HB _, K0.alloc _⟩
    · have he : preB im k = im := pre_all (by have := HZ.out; omega)
      have hm1 := Lib.hid (fun W : World => rhmay_c 2 im bl false 0 ⟨#[]⟩ 0 W (by omega) (by decide))
      rw [send_may hz1 hz2 hb0 (by have := HZ3.out; omega)] at hm1
      have hlt1 : (1 + (m : Int) + 31) / 32 ≤ (k : Int) := by omega
      have hz3 := HZ3.out
      go_wp2_with (first | (go_at_call 26; with_reducible refine (hm1.out _).mono ?_; rintro e w' ⟨rfl, hb⟩; have HB := bl_step (by repeat (with_reducible first | exact HB | (refine bl_set ?_ (by omega)) | apply bl_alloc | apply bl_drew | apply bl_drewN | fail)) hb; have hzB := HB.size; have K0 := Blk.below (by repeat (with_reducible first | exact K0 | exact K0 _ | exact K0 _ _ | apply Blk.alloc | apply Blk.drew | apply Blk.drewN | apply Blk.set7_0 | apply Blk.set7_1 | apply Blk.set7_2 | apply Blk.set7_3 | apply Blk.set7_4 | apply Blk.set7_5 | apply Blk.set7_6 | (refine Blk.far ?_ (by first | assumption | (simp; omega) | omega) _) | fail)) hb; (try clear cK0_0 cK0_1 cK0_2 cK0_3 cK0_4 cK0_5 cK0_6 fK0 lK0 nK0 mK0); obtain ⟨cK0_0, cK0_1, cK0_2, cK0_3, cK0_4, cK0_5, cK0_6, fK0, lK0, nK0, mK0⟩ := Blk.all7 K0) | fail)
      go_ret
      exact ⟨by simp, (by repeat (with_reducible first | exact Below.refl _ _ | assumption | (refine bl_set ?_ (by omega)) | apply bl_alloc | apply bl_drewN | apply bl_drew | (refine bl_step ?_ (by assumption)) | fail))⟩
theorem pieces_w (x0 : Int) (w : World) : Calls Try.prog 12 #[.int .i64 x0] w fun e w' => e = .returned (.bool true) ∧ Below w.heap.size w w' := by
  have h0 := Su.umod64 x0 288 (by decide) (by decide)
  obtain ⟨m, hm⟩ := Int.eq_ofNat_of_zero_le h0.1
  exact pieces_0 x0 m (cntB (m + 1)) w hm (by omega) (cnt_size _) (Lib.hid fun W => carry1_c m W (by omega))
end Go.Proofs.Ytnppbfjeibfamaa.Ho
