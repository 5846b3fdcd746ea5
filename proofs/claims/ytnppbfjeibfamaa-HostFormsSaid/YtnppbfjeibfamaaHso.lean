/- Layer 22: the law's walk: HostAsks. -/
import Derived.Test.YtnppbfjeibfamaaHsn
namespace Go.Proofs.Ytnppbfjeibfamaa.Ho
open Go.RowKit Go.Proofs.Ytnppbfjeibfamaa.Kt Go.Proofs.Ytnppbfjeibfamaa.Lw Go.Proofs.Ytnppbfjeibfamaa.St Go.Proofs.Ytnppbfjeibfamaa.Nm Go.Proofs.Ytnppbfjeibfamaa.Ic Go.Proofs.Ytnppbfjeibfamaa.Sf Go.Proofs.Ytnppbfjeibfamaa.Su Go.Proofs.Ytnppbfjeibfamaa.Es
set_option linter.unusedVariables false
set_option linter.unusedSimpArgs false
attribute [local go_sem high] eqSet
theorem asks_form {ph : Int} {im : ByteArray} {b : Int} {ag : Bool} (h0 : 1 ≤ im.size) (h1 : im.size ≤ 288) (hp : 1 ≤ ph) (hp1 : ph ≤ 6) (hb0 : 0 ≤ b) (hb1 : b ≤ manyI im) :
    asksV ph im b ag 0 ⟨#[]⟩ 0 = .tuple #[.string (supB (askC ph b ag) (askW ph b) (askL ph im b ag)), .string (askD ph im b), .int .i64 0] := by
  have e1 : rngB ph 0 7 = true := rng_yes (by omega) (by omega)
  have e2 : rngB b 0 (manyI im) = true := rng_yes hb0 hb1
  have e3 := not_empty h0
  have e4 : offB ph = false := by
    simp only [offB, Bool.or_eq_false_iff, beq_eq_false_iff_ne]
    omega
  have hm : hostMay ph im b 0 ⟨#[]⟩ 0 = true := by
    simp only [hostMay, e1, e2, e3]
    simp
    exact ⟨by decide, by omega, by decide, by decide⟩
  have hk : asksOk ph im b 0 ⟨#[]⟩ 0 = true := by simp only [asksOk, hm, e4]; rfl
  simp [asksV, hk]
theorem cut_last {im : ByteArray} {a b : Nat} (h : im.size ≤ b) : im.extract a b = im.extract a im.size := by
  apply ext_data
  simp only [ByteArray.data_extract, Array.toList_extract, List.extract]
  have hl : im.data.toList.length = im.size := by simp
  rw [List.take_of_length_le (by rw [List.length_drop]; omega), List.take_of_length_le (by rw [List.length_drop]; omega)]
set_option maxRecDepth 100000 in
set_option maxHeartbeats 6400000 in
theorem hasks_1a (x0 x1 : Int) (b : Int) (b0 : 0 ≤ b) (b1 : b ≤ 3) (im : ByteArray) (w : World) (hq : wrap64 (Int.tmod (IntKind.u64.wrap x0) 6) = 0) (hx : Go.bits .and .i64 x1 3 = b) (hz : im.size = 70)
    (hc : Hid (∀ W : World, Calls Try.prog 28 #[.int .i64 70] W fun e w' => e = .returned (hostV 1 im 0 false 0 ⟨#[]⟩ 0) ∧ Below W.heap.size W w')) :
    Calls Try.prog 10 #[.int .i64 x0, .int .i64 x1, .bool false] w fun e w' => e = .returned (.bool true) ∧ Below w.heap.size w w' := by
  have HB := Below.refl w.heap.size w
  have ha := Lib.hid (fun W : World => asks_c 1 im b false 0 ⟨#[]⟩ 0 W (by omega) (by decide))
  rw [asks_form (by omega) (by omega) (by omega) (by omega) (by omega) (by unfold manyI; omega)] at ha
  have e1 : askC 1 b false = 3 := by simp [askC]
  have e2 : askW 1 b = 0 := by simp [askW]
  have e3 : askL 1 im b false = 6 := by simp [askL]
  have e4 : askD 1 im b = ⟨#[]⟩ := by simp [askD]
  rw [e1, e2, e3, e4] at ha
  have hv : setMay 3 0 6 = true := by first | decide | (simp [setMay, rngB]; omega) | fail
  obtain ⟨g1, g2⟩ := got_sup hv
  have hg := Lib.hid (fun W : World => rsget_c (supB 3 0 6) W)
  rw [g1, g2] at hg
  simp only [cond_true] at hg
  clear g1 g2 hv e1 e2 e3 e4
  generalize supB 3 0 6 = S at *
  go_enter Try.func10, Try.ntmps10
  go_wp2_with (first | (go_at_call 27; with_reducible refine (awake_c _).mono ?_; rintro e w' ⟨rfl, hb⟩; have HB := bl_step (by repeat (with_reducible first | exact HB | (refine bl_set ?_ (by omega)) | apply bl_alloc | apply bl_drew | apply bl_drewN | fail)) hb; have hzB := HB.size) | (go_at_call 28; with_reducible refine (hc.out _).mono ?_; rintro e w' ⟨rfl, hb⟩; have HB := bl_step (by repeat (with_reducible first | exact HB | (refine bl_set ?_ (by omega)) | apply bl_alloc | apply bl_drew | apply bl_drewN | fail)) hb; have hzB := HB.size; have K0 := fun cs => Blk.new w' cs 44) | (go_at_call 23; with_reducible refine (ha.out _).mono ?_; rintro e w' ⟨rfl, hb⟩; have HB := bl_step (by repeat (with_reducible first | exact HB | (refine bl_set ?_ (by omega)) | apply bl_alloc | apply bl_drew | apply bl_drewN | fail)) hb; have hzB := HB.size; have K0 := Blk.below (by repeat (with_reducible first | exact K0 | exact K0 _ | exact K0 _ _ | apply Blk.alloc | apply Blk.drew | apply Blk.drewN | apply Blk.set7_0 | apply Blk.set7_1 | apply Blk.set7_2 | apply Blk.set7_3 | apply Blk.set7_4 | apply Blk.set7_5 | apply Blk.set7_6 | (refine Blk.far ?_ (by first | assumption | (simp; omega) | omega) _) | fail)) hb; (try clear cK0_0 cK0_1 cK0_2 cK0_3 cK0_4 cK0_5 cK0_6 fK0 lK0 nK0 mK0); obtain ⟨cK0_0, cK0_1, cK0_2, cK0_3, cK0_4, cK0_5, cK0_6, fK0, lK0, nK0, mK0⟩ := Blk.all7 K0) | (go_at_call 30; with_reducible refine (hg.out _).mono ?_; rintro e w' ⟨rfl, hb⟩; have HB := bl_step (by repeat (with_reducible first | exact HB | (refine bl_set ?_ (by omega)) | apply bl_alloc | apply bl_drew | apply bl_drewN | fail)) hb; have hzB := HB.size; have K0 := Blk.below (by repeat (with_reducible first | exact K0 | exact K0 _ | exact K0 _ _ | apply Blk.alloc | apply Blk.drew | apply Blk.drewN | apply Blk.set7_0 | apply Blk.set7_1 | apply Blk.set7_2 | apply Blk.set7_3 | apply Blk.set7_4 | apply Blk.set7_5 | apply Blk.set7_6 | (refine Blk.far ?_ (by first | assumption | (simp; omega) | omega) _) | fail)) hb; (try clear cK0_0 cK0_1 cK0_2 cK0_3 cK0_4 cK0_5 cK0_6 fK0 lK0 nK0 mK0); obtain ⟨cK0_0, cK0_1, cK0_2, cK0_3, cK0_4, cK0_5, cK0_6, fK0, lK0, nK0, mK0⟩ := Blk.all7 K0; have K1 := fun cs => Blk.new w' cs 59) | (go_at_call 17; with_reducible refine (enum_c _ _).mono ?_; rintro e w' ⟨rfl, rfl⟩) | fail)
  go_ret
  exact ⟨by simp, (by repeat (with_reducible first | exact Below.refl _ _ | assumption | (refine bl_set ?_ (by omega)) | apply bl_alloc | apply bl_drewN | apply bl_drew | (refine bl_step ?_ (by assumption)) | fail))⟩
set_option maxRecDepth 100000 in
set_option maxHeartbeats 6400000 in
theorem hasks_1b (x0 x1 : Int)  (im : ByteArray) (w : World) (hq : wrap64 (Int.tmod (IntKind.u64.wrap x0) 6) = 0) (hx : Go.bits .and .i64 x1 3 = 0) (hz : im.size = 70)
    (hc : Hid (∀ W : World, Calls Try.prog 28 #[.int .i64 70] W fun e w' => e = .returned (hostV 1 im 0 false 0 ⟨#[]⟩ 0) ∧ Below W.heap.size W w')) :
    Calls Try.prog 10 #[.int .i64 x0, .int .i64 x1, .bool true] w fun e w' => e = .returned (.bool true) ∧ Below w.heap.size w w' := by
  have HB := Below.refl w.heap.size w
  have ha := Lib.hid (fun W : World => asks_c 1 im 0 true 0 ⟨#[]⟩ 0 W (by omega) (by decide))
  rw [asks_form (by omega) (by omega) (by omega) (by omega) (by omega) (by unfold manyI; omega)] at ha
  have e1 : askC 1 0 true = 4 := by simp [askC]
  have e2 : askW 1 0 = 0 := by simp [askW]
  have e3 : askL 1 im 0 true = 0 := by simp [askL]
  have e4 : askD 1 im 0 = ⟨#[]⟩ := by simp [askD]
  rw [e1, e2, e3, e4] at ha
  have hv : setMay 4 0 0 = true := by first | decide | (simp [setMay, rngB]; omega) | fail
  obtain ⟨g1, g2⟩ := got_sup hv
  have hg := Lib.hid (fun W : World => rsget_c (supB 4 0 0) W)
  rw [g1, g2] at hg
  simp only [cond_true] at hg
  clear g1 g2 hv e1 e2 e3 e4
  generalize supB 4 0 0 = S at *
  go_enter Try.func10, Try.ntmps10
  go_wp2_with (first | (go_at_call 27; with_reducible refine (awake_c _).mono ?_; rintro e w' ⟨rfl, hb⟩; have HB := bl_step (by repeat (with_reducible first | exact HB | (refine bl_set ?_ (by omega)) | apply bl_alloc | apply bl_drew | apply bl_drewN | fail)) hb; have hzB := HB.size) | (go_at_call 28; with_reducible refine (hc.out _).mono ?_; rintro e w' ⟨rfl, hb⟩; have HB := bl_step (by repeat (with_reducible first | exact HB | (refine bl_set ?_ (by omega)) | apply bl_alloc | apply bl_drew | apply bl_drewN | fail)) hb; have hzB := HB.size; have K0 := fun cs => Blk.new w' cs 44) | (go_at_call 23; with_reducible refine (ha.out _).mono ?_; rintro e w' ⟨rfl, hb⟩; have HB := bl_step (by repeat (with_reducible first | exact HB | (refine bl_set ?_ (by omega)) | apply bl_alloc | apply bl_drew | apply bl_drewN | fail)) hb; have hzB := HB.size; have K0 := Blk.below (by repeat (with_reducible first | exact K0 | exact K0 _ | exact K0 _ _ | apply Blk.alloc | apply Blk.drew | apply Blk.drewN | apply Blk.set7_0 | apply Blk.set7_1 | apply Blk.set7_2 | apply Blk.set7_3 | apply Blk.set7_4 | apply Blk.set7_5 | apply Blk.set7_6 | (refine Blk.far ?_ (by first | assumption | (simp; omega) | omega) _) | fail)) hb; (try clear cK0_0 cK0_1 cK0_2 cK0_3 cK0_4 cK0_5 cK0_6 fK0 lK0 nK0 mK0); obtain ⟨cK0_0, cK0_1, cK0_2, cK0_3, cK0_4, cK0_5, cK0_6, fK0, lK0, nK0, mK0⟩ := Blk.all7 K0) | (go_at_call 30; with_reducible refine (hg.out _).mono ?_; rintro e w' ⟨rfl, hb⟩; have HB := bl_step (by repeat (with_reducible first | exact HB | (refine bl_set ?_ (by omega)) | apply bl_alloc | apply bl_drew | apply bl_drewN | fail)) hb; have hzB := HB.size; have K0 := Blk.below (by repeat (with_reducible first | exact K0 | exact K0 _ | exact K0 _ _ | apply Blk.alloc | apply Blk.drew | apply Blk.drewN | apply Blk.set7_0 | apply Blk.set7_1 | apply Blk.set7_2 | apply Blk.set7_3 | apply Blk.set7_4 | apply Blk.set7_5 | apply Blk.set7_6 | (refine Blk.far ?_ (by first | assumption | (simp; omega) | omega) _) | fail)) hb; (try clear cK0_0 cK0_1 cK0_2 cK0_3 cK0_4 cK0_5 cK0_6 fK0 lK0 nK0 mK0); obtain ⟨cK0_0, cK0_1, cK0_2, cK0_3, cK0_4, cK0_5, cK0_6, fK0, lK0, nK0, mK0⟩ := Blk.all7 K0; have K1 := fun cs => Blk.new w' cs 59) | (go_at_call 17; with_reducible refine (enum_c _ _).mono ?_; rintro e w' ⟨rfl, rfl⟩) | fail)
  go_ret
  exact ⟨by simp, (by repeat (with_reducible first | exact Below.refl _ _ | assumption | (refine bl_set ?_ (by omega)) | apply bl_alloc | apply bl_drewN | apply bl_drew | (refine bl_step ?_ (by assumption)) | fail))⟩
set_option maxRecDepth 100000 in
set_option maxHeartbeats 6400000 in
theorem hasks_1c (x0 x1 : Int) (b : Int) (b0 : 0 ≤ b) (b1 : b ≤ 3) (b2 : ¬ b = 0) (im : ByteArray) (w : World) (hq : wrap64 (Int.tmod (IntKind.u64.wrap x0) 6) = 0) (hx : Go.bits .and .i64 x1 3 = b) (hz : im.size = 70)
    (hc : Hid (∀ W : World, Calls Try.prog 28 #[.int .i64 70] W fun e w' => e = .returned (hostV 1 im 0 false 0 ⟨#[]⟩ 0) ∧ Below W.heap.size W w')) :
    Calls Try.prog 10 #[.int .i64 x0, .int .i64 x1, .bool true] w fun e w' => e = .returned (.bool true) ∧ Below w.heap.size w w' := by
  have HB := Below.refl w.heap.size w
  have ha := Lib.hid (fun W : World => asks_c 1 im b true 0 ⟨#[]⟩ 0 W (by omega) (by decide))
  rw [asks_form (by omega) (by omega) (by omega) (by omega) (by omega) (by unfold manyI; omega)] at ha
  have e1 : askC 1 b true = 6 := by simp [askC, b2]
  have e2 : askW 1 b = 0 := by simp [askW]
  have e3 : askL 1 im b true = 0 := by simp [askL]
  have e4 : askD 1 im b = ⟨#[]⟩ := by simp [askD]
  rw [e1, e2, e3, e4] at ha
  have hv : setMay 6 0 0 = true := by first | decide | (simp [setMay, rngB]; omega) | fail
  obtain ⟨g1, g2⟩ := got_sup hv
  have hg := Lib.hid (fun W : World => rsget_c (supB 6 0 0) W)
  rw [g1, g2] at hg
  simp only [cond_true] at hg
  clear g1 g2 hv e1 e2 e3 e4
  generalize supB 6 0 0 = S at *
  have hb3 : (b == 0) = false := by simpa using b2
  go_enter Try.func10, Try.ntmps10
  go_wp2_with (first | (go_at_call 27; with_reducible refine (awake_c _).mono ?_; rintro e w' ⟨rfl, hb⟩; have HB := bl_step (by repeat (with_reducible first | exact HB | (refine bl_set ?_ (by omega)) | apply bl_alloc | apply bl_drew | apply bl_drewN | fail)) hb; have hzB := HB.size) | (go_at_call 28; with_reducible refine (hc.out _).mono ?_; rintro e w' ⟨rfl, hb⟩; have HB := bl_step (by repeat (with_reducible first | exact HB | (refine bl_set ?_ (by omega)) | apply bl_alloc | apply bl_drew | apply bl_drewN | fail)) hb; have hzB := HB.size; have K0 := fun cs => Blk.new w' cs 44) | (go_at_call 23; with_reducible refine (ha.out _).mono ?_; rintro e w' ⟨rfl, hb⟩; have HB := bl_step (by repeat (with_reducible first | exact HB | (refine bl_set ?_ (by omega)) | apply bl_alloc | apply bl_drew | apply bl_drewN | fail)) hb; have hzB := HB.size; have K0 := Blk.below (by repeat (with_reducible first | exact K0 | exact K0 _ | exact K0 _ _ | apply Blk.alloc | apply Blk.drew | apply Blk.drewN | apply Blk.set7_0 | apply Blk.set7_1 | apply Blk.set7_2 | apply Blk.set7_3 | apply Blk.set7_4 | apply Blk.set7_5 | apply Blk.set7_6 | (refine Blk.far ?_ (by first | assumption | (simp; omega) | omega) _) | fail)) hb; (try clear cK0_0 cK0_1 cK0_2 cK0_3 cK0_4 cK0_5 cK0_6 fK0 lK0 nK0 mK0); obtain ⟨cK0_0, cK0_1, cK0_2, cK0_3, cK0_4, cK0_5, cK0_6, fK0, lK0, nK0, mK0⟩ := Blk.all7 K0) | (go_at_call 30; with_reducible refine (hg.out _).mono ?_; rintro e w' ⟨rfl, hb⟩; have HB := bl_step (by repeat (with_reducible first | exact HB | (refine bl_set ?_ (by omega)) | apply bl_alloc | apply bl_drew | apply bl_drewN | fail)) hb; have hzB := HB.size; have K0 := Blk.below (by repeat (with_reducible first | exact K0 | exact K0 _ | exact K0 _ _ | apply Blk.alloc | apply Blk.drew | apply Blk.drewN | apply Blk.set7_0 | apply Blk.set7_1 | apply Blk.set7_2 | apply Blk.set7_3 | apply Blk.set7_4 | apply Blk.set7_5 | apply Blk.set7_6 | (refine Blk.far ?_ (by first | assumption | (simp; omega) | omega) _) | fail)) hb; (try clear cK0_0 cK0_1 cK0_2 cK0_3 cK0_4 cK0_5 cK0_6 fK0 lK0 nK0 mK0); obtain ⟨cK0_0, cK0_1, cK0_2, cK0_3, cK0_4, cK0_5, cK0_6, fK0, lK0, nK0, mK0⟩ := Blk.all7 K0; have K1 := fun cs => Blk.new w' cs 59) | (go_at_call 17; with_reducible refine (enum_c _ _).mono ?_; rintro e w' ⟨rfl, rfl⟩) | fail)
  go_ret
  exact ⟨by simp, (by repeat (with_reducible first | exact Below.refl _ _ | assumption | (refine bl_set ?_ (by omega)) | apply bl_alloc | apply bl_drewN | apply bl_drew | (refine bl_step ?_ (by assumption)) | fail))⟩
set_option maxRecDepth 100000 in
set_option maxHeartbeats 6400000 in
theorem hasks_20 (x0 x1 : Int) (ag : Bool) (im : ByteArray) (w : World) (hq : wrap64 (Int.tmod (IntKind.u64.wrap x0) 6) = 1) (hx : Go.bits .and .i64 x1 3 = 0) (hz : im.size = 70)
    (hc : Hid (∀ W : World, Calls Try.prog 28 #[.int .i64 70] W fun e w' => e = .returned (hostV 1 im 0 false 0 ⟨#[]⟩ 0) ∧ Below W.heap.size W w')) :
    Calls Try.prog 10 #[.int .i64 x0, .int .i64 x1, .bool ag] w fun e w' => e = .returned (.bool true) ∧ Below w.heap.size w w' := by
  have HB := Below.refl w.heap.size w
  have ha := Lib.hid (fun W : World => asks_c 2 im 0 ag 0 ⟨#[]⟩ 0 W (by omega) (by decide))
  rw [asks_form (by omega) (by omega) (by omega) (by omega) (by omega) (by unfold manyI; omega)] at ha
  have e5 : dataB im 0 = im.extract 0 32 := by rfl
  have e6 : ((dataB im 0).size : Int) = 32 := by rw [e5, ByteArray.size_extract, hz]; rfl
  have e1 : askC 2 0 ag = 1 := by simp [askC]
  have e2 : askW 2 0 = 0 := by simp [askW]
  have e3 : askL 2 im 0 ag = 32 := by simp [askL, e6]
  have e4 : askD 2 im 0 = im.extract 0 32 := by simp [askD, e5]
  rw [e1, e2, e3, e4] at ha
  have hv : setMay 1 0 32 = true := by first | decide | (simp [setMay, rngB]; omega) | fail
  obtain ⟨g1, g2⟩ := got_sup hv
  have hg := Lib.hid (fun W : World => rsget_c (supB 1 0 32) W)
  rw [g1, g2] at hg
  simp only [cond_true] at hg
  clear g1 g2 hv e1 e2 e3 e4
  generalize supB 1 0 32 = S at *
  clear e5 e6
  go_enter Try.func10, Try.ntmps10
  go_wp2_with (first | (go_at_call 27; with_reducible refine (awake_c _).mono ?_; rintro e w' ⟨rfl, hb⟩; have HB := bl_step (by repeat (with_reducible first | exact HB | (refine bl_set ?_ (by omega)) | apply bl_alloc | apply bl_drew | apply bl_drewN | fail)) hb; have hzB := HB.size) | (go_at_call 28; with_reducible refine (hc.out _).mono ?_; rintro e w' ⟨rfl, hb⟩; have HB := bl_step (by repeat (with_reducible first | exact HB | (refine bl_set ?_ (by omega)) | apply bl_alloc | apply bl_drew | apply bl_drewN | fail)) hb; have hzB := HB.size; have K0 := fun cs => Blk.new w' cs 44) | (go_at_call 23; with_reducible refine (ha.out _).mono ?_; rintro e w' ⟨rfl, hb⟩; have HB := bl_step (by repeat (with_reducible first | exact HB | (refine bl_set ?_ (by omega)) | apply bl_alloc | apply bl_drew | apply bl_drewN | fail)) hb; have hzB := HB.size; have K0 := Blk.below (by repeat (with_reducible first | exact K0 | exact K0 _ | exact K0 _ _ | apply Blk.alloc | apply Blk.drew | apply Blk.drewN | apply Blk.set7_0 | apply Blk.set7_1 | apply Blk.set7_2 | apply Blk.set7_3 | apply Blk.set7_4 | apply Blk.set7_5 | apply Blk.set7_6 | (refine Blk.far ?_ (by first | assumption | (simp; omega) | omega) _) | fail)) hb; (try clear cK0_0 cK0_1 cK0_2 cK0_3 cK0_4 cK0_5 cK0_6 fK0 lK0 nK0 mK0); obtain ⟨cK0_0, cK0_1, cK0_2, cK0_3, cK0_4, cK0_5, cK0_6, fK0, lK0, nK0, mK0⟩ := Blk.all7 K0) | (go_at_call 30; with_reducible refine (hg.out _).mono ?_; rintro e w' ⟨rfl, hb⟩; have HB := bl_step (by repeat (with_reducible first | exact HB | (refine bl_set ?_ (by omega)) | apply bl_alloc | apply bl_drew | apply bl_drewN | fail)) hb; have hzB := HB.size; have K0 := Blk.below (by repeat (with_reducible first | exact K0 | exact K0 _ | exact K0 _ _ | apply Blk.alloc | apply Blk.drew | apply Blk.drewN | apply Blk.set7_0 | apply Blk.set7_1 | apply Blk.set7_2 | apply Blk.set7_3 | apply Blk.set7_4 | apply Blk.set7_5 | apply Blk.set7_6 | (refine Blk.far ?_ (by first | assumption | (simp; omega) | omega) _) | fail)) hb; (try clear cK0_0 cK0_1 cK0_2 cK0_3 cK0_4 cK0_5 cK0_6 fK0 lK0 nK0 mK0); obtain ⟨cK0_0, cK0_1, cK0_2, cK0_3, cK0_4, cK0_5, cK0_6, fK0, lK0, nK0, mK0⟩ := Blk.all7 K0; have K1 := fun cs => Blk.new w' cs 59) | (go_at_call 17; with_reducible refine (enum_c _ _).mono ?_; rintro e w' ⟨rfl, rfl⟩) | fail)
  go_ret
  exact ⟨by simp, (by repeat (with_reducible first | exact Below.refl _ _ | assumption | (refine bl_set ?_ (by omega)) | apply bl_alloc | apply bl_drewN | apply bl_drew | (refine bl_step ?_ (by assumption)) | fail))⟩
set_option maxRecDepth 100000 in
set_option maxHeartbeats 6400000 in
theorem hasks_21 (x0 x1 : Int) (ag : Bool) (im : ByteArray) (w : World) (hq : wrap64 (Int.tmod (IntKind.u64.wrap x0) 6) = 1) (hx : Go.bits .and .i64 x1 3 = 1) (hz : im.size = 70)
    (hc : Hid (∀ W : World, Calls Try.prog 28 #[.int .i64 70] W fun e w' => e = .returned (hostV 1 im 0 false 0 ⟨#[]⟩ 0) ∧ Below W.heap.size W w')) :
    Calls Try.prog 10 #[.int .i64 x0, .int .i64 x1, .bool ag] w fun e w' => e = .returned (.bool true) ∧ Below w.heap.size w w' := by
  have HB := Below.refl w.heap.size w
  have ha := Lib.hid (fun W : World => asks_c 2 im 1 ag 0 ⟨#[]⟩ 0 W (by omega) (by decide))
  rw [asks_form (by omega) (by omega) (by omega) (by omega) (by omega) (by unfold manyI; omega)] at ha
  have e5 : dataB im 1 = im.extract 32 64 := by rfl
  have e6 : ((dataB im 1).size : Int) = 32 := by rw [e5, ByteArray.size_extract, hz]; rfl
  have e1 : askC 2 1 ag = 1 := by simp [askC]
  have e2 : askW 2 1 = 1 := by simp [askW]
  have e3 : askL 2 im 1 ag = 32 := by simp [askL, e6]
  have e4 : askD 2 im 1 = im.extract 32 64 := by simp [askD, e5]
  rw [e1, e2, e3, e4] at ha
  have hv : setMay 1 1 32 = true := by first | decide | (simp [setMay, rngB]; omega) | fail
  obtain ⟨g1, g2⟩ := got_sup hv
  have hg := Lib.hid (fun W : World => rsget_c (supB 1 1 32) W)
  rw [g1, g2] at hg
  simp only [cond_true] at hg
  clear g1 g2 hv e1 e2 e3 e4
  generalize supB 1 1 32 = S at *
  clear e5 e6
  go_enter Try.func10, Try.ntmps10
  go_wp2_with (first | (go_at_call 27; with_reducible refine (awake_c _).mono ?_; rintro e w' ⟨rfl, hb⟩; have HB := bl_step (by repeat (with_reducible first | exact HB | (refine bl_set ?_ (by omega)) | apply bl_alloc | apply bl_drew | apply bl_drewN | fail)) hb; have hzB := HB.size) | (go_at_call 28; with_reducible refine (hc.out _).mono ?_; rintro e w' ⟨rfl, hb⟩; have HB := bl_step (by repeat (with_reducible first | exact HB | (refine bl_set ?_ (by omega)) | apply bl_alloc | apply bl_drew | apply bl_drewN | fail)) hb; have hzB := HB.size; have K0 := fun cs => Blk.new w' cs 44) | (go_at_call 23; with_reducible refine (ha.out _).mono ?_; rintro e w' ⟨rfl, hb⟩; have HB := bl_step (by repeat (with_reducible first | exact HB | (refine bl_set ?_ (by omega)) | apply bl_alloc | apply bl_drew | apply bl_drewN | fail)) hb; have hzB := HB.size; have K0 := Blk.below (by repeat (with_reducible first | exact K0 | exact K0 _ | exact K0 _ _ | apply Blk.alloc | apply Blk.drew | apply Blk.drewN | apply Blk.set7_0 | apply Blk.set7_1 | apply Blk.set7_2 | apply Blk.set7_3 | apply Blk.set7_4 | apply Blk.set7_5 | apply Blk.set7_6 | (refine Blk.far ?_ (by first | assumption | (simp; omega) | omega) _) | fail)) hb; (try clear cK0_0 cK0_1 cK0_2 cK0_3 cK0_4 cK0_5 cK0_6 fK0 lK0 nK0 mK0); obtain ⟨cK0_0, cK0_1, cK0_2, cK0_3, cK0_4, cK0_5, cK0_6, fK0, lK0, nK0, mK0⟩ := Blk.all7 K0) | (go_at_call 30; with_reducible refine (hg.out _).mono ?_; rintro e w' ⟨rfl, hb⟩; have HB := bl_step (by repeat (with_reducible first | exact HB | (refine bl_set ?_ (by omega)) | apply bl_alloc | apply bl_drew | apply bl_drewN | fail)) hb; have hzB := HB.size; have K0 := Blk.below (by repeat (with_reducible first | exact K0 | exact K0 _ | exact K0 _ _ | apply Blk.alloc | apply Blk.drew | apply Blk.drewN | apply Blk.set7_0 | apply Blk.set7_1 | apply Blk.set7_2 | apply Blk.set7_3 | apply Blk.set7_4 | apply Blk.set7_5 | apply Blk.set7_6 | (refine Blk.far ?_ (by first | assumption | (simp; omega) | omega) _) | fail)) hb; (try clear cK0_0 cK0_1 cK0_2 cK0_3 cK0_4 cK0_5 cK0_6 fK0 lK0 nK0 mK0); obtain ⟨cK0_0, cK0_1, cK0_2, cK0_3, cK0_4, cK0_5, cK0_6, fK0, lK0, nK0, mK0⟩ := Blk.all7 K0; have K1 := fun cs => Blk.new w' cs 59) | (go_at_call 17; with_reducible refine (enum_c _ _).mono ?_; rintro e w' ⟨rfl, rfl⟩) | fail)
  go_ret
  exact ⟨by simp, (by repeat (with_reducible first | exact Below.refl _ _ | assumption | (refine bl_set ?_ (by omega)) | apply bl_alloc | apply bl_drewN | apply bl_drew | (refine bl_step ?_ (by assumption)) | fail))⟩
set_option maxRecDepth 100000 in
set_option maxHeartbeats 6400000 in
theorem hasks_22 (x0 x1 : Int) (ag : Bool) (im : ByteArray) (w : World) (hq : wrap64 (Int.tmod (IntKind.u64.wrap x0) 6) = 1) (hx : Go.bits .and .i64 x1 3 = 2) (hz : im.size = 70)
    (hc : Hid (∀ W : World, Calls Try.prog 28 #[.int .i64 70] W fun e w' => e = .returned (hostV 1 im 0 false 0 ⟨#[]⟩ 0) ∧ Below W.heap.size W w')) :
    Calls Try.prog 10 #[.int .i64 x0, .int .i64 x1, .bool ag] w fun e w' => e = .returned (.bool true) ∧ Below w.heap.size w w' := by
  have HB := Below.refl w.heap.size w
  have ha := Lib.hid (fun W : World => asks_c 2 im 2 ag 0 ⟨#[]⟩ 0 W (by omega) (by decide))
  rw [asks_form (by omega) (by omega) (by omega) (by omega) (by omega) (by unfold manyI; omega)] at ha
  have e5 : dataB im 2 = im.extract 64 70 := by have h := cut_last (im := im) (a := 64) (b := 96) (by omega); rw [hz] at h; exact h
  have e6 : ((dataB im 2).size : Int) = 6 := by rw [e5, ByteArray.size_extract, hz]; rfl
  have e1 : askC 2 2 ag = 1 := by simp [askC]
  have e2 : askW 2 2 = 2 := by simp [askW]
  have e3 : askL 2 im 2 ag = 6 := by simp [askL, e6]
  have e4 : askD 2 im 2 = im.extract 64 70 := by simp [askD, e5]
  rw [e1, e2, e3, e4] at ha
  have hv : setMay 1 2 6 = true := by first | decide | (simp [setMay, rngB]; omega) | fail
  obtain ⟨g1, g2⟩ := got_sup hv
  have hg := Lib.hid (fun W : World => rsget_c (supB 1 2 6) W)
  rw [g1, g2] at hg
  simp only [cond_true] at hg
  clear g1 g2 hv e1 e2 e3 e4
  generalize supB 1 2 6 = S at *
  clear e5 e6
  go_enter Try.func10, Try.ntmps10
  go_wp2_with (first | (go_at_call 27; with_reducible refine (awake_c _).mono ?_; rintro e w' ⟨rfl, hb⟩; have HB := bl_step (by repeat (with_reducible first | exact HB | (refine bl_set ?_ (by omega)) | apply bl_alloc | apply bl_drew | apply bl_drewN | fail)) hb; have hzB := HB.size) | (go_at_call 28; with_reducible refine (hc.out _).mono ?_; rintro e w' ⟨rfl, hb⟩; have HB := bl_step (by repeat (with_reducible first | exact HB | (refine bl_set ?_ (by omega)) | apply bl_alloc | apply bl_drew | apply bl_drewN | fail)) hb; have hzB := HB.size; have K0 := fun cs => Blk.new w' cs 44) | (go_at_call 23; with_reducible refine (ha.out _).mono ?_; rintro e w' ⟨rfl, hb⟩; have HB := bl_step (by repeat (with_reducible first | exact HB | (refine bl_set ?_ (by omega)) | apply bl_alloc | apply bl_drew | apply bl_drewN | fail)) hb; have hzB := HB.size; have K0 := Blk.below (by repeat (with_reducible first | exact K0 | exact K0 _ | exact K0 _ _ | apply Blk.alloc | apply Blk.drew | apply Blk.drewN | apply Blk.set7_0 | apply Blk.set7_1 | apply Blk.set7_2 | apply Blk.set7_3 | apply Blk.set7_4 | apply Blk.set7_5 | apply Blk.set7_6 | (refine Blk.far ?_ (by first | assumption | (simp; omega) | omega) _) | fail)) hb; (try clear cK0_0 cK0_1 cK0_2 cK0_3 cK0_4 cK0_5 cK0_6 fK0 lK0 nK0 mK0); obtain ⟨cK0_0, cK0_1, cK0_2, cK0_3, cK0_4, cK0_5, cK0_6, fK0, lK0, nK0, mK0⟩ := Blk.all7 K0) | (go_at_call 30; with_reducible refine (hg.out _).mono ?_; rintro e w' ⟨rfl, hb⟩; have HB := bl_step (by repeat (with_reducible first | exact HB | (refine bl_set ?_ (by omega)) | apply bl_alloc | apply bl_drew | apply bl_drewN | fail)) hb; have hzB := HB.size; have K0 := Blk.below (by repeat (with_reducible first | exact K0 | exact K0 _ | exact K0 _ _ | apply Blk.alloc | apply Blk.drew | apply Blk.drewN | apply Blk.set7_0 | apply Blk.set7_1 | apply Blk.set7_2 | apply Blk.set7_3 | apply Blk.set7_4 | apply Blk.set7_5 | apply Blk.set7_6 | (refine Blk.far ?_ (by first | assumption | (simp; omega) | omega) _) | fail)) hb; (try clear cK0_0 cK0_1 cK0_2 cK0_3 cK0_4 cK0_5 cK0_6 fK0 lK0 nK0 mK0); obtain ⟨cK0_0, cK0_1, cK0_2, cK0_3, cK0_4, cK0_5, cK0_6, fK0, lK0, nK0, mK0⟩ := Blk.all7 K0; have K1 := fun cs => Blk.new w' cs 59) | (go_at_call 17; with_reducible refine (enum_c _ _).mono ?_; rintro e w' ⟨rfl, rfl⟩) | fail)
  go_ret
  exact ⟨by simp, (by repeat (with_reducible first | exact Below.refl _ _ | assumption | (refine bl_set ?_ (by omega)) | apply bl_alloc | apply bl_drewN | apply bl_drew | (refine bl_step ?_ (by assumption)) | fail))⟩
set_option maxRecDepth 100000 in
set_option maxHeartbeats 6400000 in
theorem hasks_23 (x0 x1 : Int) (ag : Bool) (im : ByteArray) (w : World) (hq : wrap64 (Int.tmod (IntKind.u64.wrap x0) 6) = 1) (hx : Go.bits .and .i64 x1 3 = 3) (hz : im.size = 70)
    (hc : Hid (∀ W : World, Calls Try.prog 28 #[.int .i64 70] W fun e w' => e = .returned (hostV 1 im 0 false 0 ⟨#[]⟩ 0) ∧ Below W.heap.size W w')) :
    Calls Try.prog 10 #[.int .i64 x0, .int .i64 x1, .bool ag] w fun e w' => e = .returned (.bool true) ∧ Below w.heap.size w w' := by
  have HB := Below.refl w.heap.size w
  have ha := Lib.hid (fun W : World => asks_c 2 im 3 ag 0 ⟨#[]⟩ 0 W (by omega) (by decide))
  rw [asks_form (by omega) (by omega) (by omega) (by omega) (by omega) (by unfold manyI; omega)] at ha
  have e5 : dataB im 3 = ⟨#[]⟩ := data_none' (by omega)
  have e6 : ((dataB im 3).size : Int) = 0 := by rw [e5]; rfl
  have e1 : askC 2 3 ag = 1 := by simp [askC]
  have e2 : askW 2 3 = 3 := by simp [askW]
  have e3 : askL 2 im 3 ag = 0 := by simp [askL, e6]
  have e4 : askD 2 im 3 = ⟨#[]⟩ := by simp [askD, e5]
  rw [e1, e2, e3, e4] at ha
  have hv : setMay 1 3 0 = true := by first | decide | (simp [setMay, rngB]; omega) | fail
  obtain ⟨g1, g2⟩ := got_sup hv
  have hg := Lib.hid (fun W : World => rsget_c (supB 1 3 0) W)
  rw [g1, g2] at hg
  simp only [cond_true] at hg
  clear g1 g2 hv e1 e2 e3 e4
  generalize supB 1 3 0 = S at *
  clear e5 e6
  go_enter Try.func10, Try.ntmps10
  go_wp2_with (first | (go_at_call 27; with_reducible refine (awake_c _).mono ?_; rintro e w' ⟨rfl, hb⟩; have HB := bl_step (by repeat (with_reducible first | exact HB | (refine bl_set ?_ (by omega)) | apply bl_alloc | apply bl_drew | apply bl_drewN | fail)) hb; have hzB := HB.size) | (go_at_call 28; with_reducible refine (hc.out _).mono ?_; rintro e w' ⟨rfl, hb⟩; have HB := bl_step (by repeat (with_reducible first | exact HB | (refine bl_set ?_ (by omega)) | apply bl_alloc | apply bl_drew | apply bl_drewN | fail)) hb; have hzB := HB.size; have K0 := fun cs => Blk.new w' cs 44) | (go_at_call 23; with_reducible refine (ha.out _).mono ?_; rintro e w' ⟨rfl, hb⟩; have HB := bl_step (by repeat (with_reducible first | exact HB | (refine bl_set ?_ (by omega)) | apply bl_alloc | apply bl_drew | apply bl_drewN | fail)) hb; have hzB := HB.size; have K0 := Blk.below (by repeat (with_reducible first | exact K0 | exact K0 _ | exact K0 _ _ | apply Blk.alloc | apply Blk.drew | apply Blk.drewN | apply Blk.set7_0 | apply Blk.set7_1 | apply Blk.set7_2 | apply Blk.set7_3 | apply Blk.set7_4 | apply Blk.set7_5 | apply Blk.set7_6 | (refine Blk.far ?_ (by first | assumption | (simp; omega) | omega) _) | fail)) hb; (try clear cK0_0 cK0_1 cK0_2 cK0_3 cK0_4 cK0_5 cK0_6 fK0 lK0 nK0 mK0); obtain ⟨cK0_0, cK0_1, cK0_2, cK0_3, cK0_4, cK0_5, cK0_6, fK0, lK0, nK0, mK0⟩ := Blk.all7 K0) | (go_at_call 30; with_reducible refine (hg.out _).mono ?_; rintro e w' ⟨rfl, hb⟩; have HB := bl_step (by repeat (with_reducible first | exact HB | (refine bl_set ?_ (by omega)) | apply bl_alloc | apply bl_drew | apply bl_drewN | fail)) hb; have hzB := HB.size; have K0 := Blk.below (by repeat (with_reducible first | exact K0 | exact K0 _ | exact K0 _ _ | apply Blk.alloc | apply Blk.drew | apply Blk.drewN | apply Blk.set7_0 | apply Blk.set7_1 | apply Blk.set7_2 | apply Blk.set7_3 | apply Blk.set7_4 | apply Blk.set7_5 | apply Blk.set7_6 | (refine Blk.far ?_ (by first | assumption | (simp; omega) | omega) _) | fail)) hb; (try clear cK0_0 cK0_1 cK0_2 cK0_3 cK0_4 cK0_5 cK0_6 fK0 lK0 nK0 mK0); obtain ⟨cK0_0, cK0_1, cK0_2, cK0_3, cK0_4, cK0_5, cK0_6, fK0, lK0, nK0, mK0⟩ := Blk.all7 K0; have K1 := fun cs => Blk.new w' cs 59) | (go_at_call 17; with_reducible refine (enum_c _ _).mono ?_; rintro e w' ⟨rfl, rfl⟩) | fail)
  go_ret
  exact ⟨by simp, (by repeat (with_reducible first | exact Below.refl _ _ | assumption | (refine bl_set ?_ (by omega)) | apply bl_alloc | apply bl_drewN | apply bl_drew | (refine bl_step ?_ (by assumption)) | fail))⟩
set_option maxRecDepth 100000 in
set_option maxHeartbeats 6400000 in
theorem hasks_3 (x0 x1 : Int) (b : Int) (b0 : 0 ≤ b) (b1 : b ≤ 3) (ag : Bool) (im : ByteArray) (w : World) (hq : wrap64 (Int.tmod (IntKind.u64.wrap x0) 6) = 2) (hx : Go.bits .and .i64 x1 3 = b) (hz : im.size = 70)
    (hc : Hid (∀ W : World, Calls Try.prog 28 #[.int .i64 70] W fun e w' => e = .returned (hostV 1 im 0 false 0 ⟨#[]⟩ 0) ∧ Below W.heap.size W w')) :
    Calls Try.prog 10 #[.int .i64 x0, .int .i64 x1, .bool ag] w fun e w' => e = .returned (.bool true) ∧ Below w.heap.size w w' := by
  have HB := Below.refl w.heap.size w
  have ha := Lib.hid (fun W : World => asks_c 3 im b ag 0 ⟨#[]⟩ 0 W (by omega) (by decide))
  rw [asks_form (by omega) (by omega) (by omega) (by omega) (by omega) (by unfold manyI; omega)] at ha
  have e1 : askC 3 b ag = 3 := by simp [askC]
  have e2 : askW 3 b = 0 := by simp [askW]
  have e3 : askL 3 im b ag = 6 := by simp [askL]
  have e4 : askD 3 im b = ⟨#[]⟩ := by simp [askD]
  rw [e1, e2, e3, e4] at ha
  have hv : setMay 3 0 6 = true := by first | decide | (simp [setMay, rngB]; omega) | fail
  obtain ⟨g1, g2⟩ := got_sup hv
  have hg := Lib.hid (fun W : World => rsget_c (supB 3 0 6) W)
  rw [g1, g2] at hg
  simp only [cond_true] at hg
  clear g1 g2 hv e1 e2 e3 e4
  generalize supB 3 0 6 = S at *
  go_enter Try.func10, Try.ntmps10
  go_wp2_with (first | (go_at_call 27; with_reducible refine (awake_c _).mono ?_; rintro e w' ⟨rfl, hb⟩; have HB := bl_step (by repeat (with_reducible first | exact HB | (refine bl_set ?_ (by omega)) | apply bl_alloc | apply bl_drew | apply bl_drewN | fail)) hb; have hzB := HB.size) | (go_at_call 28; with_reducible refine (hc.out _).mono ?_; rintro e w' ⟨rfl, hb⟩; have HB := bl_step (by repeat (with_reducible first | exact HB | (refine bl_set ?_ (by omega)) | apply bl_alloc | apply bl_drew | apply bl_drewN | fail)) hb; have hzB := HB.size; have K0 := fun cs => Blk.new w' cs 44) | (go_at_call 23; with_reducible refine (ha.out _).mono ?_; rintro e w' ⟨rfl, hb⟩; have HB := bl_step (by repeat (with_reducible first | exact HB | (refine bl_set ?_ (by omega)) | apply bl_alloc | apply bl_drew | apply bl_drewN | fail)) hb; have hzB := HB.size; have K0 := Blk.below (by repeat (with_reducible first | exact K0 | exact K0 _ | exact K0 _ _ | apply Blk.alloc | apply Blk.drew | apply Blk.drewN | apply Blk.set7_0 | apply Blk.set7_1 | apply Blk.set7_2 | apply Blk.set7_3 | apply Blk.set7_4 | apply Blk.set7_5 | apply Blk.set7_6 | (refine Blk.far ?_ (by first | assumption | (simp; omega) | omega) _) | fail)) hb; (try clear cK0_0 cK0_1 cK0_2 cK0_3 cK0_4 cK0_5 cK0_6 fK0 lK0 nK0 mK0); obtain ⟨cK0_0, cK0_1, cK0_2, cK0_3, cK0_4, cK0_5, cK0_6, fK0, lK0, nK0, mK0⟩ := Blk.all7 K0) | (go_at_call 30; with_reducible refine (hg.out _).mono ?_; rintro e w' ⟨rfl, hb⟩; have HB := bl_step (by repeat (with_reducible first | exact HB | (refine bl_set ?_ (by omega)) | apply bl_alloc | apply bl_drew | apply bl_drewN | fail)) hb; have hzB := HB.size; have K0 := Blk.below (by repeat (with_reducible first | exact K0 | exact K0 _ | exact K0 _ _ | apply Blk.alloc | apply Blk.drew | apply Blk.drewN | apply Blk.set7_0 | apply Blk.set7_1 | apply Blk.set7_2 | apply Blk.set7_3 | apply Blk.set7_4 | apply Blk.set7_5 | apply Blk.set7_6 | (refine Blk.far ?_ (by first | assumption | (simp; omega) | omega) _) | fail)) hb; (try clear cK0_0 cK0_1 cK0_2 cK0_3 cK0_4 cK0_5 cK0_6 fK0 lK0 nK0 mK0); obtain ⟨cK0_0, cK0_1, cK0_2, cK0_3, cK0_4, cK0_5, cK0_6, fK0, lK0, nK0, mK0⟩ := Blk.all7 K0; have K1 := fun cs => Blk.new w' cs 59) | (go_at_call 17; with_reducible refine (enum_c _ _).mono ?_; rintro e w' ⟨rfl, rfl⟩) | fail)
  go_ret
  exact ⟨by simp, (by repeat (with_reducible first | exact Below.refl _ _ | assumption | (refine bl_set ?_ (by omega)) | apply bl_alloc | apply bl_drewN | apply bl_drew | (refine bl_step ?_ (by assumption)) | fail))⟩
set_option maxRecDepth 100000 in
set_option maxHeartbeats 6400000 in
theorem hasks_4 (x0 x1 : Int) (b : Int) (b0 : 0 ≤ b) (b1 : b ≤ 3) (ag : Bool) (im : ByteArray) (w : World) (hq : wrap64 (Int.tmod (IntKind.u64.wrap x0) 6) = 3) (hx : Go.bits .and .i64 x1 3 = b) (hz : im.size = 70)
    (hc : Hid (∀ W : World, Calls Try.prog 28 #[.int .i64 70] W fun e w' => e = .returned (hostV 1 im 0 false 0 ⟨#[]⟩ 0) ∧ Below W.heap.size W w')) :
    Calls Try.prog 10 #[.int .i64 x0, .int .i64 x1, .bool ag] w fun e w' => e = .returned (.bool true) ∧ Below w.heap.size w w' := by
  have HB := Below.refl w.heap.size w
  have ha := Lib.hid (fun W : World => asks_c 4 im b ag 0 ⟨#[]⟩ 0 W (by omega) (by decide))
  rw [asks_form (by omega) (by omega) (by omega) (by omega) (by omega) (by unfold manyI; omega)] at ha
  have e1 : askC 4 b ag = 1 := by simp [askC]
  have e2 : askW 4 b = b := by simp [askW]
  have e3 : askL 4 im b ag = 0 := by simp [askL]
  have e4 : askD 4 im b = ⟨#[]⟩ := by simp [askD]
  rw [e1, e2, e3, e4] at ha
  have hv : setMay 1 b 0 = true := by first | decide | (simp [setMay, rngB]; omega) | fail
  obtain ⟨g1, g2⟩ := got_sup hv
  have hg := Lib.hid (fun W : World => rsget_c (supB 1 b 0) W)
  rw [g1, g2] at hg
  simp only [cond_true] at hg
  clear g1 g2 hv e1 e2 e3 e4
  generalize supB 1 b 0 = S at *
  go_enter Try.func10, Try.ntmps10
  go_wp2_with (first | (go_at_call 27; with_reducible refine (awake_c _).mono ?_; rintro e w' ⟨rfl, hb⟩; have HB := bl_step (by repeat (with_reducible first | exact HB | (refine bl_set ?_ (by omega)) | apply bl_alloc | apply bl_drew | apply bl_drewN | fail)) hb; have hzB := HB.size) | (go_at_call 28; with_reducible refine (hc.out _).mono ?_; rintro e w' ⟨rfl, hb⟩; have HB := bl_step (by repeat (with_reducible first | exact HB | (refine bl_set ?_ (by omega)) | apply bl_alloc | apply bl_drew | apply bl_drewN | fail)) hb; have hzB := HB.size; have K0 := fun cs => Blk.new w' cs 44) | (go_at_call 23; with_reducible refine (ha.out _).mono ?_; rintro e w' ⟨rfl, hb⟩; have HB := bl_step (by repeat (with_reducible first | exact HB | (refine bl_set ?_ (by omega)) | apply bl_alloc | apply bl_drew | apply bl_drewN | fail)) hb; have hzB := HB.size; have K0 := Blk.below (by repeat (with_reducible first | exact K0 | exact K0 _ | exact K0 _ _ | apply Blk.alloc | apply Blk.drew | apply Blk.drewN | apply Blk.set7_0 | apply Blk.set7_1 | apply Blk.set7_2 | apply Blk.set7_3 | apply Blk.set7_4 | apply Blk.set7_5 | apply Blk.set7_6 | (refine Blk.far ?_ (by first | assumption | (simp; omega) | omega) _) | fail)) hb; (try clear cK0_0 cK0_1 cK0_2 cK0_3 cK0_4 cK0_5 cK0_6 fK0 lK0 nK0 mK0); obtain ⟨cK0_0, cK0_1, cK0_2, cK0_3, cK0_4, cK0_5, cK0_6, fK0, lK0, nK0, mK0⟩ := Blk.all7 K0) | (go_at_call 30; with_reducible refine (hg.out _).mono ?_; rintro e w' ⟨rfl, hb⟩; have HB := bl_step (by repeat (with_reducible first | exact HB | (refine bl_set ?_ (by omega)) | apply bl_alloc | apply bl_drew | apply bl_drewN | fail)) hb; have hzB := HB.size; have K0 := Blk.below (by repeat (with_reducible first | exact K0 | exact K0 _ | exact K0 _ _ | apply Blk.alloc | apply Blk.drew | apply Blk.drewN | apply Blk.set7_0 | apply Blk.set7_1 | apply Blk.set7_2 | apply Blk.set7_3 | apply Blk.set7_4 | apply Blk.set7_5 | apply Blk.set7_6 | (refine Blk.far ?_ (by first | assumption | (simp; omega) | omega) _) | fail)) hb; (try clear cK0_0 cK0_1 cK0_2 cK0_3 cK0_4 cK0_5 cK0_6 fK0 lK0 nK0 mK0); obtain ⟨cK0_0, cK0_1, cK0_2, cK0_3, cK0_4, cK0_5, cK0_6, fK0, lK0, nK0, mK0⟩ := Blk.all7 K0; have K1 := fun cs => Blk.new w' cs 59) | (go_at_call 17; with_reducible refine (enum_c _ _).mono ?_; rintro e w' ⟨rfl, rfl⟩) | fail)
  go_ret
  exact ⟨by simp, (by repeat (with_reducible first | exact Below.refl _ _ | assumption | (refine bl_set ?_ (by omega)) | apply bl_alloc | apply bl_drewN | apply bl_drew | (refine bl_step ?_ (by assumption)) | fail))⟩
set_option maxRecDepth 100000 in
set_option maxHeartbeats 6400000 in
theorem hasks_5 (x0 x1 : Int) (b : Int) (b0 : 0 ≤ b) (b1 : b ≤ 3) (ag : Bool) (im : ByteArray) (w : World) (hq : wrap64 (Int.tmod (IntKind.u64.wrap x0) 6) = 4) (hx : Go.bits .and .i64 x1 3 = b) (hz : im.size = 70)
    (hc : Hid (∀ W : World, Calls Try.prog 28 #[.int .i64 70] W fun e w' => e = .returned (hostV 1 im 0 false 0 ⟨#[]⟩ 0) ∧ Below W.heap.size W w')) :
    Calls Try.prog 10 #[.int .i64 x0, .int .i64 x1, .bool ag] w fun e w' => e = .returned (.bool true) ∧ Below w.heap.size w w' := by
  have HB := Below.refl w.heap.size w
  have ha := Lib.hid (fun W : World => asks_c 5 im b ag 0 ⟨#[]⟩ 0 W (by omega) (by decide))
  rw [asks_form (by omega) (by omega) (by omega) (by omega) (by omega) (by unfold manyI; omega)] at ha
  have e1 : askC 5 b ag = 3 := by simp [askC]
  have e2 : askW 5 b = 0 := by simp [askW]
  have e3 : askL 5 im b ag = 6 := by simp [askL]
  have e4 : askD 5 im b = ⟨#[]⟩ := by simp [askD]
  rw [e1, e2, e3, e4] at ha
  have hv : setMay 3 0 6 = true := by first | decide | (simp [setMay, rngB]; omega) | fail
  obtain ⟨g1, g2⟩ := got_sup hv
  have hg := Lib.hid (fun W : World => rsget_c (supB 3 0 6) W)
  rw [g1, g2] at hg
  simp only [cond_true] at hg
  clear g1 g2 hv e1 e2 e3 e4
  generalize supB 3 0 6 = S at *
  go_enter Try.func10, Try.ntmps10
  go_wp2_with (first | (go_at_call 27; with_reducible refine (awake_c _).mono ?_; rintro e w' ⟨rfl, hb⟩; have HB := bl_step (by repeat (with_reducible first | exact HB | (refine bl_set ?_ (by omega)) | apply bl_alloc | apply bl_drew | apply bl_drewN | fail)) hb; have hzB := HB.size) | (go_at_call 28; with_reducible refine (hc.out _).mono ?_; rintro e w' ⟨rfl, hb⟩; have HB := bl_step (by repeat (with_reducible first | exact HB | (refine bl_set ?_ (by omega)) | apply bl_alloc | apply bl_drew | apply bl_drewN | fail)) hb; have hzB := HB.size; have K0 := fun cs => Blk.new w' cs 44) | (go_at_call 23; with_reducible refine (ha.out _).mono ?_; rintro e w' ⟨rfl, hb⟩; have HB := bl_step (by repeat (with_reducible first | exact HB | (refine bl_set ?_ (by omega)) | apply bl_alloc | apply bl_drew | apply bl_drewN | fail)) hb; have hzB := HB.size; have K0 := Blk.below (by repeat (with_reducible first | exact K0 | exact K0 _ | exact K0 _ _ | apply Blk.alloc | apply Blk.drew | apply Blk.drewN | apply Blk.set7_0 | apply Blk.set7_1 | apply Blk.set7_2 | apply Blk.set7_3 | apply Blk.set7_4 | apply Blk.set7_5 | apply Blk.set7_6 | (refine Blk.far ?_ (by first | assumption | (simp; omega) | omega) _) | fail)) hb; (try clear cK0_0 cK0_1 cK0_2 cK0_3 cK0_4 cK0_5 cK0_6 fK0 lK0 nK0 mK0); obtain ⟨cK0_0, cK0_1, cK0_2, cK0_3, cK0_4, cK0_5, cK0_6, fK0, lK0, nK0, mK0⟩ := Blk.all7 K0) | (go_at_call 30; with_reducible refine (hg.out _).mono ?_; rintro e w' ⟨rfl, hb⟩; have HB := bl_step (by repeat (with_reducible first | exact HB | (refine bl_set ?_ (by omega)) | apply bl_alloc | apply bl_drew | apply bl_drewN | fail)) hb; have hzB := HB.size; have K0 := Blk.below (by repeat (with_reducible first | exact K0 | exact K0 _ | exact K0 _ _ | apply Blk.alloc | apply Blk.drew | apply Blk.drewN | apply Blk.set7_0 | apply Blk.set7_1 | apply Blk.set7_2 | apply Blk.set7_3 | apply Blk.set7_4 | apply Blk.set7_5 | apply Blk.set7_6 | (refine Blk.far ?_ (by first | assumption | (simp; omega) | omega) _) | fail)) hb; (try clear cK0_0 cK0_1 cK0_2 cK0_3 cK0_4 cK0_5 cK0_6 fK0 lK0 nK0 mK0); obtain ⟨cK0_0, cK0_1, cK0_2, cK0_3, cK0_4, cK0_5, cK0_6, fK0, lK0, nK0, mK0⟩ := Blk.all7 K0; have K1 := fun cs => Blk.new w' cs 59) | (go_at_call 17; with_reducible refine (enum_c _ _).mono ?_; rintro e w' ⟨rfl, rfl⟩) | fail)
  go_ret
  exact ⟨by simp, (by repeat (with_reducible first | exact Below.refl _ _ | assumption | (refine bl_set ?_ (by omega)) | apply bl_alloc | apply bl_drewN | apply bl_drew | (refine bl_step ?_ (by assumption)) | fail))⟩
set_option maxRecDepth 100000 in
set_option maxHeartbeats 6400000 in
theorem hasks_6 (x0 x1 : Int) (b : Int) (b0 : 0 ≤ b) (b1 : b ≤ 3) (ag : Bool) (im : ByteArray) (w : World) (hq : wrap64 (Int.tmod (IntKind.u64.wrap x0) 6) = 5) (hx : Go.bits .and .i64 x1 3 = b) (hz : im.size = 70)
    (hc : Hid (∀ W : World, Calls Try.prog 28 #[.int .i64 70] W fun e w' => e = .returned (hostV 1 im 0 false 0 ⟨#[]⟩ 0) ∧ Below W.heap.size W w')) :
    Calls Try.prog 10 #[.int .i64 x0, .int .i64 x1, .bool ag] w fun e w' => e = .returned (.bool true) ∧ Below w.heap.size w w' := by
  have HB := Below.refl w.heap.size w
  have ha := Lib.hid (fun W : World => asks_c 6 im b ag 0 ⟨#[]⟩ 0 W (by omega) (by decide))
  rw [asks_form (by omega) (by omega) (by omega) (by omega) (by omega) (by unfold manyI; omega)] at ha
  have e1 : askC 6 b ag = 2 := by simp [askC]
  have e2 : askW 6 b = b := by simp [askW]
  have e3 : askL 6 im b ag = 32 := by simp [askL]
  have e4 : askD 6 im b = ⟨#[]⟩ := by simp [askD]
  rw [e1, e2, e3, e4] at ha
  have hv : setMay 2 b 32 = true := by first | decide | (simp [setMay, rngB]; omega) | fail
  obtain ⟨g1, g2⟩ := got_sup hv
  have hg := Lib.hid (fun W : World => rsget_c (supB 2 b 32) W)
  rw [g1, g2] at hg
  simp only [cond_true] at hg
  clear g1 g2 hv e1 e2 e3 e4
  generalize supB 2 b 32 = S at *
  go_enter Try.func10, Try.ntmps10
  go_wp2_with (first | (go_at_call 27; with_reducible refine (awake_c _).mono ?_; rintro e w' ⟨rfl, hb⟩; have HB := bl_step (by repeat (with_reducible first | exact HB | (refine bl_set ?_ (by omega)) | apply bl_alloc | apply bl_drew | apply bl_drewN | fail)) hb; have hzB := HB.size) | (go_at_call 28; with_reducible refine (hc.out _).mono ?_; rintro e w' ⟨rfl, hb⟩; have HB := bl_step (by repeat (with_reducible first | exact HB | (refine bl_set ?_ (by omega)) | apply bl_alloc | apply bl_drew | apply bl_drewN | fail)) hb; have hzB := HB.size; have K0 := fun cs => Blk.new w' cs 44) | (go_at_call 23; with_reducible refine (ha.out _).mono ?_; rintro e w' ⟨rfl, hb⟩; have HB := bl_step (by repeat (with_reducible first | exact HB | (refine bl_set ?_ (by omega)) | apply bl_alloc | apply bl_drew | apply bl_drewN | fail)) hb; have hzB := HB.size; have K0 := Blk.below (by repeat (with_reducible first | exact K0 | exact K0 _ | exact K0 _ _ | apply Blk.alloc | apply Blk.drew | apply Blk.drewN | apply Blk.set7_0 | apply Blk.set7_1 | apply Blk.set7_2 | apply Blk.set7_3 | apply Blk.set7_4 | apply Blk.set7_5 | apply Blk.set7_6 | (refine Blk.far ?_ (by first | assumption | (simp; omega) | omega) _) | fail)) hb; (try clear cK0_0 cK0_1 cK0_2 cK0_3 cK0_4 cK0_5 cK0_6 fK0 lK0 nK0 mK0); obtain ⟨cK0_0, cK0_1, cK0_2, cK0_3, cK0_4, cK0_5, cK0_6, fK0, lK0, nK0, mK0⟩ := Blk.all7 K0) | (go_at_call 30; with_reducible refine (hg.out _).mono ?_; rintro e w' ⟨rfl, hb⟩; have HB := bl_step (by repeat (with_reducible first | exact HB | (refine bl_set ?_ (by omega)) | apply bl_alloc | apply bl_drew | apply bl_drewN | fail)) hb; have hzB := HB.size; have K0 := Blk.below (by repeat (with_reducible first | exact K0 | exact K0 _ | exact K0 _ _ | apply Blk.alloc | apply Blk.drew | apply Blk.drewN | apply Blk.set7_0 | apply Blk.set7_1 | apply Blk.set7_2 | apply Blk.set7_3 | apply Blk.set7_4 | apply Blk.set7_5 | apply Blk.set7_6 | (refine Blk.far ?_ (by first | assumption | (simp; omega) | omega) _) | fail)) hb; (try clear cK0_0 cK0_1 cK0_2 cK0_3 cK0_4 cK0_5 cK0_6 fK0 lK0 nK0 mK0); obtain ⟨cK0_0, cK0_1, cK0_2, cK0_3, cK0_4, cK0_5, cK0_6, fK0, lK0, nK0, mK0⟩ := Blk.all7 K0; have K1 := fun cs => Blk.new w' cs 59) | (go_at_call 17; with_reducible refine (enum_c _ _).mono ?_; rintro e w' ⟨rfl, rfl⟩) | fail)
  go_ret
  exact ⟨by simp, (by repeat (with_reducible first | exact Below.refl _ _ | assumption | (refine bl_set ?_ (by omega)) | apply bl_alloc | apply bl_drewN | apply bl_drew | (refine bl_step ?_ (by assumption)) | fail))⟩
theorem hasks_w (x0 x1 : Int) (ag : Bool) (w : World) : Calls Try.prog 10 #[.int .i64 x0, .int .i64 x1, .bool ag] w fun e w' => e = .returned (.bool true) ∧ Below w.heap.size w w' := by
  have h0 := Su.umod64 x0 6 (by decide) (by decide)
  have h1 := Bt.and3 x1
  have hz : (cntB 70).size = 70 := cnt_size 70
  have hc := Lib.hid (fun W : World => carry_c 70 W (by decide) (by decide))
  rw [show ((70 : Nat) : Int) = 70 from rfl] at hc
  have b0 : 0 ≤ Go.bits .and .i64 x1 3 := by omega
  have b1 : Go.bits .and .i64 x1 3 ≤ 3 := by omega
  rcases (by omega : wrap64 (Int.tmod (IntKind.u64.wrap x0) 6) = 0 ∨ wrap64 (Int.tmod (IntKind.u64.wrap x0) 6) = 1 ∨ wrap64 (Int.tmod (IntKind.u64.wrap x0) 6) = 2 ∨ wrap64 (Int.tmod (IntKind.u64.wrap x0) 6) = 3 ∨ wrap64 (Int.tmod (IntKind.u64.wrap x0) 6) = 4 ∨ wrap64 (Int.tmod (IntKind.u64.wrap x0) 6) = 5) with h | h | h | h | h | h
  · cases ag
    · exact hasks_1a x0 x1 _ b0 b1 _ w h rfl hz hc
    · by_cases b2 : Go.bits .and .i64 x1 3 = 0
      · exact hasks_1b x0 x1 _ w h b2 hz hc
      · exact hasks_1c x0 x1 _ b0 b1 b2 _ w h rfl hz hc
  · rcases (by omega : Go.bits .and .i64 x1 3 = 0 ∨ Go.bits .and .i64 x1 3 = 1 ∨ Go.bits .and .i64 x1 3 = 2 ∨ Go.bits .and .i64 x1 3 = 3) with b | b | b | b
    · exact hasks_20 x0 x1 ag _ w h b hz hc
    · exact hasks_21 x0 x1 ag _ w h b hz hc
    · exact hasks_22 x0 x1 ag _ w h b hz hc
    · exact hasks_23 x0 x1 ag _ w h b hz hc
  · exact hasks_3 x0 x1 _ b0 b1 ag _ w h rfl hz hc
  · exact hasks_4 x0 x1 _ b0 b1 ag _ w h rfl hz hc
  · exact hasks_5 x0 x1 _ b0 b1 ag _ w h rfl hz hc
  · exact hasks_6 x0 x1 _ b0 b1 ag _ w h rfl hz hc
end Go.Proofs.Ytnppbfjeibfamaa.Ho
