/- Layer 22: what a host asks: the references' Asks. -/
import Derived.Test.YtnppbfjeibfamaaHsr
import Derived.Test.YtnppbfjeibfamaaHsk
import Derived.Test.YtnppbfjeibfamaaSur
namespace Go.Proofs.Ytnppbfjeibfamaa.Ho
open Go.RowKit Go.Proofs.Ytnppbfjeibfamaa.Kt Go.Proofs.Ytnppbfjeibfamaa.Lw Go.Proofs.Ytnppbfjeibfamaa.St Go.Proofs.Ytnppbfjeibfamaa.Nm Go.Proofs.Ytnppbfjeibfamaa.Su
set_option linter.unusedVariables false
set_option linter.unusedSimpArgs false
set_option maxRecDepth 100000 in
set_option maxHeartbeats 6400000 in
theorem rasks_s (ph : Int) (im : ByteArray) (bl : Int) (ag : Bool) (tr : Int) (rd : ByteArray) (rp : Int) (w : World) (hi : im.size ≤ 1000000000000000) (hr : rd.size ≤ 1000000000000000) (hm : hostMay ph im bl tr rd rp = true) (hp : ph = 1 ∨ ph = 3 ∨ ph = 4 ∨ ph = 5 ∨ ph = 6) :
    Calls Try.prog 24 #[hostV ph im bl ag tr rd rp] w fun e w' => e = .returned (asksV ph im bl ag tr rd rp) ∧ Below w.heap.size w w' := by
  have HB := Below.refl w.heap.size w
  have K0 := fun cs => Blk.new w cs 44
  rcases hp with rfl | rfl | rfl | rfl | rfl
  · have ho : offB 1 = false := by decide
    have hk : asksOk 1 im bl tr rd rp = true := by simp [asksOk, hm, ho]
    cases ag
    · go_enter Try.func24, Try.ntmps24
      go_wp2_with (first | (go_at_call 26; refine (rhmay_c _ _ _ _ _ _ _ _ hi hr).mono ?_; rintro e w' ⟨rfl, hb⟩; have HB := bl_step (by repeat (with_reducible first | exact HB | apply bl_alloc | apply bl_drew | apply bl_drewN | fail)) hb; have K0 := Blk.below (by repeat (with_reducible first | exact K0 | exact K0 _ | exact K0 _ _ | apply Blk.alloc | apply Blk.drew | apply Blk.drewN | fail)) hb; obtain ⟨_, _, _, _, _, _, _, _, _, _, _⟩ := Blk.all7 K0) | (go_at_call 49; refine (rests_c _ _ _ _ _ _ _ _).mono ?_; rintro e w' ⟨rfl, hb⟩; have HB := bl_step (by repeat (with_reducible first | exact HB | apply bl_alloc | apply bl_drew | apply bl_drewN | fail)) hb; have K0 := Blk.below (by repeat (with_reducible first | exact K0 | exact K0 _ | exact K0 _ _ | apply Blk.alloc | apply Blk.drew | apply Blk.drewN | fail)) hb; obtain ⟨_, _, _, _, _, _, _, _, _, _, _⟩ := Blk.all7 K0) | (go_at_call 50; refine (rsput_c _ _ _ _).mono ?_; rintro e w' ⟨rfl, hb⟩; have HB := bl_step (by repeat (with_reducible first | exact HB | apply bl_alloc | apply bl_drew | apply bl_drewN | fail)) hb; have K0 := Blk.below (by repeat (with_reducible first | exact K0 | exact K0 _ | exact K0 _ _ | apply Blk.alloc | apply Blk.drew | apply Blk.drewN | fail)) hb; obtain ⟨_, _, _, _, _, _, _, _, _, _, _⟩ := Blk.all7 K0) | fail)
      go_ret3
      exact ⟨by simp [asksV, hk, askC, askW, askL, askD], (by repeat (with_reducible first | exact Below.refl _ _ | assumption | (refine bl_set ?_ (by omega)) | apply bl_alloc | apply bl_drewN | apply bl_drew | (refine bl_step ?_ (by assumption)) | fail))⟩
    · by_cases hb0 : bl = 0
      · subst hb0
        go_enter Try.func24, Try.ntmps24
        go_wp2_with (first | (go_at_call 26; refine (rhmay_c _ _ _ _ _ _ _ _ hi hr).mono ?_; rintro e w' ⟨rfl, hb⟩; have HB := bl_step (by repeat (with_reducible first | exact HB | apply bl_alloc | apply bl_drew | apply bl_drewN | fail)) hb; have K0 := Blk.below (by repeat (with_reducible first | exact K0 | exact K0 _ | exact K0 _ _ | apply Blk.alloc | apply Blk.drew | apply Blk.drewN | fail)) hb; obtain ⟨_, _, _, _, _, _, _, _, _, _, _⟩ := Blk.all7 K0) | (go_at_call 49; refine (rests_c _ _ _ _ _ _ _ _).mono ?_; rintro e w' ⟨rfl, hb⟩; have HB := bl_step (by repeat (with_reducible first | exact HB | apply bl_alloc | apply bl_drew | apply bl_drewN | fail)) hb; have K0 := Blk.below (by repeat (with_reducible first | exact K0 | exact K0 _ | exact K0 _ _ | apply Blk.alloc | apply Blk.drew | apply Blk.drewN | fail)) hb; obtain ⟨_, _, _, _, _, _, _, _, _, _, _⟩ := Blk.all7 K0) | (go_at_call 50; refine (rsput_c _ _ _ _).mono ?_; rintro e w' ⟨rfl, hb⟩; have HB := bl_step (by repeat (with_reducible first | exact HB | apply bl_alloc | apply bl_drew | apply bl_drewN | fail)) hb; have K0 := Blk.below (by repeat (with_reducible first | exact K0 | exact K0 _ | exact K0 _ _ | apply Blk.alloc | apply Blk.drew | apply Blk.drewN | fail)) hb; obtain ⟨_, _, _, _, _, _, _, _, _, _, _⟩ := Blk.all7 K0) | fail)
        go_ret3
        exact ⟨by simp [asksV, hk, askC, askW, askL, askD], (by repeat (with_reducible first | exact Below.refl _ _ | assumption | (refine bl_set ?_ (by omega)) | apply bl_alloc | apply bl_drewN | apply bl_drew | (refine bl_step ?_ (by assumption)) | fail))⟩
      · have hb1 : (bl != 0) = true := by simpa using hb0
        go_enter Try.func24, Try.ntmps24
        go_wp2_with (first | (go_at_call 26; refine (rhmay_c _ _ _ _ _ _ _ _ hi hr).mono ?_; rintro e w' ⟨rfl, hb⟩; have HB := bl_step (by repeat (with_reducible first | exact HB | apply bl_alloc | apply bl_drew | apply bl_drewN | fail)) hb; have K0 := Blk.below (by repeat (with_reducible first | exact K0 | exact K0 _ | exact K0 _ _ | apply Blk.alloc | apply Blk.drew | apply Blk.drewN | fail)) hb; obtain ⟨_, _, _, _, _, _, _, _, _, _, _⟩ := Blk.all7 K0) | (go_at_call 49; refine (rests_c _ _ _ _ _ _ _ _).mono ?_; rintro e w' ⟨rfl, hb⟩; have HB := bl_step (by repeat (with_reducible first | exact HB | apply bl_alloc | apply bl_drew | apply bl_drewN | fail)) hb; have K0 := Blk.below (by repeat (with_reducible first | exact K0 | exact K0 _ | exact K0 _ _ | apply Blk.alloc | apply Blk.drew | apply Blk.drewN | fail)) hb; obtain ⟨_, _, _, _, _, _, _, _, _, _, _⟩ := Blk.all7 K0) | (go_at_call 50; refine (rsput_c _ _ _ _).mono ?_; rintro e w' ⟨rfl, hb⟩; have HB := bl_step (by repeat (with_reducible first | exact HB | apply bl_alloc | apply bl_drew | apply bl_drewN | fail)) hb; have K0 := Blk.below (by repeat (with_reducible first | exact K0 | exact K0 _ | exact K0 _ _ | apply Blk.alloc | apply Blk.drew | apply Blk.drewN | fail)) hb; obtain ⟨_, _, _, _, _, _, _, _, _, _, _⟩ := Blk.all7 K0) | fail)
        go_ret3
        exact ⟨by simp [asksV, hk, askC, askW, askL, askD, hb0], (by repeat (with_reducible first | exact Below.refl _ _ | assumption | (refine bl_set ?_ (by omega)) | apply bl_alloc | apply bl_drewN | apply bl_drew | (refine bl_step ?_ (by assumption)) | fail))⟩
  · have ho : offB 3 = false := by decide
    have hk : asksOk 3 im bl tr rd rp = true := by simp [asksOk, hm, ho]
    go_enter Try.func24, Try.ntmps24
    go_wp2_with (first | (go_at_call 26; refine (rhmay_c _ _ _ _ _ _ _ _ hi hr).mono ?_; rintro e w' ⟨rfl, hb⟩; have HB := bl_step (by repeat (with_reducible first | exact HB | apply bl_alloc | apply bl_drew | apply bl_drewN | fail)) hb; have K0 := Blk.below (by repeat (with_reducible first | exact K0 | exact K0 _ | exact K0 _ _ | apply Blk.alloc | apply Blk.drew | apply Blk.drewN | fail)) hb; obtain ⟨_, _, _, _, _, _, _, _, _, _, _⟩ := Blk.all7 K0) | (go_at_call 49; refine (rests_c _ _ _ _ _ _ _ _).mono ?_; rintro e w' ⟨rfl, hb⟩; have HB := bl_step (by repeat (with_reducible first | exact HB | apply bl_alloc | apply bl_drew | apply bl_drewN | fail)) hb; have K0 := Blk.below (by repeat (with_reducible first | exact K0 | exact K0 _ | exact K0 _ _ | apply Blk.alloc | apply Blk.drew | apply Blk.drewN | fail)) hb; obtain ⟨_, _, _, _, _, _, _, _, _, _, _⟩ := Blk.all7 K0) | (go_at_call 50; refine (rsput_c _ _ _ _).mono ?_; rintro e w' ⟨rfl, hb⟩; have HB := bl_step (by repeat (with_reducible first | exact HB | apply bl_alloc | apply bl_drew | apply bl_drewN | fail)) hb; have K0 := Blk.below (by repeat (with_reducible first | exact K0 | exact K0 _ | exact K0 _ _ | apply Blk.alloc | apply Blk.drew | apply Blk.drewN | fail)) hb; obtain ⟨_, _, _, _, _, _, _, _, _, _, _⟩ := Blk.all7 K0) | fail)
    go_ret3
    exact ⟨by simp [asksV, hk, askC, askW, askL, askD], (by repeat (with_reducible first | exact Below.refl _ _ | assumption | (refine bl_set ?_ (by omega)) | apply bl_alloc | apply bl_drewN | apply bl_drew | (refine bl_step ?_ (by assumption)) | fail))⟩
  · have ho : offB 4 = false := by decide
    have hk : asksOk 4 im bl tr rd rp = true := by simp [asksOk, hm, ho]
    go_enter Try.func24, Try.ntmps24
    go_wp2_with (first | (go_at_call 26; refine (rhmay_c _ _ _ _ _ _ _ _ hi hr).mono ?_; rintro e w' ⟨rfl, hb⟩; have HB := bl_step (by repeat (with_reducible first | exact HB | apply bl_alloc | apply bl_drew | apply bl_drewN | fail)) hb; have K0 := Blk.below (by repeat (with_reducible first | exact K0 | exact K0 _ | exact K0 _ _ | apply Blk.alloc | apply Blk.drew | apply Blk.drewN | fail)) hb; obtain ⟨_, _, _, _, _, _, _, _, _, _, _⟩ := Blk.all7 K0) | (go_at_call 49; refine (rests_c _ _ _ _ _ _ _ _).mono ?_; rintro e w' ⟨rfl, hb⟩; have HB := bl_step (by repeat (with_reducible first | exact HB | apply bl_alloc | apply bl_drew | apply bl_drewN | fail)) hb; have K0 := Blk.below (by repeat (with_reducible first | exact K0 | exact K0 _ | exact K0 _ _ | apply Blk.alloc | apply Blk.drew | apply Blk.drewN | fail)) hb; obtain ⟨_, _, _, _, _, _, _, _, _, _, _⟩ := Blk.all7 K0) | (go_at_call 50; refine (rsput_c _ _ _ _).mono ?_; rintro e w' ⟨rfl, hb⟩; have HB := bl_step (by repeat (with_reducible first | exact HB | apply bl_alloc | apply bl_drew | apply bl_drewN | fail)) hb; have K0 := Blk.below (by repeat (with_reducible first | exact K0 | exact K0 _ | exact K0 _ _ | apply Blk.alloc | apply Blk.drew | apply Blk.drewN | fail)) hb; obtain ⟨_, _, _, _, _, _, _, _, _, _, _⟩ := Blk.all7 K0) | fail)
    go_ret3
    exact ⟨by simp [asksV, hk, askC, askW, askL, askD], (by repeat (with_reducible first | exact Below.refl _ _ | assumption | (refine bl_set ?_ (by omega)) | apply bl_alloc | apply bl_drewN | apply bl_drew | (refine bl_step ?_ (by assumption)) | fail))⟩
  · have ho : offB 5 = false := by decide
    have hk : asksOk 5 im bl tr rd rp = true := by simp [asksOk, hm, ho]
    go_enter Try.func24, Try.ntmps24
    go_wp2_with (first | (go_at_call 26; refine (rhmay_c _ _ _ _ _ _ _ _ hi hr).mono ?_; rintro e w' ⟨rfl, hb⟩; have HB := bl_step (by repeat (with_reducible first | exact HB | apply bl_alloc | apply bl_drew | apply bl_drewN | fail)) hb; have K0 := Blk.below (by repeat (with_reducible first | exact K0 | exact K0 _ | exact K0 _ _ | apply Blk.alloc | apply Blk.drew | apply Blk.drewN | fail)) hb; obtain ⟨_, _, _, _, _, _, _, _, _, _, _⟩ := Blk.all7 K0) | (go_at_call 49; refine (rests_c _ _ _ _ _ _ _ _).mono ?_; rintro e w' ⟨rfl, hb⟩; have HB := bl_step (by repeat (with_reducible first | exact HB | apply bl_alloc | apply bl_drew | apply bl_drewN | fail)) hb; have K0 := Blk.below (by repeat (with_reducible first | exact K0 | exact K0 _ | exact K0 _ _ | apply Blk.alloc | apply Blk.drew | apply Blk.drewN | fail)) hb; obtain ⟨_, _, _, _, _, _, _, _, _, _, _⟩ := Blk.all7 K0) | (go_at_call 50; refine (rsput_c _ _ _ _).mono ?_; rintro e w' ⟨rfl, hb⟩; have HB := bl_step (by repeat (with_reducible first | exact HB | apply bl_alloc | apply bl_drew | apply bl_drewN | fail)) hb; have K0 := Blk.below (by repeat (with_reducible first | exact K0 | exact K0 _ | exact K0 _ _ | apply Blk.alloc | apply Blk.drew | apply Blk.drewN | fail)) hb; obtain ⟨_, _, _, _, _, _, _, _, _, _, _⟩ := Blk.all7 K0) | fail)
    go_ret3
    exact ⟨by simp [asksV, hk, askC, askW, askL, askD], (by repeat (with_reducible first | exact Below.refl _ _ | assumption | (refine bl_set ?_ (by omega)) | apply bl_alloc | apply bl_drewN | apply bl_drew | (refine bl_step ?_ (by assumption)) | fail))⟩
  · have ho : offB 6 = false := by decide
    have hk : asksOk 6 im bl tr rd rp = true := by simp [asksOk, hm, ho]
    go_enter Try.func24, Try.ntmps24
    go_wp2_with (first | (go_at_call 26; refine (rhmay_c _ _ _ _ _ _ _ _ hi hr).mono ?_; rintro e w' ⟨rfl, hb⟩; have HB := bl_step (by repeat (with_reducible first | exact HB | apply bl_alloc | apply bl_drew | apply bl_drewN | fail)) hb; have K0 := Blk.below (by repeat (with_reducible first | exact K0 | exact K0 _ | exact K0 _ _ | apply Blk.alloc | apply Blk.drew | apply Blk.drewN | fail)) hb; obtain ⟨_, _, _, _, _, _, _, _, _, _, _⟩ := Blk.all7 K0) | (go_at_call 49; refine (rests_c _ _ _ _ _ _ _ _).mono ?_; rintro e w' ⟨rfl, hb⟩; have HB := bl_step (by repeat (with_reducible first | exact HB | apply bl_alloc | apply bl_drew | apply bl_drewN | fail)) hb; have K0 := Blk.below (by repeat (with_reducible first | exact K0 | exact K0 _ | exact K0 _ _ | apply Blk.alloc | apply Blk.drew | apply Blk.drewN | fail)) hb; obtain ⟨_, _, _, _, _, _, _, _, _, _, _⟩ := Blk.all7 K0) | (go_at_call 50; refine (rsput_c _ _ _ _).mono ?_; rintro e w' ⟨rfl, hb⟩; have HB := bl_step (by repeat (with_reducible first | exact HB | apply bl_alloc | apply bl_drew | apply bl_drewN | fail)) hb; have K0 := Blk.below (by repeat (with_reducible first | exact K0 | exact K0 _ | exact K0 _ _ | apply Blk.alloc | apply Blk.drew | apply Blk.drewN | fail)) hb; obtain ⟨_, _, _, _, _, _, _, _, _, _, _⟩ := Blk.all7 K0) | fail)
    go_ret3
    exact ⟨by simp [asksV, hk, askC, askW, askL, askD], (by repeat (with_reducible first | exact Below.refl _ _ | assumption | (refine bl_set ?_ (by omega)) | apply bl_alloc | apply bl_drewN | apply bl_drew | (refine bl_step ?_ (by assumption)) | fail))⟩
theorem data_none' {im : ByteArray} {bl : Int} (h : (im.size : Int) ≤ 32 * bl) : dataB im bl = ByteArray.empty := by
  apply ext_data
  have : (dataB im bl).data.toList.length = 0 := by
    have h2 : (dataB im bl).data.toList.length = (dataB im bl).size := by simp
    rw [h2, dataB, ByteArray.size_extract]
    omega
  rw [List.eq_nil_of_length_eq_zero this]
  rfl
theorem data_last' {im : ByteArray} {bl : Int} (h : (im.size : Int) ≤ 32 * bl + 32) : dataB im bl = im.extract (32 * bl).toNat im.size := by
  have h2 : im.size ≤ (32 * bl + 32).toNat := by omega
  apply ext_data
  simp only [dataB, ByteArray.data_extract, Array.toList_extract, List.extract]
  have hl : im.data.toList.length = im.size := by simp
  rw [List.take_of_length_le (by rw [List.length_drop]; omega), List.take_of_length_le (by rw [List.length_drop]; omega)]
set_option maxRecDepth 100000 in
set_option maxHeartbeats 6400000 in
theorem rasks_2 (im : ByteArray) (bl : Int) (ag : Bool) (tr : Int) (rd : ByteArray) (rp : Int) (w : World) (hi : im.size ≤ 1000000000000000) (hr : rd.size ≤ 1000000000000000) (hm : hostMay 2 im bl tr rd rp = true) :
    Calls Try.prog 24 #[hostV 2 im bl ag tr rd rp] w fun e w' => e = .returned (asksV 2 im bl ag tr rd rp) ∧ Below w.heap.size w w' := by
  have HB := Below.refl w.heap.size w
  have K0 := fun cs => Blk.new w cs 44
  have ho : offB 2 = false := by decide
  have hk : asksOk 2 im bl tr rd rp = true := by simp [asksOk, hm, ho]
  obtain ⟨_, hz1, hz2, hz3⟩ := may_facts hk
  rcases (by omega : (im.size : Int) ≤ 32 * bl ∨ (32 * bl < (im.size : Int) ∧ (im.size : Int) ≤ 32 * bl + 32) ∨ (32 * bl < (im.size : Int) ∧ 32 * bl + 32 < (im.size : Int))) with a | ⟨a, b⟩ | ⟨a, b⟩
  · have e : dataB im bl = ByteArray.empty := data_none' a
    go_enter Try.func24, Try.ntmps24
    go_wp2_with (first | (go_at_call 26; refine (rhmay_c _ _ _ _ _ _ _ _ hi hr).mono ?_; rintro e w' ⟨rfl, hb⟩; have HB := bl_step (by repeat (with_reducible first | exact HB | apply bl_alloc | apply bl_drew | apply bl_drewN | fail)) hb; have K0 := Blk.below (by repeat (with_reducible first | exact K0 | exact K0 _ | exact K0 _ _ | apply Blk.alloc | apply Blk.drew | apply Blk.drewN | fail)) hb; obtain ⟨_, _, _, _, _, _, _, _, _, _, _⟩ := Blk.all7 K0) | (go_at_call 49; refine (rests_c _ _ _ _ _ _ _ _).mono ?_; rintro e w' ⟨rfl, hb⟩; have HB := bl_step (by repeat (with_reducible first | exact HB | apply bl_alloc | apply bl_drew | apply bl_drewN | fail)) hb; have K0 := Blk.below (by repeat (with_reducible first | exact K0 | exact K0 _ | exact K0 _ _ | apply Blk.alloc | apply Blk.drew | apply Blk.drewN | fail)) hb; obtain ⟨_, _, _, _, _, _, _, _, _, _, _⟩ := Blk.all7 K0) | (go_at_call 50; refine (rsput_c _ _ _ _).mono ?_; rintro e w' ⟨rfl, hb⟩; have HB := bl_step (by repeat (with_reducible first | exact HB | apply bl_alloc | apply bl_drew | apply bl_drewN | fail)) hb; have K0 := Blk.below (by repeat (with_reducible first | exact K0 | exact K0 _ | exact K0 _ _ | apply Blk.alloc | apply Blk.drew | apply Blk.drewN | fail)) hb; obtain ⟨_, _, _, _, _, _, _, _, _, _, _⟩ := Blk.all7 K0) | fail)
    all_goals (go_ret3; exact ⟨by simp [asksV, hk, askC, askW, askL, askD, e], (by repeat (with_reducible first | exact Below.refl _ _ | assumption | (refine bl_set ?_ (by omega)) | apply bl_alloc | apply bl_drewN | apply bl_drew | (refine bl_step ?_ (by assumption)) | fail))⟩)
  · have e : dataB im bl = im.extract (32 * bl).toNat im.size := data_last' b
    have e2 : ((dataB im bl).size : Int) = ((im.size - (32 * bl).toNat : Nat) : Int) := by rw [e, ByteArray.size_extract, Nat.min_self]
    go_enter Try.func24, Try.ntmps24
    go_wp2_with (first | (go_at_call 26; refine (rhmay_c _ _ _ _ _ _ _ _ hi hr).mono ?_; rintro e w' ⟨rfl, hb⟩; have HB := bl_step (by repeat (with_reducible first | exact HB | apply bl_alloc | apply bl_drew | apply bl_drewN | fail)) hb; have K0 := Blk.below (by repeat (with_reducible first | exact K0 | exact K0 _ | exact K0 _ _ | apply Blk.alloc | apply Blk.drew | apply Blk.drewN | fail)) hb; obtain ⟨_, _, _, _, _, _, _, _, _, _, _⟩ := Blk.all7 K0) | (go_at_call 49; refine (rests_c _ _ _ _ _ _ _ _).mono ?_; rintro e w' ⟨rfl, hb⟩; have HB := bl_step (by repeat (with_reducible first | exact HB | apply bl_alloc | apply bl_drew | apply bl_drewN | fail)) hb; have K0 := Blk.below (by repeat (with_reducible first | exact K0 | exact K0 _ | exact K0 _ _ | apply Blk.alloc | apply Blk.drew | apply Blk.drewN | fail)) hb; obtain ⟨_, _, _, _, _, _, _, _, _, _, _⟩ := Blk.all7 K0) | (go_at_call 50; refine (rsput_c _ _ _ _).mono ?_; rintro e w' ⟨rfl, hb⟩; have HB := bl_step (by repeat (with_reducible first | exact HB | apply bl_alloc | apply bl_drew | apply bl_drewN | fail)) hb; have K0 := Blk.below (by repeat (with_reducible first | exact K0 | exact K0 _ | exact K0 _ _ | apply Blk.alloc | apply Blk.drew | apply Blk.drewN | fail)) hb; obtain ⟨_, _, _, _, _, _, _, _, _, _, _⟩ := Blk.all7 K0) | fail)
    all_goals (go_ret3; exact ⟨by simp [asksV, hk, askC, askW, askL, askD, e2]; simp [e], (by repeat (with_reducible first | exact Below.refl _ _ | assumption | (refine bl_set ?_ (by omega)) | apply bl_alloc | apply bl_drewN | apply bl_drew | (refine bl_step ?_ (by assumption)) | fail))⟩)
  · have e2 : ((dataB im bl).size : Int) = (((32 * bl + 32).toNat - (32 * bl).toNat : Nat) : Int) := by
      unfold dataB
      rw [ByteArray.size_extract, show min (32 * bl + 32).toNat im.size = (32 * bl + 32).toNat by omega]
    go_enter Try.func24, Try.ntmps24
    go_wp2_with (first | (go_at_call 26; refine (rhmay_c _ _ _ _ _ _ _ _ hi hr).mono ?_; rintro e w' ⟨rfl, hb⟩; have HB := bl_step (by repeat (with_reducible first | exact HB | apply bl_alloc | apply bl_drew | apply bl_drewN | fail)) hb; have K0 := Blk.below (by repeat (with_reducible first | exact K0 | exact K0 _ | exact K0 _ _ | apply Blk.alloc | apply Blk.drew | apply Blk.drewN | fail)) hb; obtain ⟨_, _, _, _, _, _, _, _, _, _, _⟩ := Blk.all7 K0) | (go_at_call 49; refine (rests_c _ _ _ _ _ _ _ _).mono ?_; rintro e w' ⟨rfl, hb⟩; have HB := bl_step (by repeat (with_reducible first | exact HB | apply bl_alloc | apply bl_drew | apply bl_drewN | fail)) hb; have K0 := Blk.below (by repeat (with_reducible first | exact K0 | exact K0 _ | exact K0 _ _ | apply Blk.alloc | apply Blk.drew | apply Blk.drewN | fail)) hb; obtain ⟨_, _, _, _, _, _, _, _, _, _, _⟩ := Blk.all7 K0) | (go_at_call 50; refine (rsput_c _ _ _ _).mono ?_; rintro e w' ⟨rfl, hb⟩; have HB := bl_step (by repeat (with_reducible first | exact HB | apply bl_alloc | apply bl_drew | apply bl_drewN | fail)) hb; have K0 := Blk.below (by repeat (with_reducible first | exact K0 | exact K0 _ | exact K0 _ _ | apply Blk.alloc | apply Blk.drew | apply Blk.drewN | fail)) hb; obtain ⟨_, _, _, _, _, _, _, _, _, _, _⟩ := Blk.all7 K0) | fail)
    all_goals (go_ret3; exact ⟨by simp [asksV, hk, askC, askW, askL, askD]; exact ⟨by rw [e2, show min (32 * bl + 32).toNat im.size = (32 * bl + 32).toNat by omega], rfl⟩, (by repeat (with_reducible first | exact Below.refl _ _ | assumption | (refine bl_set ?_ (by omega)) | apply bl_alloc | apply bl_drewN | apply bl_drew | (refine bl_step ?_ (by assumption)) | fail))⟩)
set_option maxRecDepth 100000 in
set_option maxHeartbeats 6400000 in
theorem rasks_c (ph : Int) (im : ByteArray) (bl : Int) (ag : Bool) (tr : Int) (rd : ByteArray) (rp : Int) (w : World) (hi : im.size ≤ 1000000000000000) (hr : rd.size ≤ 1000000000000000) :
    Calls Try.prog 24 #[hostV ph im bl ag tr rd rp] w fun e w' => e = .returned (asksV ph im bl ag tr rd rp) ∧ Below w.heap.size w w' := by
  have HB := Below.refl w.heap.size w
  have K0 := fun cs => Blk.new w cs 44
  cases hm : hostMay ph im bl tr rd rp
  · have hv : asksV ph im bl ag tr rd rp = .tuple #[.string ⟨#[]⟩, .string ⟨#[]⟩, .int .i64 2200] := by simp [asksV, asksOk, hm]
    go_enter Try.func24, Try.ntmps24
    go_wp2_with (first | (go_at_call 26; refine (rhmay_c _ _ _ _ _ _ _ _ hi hr).mono ?_; rintro e w' ⟨rfl, hb⟩; have HB := bl_step (by repeat (with_reducible first | exact HB | apply bl_alloc | apply bl_drew | apply bl_drewN | fail)) hb; have K0 := Blk.below (by repeat (with_reducible first | exact K0 | exact K0 _ | exact K0 _ _ | apply Blk.alloc | apply Blk.drew | apply Blk.drewN | fail)) hb; obtain ⟨_, _, _, _, _, _, _, _, _, _, _⟩ := Blk.all7 K0) | fail)
    exact bodyPost_ret (v := asksV ph im bl ag tr rd rp) (by rw [hv]; simp [results, Try.results24, go_sem]) rfl ⟨rfl, (by repeat (with_reducible first | exact Below.refl _ _ | assumption | (refine bl_set ?_ (by omega)) | apply bl_alloc | apply bl_drewN | apply bl_drew | (refine bl_step ?_ (by assumption)) | fail))⟩
  · cases ho : offB ph
    · have hk : asksOk ph im bl tr rd rp = true := by simp [asksOk, hm, ho]
      rcases (may_facts hk).1 with rfl | rfl | rfl | rfl | rfl | rfl
      · exact rasks_s 1 im bl ag tr rd rp w hi hr hm (by simp)
      · exact rasks_2 im bl ag tr rd rp w hi hr hm
      · exact rasks_s 3 im bl ag tr rd rp w hi hr hm (by simp)
      · exact rasks_s 4 im bl ag tr rd rp w hi hr hm (by simp)
      · exact rasks_s 5 im bl ag tr rd rp w hi hr hm (by simp)
      · exact rasks_s 6 im bl ag tr rd rp w hi hr hm (by simp)
    · have hv : asksV ph im bl ag tr rd rp = .tuple #[.string ⟨#[]⟩, .string ⟨#[]⟩, .int .i64 2200] := by simp [asksV, asksOk, hm, ho]
      go_enter Try.func24, Try.ntmps24
      go_wp2_with (first | (go_at_call 26; refine (rhmay_c _ _ _ _ _ _ _ _ hi hr).mono ?_; rintro e w' ⟨rfl, hb⟩; have HB := bl_step (by repeat (with_reducible first | exact HB | apply bl_alloc | apply bl_drew | apply bl_drewN | fail)) hb; have K0 := Blk.below (by repeat (with_reducible first | exact K0 | exact K0 _ | exact K0 _ _ | apply Blk.alloc | apply Blk.drew | apply Blk.drewN | fail)) hb; obtain ⟨_, _, _, _, _, _, _, _, _, _, _⟩ := Blk.all7 K0) | (go_at_call 49; refine (rests_c _ _ _ _ _ _ _ _).mono ?_; rintro e w' ⟨rfl, hb⟩; have HB := bl_step (by repeat (with_reducible first | exact HB | apply bl_alloc | apply bl_drew | apply bl_drewN | fail)) hb; have K0 := Blk.below (by repeat (with_reducible first | exact K0 | exact K0 _ | exact K0 _ _ | apply Blk.alloc | apply Blk.drew | apply Blk.drewN | fail)) hb; obtain ⟨_, _, _, _, _, _, _, _, _, _, _⟩ := Blk.all7 K0) | fail)
      exact bodyPost_ret (v := asksV ph im bl ag tr rd rp) (by rw [hv]; simp [results, Try.results24, go_sem]) rfl ⟨rfl, (by repeat (with_reducible first | exact Below.refl _ _ | assumption | (refine bl_set ?_ (by omega)) | apply bl_alloc | apply bl_drewN | apply bl_drew | (refine bl_step ?_ (by assumption)) | fail))⟩
end Go.Proofs.Ytnppbfjeibfamaa.Ho
