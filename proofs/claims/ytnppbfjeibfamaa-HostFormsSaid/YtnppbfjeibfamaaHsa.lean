/- Layer 22: what a host asks: the program's methods. -/
import Derived.Test.YtnppbfjeibfamaaHsd
import Derived.Test.YtnppbfjeibfamaaSup
namespace Go.Proofs.Ytnppbfjeibfamaa.Ho
open Go.RowKit Go.Proofs.Ytnppbfjeibfamaa.Kt Go.Proofs.Ytnppbfjeibfamaa.Lw Go.Proofs.Ytnppbfjeibfamaa.St Go.Proofs.Ytnppbfjeibfamaa.Nm Go.Proofs.Ytnppbfjeibfamaa.Su
set_option linter.unusedVariables false
set_option linter.unusedSimpArgs false
abbrev setV (c v l : Int) (d : ByteArray) : Value := .tuple #[.agg #[.int .i64 c, .int .i64 v, .int .i64 l], .string d]
theorem ask_c (c l : Int) (w : World) : Calls Try.prog 60 #[.int .i64 c, .int .i64 l] w fun e w' => e = .returned (setV c 0 l ⟨#[]⟩) ∧ Below w.heap.size w w' := by
  go_enter Try.func60, Try.ntmps60
  go_wp2
  exact bodyPost_ret (v := setV c 0 l ⟨#[]⟩) (by simp [results, Try.results60, go_sem]) rfl ⟨rfl, (by repeat (with_reducible first | exact Below.refl _ _ | assumption | (refine bl_set ?_ (by omega)) | apply bl_alloc | apply bl_drewN | apply bl_drew | (refine bl_step ?_ (by assumption)) | fail))⟩
set_option maxHeartbeats 1600000 in
theorem status_c (ph : Int) (im : ByteArray) (bl : Int) (ag : Bool) (tr : Int) (rd : ByteArray) (rp : Int) (w : World) : Calls Try.prog 45 #[hostV ph im bl ag tr rd rp] w fun e w' => e = .returned (setV 3 0 6 ⟨#[]⟩) ∧ Below w.heap.size w w' := by
  have HB := Below.refl w.heap.size w
  have K1 := fun cs0 cs => Blk.new1 w (.cells cs0 77) cs 59
  go_enter Try.func45, Try.ntmps45
  go_wp2_with (first | (go_at_call 60; refine (ask_c _ _ _).mono ?_; rintro e w' ⟨rfl, hb⟩; have HB := bl_step (by repeat (with_reducible first | exact HB | apply bl_alloc | apply bl_drew | apply bl_drewN | fail)) hb; have K1 := Blk.below (by repeat (with_reducible first | exact K1 | exact K1 _ | exact K1 _ _ | apply Blk.alloc | apply Blk.drew | apply Blk.drewN | fail)) hb; obtain ⟨_, _, _, _, _, _, _⟩ := Blk.all3 K1) | fail)
  exact bodyPost_ret (v := setV 3 0 6 ⟨#[]⟩) (by simp [results, Try.results45, go_sem, *]) rfl ⟨rfl, (by repeat (with_reducible first | exact Below.refl _ _ | assumption | (refine bl_set ?_ (by omega)) | apply bl_alloc | apply bl_drewN | apply bl_drew | (refine bl_step ?_ (by assumption)) | fail))⟩
set_option maxHeartbeats 1600000 in
theorem end_c (ph : Int) (im : ByteArray) (bl : Int) (ag : Bool) (tr : Int) (rd : ByteArray) (rp : Int) (w : World) : Calls Try.prog 46 #[hostV ph im bl ag tr rd rp] w fun e w' => e = .returned (setV 1 bl 0 ⟨#[]⟩) ∧ Below w.heap.size w w' := by
  have HB := Below.refl w.heap.size w
  have K1 := fun cs0 cs => Blk.new1 w (.cells cs0 77) cs 59
  go_enter Try.func46, Try.ntmps46
  go_wp2_with (first | fail)
  exact bodyPost_ret (v := setV 1 bl 0 ⟨#[]⟩) (by simp [results, Try.results46, go_sem, *]) rfl ⟨rfl, (by repeat (with_reducible first | exact Below.refl _ _ | assumption | (refine bl_set ?_ (by omega)) | apply bl_alloc | apply bl_drewN | apply bl_drew | (refine bl_step ?_ (by assumption)) | fail))⟩
set_option maxHeartbeats 1600000 in
theorem read_c (ph : Int) (im : ByteArray) (bl : Int) (ag : Bool) (tr : Int) (rd : ByteArray) (rp : Int) (w : World) : Calls Try.prog 47 #[hostV ph im bl ag tr rd rp] w fun e w' => e = .returned (setV 2 bl 32 ⟨#[]⟩) ∧ Below w.heap.size w w' := by
  have HB := Below.refl w.heap.size w
  have K1 := fun cs0 cs => Blk.new1 w (.cells cs0 77) cs 59
  go_enter Try.func47, Try.ntmps47
  go_wp2_with (first | fail)
  exact bodyPost_ret (v := setV 2 bl 32 ⟨#[]⟩) (by simp [results, Try.results47, go_sem, *]) rfl ⟨rfl, (by repeat (with_reducible first | exact Below.refl _ _ | assumption | (refine bl_set ?_ (by omega)) | apply bl_alloc | apply bl_drewN | apply bl_drew | (refine bl_step ?_ (by assumption)) | fail))⟩
set_option maxHeartbeats 1600000 in
theorem clear1_c (ph : Int) (im : ByteArray) (bl : Int) (ag : Bool) (tr : Int) (rd : ByteArray) (rp : Int) (w : World) (hg : ag = false) : Calls Try.prog 43 #[hostV ph im bl ag tr rd rp] w fun e w' => e = .returned (setV 3 0 6 ⟨#[]⟩) ∧ Below w.heap.size w w' := by
  have HB := Below.refl w.heap.size w
  have K1 := fun cs0 cs => Blk.new1 w (.cells cs0 77) cs 59
  subst hg
  go_enter Try.func43, Try.ntmps43
  go_wp2_with (first | (go_at_call 45; refine (status_c _ _ _ _ _ _ _ _).mono ?_; rintro e w' ⟨rfl, hb⟩; have HB := bl_step (by repeat (with_reducible first | exact HB | apply bl_alloc | apply bl_drew | apply bl_drewN | fail)) hb; have K1 := Blk.below (by repeat (with_reducible first | exact K1 | exact K1 _ | exact K1 _ _ | apply Blk.alloc | apply Blk.drew | apply Blk.drewN | fail)) hb; obtain ⟨_, _, _, _, _, _, _⟩ := Blk.all3 K1) | fail)
  exact bodyPost_ret (v := setV 3 0 6 ⟨#[]⟩) (by simp [results, Try.results43, go_sem, *]) rfl ⟨rfl, (by repeat (with_reducible first | exact Below.refl _ _ | assumption | (refine bl_set ?_ (by omega)) | apply bl_alloc | apply bl_drewN | apply bl_drew | (refine bl_step ?_ (by assumption)) | fail))⟩
set_option maxHeartbeats 1600000 in
theorem clear2_c (ph : Int) (im : ByteArray) (bl : Int) (ag : Bool) (tr : Int) (rd : ByteArray) (rp : Int) (w : World) (hg : ag = true) (hb0 : bl = 0) : Calls Try.prog 43 #[hostV ph im bl ag tr rd rp] w fun e w' => e = .returned (setV 4 0 0 ⟨#[]⟩) ∧ Below w.heap.size w w' := by
  have HB := Below.refl w.heap.size w
  have K1 := fun cs0 cs => Blk.new1 w (.cells cs0 77) cs 59
  subst hg
  subst hb0
  go_enter Try.func43, Try.ntmps43
  go_wp2_with (first | (go_at_call 60; refine (ask_c _ _ _).mono ?_; rintro e w' ⟨rfl, hb⟩; have HB := bl_step (by repeat (with_reducible first | exact HB | apply bl_alloc | apply bl_drew | apply bl_drewN | fail)) hb; have K1 := Blk.below (by repeat (with_reducible first | exact K1 | exact K1 _ | exact K1 _ _ | apply Blk.alloc | apply Blk.drew | apply Blk.drewN | fail)) hb; obtain ⟨_, _, _, _, _, _, _⟩ := Blk.all3 K1) | fail)
  exact bodyPost_ret (v := setV 4 0 0 ⟨#[]⟩) (by simp [results, Try.results43, go_sem, *]) rfl ⟨rfl, (by repeat (with_reducible first | exact Below.refl _ _ | assumption | (refine bl_set ?_ (by omega)) | apply bl_alloc | apply bl_drewN | apply bl_drew | (refine bl_step ?_ (by assumption)) | fail))⟩
set_option maxHeartbeats 1600000 in
theorem clear3_c (ph : Int) (im : ByteArray) (bl : Int) (ag : Bool) (tr : Int) (rd : ByteArray) (rp : Int) (w : World) (hg : ag = true) (hb0 : ¬ bl = 0) : Calls Try.prog 43 #[hostV ph im bl ag tr rd rp] w fun e w' => e = .returned (setV 6 0 0 ⟨#[]⟩) ∧ Below w.heap.size w w' := by
  have HB := Below.refl w.heap.size w
  have K1 := fun cs0 cs => Blk.new1 w (.cells cs0 77) cs 59
  subst hg
  have hb1 : (bl == 0) = false := by simpa using hb0
  go_enter Try.func43, Try.ntmps43
  go_wp2_with (first | (go_at_call 60; refine (ask_c _ _ _).mono ?_; rintro e w' ⟨rfl, hb⟩; have HB := bl_step (by repeat (with_reducible first | exact HB | apply bl_alloc | apply bl_drew | apply bl_drewN | fail)) hb; have K1 := Blk.below (by repeat (with_reducible first | exact K1 | exact K1 _ | exact K1 _ _ | apply Blk.alloc | apply Blk.drew | apply Blk.drewN | fail)) hb; obtain ⟨_, _, _, _, _, _, _⟩ := Blk.all3 K1) | fail)
  exact bodyPost_ret (v := setV 6 0 0 ⟨#[]⟩) (by simp [results, Try.results43, go_sem, *]) rfl ⟨rfl, (by repeat (with_reducible first | exact Below.refl _ _ | assumption | (refine bl_set ?_ (by omega)) | apply bl_alloc | apply bl_drewN | apply bl_drew | (refine bl_step ?_ (by assumption)) | fail))⟩
/-- the piece that a host sends. -/
def dataB (im : ByteArray) (bl : Int) : ByteArray := im.extract (32 * bl).toNat (32 * bl + 32).toNat
theorem data_none {im : ByteArray} {bl : Int} (h : (im.size : Int) < 32 * bl) : dataB im bl = ByteArray.empty := by
  apply ext_data
  have : (dataB im bl).data.toList.length = 0 := by
    have h2 : (dataB im bl).data.toList.length = (dataB im bl).size := by simp
    rw [h2, dataB, ByteArray.size_extract]
    omega
  rw [List.eq_nil_of_length_eq_zero this]
  rfl
theorem data_last {im : ByteArray} {bl : Int} (h : (im.size : Int) < 32 * bl + 32) : dataB im bl = im.extract (32 * bl).toNat im.size := by
  have h2 : im.size ≤ (32 * bl + 32).toNat := by omega
  apply ext_data
  simp only [dataB, ByteArray.data_extract, Array.toList_extract, List.extract]
  have hl : im.data.toList.length = im.size := by simp
  rw [List.take_of_length_le (by rw [List.length_drop]; omega), List.take_of_length_le (by rw [List.length_drop]; omega)]
abbrev sendV (im : ByteArray) (bl : Int) : Value := setV 1 bl ((dataB im bl).size : Int) (dataB im bl)
set_option maxHeartbeats 1600000 in
theorem send_c (ph : Int) (im : ByteArray) (bl : Int) (ag : Bool) (tr : Int) (rd : ByteArray) (rp : Int) (w : World) (h0 : 0 ≤ bl) (h1 : bl ≤ 1000) (h2 : im.size ≤ 288) : Calls Try.prog 44 #[hostV ph im bl ag tr rd rp] w fun e w' => e = .returned (sendV im bl) ∧ Below w.heap.size w w' := by
  have HB := Below.refl w.heap.size w
  rcases (by omega : (im.size : Int) < 32 * bl ∨ (32 * bl ≤ (im.size : Int) ∧ (im.size : Int) < 32 * bl + 32) ∨ (32 * bl ≤ (im.size : Int) ∧ 32 * bl + 32 ≤ (im.size : Int))) with a | ⟨a, b⟩ | ⟨a, b⟩
  · have e : sendV im bl = setV 1 bl 0 ByteArray.empty := by simp [data_none a]
    go_enter Try.func44, Try.ntmps44
    go_wp2
    exact bodyPost_ret (v := sendV im bl) (by rw [e]; simp [results, Try.results44, go_sem]) rfl ⟨rfl, (by repeat (with_reducible first | exact Below.refl _ _ | assumption | (refine bl_set ?_ (by omega)) | apply bl_alloc | apply bl_drewN | apply bl_drew | (refine bl_step ?_ (by assumption)) | fail))⟩
  · have e : sendV im bl = setV 1 bl ((im.size - (32 * bl).toNat : Nat) : Int) (im.extract (32 * bl).toNat im.size) := by
      show setV 1 bl ((dataB im bl).size : Int) (dataB im bl) = _
      rw [data_last b, ByteArray.size_extract, Nat.min_self]
    go_enter Try.func44, Try.ntmps44
    go_wp2
    exact bodyPost_ret (v := sendV im bl) (by rw [e]; simp [results, Try.results44, go_sem]) rfl ⟨rfl, (by repeat (with_reducible first | exact Below.refl _ _ | assumption | (refine bl_set ?_ (by omega)) | apply bl_alloc | apply bl_drewN | apply bl_drew | (refine bl_step ?_ (by assumption)) | fail))⟩
  · have e : sendV im bl = setV 1 bl (((32 * bl + 32).toNat - (32 * bl).toNat : Nat) : Int) (im.extract (32 * bl).toNat (32 * bl + 32).toNat) := by
      show setV 1 bl ((dataB im bl).size : Int) (dataB im bl) = _
      unfold dataB
      rw [ByteArray.size_extract, show min (32 * bl + 32).toNat im.size = (32 * bl + 32).toNat by omega]
    go_enter Try.func44, Try.ntmps44
    go_wp2
    exact bodyPost_ret (v := sendV im bl) (by rw [e]; simp [results, Try.results44, go_sem]) rfl ⟨rfl, (by repeat (with_reducible first | exact Below.refl _ _ | assumption | (refine bl_set ?_ (by omega)) | apply bl_alloc | apply bl_drewN | apply bl_drew | (refine bl_step ?_ (by assumption)) | fail))⟩
end Go.Proofs.Ytnppbfjeibfamaa.Ho
