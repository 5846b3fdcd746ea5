/- Texts laid as one: Kitb Hsd Hsa. -/
import Derived.Test.YtccblleobcidfaaGreatGb
import Derived.Test.YtccblleobcidfaaGreatGs
/- Kept cells, more of them. -/
section
namespace Go.Proofs.YtccblleobcidfaaGreat.Kt
open Go.RowKit
set_option linter.unusedVariables false
end Go.Proofs.YtccblleobcidfaaGreat.Kt
end
/- Layer 22: hosts: small functions. -/
section
namespace Go.Proofs.YtccblleobcidfaaGreat.Ho
open Go.RowKit Go.Proofs.YtccblleobcidfaaGreat.Kt Go.Proofs.YtccblleobcidfaaGreat.Nm
set_option linter.unusedVariables false
set_option linter.unusedSimpArgs false
theorem retB {a b : Bool} (h : a = b) : Ending.returned (.bool a) = Ending.returned (.bool b) := by rw [h]
theorem retI {a b : Int} (h : a = b) : Ending.returned (.int .i64 a) = Ending.returned (.int .i64 b) := by rw [h]
/-- a host's fields. -/
abbrev hostV (ph : Int) (im : ByteArray) (bl : Int) (ag : Bool) (tr : Int) (rd : ByteArray) (rp : Int) : Value := .agg #[.int .i64 ph, .string im, .int .i64 bl, .bool ag, .int .i64 tr, .string rd, .int .i64 rp]
def offB (ph : Int) : Bool := ph == 0 || ph == 7
def manyI (im : ByteArray) : Int := ((im.size : Int) + 31) / 32
theorem off_c (g : Nat) (ph : Int) (w : World) (hc : w.cell? ⟨g, 0, none⟩ = some (.int .i64 ph)) : Calls Tryz.prog 155 #[.pointer (some ⟨g, 0, none⟩)] w fun e w' => e = .returned (.bool (offB ph)) ∧ w = w' := by
  go_enter Tryz.func155, Tryz.ntmps155
  go_wp2
  all_goals (go_ret; exact ⟨by simp_all [offB], rfl⟩)
theorem rests_c (ph : Int) (im : ByteArray) (bl : Int) (ag : Bool) (tr : Int) (rd : ByteArray) (rp : Int) (w : World) : Calls Tryz.prog 96 #[hostV ph im bl ag tr rd rp] w fun e w' => e = .returned (.bool (offB ph)) ∧ Below w.heap.size w w' := by
  go_enter Tryz.func96, Tryz.ntmps96
  go_wp2
  all_goals (go_ret; exact ⟨by simp_all [offB], zq1⟩)
theorem many_c (x : Int) (w : World) (h0 : 0 ≤ x) (h1 : x ≤ 1000000000000000) : Calls Tryz.prog 237 #[.int .i64 x] w fun e w' => e = .returned (.int .i64 ((x + 31) / 32)) ∧ w = w' := by
  go_enter Tryz.func237, Tryz.ntmps237
  go_wp2
  go_ret
  refine ⟨retI ?_, rfl⟩
  omega
theorem hmany_c (g : Nat) (im : ByteArray) (w : World) (hc : w.cell? ⟨g, 1, none⟩ = some (.string im)) (hs : im.size ≤ 1000000000000000) : Calls Tryz.prog 177 #[.pointer (some ⟨g, 0, none⟩)] w fun e w' => e = .returned (.int .i64 (manyI im)) ∧ w = w' := by
  go_enter Tryz.func177, Tryz.ntmps177
  go_wp2_with (first | (go_at_call 237; refine (many_c _ _ (by omega) (by omega)).mono ?_; rintro e w' ⟨rfl, rfl⟩) | fail)
  go_ret
  exact ⟨by simp [manyI], rfl⟩
theorem pieces_c (im : ByteArray) (w : World) (hs : im.size ≤ 1000000000000000) : Calls Tryz.prog 122 #[.string im] w fun e w' => e = .returned (.int .i64 (manyI im)) ∧ w = w' := by
  go_enter Tryz.func122, Tryz.ntmps122
  go_wp2
  go_ret
  refine ⟨retI ?_, rfl⟩
  unfold manyI
  omega
theorem hin_c (x m : Int) (w : World) : Calls Tryz.prog 176 #[.int .i64 x, .int .i64 m] w fun e w' => e = .returned (.bool (rngB x 0 m)) ∧ w = w' := by
  go_enter Tryz.func176, Tryz.ntmps176
  go_wp2
  all_goals (go_ret; refine ⟨retB ?_, rfl⟩; rw [Bool.eq_iff_iff]; simp [rngB] <;> omega)
theorem upTo16_c (x l m : Int) (w : World) : Calls Tryz.prog 121 #[.int .i64 x, .int .i64 l, .int .i64 m] w fun e w' => e = .returned (.bool (rngB x l m)) ∧ w = w' := by
  go_enter Tryz.func121, Tryz.ntmps121
  go_wp2
  all_goals (go_ret; refine ⟨retB ?_, rfl⟩; rw [Bool.eq_iff_iff]; simp [rngB] <;> omega)
def hostMay (ph : Int) (im : ByteArray) (bl : Int) (tr : Int) (rd : ByteArray) (rp : Int) : Bool :=
  rngB ph 0 7 && (rngB rp 0 3 && (decide ((im.size : Int) ≤ 288) && ((!im.toList.isEmpty || offB ph) && (rngB bl 0 (manyI im) && (rngB tr 0 8 && decide ((rd.size : Int) ≤ 320))))))
end Go.Proofs.YtccblleobcidfaaGreat.Ho
end
/- Layer 22: what a host asks: the program's methods. -/
section
namespace Go.Proofs.YtccblleobcidfaaGreat.Ho
open Go.RowKit Go.Proofs.YtccblleobcidfaaGreat.Kt Go.Proofs.YtccblleobcidfaaGreat.Lw Go.Proofs.YtccblleobcidfaaGreat.St Go.Proofs.YtccblleobcidfaaGreat.Nm Go.Proofs.YtccblleobcidfaaGreat.Su
set_option linter.unusedVariables false
set_option linter.unusedSimpArgs false
abbrev setV (c v l : Int) (d : ByteArray) : Value := .tuple #[.agg #[.int .i64 c, .int .i64 v, .int .i64 l], .string d]
theorem ask_c (c l : Int) (w : World) : Calls Tryz.prog 253 #[.int .i64 c, .int .i64 l] w fun e w' => e = .returned (setV c 0 l ⟨#[]⟩) ∧ Below w.heap.size w w' := by
  go_enter Tryz.func253, Tryz.ntmps253
  go_wp2
  exact bodyPost_ret (v := setV c 0 l ⟨#[]⟩) (by simp [results, Tryz.results253, go_sem]) rfl ⟨rfl, zq1⟩
set_option maxHeartbeats 1600000 in
theorem status_c (ph : Int) (im : ByteArray) (bl : Int) (ag : Bool) (tr : Int) (rd : ByteArray) (rp : Int) (w : World) : Calls Tryz.prog 203 #[hostV ph im bl ag tr rd rp] w fun e w' => e = .returned (setV 3 0 6 ⟨#[]⟩) ∧ Below w.heap.size w w' := by
  have HB := Below.refl w.heap.size w
  have K1 := fun cs0 cs => Blk.new1 w (.cells cs0 246) cs 105
  go_enter Tryz.func203, Tryz.ntmps203
  go_wp2_with (first | (go_at_call 253; refine (ask_c _ _ _).mono ?_; rintro e w' ⟨rfl, hb⟩; have HB := bl_step zq4 hb; have K1 := Blk.below zq16 hb; obtain ⟨_, _, _, _, _, _, _⟩ := Blk.all3 K1) | fail)
  exact bodyPost_ret (v := setV 3 0 6 ⟨#[]⟩) (by simp [results, Tryz.results203, go_sem, *]) rfl ⟨rfl, zq1⟩
set_option maxHeartbeats 1600000 in
theorem end_c (ph : Int) (im : ByteArray) (bl : Int) (ag : Bool) (tr : Int) (rd : ByteArray) (rp : Int) (w : World) : Calls Tryz.prog 204 #[hostV ph im bl ag tr rd rp] w fun e w' => e = .returned (setV 1 bl 0 ⟨#[]⟩) ∧ Below w.heap.size w w' := by
  have HB := Below.refl w.heap.size w
  have K1 := fun cs0 cs => Blk.new1 w (.cells cs0 246) cs 105
  go_enter Tryz.func204, Tryz.ntmps204
  go_wp2_with (first | fail)
  exact bodyPost_ret (v := setV 1 bl 0 ⟨#[]⟩) (by simp [results, Tryz.results204, go_sem, *]) rfl ⟨rfl, zq1⟩
set_option maxHeartbeats 1600000 in
theorem read_c (ph : Int) (im : ByteArray) (bl : Int) (ag : Bool) (tr : Int) (rd : ByteArray) (rp : Int) (w : World) : Calls Tryz.prog 205 #[hostV ph im bl ag tr rd rp] w fun e w' => e = .returned (setV 2 bl 32 ⟨#[]⟩) ∧ Below w.heap.size w w' := by
  have HB := Below.refl w.heap.size w
  have K1 := fun cs0 cs => Blk.new1 w (.cells cs0 246) cs 105
  go_enter Tryz.func205, Tryz.ntmps205
  go_wp2_with (first | fail)
  exact bodyPost_ret (v := setV 2 bl 32 ⟨#[]⟩) (by simp [results, Tryz.results205, go_sem, *]) rfl ⟨rfl, zq1⟩
set_option maxHeartbeats 1600000 in
theorem clear1_c (ph : Int) (im : ByteArray) (bl : Int) (ag : Bool) (tr : Int) (rd : ByteArray) (rp : Int) (w : World) (hg : ag = false) : Calls Tryz.prog 201 #[hostV ph im bl ag tr rd rp] w fun e w' => e = .returned (setV 3 0 6 ⟨#[]⟩) ∧ Below w.heap.size w w' := by
  have HB := Below.refl w.heap.size w
  have K1 := fun cs0 cs => Blk.new1 w (.cells cs0 246) cs 105
  subst hg
  go_enter Tryz.func201, Tryz.ntmps201
  go_wp2_with (first | (go_at_call 203; refine (status_c _ _ _ _ _ _ _ _).mono ?_; rintro e w' ⟨rfl, hb⟩; have HB := bl_step zq4 hb; have K1 := Blk.below zq16 hb; obtain ⟨_, _, _, _, _, _, _⟩ := Blk.all3 K1) | fail)
  exact bodyPost_ret (v := setV 3 0 6 ⟨#[]⟩) (by simp [results, Tryz.results201, go_sem, *]) rfl ⟨rfl, zq1⟩
set_option maxHeartbeats 1600000 in
theorem clear2_c (ph : Int) (im : ByteArray) (bl : Int) (ag : Bool) (tr : Int) (rd : ByteArray) (rp : Int) (w : World) (hg : ag = true) (hb0 : bl = 0) : Calls Tryz.prog 201 #[hostV ph im bl ag tr rd rp] w fun e w' => e = .returned (setV 4 0 0 ⟨#[]⟩) ∧ Below w.heap.size w w' := by
  have HB := Below.refl w.heap.size w
  have K1 := fun cs0 cs => Blk.new1 w (.cells cs0 246) cs 105
  subst hg
  subst hb0
  go_enter Tryz.func201, Tryz.ntmps201
  go_wp2_with (first | (go_at_call 253; refine (ask_c _ _ _).mono ?_; rintro e w' ⟨rfl, hb⟩; have HB := bl_step zq4 hb; have K1 := Blk.below zq16 hb; obtain ⟨_, _, _, _, _, _, _⟩ := Blk.all3 K1) | fail)
  exact bodyPost_ret (v := setV 4 0 0 ⟨#[]⟩) (by simp [results, Tryz.results201, go_sem, *]) rfl ⟨rfl, zq1⟩
set_option maxHeartbeats 1600000 in
theorem clear3_c (ph : Int) (im : ByteArray) (bl : Int) (ag : Bool) (tr : Int) (rd : ByteArray) (rp : Int) (w : World) (hg : ag = true) (hb0 : ¬ bl = 0) : Calls Tryz.prog 201 #[hostV ph im bl ag tr rd rp] w fun e w' => e = .returned (setV 6 0 0 ⟨#[]⟩) ∧ Below w.heap.size w w' := by
  have HB := Below.refl w.heap.size w
  have K1 := fun cs0 cs => Blk.new1 w (.cells cs0 246) cs 105
  subst hg
  have hb1 : (bl == 0) = false := by simpa using hb0
  go_enter Tryz.func201, Tryz.ntmps201
  go_wp2_with (first | (go_at_call 253; refine (ask_c _ _ _).mono ?_; rintro e w' ⟨rfl, hb⟩; have HB := bl_step zq4 hb; have K1 := Blk.below zq16 hb; obtain ⟨_, _, _, _, _, _, _⟩ := Blk.all3 K1) | fail)
  exact bodyPost_ret (v := setV 6 0 0 ⟨#[]⟩) (by simp [results, Tryz.results201, go_sem, *]) rfl ⟨rfl, zq1⟩
/-- the piece that a host sends. -/
def dataB (im : ByteArray) (bl : Int) : ByteArray := im.extract (32 * bl).toNat (32 * bl + 32).toNat
theorem data_none {im : ByteArray} {bl : Int} (h : (im.size : Int) < 32 * bl) : dataB im bl = ByteArray.empty := by
  apply ext_data
  have : (dataB im bl).data.toList.length = 0 := by
    have h2 : (dataB im bl).data.toList.length = (dataB im bl).size := by simp
    rw [h2, dataB, ByteArray.size_extract]
    omega
  rw [List.eq_nil_of_length_eq_zero this]
  rfl
theorem data_last {im : ByteArray} {bl : Int} (h : (im.size : Int) < 32 * bl + 32) : dataB im bl = im.extract (32 * bl).toNat im.size := by
  have h2 : im.size ≤ (32 * bl + 32).toNat := by omega
  apply ext_data
  simp only [dataB, ByteArray.data_extract, Array.toList_extract, List.extract]
  have hl : im.data.toList.length = im.size := by simp
  rw [List.take_of_length_le (by rw [List.length_drop]; omega), List.take_of_length_le (by rw [List.length_drop]; omega)]
abbrev sendV (im : ByteArray) (bl : Int) : Value := setV 1 bl ((dataB im bl).size : Int) (dataB im bl)
set_option maxHeartbeats 1600000 in
theorem send_c (ph : Int) (im : ByteArray) (bl : Int) (ag : Bool) (tr : Int) (rd : ByteArray) (rp : Int) (w : World) (h0 : 0 ≤ bl) (h1 : bl ≤ 1000) (h2 : im.size ≤ 288) : Calls Tryz.prog 202 #[hostV ph im bl ag tr rd rp] w fun e w' => e = .returned (sendV im bl) ∧ Below w.heap.size w w' := by
  have HB := Below.refl w.heap.size w
  rcases (by omega : (im.size : Int) < 32 * bl ∨ (32 * bl ≤ (im.size : Int) ∧ (im.size : Int) < 32 * bl + 32) ∨ (32 * bl ≤ (im.size : Int) ∧ 32 * bl + 32 ≤ (im.size : Int))) with a | ⟨a, b⟩ | ⟨a, b⟩
  · have e : sendV im bl = setV 1 bl 0 ByteArray.empty := by simp [data_none a]
    go_enter Tryz.func202, Tryz.ntmps202
    go_wp2
    have m1 : min (32 * bl) (im.size : Int) = (im.size : Int) := by omega
    have m2 : min ((im.size : Int) + 32) (im.size : Int) = (im.size : Int) := by omega
    have m3 : min im.size im.size - im.size = 0 := by omega
    exact bodyPost_ret (v := sendV im bl) (by rw [e]; simp [results, Tryz.results202, go_sem, m1, m2, m3]) rfl ⟨rfl, zq1⟩
  · have e : sendV im bl = setV 1 bl ((im.size - (32 * bl).toNat : Nat) : Int) (im.extract (32 * bl).toNat im.size) := by
      show setV 1 bl ((dataB im bl).size : Int) (dataB im bl) = _
      rw [data_last b, ByteArray.size_extract, Nat.min_self]
    go_enter Tryz.func202, Tryz.ntmps202
    go_wp2
    have m1 : min (32 * bl) (im.size : Int) = 32 * bl := by omega
    have m2 : min (32 * bl + 32) (im.size : Int) = (im.size : Int) := by omega
    have m3 : min im.size im.size - (32 * bl).toNat = im.size - (32 * bl).toNat := by omega
    exact bodyPost_ret (v := sendV im bl) (by rw [e]; simp [results, Tryz.results202, go_sem, m1, m2, m3]) rfl ⟨rfl, zq1⟩
  · have e : sendV im bl = setV 1 bl (((32 * bl + 32).toNat - (32 * bl).toNat : Nat) : Int) (im.extract (32 * bl).toNat (32 * bl + 32).toNat) := by
      show setV 1 bl ((dataB im bl).size : Int) (dataB im bl) = _
      unfold dataB
      rw [ByteArray.size_extract, show min (32 * bl + 32).toNat im.size = (32 * bl + 32).toNat by omega]
    go_enter Tryz.func202, Tryz.ntmps202
    go_wp2
    have m1 : min (32 * bl) (im.size : Int) = 32 * bl := by omega
    have m2 : min (32 * bl + 32) (im.size : Int) = 32 * bl + 32 := by omega
    have m3 : min (32 * bl + 32).toNat im.size = (32 * bl + 32).toNat := by omega
    exact bodyPost_ret (v := sendV im bl) (by rw [e]; simp [results, Tryz.results202, go_sem, m1, m2, m3]) rfl ⟨rfl, zq1⟩
end Go.Proofs.YtccblleobcidfaaGreat.Ho
end
