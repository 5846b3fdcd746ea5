/- Layer 22: hosts: small functions. -/
import Derived.Test.YthoonffbadhplaaNum
namespace Go.Proofs.Ythoonffbadhplaa.Ho
open Go.RowKit Go.Proofs.Ythoonffbadhplaa.Kt Go.Proofs.Ythoonffbadhplaa.Nm
set_option linter.unusedVariables false
set_option linter.unusedSimpArgs false
theorem retB {a b : Bool} (h : a = b) : Ending.returned (.bool a) = Ending.returned (.bool b) := by rw [h]
theorem retI {a b : Int} (h : a = b) : Ending.returned (.int .i64 a) = Ending.returned (.int .i64 b) := by rw [h]
/-- a host's fields. -/
abbrev hostV (ph : Int) (im : ByteArray) (bl : Int) (ag : Bool) (tr : Int) (rd : ByteArray) (rp : Int) : Value := .agg #[.int .i64 ph, .string im, .int .i64 bl, .bool ag, .int .i64 tr, .string rd, .int .i64 rp]
def offB (ph : Int) : Bool := ph == 0 || ph == 7
def manyI (im : ByteArray) : Int := ((im.size : Int) + 31) / 32
theorem off_c (g : Nat) (ph : Int) (w : World) (hc : w.cell? ⟨g, 0, none⟩ = some (.int .i64 ph)) : Calls Try.prog 18 #[.pointer (some ⟨g, 0, none⟩)] w fun e w' => e = .returned (.bool (offB ph)) ∧ w = w' := by
  go_enter Try.func18, Try.ntmps18
  go_wp2
  all_goals (go_ret; exact ⟨by simp_all [offB], rfl⟩)
theorem rests_c (ph : Int) (im : ByteArray) (bl : Int) (ag : Bool) (tr : Int) (rd : ByteArray) (rp : Int) (w : World) : Calls Try.prog 27 #[hostV ph im bl ag tr rd rp] w fun e w' => e = .returned (.bool (offB ph)) ∧ Below w.heap.size w w' := by
  go_enter Try.func27, Try.ntmps27
  go_wp2
  all_goals (go_ret; exact ⟨by simp_all [offB], (by repeat (with_reducible first | exact Below.refl _ _ | assumption | (refine bl_set ?_ (by omega)) | apply bl_alloc | apply bl_drewN | apply bl_drew | (refine bl_step ?_ (by assumption)) | fail))⟩)
theorem many_c (x : Int) (w : World) (h0 : 0 ≤ x) (h1 : x ≤ 1000000000000000) : Calls Try.prog 58 #[.int .i64 x] w fun e w' => e = .returned (.int .i64 ((x + 31) / 32)) ∧ w = w' := by
  go_enter Try.func58, Try.ntmps58
  go_wp2
  go_ret
  refine ⟨retI ?_, rfl⟩
  omega
theorem hmany_c (g : Nat) (im : ByteArray) (w : World) (hc : w.cell? ⟨g, 1, none⟩ = some (.string im)) (hs : im.size ≤ 1000000000000000) : Calls Try.prog 43 #[.pointer (some ⟨g, 0, none⟩)] w fun e w' => e = .returned (.int .i64 (manyI im)) ∧ w = w' := by
  go_enter Try.func43, Try.ntmps43
  go_wp2_with (first | (go_at_call 58; refine (many_c _ _ (by omega) (by omega)).mono ?_; rintro e w' ⟨rfl, rfl⟩) | fail)
  go_ret
  exact ⟨by simp [manyI], rfl⟩
theorem pieces_c (im : ByteArray) (w : World) (hs : im.size ≤ 1000000000000000) : Calls Try.prog 39 #[.string im] w fun e w' => e = .returned (.int .i64 (manyI im)) ∧ w = w' := by
  go_enter Try.func39, Try.ntmps39
  go_wp2
  go_ret
  refine ⟨retI ?_, rfl⟩
  unfold manyI
  omega
theorem hin_c (x m : Int) (w : World) : Calls Try.prog 42 #[.int .i64 x, .int .i64 m] w fun e w' => e = .returned (.bool (rngB x 0 m)) ∧ w = w' := by
  go_enter Try.func42, Try.ntmps42
  go_wp2
  all_goals (go_ret; refine ⟨retB ?_, rfl⟩; rw [Bool.eq_iff_iff]; simp [rngB] <;> omega)
theorem upTo16_c (x l m : Int) (w : World) : Calls Try.prog 38 #[.int .i64 x, .int .i64 l, .int .i64 m] w fun e w' => e = .returned (.bool (rngB x l m)) ∧ w = w' := by
  go_enter Try.func38, Try.ntmps38
  go_wp2
  all_goals (go_ret; refine ⟨retB ?_, rfl⟩; rw [Bool.eq_iff_iff]; simp [rngB] <;> omega)
def hostMay (ph : Int) (im : ByteArray) (bl : Int) (tr : Int) (rd : ByteArray) (rp : Int) : Bool :=
  rngB ph 0 7 && (rngB rp 0 3 && (decide ((im.size : Int) ≤ 288) && ((!im.toList.isEmpty || offB ph) && (rngB bl 0 (manyI im) && (rngB tr 0 8 && decide ((rd.size : Int) ≤ 320))))))
end Go.Proofs.Ythoonffbadhplaa.Ho
