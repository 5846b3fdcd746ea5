/- The law TableAll's walk. -/
import Derived.Test.YtnbbbpeelplfoaaTab
import Derived.Test.YtnbbbpeelplfoaaBits
namespace Go.Proofs.Ytnbbbpeelplfoaa.Tb
open Go.RowKit Go.Proofs.Ytnbbbpeelplfoaa.Kt Go.Proofs.Ytnbbbpeelplfoaa.Id
set_option linter.unusedVariables false
set_option linter.unusedSimpArgs false

theorem allowed_bad (s c : Int) (w : World) (h : s < 0 ∨ 7 < s ∨ c < 0 ∨ 6 < c) : Calls Try.prog 29 #[.int .i64 s, .int .i64 c] w fun e w' => e = .returned (.tuple #[.bool false, .int .i64 1500]) ∧ Below w.heap.size w w' := by
  have e : (rngB s 0 7 && rngB c 0 6) = false := by
    rw [rngB_eq, rngB_eq, ← Bool.decide_and, decide_eq_false_iff_not]; omega
  have e1 : allowB s c = false := by simp [allowB, e]
  have e2 : allowE s c = 1500 := by simp [allowE, e]
  have := allowed_c s c w
  rwa [e1, e2] at this
/-- one of two numbers. -/
def sel (p : Nat) (a b : Int) : Int := if p = 0 then a else b
theorem sel_cell (p : Nat) (hp : p < 2) (W : World) (a b : Int) (t : TypeId) : (W.alloc (.cells #[.int .i64 a, .int .i64 b] t)).cell? ⟨W.heap.size, p, none⟩ = some (.int .i64 (sel p a b)) := by
  have h := (Blk.new W #[.int .i64 a, .int .i64 b] t).cell p
  rw [h]
  have : p = 0 ∨ p = 1 := by omega
  rcases this with rfl | rfl <;> rfl
theorem sel_bad (p : Nat) (m q : Int) (m0 : 0 ≤ m) (hq : 0 ≤ q) : sel p (-(1 + m)) (q + (1 + m)) < 0 ∨ q < sel p (-(1 + m)) (q + (1 + m)) := by
  unfold sel; split <;> omega
end Go.Proofs.Ytnbbbpeelplfoaa.Tb
