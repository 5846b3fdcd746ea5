/- Ids with a number below 0 or above MaxId may not be, and match nothing: for every two numbers, without conditions. -/
import Derived.Test.YtnbbbpeelplfoaaPIdentFormsx1
import Derived.Test.YtnbbbpeelplfoaaBits
namespace Go.Proofs.Ytnbbbpeelplfoaa.Pure
open Go.RowKit Go.Proofs.Ytnbbbpeelplfoaa.PIdentForms Go.Proofs.YtnbbbpeelplfoaaW.PrintWords Go.Proofs.YtnbbbpeelplfoaaW.PrintLast Go.Proofs.Ytnbbbpeelplfoaa

theorem forms_may (x y z : Int) : ident_May.f x y z = some (decide ((0 ≤ x ∧ x ≤ 65535) ∧ (0 ≤ y ∧ y ≤ 65535) ∧ (0 ≤ z ∧ z ≤ 65535))) := by
  have hid : ∀ x : Int, ident_id.f x = some (decide (0 ≤ x ∧ x ≤ 65535)) := by
    intro x; unfold ident_id.f
    by_cases h : x ≥ 0
    · rw [if_pos h]; simp [h]
    · rw [if_neg h]; simp [h]
  simp only [ident_May.f, hid, Option.bind_some]
  by_cases hx : 0 ≤ x ∧ x ≤ 65535 <;> by_cases hy : 0 ≤ y ∧ y ≤ 65535 <;> simp [hx, hy]

theorem forms_no (k : Nat) (x y z : Int) (h : ¬ ((0 ≤ x ∧ x ≤ 65535) ∧ (0 ≤ y ∧ y ≤ 65535) ∧ (0 ≤ z ∧ z ≤ 65535))) :
    ident_Match.f (k + 1) 1 2 3 x y z = some (false, 1200) ∧ ident_Match.f (k + 1) x y z 1 2 3 = some (false, 1200) := by
  have h1 : ident_May.f 1 2 3 = some true := rfl
  have h2 : ident_May.f x y z = some false := by rw [forms_may, decide_eq_false h]
  constructor <;> simp [ident_Match.f, h1, h2, ident_Match.j0]

theorem forms_row (k : Nat) (x y z : Int) (h : ¬ ((0 ≤ x ∧ x ≤ 65535) ∧ (0 ≤ y ∧ y ≤ 65535) ∧ (0 ≤ z ∧ z ≤ 65535))) :
    ((ident_Match.f (k + 1) 1 2 3 x y z).bind fun bt130 => ((ident_Match.f (k + 1) x y z 1 2 3).bind fun bt132 => ((ident_May.f 1 2 3).bind fun t134 => (if t134 = true then ((ident_May.f x y z).bind fun t135 => (if t135 = true then (some false) else (if bt130.1 = true then (some false) else ((skifflaw0_Num.f bt130.2).bind fun t136 => (if t136 = 1200 then (if bt132.1 = true then (some false) else ((skifflaw0_Num.f bt132.2).bind fun t137 => (some (t137 == 1200)))) else (some false)))))) else (some false))))) = some true := by
  rw [(forms_no k x y z h).1, (forms_no k x y z h).2]
  have h1 : ident_May.f 1 2 3 = some true := rfl
  have h2 : ident_May.f x y z = some false := by rw [forms_may, decide_eq_false h]
  simp [h1, h2, skifflaw0_Num.f]

theorem IdentForms : skifflaw12_IdentForms.Pure := by
  intro a0 a1 _ _
  refine ⟨8, ?_⟩
  have aw : skifflaw12_awake.f 8 = some true := rfl
  unfold skifflaw12_IdentForms.f
  rw [aw]
  simp only [Option.bind_some, if_true, Bt.and1023]
  have hu := Bt.umod a0 6 (by decide) (by decide)
  simp only [IntKind.wrap_i64] at hu
  replace hu : 0 ≤ wrap64 (Int.tmod (IntKind.u64.wrap a0) 6) ∧ wrap64 (Int.tmod (IntKind.u64.wrap a0) 6) < 6 := by unfold wrap64; exact hu
  generalize wrap64 (Int.tmod (IntKind.u64.wrap a0) 6) = i at *
  have hd : wrap64 (1 + a1 % 1024) = 1 + a1 % 1024 := by unfold wrap64; omega
  rw [hd]
  have e1 : wrap64 (-(1 + a1 % 1024)) = -(1 + a1 % 1024) := by unfold wrap64; omega
  have e2 : wrap64 (65535 + (1 + a1 % 1024)) = 65535 + (1 + a1 % 1024) := by unfold wrap64; omega
  rw [e1, e2]
  have b : 0 ≤ a1 % 1024 ∧ a1 % 1024 < 1024 := by omega
  generalize a1 % 1024 = m at *
  rw [if_pos hu.1]
  rw [if_pos (by simpa using hu.2)]
  have : i = 0 ∨ i = 1 ∨ i = 2 ∨ i = 3 ∨ i = 4 ∨ i = 5 := by omega
  rcases this with rfl | rfl | rfl | rfl | rfl | rfl
  all_goals exact forms_row 7 _ _ _ (by simp [rd_T24]; omega)

end Go.Proofs.Ytnbbbpeelplfoaa.Pure
