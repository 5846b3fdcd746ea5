/- Who matches, and is matched, is the same, or any: of any two Ids, without conditions. -/
import Derived.Test.YtnbbbpeelplfoaaRow
import Derived.Test.YtnbbbpeelplfoaaIds
namespace Go.Proofs.Ytnbbbpeelplfoaa.RidentSame
open Go.ChangeShapes Go.WideShapes Go.ChangeAt Go.RowKit Go.Joins Go.Proofs.Ytnbbbpeelplfoaa.Rw Go.Proofs.Ytnbbbpeelplfoaa
open Go.ChangeMaps (open_string shut_string)
set_option linter.unusedVariables false
set_option linter.unusedSimpArgs false
theorem cells24 : Try.prog.cellsOf 24 = 3 := by kernel_rfl
set_option maxRecDepth 100000 in
theorem lifted (os : Os) (started : os.Started) (H : Type) (enc : TypeId × Value → H) :
    ReturnsInHanded {} Try.checked os 7 .any (Rows.identSameSpec.pre6 enc Try.prog Try.f7 Rows.identSameRow.domain false) (Rows.identSameSpec.post enc Try.prog Try.f7 false true false false) := by
  refine returnsInHanded_of_change_sized (C := Try.checked) own started (by kernel_rfl) Try.func7
    (ChangeSpec.witness6 (enc := enc) (C := Try.checked) false ⟨#[], #[.agg #[.int .i64 0, .int .i64 0, .int .i64 0], .agg #[.int .i64 0, .int .i64 0, .int .i64 0]], []⟩ 8 (by kernel_rfl) (by kernel_rfl) (by kernel_rfl) (by kernel_rfl)) ?_
  intro W base args ds gs before hval0 hW hcnd hsz0 _
  have hsz : (DataW.weightsEach Try.prog (Try.f7.params.toList ++ Rows.identSameSpec.plain.varTypes Try.prog) (ds ++ gs)).all (· ≤ reachBytes) = true := hsz0
  have hval : ∀ (j : Nat) t v, Try.f7.params[j]? = some t → args[j]? = some v → Value.okWide Try.prog W .any base t v := hval0
  have hW' := hW
  obtain ⟨p, q, hA0, hV, rfl, hfz, hnd⟩ := hW
  have hA : DataW.TrodAll enc Try.prog W 0 (fun _ => true) true Try.f7.params.toList args.toList ds p := hA0
  rw [Try.params7] at hA hval hsz
  obtain ⟨v0, vs0, d0, ds0, p0, q0, hargs, rfl, rfl, h0, r0⟩ := trodAll_cons hA
  obtain ⟨v1, vs1, d1, ds1, p1, q1, rfl, rfl, rfl, h1, r1⟩ := trodAll_cons r0
  obtain ⟨rfl, rfl, rfl⟩ := trodAll_nil r1
  obtain rfl : args = #[v0, v1] := by cases args; simp_all
  obtain ⟨rfl, rfl⟩ := trodVars_none hV
  obtain ⟨c0_0, c0_1, c0_2, y0_0, y0_1, y0_2, m0, rfl, rfl, rfl, hy0_0, hy0_1, hy0_2⟩ := open_agg3 Try.underlying24 (by kernel_rfl) cells24 (hval 0 24 v0 rfl rfl) h0
  obtain ⟨a0_0, ea0_0, rfl, wa0_0⟩ := DataW.trod_int Try.underlying3 hy0_0
  simp at ea0_0; subst ea0_0
  obtain ⟨a0_1, ea0_1, rfl, wa0_1⟩ := DataW.trod_int Try.underlying3 hy0_1
  simp at ea0_1; subst ea0_1
  obtain ⟨a0_2, ea0_2, rfl, wa0_2⟩ := DataW.trod_int Try.underlying3 hy0_2
  simp at ea0_2; subst ea0_2
  obtain ⟨c1_0, c1_1, c1_2, y1_0, y1_1, y1_2, m1, rfl, rfl, rfl, hy1_0, hy1_1, hy1_2⟩ := open_agg3 Try.underlying24 (by kernel_rfl) cells24 (hval 1 24 v1 rfl rfl) h1
  obtain ⟨a1_0, ea1_0, rfl, wa1_0⟩ := DataW.trod_int Try.underlying3 hy1_0
  simp at ea1_0; subst ea1_0
  obtain ⟨a1_1, ea1_1, rfl, wa1_1⟩ := DataW.trod_int Try.underlying3 hy1_1
  simp at ea1_1; subst ea1_1
  obtain ⟨a1_2, ea1_2, rfl, wa1_2⟩ := DataW.trod_int Try.underlying3 hy1_2
  simp at ea1_2; subst ea1_2
  clear hA0 hval0 hsz0
  exact (Id.same_w a0_0 a0_1 a0_2 a1_0 a1_1 a1_2 W).mono fun e W' ⟨he, bel⟩ => row_close laidOut (by kernel_rfl) rfl Try.underlying4 rfl hW' rfl he bel
theorem over : Rows.identSameRow.holds Try.pinned (OpenSpec.ofChange Rows.identSameSpec) :=
  OpenClaim.holds_of_wide 7 Try.f7 rfl rfl rfl rfl rfl rfl rfl ⟨rfl, rfl, rfl, rfl, rfl⟩ rfl rfl rfl rfl rfl (by kernel_rfl) Try.func7 (by kernel_rfl)
    (of_decide_eq_true (by kernel_rfl)) (by unfold Func.isWrapper; first | (rw [if_pos (by decide +kernel)]; kernel_rfl) | (rw [if_neg (by decide +kernel)]; exact ⟨rfl, rfl⟩))
    (fun os started H enc _ => lifted os started H enc)
end Go.Proofs.Ytnbbbpeelplfoaa.RidentSame
namespace Go.Proofs.Ytnbbbpeelplfoaa
/-- The row. -/
theorem IdentSame_holds : Rows.IdentSameSaid := RidentSame.over
end Go.Proofs.Ytnbbbpeelplfoaa
