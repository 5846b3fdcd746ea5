/- Put, Get, May of layer 13 answer as the document does; unlike setups have unlike bytes: of any two setups, any text, without conditions. -/
import Derived.Test.YtfnfnldndmkeeaaRow
import Derived.Test.YtfnfnldndmkeeaaSul
namespace Go.Proofs.Ytfnfnldndmkeeaa.Rsetups
open Go.ChangeShapes Go.WideShapes Go.ChangeAt Go.RowKit Go.Joins Go.Proofs.Ytfnfnldndmkeeaa.Rw Go.Proofs.Ytfnfnldndmkeeaa
open Go.ChangeMaps (open_string shut_string)
set_option linter.unusedVariables false
set_option linter.unusedSimpArgs false
theorem cells45 : Try.prog.cellsOf 45 = 3 := by kernel_rfl
set_option maxRecDepth 100000 in
theorem lifted (os : Os) (started : os.Started) (H : Type) (enc : TypeId × Value → H) :
    ReturnsInHanded {} Try.checked os 7 .any (Rows.setupsSpec.pre6 enc Try.prog Try.f7 Rows.setupsRow.domain false) (Rows.setupsSpec.post enc Try.prog Try.f7 false true false false) := by
  refine returnsInHanded_of_change_sized (C := Try.checked) own started (by kernel_rfl) Try.func7
    (ChangeSpec.witness6 (enc := enc) (C := Try.checked) false ⟨#[], #[.agg #[.int .i64 0, .int .i64 0, .int .i64 0], .agg #[.int .i64 0, .int .i64 0, .int .i64 0], .string ByteArray.empty], []⟩ 8 (by kernel_rfl) (by kernel_rfl) (by kernel_rfl) (by kernel_rfl)) ?_
  intro W base args ds gs before hval0 hW hcnd hsz0 _
  have hsz : (DataW.weightsEach Try.prog (Try.f7.params.toList ++ Rows.setupsSpec.plain.varTypes Try.prog) (ds ++ gs)).all (· ≤ reachBytes) = true := hsz0
  have hval : ∀ (j : Nat) t v, Try.f7.params[j]? = some t → args[j]? = some v → Value.okWide Try.prog W .any base t v := hval0
  have hW' := hW
  obtain ⟨p, q, hA0, hV, rfl, hfz, hnd⟩ := hW
  have hA : DataW.TrodAll enc Try.prog W 0 (fun _ => true) true Try.f7.params.toList args.toList ds p := hA0
  rw [Try.params7] at hA hval hsz
  obtain ⟨v0, vs0, d0, ds0, p0, q0, hargs, rfl, rfl, h0, r0⟩ := trodAll_cons hA
  obtain ⟨v1, vs1, d1, ds1, p1, q1, rfl, rfl, rfl, h1, r1⟩ := trodAll_cons r0
  obtain ⟨v2, vs2, d2, ds2, p2, q2, rfl, rfl, rfl, h2, r2⟩ := trodAll_cons r1
  obtain ⟨rfl, rfl, rfl⟩ := trodAll_nil r2
  obtain rfl : args = #[v0, v1, v2] := by cases args; simp_all
  obtain ⟨rfl, rfl⟩ := trodVars_none hV
  obtain ⟨c0_0, c0_1, c0_2, y0_0, y0_1, y0_2, m0, rfl, rfl, rfl, hy0_0, hy0_1, hy0_2⟩ := open_agg3 Try.underlying45 (by kernel_rfl) cells45 (hval 0 45 v0 rfl rfl) h0
  obtain ⟨a0_0, ea0_0, rfl, wa0_0⟩ := DataW.trod_int Try.underlying3 hy0_0
  simp at ea0_0; subst ea0_0
  obtain ⟨a0_1, ea0_1, rfl, wa0_1⟩ := DataW.trod_int Try.underlying3 hy0_1
  simp at ea0_1; subst ea0_1
  obtain ⟨a0_2, ea0_2, rfl, wa0_2⟩ := DataW.trod_int Try.underlying3 hy0_2
  simp at ea0_2; subst ea0_2
  obtain ⟨c1_0, c1_1, c1_2, y1_0, y1_1, y1_2, m1, rfl, rfl, rfl, hy1_0, hy1_1, hy1_2⟩ := open_agg3 Try.underlying45 (by kernel_rfl) cells45 (hval 1 45 v1 rfl rfl) h1
  obtain ⟨a1_0, ea1_0, rfl, wa1_0⟩ := DataW.trod_int Try.underlying3 hy1_0
  simp at ea1_0; subst ea1_0
  obtain ⟨a1_1, ea1_1, rfl, wa1_1⟩ := DataW.trod_int Try.underlying3 hy1_1
  simp at ea1_1; subst ea1_1
  obtain ⟨a1_2, ea1_2, rfl, wa1_2⟩ := DataW.trod_int Try.underlying3 hy1_2
  simp at ea1_2; subst ea1_2
  obtain ⟨a2, rfl, rfl, rfl, y2⟩ := open_string Try.underlying9 (hval 2 9 v2 rfl rfl) h2
  have w2 : a2.size ≤ 140737488351232 := by
    have z := sized_string hsz (j := 2) (t := 9) rfl rfl
    rw [Array.length_toList] at z
    exact z
  clear hA0 hval0 hsz0
  exact (Su.setups_w a0_0 a0_1 a0_2 a1_0 a1_1 a1_2 a2 W).mono fun e W' ⟨he, bel⟩ => row_close laidOut (by kernel_rfl) rfl Try.underlying4 rfl hW' rfl he bel
theorem over : Rows.setupsRow.holds Try.pinned (OpenSpec.ofChange Rows.setupsSpec) :=
  OpenClaim.holds_of_wide 7 Try.f7 rfl rfl rfl rfl rfl rfl rfl ⟨rfl, rfl, rfl, rfl, rfl⟩ rfl rfl rfl rfl rfl (by kernel_rfl) Try.func7 (by kernel_rfl)
    (of_decide_eq_true (by kernel_rfl)) (by unfold Func.isWrapper; first | (rw [if_pos (by decide +kernel)]; kernel_rfl) | (rw [if_neg (by decide +kernel)]; exact ⟨rfl, rfl⟩))
    (fun os started H enc _ => lifted os started H enc)
end Go.Proofs.Ytfnfnldndmkeeaa.Rsetups
namespace Go.Proofs.Ytfnfnldndmkeeaa
/-- The row. -/
theorem Setups_holds : Rows.SetupsSaid := Rsetups.over
end Go.Proofs.Ytfnfnldndmkeeaa
