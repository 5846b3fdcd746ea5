/- A new record's steps never turn the active record, its image or a slot, and write the record: of any flash, any record, without conditions. -/
import Derived.Test.YtimnhdmpfndeaaaRow
import Derived.Test.YtimnhdmpfndeaaaPlu
namespace Go.Proofs.Ytimnhdmpfndeaaa.RplaceHome
open Go.ChangeShapes Go.WideShapes Go.ChangeAt Go.RowKit Go.Joins Go.Proofs.Ytimnhdmpfndeaaa.Rw Go.Proofs.Ytimnhdmpfndeaaa
open Go.ChangeMaps (open_string shut_string)
set_option linter.unusedVariables false
set_option linter.unusedSimpArgs false
theorem cells23 : Try.prog.cellsOf 23 = 4 := by kernel_rfl
set_option maxRecDepth 100000 in
theorem lifted (os : Os) (started : os.Started) (H : Type) (enc : TypeId × Value → H) :
    ReturnsInHanded {} Try.checked os 6 .any (Rows.placeHomeSpec.pre6 enc Try.prog Try.f6 Rows.placeHomeRow.domain false) (Rows.placeHomeSpec.post enc Try.prog Try.f6 false true false false) := by
  refine returnsInHanded_of_change_sized (C := Try.checked) own started (by kernel_rfl) Try.func6
    (ChangeSpec.witness6 (enc := enc) (C := Try.checked) false ⟨#[], #[.string ByteArray.empty, .agg #[.int .i64 0, .int .i64 0, .int .i64 0, .int .i64 0]], []⟩ 8 (by kernel_rfl) (by kernel_rfl) (by kernel_rfl) (by kernel_rfl)) ?_
  intro W base args ds gs before hval0 hW hcnd hsz0 _
  have hsz : (DataW.weightsEach Try.prog (Try.f6.params.toList ++ Rows.placeHomeSpec.plain.varTypes Try.prog) (ds ++ gs)).all (· ≤ reachBytes) = true := hsz0
  have hval : ∀ (j : Nat) t v, Try.f6.params[j]? = some t → args[j]? = some v → Value.okWide Try.prog W .any base t v := hval0
  have hW' := hW
  obtain ⟨p, q, hA0, hV, rfl, hfz, hnd⟩ := hW
  have hA : DataW.TrodAll enc Try.prog W 0 (fun _ => true) true Try.f6.params.toList args.toList ds p := hA0
  rw [Try.params6] at hA hval hsz
  obtain ⟨v0, vs0, d0, ds0, p0, q0, hargs, rfl, rfl, h0, r0⟩ := trodAll_cons hA
  obtain ⟨v1, vs1, d1, ds1, p1, q1, rfl, rfl, rfl, h1, r1⟩ := trodAll_cons r0
  obtain ⟨rfl, rfl, rfl⟩ := trodAll_nil r1
  obtain rfl : args = #[v0, v1] := by cases args; simp_all
  obtain ⟨rfl, rfl⟩ := trodVars_none hV
  obtain ⟨a0, rfl, rfl, rfl, y0⟩ := open_string Try.underlying9 (hval 0 9 v0 rfl rfl) h0
  have w0 : a0.size ≤ 140737488351232 := by
    have z := sized_string hsz (j := 0) (t := 9) rfl rfl
    rw [Array.length_toList] at z
    exact z
  obtain ⟨c1_0, c1_1, c1_2, c1_3, y1_0, y1_1, y1_2, y1_3, m1, rfl, rfl, rfl, hy1_0, hy1_1, hy1_2, hy1_3⟩ := open_agg4 Try.underlying23 (by kernel_rfl) cells23 (hval 1 23 v1 rfl rfl) h1
  obtain ⟨a1_0, ea1_0, rfl, wa1_0⟩ := DataW.trod_int Try.underlying3 hy1_0
  simp at ea1_0; subst ea1_0
  obtain ⟨a1_1, ea1_1, rfl, wa1_1⟩ := DataW.trod_int Try.underlying3 hy1_1
  simp at ea1_1; subst ea1_1
  obtain ⟨a1_2, ea1_2, rfl, wa1_2⟩ := DataW.trod_int Try.underlying3 hy1_2
  simp at ea1_2; subst ea1_2
  obtain ⟨a1_3, ea1_3, rfl, wa1_3⟩ := DataW.trod_int Try.underlying3 hy1_3
  simp at ea1_3; subst ea1_3
  clear hA0 hval0 hsz0
  exact (Pl.phome_w a0 a1_0 a1_1 a1_2 a1_3 W (by omega)).mono fun e W' ⟨he, bel⟩ => row_close laidOut (by kernel_rfl) rfl Try.underlying4 rfl hW' rfl he bel
theorem over : Rows.placeHomeRow.holds Try.pinned (OpenSpec.ofChange Rows.placeHomeSpec) :=
  OpenClaim.holds_of_wide 6 Try.f6 rfl rfl rfl rfl rfl rfl rfl ⟨rfl, rfl, rfl, rfl, rfl⟩ rfl rfl rfl rfl rfl (by kernel_rfl) Try.func6 (by kernel_rfl)
    (of_decide_eq_true (by kernel_rfl)) (by unfold Func.isWrapper; first | (rw [if_pos (by decide +kernel)]; kernel_rfl) | (rw [if_neg (by decide +kernel)]; exact ⟨rfl, rfl⟩))
    (fun os started H enc _ => lifted os started H enc)
end Go.Proofs.Ytimnhdmpfndeaaa.RplaceHome
namespace Go.Proofs.Ytimnhdmpfndeaaa
/-- The row. -/
theorem PlaceHome_holds : Rows.PlaceHomeSaid := RplaceHome.over
end Go.Proofs.Ytimnhdmpfndeaaa
