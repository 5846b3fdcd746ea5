/- A host begins to carry just the image of a file that is whole, and for this device: of any file, any Ids, without conditions. -/
import Derived.Test.YtnppbfjeibfamaaRow
import Derived.Test.YtnppbfjeibfamaaHsm
namespace Go.Proofs.Ytnppbfjeibfamaa.RhostStarts
open Go.ChangeShapes Go.WideShapes Go.ChangeAt Go.RowKit Go.Joins Go.Proofs.Ytnppbfjeibfamaa.Rw Go.Proofs.Ytnppbfjeibfamaa
open Go.ChangeMaps (open_string shut_string)
set_option linter.unusedVariables false
set_option linter.unusedSimpArgs false
theorem cells23 : Try.prog.cellsOf 23 = 3 := by kernel_rfl
set_option maxRecDepth 100000 in
theorem lifted (os : Os) (started : os.Started) (H : Type) (enc : TypeId × Value → H) :
    ReturnsInHanded {} Try.checked os 11 .any (Rows.hostStartsSpec.pre6 enc Try.prog Try.f11 Rows.hostStartsRow.domain false) (Rows.hostStartsSpec.post enc Try.prog Try.f11 false true false false) := by
  refine returnsInHanded_of_change_sized (C := Try.checked) own started (by kernel_rfl) Try.func11
    (ChangeSpec.witness6 (enc := enc) (C := Try.checked) false ⟨#[], #[.string ByteArray.empty, .agg #[.int .i64 0, .int .i64 0, .int .i64 0]], []⟩ 8 (by kernel_rfl) (by kernel_rfl) (by kernel_rfl) (by kernel_rfl)) ?_
  intro W base args ds gs before hval0 hW hcnd hsz0 _
  have hsz : (DataW.weightsEach Try.prog (Try.f11.params.toList ++ Rows.hostStartsSpec.plain.varTypes Try.prog) (ds ++ gs)).all (· ≤ reachBytes) = true := hsz0
  have hval : ∀ (j : Nat) t v, Try.f11.params[j]? = some t → args[j]? = some v → Value.okWide Try.prog W .any base t v := hval0
  have hW' := hW
  obtain ⟨p, q, hA0, hV, rfl, hfz, hnd⟩ := hW
  have hA : DataW.TrodAll enc Try.prog W 0 (fun _ => true) true Try.f11.params.toList args.toList ds p := hA0
  rw [Try.params11] at hA hval hsz
  obtain ⟨v0, vs0, d0, ds0, p0, q0, hargs, rfl, rfl, h0, r0⟩ := trodAll_cons hA
  obtain ⟨v1, vs1, d1, ds1, p1, q1, rfl, rfl, rfl, h1, r1⟩ := trodAll_cons r0
  obtain ⟨rfl, rfl, rfl⟩ := trodAll_nil r1
  obtain rfl : args = #[v0, v1] := by cases args; simp_all
  obtain ⟨rfl, rfl⟩ := trodVars_none hV
  obtain ⟨a0, rfl, rfl, rfl, y0⟩ := open_string Try.underlying9 (hval 0 9 v0 rfl rfl) h0
  have w0 : a0.size ≤ 140737488351232 := by
    have z := sized_string hsz (j := 0) (t := 9) rfl rfl
    rw [Array.length_toList] at z
    exact z
  obtain ⟨c1_0, c1_1, c1_2, y1_0, y1_1, y1_2, m1, rfl, rfl, rfl, hy1_0, hy1_1, hy1_2⟩ := open_agg3 Try.underlying23 (by kernel_rfl) cells23 (hval 1 23 v1 rfl rfl) h1
  obtain ⟨a1_0, ea1_0, rfl, wa1_0⟩ := DataW.trod_int Try.underlying3 hy1_0
  simp at ea1_0; subst ea1_0
  obtain ⟨a1_1, ea1_1, rfl, wa1_1⟩ := DataW.trod_int Try.underlying3 hy1_1
  simp at ea1_1; subst ea1_1
  obtain ⟨a1_2, ea1_2, rfl, wa1_2⟩ := DataW.trod_int Try.underlying3 hy1_2
  simp at ea1_2; subst ea1_2
  clear hA0 hval0 hsz0
  exact (Ho.starts_w a0 a1_0 a1_1 a1_2 W (by omega)).mono fun e W' ⟨he, bel⟩ => row_close laidOut (by kernel_rfl) rfl Try.underlying4 rfl hW' rfl he bel
theorem over : Rows.hostStartsRow.holds Try.pinned (OpenSpec.ofChange Rows.hostStartsSpec) :=
  OpenClaim.holds_of_wide 11 Try.f11 rfl rfl rfl rfl rfl rfl rfl ⟨rfl, rfl, rfl, rfl, rfl⟩ rfl rfl rfl rfl rfl (by kernel_rfl) Try.func11 (by kernel_rfl)
    (of_decide_eq_true (by kernel_rfl)) (by unfold Func.isWrapper; first | (rw [if_pos (by decide +kernel)]; kernel_rfl) | (rw [if_neg (by decide +kernel)]; exact ⟨rfl, rfl⟩))
    (fun os started H enc _ => lifted os started H enc)
end Go.Proofs.Ytnppbfjeibfamaa.RhostStarts
namespace Go.Proofs.Ytnppbfjeibfamaa
/-- The row. -/
theorem HostStarts_holds : Rows.HostStartsSaid := RhostStarts.over
end Go.Proofs.Ytnppbfjeibfamaa
