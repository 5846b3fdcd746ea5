/- Unlike images, or Ids, have unlike files: of any two images, any Ids, without conditions. -/
import Derived.Test.YtnppbfjeibfamaaRow
import Derived.Test.YtnppbfjeibfamaaSfn
namespace Go.Proofs.Ytnppbfjeibfamaa.RsuffixUnlike
open Go.ChangeShapes Go.WideShapes Go.ChangeAt Go.RowKit Go.Joins Go.Proofs.Ytnppbfjeibfamaa.Rw Go.Proofs.Ytnppbfjeibfamaa
open Go.ChangeMaps (open_string shut_string)
set_option linter.unusedVariables false
set_option linter.unusedSimpArgs false
theorem cells23 : Try.prog.cellsOf 23 = 3 := by kernel_rfl
set_option maxRecDepth 100000 in
theorem lifted (os : Os) (started : os.Started) (H : Type) (enc : TypeId × Value → H) :
    ReturnsInHanded {} Try.checked os 7 .any (Rows.suffixUnlikeSpec.pre6 enc Try.prog Try.f7 Rows.suffixUnlikeRow.domain false) (Rows.suffixUnlikeSpec.post enc Try.prog Try.f7 false true false false) := by
  refine returnsInHanded_of_change_sized (C := Try.checked) own started (by kernel_rfl) Try.func7
    (ChangeSpec.witness6 (enc := enc) (C := Try.checked) false ⟨#[], #[.string ByteArray.empty, .string ByteArray.empty, .agg #[.int .i64 0, .int .i64 0, .int .i64 0], .agg #[.int .i64 0, .int .i64 0, .int .i64 0]], []⟩ 8 (by kernel_rfl) (by kernel_rfl) (by kernel_rfl) (by kernel_rfl)) ?_
  intro W base args ds gs before hval0 hW hcnd hsz0 _
  have hsz : (DataW.weightsEach Try.prog (Try.f7.params.toList ++ Rows.suffixUnlikeSpec.plain.varTypes Try.prog) (ds ++ gs)).all (· ≤ reachBytes) = true := hsz0
  have hval : ∀ (j : Nat) t v, Try.f7.params[j]? = some t → args[j]? = some v → Value.okWide Try.prog W .any base t v := hval0
  have hW' := hW
  obtain ⟨p, q, hA0, hV, rfl, hfz, hnd⟩ := hW
  have hA : DataW.TrodAll enc Try.prog W 0 (fun _ => true) true Try.f7.params.toList args.toList ds p := hA0
  rw [Try.params7] at hA hval hsz
  obtain ⟨v0, vs0, d0, ds0, p0, q0, hargs, rfl, rfl, h0, r0⟩ := trodAll_cons hA
  obtain ⟨v1, vs1, d1, ds1, p1, q1, rfl, rfl, rfl, h1, r1⟩ := trodAll_cons r0
  obtain ⟨v2, vs2, d2, ds2, p2, q2, rfl, rfl, rfl, h2, r2⟩ := trodAll_cons r1
  obtain ⟨v3, vs3, d3, ds3, p3, q3, rfl, rfl, rfl, h3, r3⟩ := trodAll_cons r2
  obtain ⟨rfl, rfl, rfl⟩ := trodAll_nil r3
  obtain rfl : args = #[v0, v1, v2, v3] := by cases args; simp_all
  obtain ⟨rfl, rfl⟩ := trodVars_none hV
  obtain ⟨a0, rfl, rfl, rfl, y0⟩ := open_string Try.underlying9 (hval 0 9 v0 rfl rfl) h0
  have w0 : a0.size ≤ 140737488351232 := by
    have z := sized_string hsz (j := 0) (t := 9) rfl rfl
    rw [Array.length_toList] at z
    exact z
  obtain ⟨a1, rfl, rfl, rfl, y1⟩ := open_string Try.underlying9 (hval 1 9 v1 rfl rfl) h1
  have w1 : a1.size ≤ 140737488351232 := by
    have z := sized_string hsz (j := 1) (t := 9) rfl rfl
    rw [Array.length_toList] at z
    exact z
  obtain ⟨c2_0, c2_1, c2_2, y2_0, y2_1, y2_2, m2, rfl, rfl, rfl, hy2_0, hy2_1, hy2_2⟩ := open_agg3 Try.underlying23 (by kernel_rfl) cells23 (hval 2 23 v2 rfl rfl) h2
  obtain ⟨a2_0, ea2_0, rfl, wa2_0⟩ := DataW.trod_int Try.underlying3 hy2_0
  simp at ea2_0; subst ea2_0
  obtain ⟨a2_1, ea2_1, rfl, wa2_1⟩ := DataW.trod_int Try.underlying3 hy2_1
  simp at ea2_1; subst ea2_1
  obtain ⟨a2_2, ea2_2, rfl, wa2_2⟩ := DataW.trod_int Try.underlying3 hy2_2
  simp at ea2_2; subst ea2_2
  obtain ⟨c3_0, c3_1, c3_2, y3_0, y3_1, y3_2, m3, rfl, rfl, rfl, hy3_0, hy3_1, hy3_2⟩ := open_agg3 Try.underlying23 (by kernel_rfl) cells23 (hval 3 23 v3 rfl rfl) h3
  obtain ⟨a3_0, ea3_0, rfl, wa3_0⟩ := DataW.trod_int Try.underlying3 hy3_0
  simp at ea3_0; subst ea3_0
  obtain ⟨a3_1, ea3_1, rfl, wa3_1⟩ := DataW.trod_int Try.underlying3 hy3_1
  simp at ea3_1; subst ea3_1
  obtain ⟨a3_2, ea3_2, rfl, wa3_2⟩ := DataW.trod_int Try.underlying3 hy3_2
  simp at ea3_2; subst ea3_2
  clear hA0 hval0 hsz0
  exact (Sf.unlike_w a0 a1 a2_0 a2_1 a2_2 a3_0 a3_1 a3_2 W (by omega) (by omega)).mono fun e W' ⟨he, bel⟩ => row_close laidOut (by kernel_rfl) rfl Try.underlying4 rfl hW' rfl he bel
theorem over : Rows.suffixUnlikeRow.holds Try.pinned (OpenSpec.ofChange Rows.suffixUnlikeSpec) :=
  OpenClaim.holds_of_wide 7 Try.f7 rfl rfl rfl rfl rfl rfl rfl ⟨rfl, rfl, rfl, rfl, rfl⟩ rfl rfl rfl rfl rfl (by kernel_rfl) Try.func7 (by kernel_rfl)
    (of_decide_eq_true (by kernel_rfl)) (by unfold Func.isWrapper; first | (rw [if_pos (by decide +kernel)]; kernel_rfl) | (rw [if_neg (by decide +kernel)]; exact ⟨rfl, rfl⟩))
    (fun os started H enc _ => lifted os started H enc)
end Go.Proofs.Ytnppbfjeibfamaa.RsuffixUnlike
namespace Go.Proofs.Ytnppbfjeibfamaa
/-- The row. -/
theorem SuffixUnlike_holds : Rows.SuffixUnlikeSaid := RsuffixUnlike.over
end Go.Proofs.Ytnppbfjeibfamaa
