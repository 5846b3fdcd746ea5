/- The answer is the device's, as it then is; who asks turns nothing but what waits for asking: of any flash, any device, without conditions. -/
import Derived.Test.YtimnhdmpfndeaaaGreatRow
import Derived.Test.YtimnhdmpfndeaaaGreatOpn
import Derived.Test.YtimnhdmpfndeaaaGreatGtf
namespace Go.Proofs.YtimnhdmpfndeaaaGreat.RstatusTells
open Go.ChangeShapes Go.WideShapes Go.ChangeAt Go.RowKit Go.Joins Go.Proofs.YtimnhdmpfndeaaaGreat.Rw Go.Proofs.YtimnhdmpfndeaaaGreat
open Go.ChangeMaps (open_string shut_string)
set_option linter.unusedVariables false
set_option linter.unusedSimpArgs false
set_option maxRecDepth 100000 in
theorem lifted (os : Os) (started : os.Started) (H : Type) (enc : TypeId × Value → H) :
    ReturnsInHanded {} Tryz.checked os 4 .any (Rows.statusTellsSpec.pre6 enc Tryz.prog Tryz.f4 Rows.statusTellsRow.domain false) (Rows.statusTellsSpec.post enc Tryz.prog Tryz.f4 false true false false) := by
  refine returnsInHanded_of_change_sized (C := Tryz.checked) own started (by kernel_rfl) Tryz.func4
    (ChangeSpec.witness6 (enc := enc) (C := Tryz.checked) false ⟨#[], #[.string ByteArray.empty, .agg #[.int .i64 0, .int .i64 0, .int .i64 0, .int .i64 0, .int .i64 0, .slice none 0 0]], []⟩ 8 (by kernel_rfl) (by kernel_rfl) (by kernel_rfl) (by kernel_rfl)) ?_
  intro W base args ds gs before hval0 hW hcnd hsz0 _
  have hsz : (DataW.weightsEach Tryz.prog (Tryz.f4.params.toList ++ Rows.statusTellsSpec.plain.varTypes Tryz.prog) (ds ++ gs)).all (· ≤ reachBytes) = true := hsz0
  have hval : ∀ (j : Nat) t v, Tryz.f4.params[j]? = some t → args[j]? = some v → Value.okWide Tryz.prog W .any base t v := hval0
  have hW' := hW
  obtain ⟨p, q, hA0, hV, rfl, hfz, hnd⟩ := hW
  have hA : DataW.TrodAll enc Tryz.prog W 0 (fun _ => true) true Tryz.f4.params.toList args.toList ds p := hA0
  rw [Tryz.params4] at hA hval hsz
  obtain ⟨v0, vs0, d0, ds0, p0, q0, hargs, rfl, rfl, h0, r0⟩ := trodAll_cons hA
  obtain ⟨v1, vs1, d1, ds1, p1, q1, rfl, rfl, rfl, h1, r1⟩ := trodAll_cons r0
  obtain ⟨rfl, rfl, rfl⟩ := trodAll_nil r1
  obtain rfl : args = #[v0, v1] := by cases args; simp_all
  obtain ⟨rfl, rfl⟩ := trodVars_none hV
  obtain ⟨a0, rfl, rfl, rfl, y0⟩ := open_string Tryz.underlying9 (hval 0 9 v0 rfl rfl) h0
  have w0 : a0.size ≤ 140737488351232 := by
    have z := sized_string hsz (j := 0) (t := 9) rfl rfl
    rw [Array.length_toList] at z
    exact z
  obtain ⟨a1_0, a1_1, a1_2, a1_3, a1_4, A1, n1, c1, xs1, rfl, R1, N1, B1⟩ := On.dev_open (hval 1 24 v1 rfl rfl) h1 (fun m hm => by simpa using List.all_eq_true.1 hsz m (DataW.weights_mem_each (j := 1) rfl rfl m hm))
  clear hA0 hval0 hsz0
  exact (Dv.tells_w a0 a1_0 a1_1 a1_2 a1_3 a1_4 A1 c1 n1 xs1 W (by omega) R1 N1 B1).mono fun e W' ⟨he, bel⟩ => row_close laidOut (by kernel_rfl) rfl Tryz.underlying4 rfl hW' rfl he bel
theorem over : Rows.statusTellsRow.holds Tryz.pinned (OpenSpec.ofChange Rows.statusTellsSpec) :=
  OpenClaim.holds_of_wide 4 Tryz.f4 rfl rfl rfl rfl rfl rfl rfl ⟨rfl, rfl, rfl, rfl, rfl⟩ rfl rfl rfl rfl rfl (by kernel_rfl) Tryz.func4 (by kernel_rfl)
    (of_decide_eq_true (by kernel_rfl)) (by unfold Func.isWrapper; first | (rw [if_pos (by decide +kernel)]; kernel_rfl) | (rw [if_neg (by decide +kernel)]; exact ⟨rfl, rfl⟩))
    (fun os started H enc _ => lifted os started H enc)
end Go.Proofs.YtimnhdmpfndeaaaGreat.RstatusTells
namespace Go.Proofs.YtimnhdmpfndeaaaGreat
/-- The row. -/
theorem StatusTells_holds : Rows.StatusTellsSaid := RstatusTells.over
end Go.Proofs.YtimnhdmpfndeaaaGreat
