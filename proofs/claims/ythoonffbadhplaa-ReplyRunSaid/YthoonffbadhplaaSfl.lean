/- Layer 11: the laws' walks: awake, Suffixes. -/
import Derived.Test.YthoonffbadhplaaSue
import Derived.Test.YthoonffbadhplaaEqs
namespace Go.Proofs.Ythoonffbadhplaa.Sf
open Go.RowKit Go.Proofs.Ythoonffbadhplaa.Kt Go.Proofs.Ythoonffbadhplaa.Lw Go.Proofs.Ythoonffbadhplaa.St Go.Proofs.Ythoonffbadhplaa.Nm Go.Proofs.Ythoonffbadhplaa.Ic Go.Proofs.Ythoonffbadhplaa.Cr Go.Proofs.Ythoonffbadhplaa.Es
set_option linter.unusedVariables false
set_option linter.unusedSimpArgs false
attribute [local go_sem high] eqIds
def awk : ByteArray := ⟨#[105, 109, 97, 103, 101, 0, 2, 17, 223, 131, 4, 0, 1, 85, 70, 68, 16, 253, 249, 253, 164]⟩
set_option maxRecDepth 100000 in
theorem awake_facts : ∃ S : ByteArray, bldB ⟨#[105, 109, 97, 103, 101]⟩ 1155 57105 512 = S ∧ S.size = 21 ∧ ((S.extract 5 17).toList == [0, 2, 17, 223, 131, 4, 0, 1, 85, 70, 68, 16]) = true ∧
    parV3 S = .tuple #[.string ⟨#[105, 109, 97, 103, 101]⟩, .agg #[.int .i64 1155, .int .i64 57105, .int .i64 512], .int .i64 0] ∧
    parV3 (⟨#[106]⟩ ++ S.extract 1 21) = .tuple #[.string ⟨#[]⟩, .agg #[.int .i64 0, .int .i64 0, .int .i64 0], .int .i64 1101] := by
  refine ⟨awk, by decide +kernel, by decide +kernel, by decide +kernel, ?_, ?_⟩
  · rw [parV3_ok (s := awk) (k := 5) (by decide +kernel) (by decide +kernel) (by decide +kernel)]
    have e0 : awk.extract 0 5 = ⟨#[105, 109, 97, 103, 101]⟩ := by decide +kernel
    have e1 : numB (awk.extract (5 + 4) (5 + 6)) = 1155 := by decide +kernel
    have e2 : numB (awk.extract (5 + 2) (5 + 4)) = 57105 := by decide +kernel
    have e3 : numB (awk.extract 5 (5 + 2)) = 512 := by decide +kernel
    rw [e0, e1, e2, e3]
  · exact parV3_sum (by decide +kernel) (by decide +kernel)
-- left out: awake_c
-- left out: suffixes_w
end Go.Proofs.Ythoonffbadhplaa.Sf
