/- Layer 11: the laws' walks: SuffixBack, SuffixUnlike, SuffixCut. -/
import Derived.Test.YthoonffbadhplaaSfl
import Derived.Test.YthoonffbadhplaaSfq
namespace Go.Proofs.Ythoonffbadhplaa.Sf
open Go.RowKit Go.Proofs.Ythoonffbadhplaa.Kt Go.Proofs.Ythoonffbadhplaa.Lw Go.Proofs.Ythoonffbadhplaa.St Go.Proofs.Ythoonffbadhplaa.Nm Go.Proofs.Ythoonffbadhplaa.Ic Go.Proofs.Ythoonffbadhplaa.Cr Go.Proofs.Ythoonffbadhplaa.Es
set_option linter.unusedVariables false
set_option linter.unusedSimpArgs false
attribute [local go_sem high] eqIds
theorem par_no {s : ByteArray} (h : parOk s = false) : parV3 s = .tuple #[.string ⟨#[]⟩, .agg #[.int .i64 0, .int .i64 0, .int .i64 0], .int .i64 1100] ∨ parV3 s = .tuple #[.string ⟨#[]⟩, .agg #[.int .i64 0, .int .i64 0, .int .i64 0], .int .i64 1101] := by
  cases hf : parF s
  · exact .inl (parV3_form hf)
  · cases hS : parS s
    · exact .inr (parV3_sum hf hS)
    · simp [parOk, hf, hS] at h
theorem par_yes {s : ByteArray} (h : parOk s = true) : parV3 s = .tuple #[.string (parB s), .agg #[.int .i64 (parV s), .int .i64 (parP s), .int .i64 (parR s)], .int .i64 0] := by
  have e : parE s = 0 := par_e.2 h
  simp [parV3, e]
theorem bld_inj {x y : ByteArray} {v p r v' p' r' : Int} (h : bldOk x v p r = true) (h' : bldOk y v' p' r' = true) (e : bldB x v p r = bldB y v' p' r') : x = y ∧ v = v' ∧ p = p' ∧ r = r' := by
  have a := bld_par h
  rw [e, bld_par h'] at a
  simp at a
  exact ⟨a.1.symm, a.2.1.symm, a.2.2.1.symm, a.2.2.2.symm⟩
theorem bld_no {x : ByteArray} {v p r : Int} (h : bldOk x v p r = false) : bldB x v p r = ⟨#[]⟩ ∧ bldE x v p r = 1100 := by
  constructor
  · simp [bldB, h]; rfl
  · simp [bldE, h]
theorem bld_zero {x : ByteArray} {v p r : Int} (h : bldOk x v p r = true) : bldE x v p r = 0 := by simp [bldE, h]
-- left out: back_w
end Go.Proofs.Ythoonffbadhplaa.Sf
