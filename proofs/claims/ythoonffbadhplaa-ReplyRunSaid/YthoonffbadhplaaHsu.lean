/- Layer 22: hosts that start: what the program's and the references' functions answer. -/
import Derived.Test.YthoonffbadhplaaHsd
import Derived.Test.YthoonffbadhplaaSfm
namespace Go.Proofs.Ythoonffbadhplaa.Ho
open Go.RowKit Go.Proofs.Ythoonffbadhplaa.Kt Go.Proofs.Ythoonffbadhplaa.Lw Go.Proofs.Ythoonffbadhplaa.St Go.Proofs.Ythoonffbadhplaa.Nm Go.Proofs.Ythoonffbadhplaa.Ic Go.Proofs.Ythoonffbadhplaa.Sf
set_option linter.unusedVariables false
set_option linter.unusedSimpArgs false
def hstOk (f : ByteArray) (v p r : Int) : Bool := parOk f && matchB (parV f) (parP f) (parR f) v p r
def startV (f : ByteArray) (v p r : Int) : Value :=
  bif mayB v p r then (bif hstOk f v p r then .tuple #[hostV 1 (parB f) 0 false 0 ⟨#[]⟩ 0, .int .i64 0] else .tuple #[hostV 7 ⟨#[]⟩ 0 false 0 ⟨#[]⟩ 3, .int .i64 0]) else .tuple #[hostV 0 ⟨#[]⟩ 0 false 0 ⟨#[]⟩ 0, .int .i64 2200]
-- left out: start_c
end Go.Proofs.Ythoonffbadhplaa.Ho
