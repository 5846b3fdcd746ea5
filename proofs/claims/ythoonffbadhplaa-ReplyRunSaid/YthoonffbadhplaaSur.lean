/- Layer 13: the references' requests. -/
import Derived.Test.YthoonffbadhplaaSuh
namespace Go.Proofs.Ythoonffbadhplaa.Su
open Go.RowKit Go.Proofs.Ythoonffbadhplaa.Kt Go.Proofs.Ythoonffbadhplaa.Lw Go.Proofs.Ythoonffbadhplaa.St Go.Proofs.Ythoonffbadhplaa.Nm
set_option linter.unusedVariables false
set_option linter.unusedSimpArgs false

-- left out: rput_2
-- left out: rput_3
-- left out: rput_5
-- left out: rput_n
-- left out: rsput_c
-- left out: rsget_c
end Go.Proofs.Ythoonffbadhplaa.Su
