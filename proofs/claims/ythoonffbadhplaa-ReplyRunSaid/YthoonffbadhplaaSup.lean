/- Layer 13: requests: what the program's and the references' functions answer. -/
import Derived.Test.YthoonffbadhplaaStr
import Derived.Test.YthoonffbadhplaaNum
namespace Go.Proofs.Ythoonffbadhplaa.Su
open Go.RowKit Go.Proofs.Ythoonffbadhplaa.Kt Go.Proofs.Ythoonffbadhplaa.Lw Go.Proofs.Ythoonffbadhplaa.St Go.Proofs.Ythoonffbadhplaa.Nm
set_option linter.unusedVariables false
set_option linter.unusedSimpArgs false

-- left out: code_c
-- left out: value_c
-- left out: length_c
def setMay (c v l : Int) : Bool := rngB c 0 6 && (rngB v 0 65535 && rngB l 0 32)
-- left out: setMay_c
-- left out: rsetMay_c
def wayI (c : Int) : Int := if c = 2 ∨ c = 3 ∨ c = 5 then 161 else 33
-- left out: kind_c
def supB (c v l : Int) : ByteArray := bif setMay c v l then lowB (wayI c) 1 ++ lowB c 1 ++ lowB v 2 ++ lowB 0 2 ++ lowB l 2 else ByteArray.empty
def supE (c v l : Int) : Int := bif setMay c v l then 0 else 1300
-- left out: sput_c
end Go.Proofs.Ythoonffbadhplaa.Su
