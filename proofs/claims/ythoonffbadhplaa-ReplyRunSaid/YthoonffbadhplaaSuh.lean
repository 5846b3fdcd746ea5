/- Layer 13: what bytes tell of a request: definitions. -/
import Derived.Test.YthoonffbadhplaaSup
namespace Go.Proofs.Ythoonffbadhplaa.Su
open Go.RowKit Go.Proofs.Ythoonffbadhplaa.Kt Go.Proofs.Ythoonffbadhplaa.Lw Go.Proofs.Ythoonffbadhplaa.St Go.Proofs.Ythoonffbadhplaa.Nm
def gotS (s : ByteArray) : Bool := decide (s.size = 8) && (setMay (byt s 1) (numB (s.extract 2 4)) (numB (s.extract 6 8)) && decide (supB (byt s 1) (numB (s.extract 2 4)) (numB (s.extract 6 8)) = s))
def gotW (s : ByteArray) : Array Value := bif gotS s then #[.int .i64 (byt s 1), .int .i64 (numB (s.extract 2 4)), .int .i64 (numB (s.extract 6 8))] else #[.int .i64 0, .int .i64 0, .int .i64 0]
end Go.Proofs.Ythoonffbadhplaa.Su
