/- Layer 13: what bytes tell of a request: definitions. -/
import Derived.Test.YtalgfekpcklijaaGreatSup
namespace Go.Proofs.YtalgfekpcklijaaGreat.Su
open Go.RowKit Go.Proofs.YtalgfekpcklijaaGreat.Kt Go.Proofs.YtalgfekpcklijaaGreat.Lw Go.Proofs.YtalgfekpcklijaaGreat.St Go.Proofs.YtalgfekpcklijaaGreat.Nm
def gotS (s : ByteArray) : Bool := decide (s.size = 8) && (setMay (byt s 1) (numB (s.extract 2 4)) (numB (s.extract 6 8)) && decide (supB (byt s 1) (numB (s.extract 2 4)) (numB (s.extract 6 8)) = s))
def gotW (s : ByteArray) : Array Value := bif gotS s then #[.int .i64 (byt s 1), .int .i64 (numB (s.extract 2 4)), .int .i64 (numB (s.extract 6 8))] else #[.int .i64 0, .int .i64 0, .int .i64 0]
end Go.Proofs.YtalgfekpcklijaaGreat.Su
