/- Kept cells, more of them. -/
import Derived.Test.YtalgfekpcklijaaGreatGb
namespace Go.Proofs.YtalgfekpcklijaaGreat.Kt
open Go.RowKit
set_option linter.unusedVariables false
end Go.Proofs.YtalgfekpcklijaaGreat.Kt
