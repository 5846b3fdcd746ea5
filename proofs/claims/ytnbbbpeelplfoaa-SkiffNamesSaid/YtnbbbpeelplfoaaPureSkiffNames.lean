/- Every error, limit and kind of the program is the document's number: a closed sentence, without conditions. -/
import Derived.Test.YtnbbbpeelplfoaaPSkiffNamesx1
namespace Go.Proofs.Ytnbbbpeelplfoaa.Pure
open Go.RowKit Go.Proofs.Ytnbbbpeelplfoaa.PSkiffNames Go.Proofs.YtnbbbpeelplfoaaW.PrintWords Go.Proofs.YtnbbbpeelplfoaaW.PrintLast

theorem SkiffNames : skifflaw0_SkiffNames.Pure := by
  unfold skifflaw0_SkiffNames.Pure
  rfl

end Go.Proofs.Ytnbbbpeelplfoaa.Pure
