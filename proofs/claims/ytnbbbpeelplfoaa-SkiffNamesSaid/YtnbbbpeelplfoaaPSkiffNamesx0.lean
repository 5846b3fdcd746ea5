-- PRINTED BY print.sh 35421559b90ae4d0a3588c463048766b98c2df88dd9212a6774a882060cdf62d: not written by this session
import Derived.Test.YtnbbbpeelplfoaaProg
import Derived.Below
import Derived.Deep.Draws
import Derived.Deep.AppendLies
import Derived.Maps.AppendAt
import Derived.OwnWalk
import Derived.Laws.BytesArg
import Derived.Laws.MakeOwn
import Derived.Laws.OwnMore
import Derived.Deep.OwnRows
import Derived.Tactics
import Derived.Lib.ConvBytes
import Derived.Laws.Slices
import Derived.WalkKit
import Derived.KernelRfl
import Derived.RowKit3
import Derived.Deep.LoopGhost
import Derived.Deep.QuietTactic
import Derived.BigQuiet
import Derived.WideLaws
import Derived.Deep.DeepCutAuto
import Derived.Deep.CutBlock
import Derived.Deep.RegionHeld3
import Derived.Laws.Rows
import Derived.Lib.AppendStr
import Derived.ArgAppend
import Derived.Laws.IdiomCopy
import Derived.OrdersHeld
import Derived.Laws.BitsLemmas
import Derived.RowKit
import Derived.Test.YtnbbbpeelplfoaaWWords
import Derived.Test.YtnbbbpeelplfoaaWLast
import Derived.Test.YtnbbbpeelplfoaaWTab
import Derived.Test.YtnbbbpeelplfoaaWFour
import Derived.Test.YtnbbbpeelplfoaaWQPut
import Derived.Test.YtnbbbpeelplfoaaWApart
import Derived.Test.YtnbbbpeelplfoaaWArr
import Derived.Test.YtnbbbpeelplfoaaWZeros
import Derived.Test.YtnbbbpeelplfoaaWFoot
import Derived.Test.YtnbbbpeelplfoaaWKept
import Derived.Test.YtnbbbpeelplfoaaWShare
import Derived.Test.YtnbbbpeelplfoaaWN
import Derived.Test.YtnbbbpeelplfoaaWFootNe
import Derived.Test.YtnbbbpeelplfoaaWAt
import Derived.Test.YtnbbbpeelplfoaaWEqStruct
import Derived.Test.YtnbbbpeelplfoaaWRepsOne
import Derived.Test.YtnbbbpeelplfoaaWInv
import Derived.Test.YtnbbbpeelplfoaaWInvWords
import Derived.Test.YtnbbbpeelplfoaaWGuard
import Derived.Test.YtnbbbpeelplfoaaWNEv
import Derived.Test.YtnbbbpeelplfoaaWMore
namespace Go.Proofs.Ytnbbbpeelplfoaa.PSkiffNames
open Go.RowKit Go.Proofs.YtnbbbpeelplfoaaW.PrintWords Go.Proofs.YtnbbbpeelplfoaaW.PrintLast Go.Proofs.YtnbbbpeelplfoaaW.PrintMore
attribute [local go_sem] max2_int min2_int max_two min_two max_three min_three max_four min_four   -- for this text's walks alone
set_option linter.unusedVariables false
set_option linter.unusedSimpArgs false



def errW : Option Int → Value
  | none => .nilIface
  | some c => .iface 0 (.int .i64 c)
theorem errW_none : errW none = .nilIface := rfl
theorem errW_some (c : Int) : errW (some c) = .iface 0 (.int .i64 c) := rfl

-- the values' own types

end Go.Proofs.Ytnbbbpeelplfoaa.PSkiffNames
