-- Written by a turned copy of the printer, for this claim
import Derived.Test.YtdonfllhlhafpaaProg
import Derived.Below
import Derived.Deep.Draws
import Derived.Deep.AppendLies
import Derived.Maps.AppendAt
import Derived.OwnWalk
import Derived.Laws.BytesArg
import Derived.Laws.MakeOwn
import Derived.Laws.OwnMore
import Derived.Deep.OwnRows
import Derived.Tactics
import Derived.Lib.ConvBytes
import Derived.Laws.Slices
import Derived.WalkKit
import Derived.KernelRfl
import Derived.RowKit3
import Derived.Deep.LoopGhost
import Derived.Deep.QuietTactic
import Derived.BigQuiet
import Derived.WideLaws
import Derived.Deep.DeepCutAuto
import Derived.Deep.CutBlock
import Derived.Deep.RegionHeld3
import Derived.Laws.Rows
import Derived.Lib.AppendStr
import Derived.ArgAppend
import Derived.Laws.IdiomCopy
import Derived.OrdersHeld
import Derived.Laws.BitsLemmas
import Derived.RowKit
import Derived.Test.YtdonfllhlhafpaaWWords
import Derived.Test.YtdonfllhlhafpaaWLast
import Derived.Test.YtdonfllhlhafpaaWTab
import Derived.Test.YtdonfllhlhafpaaWFour
import Derived.Test.YtdonfllhlhafpaaWQPut
import Derived.Test.YtdonfllhlhafpaaWApart
import Derived.Test.YtdonfllhlhafpaaWArr
import Derived.Test.YtdonfllhlhafpaaWZeros
import Derived.Test.YtdonfllhlhafpaaWFoot
import Derived.Test.YtdonfllhlhafpaaWKept
import Derived.Test.YtdonfllhlhafpaaWShare
import Derived.Test.YtdonfllhlhafpaaWN
import Derived.Test.YtdonfllhlhafpaaWFootNe
import Derived.Test.YtdonfllhlhafpaaWAt
import Derived.Test.YtdonfllhlhafpaaWEqStruct
import Derived.Test.YtdonfllhlhafpaaWRepsOne
import Derived.Test.YtdonfllhlhafpaaWInv
import Derived.Test.YtdonfllhlhafpaaWInvWords
import Derived.Test.YtdonfllhlhafpaaWGuard
import Derived.Test.YtdonfllhlhafpaaWNEv
import Derived.Test.YtdonfllhlhafpaaWMore
namespace Go.Proofs.Ytdonfllhlhafpaa.PFnExactIsRule
open Go.RowKit Go.Proofs.YtdonfllhlhafpaaW.PrintWords Go.Proofs.YtdonfllhlhafpaaW.PrintLast Go.Proofs.YtdonfllhlhafpaaW.PrintMore
attribute [local go_sem] max2_int min2_int max_two min_two max_three min_three max_four min_four   -- for this text's walks alone
set_option linter.unusedVariables false
set_option linter.unusedSimpArgs false



def errW : Option Int → Value
  | none => .nilIface
  | some c => .iface 0 (.int .i64 c)
theorem errW_none : errW none = .nilIface := rfl
theorem errW_some (c : Int) : errW (some c) = .iface 0 (.int .i64 c) := rfl

-- the values' own types

end Go.Proofs.Ytdonfllhlhafpaa.PFnExactIsRule
