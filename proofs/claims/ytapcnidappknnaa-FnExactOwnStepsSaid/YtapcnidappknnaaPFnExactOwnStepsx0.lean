-- Written by a turned copy of the printer, for this claim
import Derived.Test.YtapcnidappknnaaProg
import Derived.Below
import Derived.Deep.Draws
import Derived.Deep.AppendLies
import Derived.Maps.AppendAt
import Derived.OwnWalk
import Derived.Laws.BytesArg
import Derived.Laws.MakeOwn
import Derived.Laws.OwnMore
import Derived.Deep.OwnRows
import Derived.Tactics
import Derived.Lib.ConvBytes
import Derived.Laws.Slices
import Derived.WalkKit
import Derived.KernelRfl
import Derived.RowKit3
import Derived.Deep.LoopGhost
import Derived.Deep.QuietTactic
import Derived.BigQuiet
import Derived.WideLaws
import Derived.Deep.DeepCutAuto
import Derived.Deep.CutBlock
import Derived.Deep.RegionHeld3
import Derived.Laws.Rows
import Derived.Lib.AppendStr
import Derived.ArgAppend
import Derived.Laws.IdiomCopy
import Derived.OrdersHeld
import Derived.Laws.BitsLemmas
import Derived.RowKit
import Derived.Test.YtapcnidappknnaaWWords
import Derived.Test.YtapcnidappknnaaWLast
import Derived.Test.YtapcnidappknnaaWTab
import Derived.Test.YtapcnidappknnaaWFour
import Derived.Test.YtapcnidappknnaaWQPut
import Derived.Test.YtapcnidappknnaaWApart
import Derived.Test.YtapcnidappknnaaWArr
import Derived.Test.YtapcnidappknnaaWZeros
import Derived.Test.YtapcnidappknnaaWFoot
import Derived.Test.YtapcnidappknnaaWKept
import Derived.Test.YtapcnidappknnaaWShare
import Derived.Test.YtapcnidappknnaaWN
import Derived.Test.YtapcnidappknnaaWFootNe
import Derived.Test.YtapcnidappknnaaWAt
import Derived.Test.YtapcnidappknnaaWEqStruct
import Derived.Test.YtapcnidappknnaaWRepsOne
import Derived.Test.YtapcnidappknnaaWInv
import Derived.Test.YtapcnidappknnaaWInvWords
import Derived.Test.YtapcnidappknnaaWGuard
import Derived.Test.YtapcnidappknnaaWNEv
import Derived.Test.YtapcnidappknnaaWMore
import Derived.Test.YtapcnidappknnaaHDel
namespace Go.Proofs.Ytapcnidappknnaa.PFnExactOwnSteps
open Go.RowKit Go.Proofs.YtapcnidappknnaaW.PrintWords Go.Proofs.YtapcnidappknnaaW.PrintLast Go.Proofs.YtapcnidappknnaaW.PrintMore
attribute [local go_sem] max2_int min2_int max_two min_two max_three min_three max_four min_four   -- for this text's walks alone
set_option linter.unusedVariables false
set_option linter.unusedSimpArgs false



def errW : Option Int → Value
  | none => .nilIface
  | some c => .iface 0 (.int .i64 c)
theorem errW_none : errW none = .nilIface := rfl
theorem errW_some (c : Int) : errW (some c) = .iface 0 (.int .i64 c) := rfl

theorem info3 : (Try.prog.info? 3).map (fun i => (i.zero, i.size, i.bytes)) = some (some (.int .i64 0), 1, 8) := by kernel_rfl
-- the values' own types

end Go.Proofs.Ytapcnidappknnaa.PFnExactOwnSteps
