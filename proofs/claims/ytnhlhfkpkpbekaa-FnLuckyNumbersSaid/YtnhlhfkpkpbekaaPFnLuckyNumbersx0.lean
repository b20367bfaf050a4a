-- Written by a turned copy of the printer, for this claim
import Derived.Test.YtnhlhfkpkpbekaaProg
import Derived.Below
import Derived.Deep.Draws
import Derived.Deep.AppendLies
import Derived.Maps.AppendAt
import Derived.OwnWalk
import Derived.Laws.BytesArg
import Derived.Laws.MakeOwn
import Derived.Laws.OwnMore
import Derived.Deep.OwnRows
import Derived.Tactics
import Derived.Lib.ConvBytes
import Derived.Laws.Slices
import Derived.WalkKit
import Derived.KernelRfl
import Derived.RowKit3
import Derived.Deep.LoopGhost
import Derived.Deep.QuietTactic
import Derived.BigQuiet
import Derived.WideLaws
import Derived.Deep.DeepCutAuto
import Derived.Deep.CutBlock
import Derived.Deep.RegionHeld3
import Derived.Laws.Rows
import Derived.Lib.AppendStr
import Derived.ArgAppend
import Derived.Laws.IdiomCopy
import Derived.OrdersHeld
import Derived.Laws.BitsLemmas
import Derived.RowKit
import Derived.Test.YtnhlhfkpkpbekaaWWords
import Derived.Test.YtnhlhfkpkpbekaaWLast
import Derived.Test.YtnhlhfkpkpbekaaWTab
import Derived.Test.YtnhlhfkpkpbekaaWFour
import Derived.Test.YtnhlhfkpkpbekaaWQPut
import Derived.Test.YtnhlhfkpkpbekaaWApart
import Derived.Test.YtnhlhfkpkpbekaaWArr
import Derived.Test.YtnhlhfkpkpbekaaWZeros
import Derived.Test.YtnhlhfkpkpbekaaWFoot
import Derived.Test.YtnhlhfkpkpbekaaWKept
import Derived.Test.YtnhlhfkpkpbekaaWShare
import Derived.Test.YtnhlhfkpkpbekaaWN
import Derived.Test.YtnhlhfkpkpbekaaWFootNe
import Derived.Test.YtnhlhfkpkpbekaaWAt
import Derived.Test.YtnhlhfkpkpbekaaWEqStruct
import Derived.Test.YtnhlhfkpkpbekaaWRepsOne
import Derived.Test.YtnhlhfkpkpbekaaWInv
import Derived.Test.YtnhlhfkpkpbekaaWInvWords
import Derived.Test.YtnhlhfkpkpbekaaWGuard
import Derived.Test.YtnhlhfkpkpbekaaWNEv
import Derived.Test.YtnhlhfkpkpbekaaWMore
import Derived.Test.YtnhlhfkpkpbekaaHDel
namespace Go.Proofs.Ytnhlhfkpkpbekaa.PFnLuckyNumbers
open Go.RowKit Go.Proofs.YtnhlhfkpkpbekaaW.PrintWords Go.Proofs.YtnhlhfkpkpbekaaW.PrintLast Go.Proofs.YtnhlhfkpkpbekaaW.PrintMore
attribute [local go_sem] max2_int min2_int max_two min_two max_three min_three max_four min_four   -- for this text's walks alone
set_option linter.unusedVariables false
set_option linter.unusedSimpArgs false



def errW : Option Int → Value
  | none => .nilIface
  | some c => .iface 0 (.int .i64 c)
theorem errW_none : errW none = .nilIface := rfl
theorem errW_some (c : Int) : errW (some c) = .iface 0 (.int .i64 c) := rfl

theorem info3 : (Try.prog.info? 3).map (fun i => (i.zero, i.size, i.bytes)) = some (some (.int .i64 0), 1, 8) := by kernel_rfl
-- the values' own types

end Go.Proofs.Ytnhlhfkpkpbekaa.PFnLuckyNumbers
