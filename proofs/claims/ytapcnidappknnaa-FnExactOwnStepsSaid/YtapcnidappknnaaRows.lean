/-
  No cell of these rows narrows 'for every input' (looked for: loops, veiled, ifaces, maps, wideKeys, modest, calm, conditions, laid).
  DERIVED. THE GIVEN ROWS OF THIS SEAT. 12 by the template 'for every input the law returns true; each argument reads behind the call as it read before'; 0 by the template 'total and deterministic' (their statements: YtapcnidappknnaaTotals.lean).
  GIVEN WITH THE SEED: the statements are not yours to turn. If you find one false, say at which input.
  Laid BY PROGRAM, IN A SANDBOX (cutbox-rows.mjs): the forced cells as the released guide's own fill.sh prints them over the translation 7a52269c540b5df2… (all of the seat's roots in one cut). By AI agents, Wed Nov 11 2026. No macro, syntax, notation, axiom, sorry.
-/
import Derived.Test.YtapcnidappknnaaChecked
import GoSem.Claim
import GoSem.ClaimJoined
import GoSem.ClaimMapViews
import Derived.JoinedTies
import Derived.KernelRfl
namespace Go.Proofs.Ytapcnidappknnaa
/- THE CELL 'sum', in the pinned program and in every row, IS THE sha256 OF THE DUMP (.gsa) THAT YtapcnidappknnaaProg.lean LOADS. Nothing in Lean hashes anything: it is a label: what it is worth is what the hold of that sum in a sandbox is worth. -/
noncomputable def Try.pinned : Pinned := { name := "ytapcnidappknnaa", sum := "7a52269c540b5df24de01333f0a653366c303aa8d1bdb9f25c34e7779217575f", checked := Try.checked }
namespace Rows
def none {H : Type} : Left H := { results := [], args := [] }

/-- 'laws.FnExactIsStepList': WHATEVER THE INPUT: true; the input reads as it did. -/
def fnExactIsStepListSpec : ChangeSpec := { name := "fnExactIsStepList", fn := fun _ => fun
  | [d] => { results := [.lit (.bool true)], args := [d] }
  | _ => none }
def fnExactIsStepListRow : OpenClaim := { program := "ytapcnidappknnaa", sum := "7a52269c540b5df24de01333f0a653366c303aa8d1bdb9f25c34e7779217575f", func := "loop.example/g01235/laws.FnExactIsStepList", spec := "fnExactIsStepList", unfollowed := true, recurses := true, apart := false }
def FnExactIsStepListSaid : Prop := fnExactIsStepListRow.holds Try.pinned (OpenSpec.ofChange fnExactIsStepListSpec)

/-- ITS FALSE NEIGHBOUR: 'it returns false'. Refute it at one input. -/
def fnExactIsStepListWrong : ChangeSpec := { name := "fnExactIsStepList", fn := fun _ => fun
  | [d] => { results := [.lit (.bool false)], args := [d] }
  | _ => none }
def FnExactIsStepListWrongFalsely : Prop := fnExactIsStepListRow.holds Try.pinned (OpenSpec.ofChange fnExactIsStepListWrong)

/-- 'laws.FnExactNumberOfRank': WHATEVER THE INPUT: true; the input reads as it did. -/
def fnExactNumberOfRankSpec : ChangeSpec := { name := "fnExactNumberOfRank", fn := fun _ => fun
  | [d1, d2] => { results := [.lit (.bool true)], args := [d1, d2] }
  | _ => none }
def fnExactNumberOfRankRow : OpenClaim := { program := "ytapcnidappknnaa", sum := "7a52269c540b5df24de01333f0a653366c303aa8d1bdb9f25c34e7779217575f", func := "loop.example/g01235/laws.FnExactNumberOfRank", spec := "fnExactNumberOfRank", unfollowed := true, recurses := true, apart := false }
def FnExactNumberOfRankSaid : Prop := fnExactNumberOfRankRow.holds Try.pinned (OpenSpec.ofChange fnExactNumberOfRankSpec)

/-- ITS FALSE NEIGHBOUR: 'it returns false'. Refute it at one input. -/
def fnExactNumberOfRankWrong : ChangeSpec := { name := "fnExactNumberOfRank", fn := fun _ => fun
  | [d1, d2] => { results := [.lit (.bool false)], args := [d1, d2] }
  | _ => none }
def FnExactNumberOfRankWrongFalsely : Prop := fnExactNumberOfRankRow.holds Try.pinned (OpenSpec.ofChange fnExactNumberOfRankWrong)

/-- 'laws.FnExactRankBehind': WHATEVER THE INPUT: true; the input reads as it did. -/
def fnExactRankBehindSpec : ChangeSpec := { name := "fnExactRankBehind", fn := fun _ => fun
  | [d1, d2] => { results := [.lit (.bool true)], args := [d1, d2] }
  | _ => none }
def fnExactRankBehindRow : OpenClaim := { program := "ytapcnidappknnaa", sum := "7a52269c540b5df24de01333f0a653366c303aa8d1bdb9f25c34e7779217575f", func := "loop.example/g01235/laws.FnExactRankBehind", spec := "fnExactRankBehind", unfollowed := true, recurses := true, apart := false }
def FnExactRankBehindSaid : Prop := fnExactRankBehindRow.holds Try.pinned (OpenSpec.ofChange fnExactRankBehindSpec)

/-- ITS FALSE NEIGHBOUR: 'it returns false'. Refute it at one input. -/
def fnExactRankBehindWrong : ChangeSpec := { name := "fnExactRankBehind", fn := fun _ => fun
  | [d1, d2] => { results := [.lit (.bool false)], args := [d1, d2] }
  | _ => none }
def FnExactRankBehindWrongFalsely : Prop := fnExactRankBehindRow.holds Try.pinned (OpenSpec.ofChange fnExactRankBehindWrong)

/-- 'laws.FnExactStepOfFall': WHATEVER THE INPUT: true; the input reads as it did. -/
def fnExactStepOfFallSpec : ChangeSpec := { name := "fnExactStepOfFall", fn := fun _ => fun
  | [d1, d2] => { results := [.lit (.bool true)], args := [d1, d2] }
  | _ => none }
def fnExactStepOfFallRow : OpenClaim := { program := "ytapcnidappknnaa", sum := "7a52269c540b5df24de01333f0a653366c303aa8d1bdb9f25c34e7779217575f", func := "loop.example/g01235/laws.FnExactStepOfFall", spec := "fnExactStepOfFall", unfollowed := true, recurses := true, apart := false }
def FnExactStepOfFallSaid : Prop := fnExactStepOfFallRow.holds Try.pinned (OpenSpec.ofChange fnExactStepOfFallSpec)

/-- ITS FALSE NEIGHBOUR: 'it returns false'. Refute it at one input. -/
def fnExactStepOfFallWrong : ChangeSpec := { name := "fnExactStepOfFall", fn := fun _ => fun
  | [d1, d2] => { results := [.lit (.bool false)], args := [d1, d2] }
  | _ => none }
def FnExactStepOfFallWrongFalsely : Prop := fnExactStepOfFallRow.holds Try.pinned (OpenSpec.ofChange fnExactStepOfFallWrong)

/-- 'laws.FnExactCountByCounting': WHATEVER THE INPUT: true; the input reads as it did. -/
def fnExactCountByCountingSpec : ChangeSpec := { name := "fnExactCountByCounting", fn := fun _ => fun
  | [d1, d2] => { results := [.lit (.bool true)], args := [d1, d2] }
  | _ => none }
def fnExactCountByCountingRow : OpenClaim := { program := "ytapcnidappknnaa", sum := "7a52269c540b5df24de01333f0a653366c303aa8d1bdb9f25c34e7779217575f", func := "loop.example/g01235/laws.FnExactCountByCounting", spec := "fnExactCountByCounting", unfollowed := true, recurses := true, apart := false }
def FnExactCountByCountingSaid : Prop := fnExactCountByCountingRow.holds Try.pinned (OpenSpec.ofChange fnExactCountByCountingSpec)

/-- ITS FALSE NEIGHBOUR: 'it returns false'. Refute it at one input. -/
def fnExactCountByCountingWrong : ChangeSpec := { name := "fnExactCountByCounting", fn := fun _ => fun
  | [d1, d2] => { results := [.lit (.bool false)], args := [d1, d2] }
  | _ => none }
def FnExactCountByCountingWrongFalsely : Prop := fnExactCountByCountingRow.holds Try.pinned (OpenSpec.ofChange fnExactCountByCountingWrong)

/-- 'laws.FnExactLeftByCounting': WHATEVER THE INPUT: true; the input reads as it did. -/
def fnExactLeftByCountingSpec : ChangeSpec := { name := "fnExactLeftByCounting", fn := fun _ => fun
  | [d1, d2] => { results := [.lit (.bool true)], args := [d1, d2] }
  | _ => none }
def fnExactLeftByCountingRow : OpenClaim := { program := "ytapcnidappknnaa", sum := "7a52269c540b5df24de01333f0a653366c303aa8d1bdb9f25c34e7779217575f", func := "loop.example/g01235/laws.FnExactLeftByCounting", spec := "fnExactLeftByCounting", unfollowed := true, recurses := true, apart := false }
def FnExactLeftByCountingSaid : Prop := fnExactLeftByCountingRow.holds Try.pinned (OpenSpec.ofChange fnExactLeftByCountingSpec)

/-- ITS FALSE NEIGHBOUR: 'it returns false'. Refute it at one input. -/
def fnExactLeftByCountingWrong : ChangeSpec := { name := "fnExactLeftByCounting", fn := fun _ => fun
  | [d1, d2] => { results := [.lit (.bool false)], args := [d1, d2] }
  | _ => none }
def FnExactLeftByCountingWrongFalsely : Prop := fnExactLeftByCountingRow.holds Try.pinned (OpenSpec.ofChange fnExactLeftByCountingWrong)

/-- 'laws.FnExactCircleOut': WHATEVER THE INPUT: true; the input reads as it did. -/
def fnExactCircleOutSpec : ChangeSpec := { name := "fnExactCircleOut", fn := fun _ => fun
  | [d1, d2] => { results := [.lit (.bool true)], args := [d1, d2] }
  | _ => none }
def fnExactCircleOutRow : OpenClaim := { program := "ytapcnidappknnaa", sum := "7a52269c540b5df24de01333f0a653366c303aa8d1bdb9f25c34e7779217575f", func := "loop.example/g01235/laws.FnExactCircleOut", spec := "fnExactCircleOut", apart := false }
def FnExactCircleOutSaid : Prop := fnExactCircleOutRow.holds Try.pinned (OpenSpec.ofChange fnExactCircleOutSpec)

/-- ITS FALSE NEIGHBOUR: 'it returns false'. Refute it at one input. -/
def fnExactCircleOutWrong : ChangeSpec := { name := "fnExactCircleOut", fn := fun _ => fun
  | [d1, d2] => { results := [.lit (.bool false)], args := [d1, d2] }
  | _ => none }
def FnExactCircleOutWrongFalsely : Prop := fnExactCircleOutRow.holds Try.pinned (OpenSpec.ofChange fnExactCircleOutWrong)

/-- 'laws.FnExactOwnSteps': WHATEVER THE INPUT: true; the input reads as it did. -/
def fnExactOwnStepsSpec : ChangeSpec := { name := "fnExactOwnSteps", fn := fun _ => fun
  | [d1, d2] => { results := [.lit (.bool true)], args := [d1, d2] }
  | _ => none }
def fnExactOwnStepsRow : OpenClaim := { program := "ytapcnidappknnaa", sum := "7a52269c540b5df24de01333f0a653366c303aa8d1bdb9f25c34e7779217575f", func := "loop.example/g01235/laws.FnExactOwnSteps", spec := "fnExactOwnSteps", apart := false }
def FnExactOwnStepsSaid : Prop := fnExactOwnStepsRow.holds Try.pinned (OpenSpec.ofChange fnExactOwnStepsSpec)

/-- ITS FALSE NEIGHBOUR: 'it returns false'. Refute it at one input. -/
def fnExactOwnStepsWrong : ChangeSpec := { name := "fnExactOwnSteps", fn := fun _ => fun
  | [d1, d2] => { results := [.lit (.bool false)], args := [d1, d2] }
  | _ => none }
def FnExactOwnStepsWrongFalsely : Prop := fnExactOwnStepsRow.holds Try.pinned (OpenSpec.ofChange fnExactOwnStepsWrong)

/-- 'laws.FnExactRisingSieve': WHATEVER THE INPUT: true; the input reads as it did. -/
def fnExactRisingSieveSpec : ChangeSpec := { name := "fnExactRisingSieve", fn := fun _ => fun
  | [d] => { results := [.lit (.bool true)], args := [d] }
  | _ => none }
def fnExactRisingSieveRow : OpenClaim := { program := "ytapcnidappknnaa", sum := "7a52269c540b5df24de01333f0a653366c303aa8d1bdb9f25c34e7779217575f", func := "loop.example/g01235/laws.FnExactRisingSieve", spec := "fnExactRisingSieve", apart := false }
def FnExactRisingSieveSaid : Prop := fnExactRisingSieveRow.holds Try.pinned (OpenSpec.ofChange fnExactRisingSieveSpec)

/-- ITS FALSE NEIGHBOUR: 'it returns false'. Refute it at one input. -/
def fnExactRisingSieveWrong : ChangeSpec := { name := "fnExactRisingSieve", fn := fun _ => fun
  | [d] => { results := [.lit (.bool false)], args := [d] }
  | _ => none }
def FnExactRisingSieveWrongFalsely : Prop := fnExactRisingSieveRow.holds Try.pinned (OpenSpec.ofChange fnExactRisingSieveWrong)

/-- 'laws.FnExactIsLucky': WHATEVER THE INPUT: true; the input reads as it did. -/
def fnExactIsLuckySpec : ChangeSpec := { name := "fnExactIsLucky", fn := fun _ => fun
  | [d] => { results := [.lit (.bool true)], args := [d] }
  | _ => none }
def fnExactIsLuckyRow : OpenClaim := { program := "ytapcnidappknnaa", sum := "7a52269c540b5df24de01333f0a653366c303aa8d1bdb9f25c34e7779217575f", func := "loop.example/g01235/laws.FnExactIsLucky", spec := "fnExactIsLucky", apart := false }
def FnExactIsLuckySaid : Prop := fnExactIsLuckyRow.holds Try.pinned (OpenSpec.ofChange fnExactIsLuckySpec)

/-- ITS FALSE NEIGHBOUR: 'it returns false'. Refute it at one input. -/
def fnExactIsLuckyWrong : ChangeSpec := { name := "fnExactIsLucky", fn := fun _ => fun
  | [d] => { results := [.lit (.bool false)], args := [d] }
  | _ => none }
def FnExactIsLuckyWrongFalsely : Prop := fnExactIsLuckyRow.holds Try.pinned (OpenSpec.ofChange fnExactIsLuckyWrong)

/-- 'laws.FnExactEvenLucky': WHATEVER THE INPUT: true; the input reads as it did. -/
def fnExactEvenLuckySpec : ChangeSpec := { name := "fnExactEvenLucky", fn := fun _ => fun
  | [d] => { results := [.lit (.bool true)], args := [d] }
  | _ => none }
def fnExactEvenLuckyRow : OpenClaim := { program := "ytapcnidappknnaa", sum := "7a52269c540b5df24de01333f0a653366c303aa8d1bdb9f25c34e7779217575f", func := "loop.example/g01235/laws.FnExactEvenLucky", spec := "fnExactEvenLucky", apart := false }
def FnExactEvenLuckySaid : Prop := fnExactEvenLuckyRow.holds Try.pinned (OpenSpec.ofChange fnExactEvenLuckySpec)

/-- ITS FALSE NEIGHBOUR: 'it returns false'. Refute it at one input. -/
def fnExactEvenLuckyWrong : ChangeSpec := { name := "fnExactEvenLucky", fn := fun _ => fun
  | [d] => { results := [.lit (.bool false)], args := [d] }
  | _ => none }
def FnExactEvenLuckyWrongFalsely : Prop := fnExactEvenLuckyRow.holds Try.pinned (OpenSpec.ofChange fnExactEvenLuckyWrong)

/-- 'laws.FnExactLucky': WHATEVER THE INPUT: true; the input reads as it did. -/
def fnExactLuckySpec : ChangeSpec := { name := "fnExactLucky", fn := fun _ => fun
  | [d] => { results := [.lit (.bool true)], args := [d] }
  | _ => none }
def fnExactLuckyRow : OpenClaim := { program := "ytapcnidappknnaa", sum := "7a52269c540b5df24de01333f0a653366c303aa8d1bdb9f25c34e7779217575f", func := "loop.example/g01235/laws.FnExactLucky", spec := "fnExactLucky", apart := false }
def FnExactLuckySaid : Prop := fnExactLuckyRow.holds Try.pinned (OpenSpec.ofChange fnExactLuckySpec)

/-- ITS FALSE NEIGHBOUR: 'it returns false'. Refute it at one input. -/
def fnExactLuckyWrong : ChangeSpec := { name := "fnExactLucky", fn := fun _ => fun
  | [d] => { results := [.lit (.bool false)], args := [d] }
  | _ => none }
def FnExactLuckyWrongFalsely : Prop := fnExactLuckyRow.holds Try.pinned (OpenSpec.ofChange fnExactLuckyWrong)

/- THE SECOND FORM. 'bulk': how many values and letters a reading holds, each counted each time it is reached (what is shared counts as often as it is met; a slice's spare places count too). A statement '..UptoSaid' is the law's where the arguments, and the package variables that the reading takes, are together of bulk at most 1048576: NARROWER than '..Said'. Prove '..Said' where nothing that the law and all that it calls make is longer than what came in: it says more and counts as full. Else prove '..UptoSaid'. A law counts once. -/
mutual
def uptoBulk {H : Type} : DataW H → Nat
  | .lit (.string bytes) => bytes.length + 1
  | .lit _ => 1
  | .nil => 1
  | .ptr d => uptoBulk d + 1
  | .slice elems spare => uptoBulkAll elems + uptoBulkAll spare + 1
  | .agg parts => uptoBulkAll parts + 1
  | .iface _ d => uptoBulk d + 1
  | .map entries => uptoBulkEntries entries + 1
  | .held _ => 1
def uptoBulkAll {H : Type} : List (DataW H) → Nat
  | [] => 0
  | d :: r => uptoBulk d + uptoBulkAll r
def uptoBulkEntries {H : Type} : List (Lit × DataW H) → Nat
  | [] => 0
  | x :: r => uptoBulkEntry x + uptoBulkEntries r
def uptoBulkEntry {H : Type} : Lit × DataW H → Nat
  | (.string bytes, d) => bytes.length + uptoBulk d + 1
  | (_, d) => uptoBulk d + 1
 end
def uptoSmall : (H : Type) → List (DataW H) → Bool := fun _ ds => decide (uptoBulkAll ds ≤ 1048576)
def OpenSpec.upto (s : _root_.Go.ChangeSpec) : _root_.Go.OpenSpec := { _root_.Go.OpenSpec.ofChange s with cond := some uptoSmall }

/-- 'laws.FnExactIsStepList', WHERE WHAT IT READS IS OF BULK AT MOST 1048576: true; the input reads as it did. -/
def fnExactIsStepListUptoRow : OpenClaim := { program := "ytapcnidappknnaa", sum := "7a52269c540b5df24de01333f0a653366c303aa8d1bdb9f25c34e7779217575f", func := "loop.example/g01235/laws.FnExactIsStepList", spec := "fnExactIsStepList", unfollowed := true, recurses := true, apart := false, narrowed := true }
def FnExactIsStepListUptoSaid : Prop := fnExactIsStepListUptoRow.holds Try.pinned (OpenSpec.upto fnExactIsStepListSpec)

/-- 'laws.FnExactNumberOfRank', WHERE WHAT IT READS IS OF BULK AT MOST 1048576: true; the input reads as it did. -/
def fnExactNumberOfRankUptoRow : OpenClaim := { program := "ytapcnidappknnaa", sum := "7a52269c540b5df24de01333f0a653366c303aa8d1bdb9f25c34e7779217575f", func := "loop.example/g01235/laws.FnExactNumberOfRank", spec := "fnExactNumberOfRank", unfollowed := true, recurses := true, apart := false, narrowed := true }
def FnExactNumberOfRankUptoSaid : Prop := fnExactNumberOfRankUptoRow.holds Try.pinned (OpenSpec.upto fnExactNumberOfRankSpec)

/-- 'laws.FnExactRankBehind', WHERE WHAT IT READS IS OF BULK AT MOST 1048576: true; the input reads as it did. -/
def fnExactRankBehindUptoRow : OpenClaim := { program := "ytapcnidappknnaa", sum := "7a52269c540b5df24de01333f0a653366c303aa8d1bdb9f25c34e7779217575f", func := "loop.example/g01235/laws.FnExactRankBehind", spec := "fnExactRankBehind", unfollowed := true, recurses := true, apart := false, narrowed := true }
def FnExactRankBehindUptoSaid : Prop := fnExactRankBehindUptoRow.holds Try.pinned (OpenSpec.upto fnExactRankBehindSpec)

/-- 'laws.FnExactStepOfFall', WHERE WHAT IT READS IS OF BULK AT MOST 1048576: true; the input reads as it did. -/
def fnExactStepOfFallUptoRow : OpenClaim := { program := "ytapcnidappknnaa", sum := "7a52269c540b5df24de01333f0a653366c303aa8d1bdb9f25c34e7779217575f", func := "loop.example/g01235/laws.FnExactStepOfFall", spec := "fnExactStepOfFall", unfollowed := true, recurses := true, apart := false, narrowed := true }
def FnExactStepOfFallUptoSaid : Prop := fnExactStepOfFallUptoRow.holds Try.pinned (OpenSpec.upto fnExactStepOfFallSpec)

/-- 'laws.FnExactCountByCounting', WHERE WHAT IT READS IS OF BULK AT MOST 1048576: true; the input reads as it did. -/
def fnExactCountByCountingUptoRow : OpenClaim := { program := "ytapcnidappknnaa", sum := "7a52269c540b5df24de01333f0a653366c303aa8d1bdb9f25c34e7779217575f", func := "loop.example/g01235/laws.FnExactCountByCounting", spec := "fnExactCountByCounting", unfollowed := true, recurses := true, apart := false, narrowed := true }
def FnExactCountByCountingUptoSaid : Prop := fnExactCountByCountingUptoRow.holds Try.pinned (OpenSpec.upto fnExactCountByCountingSpec)

/-- 'laws.FnExactLeftByCounting', WHERE WHAT IT READS IS OF BULK AT MOST 1048576: true; the input reads as it did. -/
def fnExactLeftByCountingUptoRow : OpenClaim := { program := "ytapcnidappknnaa", sum := "7a52269c540b5df24de01333f0a653366c303aa8d1bdb9f25c34e7779217575f", func := "loop.example/g01235/laws.FnExactLeftByCounting", spec := "fnExactLeftByCounting", unfollowed := true, recurses := true, apart := false, narrowed := true }
def FnExactLeftByCountingUptoSaid : Prop := fnExactLeftByCountingUptoRow.holds Try.pinned (OpenSpec.upto fnExactLeftByCountingSpec)

/-- 'laws.FnExactCircleOut', WHERE WHAT IT READS IS OF BULK AT MOST 1048576: true; the input reads as it did. -/
def fnExactCircleOutUptoRow : OpenClaim := { program := "ytapcnidappknnaa", sum := "7a52269c540b5df24de01333f0a653366c303aa8d1bdb9f25c34e7779217575f", func := "loop.example/g01235/laws.FnExactCircleOut", spec := "fnExactCircleOut", apart := false, narrowed := true }
def FnExactCircleOutUptoSaid : Prop := fnExactCircleOutUptoRow.holds Try.pinned (OpenSpec.upto fnExactCircleOutSpec)

/-- 'laws.FnExactOwnSteps', WHERE WHAT IT READS IS OF BULK AT MOST 1048576: true; the input reads as it did. -/
def fnExactOwnStepsUptoRow : OpenClaim := { program := "ytapcnidappknnaa", sum := "7a52269c540b5df24de01333f0a653366c303aa8d1bdb9f25c34e7779217575f", func := "loop.example/g01235/laws.FnExactOwnSteps", spec := "fnExactOwnSteps", apart := false, narrowed := true }
def FnExactOwnStepsUptoSaid : Prop := fnExactOwnStepsUptoRow.holds Try.pinned (OpenSpec.upto fnExactOwnStepsSpec)

/-- 'laws.FnExactRisingSieve', WHERE WHAT IT READS IS OF BULK AT MOST 1048576: true; the input reads as it did. -/
def fnExactRisingSieveUptoRow : OpenClaim := { program := "ytapcnidappknnaa", sum := "7a52269c540b5df24de01333f0a653366c303aa8d1bdb9f25c34e7779217575f", func := "loop.example/g01235/laws.FnExactRisingSieve", spec := "fnExactRisingSieve", apart := false, narrowed := true }
def FnExactRisingSieveUptoSaid : Prop := fnExactRisingSieveUptoRow.holds Try.pinned (OpenSpec.upto fnExactRisingSieveSpec)

/-- 'laws.FnExactIsLucky', WHERE WHAT IT READS IS OF BULK AT MOST 1048576: true; the input reads as it did. -/
def fnExactIsLuckyUptoRow : OpenClaim := { program := "ytapcnidappknnaa", sum := "7a52269c540b5df24de01333f0a653366c303aa8d1bdb9f25c34e7779217575f", func := "loop.example/g01235/laws.FnExactIsLucky", spec := "fnExactIsLucky", apart := false, narrowed := true }
def FnExactIsLuckyUptoSaid : Prop := fnExactIsLuckyUptoRow.holds Try.pinned (OpenSpec.upto fnExactIsLuckySpec)

/-- 'laws.FnExactEvenLucky', WHERE WHAT IT READS IS OF BULK AT MOST 1048576: true; the input reads as it did. -/
def fnExactEvenLuckyUptoRow : OpenClaim := { program := "ytapcnidappknnaa", sum := "7a52269c540b5df24de01333f0a653366c303aa8d1bdb9f25c34e7779217575f", func := "loop.example/g01235/laws.FnExactEvenLucky", spec := "fnExactEvenLucky", apart := false, narrowed := true }
def FnExactEvenLuckyUptoSaid : Prop := fnExactEvenLuckyUptoRow.holds Try.pinned (OpenSpec.upto fnExactEvenLuckySpec)

/-- 'laws.FnExactLucky', WHERE WHAT IT READS IS OF BULK AT MOST 1048576: true; the input reads as it did. -/
def fnExactLuckyUptoRow : OpenClaim := { program := "ytapcnidappknnaa", sum := "7a52269c540b5df24de01333f0a653366c303aa8d1bdb9f25c34e7779217575f", func := "loop.example/g01235/laws.FnExactLucky", spec := "fnExactLucky", apart := false, narrowed := true }
def FnExactLuckyUptoSaid : Prop := fnExactLuckyUptoRow.holds Try.pinned (OpenSpec.upto fnExactLuckySpec)

end Rows
end Go.Proofs.Ytapcnidappknnaa
