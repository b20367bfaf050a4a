/-
  No cell of these rows narrows 'for every input' (looked for: loops, veiled, ifaces, maps, wideKeys, modest, calm, conditions, laid).
  DERIVED. THE GIVEN ROWS OF THIS SEAT. 4 by the template 'for every input the law returns true; each argument reads behind the call as it read before'; 0 by the template 'total and deterministic' (their statements: YtnhlhfkpkpbekaaTotals.lean).
  GIVEN WITH THE SEED: the statements are not yours to turn. If you find one false, say at which input.
  Laid BY PROGRAM, IN A SANDBOX (cutbox-rows.mjs): the forced cells as the released guide's own fill.sh prints them over the translation 34875304cefeea0e… (all of the seat's roots in one cut). By AI agents, Wed Nov 11 2026. No macro, syntax, notation, axiom, sorry.
-/
import Derived.Test.YtnhlhfkpkpbekaaChecked
import GoSem.Claim
import GoSem.ClaimJoined
import GoSem.ClaimMapViews
import Derived.JoinedTies
import Derived.KernelRfl
namespace Go.Proofs.Ytnhlhfkpkpbekaa
/- THE CELL 'sum', in the pinned program and in every row, IS THE sha256 OF THE DUMP (.gsa) THAT YtnhlhfkpkpbekaaProg.lean LOADS. Nothing in Lean hashes anything: it is a label: what it is worth is what the hold of that sum in a sandbox is worth. -/
noncomputable def Try.pinned : Pinned := { name := "ytnhlhfkpkpbekaa", sum := "34875304cefeea0ef6938ba0c1b45fc7edd6c5cfa05bd8f97b1ed6bb0cbac909", checked := Try.checked }
namespace Rows
def none {H : Type} : Left H := { results := [], args := [] }

/-- 'laws.FnExactLuckySteps': WHATEVER THE INPUT: true; the input reads as it did. -/
def fnExactLuckyStepsSpec : ChangeSpec := { name := "fnExactLuckySteps", fn := fun _ => fun
  | [d] => { results := [.lit (.bool true)], args := [d] }
  | _ => none }
def fnExactLuckyStepsRow : OpenClaim := { program := "ytnhlhfkpkpbekaa", sum := "34875304cefeea0ef6938ba0c1b45fc7edd6c5cfa05bd8f97b1ed6bb0cbac909", func := "loop.example/g01235/laws.FnExactLuckySteps", spec := "fnExactLuckySteps", apart := false }
def FnExactLuckyStepsSaid : Prop := fnExactLuckyStepsRow.holds Try.pinned (OpenSpec.ofChange fnExactLuckyStepsSpec)

/-- ITS FALSE NEIGHBOUR: 'it returns false'. Refute it at one input. -/
def fnExactLuckyStepsWrong : ChangeSpec := { name := "fnExactLuckySteps", fn := fun _ => fun
  | [d] => { results := [.lit (.bool false)], args := [d] }
  | _ => none }
def FnExactLuckyStepsWrongFalsely : Prop := fnExactLuckyStepsRow.holds Try.pinned (OpenSpec.ofChange fnExactLuckyStepsWrong)

/-- 'laws.FnCountedAnewOfAll': WHATEVER THE INPUT: true; the input reads as it did. -/
def fnCountedAnewOfAllSpec : ChangeSpec := { name := "fnCountedAnewOfAll", fn := fun _ => fun
  | [d1, d2, d3, d4, d5, d6] => { results := [.lit (.bool true)], args := [d1, d2, d3, d4, d5, d6] }
  | _ => none }
def fnCountedAnewOfAllRow : OpenClaim := { program := "ytnhlhfkpkpbekaa", sum := "34875304cefeea0ef6938ba0c1b45fc7edd6c5cfa05bd8f97b1ed6bb0cbac909", func := "loop.example/g01235/laws.FnCountedAnewOfAll", spec := "fnCountedAnewOfAll", unfollowed := true, recurses := true, apart := false }
def FnCountedAnewOfAllSaid : Prop := fnCountedAnewOfAllRow.holds Try.pinned (OpenSpec.ofChange fnCountedAnewOfAllSpec)

/-- ITS FALSE NEIGHBOUR: 'it returns false'. Refute it at one input. -/
def fnCountedAnewOfAllWrong : ChangeSpec := { name := "fnCountedAnewOfAll", fn := fun _ => fun
  | [d1, d2, d3, d4, d5, d6] => { results := [.lit (.bool false)], args := [d1, d2, d3, d4, d5, d6] }
  | _ => none }
def FnCountedAnewOfAllWrongFalsely : Prop := fnCountedAnewOfAllRow.holds Try.pinned (OpenSpec.ofChange fnCountedAnewOfAllWrong)

/-- 'laws.FnLuckyNumbersOfAll': WHATEVER THE INPUT: true; the input reads as it did. -/
def fnLuckyNumbersOfAllSpec : ChangeSpec := { name := "fnLuckyNumbersOfAll", fn := fun _ => fun
  | [d1, d2, d3, d4, d5, d6, d7] => { results := [.lit (.bool true)], args := [d1, d2, d3, d4, d5, d6, d7] }
  | _ => none }
def fnLuckyNumbersOfAllRow : OpenClaim := { program := "ytnhlhfkpkpbekaa", sum := "34875304cefeea0ef6938ba0c1b45fc7edd6c5cfa05bd8f97b1ed6bb0cbac909", func := "loop.example/g01235/laws.FnLuckyNumbersOfAll", spec := "fnLuckyNumbersOfAll", unfollowed := true, recurses := true, apart := false }
def FnLuckyNumbersOfAllSaid : Prop := fnLuckyNumbersOfAllRow.holds Try.pinned (OpenSpec.ofChange fnLuckyNumbersOfAllSpec)

/-- ITS FALSE NEIGHBOUR: 'it returns false'. Refute it at one input. -/
def fnLuckyNumbersOfAllWrong : ChangeSpec := { name := "fnLuckyNumbersOfAll", fn := fun _ => fun
  | [d1, d2, d3, d4, d5, d6, d7] => { results := [.lit (.bool false)], args := [d1, d2, d3, d4, d5, d6, d7] }
  | _ => none }
def FnLuckyNumbersOfAllWrongFalsely : Prop := fnLuckyNumbersOfAllRow.holds Try.pinned (OpenSpec.ofChange fnLuckyNumbersOfAllWrong)

/-- 'laws.FnLuckyNumbers': WHATEVER THE INPUT: true; the input reads as it did. -/
def fnLuckyNumbersSpec : ChangeSpec := { name := "fnLuckyNumbers", fn := fun _ => fun
  | [d1, d2] => { results := [.lit (.bool true)], args := [d1, d2] }
  | _ => none }
def fnLuckyNumbersRow : OpenClaim := { program := "ytnhlhfkpkpbekaa", sum := "34875304cefeea0ef6938ba0c1b45fc7edd6c5cfa05bd8f97b1ed6bb0cbac909", func := "loop.example/g01235/laws.FnLuckyNumbers", spec := "fnLuckyNumbers", unfollowed := true, recurses := true, apart := false }
def FnLuckyNumbersSaid : Prop := fnLuckyNumbersRow.holds Try.pinned (OpenSpec.ofChange fnLuckyNumbersSpec)

/-- ITS FALSE NEIGHBOUR: 'it returns false'. Refute it at one input. -/
def fnLuckyNumbersWrong : ChangeSpec := { name := "fnLuckyNumbers", fn := fun _ => fun
  | [d1, d2] => { results := [.lit (.bool false)], args := [d1, d2] }
  | _ => none }
def FnLuckyNumbersWrongFalsely : Prop := fnLuckyNumbersRow.holds Try.pinned (OpenSpec.ofChange fnLuckyNumbersWrong)

/- THE SECOND FORM. 'bulk': how many values and letters a reading holds, each counted each time it is reached (what is shared counts as often as it is met; a slice's spare places count too). A statement '..UptoSaid' is the law's where the arguments, and the package variables that the reading takes, are together of bulk at most 1048576: NARROWER than '..Said'. Prove '..Said' where nothing that the law and all that it calls make is longer than what came in: it says more and counts as full. Else prove '..UptoSaid'. A law counts once. -/
mutual
def uptoBulk {H : Type} : DataW H → Nat
  | .lit (.string bytes) => bytes.length + 1
  | .lit _ => 1
  | .nil => 1
  | .ptr d => uptoBulk d + 1
  | .slice elems spare => uptoBulkAll elems + uptoBulkAll spare + 1
  | .agg parts => uptoBulkAll parts + 1
  | .iface _ d => uptoBulk d + 1
  | .map entries => uptoBulkEntries entries + 1
  | .held _ => 1
def uptoBulkAll {H : Type} : List (DataW H) → Nat
  | [] => 0
  | d :: r => uptoBulk d + uptoBulkAll r
def uptoBulkEntries {H : Type} : List (Lit × DataW H) → Nat
  | [] => 0
  | x :: r => uptoBulkEntry x + uptoBulkEntries r
def uptoBulkEntry {H : Type} : Lit × DataW H → Nat
  | (.string bytes, d) => bytes.length + uptoBulk d + 1
  | (_, d) => uptoBulk d + 1
 end
def uptoSmall : (H : Type) → List (DataW H) → Bool := fun _ ds => decide (uptoBulkAll ds ≤ 1048576)
def OpenSpec.upto (s : _root_.Go.ChangeSpec) : _root_.Go.OpenSpec := { _root_.Go.OpenSpec.ofChange s with cond := some uptoSmall }

/-- 'laws.FnExactLuckySteps', WHERE WHAT IT READS IS OF BULK AT MOST 1048576: true; the input reads as it did. -/
def fnExactLuckyStepsUptoRow : OpenClaim := { program := "ytnhlhfkpkpbekaa", sum := "34875304cefeea0ef6938ba0c1b45fc7edd6c5cfa05bd8f97b1ed6bb0cbac909", func := "loop.example/g01235/laws.FnExactLuckySteps", spec := "fnExactLuckySteps", apart := false, narrowed := true }
def FnExactLuckyStepsUptoSaid : Prop := fnExactLuckyStepsUptoRow.holds Try.pinned (OpenSpec.upto fnExactLuckyStepsSpec)

/-- 'laws.FnCountedAnewOfAll', WHERE WHAT IT READS IS OF BULK AT MOST 1048576: true; the input reads as it did. -/
def fnCountedAnewOfAllUptoRow : OpenClaim := { program := "ytnhlhfkpkpbekaa", sum := "34875304cefeea0ef6938ba0c1b45fc7edd6c5cfa05bd8f97b1ed6bb0cbac909", func := "loop.example/g01235/laws.FnCountedAnewOfAll", spec := "fnCountedAnewOfAll", unfollowed := true, recurses := true, apart := false, narrowed := true }
def FnCountedAnewOfAllUptoSaid : Prop := fnCountedAnewOfAllUptoRow.holds Try.pinned (OpenSpec.upto fnCountedAnewOfAllSpec)

/-- 'laws.FnLuckyNumbersOfAll', WHERE WHAT IT READS IS OF BULK AT MOST 1048576: true; the input reads as it did. -/
def fnLuckyNumbersOfAllUptoRow : OpenClaim := { program := "ytnhlhfkpkpbekaa", sum := "34875304cefeea0ef6938ba0c1b45fc7edd6c5cfa05bd8f97b1ed6bb0cbac909", func := "loop.example/g01235/laws.FnLuckyNumbersOfAll", spec := "fnLuckyNumbersOfAll", unfollowed := true, recurses := true, apart := false, narrowed := true }
def FnLuckyNumbersOfAllUptoSaid : Prop := fnLuckyNumbersOfAllUptoRow.holds Try.pinned (OpenSpec.upto fnLuckyNumbersOfAllSpec)

/-- 'laws.FnLuckyNumbers', WHERE WHAT IT READS IS OF BULK AT MOST 1048576: true; the input reads as it did. -/
def fnLuckyNumbersUptoRow : OpenClaim := { program := "ytnhlhfkpkpbekaa", sum := "34875304cefeea0ef6938ba0c1b45fc7edd6c5cfa05bd8f97b1ed6bb0cbac909", func := "loop.example/g01235/laws.FnLuckyNumbers", spec := "fnLuckyNumbers", unfollowed := true, recurses := true, apart := false, narrowed := true }
def FnLuckyNumbersUptoSaid : Prop := fnLuckyNumbersUptoRow.holds Try.pinned (OpenSpec.upto fnLuckyNumbersSpec)

end Rows
end Go.Proofs.Ytnhlhfkpkpbekaa
