/-
  No cell of these rows narrows 'for every input' (looked for: loops, veiled, ifaces, maps, wideKeys, modest, calm, conditions, laid).
  DERIVED. THE GIVEN ROWS OF THIS SEAT. 12 by the template 'for every input the law returns true; each argument reads behind the call as it read before'; 0 by the template 'total and deterministic' (their statements: YtdonfllhlhafpaaTotals.lean).
  GIVEN WITH THE SEED: the statements are not yours to turn. If you find one false, say at which input.
  Laid BY PROGRAM, IN A SANDBOX (cutbox-rows.mjs): the forced cells as the released guide's own fill.sh prints them over the translation 6c1f7fb5db43bc11… (all of the seat's roots in one cut). By AI agents, Wed Nov 11 2026. No macro, syntax, notation, axiom, sorry.
-/
import Derived.Test.YtdonfllhlhafpaaChecked
import GoSem.Claim
import GoSem.ClaimJoined
import GoSem.ClaimMapViews
import Derived.JoinedTies
import Derived.KernelRfl
namespace Go.Proofs.Ytdonfllhlhafpaa
/- THE CELL 'sum', in the pinned program and in every row, IS THE sha256 OF THE DUMP (.gsa) THAT YtdonfllhlhafpaaProg.lean LOADS. Nothing in Lean hashes anything: it is a label: what it is worth is what the hold of that sum in a sandbox is worth. -/
noncomputable def Try.pinned : Pinned := { name := "ytdonfllhlhafpaa", sum := "6c1f7fb5db43bc110e01eb4617659ae452c0422b0d0731637bdfc2a67f97b894", checked := Try.checked }
namespace Rows
def none {H : Type} : Left H := { results := [], args := [] }

/-- 'laws.FnExactConstants': WHATEVER THE INPUT: true; the input reads as it did. -/
def fnExactConstantsSpec : ChangeSpec := { name := "fnExactConstants", fn := fun _ => fun
  | [] => { results := [.lit (.bool true)], args := [] }
  | _ => none }
def fnExactConstantsRow : OpenClaim := { program := "ytdonfllhlhafpaa", sum := "6c1f7fb5db43bc110e01eb4617659ae452c0422b0d0731637bdfc2a67f97b894", func := "loop.example/g01235/laws.FnExactConstants", spec := "fnExactConstants", apart := false }
def FnExactConstantsSaid : Prop := fnExactConstantsRow.holds Try.pinned (OpenSpec.ofChange fnExactConstantsSpec)

/-- ITS FALSE NEIGHBOUR: 'it returns false'. Refute it at one input. -/
def fnExactConstantsWrong : ChangeSpec := { name := "fnExactConstants", fn := fun _ => fun
  | [] => { results := [.lit (.bool false)], args := [] }
  | _ => none }
def FnExactConstantsWrongFalsely : Prop := fnExactConstantsRow.holds Try.pinned (OpenSpec.ofChange fnExactConstantsWrong)

/-- 'laws.FnExactIsRule': WHATEVER THE INPUT: true; the input reads as it did. -/
def fnExactIsRuleSpec : ChangeSpec := { name := "fnExactIsRule", fn := fun _ => fun
  | [d] => { results := [.lit (.bool true)], args := [d] }
  | _ => none }
def fnExactIsRuleRow : OpenClaim := { program := "ytdonfllhlhafpaa", sum := "6c1f7fb5db43bc110e01eb4617659ae452c0422b0d0731637bdfc2a67f97b894", func := "loop.example/g01235/laws.FnExactIsRule", spec := "fnExactIsRule", apart := false }
def FnExactIsRuleSaid : Prop := fnExactIsRuleRow.holds Try.pinned (OpenSpec.ofChange fnExactIsRuleSpec)

/-- ITS FALSE NEIGHBOUR: 'it returns false'. Refute it at one input. -/
def fnExactIsRuleWrong : ChangeSpec := { name := "fnExactIsRule", fn := fun _ => fun
  | [d] => { results := [.lit (.bool false)], args := [d] }
  | _ => none }
def FnExactIsRuleWrongFalsely : Prop := fnExactIsRuleRow.holds Try.pinned (OpenSpec.ofChange fnExactIsRuleWrong)

/-- 'laws.FnExactLastOfCircle': WHATEVER THE INPUT: true; the input reads as it did. -/
def fnExactLastOfCircleSpec : ChangeSpec := { name := "fnExactLastOfCircle", fn := fun _ => fun
  | [d1, d2] => { results := [.lit (.bool true)], args := [d1, d2] }
  | _ => none }
def fnExactLastOfCircleRow : OpenClaim := { program := "ytdonfllhlhafpaa", sum := "6c1f7fb5db43bc110e01eb4617659ae452c0422b0d0731637bdfc2a67f97b894", func := "loop.example/g01235/laws.FnExactLastOfCircle", spec := "fnExactLastOfCircle", apart := false }
def FnExactLastOfCircleSaid : Prop := fnExactLastOfCircleRow.holds Try.pinned (OpenSpec.ofChange fnExactLastOfCircleSpec)

/-- ITS FALSE NEIGHBOUR: 'it returns false'. Refute it at one input. -/
def fnExactLastOfCircleWrong : ChangeSpec := { name := "fnExactLastOfCircle", fn := fun _ => fun
  | [d1, d2] => { results := [.lit (.bool false)], args := [d1, d2] }
  | _ => none }
def FnExactLastOfCircleWrongFalsely : Prop := fnExactLastOfCircleRow.holds Try.pinned (OpenSpec.ofChange fnExactLastOfCircleWrong)

/-- 'laws.FnExactRisingOfRank': WHATEVER THE INPUT: true; the input reads as it did. -/
def fnExactRisingOfRankSpec : ChangeSpec := { name := "fnExactRisingOfRank", fn := fun _ => fun
  | [d] => { results := [.lit (.bool true)], args := [d] }
  | _ => none }
def fnExactRisingOfRankRow : OpenClaim := { program := "ytdonfllhlhafpaa", sum := "6c1f7fb5db43bc110e01eb4617659ae452c0422b0d0731637bdfc2a67f97b894", func := "loop.example/g01235/laws.FnExactRisingOfRank", spec := "fnExactRisingOfRank", apart := false }
def FnExactRisingOfRankSaid : Prop := fnExactRisingOfRankRow.holds Try.pinned (OpenSpec.ofChange fnExactRisingOfRankSpec)

/-- ITS FALSE NEIGHBOUR: 'it returns false'. Refute it at one input. -/
def fnExactRisingOfRankWrong : ChangeSpec := { name := "fnExactRisingOfRank", fn := fun _ => fun
  | [d] => { results := [.lit (.bool false)], args := [d] }
  | _ => none }
def FnExactRisingOfRankWrongFalsely : Prop := fnExactRisingOfRankRow.holds Try.pinned (OpenSpec.ofChange fnExactRisingOfRankWrong)

/-- 'laws.FnExactLeastFactor': WHATEVER THE INPUT: true; the input reads as it did. -/
def fnExactLeastFactorSpec : ChangeSpec := { name := "fnExactLeastFactor", fn := fun _ => fun
  | [d] => { results := [.lit (.bool true)], args := [d] }
  | _ => none }
def fnExactLeastFactorRow : OpenClaim := { program := "ytdonfllhlhafpaa", sum := "6c1f7fb5db43bc110e01eb4617659ae452c0422b0d0731637bdfc2a67f97b894", func := "loop.example/g01235/laws.FnExactLeastFactor", spec := "fnExactLeastFactor", apart := false }
def FnExactLeastFactorSaid : Prop := fnExactLeastFactorRow.holds Try.pinned (OpenSpec.ofChange fnExactLeastFactorSpec)

/-- ITS FALSE NEIGHBOUR: 'it returns false'. Refute it at one input. -/
def fnExactLeastFactorWrong : ChangeSpec := { name := "fnExactLeastFactor", fn := fun _ => fun
  | [d] => { results := [.lit (.bool false)], args := [d] }
  | _ => none }
def FnExactLeastFactorWrongFalsely : Prop := fnExactLeastFactorRow.holds Try.pinned (OpenSpec.ofChange fnExactLeastFactorWrong)

/-- 'laws.FnExactIsPrime': WHATEVER THE INPUT: true; the input reads as it did. -/
def fnExactIsPrimeSpec : ChangeSpec := { name := "fnExactIsPrime", fn := fun _ => fun
  | [d] => { results := [.lit (.bool true)], args := [d] }
  | _ => none }
def fnExactIsPrimeRow : OpenClaim := { program := "ytdonfllhlhafpaa", sum := "6c1f7fb5db43bc110e01eb4617659ae452c0422b0d0731637bdfc2a67f97b894", func := "loop.example/g01235/laws.FnExactIsPrime", spec := "fnExactIsPrime", apart := false }
def FnExactIsPrimeSaid : Prop := fnExactIsPrimeRow.holds Try.pinned (OpenSpec.ofChange fnExactIsPrimeSpec)

/-- ITS FALSE NEIGHBOUR: 'it returns false'. Refute it at one input. -/
def fnExactIsPrimeWrong : ChangeSpec := { name := "fnExactIsPrime", fn := fun _ => fun
  | [d] => { results := [.lit (.bool false)], args := [d] }
  | _ => none }
def FnExactIsPrimeWrongFalsely : Prop := fnExactIsPrimeRow.holds Try.pinned (OpenSpec.ofChange fnExactIsPrimeWrong)

/-- 'laws.FnExactNextPrime': WHATEVER THE INPUT: true; the input reads as it did. -/
def fnExactNextPrimeSpec : ChangeSpec := { name := "fnExactNextPrime", fn := fun _ => fun
  | [d] => { results := [.lit (.bool true)], args := [d] }
  | _ => none }
def fnExactNextPrimeRow : OpenClaim := { program := "ytdonfllhlhafpaa", sum := "6c1f7fb5db43bc110e01eb4617659ae452c0422b0d0731637bdfc2a67f97b894", func := "loop.example/g01235/laws.FnExactNextPrime", spec := "fnExactNextPrime", apart := false }
def FnExactNextPrimeSaid : Prop := fnExactNextPrimeRow.holds Try.pinned (OpenSpec.ofChange fnExactNextPrimeSpec)

/-- ITS FALSE NEIGHBOUR: 'it returns false'. Refute it at one input. -/
def fnExactNextPrimeWrong : ChangeSpec := { name := "fnExactNextPrime", fn := fun _ => fun
  | [d] => { results := [.lit (.bool false)], args := [d] }
  | _ => none }
def FnExactNextPrimeWrongFalsely : Prop := fnExactNextPrimeRow.holds Try.pinned (OpenSpec.ofChange fnExactNextPrimeWrong)

/-- 'laws.FnExactPrimeOfRank': WHATEVER THE INPUT: true; the input reads as it did. -/
def fnExactPrimeOfRankSpec : ChangeSpec := { name := "fnExactPrimeOfRank", fn := fun _ => fun
  | [d] => { results := [.lit (.bool true)], args := [d] }
  | _ => none }
def fnExactPrimeOfRankRow : OpenClaim := { program := "ytdonfllhlhafpaa", sum := "6c1f7fb5db43bc110e01eb4617659ae452c0422b0d0731637bdfc2a67f97b894", func := "loop.example/g01235/laws.FnExactPrimeOfRank", spec := "fnExactPrimeOfRank", apart := false }
def FnExactPrimeOfRankSaid : Prop := fnExactPrimeOfRankRow.holds Try.pinned (OpenSpec.ofChange fnExactPrimeOfRankSpec)

/-- ITS FALSE NEIGHBOUR: 'it returns false'. Refute it at one input. -/
def fnExactPrimeOfRankWrong : ChangeSpec := { name := "fnExactPrimeOfRank", fn := fun _ => fun
  | [d] => { results := [.lit (.bool false)], args := [d] }
  | _ => none }
def FnExactPrimeOfRankWrongFalsely : Prop := fnExactPrimeOfRankRow.holds Try.pinned (OpenSpec.ofChange fnExactPrimeOfRankWrong)

/-- 'laws.FnExactCountPrimes': WHATEVER THE INPUT: true; the input reads as it did. -/
def fnExactCountPrimesSpec : ChangeSpec := { name := "fnExactCountPrimes", fn := fun _ => fun
  | [d] => { results := [.lit (.bool true)], args := [d] }
  | _ => none }
def fnExactCountPrimesRow : OpenClaim := { program := "ytdonfllhlhafpaa", sum := "6c1f7fb5db43bc110e01eb4617659ae452c0422b0d0731637bdfc2a67f97b894", func := "loop.example/g01235/laws.FnExactCountPrimes", spec := "fnExactCountPrimes", apart := false }
def FnExactCountPrimesSaid : Prop := fnExactCountPrimesRow.holds Try.pinned (OpenSpec.ofChange fnExactCountPrimesSpec)

/-- ITS FALSE NEIGHBOUR: 'it returns false'. Refute it at one input. -/
def fnExactCountPrimesWrong : ChangeSpec := { name := "fnExactCountPrimes", fn := fun _ => fun
  | [d] => { results := [.lit (.bool false)], args := [d] }
  | _ => none }
def FnExactCountPrimesWrongFalsely : Prop := fnExactCountPrimesRow.holds Try.pinned (OpenSpec.ofChange fnExactCountPrimesWrong)

/-- 'laws.FnExactCountTwoPrimes': WHATEVER THE INPUT: true; the input reads as it did. -/
def fnExactCountTwoPrimesSpec : ChangeSpec := { name := "fnExactCountTwoPrimes", fn := fun _ => fun
  | [d] => { results := [.lit (.bool true)], args := [d] }
  | _ => none }
def fnExactCountTwoPrimesRow : OpenClaim := { program := "ytdonfllhlhafpaa", sum := "6c1f7fb5db43bc110e01eb4617659ae452c0422b0d0731637bdfc2a67f97b894", func := "loop.example/g01235/laws.FnExactCountTwoPrimes", spec := "fnExactCountTwoPrimes", apart := false }
def FnExactCountTwoPrimesSaid : Prop := fnExactCountTwoPrimesRow.holds Try.pinned (OpenSpec.ofChange fnExactCountTwoPrimesSpec)

/-- ITS FALSE NEIGHBOUR: 'it returns false'. Refute it at one input. -/
def fnExactCountTwoPrimesWrong : ChangeSpec := { name := "fnExactCountTwoPrimes", fn := fun _ => fun
  | [d] => { results := [.lit (.bool false)], args := [d] }
  | _ => none }
def FnExactCountTwoPrimesWrongFalsely : Prop := fnExactCountTwoPrimesRow.holds Try.pinned (OpenSpec.ofChange fnExactCountTwoPrimesWrong)

/-- 'laws.FnExactFirstTwoPrimes': WHATEVER THE INPUT: true; the input reads as it did. -/
def fnExactFirstTwoPrimesSpec : ChangeSpec := { name := "fnExactFirstTwoPrimes", fn := fun _ => fun
  | [d] => { results := [.lit (.bool true)], args := [d] }
  | _ => none }
def fnExactFirstTwoPrimesRow : OpenClaim := { program := "ytdonfllhlhafpaa", sum := "6c1f7fb5db43bc110e01eb4617659ae452c0422b0d0731637bdfc2a67f97b894", func := "loop.example/g01235/laws.FnExactFirstTwoPrimes", spec := "fnExactFirstTwoPrimes", apart := false }
def FnExactFirstTwoPrimesSaid : Prop := fnExactFirstTwoPrimesRow.holds Try.pinned (OpenSpec.ofChange fnExactFirstTwoPrimesSpec)

/-- ITS FALSE NEIGHBOUR: 'it returns false'. Refute it at one input. -/
def fnExactFirstTwoPrimesWrong : ChangeSpec := { name := "fnExactFirstTwoPrimes", fn := fun _ => fun
  | [d] => { results := [.lit (.bool false)], args := [d] }
  | _ => none }
def FnExactFirstTwoPrimesWrongFalsely : Prop := fnExactFirstTwoPrimesRow.holds Try.pinned (OpenSpec.ofChange fnExactFirstTwoPrimesWrong)

/-- 'laws.FnExactIsSmooth': WHATEVER THE INPUT: true; the input reads as it did. -/
def fnExactIsSmoothSpec : ChangeSpec := { name := "fnExactIsSmooth", fn := fun _ => fun
  | [d1, d2] => { results := [.lit (.bool true)], args := [d1, d2] }
  | _ => none }
def fnExactIsSmoothRow : OpenClaim := { program := "ytdonfllhlhafpaa", sum := "6c1f7fb5db43bc110e01eb4617659ae452c0422b0d0731637bdfc2a67f97b894", func := "loop.example/g01235/laws.FnExactIsSmooth", spec := "fnExactIsSmooth", apart := false }
def FnExactIsSmoothSaid : Prop := fnExactIsSmoothRow.holds Try.pinned (OpenSpec.ofChange fnExactIsSmoothSpec)

/-- ITS FALSE NEIGHBOUR: 'it returns false'. Refute it at one input. -/
def fnExactIsSmoothWrong : ChangeSpec := { name := "fnExactIsSmooth", fn := fun _ => fun
  | [d1, d2] => { results := [.lit (.bool false)], args := [d1, d2] }
  | _ => none }
def FnExactIsSmoothWrongFalsely : Prop := fnExactIsSmoothRow.holds Try.pinned (OpenSpec.ofChange fnExactIsSmoothWrong)

/- THE SECOND FORM. 'bulk': how many values and letters a reading holds, each counted each time it is reached (what is shared counts as often as it is met; a slice's spare places count too). A statement '..UptoSaid' is the law's where the arguments, and the package variables that the reading takes, are together of bulk at most 1048576: NARROWER than '..Said'. Prove '..Said' where nothing that the law and all that it calls make is longer than what came in: it says more and counts as full. Else prove '..UptoSaid'. A law counts once. -/
mutual
def uptoBulk {H : Type} : DataW H → Nat
  | .lit (.string bytes) => bytes.length + 1
  | .lit _ => 1
  | .nil => 1
  | .ptr d => uptoBulk d + 1
  | .slice elems spare => uptoBulkAll elems + uptoBulkAll spare + 1
  | .agg parts => uptoBulkAll parts + 1
  | .iface _ d => uptoBulk d + 1
  | .map entries => uptoBulkEntries entries + 1
  | .held _ => 1
def uptoBulkAll {H : Type} : List (DataW H) → Nat
  | [] => 0
  | d :: r => uptoBulk d + uptoBulkAll r
def uptoBulkEntries {H : Type} : List (Lit × DataW H) → Nat
  | [] => 0
  | x :: r => uptoBulkEntry x + uptoBulkEntries r
def uptoBulkEntry {H : Type} : Lit × DataW H → Nat
  | (.string bytes, d) => bytes.length + uptoBulk d + 1
  | (_, d) => uptoBulk d + 1
 end
def uptoSmall : (H : Type) → List (DataW H) → Bool := fun _ ds => decide (uptoBulkAll ds ≤ 1048576)
def OpenSpec.upto (s : _root_.Go.ChangeSpec) : _root_.Go.OpenSpec := { _root_.Go.OpenSpec.ofChange s with cond := some uptoSmall }

/-- 'laws.FnExactConstants', WHERE WHAT IT READS IS OF BULK AT MOST 1048576: true; the input reads as it did. -/
def fnExactConstantsUptoRow : OpenClaim := { program := "ytdonfllhlhafpaa", sum := "6c1f7fb5db43bc110e01eb4617659ae452c0422b0d0731637bdfc2a67f97b894", func := "loop.example/g01235/laws.FnExactConstants", spec := "fnExactConstants", apart := false, narrowed := true }
def FnExactConstantsUptoSaid : Prop := fnExactConstantsUptoRow.holds Try.pinned (OpenSpec.upto fnExactConstantsSpec)

/-- 'laws.FnExactIsRule', WHERE WHAT IT READS IS OF BULK AT MOST 1048576: true; the input reads as it did. -/
def fnExactIsRuleUptoRow : OpenClaim := { program := "ytdonfllhlhafpaa", sum := "6c1f7fb5db43bc110e01eb4617659ae452c0422b0d0731637bdfc2a67f97b894", func := "loop.example/g01235/laws.FnExactIsRule", spec := "fnExactIsRule", apart := false, narrowed := true }
def FnExactIsRuleUptoSaid : Prop := fnExactIsRuleUptoRow.holds Try.pinned (OpenSpec.upto fnExactIsRuleSpec)

/-- 'laws.FnExactLastOfCircle', WHERE WHAT IT READS IS OF BULK AT MOST 1048576: true; the input reads as it did. -/
def fnExactLastOfCircleUptoRow : OpenClaim := { program := "ytdonfllhlhafpaa", sum := "6c1f7fb5db43bc110e01eb4617659ae452c0422b0d0731637bdfc2a67f97b894", func := "loop.example/g01235/laws.FnExactLastOfCircle", spec := "fnExactLastOfCircle", apart := false, narrowed := true }
def FnExactLastOfCircleUptoSaid : Prop := fnExactLastOfCircleUptoRow.holds Try.pinned (OpenSpec.upto fnExactLastOfCircleSpec)

/-- 'laws.FnExactRisingOfRank', WHERE WHAT IT READS IS OF BULK AT MOST 1048576: true; the input reads as it did. -/
def fnExactRisingOfRankUptoRow : OpenClaim := { program := "ytdonfllhlhafpaa", sum := "6c1f7fb5db43bc110e01eb4617659ae452c0422b0d0731637bdfc2a67f97b894", func := "loop.example/g01235/laws.FnExactRisingOfRank", spec := "fnExactRisingOfRank", apart := false, narrowed := true }
def FnExactRisingOfRankUptoSaid : Prop := fnExactRisingOfRankUptoRow.holds Try.pinned (OpenSpec.upto fnExactRisingOfRankSpec)

/-- 'laws.FnExactLeastFactor', WHERE WHAT IT READS IS OF BULK AT MOST 1048576: true; the input reads as it did. -/
def fnExactLeastFactorUptoRow : OpenClaim := { program := "ytdonfllhlhafpaa", sum := "6c1f7fb5db43bc110e01eb4617659ae452c0422b0d0731637bdfc2a67f97b894", func := "loop.example/g01235/laws.FnExactLeastFactor", spec := "fnExactLeastFactor", apart := false, narrowed := true }
def FnExactLeastFactorUptoSaid : Prop := fnExactLeastFactorUptoRow.holds Try.pinned (OpenSpec.upto fnExactLeastFactorSpec)

/-- 'laws.FnExactIsPrime', WHERE WHAT IT READS IS OF BULK AT MOST 1048576: true; the input reads as it did. -/
def fnExactIsPrimeUptoRow : OpenClaim := { program := "ytdonfllhlhafpaa", sum := "6c1f7fb5db43bc110e01eb4617659ae452c0422b0d0731637bdfc2a67f97b894", func := "loop.example/g01235/laws.FnExactIsPrime", spec := "fnExactIsPrime", apart := false, narrowed := true }
def FnExactIsPrimeUptoSaid : Prop := fnExactIsPrimeUptoRow.holds Try.pinned (OpenSpec.upto fnExactIsPrimeSpec)

/-- 'laws.FnExactNextPrime', WHERE WHAT IT READS IS OF BULK AT MOST 1048576: true; the input reads as it did. -/
def fnExactNextPrimeUptoRow : OpenClaim := { program := "ytdonfllhlhafpaa", sum := "6c1f7fb5db43bc110e01eb4617659ae452c0422b0d0731637bdfc2a67f97b894", func := "loop.example/g01235/laws.FnExactNextPrime", spec := "fnExactNextPrime", apart := false, narrowed := true }
def FnExactNextPrimeUptoSaid : Prop := fnExactNextPrimeUptoRow.holds Try.pinned (OpenSpec.upto fnExactNextPrimeSpec)

/-- 'laws.FnExactPrimeOfRank', WHERE WHAT IT READS IS OF BULK AT MOST 1048576: true; the input reads as it did. -/
def fnExactPrimeOfRankUptoRow : OpenClaim := { program := "ytdonfllhlhafpaa", sum := "6c1f7fb5db43bc110e01eb4617659ae452c0422b0d0731637bdfc2a67f97b894", func := "loop.example/g01235/laws.FnExactPrimeOfRank", spec := "fnExactPrimeOfRank", apart := false, narrowed := true }
def FnExactPrimeOfRankUptoSaid : Prop := fnExactPrimeOfRankUptoRow.holds Try.pinned (OpenSpec.upto fnExactPrimeOfRankSpec)

/-- 'laws.FnExactCountPrimes', WHERE WHAT IT READS IS OF BULK AT MOST 1048576: true; the input reads as it did. -/
def fnExactCountPrimesUptoRow : OpenClaim := { program := "ytdonfllhlhafpaa", sum := "6c1f7fb5db43bc110e01eb4617659ae452c0422b0d0731637bdfc2a67f97b894", func := "loop.example/g01235/laws.FnExactCountPrimes", spec := "fnExactCountPrimes", apart := false, narrowed := true }
def FnExactCountPrimesUptoSaid : Prop := fnExactCountPrimesUptoRow.holds Try.pinned (OpenSpec.upto fnExactCountPrimesSpec)

/-- 'laws.FnExactCountTwoPrimes', WHERE WHAT IT READS IS OF BULK AT MOST 1048576: true; the input reads as it did. -/
def fnExactCountTwoPrimesUptoRow : OpenClaim := { program := "ytdonfllhlhafpaa", sum := "6c1f7fb5db43bc110e01eb4617659ae452c0422b0d0731637bdfc2a67f97b894", func := "loop.example/g01235/laws.FnExactCountTwoPrimes", spec := "fnExactCountTwoPrimes", apart := false, narrowed := true }
def FnExactCountTwoPrimesUptoSaid : Prop := fnExactCountTwoPrimesUptoRow.holds Try.pinned (OpenSpec.upto fnExactCountTwoPrimesSpec)

/-- 'laws.FnExactFirstTwoPrimes', WHERE WHAT IT READS IS OF BULK AT MOST 1048576: true; the input reads as it did. -/
def fnExactFirstTwoPrimesUptoRow : OpenClaim := { program := "ytdonfllhlhafpaa", sum := "6c1f7fb5db43bc110e01eb4617659ae452c0422b0d0731637bdfc2a67f97b894", func := "loop.example/g01235/laws.FnExactFirstTwoPrimes", spec := "fnExactFirstTwoPrimes", apart := false, narrowed := true }
def FnExactFirstTwoPrimesUptoSaid : Prop := fnExactFirstTwoPrimesUptoRow.holds Try.pinned (OpenSpec.upto fnExactFirstTwoPrimesSpec)

/-- 'laws.FnExactIsSmooth', WHERE WHAT IT READS IS OF BULK AT MOST 1048576: true; the input reads as it did. -/
def fnExactIsSmoothUptoRow : OpenClaim := { program := "ytdonfllhlhafpaa", sum := "6c1f7fb5db43bc110e01eb4617659ae452c0422b0d0731637bdfc2a67f97b894", func := "loop.example/g01235/laws.FnExactIsSmooth", spec := "fnExactIsSmooth", apart := false, narrowed := true }
def FnExactIsSmoothUptoSaid : Prop := fnExactIsSmoothUptoRow.holds Try.pinned (OpenSpec.upto fnExactIsSmoothSpec)

end Rows
end Go.Proofs.Ytdonfllhlhafpaa
