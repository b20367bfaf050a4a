/-
  No cell of these rows narrows 'for every input' (looked for: loops, veiled, ifaces, maps, wideKeys, modest, calm, conditions, laid).
  DERIVED. THE GIVEN ROWS OF THIS SEAT. 5 by the template 'for every input the law returns true; each argument reads behind the call as it read before'; 0 by the template 'total and deterministic' (their statements: YtmopmjjendcneaaTotals.lean).
  GIVEN WITH THE SEED: the statements are not yours to turn. If you find one false, say at which input.
  Laid BY PROGRAM, IN A SANDBOX (cutbox-rows.mjs): the forced cells as the released guide's own fill.sh prints them over the translation f48efcfdaf3d1608… (all of the seat's roots in one cut). By AI agents, Wed Nov 11 2026. No macro, syntax, notation, axiom, sorry.
-/
import Derived.Test.YtmopmjjendcneaaChecked
import GoSem.Claim
import GoSem.ClaimJoined
import GoSem.ClaimMapViews
import Derived.JoinedTies
import Derived.KernelRfl
namespace Go.Proofs.Ytmopmjjendcneaa
/- THE CELL 'sum', in the pinned program and in every row, IS THE sha256 OF THE DUMP (.gsa) THAT YtmopmjjendcneaaProg.lean LOADS. Nothing in Lean hashes anything: it is a label: what it is worth is what the hold of that sum in a sandbox is worth. -/
noncomputable def Try.pinned : Pinned := { name := "ytmopmjjendcneaa", sum := "f48efcfdaf3d16083422c1e7cb3b9d6ab48b07e2fc463915beea4c8bcb018214", checked := Try.checked }
namespace Rows
def none {H : Type} : Left H := { results := [], args := [] }

/-- 'laws.FnExactPeriodOfRules': WHATEVER THE INPUT: true; the input reads as it did. -/
def fnExactPeriodOfRulesSpec : ChangeSpec := { name := "fnExactPeriodOfRules", fn := fun _ => fun
  | [d] => { results := [.lit (.bool true)], args := [d] }
  | _ => none }
def fnExactPeriodOfRulesRow : OpenClaim := { program := "ytmopmjjendcneaa", sum := "f48efcfdaf3d16083422c1e7cb3b9d6ab48b07e2fc463915beea4c8bcb018214", func := "loop.example/g01235/laws.FnExactPeriodOfRules", spec := "fnExactPeriodOfRules", unfollowed := true, recurses := true, apart := false }
def FnExactPeriodOfRulesSaid : Prop := fnExactPeriodOfRulesRow.holds Try.pinned (OpenSpec.ofChange fnExactPeriodOfRulesSpec)

/-- ITS FALSE NEIGHBOUR: 'it returns false'. Refute it at one input. -/
def fnExactPeriodOfRulesWrong : ChangeSpec := { name := "fnExactPeriodOfRules", fn := fun _ => fun
  | [d] => { results := [.lit (.bool false)], args := [d] }
  | _ => none }
def FnExactPeriodOfRulesWrongFalsely : Prop := fnExactPeriodOfRulesRow.holds Try.pinned (OpenSpec.ofChange fnExactPeriodOfRulesWrong)

/-- 'laws.FnExactAreSameSieve': WHATEVER THE INPUT: true; the input reads as it did. -/
def fnExactAreSameSieveSpec : ChangeSpec := { name := "fnExactAreSameSieve", fn := fun _ => fun
  | [d1, d2] => { results := [.lit (.bool true)], args := [d1, d2] }
  | _ => none }
def fnExactAreSameSieveRow : OpenClaim := { program := "ytmopmjjendcneaa", sum := "f48efcfdaf3d16083422c1e7cb3b9d6ab48b07e2fc463915beea4c8bcb018214", func := "loop.example/g01235/laws.FnExactAreSameSieve", spec := "fnExactAreSameSieve", unfollowed := true, recurses := true, apart := false }
def FnExactAreSameSieveSaid : Prop := fnExactAreSameSieveRow.holds Try.pinned (OpenSpec.ofChange fnExactAreSameSieveSpec)

/-- ITS FALSE NEIGHBOUR: 'it returns false'. Refute it at one input. -/
def fnExactAreSameSieveWrong : ChangeSpec := { name := "fnExactAreSameSieve", fn := fun _ => fun
  | [d1, d2] => { results := [.lit (.bool false)], args := [d1, d2] }
  | _ => none }
def FnExactAreSameSieveWrongFalsely : Prop := fnExactAreSameSieveRow.holds Try.pinned (OpenSpec.ofChange fnExactAreSameSieveWrong)

/-- 'laws.FnExactLeftInPeriod': WHATEVER THE INPUT: true; the input reads as it did. -/
def fnExactLeftInPeriodSpec : ChangeSpec := { name := "fnExactLeftInPeriod", fn := fun _ => fun
  | [d] => { results := [.lit (.bool true)], args := [d] }
  | _ => none }
def fnExactLeftInPeriodRow : OpenClaim := { program := "ytmopmjjendcneaa", sum := "f48efcfdaf3d16083422c1e7cb3b9d6ab48b07e2fc463915beea4c8bcb018214", func := "loop.example/g01235/laws.FnExactLeftInPeriod", spec := "fnExactLeftInPeriod", unfollowed := true, recurses := true, apart := false }
def FnExactLeftInPeriodSaid : Prop := fnExactLeftInPeriodRow.holds Try.pinned (OpenSpec.ofChange fnExactLeftInPeriodSpec)

/-- ITS FALSE NEIGHBOUR: 'it returns false'. Refute it at one input. -/
def fnExactLeftInPeriodWrong : ChangeSpec := { name := "fnExactLeftInPeriod", fn := fun _ => fun
  | [d] => { results := [.lit (.bool false)], args := [d] }
  | _ => none }
def FnExactLeftInPeriodWrongFalsely : Prop := fnExactLeftInPeriodRow.holds Try.pinned (OpenSpec.ofChange fnExactLeftInPeriodWrong)

/-- 'laws.FnExactDropNeedless': WHATEVER THE INPUT: true; the input reads as it did. -/
def fnExactDropNeedlessSpec : ChangeSpec := { name := "fnExactDropNeedless", fn := fun _ => fun
  | [d] => { results := [.lit (.bool true)], args := [d] }
  | _ => none }
def fnExactDropNeedlessRow : OpenClaim := { program := "ytmopmjjendcneaa", sum := "f48efcfdaf3d16083422c1e7cb3b9d6ab48b07e2fc463915beea4c8bcb018214", func := "loop.example/g01235/laws.FnExactDropNeedless", spec := "fnExactDropNeedless", unfollowed := true, recurses := true, apart := false }
def FnExactDropNeedlessSaid : Prop := fnExactDropNeedlessRow.holds Try.pinned (OpenSpec.ofChange fnExactDropNeedlessSpec)

/-- ITS FALSE NEIGHBOUR: 'it returns false'. Refute it at one input. -/
def fnExactDropNeedlessWrong : ChangeSpec := { name := "fnExactDropNeedless", fn := fun _ => fun
  | [d] => { results := [.lit (.bool false)], args := [d] }
  | _ => none }
def FnExactDropNeedlessWrongFalsely : Prop := fnExactDropNeedlessRow.holds Try.pinned (OpenSpec.ofChange fnExactDropNeedlessWrong)

/-- 'laws.FnExactNeedlessRules': WHATEVER THE INPUT: true; the input reads as it did. -/
def fnExactNeedlessRulesSpec : ChangeSpec := { name := "fnExactNeedlessRules", fn := fun _ => fun
  | [d] => { results := [.lit (.bool true)], args := [d] }
  | _ => none }
def fnExactNeedlessRulesRow : OpenClaim := { program := "ytmopmjjendcneaa", sum := "f48efcfdaf3d16083422c1e7cb3b9d6ab48b07e2fc463915beea4c8bcb018214", func := "loop.example/g01235/laws.FnExactNeedlessRules", spec := "fnExactNeedlessRules", unfollowed := true, recurses := true, apart := false }
def FnExactNeedlessRulesSaid : Prop := fnExactNeedlessRulesRow.holds Try.pinned (OpenSpec.ofChange fnExactNeedlessRulesSpec)

/-- ITS FALSE NEIGHBOUR: 'it returns false'. Refute it at one input. -/
def fnExactNeedlessRulesWrong : ChangeSpec := { name := "fnExactNeedlessRules", fn := fun _ => fun
  | [d] => { results := [.lit (.bool false)], args := [d] }
  | _ => none }
def FnExactNeedlessRulesWrongFalsely : Prop := fnExactNeedlessRulesRow.holds Try.pinned (OpenSpec.ofChange fnExactNeedlessRulesWrong)

/- THE SECOND FORM. 'bulk': how many values and letters a reading holds, each counted each time it is reached (what is shared counts as often as it is met; a slice's spare places count too). A statement '..UptoSaid' is the law's where the arguments, and the package variables that the reading takes, are together of bulk at most 1048576: NARROWER than '..Said'. Prove '..Said' where nothing that the law and all that it calls make is longer than what came in: it says more and counts as full. Else prove '..UptoSaid'. A law counts once. -/
mutual
def uptoBulk {H : Type} : DataW H → Nat
  | .lit (.string bytes) => bytes.length + 1
  | .lit _ => 1
  | .nil => 1
  | .ptr d => uptoBulk d + 1
  | .slice elems spare => uptoBulkAll elems + uptoBulkAll spare + 1
  | .agg parts => uptoBulkAll parts + 1
  | .iface _ d => uptoBulk d + 1
  | .map entries => uptoBulkEntries entries + 1
  | .held _ => 1
def uptoBulkAll {H : Type} : List (DataW H) → Nat
  | [] => 0
  | d :: r => uptoBulk d + uptoBulkAll r
def uptoBulkEntries {H : Type} : List (Lit × DataW H) → Nat
  | [] => 0
  | x :: r => uptoBulkEntry x + uptoBulkEntries r
def uptoBulkEntry {H : Type} : Lit × DataW H → Nat
  | (.string bytes, d) => bytes.length + uptoBulk d + 1
  | (_, d) => uptoBulk d + 1
 end
def uptoSmall : (H : Type) → List (DataW H) → Bool := fun _ ds => decide (uptoBulkAll ds ≤ 1048576)
def OpenSpec.upto (s : _root_.Go.ChangeSpec) : _root_.Go.OpenSpec := { _root_.Go.OpenSpec.ofChange s with cond := some uptoSmall }

/-- 'laws.FnExactPeriodOfRules', WHERE WHAT IT READS IS OF BULK AT MOST 1048576: true; the input reads as it did. -/
def fnExactPeriodOfRulesUptoRow : OpenClaim := { program := "ytmopmjjendcneaa", sum := "f48efcfdaf3d16083422c1e7cb3b9d6ab48b07e2fc463915beea4c8bcb018214", func := "loop.example/g01235/laws.FnExactPeriodOfRules", spec := "fnExactPeriodOfRules", unfollowed := true, recurses := true, apart := false, narrowed := true }
def FnExactPeriodOfRulesUptoSaid : Prop := fnExactPeriodOfRulesUptoRow.holds Try.pinned (OpenSpec.upto fnExactPeriodOfRulesSpec)

/-- 'laws.FnExactAreSameSieve', WHERE WHAT IT READS IS OF BULK AT MOST 1048576: true; the input reads as it did. -/
def fnExactAreSameSieveUptoRow : OpenClaim := { program := "ytmopmjjendcneaa", sum := "f48efcfdaf3d16083422c1e7cb3b9d6ab48b07e2fc463915beea4c8bcb018214", func := "loop.example/g01235/laws.FnExactAreSameSieve", spec := "fnExactAreSameSieve", unfollowed := true, recurses := true, apart := false, narrowed := true }
def FnExactAreSameSieveUptoSaid : Prop := fnExactAreSameSieveUptoRow.holds Try.pinned (OpenSpec.upto fnExactAreSameSieveSpec)

/-- 'laws.FnExactLeftInPeriod', WHERE WHAT IT READS IS OF BULK AT MOST 1048576: true; the input reads as it did. -/
def fnExactLeftInPeriodUptoRow : OpenClaim := { program := "ytmopmjjendcneaa", sum := "f48efcfdaf3d16083422c1e7cb3b9d6ab48b07e2fc463915beea4c8bcb018214", func := "loop.example/g01235/laws.FnExactLeftInPeriod", spec := "fnExactLeftInPeriod", unfollowed := true, recurses := true, apart := false, narrowed := true }
def FnExactLeftInPeriodUptoSaid : Prop := fnExactLeftInPeriodUptoRow.holds Try.pinned (OpenSpec.upto fnExactLeftInPeriodSpec)

/-- 'laws.FnExactDropNeedless', WHERE WHAT IT READS IS OF BULK AT MOST 1048576: true; the input reads as it did. -/
def fnExactDropNeedlessUptoRow : OpenClaim := { program := "ytmopmjjendcneaa", sum := "f48efcfdaf3d16083422c1e7cb3b9d6ab48b07e2fc463915beea4c8bcb018214", func := "loop.example/g01235/laws.FnExactDropNeedless", spec := "fnExactDropNeedless", unfollowed := true, recurses := true, apart := false, narrowed := true }
def FnExactDropNeedlessUptoSaid : Prop := fnExactDropNeedlessUptoRow.holds Try.pinned (OpenSpec.upto fnExactDropNeedlessSpec)

/-- 'laws.FnExactNeedlessRules', WHERE WHAT IT READS IS OF BULK AT MOST 1048576: true; the input reads as it did. -/
def fnExactNeedlessRulesUptoRow : OpenClaim := { program := "ytmopmjjendcneaa", sum := "f48efcfdaf3d16083422c1e7cb3b9d6ab48b07e2fc463915beea4c8bcb018214", func := "loop.example/g01235/laws.FnExactNeedlessRules", spec := "fnExactNeedlessRules", unfollowed := true, recurses := true, apart := false, narrowed := true }
def FnExactNeedlessRulesUptoSaid : Prop := fnExactNeedlessRulesUptoRow.holds Try.pinned (OpenSpec.upto fnExactNeedlessRulesSpec)

end Rows
end Go.Proofs.Ytmopmjjendcneaa
