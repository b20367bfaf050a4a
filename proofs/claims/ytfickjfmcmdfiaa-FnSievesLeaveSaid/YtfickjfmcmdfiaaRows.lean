/-
  No cell of these rows narrows 'for every input' (looked for: loops, veiled, ifaces, maps, wideKeys, modest, calm, conditions, laid).
  DERIVED. THE GIVEN ROWS OF THIS SEAT. 12 by the template 'for every input the law returns true; each argument reads behind the call as it read before'; 0 by the template 'total and deterministic' (their statements: YtfickjfmcmdfiaaTotals.lean).
  GIVEN WITH THE SEED: the statements are not yours to turn. If you find one false, say at which input.
  Laid BY PROGRAM, IN A SANDBOX (cutbox-rows.mjs): the forced cells as the released guide's own fill.sh prints them over the translation 4e8fcd810a6a3834… (all of the seat's roots in one cut). By AI agents, Wed Nov 11 2026. No macro, syntax, notation, axiom, sorry.
-/
import Derived.Test.YtfickjfmcmdfiaaChecked
import GoSem.Claim
import GoSem.ClaimJoined
import GoSem.ClaimMapViews
import Derived.JoinedTies
import Derived.KernelRfl
namespace Go.Proofs.Ytfickjfmcmdfiaa
/- THE CELL 'sum', in the pinned program and in every row, IS THE sha256 OF THE DUMP (.gsa) THAT YtfickjfmcmdfiaaProg.lean LOADS. Nothing in Lean hashes anything: it is a label: what it is worth is what the hold of that sum in a sandbox is worth. -/
noncomputable def Try.pinned : Pinned := { name := "ytfickjfmcmdfiaa", sum := "4e8fcd810a6a3834bcc0fe4ef8f76e8d5263c17e64db320f2d0b32241b7ec5ce", checked := Try.checked }
namespace Rows
def none {H : Type} : Left H := { results := [], args := [] }

/-- 'laws.FnExactAreRules': WHATEVER THE INPUT: true; the input reads as it did. -/
def fnExactAreRulesSpec : ChangeSpec := { name := "fnExactAreRules", fn := fun _ => fun
  | [d] => { results := [.lit (.bool true)], args := [d] }
  | _ => none }
def fnExactAreRulesRow : OpenClaim := { program := "ytfickjfmcmdfiaa", sum := "4e8fcd810a6a3834bcc0fe4ef8f76e8d5263c17e64db320f2d0b32241b7ec5ce", func := "loop.example/g01235/laws.FnExactAreRules", spec := "fnExactAreRules", unfollowed := true, recurses := true, apart := false }
def FnExactAreRulesSaid : Prop := fnExactAreRulesRow.holds Try.pinned (OpenSpec.ofChange fnExactAreRulesSpec)

/-- ITS FALSE NEIGHBOUR: 'it returns false'. Refute it at one input. -/
def fnExactAreRulesWrong : ChangeSpec := { name := "fnExactAreRules", fn := fun _ => fun
  | [d] => { results := [.lit (.bool false)], args := [d] }
  | _ => none }
def FnExactAreRulesWrongFalsely : Prop := fnExactAreRulesRow.holds Try.pinned (OpenSpec.ofChange fnExactAreRulesWrong)

/-- 'laws.FnExactFirstRule': WHATEVER THE INPUT: true; the input reads as it did. -/
def fnExactFirstRuleSpec : ChangeSpec := { name := "fnExactFirstRule", fn := fun _ => fun
  | [d1, d2] => { results := [.lit (.bool true)], args := [d1, d2] }
  | _ => none }
def fnExactFirstRuleRow : OpenClaim := { program := "ytfickjfmcmdfiaa", sum := "4e8fcd810a6a3834bcc0fe4ef8f76e8d5263c17e64db320f2d0b32241b7ec5ce", func := "loop.example/g01235/laws.FnExactFirstRule", spec := "fnExactFirstRule", unfollowed := true, recurses := true, apart := false }
def FnExactFirstRuleSaid : Prop := fnExactFirstRuleRow.holds Try.pinned (OpenSpec.ofChange fnExactFirstRuleSpec)

/-- ITS FALSE NEIGHBOUR: 'it returns false'. Refute it at one input. -/
def fnExactFirstRuleWrong : ChangeSpec := { name := "fnExactFirstRule", fn := fun _ => fun
  | [d1, d2] => { results := [.lit (.bool false)], args := [d1, d2] }
  | _ => none }
def FnExactFirstRuleWrongFalsely : Prop := fnExactFirstRuleRow.holds Try.pinned (OpenSpec.ofChange fnExactFirstRuleWrong)

/-- 'laws.FnExactIsLeft': WHATEVER THE INPUT: true; the input reads as it did. -/
def fnExactIsLeftSpec : ChangeSpec := { name := "fnExactIsLeft", fn := fun _ => fun
  | [d1, d2] => { results := [.lit (.bool true)], args := [d1, d2] }
  | _ => none }
def fnExactIsLeftRow : OpenClaim := { program := "ytfickjfmcmdfiaa", sum := "4e8fcd810a6a3834bcc0fe4ef8f76e8d5263c17e64db320f2d0b32241b7ec5ce", func := "loop.example/g01235/laws.FnExactIsLeft", spec := "fnExactIsLeft", unfollowed := true, recurses := true, apart := false }
def FnExactIsLeftSaid : Prop := fnExactIsLeftRow.holds Try.pinned (OpenSpec.ofChange fnExactIsLeftSpec)

/-- ITS FALSE NEIGHBOUR: 'it returns false'. Refute it at one input. -/
def fnExactIsLeftWrong : ChangeSpec := { name := "fnExactIsLeft", fn := fun _ => fun
  | [d1, d2] => { results := [.lit (.bool false)], args := [d1, d2] }
  | _ => none }
def FnExactIsLeftWrongFalsely : Prop := fnExactIsLeftRow.holds Try.pinned (OpenSpec.ofChange fnExactIsLeftWrong)

/-- 'laws.FnExactNextLeft': WHATEVER THE INPUT: true; the input reads as it did. -/
def fnExactNextLeftSpec : ChangeSpec := { name := "fnExactNextLeft", fn := fun _ => fun
  | [d1, d2] => { results := [.lit (.bool true)], args := [d1, d2] }
  | _ => none }
def fnExactNextLeftRow : OpenClaim := { program := "ytfickjfmcmdfiaa", sum := "4e8fcd810a6a3834bcc0fe4ef8f76e8d5263c17e64db320f2d0b32241b7ec5ce", func := "loop.example/g01235/laws.FnExactNextLeft", spec := "fnExactNextLeft", unfollowed := true, recurses := true, apart := false }
def FnExactNextLeftSaid : Prop := fnExactNextLeftRow.holds Try.pinned (OpenSpec.ofChange fnExactNextLeftSpec)

/-- ITS FALSE NEIGHBOUR: 'it returns false'. Refute it at one input. -/
def fnExactNextLeftWrong : ChangeSpec := { name := "fnExactNextLeft", fn := fun _ => fun
  | [d1, d2] => { results := [.lit (.bool false)], args := [d1, d2] }
  | _ => none }
def FnExactNextLeftWrongFalsely : Prop := fnExactNextLeftRow.holds Try.pinned (OpenSpec.ofChange fnExactNextLeftWrong)

/-- 'laws.FnExactMirrorRules': WHATEVER THE INPUT: true; the input reads as it did. -/
def fnExactMirrorRulesSpec : ChangeSpec := { name := "fnExactMirrorRules", fn := fun _ => fun
  | [d] => { results := [.lit (.bool true)], args := [d] }
  | _ => none }
def fnExactMirrorRulesRow : OpenClaim := { program := "ytfickjfmcmdfiaa", sum := "4e8fcd810a6a3834bcc0fe4ef8f76e8d5263c17e64db320f2d0b32241b7ec5ce", func := "loop.example/g01235/laws.FnExactMirrorRules", spec := "fnExactMirrorRules", unfollowed := true, recurses := true, apart := false }
def FnExactMirrorRulesSaid : Prop := fnExactMirrorRulesRow.holds Try.pinned (OpenSpec.ofChange fnExactMirrorRulesSpec)

/-- ITS FALSE NEIGHBOUR: 'it returns false'. Refute it at one input. -/
def fnExactMirrorRulesWrong : ChangeSpec := { name := "fnExactMirrorRules", fn := fun _ => fun
  | [d] => { results := [.lit (.bool false)], args := [d] }
  | _ => none }
def FnExactMirrorRulesWrongFalsely : Prop := fnExactMirrorRulesRow.holds Try.pinned (OpenSpec.ofChange fnExactMirrorRulesWrong)

/-- 'laws.FnExactMoveRules': WHATEVER THE INPUT: true; the input reads as it did. -/
def fnExactMoveRulesSpec : ChangeSpec := { name := "fnExactMoveRules", fn := fun _ => fun
  | [d1, d2] => { results := [.lit (.bool true)], args := [d1, d2] }
  | _ => none }
def fnExactMoveRulesRow : OpenClaim := { program := "ytfickjfmcmdfiaa", sum := "4e8fcd810a6a3834bcc0fe4ef8f76e8d5263c17e64db320f2d0b32241b7ec5ce", func := "loop.example/g01235/laws.FnExactMoveRules", spec := "fnExactMoveRules", unfollowed := true, recurses := true, apart := false }
def FnExactMoveRulesSaid : Prop := fnExactMoveRulesRow.holds Try.pinned (OpenSpec.ofChange fnExactMoveRulesSpec)

/-- ITS FALSE NEIGHBOUR: 'it returns false'. Refute it at one input. -/
def fnExactMoveRulesWrong : ChangeSpec := { name := "fnExactMoveRules", fn := fun _ => fun
  | [d1, d2] => { results := [.lit (.bool false)], args := [d1, d2] }
  | _ => none }
def FnExactMoveRulesWrongFalsely : Prop := fnExactMoveRulesRow.holds Try.pinned (OpenSpec.ofChange fnExactMoveRulesWrong)

/-- 'laws.FnExactCountBetween': WHATEVER THE INPUT: true; the input reads as it did. -/
def fnExactCountBetweenSpec : ChangeSpec := { name := "fnExactCountBetween", fn := fun _ => fun
  | [d1, d2, d3] => { results := [.lit (.bool true)], args := [d1, d2, d3] }
  | _ => none }
def fnExactCountBetweenRow : OpenClaim := { program := "ytfickjfmcmdfiaa", sum := "4e8fcd810a6a3834bcc0fe4ef8f76e8d5263c17e64db320f2d0b32241b7ec5ce", func := "loop.example/g01235/laws.FnExactCountBetween", spec := "fnExactCountBetween", unfollowed := true, recurses := true, apart := false }
def FnExactCountBetweenSaid : Prop := fnExactCountBetweenRow.holds Try.pinned (OpenSpec.ofChange fnExactCountBetweenSpec)

/-- ITS FALSE NEIGHBOUR: 'it returns false'. Refute it at one input. -/
def fnExactCountBetweenWrong : ChangeSpec := { name := "fnExactCountBetween", fn := fun _ => fun
  | [d1, d2, d3] => { results := [.lit (.bool false)], args := [d1, d2, d3] }
  | _ => none }
def FnExactCountBetweenWrongFalsely : Prop := fnExactCountBetweenRow.holds Try.pinned (OpenSpec.ofChange fnExactCountBetweenWrong)

/-- 'laws.FnExactCountLeft': WHATEVER THE INPUT: true; the input reads as it did. -/
def fnExactCountLeftSpec : ChangeSpec := { name := "fnExactCountLeft", fn := fun _ => fun
  | [d1, d2] => { results := [.lit (.bool true)], args := [d1, d2] }
  | _ => none }
def fnExactCountLeftRow : OpenClaim := { program := "ytfickjfmcmdfiaa", sum := "4e8fcd810a6a3834bcc0fe4ef8f76e8d5263c17e64db320f2d0b32241b7ec5ce", func := "loop.example/g01235/laws.FnExactCountLeft", spec := "fnExactCountLeft", unfollowed := true, recurses := true, apart := false }
def FnExactCountLeftSaid : Prop := fnExactCountLeftRow.holds Try.pinned (OpenSpec.ofChange fnExactCountLeftSpec)

/-- ITS FALSE NEIGHBOUR: 'it returns false'. Refute it at one input. -/
def fnExactCountLeftWrong : ChangeSpec := { name := "fnExactCountLeft", fn := fun _ => fun
  | [d1, d2] => { results := [.lit (.bool false)], args := [d1, d2] }
  | _ => none }
def FnExactCountLeftWrongFalsely : Prop := fnExactCountLeftRow.holds Try.pinned (OpenSpec.ofChange fnExactCountLeftWrong)

/-- 'laws.FnExactLeftOfRank': WHATEVER THE INPUT: true; the input reads as it did. -/
def fnExactLeftOfRankSpec : ChangeSpec := { name := "fnExactLeftOfRank", fn := fun _ => fun
  | [d1, d2] => { results := [.lit (.bool true)], args := [d1, d2] }
  | _ => none }
def fnExactLeftOfRankRow : OpenClaim := { program := "ytfickjfmcmdfiaa", sum := "4e8fcd810a6a3834bcc0fe4ef8f76e8d5263c17e64db320f2d0b32241b7ec5ce", func := "loop.example/g01235/laws.FnExactLeftOfRank", spec := "fnExactLeftOfRank", unfollowed := true, recurses := true, apart := false }
def FnExactLeftOfRankSaid : Prop := fnExactLeftOfRankRow.holds Try.pinned (OpenSpec.ofChange fnExactLeftOfRankSpec)

/-- ITS FALSE NEIGHBOUR: 'it returns false'. Refute it at one input. -/
def fnExactLeftOfRankWrong : ChangeSpec := { name := "fnExactLeftOfRank", fn := fun _ => fun
  | [d1, d2] => { results := [.lit (.bool false)], args := [d1, d2] }
  | _ => none }
def FnExactLeftOfRankWrongFalsely : Prop := fnExactLeftOfRankRow.holds Try.pinned (OpenSpec.ofChange fnExactLeftOfRankWrong)

/-- 'laws.FnExactCrossedBy': WHATEVER THE INPUT: true; the input reads as it did. -/
def fnExactCrossedBySpec : ChangeSpec := { name := "fnExactCrossedBy", fn := fun _ => fun
  | [d1, d2, d3] => { results := [.lit (.bool true)], args := [d1, d2, d3] }
  | _ => none }
def fnExactCrossedByRow : OpenClaim := { program := "ytfickjfmcmdfiaa", sum := "4e8fcd810a6a3834bcc0fe4ef8f76e8d5263c17e64db320f2d0b32241b7ec5ce", func := "loop.example/g01235/laws.FnExactCrossedBy", spec := "fnExactCrossedBy", unfollowed := true, recurses := true, apart := false }
def FnExactCrossedBySaid : Prop := fnExactCrossedByRow.holds Try.pinned (OpenSpec.ofChange fnExactCrossedBySpec)

/-- ITS FALSE NEIGHBOUR: 'it returns false'. Refute it at one input. -/
def fnExactCrossedByWrong : ChangeSpec := { name := "fnExactCrossedBy", fn := fun _ => fun
  | [d1, d2, d3] => { results := [.lit (.bool false)], args := [d1, d2, d3] }
  | _ => none }
def FnExactCrossedByWrongFalsely : Prop := fnExactCrossedByRow.holds Try.pinned (OpenSpec.ofChange fnExactCrossedByWrong)

/-- 'laws.FnExactLeftUpTo': WHATEVER THE INPUT: true; the input reads as it did. -/
def fnExactLeftUpToSpec : ChangeSpec := { name := "fnExactLeftUpTo", fn := fun _ => fun
  | [d1, d2] => { results := [.lit (.bool true)], args := [d1, d2] }
  | _ => none }
def fnExactLeftUpToRow : OpenClaim := { program := "ytfickjfmcmdfiaa", sum := "4e8fcd810a6a3834bcc0fe4ef8f76e8d5263c17e64db320f2d0b32241b7ec5ce", func := "loop.example/g01235/laws.FnExactLeftUpTo", spec := "fnExactLeftUpTo", unfollowed := true, recurses := true, apart := false }
def FnExactLeftUpToSaid : Prop := fnExactLeftUpToRow.holds Try.pinned (OpenSpec.ofChange fnExactLeftUpToSpec)

/-- ITS FALSE NEIGHBOUR: 'it returns false'. Refute it at one input. -/
def fnExactLeftUpToWrong : ChangeSpec := { name := "fnExactLeftUpTo", fn := fun _ => fun
  | [d1, d2] => { results := [.lit (.bool false)], args := [d1, d2] }
  | _ => none }
def FnExactLeftUpToWrongFalsely : Prop := fnExactLeftUpToRow.holds Try.pinned (OpenSpec.ofChange fnExactLeftUpToWrong)

/-- 'laws.FnSievesLeave': WHATEVER THE INPUT: true; the input reads as it did. -/
def fnSievesLeaveSpec : ChangeSpec := { name := "fnSievesLeave", fn := fun _ => fun
  | [d1, d2] => { results := [.lit (.bool true)], args := [d1, d2] }
  | _ => none }
def fnSievesLeaveRow : OpenClaim := { program := "ytfickjfmcmdfiaa", sum := "4e8fcd810a6a3834bcc0fe4ef8f76e8d5263c17e64db320f2d0b32241b7ec5ce", func := "loop.example/g01235/laws.FnSievesLeave", spec := "fnSievesLeave", unfollowed := true, recurses := true, apart := false }
def FnSievesLeaveSaid : Prop := fnSievesLeaveRow.holds Try.pinned (OpenSpec.ofChange fnSievesLeaveSpec)

/-- ITS FALSE NEIGHBOUR: 'it returns false'. Refute it at one input. -/
def fnSievesLeaveWrong : ChangeSpec := { name := "fnSievesLeave", fn := fun _ => fun
  | [d1, d2] => { results := [.lit (.bool false)], args := [d1, d2] }
  | _ => none }
def FnSievesLeaveWrongFalsely : Prop := fnSievesLeaveRow.holds Try.pinned (OpenSpec.ofChange fnSievesLeaveWrong)

/- THE SECOND FORM. 'bulk': how many values and letters a reading holds, each counted each time it is reached (what is shared counts as often as it is met; a slice's spare places count too). A statement '..UptoSaid' is the law's where the arguments, and the package variables that the reading takes, are together of bulk at most 1048576: NARROWER than '..Said'. Prove '..Said' where nothing that the law and all that it calls make is longer than what came in: it says more and counts as full. Else prove '..UptoSaid'. A law counts once. -/
mutual
def uptoBulk {H : Type} : DataW H → Nat
  | .lit (.string bytes) => bytes.length + 1
  | .lit _ => 1
  | .nil => 1
  | .ptr d => uptoBulk d + 1
  | .slice elems spare => uptoBulkAll elems + uptoBulkAll spare + 1
  | .agg parts => uptoBulkAll parts + 1
  | .iface _ d => uptoBulk d + 1
  | .map entries => uptoBulkEntries entries + 1
  | .held _ => 1
def uptoBulkAll {H : Type} : List (DataW H) → Nat
  | [] => 0
  | d :: r => uptoBulk d + uptoBulkAll r
def uptoBulkEntries {H : Type} : List (Lit × DataW H) → Nat
  | [] => 0
  | x :: r => uptoBulkEntry x + uptoBulkEntries r
def uptoBulkEntry {H : Type} : Lit × DataW H → Nat
  | (.string bytes, d) => bytes.length + uptoBulk d + 1
  | (_, d) => uptoBulk d + 1
 end
def uptoSmall : (H : Type) → List (DataW H) → Bool := fun _ ds => decide (uptoBulkAll ds ≤ 1048576)
def OpenSpec.upto (s : _root_.Go.ChangeSpec) : _root_.Go.OpenSpec := { _root_.Go.OpenSpec.ofChange s with cond := some uptoSmall }

/-- 'laws.FnExactAreRules', WHERE WHAT IT READS IS OF BULK AT MOST 1048576: true; the input reads as it did. -/
def fnExactAreRulesUptoRow : OpenClaim := { program := "ytfickjfmcmdfiaa", sum := "4e8fcd810a6a3834bcc0fe4ef8f76e8d5263c17e64db320f2d0b32241b7ec5ce", func := "loop.example/g01235/laws.FnExactAreRules", spec := "fnExactAreRules", unfollowed := true, recurses := true, apart := false, narrowed := true }
def FnExactAreRulesUptoSaid : Prop := fnExactAreRulesUptoRow.holds Try.pinned (OpenSpec.upto fnExactAreRulesSpec)

/-- 'laws.FnExactFirstRule', WHERE WHAT IT READS IS OF BULK AT MOST 1048576: true; the input reads as it did. -/
def fnExactFirstRuleUptoRow : OpenClaim := { program := "ytfickjfmcmdfiaa", sum := "4e8fcd810a6a3834bcc0fe4ef8f76e8d5263c17e64db320f2d0b32241b7ec5ce", func := "loop.example/g01235/laws.FnExactFirstRule", spec := "fnExactFirstRule", unfollowed := true, recurses := true, apart := false, narrowed := true }
def FnExactFirstRuleUptoSaid : Prop := fnExactFirstRuleUptoRow.holds Try.pinned (OpenSpec.upto fnExactFirstRuleSpec)

/-- 'laws.FnExactIsLeft', WHERE WHAT IT READS IS OF BULK AT MOST 1048576: true; the input reads as it did. -/
def fnExactIsLeftUptoRow : OpenClaim := { program := "ytfickjfmcmdfiaa", sum := "4e8fcd810a6a3834bcc0fe4ef8f76e8d5263c17e64db320f2d0b32241b7ec5ce", func := "loop.example/g01235/laws.FnExactIsLeft", spec := "fnExactIsLeft", unfollowed := true, recurses := true, apart := false, narrowed := true }
def FnExactIsLeftUptoSaid : Prop := fnExactIsLeftUptoRow.holds Try.pinned (OpenSpec.upto fnExactIsLeftSpec)

/-- 'laws.FnExactNextLeft', WHERE WHAT IT READS IS OF BULK AT MOST 1048576: true; the input reads as it did. -/
def fnExactNextLeftUptoRow : OpenClaim := { program := "ytfickjfmcmdfiaa", sum := "4e8fcd810a6a3834bcc0fe4ef8f76e8d5263c17e64db320f2d0b32241b7ec5ce", func := "loop.example/g01235/laws.FnExactNextLeft", spec := "fnExactNextLeft", unfollowed := true, recurses := true, apart := false, narrowed := true }
def FnExactNextLeftUptoSaid : Prop := fnExactNextLeftUptoRow.holds Try.pinned (OpenSpec.upto fnExactNextLeftSpec)

/-- 'laws.FnExactMirrorRules', WHERE WHAT IT READS IS OF BULK AT MOST 1048576: true; the input reads as it did. -/
def fnExactMirrorRulesUptoRow : OpenClaim := { program := "ytfickjfmcmdfiaa", sum := "4e8fcd810a6a3834bcc0fe4ef8f76e8d5263c17e64db320f2d0b32241b7ec5ce", func := "loop.example/g01235/laws.FnExactMirrorRules", spec := "fnExactMirrorRules", unfollowed := true, recurses := true, apart := false, narrowed := true }
def FnExactMirrorRulesUptoSaid : Prop := fnExactMirrorRulesUptoRow.holds Try.pinned (OpenSpec.upto fnExactMirrorRulesSpec)

/-- 'laws.FnExactMoveRules', WHERE WHAT IT READS IS OF BULK AT MOST 1048576: true; the input reads as it did. -/
def fnExactMoveRulesUptoRow : OpenClaim := { program := "ytfickjfmcmdfiaa", sum := "4e8fcd810a6a3834bcc0fe4ef8f76e8d5263c17e64db320f2d0b32241b7ec5ce", func := "loop.example/g01235/laws.FnExactMoveRules", spec := "fnExactMoveRules", unfollowed := true, recurses := true, apart := false, narrowed := true }
def FnExactMoveRulesUptoSaid : Prop := fnExactMoveRulesUptoRow.holds Try.pinned (OpenSpec.upto fnExactMoveRulesSpec)

/-- 'laws.FnExactCountBetween', WHERE WHAT IT READS IS OF BULK AT MOST 1048576: true; the input reads as it did. -/
def fnExactCountBetweenUptoRow : OpenClaim := { program := "ytfickjfmcmdfiaa", sum := "4e8fcd810a6a3834bcc0fe4ef8f76e8d5263c17e64db320f2d0b32241b7ec5ce", func := "loop.example/g01235/laws.FnExactCountBetween", spec := "fnExactCountBetween", unfollowed := true, recurses := true, apart := false, narrowed := true }
def FnExactCountBetweenUptoSaid : Prop := fnExactCountBetweenUptoRow.holds Try.pinned (OpenSpec.upto fnExactCountBetweenSpec)

/-- 'laws.FnExactCountLeft', WHERE WHAT IT READS IS OF BULK AT MOST 1048576: true; the input reads as it did. -/
def fnExactCountLeftUptoRow : OpenClaim := { program := "ytfickjfmcmdfiaa", sum := "4e8fcd810a6a3834bcc0fe4ef8f76e8d5263c17e64db320f2d0b32241b7ec5ce", func := "loop.example/g01235/laws.FnExactCountLeft", spec := "fnExactCountLeft", unfollowed := true, recurses := true, apart := false, narrowed := true }
def FnExactCountLeftUptoSaid : Prop := fnExactCountLeftUptoRow.holds Try.pinned (OpenSpec.upto fnExactCountLeftSpec)

/-- 'laws.FnExactLeftOfRank', WHERE WHAT IT READS IS OF BULK AT MOST 1048576: true; the input reads as it did. -/
def fnExactLeftOfRankUptoRow : OpenClaim := { program := "ytfickjfmcmdfiaa", sum := "4e8fcd810a6a3834bcc0fe4ef8f76e8d5263c17e64db320f2d0b32241b7ec5ce", func := "loop.example/g01235/laws.FnExactLeftOfRank", spec := "fnExactLeftOfRank", unfollowed := true, recurses := true, apart := false, narrowed := true }
def FnExactLeftOfRankUptoSaid : Prop := fnExactLeftOfRankUptoRow.holds Try.pinned (OpenSpec.upto fnExactLeftOfRankSpec)

/-- 'laws.FnExactCrossedBy', WHERE WHAT IT READS IS OF BULK AT MOST 1048576: true; the input reads as it did. -/
def fnExactCrossedByUptoRow : OpenClaim := { program := "ytfickjfmcmdfiaa", sum := "4e8fcd810a6a3834bcc0fe4ef8f76e8d5263c17e64db320f2d0b32241b7ec5ce", func := "loop.example/g01235/laws.FnExactCrossedBy", spec := "fnExactCrossedBy", unfollowed := true, recurses := true, apart := false, narrowed := true }
def FnExactCrossedByUptoSaid : Prop := fnExactCrossedByUptoRow.holds Try.pinned (OpenSpec.upto fnExactCrossedBySpec)

/-- 'laws.FnExactLeftUpTo', WHERE WHAT IT READS IS OF BULK AT MOST 1048576: true; the input reads as it did. -/
def fnExactLeftUpToUptoRow : OpenClaim := { program := "ytfickjfmcmdfiaa", sum := "4e8fcd810a6a3834bcc0fe4ef8f76e8d5263c17e64db320f2d0b32241b7ec5ce", func := "loop.example/g01235/laws.FnExactLeftUpTo", spec := "fnExactLeftUpTo", unfollowed := true, recurses := true, apart := false, narrowed := true }
def FnExactLeftUpToUptoSaid : Prop := fnExactLeftUpToUptoRow.holds Try.pinned (OpenSpec.upto fnExactLeftUpToSpec)

/-- 'laws.FnSievesLeave', WHERE WHAT IT READS IS OF BULK AT MOST 1048576: true; the input reads as it did. -/
def fnSievesLeaveUptoRow : OpenClaim := { program := "ytfickjfmcmdfiaa", sum := "4e8fcd810a6a3834bcc0fe4ef8f76e8d5263c17e64db320f2d0b32241b7ec5ce", func := "loop.example/g01235/laws.FnSievesLeave", spec := "fnSievesLeave", unfollowed := true, recurses := true, apart := false, narrowed := true }
def FnSievesLeaveUptoSaid : Prop := fnSievesLeaveUptoRow.holds Try.pinned (OpenSpec.upto fnSievesLeaveSpec)

end Rows
end Go.Proofs.Ytfickjfmcmdfiaa
