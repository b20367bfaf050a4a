-- Written by a turned copy of the printer, for this claim
import Derived.Test.YtnfbdaffbpaagaaGreatDoorPFnSievesMovedx0
import Derived.Test.YtnfbdaffbpaagaaGreatDoorPFnSievesMovedx2
import Derived.Test.YtnfbdaffbpaagaaGreatDoorPFnSievesMovedx3
import Derived.Test.YtnfbdaffbpaagaaGreatDoorPFnSievesMovedx4
import Derived.Test.YtnfbdaffbpaagaaGreatDoorPFnSievesMovedx5
import Derived.Test.YtnfbdaffbpaagaaGreatDoorPFnSievesMovedx6
import Derived.Test.YtnfbdaffbpaagaaGreatDoorPFnSievesMovedx7
import Derived.Test.YtnfbdaffbpaagaaGreatDoorPFnSievesMovedx8
import Derived.Test.YtnfbdaffbpaagaaGreatDoorPFnSievesMovedx9
import Derived.Test.YtnfbdaffbpaagaaGreatDoorPFnSievesMovedx10
import Derived.Test.YtnfbdaffbpaagaaGreatDoorPFnSievesMovedx11
import Derived.Test.YtnfbdaffbpaagaaGreatDoorPFnSievesMovedx12
import Derived.Test.YtnfbdaffbpaagaaGreatDoorPFnSievesMovedx13
namespace Go.Proofs.YtnfbdaffbpaagaaGreatDoor.PFnSievesMoved
open Go.RowKit Go.Proofs.YtnfbdaffbpaagaaGreatDoorW.PrintWords Go.Proofs.YtnfbdaffbpaagaaGreatDoorW.PrintLast Go.Proofs.YtnfbdaffbpaagaaGreatDoorW.PrintMore
attribute [local go_sem] max2_int min2_int max_two min_two max_three min_three max_four min_four   -- for this text's walks alone
set_option linter.unusedVariables false
set_option linter.unusedSimpArgs false

/-! ### laws_FnSievesMoved: function 4 -/
mutual
def laws_FnSievesMoved.j0 : Nat → List Int → List (S41) → Int → List (S41) → Bool → List (S41) → Bool → ByteArray → Bool → Option (Bool)
  | 0, _, _, _, _, _, _, _, _, _ => none
  | k + 1, x1, x5, x6, x7, x8, x11, x12, x15, x155 => if x155 = true then (some false) else (if x12 = true then ((impl_MirrorRules.f k x11).bind fun bt542 => ((impl_ParseRules.f k x15).bind fun bt546 => (if bt542.2 = true then ((laws_tRules.f k bt542.1 x5).bind fun t550 => (if t550 = true then (if bt546.2 = true then ((laws_tRules.f k bt546.1 x5).bind fun t551 => (if t551 = true then (laws_FnSievesMoved.l0 k x1 x5 x6 x7 x8 x11 (-20)) else (some false))) else (some false)) else (some false))) else (some false)))) else (laws_FnSievesMoved.j3 k x1))
def laws_FnSievesMoved.j3 : Nat → List Int → Option (Bool)
  | 0, _ => none
  | k + 1, x1 => (spec_DrawDropNeedless.f k x1).bind fun t558 => ((impl_DropNeedless.f k t558).bind fun bt561 => ((spec_DropNeedless.f k t558).bind fun bt565 => ((impl_NeedlessRules.f k t558).bind fun bt569 => ((spec_NeedlessRules.f k t558).bind fun bt573 => ((impl_PeriodOfRules.f k t558).bind fun bt577 => ((spec_PeriodOfRules.f k t558).bind fun bt579 => ((impl_LeftInPeriod.f k t558).bind fun bt581 => ((spec_LeftInPeriod.f k t558).bind fun bt583 => (if (bt561.2 != bt565.2) = true then (some false) else ((laws_tRules.f k bt561.1 bt565.1).bind fun t585 => (if t585 = true then (if (bt569.2 != bt573.2) = true then (some false) else ((laws_tSame.f k bt569.1 bt573.1).bind fun t586 => (if t586 = true then (if (bt577.2 != bt579.2) = true then (some false) else (if bt577.1 = bt579.1 then (if (bt581.2 != bt583.2) = true then (some false) else (if bt581.1 = bt583.1 then (if (bt561.2 != bt577.2) = true then (some false) else (if (bt569.2 != bt577.2) = true then (some false) else (if (bt581.2 != bt577.2) = true then (some false) else (if bt577.2 = true then ((impl_AreSameSieve.f k t558 bt561.1).bind fun bt587 => ((impl_NeedlessRules.f k bt561.1).bind fun bt589 => (if bt587.2 = true then (if bt587.1 = true then (if bt589.2 = true then (if (bt589.1.length : Int) = 0 then (if (((bt569.1.length : Int) == 0) != ((bt561.1.length : Int) == (t558.length : Int))) = true then (some false) else (if bt581.1 < 0 then (some false) else (if bt581.1 > bt577.1 then (some false) else (laws_FnSievesMoved.l1 k x1 t558 bt577.1 bt581.1 t558 (t558.length : Int) 0)))) else (some false)) else (some false)) else (some false)) else (some false)))) else (laws_FnSievesMoved.j5 k x1))))) else (some false))) else (some false))) else (some false)))) else (some false))))))))))))
def laws_FnSievesMoved.j5 : Nat → List Int → Option (Bool)
  | 0, _ => none
  | k + 1, x1 => (spec_DrawAreSameSieve.f k x1).bind fun bt597 => ((impl_AreSameSieve.f k bt597.1 bt597.2).bind fun bt603 => ((spec_AreSameSieve.f k bt597.1 bt597.2).bind fun bt605 => ((spec_DrawParseRules.f k x1).bind fun t607 => ((impl_ParseRules.f k t607).bind fun bt608 => ((spec_ParseRules.f k t607).bind fun bt612 => (if (bt603.2 != bt605.2) = true then (some false) else (if (bt603.1 != bt605.1) = true then (some false) else (if (bt608.2 != bt612.2) = true then (some false) else ((laws_tRules.f k bt608.1 bt612.1).bind fun t616 => (if t616 = true then (if bt608.2 = true then ((impl_RulesText.f k bt608.1).bind fun bt617 => (if bt617.2 = true then (some (bt617.1.toList == t607.toList)) else (some false))) else (some true)) else (some false)))))))))))
def laws_FnSievesMoved.l1 : Nat → List Int → List (S41) → Int → Int → List (S41) → Int → Int → Option (Bool)
  | 0, _, _, _, _, _, _, _ => none
  | k + 1, x1, x30, x39, x43, x385, x386, x387 => if x387 < x386 then (if 0 ≤ x387 then (if x387 < (x385.length : Int) then (if ((rd_T41 x385 x387).f0) = 0 then (none) else (if (Int.tmod x39 ((rd_T41 x385 x387).f0)) = 0 then (laws_FnSievesMoved.l1 k x1 x30 x39 x43 x385 x386 (wrap64 (x387 + 1))) else (some false))) else (none)) else (none)) else (if x39 ≤ 600 then ((impl_CountLeft.f k x30 x39).bind fun bt595 => (if bt595.2 = true then (if bt595.1 = x43 then (laws_FnSievesMoved.j5 k x1) else (some false)) else (some false))) else (laws_FnSievesMoved.j5 k x1))
def laws_FnSievesMoved.l0 : Nat → List Int → List (S41) → Int → List (S41) → Bool → List (S41) → Int → Option (Bool)
  | 0, _, _, _, _, _, _, _ => none
  | k + 1, x1, x5, x6, x7, x8, x11, x23 => if x23 ≤ 20 then ((impl_IsLeft.f x5 x23).bind fun bt552 => ((impl_IsLeft.f x11 (wrap64 (-x23))).bind fun bt554 => (if bt552.2 = true then (if bt554.2 = true then (if (bt552.1 != bt554.1) = true then (some false) else (if x8 = true then (if (wrap64 (x23 + x6)) ≥ (-600) then (laws_FnSievesMoved.j2 k x1 x5 x6 x7 x8 x11 x23 bt552.1 (decide ((wrap64 (x23 + x6)) ≤ 600))) else (laws_FnSievesMoved.j2 k x1 x5 x6 x7 x8 x11 x23 bt552.1 false)) else (laws_FnSievesMoved.j2 k x1 x5 x6 x7 x8 x11 x23 bt552.1 false))) else (some false)) else (some false)))) else (laws_FnSievesMoved.j3 k x1)
def laws_FnSievesMoved.j2 : Nat → List Int → List (S41) → Int → List (S41) → Bool → List (S41) → Int → Bool → Bool → Option (Bool)
  | 0, _, _, _, _, _, _, _, _, _ => none
  | k + 1, x1, x5, x6, x7, x8, x11, x23, x24, x225 => if x225 = true then ((impl_IsLeft.f x7 (wrap64 (x23 + x6))).bind fun bt556 => (if bt556.2 = true then (if (bt556.1 != x24) = true then (some false) else (laws_FnSievesMoved.l0 k x1 x5 x6 x7 x8 x11 (wrap64 (x23 + 1)))) else (some false))) else (laws_FnSievesMoved.l0 k x1 x5 x6 x7 x8 x11 (wrap64 (x23 + 1)))
end
def laws_FnSievesMoved.f (k : Nat) (l0 : List Int) (l1 : List Int) : Option (Bool) := (laws_big.f l0 l1).bind fun t514 => (if t514 = true then (some true) else ((spec_DrawMoveRules.f k l0).bind fun bt515 => ((impl_MoveRules.f k bt515.1 bt515.2).bind fun bt519 => ((spec_MoveRules.f k bt515.1 bt515.2).bind fun bt523 => ((impl_MirrorRules.f k bt515.1).bind fun bt527 => ((spec_MirrorRules.f k bt515.1).bind fun bt531 => ((impl_RulesText.f k bt515.1).bind fun bt535 => ((spec_RulesText.f k bt515.1).bind fun bt537 => (if (bt519.2 != bt523.2) = true then (some false) else ((laws_tRules.f k bt519.1 bt523.1).bind fun t539 => (if t539 = true then (if (bt527.2 != bt531.2) = true then (some false) else ((laws_tRules.f k bt527.1 bt531.1).bind fun t540 => (if t540 = true then (if (bt535.2 != bt537.2) = true then (some false) else (if bt535.1.toList = bt537.1.toList then ((impl_AreRules.f bt515.1).bind fun t541 => (if (bt527.2 != t541) = true then (some false) else (if (bt535.2 != bt527.2) = true then (some false) else (if bt519.2 = true then (laws_FnSievesMoved.j0 k l1 bt515.1 bt515.2 bt519.1 bt519.2 bt527.1 bt527.2 bt535.1 (!bt527.2)) else (laws_FnSievesMoved.j0 k l1 bt515.1 bt515.2 bt519.1 bt519.2 bt527.1 bt527.2 bt535.1 false))))) else (some false))) else (some false)))) else (some false))))))))))))
def laws_FnSievesMoved.Pure : Prop := ∀ (l0 : List Int) (l1 : List Int), l0.length ≤ maxLen → l0.length * 1 ≤ 140737488351232 → (∀ x ∈ l0, (Lit.int .u8 x).wf = true) → l1.length ≤ maxLen → l1.length * 1 ≤ 140737488351232 → (∀ x ∈ l1, (Lit.int .u8 x).wf = true) → ∃ k, laws_FnSievesMoved.f k l0 l1 = some true
end Go.Proofs.YtnfbdaffbpaagaaGreatDoor.PFnSievesMoved
