-- Written by a turned copy of the printer, for this claim
import Derived.Test.YtnhlhfkpkpbekaaPFnLuckyNumbersx0
import Derived.Test.YtnhlhfkpkpbekaaPFnLuckyNumbersx1
import Derived.Test.YtnhlhfkpkpbekaaPFnLuckyNumbersx2
import Derived.Test.YtnhlhfkpkpbekaaPFnLuckyNumbersx3
import Derived.Test.YtnhlhfkpkpbekaaPFnLuckyNumbersx4
import Derived.Test.YtnhlhfkpkpbekaaPFnLuckyNumbersx5
import Derived.Test.YtnhlhfkpkpbekaaPFnLuckyNumbersx6
import Derived.Test.YtnhlhfkpkpbekaaPFnLuckyNumbersx7
namespace Go.Proofs.Ytnhlhfkpkpbekaa.PFnLuckyNumbers
open Go.RowKit Go.Proofs.YtnhlhfkpkpbekaaW.PrintWords Go.Proofs.YtnhlhfkpkpbekaaW.PrintLast Go.Proofs.YtnhlhfkpkpbekaaW.PrintMore
attribute [local go_sem] max2_int min2_int max_two min_two max_three min_three max_four min_four   -- for this text's walks alone
set_option linter.unusedVariables false
set_option linter.unusedSimpArgs false

/-! ### laws_FnLuckyNumbers: function 6 -/
mutual
def laws_FnLuckyNumbers.j5 : Nat → List Int → Option (Bool)
  | 0, _ => none
  | k + 1, x1 => (spec_DrawIsLucky.f x1).bind fun t484 => ((impl_IsLucky.f k t484).bind fun bt485 => ((spec_IsLucky.f k t484).bind fun bt487 => ((spec_DrawRisingOfRank.f x1).bind fun t489 => ((impl_RisingOfRank.f k t489).bind fun bt490 => ((spec_RisingOfRank.f k t489).bind fun bt492 => ((spec_DrawOwnSteps.f x1).bind fun bt494 => ((impl_OwnSteps.f k bt494.1 bt494.2).bind fun bt496 => ((spec_OwnSteps.f k bt494.1 bt494.2).bind fun bt500 => ((spec_DrawCircleOut.f x1).bind fun bt504 => ((impl_CircleOut.f k bt504.1 bt504.2).bind fun bt506 => ((spec_CircleOut.f k bt504.1 bt504.2).bind fun bt510 => ((impl_LastOfCircle.f k bt504.1 bt504.2).bind fun bt514 => ((spec_LastOfCircle.f k bt504.1 bt504.2).bind fun bt516 => (if (bt485.2 != bt487.2) = true then (some false) else (if (bt485.1 != bt487.1) = true then (some false) else (if (bt490.2 != bt492.2) = true then (some false) else (if bt490.1 = bt492.1 then (if (bt496.2 != bt500.2) = true then (some false) else ((laws_tSame.f k bt496.1 bt500.1).bind fun t518 => (if t518 = true then (if (bt506.2 != bt510.2) = true then (some false) else ((laws_tSame.f k bt506.1 bt510.1).bind fun t519 => (if t519 = true then (if (bt514.2 != bt516.2) = true then (some false) else (if bt514.1 = bt516.1 then (if (bt514.2 != bt506.2) = true then (some false) else (if bt496.2 = true then ((laws_tRises.f k bt496.1 bt494.1 bt494.2).bind fun t520 => (if t520 = true then (if bt494.1 ≤ bt494.2 then (if (bt496.1.length : Int) = 0 then (some false) else (if 0 < (bt496.1.length : Int) then (laws_FnLuckyNumbers.j6 k bt494.1 bt494.2 bt496.1 bt496.2 bt504.1 bt504.2 bt506.1 bt506.2 bt514.1 ((rd bt496.1 0) != bt494.1)) else (none))) else (laws_FnLuckyNumbers.j6 k bt494.1 bt494.2 bt496.1 bt496.2 bt504.1 bt504.2 bt506.1 bt506.2 bt514.1 false)) else (some false))) else (laws_FnLuckyNumbers.j6 k bt494.1 bt494.2 bt496.1 bt496.2 bt504.1 bt504.2 bt506.1 bt506.2 bt514.1 false))) else (some false))) else (some false)))) else (some false)))) else (some false))))))))))))))))))
def laws_FnLuckyNumbers.j6 : Nat → Int → Int → List Int → Bool → Int → Int → List Int → Bool → Int → Bool → Option (Bool)
  | 0, _, _, _, _, _, _, _, _, _, _ => none
  | k + 1, x46, x47, x48, x49, x52, x53, x54, x55, x58, x429 => if x429 = true then (some false) else (if x49 = true then (laws_FnLuckyNumbers.j7 k x47 x48 x52 x53 x54 x55 x58 (x46 == 2)) else (laws_FnLuckyNumbers.j7 k x47 x48 x52 x53 x54 x55 x58 false))
def laws_FnLuckyNumbers.j7 : Nat → Int → List Int → Int → Int → List Int → Bool → Int → Bool → Option (Bool)
  | 0, _, _, _, _, _, _, _, _ => none
  | k + 1, x47, x48, x52, x53, x54, x55, x58, x434 => if x434 = true then ((some (([2, 3, 5, 7, 11, 13, 17, 23, 25] : List Int) : List Int)).bind fun y522 => (laws_FnLuckyNumbers.l4 k x47 x48 x52 x53 x54 x55 x58 y522 (y522.length : Int) 0)) else (laws_FnLuckyNumbers.j9 k x52 x53 x54 x55 x58)
def laws_FnLuckyNumbers.j9 : Nat → Int → Int → List Int → Bool → Int → Option (Bool)
  | 0, _, _, _, _, _ => none
  | k + 1, x52, x53, x54, x55, x58 => if x55 = true then (if (x54.length : Int) = x52 then (if 0 ≤ (wrap64 (x52 - 1)) then (if (wrap64 (x52 - 1)) < (x54.length : Int) then (if (rd x54 (wrap64 (x52 - 1))) = x58 then (if 0 < (x54.length : Int) then (if x52 = 0 then (none) else (if (rd x54 0) = (wrap64 ((Int.tmod (wrap64 (x53 - 1)) x52) + 1)) then (laws_FnLuckyNumbers.l5 k x52 x54 1) else (some false))) else (none)) else (some false)) else (none)) else (none)) else (some false)) else (some true)
def laws_FnLuckyNumbers.l5 : Nat → Int → List Int → Int → Option (Bool)
  | 0, _, _, _ => none
  | k + 1, x52, x54, x64 => if x64 ≤ x52 then ((laws_tHas.f k x54 x64).bind fun t529 => (if t529 = true then (laws_FnLuckyNumbers.l5 k x52 x54 (wrap64 (x64 + 1))) else (some false))) else (some true)
def laws_FnLuckyNumbers.l4 : Nat → Int → List Int → Int → Int → List Int → Bool → Int → List Int → Int → Int → Option (Bool)
  | 0, _, _, _, _, _, _, _, _, _, _ => none
  | k + 1, x47, x48, x52, x53, x54, x55, x58, x435, x436, x437 => if x437 < x436 then (if 0 ≤ x437 then (if x437 < (x435.length : Int) then (if (rd x435 x437) ≤ x47 then (if x437 ≥ (x48.length : Int) then (some false) else (if x437 < (x48.length : Int) then (if (rd x48 x437) = (rd x435 x437) then (laws_FnLuckyNumbers.l4 k x47 x48 x52 x53 x54 x55 x58 x435 x436 (wrap64 (x437 + 1))) else (some false)) else (none))) else (laws_FnLuckyNumbers.l4 k x47 x48 x52 x53 x54 x55 x58 x435 x436 (wrap64 (x437 + 1)))) else (none)) else (none)) else (laws_FnLuckyNumbers.j9 k x52 x53 x54 x55 x58)
def laws_FnLuckyNumbers.j0 : Nat → List Int → List Int → List Int → List Int → List Int → Option (Bool)
  | 0, _, _, _, _, _ => none
  | k + 1, x1, x6, x10, x14, x18 => laws_FnLuckyNumbers.l0 k x1 x6 x14 x18 x10 (x10.length : Int) 0
def laws_FnLuckyNumbers.l0 : Nat → List Int → List Int → List Int → List Int → List Int → Int → Int → Option (Bool)
  | 0, _, _, _, _, _, _, _ => none
  | k + 1, x1, x6, x14, x18, x201, x202, x203 => if x203 < x202 then (if 0 ≤ x203 then (if x203 < (x201.length : Int) then (if x203 > 0 then ((laws_tHas.f k x6 (rd x201 x203)).bind fun t476 => (if t476 = true then (if x203 = 0 then (if (rd x201 x203) = 2 then (laws_FnLuckyNumbers.l0 k x1 x6 x14 x18 x201 x202 (wrap64 (x203 + 1))) else (some false)) else (laws_FnLuckyNumbers.l0 k x1 x6 x14 x18 x201 x202 (wrap64 (x203 + 1)))) else (some false))) else (if x203 = 0 then (if (rd x201 x203) = 2 then (laws_FnLuckyNumbers.l0 k x1 x6 x14 x18 x201 x202 (wrap64 (x203 + 1))) else (some false)) else (laws_FnLuckyNumbers.l0 k x1 x6 x14 x18 x201 x202 (wrap64 (x203 + 1))))) else (none)) else (none)) else (laws_FnLuckyNumbers.l1 k x1 x14 x18 x6 (x6.length : Int) 0)
def laws_FnLuckyNumbers.l1 : Nat → List Int → List Int → List Int → List Int → Int → Int → Option (Bool)
  | 0, _, _, _, _, _, _ => none
  | k + 1, x1, x14, x18, x225, x226, x227 => if x227 < x226 then (if 0 ≤ x227 then (if x227 < (x225.length : Int) then ((impl_IsLucky.f k (rd x225 x227)).bind fun bt478 => (if bt478.2 = true then (if bt478.1 = true then (if (Int.tmod (rd x225 x227) 2) = 0 then (some false) else (laws_FnLuckyNumbers.l1 k x1 x14 x18 x225 x226 (wrap64 (x227 + 1)))) else (some false)) else (some false))) else (none)) else (none)) else (laws_FnLuckyNumbers.l2 k x1 x18 x14 (x14.length : Int) 0)
def laws_FnLuckyNumbers.l2 : Nat → List Int → List Int → List Int → Int → Int → Option (Bool)
  | 0, _, _, _, _, _ => none
  | k + 1, x1, x18, x248, x249, x250 => if x250 < x249 then (if 0 ≤ x250 then (if x250 < (x248.length : Int) then (if (Int.tmod (rd x248 x250) 2) = 0 then (laws_FnLuckyNumbers.l2 k x1 x18 x248 x249 (wrap64 (x250 + 1))) else (some false)) else (none)) else (none)) else (laws_FnLuckyNumbers.l3 k x1 x18 (x18.length : Int) 0)
def laws_FnLuckyNumbers.l3 : Nat → List Int → List Int → Int → Int → Option (Bool)
  | 0, _, _, _, _ => none
  | k + 1, x1, x258, x259, x260 => if x260 < x259 then (if 0 ≤ x260 then (if x260 < (x258.length : Int) then (if x260 > 30 then (laws_FnLuckyNumbers.j5 k x1) else ((impl_RisingOfRank.f k x260).bind fun bt482 => (if bt482.2 = true then (if bt482.1 = (rd x258 x260) then (laws_FnLuckyNumbers.l3 k x1 x258 x259 (wrap64 (x260 + 1))) else (some false)) else (some false)))) else (none)) else (none)) else (laws_FnLuckyNumbers.j5 k x1)
end
def laws_FnLuckyNumbers.f (k : Nat) (l0 : List Int) (l1 : List Int) : Option (Bool) := (laws_big.f l0 l1).bind fun t429 => (if t429 = true then (some true) else ((spec_DrawLucky.f l0).bind fun t430 => ((impl_Lucky.f k t430).bind fun bt431 => ((spec_Lucky.f k t430).bind fun bt435 => ((impl_LuckySteps.f k t430).bind fun bt439 => ((spec_LuckySteps.f k t430).bind fun bt443 => ((impl_EvenLucky.f k t430).bind fun bt447 => ((spec_EvenLucky.f k t430).bind fun bt451 => ((impl_RisingSieve.f k t430).bind fun bt455 => ((spec_RisingSieve.f k t430).bind fun bt459 => (if (bt431.2 != bt435.2) = true then (some false) else ((laws_tSame.f k bt431.1 bt435.1).bind fun t463 => (if t463 = true then (if (bt439.2 != bt443.2) = true then (some false) else ((laws_tSame.f k bt439.1 bt443.1).bind fun t464 => (if t464 = true then (if (bt447.2 != bt451.2) = true then (some false) else ((laws_tSame.f k bt447.1 bt451.1).bind fun t465 => (if t465 = true then (if (bt455.2 != bt459.2) = true then (some false) else ((laws_tSame.f k bt455.1 bt459.1).bind fun t466 => (if t466 = true then (if (bt439.2 != bt431.2) = true then (some false) else (if (bt447.2 != bt431.2) = true then (some false) else (if (bt455.2 != bt431.2) = true then (some false) else (if bt431.2 = true then ((laws_tRises.f k bt431.1 1 t430).bind fun t467 => (if t467 = true then ((laws_tRises.f k bt447.1 2 t430).bind fun t468 => (if t468 = true then ((laws_tRises.f k bt455.1 1 t430).bind fun t469 => (if t469 = true then (if (bt439.1.length : Int) ≤ 12 then ((impl_LeftByCounting.f k bt439.1 t430).bind fun bt470 => (if bt470.2 = true then ((laws_tSame.f k bt470.1 bt431.1).bind fun t474 => (if t474 = true then (laws_FnLuckyNumbers.j0 k l1 bt431.1 bt439.1 bt447.1 bt455.1) else (some false))) else (some false))) else (laws_FnLuckyNumbers.j0 k l1 bt431.1 bt439.1 bt447.1 bt455.1)) else (some false))) else (some false))) else (some false))) else (laws_FnLuckyNumbers.j5 k l1))))) else (some false)))) else (some false)))) else (some false)))) else (some false))))))))))))))
def laws_FnLuckyNumbers.Pure : Prop := ∀ (l0 : List Int) (l1 : List Int), l0.length ≤ maxLen → l0.length * 1 ≤ 140737488351232 → (∀ x ∈ l0, (Lit.int .u8 x).wf = true) → l1.length ≤ maxLen → l1.length * 1 ≤ 140737488351232 → (∀ x ∈ l1, (Lit.int .u8 x).wf = true) → ∃ k, laws_FnLuckyNumbers.f k l0 l1 = some true
end Go.Proofs.Ytnhlhfkpkpbekaa.PFnLuckyNumbers
