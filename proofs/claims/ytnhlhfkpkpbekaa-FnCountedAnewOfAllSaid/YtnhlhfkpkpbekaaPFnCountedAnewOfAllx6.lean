-- Written by a turned copy of the printer, for this claim
import Derived.Test.YtnhlhfkpkpbekaaPFnCountedAnewOfAllx0
import Derived.Test.YtnhlhfkpkpbekaaPFnCountedAnewOfAllx1
import Derived.Test.YtnhlhfkpkpbekaaPFnCountedAnewOfAllx2
import Derived.Test.YtnhlhfkpkpbekaaPFnCountedAnewOfAllx3
import Derived.Test.YtnhlhfkpkpbekaaPFnCountedAnewOfAllx4
import Derived.Test.YtnhlhfkpkpbekaaPFnCountedAnewOfAllx5
namespace Go.Proofs.Ytnhlhfkpkpbekaa.PFnCountedAnewOfAll
open Go.RowKit Go.Proofs.YtnhlhfkpkpbekaaW.PrintWords Go.Proofs.YtnhlhfkpkpbekaaW.PrintLast Go.Proofs.YtnhlhfkpkpbekaaW.PrintMore
attribute [local go_sem] max2_int min2_int max_two min_two max_three min_three max_four min_four   -- for this text's walks alone
set_option linter.unusedVariables false
set_option linter.unusedSimpArgs false

/-! ### laws_FnCountedAnewOfAll: function 4 -/
mutual
def laws_FnCountedAnewOfAll.j0 : Nat → List Int → Int → List Int → Int → List Int → Int → Bool → Option (Bool)
  | 0, _, _, _, _, _, _, _ => none
  | k + 1, x0, x1, x2, x3, x4, x5, x57 => if x57 = true then (some true) else ((impl_LeftByCounting.f k x0 x1).bind fun bt186 => ((spec_LeftByCounting.f k x0 x1).bind fun bt190 => ((impl_CountByCounting.f k x0 x1).bind fun bt194 => ((spec_CountByCounting.f k x0 x1).bind fun bt196 => (if (bt186.2 != bt190.2) = true then (laws_FnCountedAnewOfAll.j1 k x0 x1 x2 x3 x4 x5 bt186.1 bt186.2 bt194.1 true) else ((laws_tSame.f k bt186.1 bt190.1).bind fun t198 => (if t198 = true then (if (bt194.2 != bt196.2) = true then (laws_FnCountedAnewOfAll.j1 k x0 x1 x2 x3 x4 x5 bt186.1 bt186.2 bt194.1 true) else (if bt194.1 = bt196.1 then (if (bt194.2 != bt186.2) = true then (laws_FnCountedAnewOfAll.j1 k x0 x1 x2 x3 x4 x5 bt186.1 bt186.2 bt194.1 true) else (if bt186.2 = true then ((impl_IsStepList.f x0).bind fun t199 => (if t199 = true then ((impl_IsStepList.f x0).bind fun t200 => ((spec_IsStepList.f k x0).bind fun t201 => (laws_FnCountedAnewOfAll.j1 k x0 x1 x2 x3 x4 x5 bt186.1 bt186.2 bt194.1 (t200 != t201)))) else (laws_FnCountedAnewOfAll.j1 k x0 x1 x2 x3 x4 x5 bt186.1 bt186.2 bt194.1 true))) else ((impl_IsStepList.f x0).bind fun t202 => ((spec_IsStepList.f k x0).bind fun t203 => (laws_FnCountedAnewOfAll.j1 k x0 x1 x2 x3 x4 x5 bt186.1 bt186.2 bt194.1 (t202 != t203)))))) else (laws_FnCountedAnewOfAll.j1 k x0 x1 x2 x3 x4 x5 bt186.1 bt186.2 bt194.1 true))) else (laws_FnCountedAnewOfAll.j1 k x0 x1 x2 x3 x4 x5 bt186.1 bt186.2 bt194.1 true))))))))
def laws_FnCountedAnewOfAll.j1 : Nat → List Int → Int → List Int → Int → List Int → Int → List Int → Bool → Int → Bool → Option (Bool)
  | 0, _, _, _, _, _, _, _, _, _, _ => none
  | k + 1, x0, x1, x2, x3, x4, x5, x13, x14, x17, x120 => if x120 = true then (some false) else (if x14 = true then (if (x13.length : Int) = x17 then ((laws_tRises.f k x13 1 x1).bind fun t204 => (laws_FnCountedAnewOfAll.j2 k x0 x1 x2 x3 x4 x5 x13 x17 (!t204))) else (laws_FnCountedAnewOfAll.j2 k x0 x1 x2 x3 x4 x5 x13 x17 true)) else (laws_FnCountedAnewOfAll.j5 k x2 x3 x4 x5))
def laws_FnCountedAnewOfAll.j5 : Nat → List Int → Int → List Int → Int → Option (Bool)
  | 0, _, _, _, _ => none
  | k + 1, x2, x3, x4, x5 => (impl_StepOfFall.f k x2 x3).bind fun bt220 => ((spec_StepOfFall.f k x2 x3).bind fun bt222 => ((impl_RankBehind.f k x2 x3).bind fun bt224 => ((spec_RankBehind.f k x2 x3).bind fun bt226 => ((impl_NumberOfRank.f k x4 x5).bind fun bt228 => ((spec_NumberOfRank.f k x4 x5).bind fun bt230 => (if (bt220.2 != bt222.2) = true then (laws_FnCountedAnewOfAll.j6 k x4 x5 bt228.1 bt228.2 true) else (if bt220.1 = bt222.1 then (if (bt224.2 != bt226.2) = true then (laws_FnCountedAnewOfAll.j6 k x4 x5 bt228.1 bt228.2 true) else (if bt224.1 = bt226.1 then (if (bt228.2 != bt230.2) = true then (laws_FnCountedAnewOfAll.j6 k x4 x5 bt228.1 bt228.2 true) else (laws_FnCountedAnewOfAll.j6 k x4 x5 bt228.1 bt228.2 (bt228.1 != bt230.1))) else (laws_FnCountedAnewOfAll.j6 k x4 x5 bt228.1 bt228.2 true))) else (laws_FnCountedAnewOfAll.j6 k x4 x5 bt228.1 bt228.2 true))))))))
def laws_FnCountedAnewOfAll.j6 : Nat → List Int → Int → Int → Bool → Bool → Option (Bool)
  | 0, _, _, _, _, _ => none
  | k + 1, x4, x5, x39, x40, x292 => if x292 = true then (some false) else (if x40 = true then (if x39 ≤ 10000 then ((impl_RankBehind.f k x4 x39).bind fun bt232 => (if bt232.2 = true then (some (bt232.1 == x5)) else (some false))) else (some true)) else (some true))
def laws_FnCountedAnewOfAll.j2 : Nat → List Int → Int → List Int → Int → List Int → Int → List Int → Int → Bool → Option (Bool)
  | 0, _, _, _, _, _, _, _, _, _ => none
  | k + 1, x0, x1, x2, x3, x4, x5, x13, x17, x131 => if x131 = true then (some false) else (laws_FnCountedAnewOfAll.l0 k x0 x1 x2 x3 x4 x5 x13 x17 1)
def laws_FnCountedAnewOfAll.l0 : Nat → List Int → Int → List Int → Int → List Int → Int → List Int → Int → Int → Option (Bool)
  | 0, _, _, _, _, _, _, _, _, _ => none
  | k + 1, x0, x1, x2, x3, x4, x5, x13, x17, x21 => if x21 ≤ x1 then ((impl_StepOfFall.f k x0 x21).bind fun bt205 => ((impl_RankBehind.f k x0 x21).bind fun bt207 => (if (bt205.2 == bt207.2) = true then (laws_FnCountedAnewOfAll.j4 k x0 x1 x2 x3 x4 x5 x13 x17 x21 bt207.1 bt207.2 true) else ((laws_tHas.f k x13 x21).bind fun t209 => (if (bt207.2 != t209) = true then (laws_FnCountedAnewOfAll.j4 k x0 x1 x2 x3 x4 x5 x13 x17 x21 bt207.1 bt207.2 true) else (if bt205.2 = true then (if bt205.1 < 0 then (laws_FnCountedAnewOfAll.j4 k x0 x1 x2 x3 x4 x5 x13 x17 x21 bt207.1 bt207.2 true) else (if bt205.1 ≥ (x0.length : Int) then (laws_FnCountedAnewOfAll.j4 k x0 x1 x2 x3 x4 x5 x13 x17 x21 bt207.1 bt207.2 true) else (if bt207.2 = true then (if 0 ≤ bt207.1 then (if bt207.1 < (x13.length : Int) then (laws_FnCountedAnewOfAll.j4 k x0 x1 x2 x3 x4 x5 x13 x17 x21 bt207.1 bt207.2 ((rd x13 bt207.1) != x21)) else (none)) else (none)) else (laws_FnCountedAnewOfAll.j4 k x0 x1 x2 x3 x4 x5 x13 x17 x21 bt207.1 bt207.2 false)))) else (if bt207.2 = true then (if 0 ≤ bt207.1 then (if bt207.1 < (x13.length : Int) then (laws_FnCountedAnewOfAll.j4 k x0 x1 x2 x3 x4 x5 x13 x17 x21 bt207.1 bt207.2 ((rd x13 bt207.1) != x21)) else (none)) else (none)) else (laws_FnCountedAnewOfAll.j4 k x0 x1 x2 x3 x4 x5 x13 x17 x21 bt207.1 bt207.2 false)))))))) else (if (x0.length : Int) > 0 then (if 0 ≤ (wrap64 ((x0.length : Int) - 1)) then (if (wrap64 ((x0.length : Int) - 1)) ≤ (x0.length : Int) then ((impl_LeftByCounting.f k (x0.take ((wrap64 ((x0.length : Int) - 1)) : Int).toNat) x1).bind fun bt215 => (if (wrap64 ((x0.length : Int) - 1)) < (x0.length : Int) then (if bt215.2 = true then (if (rd x0 (wrap64 ((x0.length : Int) - 1))) = 0 then (none) else (if x17 = (wrap64 ((bt215.1.length : Int) - (wrap64 ((bt215.1.length : Int) / (rd x0 (wrap64 ((x0.length : Int) - 1))))))) then (laws_FnCountedAnewOfAll.j5 k x2 x3 x4 x5) else (some false))) else (some false)) else (none))) else (none)) else (none)) else (laws_FnCountedAnewOfAll.j5 k x2 x3 x4 x5))
def laws_FnCountedAnewOfAll.j4 : Nat → List Int → Int → List Int → Int → List Int → Int → List Int → Int → Int → Int → Bool → Bool → Option (Bool)
  | 0, _, _, _, _, _, _, _, _, _, _, _, _ => none
  | k + 1, x0, x1, x2, x3, x4, x5, x13, x17, x21, x24, x25, x182 => if x182 = true then (some false) else (if x25 = true then ((impl_NumberOfRank.f k x0 x24).bind fun bt212 => (if bt212.2 = true then (if bt212.1 = x21 then (laws_FnCountedAnewOfAll.l0 k x0 x1 x2 x3 x4 x5 x13 x17 (wrap64 (x21 + 1))) else (some false)) else (some false))) else (laws_FnCountedAnewOfAll.l0 k x0 x1 x2 x3 x4 x5 x13 x17 (wrap64 (x21 + 1))))
end
def laws_FnCountedAnewOfAll.f (k : Nat) (l0 : List Int) (a1 : Int) (l2 : List Int) (a3 : Int) (l4 : List Int) (a5 : Int) : Option (Bool) := if (l0.length : Int) > 10000 then (laws_FnCountedAnewOfAll.j0 k l0 a1 l2 a3 l4 a5 true) else (if (l2.length : Int) > 10000 then (laws_FnCountedAnewOfAll.j0 k l0 a1 l2 a3 l4 a5 true) else (laws_FnCountedAnewOfAll.j0 k l0 a1 l2 a3 l4 a5 (decide ((l4.length : Int) > 10000))))
theorem laws_FnCountedAnewOfAll.mono_l : ∀ k, (∀ y0 y1 y2 y3 y4 y5 y6, LeO (laws_FnCountedAnewOfAll.j0 k y0 y1 y2 y3 y4 y5 y6) (laws_FnCountedAnewOfAll.j0 (k + 1) y0 y1 y2 y3 y4 y5 y6)) ∧ (∀ y0 y1 y2 y3 y4 y5 y6 y7 y8 y9, LeO (laws_FnCountedAnewOfAll.j1 k y0 y1 y2 y3 y4 y5 y6 y7 y8 y9) (laws_FnCountedAnewOfAll.j1 (k + 1) y0 y1 y2 y3 y4 y5 y6 y7 y8 y9)) ∧ (∀ y0 y1 y2 y3, LeO (laws_FnCountedAnewOfAll.j5 k y0 y1 y2 y3) (laws_FnCountedAnewOfAll.j5 (k + 1) y0 y1 y2 y3)) ∧ (∀ y0 y1 y2 y3 y4, LeO (laws_FnCountedAnewOfAll.j6 k y0 y1 y2 y3 y4) (laws_FnCountedAnewOfAll.j6 (k + 1) y0 y1 y2 y3 y4)) ∧ (∀ y0 y1 y2 y3 y4 y5 y6 y7 y8, LeO (laws_FnCountedAnewOfAll.j2 k y0 y1 y2 y3 y4 y5 y6 y7 y8) (laws_FnCountedAnewOfAll.j2 (k + 1) y0 y1 y2 y3 y4 y5 y6 y7 y8)) ∧ (∀ y0 y1 y2 y3 y4 y5 y6 y7 y8, LeO (laws_FnCountedAnewOfAll.l0 k y0 y1 y2 y3 y4 y5 y6 y7 y8) (laws_FnCountedAnewOfAll.l0 (k + 1) y0 y1 y2 y3 y4 y5 y6 y7 y8)) ∧ (∀ y0 y1 y2 y3 y4 y5 y6 y7 y8 y9 y10 y11, LeO (laws_FnCountedAnewOfAll.j4 k y0 y1 y2 y3 y4 y5 y6 y7 y8 y9 y10 y11) (laws_FnCountedAnewOfAll.j4 (k + 1) y0 y1 y2 y3 y4 y5 y6 y7 y8 y9 y10 y11))
  | 0 => ⟨fun _ _ _ _ _ _ _ r h => by simp [laws_FnCountedAnewOfAll.j0] at h, fun _ _ _ _ _ _ _ _ _ _ r h => by simp [laws_FnCountedAnewOfAll.j1] at h, fun _ _ _ _ r h => by simp [laws_FnCountedAnewOfAll.j5] at h, fun _ _ _ _ _ r h => by simp [laws_FnCountedAnewOfAll.j6] at h, fun _ _ _ _ _ _ _ _ _ r h => by simp [laws_FnCountedAnewOfAll.j2] at h, fun _ _ _ _ _ _ _ _ _ r h => by simp [laws_FnCountedAnewOfAll.l0] at h, fun _ _ _ _ _ _ _ _ _ _ _ _ r h => by simp [laws_FnCountedAnewOfAll.j4] at h⟩
  | k + 1 => by
    obtain ⟨ih0, ih1, ih2, ih3, ih4, ih5, ih6⟩ := laws_FnCountedAnewOfAll.mono_l k
    refine ⟨?_, ?_, ?_, ?_, ?_, ?_, ?_⟩
    · intro y0 y1 y2 y3 y4 y5 y6
      unfold laws_FnCountedAnewOfAll.j0
      repeat' first
      | (with_reducible exact ih0 _ _ _ _ _ _ _)
      | (with_reducible exact ih1 _ _ _ _ _ _ _ _ _ _)
      | (with_reducible exact ih2 _ _ _ _)
      | (with_reducible exact ih3 _ _ _ _ _)
      | (with_reducible exact ih4 _ _ _ _ _ _ _ _ _)
      | (with_reducible exact ih5 _ _ _ _ _ _ _ _ _)
      | (with_reducible exact ih6 _ _ _ _ _ _ _ _ _ _ _ _)
      | (with_reducible exact impl_CountByCounting.mono _ _ _)
      | (with_reducible exact impl_LeftByCounting.mono _ _ _)
      | (with_reducible exact impl_NumberOfRank.mono _ _ _)
      | (with_reducible exact impl_RankBehind.mono _ _ _)
      | (with_reducible exact impl_StepOfFall.mono _ _ _)
      | (with_reducible exact laws_tHas.mono _ _ _)
      | (with_reducible exact laws_tRises.mono _ _ _ _)
      | (with_reducible exact laws_tSame.mono _ _ _)
      | (with_reducible exact spec_CountByCounting.mono _ _ _)
      | (with_reducible exact spec_IsStepList.mono _ _)
      | (with_reducible exact spec_LeftByCounting.mono _ _ _)
      | (with_reducible exact spec_NumberOfRank.mono _ _ _)
      | (with_reducible exact spec_RankBehind.mono _ _ _)
      | (with_reducible exact spec_StepOfFall.mono _ _ _)
      | (with_reducible exact LeO.refl _)
      | (with_reducible exact LeO.none _)
      | (with_reducible refine LeO.ite ?_ ?_)
      | (with_reducible refine LeO.bind ?_ (fun _ => ?_))
      | exact ih0 _ _ _ _ _ _ _
      | exact ih1 _ _ _ _ _ _ _ _ _ _
      | exact ih2 _ _ _ _
      | exact ih3 _ _ _ _ _
      | exact ih4 _ _ _ _ _ _ _ _ _
      | exact ih5 _ _ _ _ _ _ _ _ _
      | exact ih6 _ _ _ _ _ _ _ _ _ _ _ _
      | exact impl_CountByCounting.mono _ _ _
      | exact impl_LeftByCounting.mono _ _ _
      | exact impl_NumberOfRank.mono _ _ _
      | exact impl_RankBehind.mono _ _ _
      | exact impl_StepOfFall.mono _ _ _
      | exact laws_tHas.mono _ _ _
      | exact laws_tRises.mono _ _ _ _
      | exact laws_tSame.mono _ _ _
      | exact spec_CountByCounting.mono _ _ _
      | exact spec_IsStepList.mono _ _
      | exact spec_LeftByCounting.mono _ _ _
      | exact spec_NumberOfRank.mono _ _ _
      | exact spec_RankBehind.mono _ _ _
      | exact spec_StepOfFall.mono _ _ _
      | exact LeO.none _
      | refine LeO.ite ?_ ?_
      | refine LeO.bind ?_ (fun _ => ?_)
    · intro y0 y1 y2 y3 y4 y5 y6 y7 y8 y9
      unfold laws_FnCountedAnewOfAll.j1
      repeat' first
      | (with_reducible exact ih0 _ _ _ _ _ _ _)
      | (with_reducible exact ih1 _ _ _ _ _ _ _ _ _ _)
      | (with_reducible exact ih2 _ _ _ _)
      | (with_reducible exact ih3 _ _ _ _ _)
      | (with_reducible exact ih4 _ _ _ _ _ _ _ _ _)
      | (with_reducible exact ih5 _ _ _ _ _ _ _ _ _)
      | (with_reducible exact ih6 _ _ _ _ _ _ _ _ _ _ _ _)
      | (with_reducible exact impl_CountByCounting.mono _ _ _)
      | (with_reducible exact impl_LeftByCounting.mono _ _ _)
      | (with_reducible exact impl_NumberOfRank.mono _ _ _)
      | (with_reducible exact impl_RankBehind.mono _ _ _)
      | (with_reducible exact impl_StepOfFall.mono _ _ _)
      | (with_reducible exact laws_tHas.mono _ _ _)
      | (with_reducible exact laws_tRises.mono _ _ _ _)
      | (with_reducible exact laws_tSame.mono _ _ _)
      | (with_reducible exact spec_CountByCounting.mono _ _ _)
      | (with_reducible exact spec_IsStepList.mono _ _)
      | (with_reducible exact spec_LeftByCounting.mono _ _ _)
      | (with_reducible exact spec_NumberOfRank.mono _ _ _)
      | (with_reducible exact spec_RankBehind.mono _ _ _)
      | (with_reducible exact spec_StepOfFall.mono _ _ _)
      | (with_reducible exact LeO.refl _)
      | (with_reducible exact LeO.none _)
      | (with_reducible refine LeO.ite ?_ ?_)
      | (with_reducible refine LeO.bind ?_ (fun _ => ?_))
      | exact ih0 _ _ _ _ _ _ _
      | exact ih1 _ _ _ _ _ _ _ _ _ _
      | exact ih2 _ _ _ _
      | exact ih3 _ _ _ _ _
      | exact ih4 _ _ _ _ _ _ _ _ _
      | exact ih5 _ _ _ _ _ _ _ _ _
      | exact ih6 _ _ _ _ _ _ _ _ _ _ _ _
      | exact impl_CountByCounting.mono _ _ _
      | exact impl_LeftByCounting.mono _ _ _
      | exact impl_NumberOfRank.mono _ _ _
      | exact impl_RankBehind.mono _ _ _
      | exact impl_StepOfFall.mono _ _ _
      | exact laws_tHas.mono _ _ _
      | exact laws_tRises.mono _ _ _ _
      | exact laws_tSame.mono _ _ _
      | exact spec_CountByCounting.mono _ _ _
      | exact spec_IsStepList.mono _ _
      | exact spec_LeftByCounting.mono _ _ _
      | exact spec_NumberOfRank.mono _ _ _
      | exact spec_RankBehind.mono _ _ _
      | exact spec_StepOfFall.mono _ _ _
      | exact LeO.none _
      | refine LeO.ite ?_ ?_
      | refine LeO.bind ?_ (fun _ => ?_)
    · intro y0 y1 y2 y3
      unfold laws_FnCountedAnewOfAll.j5
      repeat' first
      | (with_reducible exact ih0 _ _ _ _ _ _ _)
      | (with_reducible exact ih1 _ _ _ _ _ _ _ _ _ _)
      | (with_reducible exact ih2 _ _ _ _)
      | (with_reducible exact ih3 _ _ _ _ _)
      | (with_reducible exact ih4 _ _ _ _ _ _ _ _ _)
      | (with_reducible exact ih5 _ _ _ _ _ _ _ _ _)
      | (with_reducible exact ih6 _ _ _ _ _ _ _ _ _ _ _ _)
      | (with_reducible exact impl_CountByCounting.mono _ _ _)
      | (with_reducible exact impl_LeftByCounting.mono _ _ _)
      | (with_reducible exact impl_NumberOfRank.mono _ _ _)
      | (with_reducible exact impl_RankBehind.mono _ _ _)
      | (with_reducible exact impl_StepOfFall.mono _ _ _)
      | (with_reducible exact laws_tHas.mono _ _ _)
      | (with_reducible exact laws_tRises.mono _ _ _ _)
      | (with_reducible exact laws_tSame.mono _ _ _)
      | (with_reducible exact spec_CountByCounting.mono _ _ _)
      | (with_reducible exact spec_IsStepList.mono _ _)
      | (with_reducible exact spec_LeftByCounting.mono _ _ _)
      | (with_reducible exact spec_NumberOfRank.mono _ _ _)
      | (with_reducible exact spec_RankBehind.mono _ _ _)
      | (with_reducible exact spec_StepOfFall.mono _ _ _)
      | (with_reducible exact LeO.refl _)
      | (with_reducible exact LeO.none _)
      | (with_reducible refine LeO.ite ?_ ?_)
      | (with_reducible refine LeO.bind ?_ (fun _ => ?_))
      | exact ih0 _ _ _ _ _ _ _
      | exact ih1 _ _ _ _ _ _ _ _ _ _
      | exact ih2 _ _ _ _
      | exact ih3 _ _ _ _ _
      | exact ih4 _ _ _ _ _ _ _ _ _
      | exact ih5 _ _ _ _ _ _ _ _ _
      | exact ih6 _ _ _ _ _ _ _ _ _ _ _ _
      | exact impl_CountByCounting.mono _ _ _
      | exact impl_LeftByCounting.mono _ _ _
      | exact impl_NumberOfRank.mono _ _ _
      | exact impl_RankBehind.mono _ _ _
      | exact impl_StepOfFall.mono _ _ _
      | exact laws_tHas.mono _ _ _
      | exact laws_tRises.mono _ _ _ _
      | exact laws_tSame.mono _ _ _
      | exact spec_CountByCounting.mono _ _ _
      | exact spec_IsStepList.mono _ _
      | exact spec_LeftByCounting.mono _ _ _
      | exact spec_NumberOfRank.mono _ _ _
      | exact spec_RankBehind.mono _ _ _
      | exact spec_StepOfFall.mono _ _ _
      | exact LeO.none _
      | refine LeO.ite ?_ ?_
      | refine LeO.bind ?_ (fun _ => ?_)
    · intro y0 y1 y2 y3 y4
      unfold laws_FnCountedAnewOfAll.j6
      repeat' first
      | (with_reducible exact ih0 _ _ _ _ _ _ _)
      | (with_reducible exact ih1 _ _ _ _ _ _ _ _ _ _)
      | (with_reducible exact ih2 _ _ _ _)
      | (with_reducible exact ih3 _ _ _ _ _)
      | (with_reducible exact ih4 _ _ _ _ _ _ _ _ _)
      | (with_reducible exact ih5 _ _ _ _ _ _ _ _ _)
      | (with_reducible exact ih6 _ _ _ _ _ _ _ _ _ _ _ _)
      | (with_reducible exact impl_CountByCounting.mono _ _ _)
      | (with_reducible exact impl_LeftByCounting.mono _ _ _)
      | (with_reducible exact impl_NumberOfRank.mono _ _ _)
      | (with_reducible exact impl_RankBehind.mono _ _ _)
      | (with_reducible exact impl_StepOfFall.mono _ _ _)
      | (with_reducible exact laws_tHas.mono _ _ _)
      | (with_reducible exact laws_tRises.mono _ _ _ _)
      | (with_reducible exact laws_tSame.mono _ _ _)
      | (with_reducible exact spec_CountByCounting.mono _ _ _)
      | (with_reducible exact spec_IsStepList.mono _ _)
      | (with_reducible exact spec_LeftByCounting.mono _ _ _)
      | (with_reducible exact spec_NumberOfRank.mono _ _ _)
      | (with_reducible exact spec_RankBehind.mono _ _ _)
      | (with_reducible exact spec_StepOfFall.mono _ _ _)
      | (with_reducible exact LeO.refl _)
      | (with_reducible exact LeO.none _)
      | (with_reducible refine LeO.ite ?_ ?_)
      | (with_reducible refine LeO.bind ?_ (fun _ => ?_))
      | exact ih0 _ _ _ _ _ _ _
      | exact ih1 _ _ _ _ _ _ _ _ _ _
      | exact ih2 _ _ _ _
      | exact ih3 _ _ _ _ _
      | exact ih4 _ _ _ _ _ _ _ _ _
      | exact ih5 _ _ _ _ _ _ _ _ _
      | exact ih6 _ _ _ _ _ _ _ _ _ _ _ _
      | exact impl_CountByCounting.mono _ _ _
      | exact impl_LeftByCounting.mono _ _ _
      | exact impl_NumberOfRank.mono _ _ _
      | exact impl_RankBehind.mono _ _ _
      | exact impl_StepOfFall.mono _ _ _
      | exact laws_tHas.mono _ _ _
      | exact laws_tRises.mono _ _ _ _
      | exact laws_tSame.mono _ _ _
      | exact spec_CountByCounting.mono _ _ _
      | exact spec_IsStepList.mono _ _
      | exact spec_LeftByCounting.mono _ _ _
      | exact spec_NumberOfRank.mono _ _ _
      | exact spec_RankBehind.mono _ _ _
      | exact spec_StepOfFall.mono _ _ _
      | exact LeO.none _
      | refine LeO.ite ?_ ?_
      | refine LeO.bind ?_ (fun _ => ?_)
    · intro y0 y1 y2 y3 y4 y5 y6 y7 y8
      unfold laws_FnCountedAnewOfAll.j2
      repeat' first
      | (with_reducible exact ih0 _ _ _ _ _ _ _)
      | (with_reducible exact ih1 _ _ _ _ _ _ _ _ _ _)
      | (with_reducible exact ih2 _ _ _ _)
      | (with_reducible exact ih3 _ _ _ _ _)
      | (with_reducible exact ih4 _ _ _ _ _ _ _ _ _)
      | (with_reducible exact ih5 _ _ _ _ _ _ _ _ _)
      | (with_reducible exact ih6 _ _ _ _ _ _ _ _ _ _ _ _)
      | (with_reducible exact impl_CountByCounting.mono _ _ _)
      | (with_reducible exact impl_LeftByCounting.mono _ _ _)
      | (with_reducible exact impl_NumberOfRank.mono _ _ _)
      | (with_reducible exact impl_RankBehind.mono _ _ _)
      | (with_reducible exact impl_StepOfFall.mono _ _ _)
      | (with_reducible exact laws_tHas.mono _ _ _)
      | (with_reducible exact laws_tRises.mono _ _ _ _)
      | (with_reducible exact laws_tSame.mono _ _ _)
      | (with_reducible exact spec_CountByCounting.mono _ _ _)
      | (with_reducible exact spec_IsStepList.mono _ _)
      | (with_reducible exact spec_LeftByCounting.mono _ _ _)
      | (with_reducible exact spec_NumberOfRank.mono _ _ _)
      | (with_reducible exact spec_RankBehind.mono _ _ _)
      | (with_reducible exact spec_StepOfFall.mono _ _ _)
      | (with_reducible exact LeO.refl _)
      | (with_reducible exact LeO.none _)
      | (with_reducible refine LeO.ite ?_ ?_)
      | (with_reducible refine LeO.bind ?_ (fun _ => ?_))
      | exact ih0 _ _ _ _ _ _ _
      | exact ih1 _ _ _ _ _ _ _ _ _ _
      | exact ih2 _ _ _ _
      | exact ih3 _ _ _ _ _
      | exact ih4 _ _ _ _ _ _ _ _ _
      | exact ih5 _ _ _ _ _ _ _ _ _
      | exact ih6 _ _ _ _ _ _ _ _ _ _ _ _
      | exact impl_CountByCounting.mono _ _ _
      | exact impl_LeftByCounting.mono _ _ _
      | exact impl_NumberOfRank.mono _ _ _
      | exact impl_RankBehind.mono _ _ _
      | exact impl_StepOfFall.mono _ _ _
      | exact laws_tHas.mono _ _ _
      | exact laws_tRises.mono _ _ _ _
      | exact laws_tSame.mono _ _ _
      | exact spec_CountByCounting.mono _ _ _
      | exact spec_IsStepList.mono _ _
      | exact spec_LeftByCounting.mono _ _ _
      | exact spec_NumberOfRank.mono _ _ _
      | exact spec_RankBehind.mono _ _ _
      | exact spec_StepOfFall.mono _ _ _
      | exact LeO.none _
      | refine LeO.ite ?_ ?_
      | refine LeO.bind ?_ (fun _ => ?_)
    · intro y0 y1 y2 y3 y4 y5 y6 y7 y8
      unfold laws_FnCountedAnewOfAll.l0
      repeat' first
      | (with_reducible exact ih0 _ _ _ _ _ _ _)
      | (with_reducible exact ih1 _ _ _ _ _ _ _ _ _ _)
      | (with_reducible exact ih2 _ _ _ _)
      | (with_reducible exact ih3 _ _ _ _ _)
      | (with_reducible exact ih4 _ _ _ _ _ _ _ _ _)
      | (with_reducible exact ih5 _ _ _ _ _ _ _ _ _)
      | (with_reducible exact ih6 _ _ _ _ _ _ _ _ _ _ _ _)
      | (with_reducible exact impl_CountByCounting.mono _ _ _)
      | (with_reducible exact impl_LeftByCounting.mono _ _ _)
      | (with_reducible exact impl_NumberOfRank.mono _ _ _)
      | (with_reducible exact impl_RankBehind.mono _ _ _)
      | (with_reducible exact impl_StepOfFall.mono _ _ _)
      | (with_reducible exact laws_tHas.mono _ _ _)
      | (with_reducible exact laws_tRises.mono _ _ _ _)
      | (with_reducible exact laws_tSame.mono _ _ _)
      | (with_reducible exact spec_CountByCounting.mono _ _ _)
      | (with_reducible exact spec_IsStepList.mono _ _)
      | (with_reducible exact spec_LeftByCounting.mono _ _ _)
      | (with_reducible exact spec_NumberOfRank.mono _ _ _)
      | (with_reducible exact spec_RankBehind.mono _ _ _)
      | (with_reducible exact spec_StepOfFall.mono _ _ _)
      | (with_reducible exact LeO.refl _)
      | (with_reducible exact LeO.none _)
      | (with_reducible refine LeO.ite ?_ ?_)
      | (with_reducible refine LeO.bind ?_ (fun _ => ?_))
      | exact ih0 _ _ _ _ _ _ _
      | exact ih1 _ _ _ _ _ _ _ _ _ _
      | exact ih2 _ _ _ _
      | exact ih3 _ _ _ _ _
      | exact ih4 _ _ _ _ _ _ _ _ _
      | exact ih5 _ _ _ _ _ _ _ _ _
      | exact ih6 _ _ _ _ _ _ _ _ _ _ _ _
      | exact impl_CountByCounting.mono _ _ _
      | exact impl_LeftByCounting.mono _ _ _
      | exact impl_NumberOfRank.mono _ _ _
      | exact impl_RankBehind.mono _ _ _
      | exact impl_StepOfFall.mono _ _ _
      | exact laws_tHas.mono _ _ _
      | exact laws_tRises.mono _ _ _ _
      | exact laws_tSame.mono _ _ _
      | exact spec_CountByCounting.mono _ _ _
      | exact spec_IsStepList.mono _ _
      | exact spec_LeftByCounting.mono _ _ _
      | exact spec_NumberOfRank.mono _ _ _
      | exact spec_RankBehind.mono _ _ _
      | exact spec_StepOfFall.mono _ _ _
      | exact LeO.none _
      | refine LeO.ite ?_ ?_
      | refine LeO.bind ?_ (fun _ => ?_)
    · intro y0 y1 y2 y3 y4 y5 y6 y7 y8 y9 y10 y11
      unfold laws_FnCountedAnewOfAll.j4
      repeat' first
      | (with_reducible exact ih0 _ _ _ _ _ _ _)
      | (with_reducible exact ih1 _ _ _ _ _ _ _ _ _ _)
      | (with_reducible exact ih2 _ _ _ _)
      | (with_reducible exact ih3 _ _ _ _ _)
      | (with_reducible exact ih4 _ _ _ _ _ _ _ _ _)
      | (with_reducible exact ih5 _ _ _ _ _ _ _ _ _)
      | (with_reducible exact ih6 _ _ _ _ _ _ _ _ _ _ _ _)
      | (with_reducible exact impl_CountByCounting.mono _ _ _)
      | (with_reducible exact impl_LeftByCounting.mono _ _ _)
      | (with_reducible exact impl_NumberOfRank.mono _ _ _)
      | (with_reducible exact impl_RankBehind.mono _ _ _)
      | (with_reducible exact impl_StepOfFall.mono _ _ _)
      | (with_reducible exact laws_tHas.mono _ _ _)
      | (with_reducible exact laws_tRises.mono _ _ _ _)
      | (with_reducible exact laws_tSame.mono _ _ _)
      | (with_reducible exact spec_CountByCounting.mono _ _ _)
      | (with_reducible exact spec_IsStepList.mono _ _)
      | (with_reducible exact spec_LeftByCounting.mono _ _ _)
      | (with_reducible exact spec_NumberOfRank.mono _ _ _)
      | (with_reducible exact spec_RankBehind.mono _ _ _)
      | (with_reducible exact spec_StepOfFall.mono _ _ _)
      | (with_reducible exact LeO.refl _)
      | (with_reducible exact LeO.none _)
      | (with_reducible refine LeO.ite ?_ ?_)
      | (with_reducible refine LeO.bind ?_ (fun _ => ?_))
      | exact ih0 _ _ _ _ _ _ _
      | exact ih1 _ _ _ _ _ _ _ _ _ _
      | exact ih2 _ _ _ _
      | exact ih3 _ _ _ _ _
      | exact ih4 _ _ _ _ _ _ _ _ _
      | exact ih5 _ _ _ _ _ _ _ _ _
      | exact ih6 _ _ _ _ _ _ _ _ _ _ _ _
      | exact impl_CountByCounting.mono _ _ _
      | exact impl_LeftByCounting.mono _ _ _
      | exact impl_NumberOfRank.mono _ _ _
      | exact impl_RankBehind.mono _ _ _
      | exact impl_StepOfFall.mono _ _ _
      | exact laws_tHas.mono _ _ _
      | exact laws_tRises.mono _ _ _ _
      | exact laws_tSame.mono _ _ _
      | exact spec_CountByCounting.mono _ _ _
      | exact spec_IsStepList.mono _ _
      | exact spec_LeftByCounting.mono _ _ _
      | exact spec_NumberOfRank.mono _ _ _
      | exact spec_RankBehind.mono _ _ _
      | exact spec_StepOfFall.mono _ _ _
      | exact LeO.none _
      | refine LeO.ite ?_ ?_
      | refine LeO.bind ?_ (fun _ => ?_)
theorem laws_FnCountedAnewOfAll.mono : ∀ a0 a1 a2 a3 a4 a5 k, LeO (laws_FnCountedAnewOfAll.f k a0 a1 a2 a3 a4 a5) (laws_FnCountedAnewOfAll.f (k + 1) a0 a1 a2 a3 a4 a5) := by
  intro a0 a1 a2 a3 a4 a5 k
  obtain ⟨ih0, ih1, ih2, ih3, ih4, ih5, ih6⟩ := laws_FnCountedAnewOfAll.mono_l k
  unfold laws_FnCountedAnewOfAll.f
  repeat' first
      | (with_reducible exact ih0 _ _ _ _ _ _ _)
      | (with_reducible exact ih1 _ _ _ _ _ _ _ _ _ _)
      | (with_reducible exact ih2 _ _ _ _)
      | (with_reducible exact ih3 _ _ _ _ _)
      | (with_reducible exact ih4 _ _ _ _ _ _ _ _ _)
      | (with_reducible exact ih5 _ _ _ _ _ _ _ _ _)
      | (with_reducible exact ih6 _ _ _ _ _ _ _ _ _ _ _ _)
      | (with_reducible exact impl_CountByCounting.mono _ _ _)
      | (with_reducible exact impl_LeftByCounting.mono _ _ _)
      | (with_reducible exact impl_NumberOfRank.mono _ _ _)
      | (with_reducible exact impl_RankBehind.mono _ _ _)
      | (with_reducible exact impl_StepOfFall.mono _ _ _)
      | (with_reducible exact laws_tHas.mono _ _ _)
      | (with_reducible exact laws_tRises.mono _ _ _ _)
      | (with_reducible exact laws_tSame.mono _ _ _)
      | (with_reducible exact spec_CountByCounting.mono _ _ _)
      | (with_reducible exact spec_IsStepList.mono _ _)
      | (with_reducible exact spec_LeftByCounting.mono _ _ _)
      | (with_reducible exact spec_NumberOfRank.mono _ _ _)
      | (with_reducible exact spec_RankBehind.mono _ _ _)
      | (with_reducible exact spec_StepOfFall.mono _ _ _)
      | (with_reducible exact LeO.refl _)
      | (with_reducible exact LeO.none _)
      | (with_reducible refine LeO.ite ?_ ?_)
      | (with_reducible refine LeO.bind ?_ (fun _ => ?_))
      | exact ih0 _ _ _ _ _ _ _
      | exact ih1 _ _ _ _ _ _ _ _ _ _
      | exact ih2 _ _ _ _
      | exact ih3 _ _ _ _ _
      | exact ih4 _ _ _ _ _ _ _ _ _
      | exact ih5 _ _ _ _ _ _ _ _ _
      | exact ih6 _ _ _ _ _ _ _ _ _ _ _ _
      | exact impl_CountByCounting.mono _ _ _
      | exact impl_LeftByCounting.mono _ _ _
      | exact impl_NumberOfRank.mono _ _ _
      | exact impl_RankBehind.mono _ _ _
      | exact impl_StepOfFall.mono _ _ _
      | exact laws_tHas.mono _ _ _
      | exact laws_tRises.mono _ _ _ _
      | exact laws_tSame.mono _ _ _
      | exact spec_CountByCounting.mono _ _ _
      | exact spec_IsStepList.mono _ _
      | exact spec_LeftByCounting.mono _ _ _
      | exact spec_NumberOfRank.mono _ _ _
      | exact spec_RankBehind.mono _ _ _
      | exact spec_StepOfFall.mono _ _ _
      | exact LeO.none _
      | refine LeO.ite ?_ ?_
      | refine LeO.bind ?_ (fun _ => ?_)
/-- So many values at once. -/
theorem ex32_ {V : Type} {P : V → V → V → V → V → V → V → V → V → V → V → V → V → V → V → V → V → V → V → V → V → V → V → V → V → V → V → V → V → V → V → V → Prop} (a0 a1 a2 a3 a4 a5 a6 a7 a8 a9 a10 a11 a12 a13 a14 a15 a16 a17 a18 a19 a20 a21 a22 a23 a24 a25 a26 a27 a28 a29 a30 a31 : V) (h : P a0 a1 a2 a3 a4 a5 a6 a7 a8 a9 a10 a11 a12 a13 a14 a15 a16 a17 a18 a19 a20 a21 a22 a23 a24 a25 a26 a27 a28 a29 a30 a31) : ∃ a0 a1 a2 a3 a4 a5 a6 a7 a8 a9 a10 a11 a12 a13 a14 a15 a16 a17 a18 a19 a20 a21 a22 a23 a24 a25 a26 a27 a28 a29 a30 a31, P a0 a1 a2 a3 a4 a5 a6 a7 a8 a9 a10 a11 a12 a13 a14 a15 a16 a17 a18 a19 a20 a21 a22 a23 a24 a25 a26 a27 a28 a29 a30 a31 := ⟨a0, a1, a2, a3, a4, a5, a6, a7, a8, a9, a10, a11, a12, a13, a14, a15, a16, a17, a18, a19, a20, a21, a22, a23, a24, a25, a26, a27, a28, a29, a30, a31, h⟩
set_option maxHeartbeats 8000000 in
set_option maxRecDepth 100000 in
theorem laws_FnCountedAnewOfAll.calls (k : Nat) (A0 : Option Addr) (c0 : Nat) (l0 : List Int) (a1 : Int) (A2 : Option Addr) (c2 : Nat) (l2 : List Int) (a3 : Int) (A4 : Option Addr) (c4 : Nat) (l4 : List Int) (a5 : Int) (r : Bool) (w : World) (hr0 : Kd.C (Kd.int .i64) w A0 l0.length l0) (hc0 : l0.length ≤ c0) (hr2 : Kd.C (Kd.int .i64) w A2 l2.length l2) (hc2 : l2.length ≤ c2) (hr4 : Kd.C (Kd.int .i64) w A4 l4.length l4) (hc4 : l4.length ≤ c4) (h : laws_FnCountedAnewOfAll.f k l0 a1 l2 a3 l4 a5 = some r) :
    Calls Try.prog 4 #[.slice A0 l0.length c0, .int .i64 a1, .slice A2 l2.length c2, .int .i64 a3, .slice A4 l4.length c4, .int .i64 a5] w fun e w' => e = .returned (.bool r) ∧ Below w.heap.size w w' := by
  have HR0 := Aside0.mk hr0
  have HC0 := Aside0.mk hc0
  clear hr0 hc0
  have HR2 := Aside0.mk hr2
  have HC2 := Aside0.mk hc2
  clear hr2 hc2
  have HR4 := Aside0.mk hr4
  have HC4 := Aside0.mk hc4
  clear hr4 hc4
  have HB := Aside0.mk (Below.refl w.heap.size w)
  have H : (if (l0.length : Int) > 10000 then (laws_FnCountedAnewOfAll.j0 k l0 a1 l2 a3 l4 a5 true) else (if (l2.length : Int) > 10000 then (laws_FnCountedAnewOfAll.j0 k l0 a1 l2 a3 l4 a5 true) else (laws_FnCountedAnewOfAll.j0 k l0 a1 l2 a3 l4 a5 (decide ((l4.length : Int) > 10000))))) = some r := h
  clear h
  have HC7 := Aside0.mk H
  clear H
  go_enter Try.func4, Try.ntmps4
  go_upto_region 1 with (fail)
  go_cut [57] (fun v57 wc => ∃ (kq : Nat) (x57_6 : Bool), v57 = .bool x57_6 ∧ Aside0 (laws_FnCountedAnewOfAll.j0 kq l0 a1 l2 a3 l4 a5 x57_6 = some r) ∧ Aside0 (kq ≤ k) ∧ Aside0 (Below w.heap.size w wc))
  case first =>
    have H := HC7.out
    clear HC7
    by_cases c8 : (l0.length : Int) > 10000
    · rw [if_pos c8] at H
      have c8b0 : decide (10000 < (l0.length : Int)) = true := decide_eq_true c8
      have c8b1 : decide (10000 < l0.length) = true := decide_eq_true (by omega)
      clear c8
      (first | rw [c8b0] | (simp only [i64_w, i32_w]; rw [c8b0]) | skip)
      have H' := Aside0.mk H
      clear H
      go_wp2
      refine Met.intro ?_
      go_step
      (repeat apply ex32_)
      (repeat apply Exists.intro)
      refine ⟨?rel, rfl⟩
      case rel => exact ⟨_, (true), (by first | rfl | (simp; done) | (simp [*]; done)), H', ⟨by first | omega | exact Nat.le_refl _⟩, ⟨by repeat (first | (with_reducible first | exact HB.out | apply below_alloc | apply pw_below_drewN | apply below_drew1) | exact HB.out)⟩⟩
    · rw [if_neg c8] at H
      have c8b0 : decide (10000 < (l0.length : Int)) = false := decide_eq_false c8
      have c8b1 : decide (10000 < l0.length) = false := decide_eq_false (by omega)
      clear c8
      (first | rw [c8b0] | (simp only [i64_w, i32_w]; rw [c8b0]) | skip)
      by_cases c9 : (l2.length : Int) > 10000
      · rw [if_pos c9] at H
        have c9b0 : decide (10000 < (l2.length : Int)) = true := decide_eq_true c9
        have c9b1 : decide (10000 < l2.length) = true := decide_eq_true (by omega)
        clear c9
        have H' := Aside0.mk H
        clear H
        go_wp2
        refine Met.intro ?_
        go_step
        (repeat apply ex32_)
        (repeat apply Exists.intro)
        refine ⟨?rel, rfl⟩
        case rel => exact ⟨_, (true), (by first | rfl | (simp; done) | (simp [*]; done)), H', ⟨by first | omega | exact Nat.le_refl _⟩, ⟨by repeat (first | (with_reducible first | exact HB.out | apply below_alloc | apply pw_below_drewN | apply below_drew1) | exact HB.out)⟩⟩
      · rw [if_neg c9] at H
        have c9b0 : decide (10000 < (l2.length : Int)) = false := decide_eq_false c9
        have c9b1 : decide (10000 < l2.length) = false := decide_eq_false (by omega)
        clear c9
        have H' := Aside0.mk H
        clear H
        go_wp2
        refine Met.intro ?_
        go_step
        (repeat apply ex32_)
        (repeat apply Exists.intro)
        refine ⟨?rel, rfl⟩
        case rel => exact ⟨_, (decide ((l4.length : Int) > 10000)), (by first | rfl | (simp; done) | (simp [*]; done)), H', ⟨by first | omega | exact Nat.le_refl _⟩, ⟨by repeat (first | (with_reducible first | exact HB.out | apply below_alloc | apply pw_below_drewN | apply below_drew1) | exact HB.out)⟩⟩
  case rest => as_aux_lemma =>
    clear HC7
    try clear c2
    try clear p2
    try clear c4
    try clear c8
    try clear c8b0
    try clear c8b1
    try clear c9
    try clear c9b0
    try clear c9b1
    obtain ⟨kq, x57_6, rfl, HA, HJ6, HB⟩ := hcut
    cases kq with
    | zero => exact absurd HA.out (by simp [laws_FnCountedAnewOfAll.j0])
    | succ kj6 =>
      have H := HA.out
      clear HA
      simp only [laws_FnCountedAnewOfAll.j0] at H
      by_cases c10 : x57_6 = true
      · subst c10
        have H1 : (some true) = some r := by rw [if_pos rfl] at H; exact H
        clear H
        have H := H1
        clear H1
        obtain rfl := Option.some.inj H
        go_wp2
        go_ret
        exact ⟨by first | rfl | (simp [errW_none, errW_some] <;> rfl) | (simp [*, errW_none, errW_some] <;> rfl), by repeat (first | (with_reducible first | exact HB.out | apply below_alloc | apply pw_below_drewN | apply below_drew1) | exact HB.out)⟩
      · replace c10 := Bool.eq_false_iff.mpr c10
        subst c10
        have H1 : ((impl_LeftByCounting.f kj6 l0 a1).bind fun bt186 => ((spec_LeftByCounting.f kj6 l0 a1).bind fun bt190 => ((impl_CountByCounting.f kj6 l0 a1).bind fun bt194 => ((spec_CountByCounting.f kj6 l0 a1).bind fun bt196 => (if (bt186.2 != bt190.2) = true then (laws_FnCountedAnewOfAll.j1 kj6 l0 a1 l2 a3 l4 a5 bt186.1 bt186.2 bt194.1 true) else ((laws_tSame.f kj6 bt186.1 bt190.1).bind fun t198 => (if t198 = true then (if (bt194.2 != bt196.2) = true then (laws_FnCountedAnewOfAll.j1 kj6 l0 a1 l2 a3 l4 a5 bt186.1 bt186.2 bt194.1 true) else (if bt194.1 = bt196.1 then (if (bt194.2 != bt186.2) = true then (laws_FnCountedAnewOfAll.j1 kj6 l0 a1 l2 a3 l4 a5 bt186.1 bt186.2 bt194.1 true) else (if bt186.2 = true then ((impl_IsStepList.f l0).bind fun t199 => (if t199 = true then ((impl_IsStepList.f l0).bind fun t200 => ((spec_IsStepList.f kj6 l0).bind fun t201 => (laws_FnCountedAnewOfAll.j1 kj6 l0 a1 l2 a3 l4 a5 bt186.1 bt186.2 bt194.1 (t200 != t201)))) else (laws_FnCountedAnewOfAll.j1 kj6 l0 a1 l2 a3 l4 a5 bt186.1 bt186.2 bt194.1 true))) else ((impl_IsStepList.f l0).bind fun t202 => ((spec_IsStepList.f kj6 l0).bind fun t203 => (laws_FnCountedAnewOfAll.j1 kj6 l0 a1 l2 a3 l4 a5 bt186.1 bt186.2 bt194.1 (t202 != t203)))))) else (laws_FnCountedAnewOfAll.j1 kj6 l0 a1 l2 a3 l4 a5 bt186.1 bt186.2 bt194.1 true))) else (laws_FnCountedAnewOfAll.j1 kj6 l0 a1 l2 a3 l4 a5 bt186.1 bt186.2 bt194.1 true)))))))) = some r := by rw [if_neg (show ¬ (false = true) by decide)] at H; exact H
        clear H
        have H := H1
        clear H1
        replace H := Option.bind_eq_some_iff.mp H
        obtain ⟨⟨t186, t187⟩, A110, H⟩ := H
        replace H : ((spec_LeftByCounting.f kj6 l0 a1).bind fun bt190 => ((impl_CountByCounting.f kj6 l0 a1).bind fun bt194 => ((spec_CountByCounting.f kj6 l0 a1).bind fun bt196 => (if (t187 != bt190.2) = true then (laws_FnCountedAnewOfAll.j1 kj6 l0 a1 l2 a3 l4 a5 t186 t187 bt194.1 true) else ((laws_tSame.f kj6 t186 bt190.1).bind fun t198 => (if t198 = true then (if (bt194.2 != bt196.2) = true then (laws_FnCountedAnewOfAll.j1 kj6 l0 a1 l2 a3 l4 a5 t186 t187 bt194.1 true) else (if bt194.1 = bt196.1 then (if (bt194.2 != t187) = true then (laws_FnCountedAnewOfAll.j1 kj6 l0 a1 l2 a3 l4 a5 t186 t187 bt194.1 true) else (if t187 = true then ((impl_IsStepList.f l0).bind fun t199 => (if t199 = true then ((impl_IsStepList.f l0).bind fun t200 => ((spec_IsStepList.f kj6 l0).bind fun t201 => (laws_FnCountedAnewOfAll.j1 kj6 l0 a1 l2 a3 l4 a5 t186 t187 bt194.1 (t200 != t201)))) else (laws_FnCountedAnewOfAll.j1 kj6 l0 a1 l2 a3 l4 a5 t186 t187 bt194.1 true))) else ((impl_IsStepList.f l0).bind fun t202 => ((spec_IsStepList.f kj6 l0).bind fun t203 => (laws_FnCountedAnewOfAll.j1 kj6 l0 a1 l2 a3 l4 a5 t186 t187 bt194.1 (t202 != t203)))))) else (laws_FnCountedAnewOfAll.j1 kj6 l0 a1 l2 a3 l4 a5 t186 t187 bt194.1 true))) else (laws_FnCountedAnewOfAll.j1 kj6 l0 a1 l2 a3 l4 a5 t186 t187 bt194.1 true))))))) = some r := H
        have A11 := Aside0.mk A110
        clear A110
        replace H := Option.bind_eq_some_iff.mp H
        obtain ⟨⟨t190, t191⟩, A120, H⟩ := H
        replace H : ((impl_CountByCounting.f kj6 l0 a1).bind fun bt194 => ((spec_CountByCounting.f kj6 l0 a1).bind fun bt196 => (if (t187 != t191) = true then (laws_FnCountedAnewOfAll.j1 kj6 l0 a1 l2 a3 l4 a5 t186 t187 bt194.1 true) else ((laws_tSame.f kj6 t186 t190).bind fun t198 => (if t198 = true then (if (bt194.2 != bt196.2) = true then (laws_FnCountedAnewOfAll.j1 kj6 l0 a1 l2 a3 l4 a5 t186 t187 bt194.1 true) else (if bt194.1 = bt196.1 then (if (bt194.2 != t187) = true then (laws_FnCountedAnewOfAll.j1 kj6 l0 a1 l2 a3 l4 a5 t186 t187 bt194.1 true) else (if t187 = true then ((impl_IsStepList.f l0).bind fun t199 => (if t199 = true then ((impl_IsStepList.f l0).bind fun t200 => ((spec_IsStepList.f kj6 l0).bind fun t201 => (laws_FnCountedAnewOfAll.j1 kj6 l0 a1 l2 a3 l4 a5 t186 t187 bt194.1 (t200 != t201)))) else (laws_FnCountedAnewOfAll.j1 kj6 l0 a1 l2 a3 l4 a5 t186 t187 bt194.1 true))) else ((impl_IsStepList.f l0).bind fun t202 => ((spec_IsStepList.f kj6 l0).bind fun t203 => (laws_FnCountedAnewOfAll.j1 kj6 l0 a1 l2 a3 l4 a5 t186 t187 bt194.1 (t202 != t203)))))) else (laws_FnCountedAnewOfAll.j1 kj6 l0 a1 l2 a3 l4 a5 t186 t187 bt194.1 true))) else (laws_FnCountedAnewOfAll.j1 kj6 l0 a1 l2 a3 l4 a5 t186 t187 bt194.1 true)))))) = some r := H
        have A12 := Aside0.mk A120
        clear A120
        replace H := Option.bind_eq_some_iff.mp H
        obtain ⟨⟨t194, t195⟩, A130, H⟩ := H
        replace H : ((spec_CountByCounting.f kj6 l0 a1).bind fun bt196 => (if (t187 != t191) = true then (laws_FnCountedAnewOfAll.j1 kj6 l0 a1 l2 a3 l4 a5 t186 t187 t194 true) else ((laws_tSame.f kj6 t186 t190).bind fun t198 => (if t198 = true then (if (t195 != bt196.2) = true then (laws_FnCountedAnewOfAll.j1 kj6 l0 a1 l2 a3 l4 a5 t186 t187 t194 true) else (if t194 = bt196.1 then (if (t195 != t187) = true then (laws_FnCountedAnewOfAll.j1 kj6 l0 a1 l2 a3 l4 a5 t186 t187 t194 true) else (if t187 = true then ((impl_IsStepList.f l0).bind fun t199 => (if t199 = true then ((impl_IsStepList.f l0).bind fun t200 => ((spec_IsStepList.f kj6 l0).bind fun t201 => (laws_FnCountedAnewOfAll.j1 kj6 l0 a1 l2 a3 l4 a5 t186 t187 t194 (t200 != t201)))) else (laws_FnCountedAnewOfAll.j1 kj6 l0 a1 l2 a3 l4 a5 t186 t187 t194 true))) else ((impl_IsStepList.f l0).bind fun t202 => ((spec_IsStepList.f kj6 l0).bind fun t203 => (laws_FnCountedAnewOfAll.j1 kj6 l0 a1 l2 a3 l4 a5 t186 t187 t194 (t202 != t203)))))) else (laws_FnCountedAnewOfAll.j1 kj6 l0 a1 l2 a3 l4 a5 t186 t187 t194 true))) else (laws_FnCountedAnewOfAll.j1 kj6 l0 a1 l2 a3 l4 a5 t186 t187 t194 true))))) = some r := H
        have A13 := Aside0.mk A130
        clear A130
        replace H := Option.bind_eq_some_iff.mp H
        obtain ⟨⟨t196, t197⟩, A140, H⟩ := H
        replace H : (if (t187 != t191) = true then (laws_FnCountedAnewOfAll.j1 kj6 l0 a1 l2 a3 l4 a5 t186 t187 t194 true) else ((laws_tSame.f kj6 t186 t190).bind fun t198 => (if t198 = true then (if (t195 != t197) = true then (laws_FnCountedAnewOfAll.j1 kj6 l0 a1 l2 a3 l4 a5 t186 t187 t194 true) else (if t194 = t196 then (if (t195 != t187) = true then (laws_FnCountedAnewOfAll.j1 kj6 l0 a1 l2 a3 l4 a5 t186 t187 t194 true) else (if t187 = true then ((impl_IsStepList.f l0).bind fun t199 => (if t199 = true then ((impl_IsStepList.f l0).bind fun t200 => ((spec_IsStepList.f kj6 l0).bind fun t201 => (laws_FnCountedAnewOfAll.j1 kj6 l0 a1 l2 a3 l4 a5 t186 t187 t194 (t200 != t201)))) else (laws_FnCountedAnewOfAll.j1 kj6 l0 a1 l2 a3 l4 a5 t186 t187 t194 true))) else ((impl_IsStepList.f l0).bind fun t202 => ((spec_IsStepList.f kj6 l0).bind fun t203 => (laws_FnCountedAnewOfAll.j1 kj6 l0 a1 l2 a3 l4 a5 t186 t187 t194 (t202 != t203)))))) else (laws_FnCountedAnewOfAll.j1 kj6 l0 a1 l2 a3 l4 a5 t186 t187 t194 true))) else (laws_FnCountedAnewOfAll.j1 kj6 l0 a1 l2 a3 l4 a5 t186 t187 t194 true)))) = some r := H
        have A14 := Aside0.mk A140
        clear A140
        have HC15 := Aside0.mk H
        clear H
        go_upto_region 7 with (first | ((with_reducible refine gate_callee (f := 12) rfl ?_); refine goesL_ (some 61) rfl rfl Try.func12 (by kernel_rfl) rfl #[.slice A0 l0.length c0, .int .i64 a1] rfl (by (try simp only [List.map_toArray, List.map_cons, List.map_nil]); first | done | rfl | (simp only [List.length_drop, List.length_take]; rfl)) ?_; (with_reducible refine (impl_LeftByCounting.calls kj6 _ _ l0 a1 t186 t187 _ ?side1 ?side2 A11.out).mono ?_); (case side1 => repeat (first | exact (Kd.C_below HR0.out HB.out) | (with_reducible refine Kd.C_alloc ?_ _) | (with_reducible refine Kd.C_drewN ?_ _) | (with_reducible refine Kd.C_drew ?_))); (case side2 => exact HC0.out); rintro e w16 ⟨v188, rfl, ho0, hb⟩; refine ⟨_, rfl, ?_⟩; have n0_ := Aside0.mk (Kd.R_lower ho0 (below_size (by repeat (first | (with_reducible first | exact HB.out | apply below_alloc | apply pw_below_drewN | apply below_drew1) | exact HB.out)))); have n1_ := Aside0.mk (below_step (by repeat (first | (with_reducible first | exact HB.out | apply below_alloc | apply pw_below_drewN | apply below_drew1) | exact HB.out)) hb); clear HB; have HO189 := n0_; have HB := n1_; clear n0_ n1_; (try clear hb); (try clear hb2); (try clear hk); (try clear hi); (try clear ho0)) | ((with_reducible refine gate_callee (f := 13) rfl ?_); refine goesL_ (some 67) rfl rfl Try.func13 (by kernel_rfl) rfl #[.slice A0 l0.length c0, .int .i64 a1] rfl (by (try simp only [List.map_toArray, List.map_cons, List.map_nil]); first | done | rfl | (simp only [List.length_drop, List.length_take]; rfl)) ?_; (with_reducible refine (spec_LeftByCounting.calls kj6 _ _ l0 a1 t190 t191 _ ?side1 ?side2 A12.out).mono ?_); (case side1 => repeat (first | exact (Kd.C_below HR0.out HB.out) | (with_reducible refine Kd.C_alloc ?_ _) | (with_reducible refine Kd.C_drewN ?_ _) | (with_reducible refine Kd.C_drew ?_))); (case side2 => exact HC0.out); rintro e w17 ⟨v192, rfl, ho0, hb⟩; refine ⟨_, rfl, ?_⟩; have n0_ := Aside0.mk (Kd.R_elder' (by (with_reducible repeat (first | apply Kd.R_alloc | apply Kd.R_drewN | apply Kd.R_drew)); exact HO189.out) (Kd.R_base ho0) hb); have n1_ := Aside0.mk (Kd.R_lower (Kd.R_new' ho0 (Kd.R_lt (by (with_reducible repeat (first | apply Kd.R_alloc | apply Kd.R_drewN | apply Kd.R_drew)); exact HO189.out))) (below_size (by repeat (first | (with_reducible first | exact HB.out | apply below_alloc | apply pw_below_drewN | apply below_drew1) | exact HB.out)))); have n2_ := Aside0.mk (below_step (by repeat (first | (with_reducible first | exact HB.out | apply below_alloc | apply pw_below_drewN | apply below_drew1) | exact HB.out)) hb); clear HO189; clear HB; have HO189 := n0_; have HO193 := n1_; have HB := n2_; clear n0_ n1_ n2_; (try clear hb); (try clear hb2); (try clear hk); (try clear hi); (try clear ho0)) | ((with_reducible refine gate_callee (f := 14) rfl ?_); refine goesL_ (some 73) rfl rfl Try.func14 (by kernel_rfl) rfl #[.slice A0 l0.length c0, .int .i64 a1] rfl (by (try simp only [List.map_toArray, List.map_cons, List.map_nil]); first | done | rfl | (simp only [List.length_drop, List.length_take]; rfl)) ?_; (with_reducible refine (impl_CountByCounting.calls kj6 _ _ l0 a1 t194 t195 _ ?side1 ?side2 A13.out).mono ?_); (case side1 => repeat (first | exact (Kd.C_below HR0.out HB.out) | (with_reducible refine Kd.C_alloc ?_ _) | (with_reducible refine Kd.C_drewN ?_ _) | (with_reducible refine Kd.C_drew ?_))); (case side2 => exact HC0.out); rintro e w18 ⟨rfl, hb⟩; refine ⟨_, rfl, ?_⟩; have n0_ := Aside0.mk (Kd.R_below (by (with_reducible repeat (first | apply Kd.R_alloc | apply Kd.R_drewN | apply Kd.R_drew)); exact HO189.out) hb); have n1_ := Aside0.mk (Kd.R_below (by (with_reducible repeat (first | apply Kd.R_alloc | apply Kd.R_drewN | apply Kd.R_drew)); exact HO193.out) hb); have n2_ := Aside0.mk (below_step (by repeat (first | (with_reducible first | exact HB.out | apply below_alloc | apply pw_below_drewN | apply below_drew1) | exact HB.out)) hb); clear HO189; clear HO193; clear HB; have HO189 := n0_; have HO193 := n1_; have HB := n2_; clear n0_ n1_ n2_; (try clear hb); (try clear hb2); (try clear hk); (try clear hi)) | ((with_reducible refine gate_callee (f := 15) rfl ?_); refine goesL_ (some 79) rfl rfl Try.func15 (by kernel_rfl) rfl #[.slice A0 l0.length c0, .int .i64 a1] rfl (by (try simp only [List.map_toArray, List.map_cons, List.map_nil]); first | done | rfl | (simp only [List.length_drop, List.length_take]; rfl)) ?_; (with_reducible refine (spec_CountByCounting.calls kj6 _ _ l0 a1 t196 t197 _ ?side1 ?side2 A14.out).mono ?_); (case side1 => repeat (first | exact (Kd.C_below HR0.out HB.out) | (with_reducible refine Kd.C_alloc ?_ _) | (with_reducible refine Kd.C_drewN ?_ _) | (with_reducible refine Kd.C_drew ?_))); (case side2 => exact HC0.out); rintro e w' ⟨rfl, ⟨nd, rfl⟩⟩; refine ⟨_, rfl, ?_⟩))
        (try simp only [Act.put, List.setIfInBounds_toArray, List.set_cons_zero, List.set_cons_succ])
        go_cut [120] (fun v120 wc => ∃ (kq : Nat) (x120_14 : Bool), v120 = .bool x120_14 ∧ Aside0 (laws_FnCountedAnewOfAll.j1 kq l0 a1 l2 a3 l4 a5 t186 t187 t194 x120_14 = some r) ∧ Aside0 (kq ≤ kj6) ∧ Aside0 (Kd.R (Kd.int .i64) 3 wc w.heap.size (fun _ => True) v188 t186) ∧ Aside0 (Below w.heap.size w wc))
        case first =>
          have H := HC15.out
          clear HC15
          by_cases c19 : (t187 != t191) = true
          · rw [if_pos c19] at H
            have c19b0 : (t187 != t191) = true := c19
            (try (have c19b1 : decide (t187 = t191) = false := by simpa using c19))
            (try (have c19b2 : (t187 == t191) = false := by simpa using c19))
            (try (have c19b3 : ¬ (t187 = t191) := by simpa using c19))
            clear c19
            (first | rw [c19b0] | (simp only [i64_w, i32_w]; rw [c19b0]) | skip)
            have H' := Aside0.mk H
            clear H
            go_wp2
            refine Met.intro ?_
            go_step
            (repeat apply ex32_)
            (repeat apply Exists.intro)
            refine ⟨?rel, rfl⟩
            case rel => exact ⟨_, (true), (by first | rfl | (simp; done) | (simp [*]; done)), H', ⟨by have := HJ6.out; first | omega | exact Nat.le_refl _⟩, ⟨by (with_reducible repeat (first | apply Kd.R_alloc | apply Kd.R_drewN | apply Kd.R_drew)); exact Kd.R_mono HO189.out (fun _ hk => trivial)⟩, ⟨by repeat (first | (with_reducible first | exact HB.out | apply below_alloc | apply pw_below_drewN | apply below_drew1) | exact HB.out)⟩⟩
          · rw [if_neg c19] at H
            have c19b0 : (t187 != t191) = false := by simpa using c19
            (try (have c19b1 : decide (t187 = t191) = true := by simpa using c19))
            (try (have c19b2 : (t187 == t191) = true := by simpa using c19))
            clear c19
            (first | rw [c19b0] | (simp only [i64_w, i32_w]; rw [c19b0]) | skip)
            replace H := Option.bind_eq_some_iff.mp H
            obtain ⟨t198, A200, H⟩ := H
            replace H : (if t198 = true then (if (t195 != t197) = true then (laws_FnCountedAnewOfAll.j1 kj6 l0 a1 l2 a3 l4 a5 t186 t187 t194 true) else (if t194 = t196 then (if (t195 != t187) = true then (laws_FnCountedAnewOfAll.j1 kj6 l0 a1 l2 a3 l4 a5 t186 t187 t194 true) else (if t187 = true then ((impl_IsStepList.f l0).bind fun t199 => (if t199 = true then ((impl_IsStepList.f l0).bind fun t200 => ((spec_IsStepList.f kj6 l0).bind fun t201 => (laws_FnCountedAnewOfAll.j1 kj6 l0 a1 l2 a3 l4 a5 t186 t187 t194 (t200 != t201)))) else (laws_FnCountedAnewOfAll.j1 kj6 l0 a1 l2 a3 l4 a5 t186 t187 t194 true))) else ((impl_IsStepList.f l0).bind fun t202 => ((spec_IsStepList.f kj6 l0).bind fun t203 => (laws_FnCountedAnewOfAll.j1 kj6 l0 a1 l2 a3 l4 a5 t186 t187 t194 (t202 != t203)))))) else (laws_FnCountedAnewOfAll.j1 kj6 l0 a1 l2 a3 l4 a5 t186 t187 t194 true))) else (laws_FnCountedAnewOfAll.j1 kj6 l0 a1 l2 a3 l4 a5 t186 t187 t194 true)) = some r := H
            have A20 := Aside0.mk A200
            clear A200
            by_cases c21 : t198 = true
            · subst c21
              have H1 : (if (t195 != t197) = true then (laws_FnCountedAnewOfAll.j1 kj6 l0 a1 l2 a3 l4 a5 t186 t187 t194 true) else (if t194 = t196 then (if (t195 != t187) = true then (laws_FnCountedAnewOfAll.j1 kj6 l0 a1 l2 a3 l4 a5 t186 t187 t194 true) else (if t187 = true then ((impl_IsStepList.f l0).bind fun t199 => (if t199 = true then ((impl_IsStepList.f l0).bind fun t200 => ((spec_IsStepList.f kj6 l0).bind fun t201 => (laws_FnCountedAnewOfAll.j1 kj6 l0 a1 l2 a3 l4 a5 t186 t187 t194 (t200 != t201)))) else (laws_FnCountedAnewOfAll.j1 kj6 l0 a1 l2 a3 l4 a5 t186 t187 t194 true))) else ((impl_IsStepList.f l0).bind fun t202 => ((spec_IsStepList.f kj6 l0).bind fun t203 => (laws_FnCountedAnewOfAll.j1 kj6 l0 a1 l2 a3 l4 a5 t186 t187 t194 (t202 != t203)))))) else (laws_FnCountedAnewOfAll.j1 kj6 l0 a1 l2 a3 l4 a5 t186 t187 t194 true))) = some r := by rw [if_pos rfl] at H; exact H
              clear H
              have H := H1
              clear H1
              by_cases c22 : (t195 != t197) = true
              · rw [if_pos c22] at H
                have c22b0 : (t195 != t197) = true := c22
                (try (have c22b1 : decide (t195 = t197) = false := by simpa using c22))
                (try (have c22b2 : (t195 == t197) = false := by simpa using c22))
                (try (have c22b3 : ¬ (t195 = t197) := by simpa using c22))
                clear c22
                have H' := Aside0.mk H
                clear H
                obtain ⟨Ao23, co23, eo23⟩ := Kd.R_slice HO189.out
                subst eo23
                obtain ⟨Ao24, co24, eo24⟩ := Kd.R_slice HO193.out
                subst eo24
                go_wp2_with (first | (go_at_call 16; (with_reducible refine (laws_tSame.calls kj6 _ _ t186 _ _ t190 true _ ?side1 ?side2 ?side3 ?side4 A20.out).mono ?_); (case side1 => repeat (first | exact (Kd.R_reads' HO189.out).2.2 | (with_reducible refine Kd.C_alloc ?_ _) | (with_reducible refine Kd.C_drewN ?_ _) | (with_reducible refine Kd.C_drew ?_))); (case side2 => exact (Kd.R_reads' HO189.out).2.1); (case side3 => repeat (first | exact (Kd.R_reads' HO193.out).2.2 | (with_reducible refine Kd.C_alloc ?_ _) | (with_reducible refine Kd.C_drewN ?_ _) | (with_reducible refine Kd.C_drew ?_))); (case side4 => exact (Kd.R_reads' HO193.out).2.1); rintro e w' ⟨rfl, ⟨nd, rfl⟩⟩))
                refine Met.intro ?_
                go_step
                (repeat apply ex32_)
                (repeat apply Exists.intro)
                refine ⟨?rel, rfl⟩
                case rel => exact ⟨_, (true), (by first | rfl | (simp; done) | (simp [*]; done)), H', ⟨by have := HJ6.out; first | omega | exact Nat.le_refl _⟩, ⟨by (with_reducible repeat (first | apply Kd.R_alloc | apply Kd.R_drewN | apply Kd.R_drew)); exact Kd.R_mono HO189.out (fun _ hk => trivial)⟩, ⟨by repeat (first | (with_reducible first | exact HB.out | apply below_alloc | apply pw_below_drewN | apply below_drew1) | exact HB.out)⟩⟩
              · rw [if_neg c22] at H
                have c22b0 : (t195 != t197) = false := by simpa using c22
                (try (have c22b1 : decide (t195 = t197) = true := by simpa using c22))
                (try (have c22b2 : (t195 == t197) = true := by simpa using c22))
                clear c22
                by_cases c25 : t194 = t196
                · rw [if_pos c25] at H
                  have c25b0 : (t194 == t196) = true := beq_iff_eq.mpr c25
                  have c25b1 : (t194 != t196) = false := bne_eq_false_iff_eq.mpr c25
                  clear c25
                  by_cases c26 : (t195 != t187) = true
                  · rw [if_pos c26] at H
                    have c26b0 : (t195 != t187) = true := c26
                    (try (have c26b1 : decide (t195 = t187) = false := by simpa using c26))
                    (try (have c26b2 : (t195 == t187) = false := by simpa using c26))
                    (try (have c26b3 : ¬ (t195 = t187) := by simpa using c26))
                    clear c26
                    have H' := Aside0.mk H
                    clear H
                    obtain ⟨Ao27, co27, eo27⟩ := Kd.R_slice HO189.out
                    subst eo27
                    obtain ⟨Ao28, co28, eo28⟩ := Kd.R_slice HO193.out
                    subst eo28
                    go_wp2_with (first | (go_at_call 16; (with_reducible refine (laws_tSame.calls kj6 _ _ t186 _ _ t190 true _ ?side1 ?side2 ?side3 ?side4 A20.out).mono ?_); (case side1 => repeat (first | exact (Kd.R_reads' HO189.out).2.2 | (with_reducible refine Kd.C_alloc ?_ _) | (with_reducible refine Kd.C_drewN ?_ _) | (with_reducible refine Kd.C_drew ?_))); (case side2 => exact (Kd.R_reads' HO189.out).2.1); (case side3 => repeat (first | exact (Kd.R_reads' HO193.out).2.2 | (with_reducible refine Kd.C_alloc ?_ _) | (with_reducible refine Kd.C_drewN ?_ _) | (with_reducible refine Kd.C_drew ?_))); (case side4 => exact (Kd.R_reads' HO193.out).2.1); rintro e w' ⟨rfl, ⟨nd, rfl⟩⟩))
                    refine Met.intro ?_
                    go_step
                    (repeat apply ex32_)
                    (repeat apply Exists.intro)
                    refine ⟨?rel, rfl⟩
                    case rel => exact ⟨_, (true), (by first | rfl | (simp; done) | (simp [*]; done)), H', ⟨by have := HJ6.out; first | omega | exact Nat.le_refl _⟩, ⟨by (with_reducible repeat (first | apply Kd.R_alloc | apply Kd.R_drewN | apply Kd.R_drew)); exact Kd.R_mono HO189.out (fun _ hk => trivial)⟩, ⟨by repeat (first | (with_reducible first | exact HB.out | apply below_alloc | apply pw_below_drewN | apply below_drew1) | exact HB.out)⟩⟩
                  · rw [if_neg c26] at H
                    have c26b0 : (t195 != t187) = false := by simpa using c26
                    (try (have c26b1 : decide (t195 = t187) = true := by simpa using c26))
                    (try (have c26b2 : (t195 == t187) = true := by simpa using c26))
                    clear c26
                    by_cases c29 : t187 = true
                    · subst c29
                      have H1 : ((impl_IsStepList.f l0).bind fun t199 => (if t199 = true then ((impl_IsStepList.f l0).bind fun t200 => ((spec_IsStepList.f kj6 l0).bind fun t201 => (laws_FnCountedAnewOfAll.j1 kj6 l0 a1 l2 a3 l4 a5 t186 true t194 (t200 != t201)))) else (laws_FnCountedAnewOfAll.j1 kj6 l0 a1 l2 a3 l4 a5 t186 true t194 true))) = some r := by rw [if_pos rfl] at H; exact H
                      clear H
                      have H := H1
                      clear H1
                      replace H := Option.bind_eq_some_iff.mp H
                      obtain ⟨t199, A300, H⟩ := H
                      replace H : (if t199 = true then ((impl_IsStepList.f l0).bind fun t200 => ((spec_IsStepList.f kj6 l0).bind fun t201 => (laws_FnCountedAnewOfAll.j1 kj6 l0 a1 l2 a3 l4 a5 t186 true t194 (t200 != t201)))) else (laws_FnCountedAnewOfAll.j1 kj6 l0 a1 l2 a3 l4 a5 t186 true t194 true)) = some r := H
                      have A30 := Aside0.mk A300
                      clear A300
                      by_cases c31 : t199 = true
                      · subst c31
                        have H1 : ((impl_IsStepList.f l0).bind fun t200 => ((spec_IsStepList.f kj6 l0).bind fun t201 => (laws_FnCountedAnewOfAll.j1 kj6 l0 a1 l2 a3 l4 a5 t186 true t194 (t200 != t201)))) = some r := by rw [if_pos rfl] at H; exact H
                        clear H
                        have H := H1
                        clear H1
                        replace H := Option.bind_eq_some_iff.mp H
                        obtain ⟨t200, A320, H⟩ := H
                        replace H : ((spec_IsStepList.f kj6 l0).bind fun t201 => (laws_FnCountedAnewOfAll.j1 kj6 l0 a1 l2 a3 l4 a5 t186 true t194 (t200 != t201))) = some r := H
                        have A32 := Aside0.mk A320
                        clear A320
                        have e200 : t200 = true := Option.some.inj (A32.out.symm.trans A30.out)
                        replace H := Option.bind_eq_some_iff.mp H
                        obtain ⟨t201, A330, H⟩ := H
                        replace H : (laws_FnCountedAnewOfAll.j1 kj6 l0 a1 l2 a3 l4 a5 t186 true t194 (t200 != t201)) = some r := H
                        have A33 := Aside0.mk A330
                        clear A330
                        have H' := Aside0.mk H
                        clear H
                        obtain ⟨Ao34, co34, eo34⟩ := Kd.R_slice HO189.out
                        subst eo34
                        obtain ⟨Ao35, co35, eo35⟩ := Kd.R_slice HO193.out
                        subst eo35
                        go_wp2_with (first | (go_at_call 16; (with_reducible refine (laws_tSame.calls kj6 _ _ t186 _ _ t190 true _ ?side1 ?side2 ?side3 ?side4 A20.out).mono ?_); (case side1 => repeat (first | exact (Kd.R_reads' HO189.out).2.2 | (with_reducible refine Kd.C_alloc ?_ _) | (with_reducible refine Kd.C_drewN ?_ _) | (with_reducible refine Kd.C_drew ?_))); (case side2 => exact (Kd.R_reads' HO189.out).2.1); (case side3 => repeat (first | exact (Kd.R_reads' HO193.out).2.2 | (with_reducible refine Kd.C_alloc ?_ _) | (with_reducible refine Kd.C_drewN ?_ _) | (with_reducible refine Kd.C_drew ?_))); (case side4 => exact (Kd.R_reads' HO193.out).2.1); rintro e w' ⟨rfl, ⟨nd, rfl⟩⟩) | (go_at_call 17; (with_reducible refine (impl_IsStepList.calls _ _ l0 true _ ?side1 ?side2 A30.out).mono ?_); (case side1 => repeat (first | exact (Kd.C_below HR0.out (by repeat (first | (with_reducible first | exact HB.out | apply below_alloc | apply pw_below_drewN | apply below_drew1) | exact HB.out))) | (with_reducible refine Kd.C_alloc ?_ _) | (with_reducible refine Kd.C_drewN ?_ _) | (with_reducible refine Kd.C_drew ?_))); (case side2 => exact HC0.out); rintro e w36 ⟨rfl, hb⟩; have n0_ := Aside0.mk (Kd.R_below (by (with_reducible repeat (first | apply Kd.R_alloc | apply Kd.R_drewN | apply Kd.R_drew)); exact HO189.out) hb); have n1_ := Aside0.mk (Kd.R_below (by (with_reducible repeat (first | apply Kd.R_alloc | apply Kd.R_drewN | apply Kd.R_drew)); exact HO193.out) hb); have n2_ := Aside0.mk (below_step (by repeat (first | (with_reducible first | exact HB.out | apply below_alloc | apply pw_below_drewN | apply below_drew1) | exact HB.out)) hb); clear HO189; clear HO193; clear HB; have HO189 := n0_; have HO193 := n1_; have HB := n2_; clear n0_ n1_ n2_; (try clear hb); (try clear hb2); (try clear hk); (try clear hi)) | (go_at_call 17; (with_reducible refine (impl_IsStepList.calls _ _ l0 t200 _ ?side1 ?side2 A32.out).mono ?_); (case side1 => repeat (first | exact (Kd.C_below HR0.out HB.out) | (with_reducible refine Kd.C_alloc ?_ _) | (with_reducible refine Kd.C_drewN ?_ _) | (with_reducible refine Kd.C_drew ?_))); (case side2 => exact HC0.out); rintro e w37 ⟨rfl, hb⟩; have n0_ := Aside0.mk (Kd.R_below (by (with_reducible repeat (first | apply Kd.R_alloc | apply Kd.R_drewN | apply Kd.R_drew)); exact HO189.out) hb); have n1_ := Aside0.mk (Kd.R_below (by (with_reducible repeat (first | apply Kd.R_alloc | apply Kd.R_drewN | apply Kd.R_drew)); exact HO193.out) hb); have n2_ := Aside0.mk (below_step (by repeat (first | (with_reducible first | exact HB.out | apply below_alloc | apply pw_below_drewN | apply below_drew1) | exact HB.out)) hb); clear HO189; clear HO193; clear HB; have HO189 := n0_; have HO193 := n1_; have HB := n2_; clear n0_ n1_ n2_; (try clear hb); (try clear hb2); (try clear hk); (try clear hi)) | (go_at_call 18; (with_reducible refine (spec_IsStepList.calls kj6 _ _ l0 t201 _ ?side1 ?side2 A33.out).mono ?_); (case side1 => repeat (first | exact (Kd.C_below HR0.out HB.out) | (with_reducible refine Kd.C_alloc ?_ _) | (with_reducible refine Kd.C_drewN ?_ _) | (with_reducible refine Kd.C_drew ?_))); (case side2 => exact HC0.out); rintro e w' ⟨rfl, ⟨nd, rfl⟩⟩))
                        refine Met.intro ?_
                        go_step
                        (repeat apply ex32_)
                        (repeat apply Exists.intro)
                        refine ⟨?rel, rfl⟩
                        case rel => exact ⟨_, ((t200 != t201)), (by first | rfl | (simp; done) | (simp [*]; done)), H', ⟨by have := HJ6.out; first | omega | exact Nat.le_refl _⟩, ⟨by (with_reducible repeat (first | apply Kd.R_alloc | apply Kd.R_drewN | apply Kd.R_drew)); exact Kd.R_mono HO189.out (fun _ hk => trivial)⟩, ⟨by repeat (first | (with_reducible first | exact HB.out | apply below_alloc | apply pw_below_drewN | apply below_drew1) | exact HB.out)⟩⟩
                      · replace c31 := Bool.eq_false_iff.mpr c31
                        subst c31
                        have H1 : (laws_FnCountedAnewOfAll.j1 kj6 l0 a1 l2 a3 l4 a5 t186 true t194 true) = some r := by rw [if_neg (show ¬ (false = true) by decide)] at H; exact H
                        clear H
                        have H := H1
                        clear H1
                        have H' := Aside0.mk H
                        clear H
                        obtain ⟨Ao38, co38, eo38⟩ := Kd.R_slice HO189.out
                        subst eo38
                        obtain ⟨Ao39, co39, eo39⟩ := Kd.R_slice HO193.out
                        subst eo39
                        go_wp2_with (first | (go_at_call 16; (with_reducible refine (laws_tSame.calls kj6 _ _ t186 _ _ t190 true _ ?side1 ?side2 ?side3 ?side4 A20.out).mono ?_); (case side1 => repeat (first | exact (Kd.R_reads' HO189.out).2.2 | (with_reducible refine Kd.C_alloc ?_ _) | (with_reducible refine Kd.C_drewN ?_ _) | (with_reducible refine Kd.C_drew ?_))); (case side2 => exact (Kd.R_reads' HO189.out).2.1); (case side3 => repeat (first | exact (Kd.R_reads' HO193.out).2.2 | (with_reducible refine Kd.C_alloc ?_ _) | (with_reducible refine Kd.C_drewN ?_ _) | (with_reducible refine Kd.C_drew ?_))); (case side4 => exact (Kd.R_reads' HO193.out).2.1); rintro e w' ⟨rfl, ⟨nd, rfl⟩⟩) | (go_at_call 17; (with_reducible refine (impl_IsStepList.calls _ _ l0 false _ ?side1 ?side2 A30.out).mono ?_); (case side1 => repeat (first | exact (Kd.C_below HR0.out (by repeat (first | (with_reducible first | exact HB.out | apply below_alloc | apply pw_below_drewN | apply below_drew1) | exact HB.out))) | (with_reducible refine Kd.C_alloc ?_ _) | (with_reducible refine Kd.C_drewN ?_ _) | (with_reducible refine Kd.C_drew ?_))); (case side2 => exact HC0.out); rintro e w40 ⟨rfl, hb⟩; have n0_ := Aside0.mk (Kd.R_below (by (with_reducible repeat (first | apply Kd.R_alloc | apply Kd.R_drewN | apply Kd.R_drew)); exact HO189.out) hb); have n1_ := Aside0.mk (Kd.R_below (by (with_reducible repeat (first | apply Kd.R_alloc | apply Kd.R_drewN | apply Kd.R_drew)); exact HO193.out) hb); have n2_ := Aside0.mk (below_step (by repeat (first | (with_reducible first | exact HB.out | apply below_alloc | apply pw_below_drewN | apply below_drew1) | exact HB.out)) hb); clear HO189; clear HO193; clear HB; have HO189 := n0_; have HO193 := n1_; have HB := n2_; clear n0_ n1_ n2_; (try clear hb); (try clear hb2); (try clear hk); (try clear hi)))
                        refine Met.intro ?_
                        go_step
                        (repeat apply ex32_)
                        (repeat apply Exists.intro)
                        refine ⟨?rel, rfl⟩
                        case rel => exact ⟨_, (true), (by first | rfl | (simp; done) | (simp [*]; done)), H', ⟨by have := HJ6.out; first | omega | exact Nat.le_refl _⟩, ⟨by (with_reducible repeat (first | apply Kd.R_alloc | apply Kd.R_drewN | apply Kd.R_drew)); exact Kd.R_mono HO189.out (fun _ hk => trivial)⟩, ⟨by repeat (first | (with_reducible first | exact HB.out | apply below_alloc | apply pw_below_drewN | apply below_drew1) | exact HB.out)⟩⟩
                    · replace c29 := Bool.eq_false_iff.mpr c29
                      subst c29
                      have H1 : ((impl_IsStepList.f l0).bind fun t202 => ((spec_IsStepList.f kj6 l0).bind fun t203 => (laws_FnCountedAnewOfAll.j1 kj6 l0 a1 l2 a3 l4 a5 t186 false t194 (t202 != t203)))) = some r := by rw [if_neg (show ¬ (false = true) by decide)] at H; exact H
                      clear H
                      have H := H1
                      clear H1
                      replace H := Option.bind_eq_some_iff.mp H
                      obtain ⟨t202, A410, H⟩ := H
                      replace H : ((spec_IsStepList.f kj6 l0).bind fun t203 => (laws_FnCountedAnewOfAll.j1 kj6 l0 a1 l2 a3 l4 a5 t186 false t194 (t202 != t203))) = some r := H
                      have A41 := Aside0.mk A410
                      clear A410
                      replace H := Option.bind_eq_some_iff.mp H
                      obtain ⟨t203, A420, H⟩ := H
                      replace H : (laws_FnCountedAnewOfAll.j1 kj6 l0 a1 l2 a3 l4 a5 t186 false t194 (t202 != t203)) = some r := H
                      have A42 := Aside0.mk A420
                      clear A420
                      have H' := Aside0.mk H
                      clear H
                      obtain ⟨Ao43, co43, eo43⟩ := Kd.R_slice HO189.out
                      subst eo43
                      obtain ⟨Ao44, co44, eo44⟩ := Kd.R_slice HO193.out
                      subst eo44
                      go_wp2_with (first | (go_at_call 16; (with_reducible refine (laws_tSame.calls kj6 _ _ t186 _ _ t190 true _ ?side1 ?side2 ?side3 ?side4 A20.out).mono ?_); (case side1 => repeat (first | exact (Kd.R_reads' HO189.out).2.2 | (with_reducible refine Kd.C_alloc ?_ _) | (with_reducible refine Kd.C_drewN ?_ _) | (with_reducible refine Kd.C_drew ?_))); (case side2 => exact (Kd.R_reads' HO189.out).2.1); (case side3 => repeat (first | exact (Kd.R_reads' HO193.out).2.2 | (with_reducible refine Kd.C_alloc ?_ _) | (with_reducible refine Kd.C_drewN ?_ _) | (with_reducible refine Kd.C_drew ?_))); (case side4 => exact (Kd.R_reads' HO193.out).2.1); rintro e w' ⟨rfl, ⟨nd, rfl⟩⟩) | (go_at_call 17; (with_reducible refine (impl_IsStepList.calls _ _ l0 t202 _ ?side1 ?side2 A41.out).mono ?_); (case side1 => repeat (first | exact (Kd.C_below HR0.out (by repeat (first | (with_reducible first | exact HB.out | apply below_alloc | apply pw_below_drewN | apply below_drew1) | exact HB.out))) | (with_reducible refine Kd.C_alloc ?_ _) | (with_reducible refine Kd.C_drewN ?_ _) | (with_reducible refine Kd.C_drew ?_))); (case side2 => exact HC0.out); rintro e w45 ⟨rfl, hb⟩; have n0_ := Aside0.mk (Kd.R_below (by (with_reducible repeat (first | apply Kd.R_alloc | apply Kd.R_drewN | apply Kd.R_drew)); exact HO189.out) hb); have n1_ := Aside0.mk (Kd.R_below (by (with_reducible repeat (first | apply Kd.R_alloc | apply Kd.R_drewN | apply Kd.R_drew)); exact HO193.out) hb); have n2_ := Aside0.mk (below_step (by repeat (first | (with_reducible first | exact HB.out | apply below_alloc | apply pw_below_drewN | apply below_drew1) | exact HB.out)) hb); clear HO189; clear HO193; clear HB; have HO189 := n0_; have HO193 := n1_; have HB := n2_; clear n0_ n1_ n2_; (try clear hb); (try clear hb2); (try clear hk); (try clear hi)) | (go_at_call 18; (with_reducible refine (spec_IsStepList.calls kj6 _ _ l0 t203 _ ?side1 ?side2 A42.out).mono ?_); (case side1 => repeat (first | exact (Kd.C_below HR0.out HB.out) | (with_reducible refine Kd.C_alloc ?_ _) | (with_reducible refine Kd.C_drewN ?_ _) | (with_reducible refine Kd.C_drew ?_))); (case side2 => exact HC0.out); rintro e w' ⟨rfl, ⟨nd, rfl⟩⟩))
                      refine Met.intro ?_
                      go_step
                      (repeat apply ex32_)
                      (repeat apply Exists.intro)
                      refine ⟨?rel, rfl⟩
                      case rel => exact ⟨_, ((t202 != t203)), (by first | rfl | (simp; done) | (simp [*]; done)), H', ⟨by have := HJ6.out; first | omega | exact Nat.le_refl _⟩, ⟨by (with_reducible repeat (first | apply Kd.R_alloc | apply Kd.R_drewN | apply Kd.R_drew)); exact Kd.R_mono HO189.out (fun _ hk => trivial)⟩, ⟨by repeat (first | (with_reducible first | exact HB.out | apply below_alloc | apply pw_below_drewN | apply below_drew1) | exact HB.out)⟩⟩
                · rw [if_neg c25] at H
                  have c25b0 : (t194 == t196) = false := beq_eq_false_iff_ne.mpr c25
                  have c25b1 : (t194 != t196) = true := bne_iff_ne.mpr c25
                  have H' := Aside0.mk H
                  clear H
                  obtain ⟨Ao46, co46, eo46⟩ := Kd.R_slice HO189.out
                  subst eo46
                  obtain ⟨Ao47, co47, eo47⟩ := Kd.R_slice HO193.out
                  subst eo47
                  go_wp2_with (first | (go_at_call 16; (with_reducible refine (laws_tSame.calls kj6 _ _ t186 _ _ t190 true _ ?side1 ?side2 ?side3 ?side4 A20.out).mono ?_); (case side1 => repeat (first | exact (Kd.R_reads' HO189.out).2.2 | (with_reducible refine Kd.C_alloc ?_ _) | (with_reducible refine Kd.C_drewN ?_ _) | (with_reducible refine Kd.C_drew ?_))); (case side2 => exact (Kd.R_reads' HO189.out).2.1); (case side3 => repeat (first | exact (Kd.R_reads' HO193.out).2.2 | (with_reducible refine Kd.C_alloc ?_ _) | (with_reducible refine Kd.C_drewN ?_ _) | (with_reducible refine Kd.C_drew ?_))); (case side4 => exact (Kd.R_reads' HO193.out).2.1); rintro e w' ⟨rfl, ⟨nd, rfl⟩⟩))
                  refine Met.intro ?_
                  go_step
                  (repeat apply ex32_)
                  (repeat apply Exists.intro)
                  refine ⟨?rel, rfl⟩
                  case rel => exact ⟨_, (true), (by first | rfl | (simp; done) | (simp [*]; done)), H', ⟨by have := HJ6.out; first | omega | exact Nat.le_refl _⟩, ⟨by (with_reducible repeat (first | apply Kd.R_alloc | apply Kd.R_drewN | apply Kd.R_drew)); exact Kd.R_mono HO189.out (fun _ hk => trivial)⟩, ⟨by repeat (first | (with_reducible first | exact HB.out | apply below_alloc | apply pw_below_drewN | apply below_drew1) | exact HB.out)⟩⟩
            · replace c21 := Bool.eq_false_iff.mpr c21
              subst c21
              have H1 : (laws_FnCountedAnewOfAll.j1 kj6 l0 a1 l2 a3 l4 a5 t186 t187 t194 true) = some r := by rw [if_neg (show ¬ (false = true) by decide)] at H; exact H
              clear H
              have H := H1
              clear H1
              have H' := Aside0.mk H
              clear H
              obtain ⟨Ao48, co48, eo48⟩ := Kd.R_slice HO189.out
              subst eo48
              obtain ⟨Ao49, co49, eo49⟩ := Kd.R_slice HO193.out
              subst eo49
              go_wp2_with (first | (go_at_call 16; (with_reducible refine (laws_tSame.calls kj6 _ _ t186 _ _ t190 false _ ?side1 ?side2 ?side3 ?side4 A20.out).mono ?_); (case side1 => repeat (first | exact (Kd.R_reads' HO189.out).2.2 | (with_reducible refine Kd.C_alloc ?_ _) | (with_reducible refine Kd.C_drewN ?_ _) | (with_reducible refine Kd.C_drew ?_))); (case side2 => exact (Kd.R_reads' HO189.out).2.1); (case side3 => repeat (first | exact (Kd.R_reads' HO193.out).2.2 | (with_reducible refine Kd.C_alloc ?_ _) | (with_reducible refine Kd.C_drewN ?_ _) | (with_reducible refine Kd.C_drew ?_))); (case side4 => exact (Kd.R_reads' HO193.out).2.1); rintro e w' ⟨rfl, ⟨nd, rfl⟩⟩))
              refine Met.intro ?_
              go_step
              (repeat apply ex32_)
              (repeat apply Exists.intro)
              refine ⟨?rel, rfl⟩
              case rel => exact ⟨_, (true), (by first | rfl | (simp; done) | (simp [*]; done)), H', ⟨by have := HJ6.out; first | omega | exact Nat.le_refl _⟩, ⟨by (with_reducible repeat (first | apply Kd.R_alloc | apply Kd.R_drewN | apply Kd.R_drew)); exact Kd.R_mono HO189.out (fun _ hk => trivial)⟩, ⟨by repeat (first | (with_reducible first | exact HB.out | apply below_alloc | apply pw_below_drewN | apply below_drew1) | exact HB.out)⟩⟩
        case rest => as_aux_lemma =>
          clear HC15
          try clear c1
          try clear c2
          try clear p2
          try clear c3
          try clear c4
          try clear c8
          try clear c8b0
          try clear c8b1
          try clear c9
          try clear c9b0
          try clear c9b1
          try clear c10
          try clear c12
          try clear c13
          try clear c14
          try clear c15
          try clear c19
          try clear c19b0
          try clear c19b1
          try clear c19b2
          try clear c21
          try clear c22
          try clear c22b0
          try clear c22b1
          try clear c22b2
          try clear c25
          try clear c25b0
          try clear c25b1
          try clear c26
          try clear c26b0
          try clear c26b1
          try clear c26b2
          try clear c29
          try clear c31
          try clear p2
          obtain ⟨kq, x120_14, rfl, HA, HJ14, HO_13, HB⟩ := hcut
          cases kq with
          | zero => exact absurd HA.out (by simp [laws_FnCountedAnewOfAll.j1])
          | succ kj14 =>
            have H := HA.out
            clear HA
            simp only [laws_FnCountedAnewOfAll.j1] at H
            by_cases c50 : x120_14 = true
            · subst c50
              have H1 : (some false) = some r := by rw [if_pos rfl] at H; exact H
              clear H
              have H := H1
              clear H1
              obtain rfl := Option.some.inj H
              go_wp2
              go_ret
              exact ⟨by first | rfl | (simp [errW_none, errW_some] <;> rfl) | (simp [*, errW_none, errW_some] <;> rfl), by repeat (first | (with_reducible first | exact HB.out | apply below_alloc | apply pw_below_drewN | apply below_drew1) | exact HB.out)⟩
            · replace c50 := Bool.eq_false_iff.mpr c50
              subst c50
              have H1 : (if t187 = true then (if (t186.length : Int) = t194 then ((laws_tRises.f kj14 t186 1 a1).bind fun t204 => (laws_FnCountedAnewOfAll.j2 kj14 l0 a1 l2 a3 l4 a5 t186 t194 (!t204))) else (laws_FnCountedAnewOfAll.j2 kj14 l0 a1 l2 a3 l4 a5 t186 t194 true)) else (laws_FnCountedAnewOfAll.j5 kj14 l2 a3 l4 a5)) = some r := by rw [if_neg (show ¬ (false = true) by decide)] at H; exact H
              clear H
              have H := H1
              clear H1
              have HC51 := Aside0.mk H
              clear H
              go_upto_if 121 with (fail)
              go_cut [] (fun wc => ∃ (kq : Nat), Aside0 (laws_FnCountedAnewOfAll.j5 kq l2 a3 l4 a5 = some r) ∧ Aside0 (kq ≤ kj14) ∧ Aside0 (Below w.heap.size w wc))
              case first =>
                have H := HC51.out
                clear HC51
                by_cases c52 : t187 = true
                · subst c52
                  have H1 : (if (t186.length : Int) = t194 then ((laws_tRises.f kj14 t186 1 a1).bind fun t204 => (laws_FnCountedAnewOfAll.j2 kj14 l0 a1 l2 a3 l4 a5 t186 t194 (!t204))) else (laws_FnCountedAnewOfAll.j2 kj14 l0 a1 l2 a3 l4 a5 t186 t194 true)) = some r := by rw [if_pos rfl] at H; exact H
                  clear H
                  have H := H1
                  clear H1
                  have HC53 := Aside0.mk H
                  clear H
                  go_upto_region 10 with (fail)
                  go_cut [131] (fun v131 wc => ∃ (kq : Nat) (x131_52 : Bool), v131 = .bool x131_52 ∧ Aside0 (laws_FnCountedAnewOfAll.j2 kq l0 a1 l2 a3 l4 a5 t186 t194 x131_52 = some r) ∧ Aside0 (kq ≤ kj14) ∧ Aside0 (Kd.R (Kd.int .i64) 3 wc w.heap.size (fun _ => True) v188 t186) ∧ Aside0 (Below w.heap.size w wc))
                  case first =>
                    have H := HC53.out
                    clear HC53
                    by_cases c54 : (t186.length : Int) = t194
                    · rw [if_pos c54] at H
                      have c54b0 : ((t186.length : Int) == t194) = true := beq_iff_eq.mpr c54
                      have c54b1 : ((t186.length : Int) != t194) = false := bne_eq_false_iff_eq.mpr c54
                      clear c54
                      (first | rw [c54b0] | (simp only [i64_w, i32_w]; rw [c54b0]) | skip)
                      replace H := Option.bind_eq_some_iff.mp H
                      obtain ⟨t204, A550, H⟩ := H
                      replace H : (laws_FnCountedAnewOfAll.j2 kj14 l0 a1 l2 a3 l4 a5 t186 t194 (!t204)) = some r := H
                      have A55 := Aside0.mk A550
                      clear A550
                      have H' := Aside0.mk H
                      clear H
                      obtain ⟨Ao56, co56, eo56⟩ := Kd.R_slice HO_13.out
                      subst eo56
                      go_wp2_with (first | (go_at_call 19; (with_reducible refine (laws_tRises.calls kj14 _ _ t186 1 a1 t204 _ ?side1 ?side2 A55.out).mono ?_); (case side1 => repeat (first | exact (Kd.R_reads' HO_13.out).2.2 | (with_reducible refine Kd.C_alloc ?_ _) | (with_reducible refine Kd.C_drewN ?_ _) | (with_reducible refine Kd.C_drew ?_))); (case side2 => exact (Kd.R_reads' HO_13.out).2.1); rintro e w' ⟨rfl, ⟨nd, rfl⟩⟩))
                      refine Met.intro ?_
                      go_step
                      (repeat apply ex32_)
                      (repeat apply Exists.intro)
                      refine ⟨?rel, rfl⟩
                      case rel => exact ⟨_, (!t204), (by first | rfl | (simp; done) | (simp [*]; done)), H', ⟨by have := HJ6.out; have := HJ14.out; first | omega | exact Nat.le_refl _⟩, ⟨by (with_reducible repeat (first | apply Kd.R_alloc | apply Kd.R_drewN | apply Kd.R_drew)); exact HO_13.out⟩, ⟨by repeat (first | (with_reducible first | exact HB.out | apply below_alloc | apply pw_below_drewN | apply below_drew1) | exact HB.out)⟩⟩
                    · rw [if_neg c54] at H
                      have c54b0 : ((t186.length : Int) == t194) = false := beq_eq_false_iff_ne.mpr c54
                      have c54b1 : ((t186.length : Int) != t194) = true := bne_iff_ne.mpr c54
                      (first | rw [c54b0] | (simp only [i64_w, i32_w]; rw [c54b0]) | skip)
                      have H' := Aside0.mk H
                      clear H
                      obtain ⟨Ao57, co57, eo57⟩ := Kd.R_slice HO_13.out
                      subst eo57
                      go_wp2
                      refine Met.intro ?_
                      go_step
                      (repeat apply ex32_)
                      (repeat apply Exists.intro)
                      refine ⟨?rel, rfl⟩
                      case rel => exact ⟨_, (true), (by first | rfl | (simp; done) | (simp [*]; done)), H', ⟨by have := HJ6.out; have := HJ14.out; first | omega | exact Nat.le_refl _⟩, ⟨by (with_reducible repeat (first | apply Kd.R_alloc | apply Kd.R_drewN | apply Kd.R_drew)); exact HO_13.out⟩, ⟨by repeat (first | (with_reducible first | exact HB.out | apply below_alloc | apply pw_below_drewN | apply below_drew1) | exact HB.out)⟩⟩
                  case rest => as_aux_lemma =>
                    clear HC53
                    try clear c1
                    try clear c2
                    try clear p2
                    try clear c3
                    try clear c4
                    try clear c5
                    try clear c8
                    try clear c8b0
                    try clear c8b1
                    try clear c9
                    try clear c9b0
                    try clear c9b1
                    try clear c10
                    try clear c12
                    try clear c13
                    try clear c14
                    try clear c15
                    try clear c19
                    try clear c19b0
                    try clear c19b1
                    try clear c19b2
                    try clear c21
                    try clear c22
                    try clear c22b0
                    try clear c22b1
                    try clear c22b2
                    try clear c25
                    try clear c25b0
                    try clear c25b1
                    try clear c26
                    try clear c26b0
                    try clear c26b1
                    try clear c26b2
                    try clear c29
                    try clear c31
                    try clear c50
                    try clear c52
                    try clear c54
                    try clear c54b0
                    try clear c54b1
                    try clear p2
                    obtain ⟨kq, x131_52, rfl, HA, HJ52, HO_13, HB⟩ := hcut
                    cases kq with
                    | zero => exact absurd HA.out (by simp [laws_FnCountedAnewOfAll.j2])
                    | succ kj52 =>
                      have H := HA.out
                      clear HA
                      simp only [laws_FnCountedAnewOfAll.j2] at H
                      by_cases c58 : x131_52 = true
                      · subst c58
                        have H1 : (some false) = some r := by rw [if_pos rfl] at H; exact H
                        clear H
                        have H := H1
                        clear H1
                        obtain rfl := Option.some.inj H
                        go_wp2
                        go_ret
                        exact ⟨by first | rfl | (simp [errW_none, errW_some] <;> rfl) | (simp [*, errW_none, errW_some] <;> rfl), by repeat (first | (with_reducible first | exact HB.out | apply below_alloc | apply pw_below_drewN | apply below_drew1) | exact HB.out)⟩
                      · replace c58 := Bool.eq_false_iff.mpr c58
                        subst c58
                        have H1 : (laws_FnCountedAnewOfAll.l0 kj52 l0 a1 l2 a3 l4 a5 t186 t194 1) = some r := by rw [if_neg (show ¬ (false = true) by decide)] at H; exact H
                        clear H
                        have H := H1
                        clear H1
                        have H' := Aside0.mk H
                        clear H
                        go_wp2
                        go_loopg [21] kj52 (fun kq v21 w' => ∃ (x21_4 : Int), v21 = .int .i64 x21_4 ∧ Aside0 (laws_FnCountedAnewOfAll.l0 kq l0 a1 l2 a3 l4 a5 t186 t194 x21_4 = some r) ∧ Aside0 (kq ≤ kj52) ∧ Aside0 (Kd.R (Kd.int .i64) 3 w' w.heap.size (fun _ => True) v188 t186) ∧ Aside0 (Below w.heap.size w w'))
                        case atStart => exact ⟨(1), (by first | rfl | (simp; done) | (simp [*]; done)), H', ⟨Nat.le_refl _⟩, ⟨by (with_reducible repeat (first | apply Kd.R_alloc | apply Kd.R_drewN | apply Kd.R_drew)); exact HO_13.out⟩, ⟨by repeat (first | (with_reducible first | exact HB.out | apply below_alloc | apply pw_below_drewN | apply below_drew1) | exact HB.out)⟩⟩
                        case round => as_aux_lemma =>
                          clear H'
                          try clear c1
                          try clear c2
                          try clear p2
                          try clear c3
                          try clear c4
                          try clear c5
                          try clear c8
                          try clear c8b0
                          try clear c8b1
                          try clear c9
                          try clear c9b0
                          try clear c9b1
                          try clear c10
                          try clear c12
                          try clear c13
                          try clear c14
                          try clear c15
                          try clear c19
                          try clear c19b0
                          try clear c19b1
                          try clear c19b2
                          try clear c21
                          try clear c22
                          try clear c22b0
                          try clear c22b1
                          try clear c22b2
                          try clear c25
                          try clear c25b0
                          try clear c25b1
                          try clear c26
                          try clear c26b0
                          try clear c26b1
                          try clear c26b2
                          try clear c29
                          try clear c31
                          try clear c50
                          try clear c52
                          try clear c54
                          try clear c54b0
                          try clear c54b1
                          try clear c58
                          try clear p2
                          obtain ⟨x21_4, rfl, HA, HK4, HO_13, HB⟩ := hrel
                          cases gk with
                          | zero => exact absurd HA.out (by simp [laws_FnCountedAnewOfAll.l0])
                          | succ k4 =>
                            have H := HA.out
                            clear HA
                            simp only [laws_FnCountedAnewOfAll.l0] at H
                            by_cases c59 : x21_4 ≤ a1
                            · rw [if_pos c59] at H
                              have c59b0 : decide (x21_4 ≤ a1) = true := decide_eq_true c59
                              clear c59
                              replace H := Option.bind_eq_some_iff.mp H
                              obtain ⟨⟨t205, t206⟩, A600, H⟩ := H
                              replace H : ((impl_RankBehind.f k4 l0 x21_4).bind fun bt207 => (if (t206 == bt207.2) = true then (laws_FnCountedAnewOfAll.j4 k4 l0 a1 l2 a3 l4 a5 t186 t194 x21_4 bt207.1 bt207.2 true) else ((laws_tHas.f k4 t186 x21_4).bind fun t209 => (if (bt207.2 != t209) = true then (laws_FnCountedAnewOfAll.j4 k4 l0 a1 l2 a3 l4 a5 t186 t194 x21_4 bt207.1 bt207.2 true) else (if t206 = true then (if t205 < 0 then (laws_FnCountedAnewOfAll.j4 k4 l0 a1 l2 a3 l4 a5 t186 t194 x21_4 bt207.1 bt207.2 true) else (if t205 ≥ (l0.length : Int) then (laws_FnCountedAnewOfAll.j4 k4 l0 a1 l2 a3 l4 a5 t186 t194 x21_4 bt207.1 bt207.2 true) else (if bt207.2 = true then (if 0 ≤ bt207.1 then (if bt207.1 < (t186.length : Int) then (laws_FnCountedAnewOfAll.j4 k4 l0 a1 l2 a3 l4 a5 t186 t194 x21_4 bt207.1 bt207.2 ((rd t186 bt207.1) != x21_4)) else (none)) else (none)) else (laws_FnCountedAnewOfAll.j4 k4 l0 a1 l2 a3 l4 a5 t186 t194 x21_4 bt207.1 bt207.2 false)))) else (if bt207.2 = true then (if 0 ≤ bt207.1 then (if bt207.1 < (t186.length : Int) then (laws_FnCountedAnewOfAll.j4 k4 l0 a1 l2 a3 l4 a5 t186 t194 x21_4 bt207.1 bt207.2 ((rd t186 bt207.1) != x21_4)) else (none)) else (none)) else (laws_FnCountedAnewOfAll.j4 k4 l0 a1 l2 a3 l4 a5 t186 t194 x21_4 bt207.1 bt207.2 false))))))) = some r := H
                              have A60 := Aside0.mk A600
                              clear A600
                              replace H := Option.bind_eq_some_iff.mp H
                              obtain ⟨⟨t207, t208⟩, A610, H⟩ := H
                              replace H : (if (t206 == t208) = true then (laws_FnCountedAnewOfAll.j4 k4 l0 a1 l2 a3 l4 a5 t186 t194 x21_4 t207 t208 true) else ((laws_tHas.f k4 t186 x21_4).bind fun t209 => (if (t208 != t209) = true then (laws_FnCountedAnewOfAll.j4 k4 l0 a1 l2 a3 l4 a5 t186 t194 x21_4 t207 t208 true) else (if t206 = true then (if t205 < 0 then (laws_FnCountedAnewOfAll.j4 k4 l0 a1 l2 a3 l4 a5 t186 t194 x21_4 t207 t208 true) else (if t205 ≥ (l0.length : Int) then (laws_FnCountedAnewOfAll.j4 k4 l0 a1 l2 a3 l4 a5 t186 t194 x21_4 t207 t208 true) else (if t208 = true then (if 0 ≤ t207 then (if t207 < (t186.length : Int) then (laws_FnCountedAnewOfAll.j4 k4 l0 a1 l2 a3 l4 a5 t186 t194 x21_4 t207 t208 ((rd t186 t207) != x21_4)) else (none)) else (none)) else (laws_FnCountedAnewOfAll.j4 k4 l0 a1 l2 a3 l4 a5 t186 t194 x21_4 t207 t208 false)))) else (if t208 = true then (if 0 ≤ t207 then (if t207 < (t186.length : Int) then (laws_FnCountedAnewOfAll.j4 k4 l0 a1 l2 a3 l4 a5 t186 t194 x21_4 t207 t208 ((rd t186 t207) != x21_4)) else (none)) else (none)) else (laws_FnCountedAnewOfAll.j4 k4 l0 a1 l2 a3 l4 a5 t186 t194 x21_4 t207 t208 false)))))) = some r := H
                              have A61 := Aside0.mk A610
                              clear A610
                              have HC62 := Aside0.mk H
                              clear H
                              go_upto_region 17 with (first | ((with_reducible refine gate_callee (f := 20) rfl ?_); refine goesL_ (some 140) rfl rfl Try.func20 (by kernel_rfl) rfl #[.slice A0 l0.length c0, .int .i64 x21_4] rfl (by (try simp only [List.map_toArray, List.map_cons, List.map_nil]); first | done | rfl | (simp only [List.length_drop, List.length_take]; rfl)) ?_; (with_reducible refine (impl_StepOfFall.calls k4 _ _ l0 x21_4 t205 t206 _ ?side1 ?side2 A60.out).mono ?_); (case side1 => repeat (first | exact (Kd.C_below HR0.out HB.out) | (with_reducible refine Kd.C_alloc ?_ _) | (with_reducible refine Kd.C_drewN ?_ _) | (with_reducible refine Kd.C_drew ?_))); (case side2 => exact HC0.out); rintro e w63 ⟨rfl, hb⟩; refine ⟨_, rfl, ?_⟩; have n0_ := Aside0.mk (Kd.R_below (by (with_reducible repeat (first | apply Kd.R_alloc | apply Kd.R_drewN | apply Kd.R_drew)); exact HO_13.out) hb); have n1_ := Aside0.mk (below_step (by repeat (first | (with_reducible first | exact HB.out | apply below_alloc | apply pw_below_drewN | apply below_drew1) | exact HB.out)) hb); clear HO_13; clear HB; have HO_13 := n0_; have HB := n1_; clear n0_ n1_; (try clear hb); (try clear hb2); (try clear hk); (try clear hi)) | ((with_reducible refine gate_callee (f := 21) rfl ?_); refine goesL_ (some 146) rfl rfl Try.func21 (by kernel_rfl) rfl #[.slice A0 l0.length c0, .int .i64 x21_4] rfl (by (try simp only [List.map_toArray, List.map_cons, List.map_nil]); first | done | rfl | (simp only [List.length_drop, List.length_take]; rfl)) ?_; (with_reducible refine (impl_RankBehind.calls k4 _ _ l0 x21_4 t207 t208 _ ?side1 ?side2 A61.out).mono ?_); (case side1 => repeat (first | exact (Kd.C_below HR0.out HB.out) | (with_reducible refine Kd.C_alloc ?_ _) | (with_reducible refine Kd.C_drewN ?_ _) | (with_reducible refine Kd.C_drew ?_))); (case side2 => exact HC0.out); rintro e w64 ⟨rfl, hb⟩; refine ⟨_, rfl, ?_⟩; have n0_ := Aside0.mk (Kd.R_below (by (with_reducible repeat (first | apply Kd.R_alloc | apply Kd.R_drewN | apply Kd.R_drew)); exact HO_13.out) hb); have n1_ := Aside0.mk (below_step (by repeat (first | (with_reducible first | exact HB.out | apply below_alloc | apply pw_below_drewN | apply below_drew1) | exact HB.out)) hb); clear HO_13; clear HB; have HO_13 := n0_; have HB := n1_; clear n0_ n1_; (try clear hb); (try clear hb2); (try clear hk); (try clear hi)))
                              (try simp only [Act.put, List.setIfInBounds_toArray, List.set_cons_zero, List.set_cons_succ])
                              go_cut [182] (fun v182 wc => ∃ (kq : Nat) (x182_61 : Bool), v182 = .bool x182_61 ∧ Aside0 (laws_FnCountedAnewOfAll.j4 kq l0 a1 l2 a3 l4 a5 t186 t194 x21_4 t207 t208 x182_61 = some r) ∧ Aside0 (kq ≤ k4) ∧ Aside0 (Kd.R (Kd.int .i64) 3 wc w.heap.size (fun _ => True) v188 t186) ∧ Aside0 (Below w.heap.size w wc))
                              case first =>
                                have H := HC62.out
                                clear HC62
                                by_cases c65 : (t206 == t208) = true
                                · rw [if_pos c65] at H
                                  have c65b0 : (t206 == t208) = true := c65
                                  (try (have c65b1 : decide (t206 = t208) = true := by simpa using c65))
                                  (try (have c65b2 : (t206 == t208) = true := by simpa using c65))
                                  clear c65
                                  (first | rw [c65b0] | (simp only [i64_w, i32_w]; rw [c65b0]) | skip)
                                  have H' := Aside0.mk H
                                  clear H
                                  go_wp2
                                  refine Met.intro ?_
                                  go_step
                                  (repeat apply ex32_)
                                  (repeat apply Exists.intro)
                                  refine ⟨?rel, rfl⟩
                                  case rel => exact ⟨_, (true), (by first | rfl | (simp; done) | (simp [*]; done)), H', ⟨by have := HJ6.out; have := HJ14.out; have := HJ52.out; have := HK4.out; first | omega | exact Nat.le_refl _⟩, ⟨by (with_reducible repeat (first | apply Kd.R_alloc | apply Kd.R_drewN | apply Kd.R_drew)); exact HO_13.out⟩, ⟨by repeat (first | (with_reducible first | exact HB.out | apply below_alloc | apply pw_below_drewN | apply below_drew1) | exact HB.out)⟩⟩
                                · rw [if_neg c65] at H
                                  have c65b0 : (t206 == t208) = false := by simpa using c65
                                  (try (have c65b1 : decide (t206 = t208) = false := by simpa using c65))
                                  (try (have c65b2 : (t206 == t208) = false := by simpa using c65))
                                  (try (have c65b3 : ¬ (t206 = t208) := by simpa using c65))
                                  clear c65
                                  (first | rw [c65b0] | (simp only [i64_w, i32_w]; rw [c65b0]) | skip)
                                  replace H := Option.bind_eq_some_iff.mp H
                                  obtain ⟨t209, A660, H⟩ := H
                                  replace H : (if (t208 != t209) = true then (laws_FnCountedAnewOfAll.j4 k4 l0 a1 l2 a3 l4 a5 t186 t194 x21_4 t207 t208 true) else (if t206 = true then (if t205 < 0 then (laws_FnCountedAnewOfAll.j4 k4 l0 a1 l2 a3 l4 a5 t186 t194 x21_4 t207 t208 true) else (if t205 ≥ (l0.length : Int) then (laws_FnCountedAnewOfAll.j4 k4 l0 a1 l2 a3 l4 a5 t186 t194 x21_4 t207 t208 true) else (if t208 = true then (if 0 ≤ t207 then (if t207 < (t186.length : Int) then (laws_FnCountedAnewOfAll.j4 k4 l0 a1 l2 a3 l4 a5 t186 t194 x21_4 t207 t208 ((rd t186 t207) != x21_4)) else (none)) else (none)) else (laws_FnCountedAnewOfAll.j4 k4 l0 a1 l2 a3 l4 a5 t186 t194 x21_4 t207 t208 false)))) else (if t208 = true then (if 0 ≤ t207 then (if t207 < (t186.length : Int) then (laws_FnCountedAnewOfAll.j4 k4 l0 a1 l2 a3 l4 a5 t186 t194 x21_4 t207 t208 ((rd t186 t207) != x21_4)) else (none)) else (none)) else (laws_FnCountedAnewOfAll.j4 k4 l0 a1 l2 a3 l4 a5 t186 t194 x21_4 t207 t208 false)))) = some r := H
                                  have A66 := Aside0.mk A660
                                  clear A660
                                  by_cases c67 : (t208 != t209) = true
                                  · rw [if_pos c67] at H
                                    have c67b0 : (t208 != t209) = true := c67
                                    (try (have c67b1 : decide (t208 = t209) = false := by simpa using c67))
                                    (try (have c67b2 : (t208 == t209) = false := by simpa using c67))
                                    (try (have c67b3 : ¬ (t208 = t209) := by simpa using c67))
                                    clear c67
                                    have H' := Aside0.mk H
                                    clear H
                                    obtain ⟨Ao68, co68, eo68⟩ := Kd.R_slice HO_13.out
                                    subst eo68
                                    go_wp2_with (first | (go_at_call 22; (with_reducible refine (laws_tHas.calls k4 _ _ t186 x21_4 t209 _ ?side1 ?side2 A66.out).mono ?_); (case side1 => repeat (first | exact (Kd.R_reads' HO_13.out).2.2 | (with_reducible refine Kd.C_alloc ?_ _) | (with_reducible refine Kd.C_drewN ?_ _) | (with_reducible refine Kd.C_drew ?_))); (case side2 => exact (Kd.R_reads' HO_13.out).2.1); rintro e w' ⟨rfl, ⟨nd, rfl⟩⟩))
                                    refine Met.intro ?_
                                    go_step
                                    (repeat apply ex32_)
                                    (repeat apply Exists.intro)
                                    refine ⟨?rel, rfl⟩
                                    case rel => exact ⟨_, (true), (by first | rfl | (simp; done) | (simp [*]; done)), H', ⟨by have := HJ6.out; have := HJ14.out; have := HJ52.out; have := HK4.out; first | omega | exact Nat.le_refl _⟩, ⟨by (with_reducible repeat (first | apply Kd.R_alloc | apply Kd.R_drewN | apply Kd.R_drew)); exact HO_13.out⟩, ⟨by repeat (first | (with_reducible first | exact HB.out | apply below_alloc | apply pw_below_drewN | apply below_drew1) | exact HB.out)⟩⟩
                                  · rw [if_neg c67] at H
                                    have c67b0 : (t208 != t209) = false := by simpa using c67
                                    (try (have c67b1 : decide (t208 = t209) = true := by simpa using c67))
                                    (try (have c67b2 : (t208 == t209) = true := by simpa using c67))
                                    clear c67
                                    by_cases c69 : t206 = true
                                    · subst c69
                                      have H1 : (if t205 < 0 then (laws_FnCountedAnewOfAll.j4 k4 l0 a1 l2 a3 l4 a5 t186 t194 x21_4 t207 t208 true) else (if t205 ≥ (l0.length : Int) then (laws_FnCountedAnewOfAll.j4 k4 l0 a1 l2 a3 l4 a5 t186 t194 x21_4 t207 t208 true) else (if t208 = true then (if 0 ≤ t207 then (if t207 < (t186.length : Int) then (laws_FnCountedAnewOfAll.j4 k4 l0 a1 l2 a3 l4 a5 t186 t194 x21_4 t207 t208 ((rd t186 t207) != x21_4)) else (none)) else (none)) else (laws_FnCountedAnewOfAll.j4 k4 l0 a1 l2 a3 l4 a5 t186 t194 x21_4 t207 t208 false)))) = some r := by rw [if_pos rfl] at H; exact H
                                      clear H
                                      have H := H1
                                      clear H1
                                      by_cases c70 : t205 < 0
                                      · rw [if_pos c70] at H
                                        have c70b0 : decide (t205 < 0) = true := decide_eq_true c70
                                        clear c70
                                        have H' := Aside0.mk H
                                        clear H
                                        obtain ⟨Ao71, co71, eo71⟩ := Kd.R_slice HO_13.out
                                        subst eo71
                                        go_wp2_with (first | (go_at_call 22; (with_reducible refine (laws_tHas.calls k4 _ _ t186 x21_4 t209 _ ?side1 ?side2 A66.out).mono ?_); (case side1 => repeat (first | exact (Kd.R_reads' HO_13.out).2.2 | (with_reducible refine Kd.C_alloc ?_ _) | (with_reducible refine Kd.C_drewN ?_ _) | (with_reducible refine Kd.C_drew ?_))); (case side2 => exact (Kd.R_reads' HO_13.out).2.1); rintro e w' ⟨rfl, ⟨nd, rfl⟩⟩))
                                        refine Met.intro ?_
                                        go_step
                                        (repeat apply ex32_)
                                        (repeat apply Exists.intro)
                                        refine ⟨?rel, rfl⟩
                                        case rel => exact ⟨_, (true), (by first | rfl | (simp; done) | (simp [*]; done)), H', ⟨by have := HJ6.out; have := HJ14.out; have := HJ52.out; have := HK4.out; first | omega | exact Nat.le_refl _⟩, ⟨by (with_reducible repeat (first | apply Kd.R_alloc | apply Kd.R_drewN | apply Kd.R_drew)); exact HO_13.out⟩, ⟨by repeat (first | (with_reducible first | exact HB.out | apply below_alloc | apply pw_below_drewN | apply below_drew1) | exact HB.out)⟩⟩
                                      · rw [if_neg c70] at H
                                        have c70b0 : decide (t205 < 0) = false := decide_eq_false c70
                                        clear c70
                                        by_cases c72 : t205 ≥ (l0.length : Int)
                                        · rw [if_pos c72] at H
                                          have c72b0 : decide ((l0.length : Int) ≤ t205) = true := decide_eq_true c72
                                          clear c72
                                          have H' := Aside0.mk H
                                          clear H
                                          obtain ⟨Ao73, co73, eo73⟩ := Kd.R_slice HO_13.out
                                          subst eo73
                                          go_wp2_with (first | (go_at_call 22; (with_reducible refine (laws_tHas.calls k4 _ _ t186 x21_4 t209 _ ?side1 ?side2 A66.out).mono ?_); (case side1 => repeat (first | exact (Kd.R_reads' HO_13.out).2.2 | (with_reducible refine Kd.C_alloc ?_ _) | (with_reducible refine Kd.C_drewN ?_ _) | (with_reducible refine Kd.C_drew ?_))); (case side2 => exact (Kd.R_reads' HO_13.out).2.1); rintro e w' ⟨rfl, ⟨nd, rfl⟩⟩))
                                          refine Met.intro ?_
                                          go_step
                                          (repeat apply ex32_)
                                          (repeat apply Exists.intro)
                                          refine ⟨?rel, rfl⟩
                                          case rel => exact ⟨_, (true), (by first | rfl | (simp; done) | (simp [*]; done)), H', ⟨by have := HJ6.out; have := HJ14.out; have := HJ52.out; have := HK4.out; first | omega | exact Nat.le_refl _⟩, ⟨by (with_reducible repeat (first | apply Kd.R_alloc | apply Kd.R_drewN | apply Kd.R_drew)); exact HO_13.out⟩, ⟨by repeat (first | (with_reducible first | exact HB.out | apply below_alloc | apply pw_below_drewN | apply below_drew1) | exact HB.out)⟩⟩
                                        · rw [if_neg c72] at H
                                          have c72b0 : decide ((l0.length : Int) ≤ t205) = false := decide_eq_false c72
                                          clear c72
                                          by_cases c74 : t208 = true
                                          · subst c74
                                            exact absurd c65b0 (by decide)
                                          · replace c74 := Bool.eq_false_iff.mpr c74
                                            subst c74
                                            have H1 : (laws_FnCountedAnewOfAll.j4 k4 l0 a1 l2 a3 l4 a5 t186 t194 x21_4 t207 false false) = some r := by rw [if_neg (show ¬ (false = true) by decide)] at H; exact H
                                            clear H
                                            have H := H1
                                            clear H1
                                            have H' := Aside0.mk H
                                            clear H
                                            obtain ⟨Ao78, co78, eo78⟩ := Kd.R_slice HO_13.out
                                            subst eo78
                                            go_wp2_with (first | (go_at_call 22; (with_reducible refine (laws_tHas.calls k4 _ _ t186 x21_4 t209 _ ?side1 ?side2 A66.out).mono ?_); (case side1 => repeat (first | exact (Kd.R_reads' HO_13.out).2.2 | (with_reducible refine Kd.C_alloc ?_ _) | (with_reducible refine Kd.C_drewN ?_ _) | (with_reducible refine Kd.C_drew ?_))); (case side2 => exact (Kd.R_reads' HO_13.out).2.1); rintro e w' ⟨rfl, ⟨nd, rfl⟩⟩))
                                            refine Met.intro ?_
                                            go_step
                                            (repeat apply ex32_)
                                            (repeat apply Exists.intro)
                                            refine ⟨?rel, rfl⟩
                                            case rel => exact ⟨_, (false), (by first | rfl | (simp; done) | (simp [*]; done)), H', ⟨by have := HJ6.out; have := HJ14.out; have := HJ52.out; have := HK4.out; first | omega | exact Nat.le_refl _⟩, ⟨by (with_reducible repeat (first | apply Kd.R_alloc | apply Kd.R_drewN | apply Kd.R_drew)); exact HO_13.out⟩, ⟨by repeat (first | (with_reducible first | exact HB.out | apply below_alloc | apply pw_below_drewN | apply below_drew1) | exact HB.out)⟩⟩
                                    · replace c69 := Bool.eq_false_iff.mpr c69
                                      subst c69
                                      have H1 : (if t208 = true then (if 0 ≤ t207 then (if t207 < (t186.length : Int) then (laws_FnCountedAnewOfAll.j4 k4 l0 a1 l2 a3 l4 a5 t186 t194 x21_4 t207 t208 ((rd t186 t207) != x21_4)) else (none)) else (none)) else (laws_FnCountedAnewOfAll.j4 k4 l0 a1 l2 a3 l4 a5 t186 t194 x21_4 t207 t208 false)) = some r := by rw [if_neg (show ¬ (false = true) by decide)] at H; exact H
                                      clear H
                                      have H := H1
                                      clear H1
                                      by_cases c79 : t208 = true
                                      · subst c79
                                        have H1 : (if 0 ≤ t207 then (if t207 < (t186.length : Int) then (laws_FnCountedAnewOfAll.j4 k4 l0 a1 l2 a3 l4 a5 t186 t194 x21_4 t207 true ((rd t186 t207) != x21_4)) else (none)) else (none)) = some r := by rw [if_pos rfl] at H; exact H
                                        clear H
                                        have H := H1
                                        clear H1
                                        by_cases c80 : 0 ≤ t207
                                        · rw [if_pos c80] at H
                                          have c80b0 : decide (0 ≤ t207) = true := decide_eq_true c80
                                          clear c80
                                          by_cases c81 : t207 < (t186.length : Int)
                                          · rw [if_pos c81] at H
                                            have c81b0 : decide (t207 < (t186.length : Int)) = true := decide_eq_true c81
                                            clear c81
                                            have H' := Aside0.mk H
                                            clear H
                                            obtain ⟨Ao82, co82, eo82⟩ := Kd.R_slice HO_13.out
                                            subst eo82
                                            go_wp2_with (first | (go_at_call 22; (with_reducible refine (laws_tHas.calls k4 _ _ t186 x21_4 t209 _ ?side1 ?side2 A66.out).mono ?_); (case side1 => repeat (first | exact (Kd.R_reads' HO_13.out).2.2 | (with_reducible refine Kd.C_alloc ?_ _) | (with_reducible refine Kd.C_drewN ?_ _) | (with_reducible refine Kd.C_drew ?_))); (case side2 => exact (Kd.R_reads' HO_13.out).2.1); rintro e w' ⟨rfl, ⟨nd, rfl⟩⟩; have p211 : 0 ≤ (t207 : Int) := of_decide_eq_true (by first | (with_reducible assumption) | assumption); have q211 : t207 < (t186.length : Int) := of_decide_eq_true (by first | (with_reducible assumption) | assumption); obtain ⟨ad211, e211, hx211_0⟩ := Kd.at_int (Kd.R_reads' HO_13.out).2.2 t207 p211 q211; cases e211; replace p211 := eq_true p211; replace q211 := eq_true q211))
                                            refine Met.intro ?_
                                            go_step
                                            (repeat apply ex32_)
                                            (repeat apply Exists.intro)
                                            refine ⟨?rel, rfl⟩
                                            case rel => exact ⟨_, (((rd t186 t207) != x21_4)), (by first | rfl | (simp; done) | (simp [*]; done)), H', ⟨by have := HJ6.out; have := HJ14.out; have := HJ52.out; have := HK4.out; first | omega | exact Nat.le_refl _⟩, ⟨by (with_reducible repeat (first | apply Kd.R_alloc | apply Kd.R_drewN | apply Kd.R_drew)); exact HO_13.out⟩, ⟨by repeat (first | (with_reducible first | exact HB.out | apply below_alloc | apply pw_below_drewN | apply below_drew1) | exact HB.out)⟩⟩
                                          · rw [if_neg c81] at H
                                            exact absurd H (by simp)
                                        · rw [if_neg c80] at H
                                          exact absurd H (by simp)
                                      · replace c79 := Bool.eq_false_iff.mpr c79
                                        subst c79
                                        exact absurd c65b0 (by decide)
                              case rest => as_aux_lemma =>
                                clear HC62
                                try clear c1
                                try clear c2
                                try clear p2
                                try clear q2
                                try clear hx2
                                try clear c3
                                try clear c4
                                try clear c5
                                try clear c6
                                try clear c7
                                try clear c8
                                try clear c8b0
                                try clear c8b1
                                try clear c9
                                try clear c9b0
                                try clear c9b1
                                try clear c10
                                try clear c12
                                try clear c13
                                try clear c14
                                try clear c15
                                try clear c19
                                try clear c19b0
                                try clear c19b1
                                try clear c19b2
                                try clear c20
                                try clear c21
                                try clear p21
                                try clear q21
                                try clear hx21
                                try clear c22
                                try clear c22b0
                                try clear c22b1
                                try clear c22b2
                                try clear c25
                                try clear c25b0
                                try clear c25b1
                                try clear c26
                                try clear c26b0
                                try clear c26b1
                                try clear c26b2
                                try clear c29
                                try clear c31
                                try clear c50
                                try clear c52
                                try clear c54
                                try clear c54b0
                                try clear c54b1
                                try clear c58
                                try clear c59
                                try clear c59b0
                                try clear c65
                                try clear c65b0
                                try clear c65b1
                                try clear c65b2
                                try clear c67
                                try clear c67b0
                                try clear c67b1
                                try clear c67b2
                                try clear c69
                                try clear c70
                                try clear c70b0
                                try clear c72
                                try clear c72b0
                                try clear c74
                                try clear c75
                                try clear c75b0
                                try clear c76
                                try clear c76b0
                                try clear c79
                                try clear c80
                                try clear c80b0
                                try clear c81
                                try clear c81b0
                                try clear hx210_0
                                try clear hx211_0
                                try clear p2
                                try clear p210
                                try clear p211
                                try clear q210
                                try clear q211
                                obtain ⟨kq, x182_61, rfl, HA, HJ61, HO_13, HB⟩ := hcut
                                cases kq with
                                | zero => exact absurd HA.out (by simp [laws_FnCountedAnewOfAll.j4])
                                | succ kj61 =>
                                  have H := HA.out
                                  clear HA
                                  simp only [laws_FnCountedAnewOfAll.j4] at H
                                  by_cases c84 : x182_61 = true
                                  · subst c84
                                    have H1 : (some false) = some r := by rw [if_pos rfl] at H; exact H
                                    clear H
                                    have H := H1
                                    clear H1
                                    obtain rfl := Option.some.inj H
                                    go_wp2
                                    go_ret
                                    exact ⟨by first | rfl | (simp [errW_none, errW_some] <;> rfl) | (simp [*, errW_none, errW_some] <;> rfl), by repeat (first | (with_reducible first | exact HB.out | apply below_alloc | apply pw_below_drewN | apply below_drew1) | exact HB.out)⟩
                                  · replace c84 := Bool.eq_false_iff.mpr c84
                                    subst c84
                                    have H1 : (if t208 = true then ((impl_NumberOfRank.f kj61 l0 t207).bind fun bt212 => (if bt212.2 = true then (if bt212.1 = x21_4 then (laws_FnCountedAnewOfAll.l0 kj61 l0 a1 l2 a3 l4 a5 t186 t194 (wrap64 (x21_4 + 1))) else (some false)) else (some false))) else (laws_FnCountedAnewOfAll.l0 kj61 l0 a1 l2 a3 l4 a5 t186 t194 (wrap64 (x21_4 + 1)))) = some r := by rw [if_neg (show ¬ (false = true) by decide)] at H; exact H
                                    clear H
                                    have H := H1
                                    clear H1
                                    by_cases c85 : t208 = true
                                    · subst c85
                                      have H1 : ((impl_NumberOfRank.f kj61 l0 t207).bind fun bt212 => (if bt212.2 = true then (if bt212.1 = x21_4 then (laws_FnCountedAnewOfAll.l0 kj61 l0 a1 l2 a3 l4 a5 t186 t194 (wrap64 (x21_4 + 1))) else (some false)) else (some false))) = some r := by rw [if_pos rfl] at H; exact H
                                      clear H
                                      have H := H1
                                      clear H1
                                      replace H := Option.bind_eq_some_iff.mp H
                                      obtain ⟨⟨t212, t213⟩, A860, H⟩ := H
                                      replace H : (if t213 = true then (if t212 = x21_4 then (laws_FnCountedAnewOfAll.l0 kj61 l0 a1 l2 a3 l4 a5 t186 t194 (wrap64 (x21_4 + 1))) else (some false)) else (some false)) = some r := H
                                      have A86 := Aside0.mk A860
                                      clear A860
                                      by_cases c87 : t213 = true
                                      · subst c87
                                        have H1 : (if t212 = x21_4 then (laws_FnCountedAnewOfAll.l0 kj61 l0 a1 l2 a3 l4 a5 t186 t194 (wrap64 (x21_4 + 1))) else (some false)) = some r := by rw [if_pos rfl] at H; exact H
                                        clear H
                                        have H := H1
                                        clear H1
                                        by_cases c88 : t212 = x21_4
                                        · rw [if_pos c88] at H
                                          have c88b0 : (t212 == x21_4) = true := beq_iff_eq.mpr c88
                                          have c88b1 : (t212 != x21_4) = false := bne_eq_false_iff_eq.mpr c88
                                          clear c88
                                          have H' := Aside0.mk H
                                          clear H
                                          go_wp2_with (first | ((with_reducible refine gate_callee (f := 23) rfl ?_); refine goesL_ (some 187) rfl rfl Try.func23 (by kernel_rfl) rfl #[.slice A0 l0.length c0, .int .i64 t207] rfl (by (try simp only [List.map_toArray, List.map_cons, List.map_nil]); first | done | rfl | (simp only [List.length_drop, List.length_take]; rfl)) ?_; (with_reducible refine (impl_NumberOfRank.calls kj61 _ _ l0 t207 t212 true _ ?side1 ?side2 A86.out).mono ?_); (case side1 => repeat (first | exact (Kd.C_below HR0.out HB.out) | (with_reducible refine Kd.C_alloc ?_ _) | (with_reducible refine Kd.C_drewN ?_ _) | (with_reducible refine Kd.C_drew ?_))); (case side2 => exact HC0.out); rintro e w89 ⟨rfl, hb⟩; refine ⟨_, rfl, ?_⟩; have n0_ := Aside0.mk (Kd.R_below (by (with_reducible repeat (first | apply Kd.R_alloc | apply Kd.R_drewN | apply Kd.R_drew)); exact HO_13.out) hb); have n1_ := Aside0.mk (below_step (by repeat (first | (with_reducible first | exact HB.out | apply below_alloc | apply pw_below_drewN | apply below_drew1) | exact HB.out)) hb); clear HO_13; clear HB; have HO_13 := n0_; have HB := n1_; clear n0_ n1_; (try clear hb); (try clear hb2); (try clear hk); (try clear hi)))
                                          refine Handed.intro kj61 ?measure ?_
                                          rotate_left
                                          go_step
                                          (repeat apply ex32_)
                                          (repeat apply Exists.intro)
                                          refine ⟨?rel, rfl⟩
                                          case measure => have := HJ6.out; have := HJ14.out; have := HJ52.out; have := HK4.out; have := HJ61.out; omega
                                          case rel => exact ⟨(wrap64 (x21_4 + 1)), (by first | rfl | (simp; done) | (simp [*]; done)), H', ⟨by have := HJ6.out; have := HJ14.out; have := HJ52.out; have := HK4.out; have := HJ61.out; omega⟩, ⟨by (with_reducible repeat (first | apply Kd.R_alloc | apply Kd.R_drewN | apply Kd.R_drew)); exact HO_13.out⟩, ⟨by repeat (first | (with_reducible first | exact HB.out | apply below_alloc | apply pw_below_drewN | apply below_drew1) | exact HB.out)⟩⟩
                                        · rw [if_neg c88] at H
                                          have c88b0 : (t212 == x21_4) = false := beq_eq_false_iff_ne.mpr c88
                                          have c88b1 : (t212 != x21_4) = true := bne_iff_ne.mpr c88
                                          obtain rfl := Option.some.inj H
                                          go_wp2_with (first | ((with_reducible refine gate_callee (f := 23) rfl ?_); refine goesL_ (some 187) rfl rfl Try.func23 (by kernel_rfl) rfl #[.slice A0 l0.length c0, .int .i64 t207] rfl (by (try simp only [List.map_toArray, List.map_cons, List.map_nil]); first | done | rfl | (simp only [List.length_drop, List.length_take]; rfl)) ?_; (with_reducible refine (impl_NumberOfRank.calls kj61 _ _ l0 t207 t212 true _ ?side1 ?side2 A86.out).mono ?_); (case side1 => repeat (first | exact (Kd.C_below HR0.out HB.out) | (with_reducible refine Kd.C_alloc ?_ _) | (with_reducible refine Kd.C_drewN ?_ _) | (with_reducible refine Kd.C_drew ?_))); (case side2 => exact HC0.out); rintro e w90 ⟨rfl, hb⟩; refine ⟨_, rfl, ?_⟩; have n0_ := Aside0.mk (Kd.R_below (by (with_reducible repeat (first | apply Kd.R_alloc | apply Kd.R_drewN | apply Kd.R_drew)); exact HO_13.out) hb); have n1_ := Aside0.mk (below_step (by repeat (first | (with_reducible first | exact HB.out | apply below_alloc | apply pw_below_drewN | apply below_drew1) | exact HB.out)) hb); clear HO_13; clear HB; have HO_13 := n0_; have HB := n1_; clear n0_ n1_; (try clear hb); (try clear hb2); (try clear hk); (try clear hi)))
                                          go_ret
                                          exact ⟨by first | rfl | (simp [errW_none, errW_some] <;> rfl) | (simp [*, errW_none, errW_some] <;> rfl), by repeat (first | (with_reducible first | exact HB.out | apply below_alloc | apply pw_below_drewN | apply below_drew1) | exact HB.out)⟩
                                      · replace c87 := Bool.eq_false_iff.mpr c87
                                        subst c87
                                        have H1 : (some false) = some r := by rw [if_neg (show ¬ (false = true) by decide)] at H; exact H
                                        clear H
                                        have H := H1
                                        clear H1
                                        obtain rfl := Option.some.inj H
                                        go_wp2_with (first | ((with_reducible refine gate_callee (f := 23) rfl ?_); refine goesL_ (some 187) rfl rfl Try.func23 (by kernel_rfl) rfl #[.slice A0 l0.length c0, .int .i64 t207] rfl (by (try simp only [List.map_toArray, List.map_cons, List.map_nil]); first | done | rfl | (simp only [List.length_drop, List.length_take]; rfl)) ?_; (with_reducible refine (impl_NumberOfRank.calls kj61 _ _ l0 t207 t212 false _ ?side1 ?side2 A86.out).mono ?_); (case side1 => repeat (first | exact (Kd.C_below HR0.out HB.out) | (with_reducible refine Kd.C_alloc ?_ _) | (with_reducible refine Kd.C_drewN ?_ _) | (with_reducible refine Kd.C_drew ?_))); (case side2 => exact HC0.out); rintro e w91 ⟨rfl, hb⟩; refine ⟨_, rfl, ?_⟩; have n0_ := Aside0.mk (Kd.R_below (by (with_reducible repeat (first | apply Kd.R_alloc | apply Kd.R_drewN | apply Kd.R_drew)); exact HO_13.out) hb); have n1_ := Aside0.mk (below_step (by repeat (first | (with_reducible first | exact HB.out | apply below_alloc | apply pw_below_drewN | apply below_drew1) | exact HB.out)) hb); clear HO_13; clear HB; have HO_13 := n0_; have HB := n1_; clear n0_ n1_; (try clear hb); (try clear hb2); (try clear hk); (try clear hi)))
                                        go_ret
                                        exact ⟨by first | rfl | (simp [errW_none, errW_some] <;> rfl) | (simp [*, errW_none, errW_some] <;> rfl), by repeat (first | (with_reducible first | exact HB.out | apply below_alloc | apply pw_below_drewN | apply below_drew1) | exact HB.out)⟩
                                    · replace c85 := Bool.eq_false_iff.mpr c85
                                      subst c85
                                      have H1 : (laws_FnCountedAnewOfAll.l0 kj61 l0 a1 l2 a3 l4 a5 t186 t194 (wrap64 (x21_4 + 1))) = some r := by rw [if_neg (show ¬ (false = true) by decide)] at H; exact H
                                      clear H
                                      have H := H1
                                      clear H1
                                      have H' := Aside0.mk H
                                      clear H
                                      go_wp2
                                      refine Handed.intro kj61 ?measure ?_
                                      rotate_left
                                      go_step
                                      (repeat apply ex32_)
                                      (repeat apply Exists.intro)
                                      refine ⟨?rel, rfl⟩
                                      case measure => have := HJ6.out; have := HJ14.out; have := HJ52.out; have := HK4.out; have := HJ61.out; omega
                                      case rel => exact ⟨(wrap64 (x21_4 + 1)), (by first | rfl | (simp; done) | (simp [*]; done)), H', ⟨by have := HJ6.out; have := HJ14.out; have := HJ52.out; have := HK4.out; have := HJ61.out; omega⟩, ⟨by (with_reducible repeat (first | apply Kd.R_alloc | apply Kd.R_drewN | apply Kd.R_drew)); exact HO_13.out⟩, ⟨by repeat (first | (with_reducible first | exact HB.out | apply below_alloc | apply pw_below_drewN | apply below_drew1) | exact HB.out)⟩⟩
                            · rw [if_neg c59] at H
                              have c59b0 : decide (x21_4 ≤ a1) = false := decide_eq_false c59
                              clear c59
                              by_cases c92 : (l0.length : Int) > 0
                              · rw [if_pos c92] at H
                                have c92b0 : decide (0 < (l0.length : Int)) = true := decide_eq_true c92
                                have c92b1 : decide (0 < l0.length) = true := decide_eq_true (by omega)
                                clear c92
                                obtain ⟨ji93, hji93⟩ : ∃ j_ : Int, (wrap64 ((l0.length : Int) - 1)) = j_ := ⟨_, rfl⟩
                                replace H : (if 0 ≤ (ji93) then (if (ji93) ≤ (l0.length : Int) then ((impl_LeftByCounting.f k4 (l0.take ((ji93) : Int).toNat) a1).bind fun bt215 => (if (ji93) < (l0.length : Int) then (if bt215.2 = true then (if (rd l0 (ji93)) = 0 then (none) else (if t194 = (wrap64 ((bt215.1.length : Int) - (wrap64 ((bt215.1.length : Int) / (rd l0 (ji93)))))) then (laws_FnCountedAnewOfAll.j5 k4 l2 a3 l4 a5) else (some false))) else (some false)) else (none))) else (none)) else (none)) = some r := by first | (rw [hji93] at H; exact H) | (simp only [hji93] at H ⊢; exact H)
                                have hji93w : (IntKind.i64.wrap ((l0.length : Int) - 1)) = ji93 := (i64_w _).trans hji93
                                by_cases c94 : 0 ≤ (ji93)
                                · rw [if_pos c94] at H
                                  have c94b0 := eq_true c94
                                  have c94b1 : decide (0 ≤ (ji93)) = true := decide_eq_true c94
                                  clear c94
                                  by_cases c95 : (ji93) ≤ (l0.length : Int)
                                  · rw [if_pos c95] at H
                                    have c95b0 := eq_true c95
                                    have c95b1 : decide ((ji93) ≤ (l0.length : Int)) = true := decide_eq_true c95
                                    clear c95
                                    replace H := Option.bind_eq_some_iff.mp H
                                    obtain ⟨⟨t215, t216⟩, A960, H⟩ := H
                                    replace H : (if (ji93) < (l0.length : Int) then (if t216 = true then (if (rd l0 (ji93)) = 0 then (none) else (if t194 = (wrap64 ((t215.length : Int) - (wrap64 ((t215.length : Int) / (rd l0 (ji93)))))) then (laws_FnCountedAnewOfAll.j5 k4 l2 a3 l4 a5) else (some false))) else (some false)) else (none)) = some r := H
                                    have A96 := Aside0.mk A960
                                    clear A960
                                    by_cases c97 : (ji93) < (l0.length : Int)
                                    · rw [if_pos c97] at H
                                      have c97b0 : decide ((ji93) < (l0.length : Int)) = true := decide_eq_true c97
                                      clear c97
                                      by_cases c98 : t216 = true
                                      · subst c98
                                        have H1 : (if (rd l0 (ji93)) = 0 then (none) else (if t194 = (wrap64 ((t215.length : Int) - (wrap64 ((t215.length : Int) / (rd l0 (ji93)))))) then (laws_FnCountedAnewOfAll.j5 k4 l2 a3 l4 a5) else (some false))) = some r := by rw [if_pos rfl] at H; exact H
                                        clear H
                                        have H := H1
                                        clear H1
                                        by_cases c99 : (rd l0 (ji93)) = 0
                                        · rw [if_pos c99] at H
                                          exact absurd H (by simp)
                                        · rw [if_neg c99] at H
                                          have c99b0 : ((rd l0 (ji93)) == 0) = false := beq_eq_false_iff_ne.mpr c99
                                          have c99b1 : ((rd l0 (ji93)) != 0) = true := bne_iff_ne.mpr c99
                                          by_cases c100 : t194 = (wrap64 ((t215.length : Int) - (wrap64 ((t215.length : Int) / (rd l0 (ji93))))))
                                          · rw [if_pos c100] at H
                                            have c100b0 : (t194 == (wrap64 ((t215.length : Int) - (wrap64 ((t215.length : Int) / (rd l0 (ji93))))))) = true := beq_iff_eq.mpr c100
                                            have c100b1 : (t194 != (wrap64 ((t215.length : Int) - (wrap64 ((t215.length : Int) / (rd l0 (ji93))))))) = false := bne_eq_false_iff_eq.mpr c100
                                            clear c100
                                            have H' := Aside0.mk H
                                            clear H
                                            obtain ⟨i0101, hi0101, _, hsz101, _⟩ := info_parts info3
                                            obtain ⟨hcut101, hA101, hC101⟩ := print_take_of (P := Try.prog) (Value.int .i64) 0 22 3 .i64 Try.underlying22 hi0101 hsz101 A0 c0 l0 (ji93) (of_decide_eq_true (by first | (with_reducible assumption) | assumption)) (of_decide_eq_true (by first | (with_reducible assumption) | assumption)) HC0.out
                                            have HR214 := Aside0.mk (Kd.C_of_reads (h1 := fun _ => rfl) (hA101 _ (Kd.reads_of_C HR0.out)))
                                            have HC214 := Aside0.mk hC101
                                            clear hA101 hC101 hi0101 hsz101
                                            go_wp2_with (first | ((with_reducible refine gate_callee (f := 12) rfl ?_); refine goesL_ (some 207) rfl rfl Try.func12 (by kernel_rfl) rfl #[.slice A0 (l0.take ((ji93) : Int).toNat).length c0, .int .i64 a1] rfl (by (try simp only [List.map_toArray, List.map_cons, List.map_nil]); first | done | (rw [show (l0.take ((ji93) : Int).toNat).length = (ji93).toNat from (by rw [List.length_take]; have h_ : ((ji93) : Int) ≤ (l0.length : Int) := of_decide_eq_true (by first | (with_reducible assumption) | assumption); omega)] <;> rfl) | (simp only [hji93]; rfl) | rfl | (simp only [List.length_drop, List.length_take]; rfl)) ?_; (with_reducible refine (impl_LeftByCounting.calls k4 _ _ (l0.take ((ji93) : Int).toNat) a1 t215 true _ ?side1 ?side2 A96.out).mono ?_); (case side1 => repeat (first | exact (Kd.C_below HR214.out HB.out) | (with_reducible refine Kd.C_alloc ?_ _) | (with_reducible refine Kd.C_drewN ?_ _) | (with_reducible refine Kd.C_drew ?_))); (case side2 => exact HC214.out); rintro e w102 ⟨v217, rfl, ho0, hb⟩; refine ⟨_, rfl, ?_⟩; have n0_ := Aside0.mk (Kd.R_elder' (by (with_reducible repeat (first | apply Kd.R_alloc | apply Kd.R_drewN | apply Kd.R_drew)); exact HO_13.out) (Kd.R_base ho0) hb); have n1_ := Aside0.mk (Kd.R_lower (Kd.R_new' ho0 (Kd.R_lt (by (with_reducible repeat (first | apply Kd.R_alloc | apply Kd.R_drewN | apply Kd.R_drew)); exact HO_13.out))) (below_size (by repeat (first | (with_reducible first | exact HB.out | apply below_alloc | apply pw_below_drewN | apply below_drew1) | exact HB.out)))); have n2_ := Aside0.mk (below_step (by repeat (first | (with_reducible first | exact HB.out | apply below_alloc | apply pw_below_drewN | apply below_drew1) | exact HB.out)) hb); clear HO_13; clear HB; have HO_13 := n0_; have HO218 := n1_; have HB := n2_; clear n0_ n1_ n2_; (try clear hb); (try clear hb2); (try clear hk); (try clear hi); (try clear ho0); have p219 : 0 ≤ ((ji93) : Int) := of_decide_eq_true (by first | (with_reducible assumption) | assumption); have q219 : (ji93) < (l0.length : Int) := of_decide_eq_true (by first | (with_reducible assumption) | assumption); obtain ⟨ad219, e219, hx219_0⟩ := Kd.at_int HR0.out (ji93) p219 q219; cases e219; replace hx219_0 := (HB.out.cell (World.block_lt_of_cell? w _ hx219_0)).trans hx219_0; replace p219 := eq_true p219; replace q219 := eq_true q219; obtain ⟨Ao103, co103, eo103⟩ := Kd.R_slice HO218.out; subst eo103))
                                            refine Met.intro ?_
                                            go_step
                                            (repeat apply ex32_)
                                            (repeat apply Exists.intro)
                                            refine ⟨?rel, rfl⟩
                                            case rel => exact ⟨_, H', ⟨by have := HJ6.out; have := HJ14.out; have := HJ52.out; have := HK4.out; first | omega | exact Nat.le_refl _⟩, ⟨by repeat (first | (with_reducible first | exact HB.out | apply below_alloc | apply pw_below_drewN | apply below_drew1) | exact HB.out)⟩⟩
                                          · rw [if_neg c100] at H
                                            have c100b0 : (t194 == (wrap64 ((t215.length : Int) - (wrap64 ((t215.length : Int) / (rd l0 (ji93))))))) = false := beq_eq_false_iff_ne.mpr c100
                                            have c100b1 : (t194 != (wrap64 ((t215.length : Int) - (wrap64 ((t215.length : Int) / (rd l0 (ji93))))))) = true := bne_iff_ne.mpr c100
                                            obtain rfl := Option.some.inj H
                                            obtain ⟨i0104, hi0104, _, hsz104, _⟩ := info_parts info3
                                            obtain ⟨hcut104, hA104, hC104⟩ := print_take_of (P := Try.prog) (Value.int .i64) 0 22 3 .i64 Try.underlying22 hi0104 hsz104 A0 c0 l0 (ji93) (of_decide_eq_true (by first | (with_reducible assumption) | assumption)) (of_decide_eq_true (by first | (with_reducible assumption) | assumption)) HC0.out
                                            have HR214 := Aside0.mk (Kd.C_of_reads (h1 := fun _ => rfl) (hA104 _ (Kd.reads_of_C HR0.out)))
                                            have HC214 := Aside0.mk hC104
                                            clear hA104 hC104 hi0104 hsz104
                                            go_wp2_with (first | ((with_reducible refine gate_callee (f := 12) rfl ?_); refine goesL_ (some 207) rfl rfl Try.func12 (by kernel_rfl) rfl #[.slice A0 (l0.take ((ji93) : Int).toNat).length c0, .int .i64 a1] rfl (by (try simp only [List.map_toArray, List.map_cons, List.map_nil]); first | done | (rw [show (l0.take ((ji93) : Int).toNat).length = (ji93).toNat from (by rw [List.length_take]; have h_ : ((ji93) : Int) ≤ (l0.length : Int) := of_decide_eq_true (by first | (with_reducible assumption) | assumption); omega)] <;> rfl) | (simp only [hji93]; rfl) | rfl | (simp only [List.length_drop, List.length_take]; rfl)) ?_; (with_reducible refine (impl_LeftByCounting.calls k4 _ _ (l0.take ((ji93) : Int).toNat) a1 t215 true _ ?side1 ?side2 A96.out).mono ?_); (case side1 => repeat (first | exact (Kd.C_below HR214.out HB.out) | (with_reducible refine Kd.C_alloc ?_ _) | (with_reducible refine Kd.C_drewN ?_ _) | (with_reducible refine Kd.C_drew ?_))); (case side2 => exact HC214.out); rintro e w105 ⟨v217, rfl, ho0, hb⟩; refine ⟨_, rfl, ?_⟩; have n0_ := Aside0.mk (Kd.R_elder' (by (with_reducible repeat (first | apply Kd.R_alloc | apply Kd.R_drewN | apply Kd.R_drew)); exact HO_13.out) (Kd.R_base ho0) hb); have n1_ := Aside0.mk (Kd.R_lower (Kd.R_new' ho0 (Kd.R_lt (by (with_reducible repeat (first | apply Kd.R_alloc | apply Kd.R_drewN | apply Kd.R_drew)); exact HO_13.out))) (below_size (by repeat (first | (with_reducible first | exact HB.out | apply below_alloc | apply pw_below_drewN | apply below_drew1) | exact HB.out)))); have n2_ := Aside0.mk (below_step (by repeat (first | (with_reducible first | exact HB.out | apply below_alloc | apply pw_below_drewN | apply below_drew1) | exact HB.out)) hb); clear HO_13; clear HB; have HO_13 := n0_; have HO218 := n1_; have HB := n2_; clear n0_ n1_ n2_; (try clear hb); (try clear hb2); (try clear hk); (try clear hi); (try clear ho0); have p219 : 0 ≤ ((ji93) : Int) := of_decide_eq_true (by first | (with_reducible assumption) | assumption); have q219 : (ji93) < (l0.length : Int) := of_decide_eq_true (by first | (with_reducible assumption) | assumption); obtain ⟨ad219, e219, hx219_0⟩ := Kd.at_int HR0.out (ji93) p219 q219; cases e219; replace hx219_0 := (HB.out.cell (World.block_lt_of_cell? w _ hx219_0)).trans hx219_0; replace p219 := eq_true p219; replace q219 := eq_true q219; obtain ⟨Ao106, co106, eo106⟩ := Kd.R_slice HO218.out; subst eo106))
                                            go_ret
                                            exact ⟨by first | rfl | (simp [errW_none, errW_some] <;> rfl) | (simp only [← hji93]; first | rfl | (simp [errW_none, errW_some] <;> rfl)) | (simp [*, errW_none, errW_some] <;> rfl), by repeat (first | (with_reducible first | exact HB.out | apply below_alloc | apply pw_below_drewN | apply below_drew1) | exact HB.out)⟩
                                      · replace c98 := Bool.eq_false_iff.mpr c98
                                        subst c98
                                        have H1 : (some false) = some r := by rw [if_neg (show ¬ (false = true) by decide)] at H; exact H
                                        clear H
                                        have H := H1
                                        clear H1
                                        obtain rfl := Option.some.inj H
                                        obtain ⟨i0107, hi0107, _, hsz107, _⟩ := info_parts info3
                                        obtain ⟨hcut107, hA107, hC107⟩ := print_take_of (P := Try.prog) (Value.int .i64) 0 22 3 .i64 Try.underlying22 hi0107 hsz107 A0 c0 l0 (ji93) (of_decide_eq_true (by first | (with_reducible assumption) | assumption)) (of_decide_eq_true (by first | (with_reducible assumption) | assumption)) HC0.out
                                        have HR214 := Aside0.mk (Kd.C_of_reads (h1 := fun _ => rfl) (hA107 _ (Kd.reads_of_C HR0.out)))
                                        have HC214 := Aside0.mk hC107
                                        clear hA107 hC107 hi0107 hsz107
                                        go_wp2_with (first | ((with_reducible refine gate_callee (f := 12) rfl ?_); refine goesL_ (some 207) rfl rfl Try.func12 (by kernel_rfl) rfl #[.slice A0 (l0.take ((ji93) : Int).toNat).length c0, .int .i64 a1] rfl (by (try simp only [List.map_toArray, List.map_cons, List.map_nil]); first | done | (rw [show (l0.take ((ji93) : Int).toNat).length = (ji93).toNat from (by rw [List.length_take]; have h_ : ((ji93) : Int) ≤ (l0.length : Int) := of_decide_eq_true (by first | (with_reducible assumption) | assumption); omega)] <;> rfl) | (simp only [hji93]; rfl) | rfl | (simp only [List.length_drop, List.length_take]; rfl)) ?_; (with_reducible refine (impl_LeftByCounting.calls k4 _ _ (l0.take ((ji93) : Int).toNat) a1 t215 false _ ?side1 ?side2 A96.out).mono ?_); (case side1 => repeat (first | exact (Kd.C_below HR214.out HB.out) | (with_reducible refine Kd.C_alloc ?_ _) | (with_reducible refine Kd.C_drewN ?_ _) | (with_reducible refine Kd.C_drew ?_))); (case side2 => exact HC214.out); rintro e w108 ⟨v217, rfl, ho0, hb⟩; refine ⟨_, rfl, ?_⟩; have n0_ := Aside0.mk (Kd.R_elder' (by (with_reducible repeat (first | apply Kd.R_alloc | apply Kd.R_drewN | apply Kd.R_drew)); exact HO_13.out) (Kd.R_base ho0) hb); have n1_ := Aside0.mk (Kd.R_lower (Kd.R_new' ho0 (Kd.R_lt (by (with_reducible repeat (first | apply Kd.R_alloc | apply Kd.R_drewN | apply Kd.R_drew)); exact HO_13.out))) (below_size (by repeat (first | (with_reducible first | exact HB.out | apply below_alloc | apply pw_below_drewN | apply below_drew1) | exact HB.out)))); have n2_ := Aside0.mk (below_step (by repeat (first | (with_reducible first | exact HB.out | apply below_alloc | apply pw_below_drewN | apply below_drew1) | exact HB.out)) hb); clear HO_13; clear HB; have HO_13 := n0_; have HO218 := n1_; have HB := n2_; clear n0_ n1_ n2_; (try clear hb); (try clear hb2); (try clear hk); (try clear hi); (try clear ho0); have p219 : 0 ≤ ((ji93) : Int) := of_decide_eq_true (by first | (with_reducible assumption) | assumption); have q219 : (ji93) < (l0.length : Int) := of_decide_eq_true (by first | (with_reducible assumption) | assumption); obtain ⟨ad219, e219, hx219_0⟩ := Kd.at_int HR0.out (ji93) p219 q219; cases e219; replace hx219_0 := (HB.out.cell (World.block_lt_of_cell? w _ hx219_0)).trans hx219_0; replace p219 := eq_true p219; replace q219 := eq_true q219))
                                        go_ret
                                        exact ⟨by first | rfl | (simp [errW_none, errW_some] <;> rfl) | (simp only [← hji93]; first | rfl | (simp [errW_none, errW_some] <;> rfl)) | (simp [*, errW_none, errW_some] <;> rfl), by repeat (first | (with_reducible first | exact HB.out | apply below_alloc | apply pw_below_drewN | apply below_drew1) | exact HB.out)⟩
                                    · rw [if_neg c97] at H
                                      exact absurd H (by simp)
                                  · rw [if_neg c95] at H
                                    exact absurd H (by simp)
                                · rw [if_neg c94] at H
                                  exact absurd H (by simp)
                              · rw [if_neg c92] at H
                                have c92b0 : decide (0 < (l0.length : Int)) = false := decide_eq_false c92
                                have c92b1 : decide (0 < l0.length) = false := decide_eq_false (by omega)
                                clear c92
                                have H' := Aside0.mk H
                                clear H
                                go_wp2
                                refine Met.intro ?_
                                go_step
                                (repeat apply ex32_)
                                (repeat apply Exists.intro)
                                refine ⟨?rel, rfl⟩
                                case rel => exact ⟨_, H', ⟨by have := HJ6.out; have := HJ14.out; have := HJ52.out; have := HK4.out; first | omega | exact Nat.le_refl _⟩, ⟨by repeat (first | (with_reducible first | exact HB.out | apply below_alloc | apply pw_below_drewN | apply below_drew1) | exact HB.out)⟩⟩
                · replace c52 := Bool.eq_false_iff.mpr c52
                  subst c52
                  have H1 : (laws_FnCountedAnewOfAll.j5 kj14 l2 a3 l4 a5) = some r := by rw [if_neg (show ¬ (false = true) by decide)] at H; exact H
                  clear H
                  have H := H1
                  clear H1
                  have H' := Aside0.mk H
                  clear H
                  go_wp2
                  refine Met.intro ?_
                  go_step
                  (repeat apply ex32_)
                  (repeat apply Exists.intro)
                  refine ⟨?rel, rfl⟩
                  case rel => exact ⟨_, H', ⟨by have := HJ6.out; have := HJ14.out; first | omega | exact Nat.le_refl _⟩, ⟨by repeat (first | (with_reducible first | exact HB.out | apply below_alloc | apply pw_below_drewN | apply below_drew1) | exact HB.out)⟩⟩
              case rest => as_aux_lemma =>
                clear HC51
                try clear c1
                try clear c2
                try clear p2
                try clear q2
                try clear hx2
                try clear c3
                try clear c4
                try clear c5
                try clear c6
                try clear p6
                try clear c7
                try clear c8
                try clear c8b0
                try clear c8b1
                try clear c9
                try clear c9b0
                try clear c9b1
                try clear c10
                try clear c12
                try clear c13
                try clear c14
                try clear c15
                try clear c19
                try clear c19b0
                try clear c19b1
                try clear c19b2
                try clear c20
                try clear c21
                try clear p21
                try clear q21
                try clear hx21
                try clear c22
                try clear c22b0
                try clear c22b1
                try clear c22b2
                try clear c23
                try clear c25
                try clear c25b0
                try clear c25b1
                try clear c26
                try clear c26b0
                try clear c26b1
                try clear c26b2
                try clear c29
                try clear c31
                try clear c50
                try clear c52
                try clear c54
                try clear c54b0
                try clear c54b1
                try clear c58
                try clear c59
                try clear c59b0
                try clear p64
                try clear c65
                try clear c65b0
                try clear c65b1
                try clear c65b2
                try clear c67
                try clear c67b0
                try clear c67b1
                try clear c67b2
                try clear c69
                try clear c70
                try clear c70b0
                try clear c72
                try clear c72b0
                try clear c74
                try clear c75
                try clear c75b0
                try clear c76
                try clear c76b0
                try clear c79
                try clear c80
                try clear c80b0
                try clear c81
                try clear c81b0
                try clear c84
                try clear c85
                try clear c87
                try clear c88
                try clear c88b0
                try clear c88b1
                try clear c92
                try clear c92b0
                try clear c92b1
                try clear c94
                try clear c94b0
                try clear c94b1
                try clear c95
                try clear c95b0
                try clear c95b1
                try clear c97
                try clear c97b0
                try clear c98
                try clear c99
                try clear c99b0
                try clear c99b1
                try clear c100
                try clear c100b0
                try clear c100b1
                try clear hx210_0
                try clear hx211_0
                try clear hx219_0
                try clear p2
                try clear p21
                try clear p210
                try clear p211
                try clear p219
                try clear q2
                try clear q21
                try clear q210
                try clear q211
                try clear q219
                obtain ⟨kq, HA, HJ50, HB⟩ := hcut
                cases kq with
                | zero => exact absurd HA.out (by simp [laws_FnCountedAnewOfAll.j5])
                | succ kj50 =>
                  have H := HA.out
                  clear HA
                  simp only [laws_FnCountedAnewOfAll.j5] at H
                  replace H := Option.bind_eq_some_iff.mp H
                  obtain ⟨⟨t220, t221⟩, A1090, H⟩ := H
                  replace H : ((spec_StepOfFall.f kj50 l2 a3).bind fun bt222 => ((impl_RankBehind.f kj50 l2 a3).bind fun bt224 => ((spec_RankBehind.f kj50 l2 a3).bind fun bt226 => ((impl_NumberOfRank.f kj50 l4 a5).bind fun bt228 => ((spec_NumberOfRank.f kj50 l4 a5).bind fun bt230 => (if (t221 != bt222.2) = true then (laws_FnCountedAnewOfAll.j6 kj50 l4 a5 bt228.1 bt228.2 true) else (if t220 = bt222.1 then (if (bt224.2 != bt226.2) = true then (laws_FnCountedAnewOfAll.j6 kj50 l4 a5 bt228.1 bt228.2 true) else (if bt224.1 = bt226.1 then (if (bt228.2 != bt230.2) = true then (laws_FnCountedAnewOfAll.j6 kj50 l4 a5 bt228.1 bt228.2 true) else (laws_FnCountedAnewOfAll.j6 kj50 l4 a5 bt228.1 bt228.2 (bt228.1 != bt230.1))) else (laws_FnCountedAnewOfAll.j6 kj50 l4 a5 bt228.1 bt228.2 true))) else (laws_FnCountedAnewOfAll.j6 kj50 l4 a5 bt228.1 bt228.2 true)))))))) = some r := H
                  have A109 := Aside0.mk A1090
                  clear A1090
                  replace H := Option.bind_eq_some_iff.mp H
                  obtain ⟨⟨t222, t223⟩, A1100, H⟩ := H
                  replace H : ((impl_RankBehind.f kj50 l2 a3).bind fun bt224 => ((spec_RankBehind.f kj50 l2 a3).bind fun bt226 => ((impl_NumberOfRank.f kj50 l4 a5).bind fun bt228 => ((spec_NumberOfRank.f kj50 l4 a5).bind fun bt230 => (if (t221 != t223) = true then (laws_FnCountedAnewOfAll.j6 kj50 l4 a5 bt228.1 bt228.2 true) else (if t220 = t222 then (if (bt224.2 != bt226.2) = true then (laws_FnCountedAnewOfAll.j6 kj50 l4 a5 bt228.1 bt228.2 true) else (if bt224.1 = bt226.1 then (if (bt228.2 != bt230.2) = true then (laws_FnCountedAnewOfAll.j6 kj50 l4 a5 bt228.1 bt228.2 true) else (laws_FnCountedAnewOfAll.j6 kj50 l4 a5 bt228.1 bt228.2 (bt228.1 != bt230.1))) else (laws_FnCountedAnewOfAll.j6 kj50 l4 a5 bt228.1 bt228.2 true))) else (laws_FnCountedAnewOfAll.j6 kj50 l4 a5 bt228.1 bt228.2 true))))))) = some r := H
                  have A110 := Aside0.mk A1100
                  clear A1100
                  replace H := Option.bind_eq_some_iff.mp H
                  obtain ⟨⟨t224, t225⟩, A1110, H⟩ := H
                  replace H : ((spec_RankBehind.f kj50 l2 a3).bind fun bt226 => ((impl_NumberOfRank.f kj50 l4 a5).bind fun bt228 => ((spec_NumberOfRank.f kj50 l4 a5).bind fun bt230 => (if (t221 != t223) = true then (laws_FnCountedAnewOfAll.j6 kj50 l4 a5 bt228.1 bt228.2 true) else (if t220 = t222 then (if (t225 != bt226.2) = true then (laws_FnCountedAnewOfAll.j6 kj50 l4 a5 bt228.1 bt228.2 true) else (if t224 = bt226.1 then (if (bt228.2 != bt230.2) = true then (laws_FnCountedAnewOfAll.j6 kj50 l4 a5 bt228.1 bt228.2 true) else (laws_FnCountedAnewOfAll.j6 kj50 l4 a5 bt228.1 bt228.2 (bt228.1 != bt230.1))) else (laws_FnCountedAnewOfAll.j6 kj50 l4 a5 bt228.1 bt228.2 true))) else (laws_FnCountedAnewOfAll.j6 kj50 l4 a5 bt228.1 bt228.2 true)))))) = some r := H
                  have A111 := Aside0.mk A1110
                  clear A1110
                  replace H := Option.bind_eq_some_iff.mp H
                  obtain ⟨⟨t226, t227⟩, A1120, H⟩ := H
                  replace H : ((impl_NumberOfRank.f kj50 l4 a5).bind fun bt228 => ((spec_NumberOfRank.f kj50 l4 a5).bind fun bt230 => (if (t221 != t223) = true then (laws_FnCountedAnewOfAll.j6 kj50 l4 a5 bt228.1 bt228.2 true) else (if t220 = t222 then (if (t225 != t227) = true then (laws_FnCountedAnewOfAll.j6 kj50 l4 a5 bt228.1 bt228.2 true) else (if t224 = t226 then (if (bt228.2 != bt230.2) = true then (laws_FnCountedAnewOfAll.j6 kj50 l4 a5 bt228.1 bt228.2 true) else (laws_FnCountedAnewOfAll.j6 kj50 l4 a5 bt228.1 bt228.2 (bt228.1 != bt230.1))) else (laws_FnCountedAnewOfAll.j6 kj50 l4 a5 bt228.1 bt228.2 true))) else (laws_FnCountedAnewOfAll.j6 kj50 l4 a5 bt228.1 bt228.2 true))))) = some r := H
                  have A112 := Aside0.mk A1120
                  clear A1120
                  replace H := Option.bind_eq_some_iff.mp H
                  obtain ⟨⟨t228, t229⟩, A1130, H⟩ := H
                  replace H : ((spec_NumberOfRank.f kj50 l4 a5).bind fun bt230 => (if (t221 != t223) = true then (laws_FnCountedAnewOfAll.j6 kj50 l4 a5 t228 t229 true) else (if t220 = t222 then (if (t225 != t227) = true then (laws_FnCountedAnewOfAll.j6 kj50 l4 a5 t228 t229 true) else (if t224 = t226 then (if (t229 != bt230.2) = true then (laws_FnCountedAnewOfAll.j6 kj50 l4 a5 t228 t229 true) else (laws_FnCountedAnewOfAll.j6 kj50 l4 a5 t228 t229 (t228 != bt230.1))) else (laws_FnCountedAnewOfAll.j6 kj50 l4 a5 t228 t229 true))) else (laws_FnCountedAnewOfAll.j6 kj50 l4 a5 t228 t229 true)))) = some r := H
                  have A113 := Aside0.mk A1130
                  clear A1130
                  replace H := Option.bind_eq_some_iff.mp H
                  obtain ⟨⟨t230, t231⟩, A1140, H⟩ := H
                  replace H : (if (t221 != t223) = true then (laws_FnCountedAnewOfAll.j6 kj50 l4 a5 t228 t229 true) else (if t220 = t222 then (if (t225 != t227) = true then (laws_FnCountedAnewOfAll.j6 kj50 l4 a5 t228 t229 true) else (if t224 = t226 then (if (t229 != t231) = true then (laws_FnCountedAnewOfAll.j6 kj50 l4 a5 t228 t229 true) else (laws_FnCountedAnewOfAll.j6 kj50 l4 a5 t228 t229 (t228 != t230))) else (laws_FnCountedAnewOfAll.j6 kj50 l4 a5 t228 t229 true))) else (laws_FnCountedAnewOfAll.j6 kj50 l4 a5 t228 t229 true))) = some r := H
                  have A114 := Aside0.mk A1140
                  clear A1140
                  have HC115 := Aside0.mk H
                  clear H
                  go_upto_region 34 with (first | ((with_reducible refine gate_callee (f := 20) rfl ?_); refine goesL_ (some 232) rfl rfl Try.func20 (by kernel_rfl) rfl #[.slice A2 l2.length c2, .int .i64 a3] rfl (by (try simp only [List.map_toArray, List.map_cons, List.map_nil]); first | done | rfl | (simp only [List.length_drop, List.length_take]; rfl)) ?_; (with_reducible refine (impl_StepOfFall.calls kj50 _ _ l2 a3 t220 t221 _ ?side1 ?side2 A109.out).mono ?_); (case side1 => repeat (first | exact (Kd.C_below HR2.out HB.out) | (with_reducible refine Kd.C_alloc ?_ _) | (with_reducible refine Kd.C_drewN ?_ _) | (with_reducible refine Kd.C_drew ?_))); (case side2 => exact HC2.out); rintro e w116 ⟨rfl, hb⟩; refine ⟨_, rfl, ?_⟩; have n0_ := Aside0.mk (below_step (by repeat (first | (with_reducible first | exact HB.out | apply below_alloc | apply pw_below_drewN | apply below_drew1) | exact HB.out)) hb); clear HB; have HB := n0_; clear n0_; (try clear hb); (try clear hb2); (try clear hk); (try clear hi)) | ((with_reducible refine gate_callee (f := 24) rfl ?_); refine goesL_ (some 238) rfl rfl Try.func24 (by kernel_rfl) rfl #[.slice A2 l2.length c2, .int .i64 a3] rfl (by (try simp only [List.map_toArray, List.map_cons, List.map_nil]); first | done | rfl | (simp only [List.length_drop, List.length_take]; rfl)) ?_; (with_reducible refine (spec_StepOfFall.calls kj50 _ _ l2 a3 t222 t223 _ ?side1 ?side2 A110.out).mono ?_); (case side1 => repeat (first | exact (Kd.C_below HR2.out HB.out) | (with_reducible refine Kd.C_alloc ?_ _) | (with_reducible refine Kd.C_drewN ?_ _) | (with_reducible refine Kd.C_drew ?_))); (case side2 => exact HC2.out); rintro e w' ⟨rfl, ⟨nd, rfl⟩⟩; refine ⟨_, rfl, ?_⟩) | ((with_reducible refine gate_callee (f := 21) rfl ?_); refine goesL_ (some 244) rfl rfl Try.func21 (by kernel_rfl) rfl #[.slice A2 l2.length c2, .int .i64 a3] rfl (by (try simp only [List.map_toArray, List.map_cons, List.map_nil]); first | done | rfl | (simp only [List.length_drop, List.length_take]; rfl)) ?_; (with_reducible refine (impl_RankBehind.calls kj50 _ _ l2 a3 t224 t225 _ ?side1 ?side2 A111.out).mono ?_); (case side1 => repeat (first | exact (Kd.C_below HR2.out (by repeat (first | (with_reducible first | exact HB.out | apply below_alloc | apply pw_below_drewN | apply below_drew1) | exact HB.out))) | (with_reducible refine Kd.C_alloc ?_ _) | (with_reducible refine Kd.C_drewN ?_ _) | (with_reducible refine Kd.C_drew ?_))); (case side2 => exact HC2.out); rintro e w117 ⟨rfl, hb⟩; refine ⟨_, rfl, ?_⟩; have n0_ := Aside0.mk (below_step (by repeat (first | (with_reducible first | exact HB.out | apply below_alloc | apply pw_below_drewN | apply below_drew1) | exact HB.out)) hb); clear HB; have HB := n0_; clear n0_; (try clear hb); (try clear hb2); (try clear hk); (try clear hi)) | ((with_reducible refine gate_callee (f := 25) rfl ?_); refine goesL_ (some 250) rfl rfl Try.func25 (by kernel_rfl) rfl #[.slice A2 l2.length c2, .int .i64 a3] rfl (by (try simp only [List.map_toArray, List.map_cons, List.map_nil]); first | done | rfl | (simp only [List.length_drop, List.length_take]; rfl)) ?_; (with_reducible refine (spec_RankBehind.calls kj50 _ _ l2 a3 t226 t227 _ ?side1 ?side2 A112.out).mono ?_); (case side1 => repeat (first | exact (Kd.C_below HR2.out HB.out) | (with_reducible refine Kd.C_alloc ?_ _) | (with_reducible refine Kd.C_drewN ?_ _) | (with_reducible refine Kd.C_drew ?_))); (case side2 => exact HC2.out); rintro e w' ⟨rfl, ⟨nd, rfl⟩⟩; refine ⟨_, rfl, ?_⟩) | ((with_reducible refine gate_callee (f := 23) rfl ?_); refine goesL_ (some 256) rfl rfl Try.func23 (by kernel_rfl) rfl #[.slice A4 l4.length c4, .int .i64 a5] rfl (by (try simp only [List.map_toArray, List.map_cons, List.map_nil]); first | done | rfl | (simp only [List.length_drop, List.length_take]; rfl)) ?_; (with_reducible refine (impl_NumberOfRank.calls kj50 _ _ l4 a5 t228 t229 _ ?side1 ?side2 A113.out).mono ?_); (case side1 => repeat (first | exact (Kd.C_below HR4.out (by repeat (first | (with_reducible first | exact HB.out | apply below_alloc | apply pw_below_drewN | apply below_drew1) | exact HB.out))) | (with_reducible refine Kd.C_alloc ?_ _) | (with_reducible refine Kd.C_drewN ?_ _) | (with_reducible refine Kd.C_drew ?_))); (case side2 => exact HC4.out); rintro e w118 ⟨rfl, hb⟩; refine ⟨_, rfl, ?_⟩; have n0_ := Aside0.mk (below_step (by repeat (first | (with_reducible first | exact HB.out | apply below_alloc | apply pw_below_drewN | apply below_drew1) | exact HB.out)) hb); clear HB; have HB := n0_; clear n0_; (try clear hb); (try clear hb2); (try clear hk); (try clear hi)) | ((with_reducible refine gate_callee (f := 26) rfl ?_); refine goesL_ (some 262) rfl rfl Try.func26 (by kernel_rfl) rfl #[.slice A4 l4.length c4, .int .i64 a5] rfl (by (try simp only [List.map_toArray, List.map_cons, List.map_nil]); first | done | rfl | (simp only [List.length_drop, List.length_take]; rfl)) ?_; (with_reducible refine (spec_NumberOfRank.calls kj50 _ _ l4 a5 t230 t231 _ ?side1 ?side2 A114.out).mono ?_); (case side1 => repeat (first | exact (Kd.C_below HR4.out HB.out) | (with_reducible refine Kd.C_alloc ?_ _) | (with_reducible refine Kd.C_drewN ?_ _) | (with_reducible refine Kd.C_drew ?_))); (case side2 => exact HC4.out); rintro e w' ⟨rfl, ⟨nd, rfl⟩⟩; refine ⟨_, rfl, ?_⟩))
                  (try simp only [Act.put, List.setIfInBounds_toArray, List.set_cons_zero, List.set_cons_succ])
                  go_cut [292] (fun v292 wc => ∃ (kq : Nat) (x292_114 : Bool), v292 = .bool x292_114 ∧ Aside0 (laws_FnCountedAnewOfAll.j6 kq l4 a5 t228 t229 x292_114 = some r) ∧ Aside0 (kq ≤ kj50) ∧ Aside0 (Below w.heap.size w wc))
                  case first =>
                    have H := HC115.out
                    clear HC115
                    by_cases c119 : (t221 != t223) = true
                    · rw [if_pos c119] at H
                      have c119b0 : (t221 != t223) = true := c119
                      (try (have c119b1 : decide (t221 = t223) = false := by simpa using c119))
                      (try (have c119b2 : (t221 == t223) = false := by simpa using c119))
                      (try (have c119b3 : ¬ (t221 = t223) := by simpa using c119))
                      clear c119
                      (first | rw [c119b0] | (simp only [i64_w, i32_w]; rw [c119b0]) | skip)
                      have H' := Aside0.mk H
                      clear H
                      go_wp2
                      refine Met.intro ?_
                      go_step
                      (repeat apply ex32_)
                      (repeat apply Exists.intro)
                      refine ⟨?rel, rfl⟩
                      case rel => exact ⟨_, (true), (by first | rfl | (simp; done) | (simp [*]; done)), H', ⟨by have := HJ6.out; have := HJ14.out; have := HJ50.out; first | omega | exact Nat.le_refl _⟩, ⟨by repeat (first | (with_reducible first | exact HB.out | apply below_alloc | apply pw_below_drewN | apply below_drew1) | exact HB.out)⟩⟩
                    · rw [if_neg c119] at H
                      have c119b0 : (t221 != t223) = false := by simpa using c119
                      (try (have c119b1 : decide (t221 = t223) = true := by simpa using c119))
                      (try (have c119b2 : (t221 == t223) = true := by simpa using c119))
                      clear c119
                      (first | rw [c119b0] | (simp only [i64_w, i32_w]; rw [c119b0]) | skip)
                      by_cases c120 : t220 = t222
                      · rw [if_pos c120] at H
                        have c120b0 : (t220 == t222) = true := beq_iff_eq.mpr c120
                        have c120b1 : (t220 != t222) = false := bne_eq_false_iff_eq.mpr c120
                        clear c120
                        by_cases c121 : (t225 != t227) = true
                        · rw [if_pos c121] at H
                          have c121b0 : (t225 != t227) = true := c121
                          (try (have c121b1 : decide (t225 = t227) = false := by simpa using c121))
                          (try (have c121b2 : (t225 == t227) = false := by simpa using c121))
                          (try (have c121b3 : ¬ (t225 = t227) := by simpa using c121))
                          clear c121
                          have H' := Aside0.mk H
                          clear H
                          go_wp2
                          refine Met.intro ?_
                          go_step
                          (repeat apply ex32_)
                          (repeat apply Exists.intro)
                          refine ⟨?rel, rfl⟩
                          case rel => exact ⟨_, (true), (by first | rfl | (simp; done) | (simp [*]; done)), H', ⟨by have := HJ6.out; have := HJ14.out; have := HJ50.out; first | omega | exact Nat.le_refl _⟩, ⟨by repeat (first | (with_reducible first | exact HB.out | apply below_alloc | apply pw_below_drewN | apply below_drew1) | exact HB.out)⟩⟩
                        · rw [if_neg c121] at H
                          have c121b0 : (t225 != t227) = false := by simpa using c121
                          (try (have c121b1 : decide (t225 = t227) = true := by simpa using c121))
                          (try (have c121b2 : (t225 == t227) = true := by simpa using c121))
                          clear c121
                          by_cases c122 : t224 = t226
                          · rw [if_pos c122] at H
                            have c122b0 : (t224 == t226) = true := beq_iff_eq.mpr c122
                            have c122b1 : (t224 != t226) = false := bne_eq_false_iff_eq.mpr c122
                            clear c122
                            by_cases c123 : (t229 != t231) = true
                            · rw [if_pos c123] at H
                              have c123b0 : (t229 != t231) = true := c123
                              (try (have c123b1 : decide (t229 = t231) = false := by simpa using c123))
                              (try (have c123b2 : (t229 == t231) = false := by simpa using c123))
                              (try (have c123b3 : ¬ (t229 = t231) := by simpa using c123))
                              clear c123
                              have H' := Aside0.mk H
                              clear H
                              go_wp2
                              refine Met.intro ?_
                              go_step
                              (repeat apply ex32_)
                              (repeat apply Exists.intro)
                              refine ⟨?rel, rfl⟩
                              case rel => exact ⟨_, (true), (by first | rfl | (simp; done) | (simp [*]; done)), H', ⟨by have := HJ6.out; have := HJ14.out; have := HJ50.out; first | omega | exact Nat.le_refl _⟩, ⟨by repeat (first | (with_reducible first | exact HB.out | apply below_alloc | apply pw_below_drewN | apply below_drew1) | exact HB.out)⟩⟩
                            · rw [if_neg c123] at H
                              have c123b0 : (t229 != t231) = false := by simpa using c123
                              (try (have c123b1 : decide (t229 = t231) = true := by simpa using c123))
                              (try (have c123b2 : (t229 == t231) = true := by simpa using c123))
                              clear c123
                              have H' := Aside0.mk H
                              clear H
                              go_wp2
                              refine Met.intro ?_
                              go_step
                              (repeat apply ex32_)
                              (repeat apply Exists.intro)
                              refine ⟨?rel, rfl⟩
                              case rel => exact ⟨_, ((t228 != t230)), (by first | rfl | (simp; done) | (simp [*]; done)), H', ⟨by have := HJ6.out; have := HJ14.out; have := HJ50.out; first | omega | exact Nat.le_refl _⟩, ⟨by repeat (first | (with_reducible first | exact HB.out | apply below_alloc | apply pw_below_drewN | apply below_drew1) | exact HB.out)⟩⟩
                          · rw [if_neg c122] at H
                            have c122b0 : (t224 == t226) = false := beq_eq_false_iff_ne.mpr c122
                            have c122b1 : (t224 != t226) = true := bne_iff_ne.mpr c122
                            have H' := Aside0.mk H
                            clear H
                            go_wp2
                            refine Met.intro ?_
                            go_step
                            (repeat apply ex32_)
                            (repeat apply Exists.intro)
                            refine ⟨?rel, rfl⟩
                            case rel => exact ⟨_, (true), (by first | rfl | (simp; done) | (simp [*]; done)), H', ⟨by have := HJ6.out; have := HJ14.out; have := HJ50.out; first | omega | exact Nat.le_refl _⟩, ⟨by repeat (first | (with_reducible first | exact HB.out | apply below_alloc | apply pw_below_drewN | apply below_drew1) | exact HB.out)⟩⟩
                      · rw [if_neg c120] at H
                        have c120b0 : (t220 == t222) = false := beq_eq_false_iff_ne.mpr c120
                        have c120b1 : (t220 != t222) = true := bne_iff_ne.mpr c120
                        have H' := Aside0.mk H
                        clear H
                        go_wp2
                        refine Met.intro ?_
                        go_step
                        (repeat apply ex32_)
                        (repeat apply Exists.intro)
                        refine ⟨?rel, rfl⟩
                        case rel => exact ⟨_, (true), (by first | rfl | (simp; done) | (simp [*]; done)), H', ⟨by have := HJ6.out; have := HJ14.out; have := HJ50.out; first | omega | exact Nat.le_refl _⟩, ⟨by repeat (first | (with_reducible first | exact HB.out | apply below_alloc | apply pw_below_drewN | apply below_drew1) | exact HB.out)⟩⟩
                  case rest => as_aux_lemma =>
                    clear HC115
                    try clear c1
                    try clear c2
                    try clear p2
                    try clear q2
                    try clear hx2
                    try clear c3
                    try clear c4
                    try clear c5
                    try clear c6
                    try clear p6
                    try clear c7
                    try clear c8
                    try clear c8b0
                    try clear c8b1
                    try clear c9
                    try clear c9b0
                    try clear c9b1
                    try clear c10
                    try clear c11
                    try clear c12
                    try clear c13
                    try clear c14
                    try clear c15
                    try clear c19
                    try clear c19b0
                    try clear c19b1
                    try clear c19b2
                    try clear c20
                    try clear c21
                    try clear p21
                    try clear q21
                    try clear hx21
                    try clear c22
                    try clear c22b0
                    try clear c22b1
                    try clear c22b2
                    try clear c23
                    try clear c24
                    try clear c25
                    try clear c25b0
                    try clear c25b1
                    try clear c26
                    try clear c26b0
                    try clear c26b1
                    try clear c26b2
                    try clear c29
                    try clear c31
                    try clear c50
                    try clear c52
                    try clear c54
                    try clear c54b0
                    try clear c54b1
                    try clear c58
                    try clear c59
                    try clear c59b0
                    try clear p64
                    try clear c65
                    try clear c65b0
                    try clear c65b1
                    try clear c65b2
                    try clear c67
                    try clear c67b0
                    try clear c67b1
                    try clear c67b2
                    try clear c69
                    try clear c70
                    try clear c70b0
                    try clear c72
                    try clear c72b0
                    try clear c74
                    try clear c75
                    try clear c75b0
                    try clear c76
                    try clear c76b0
                    try clear c79
                    try clear c80
                    try clear c80b0
                    try clear c81
                    try clear c81b0
                    try clear c84
                    try clear c85
                    try clear c87
                    try clear c88
                    try clear c88b0
                    try clear c88b1
                    try clear c92
                    try clear c92b0
                    try clear c92b1
                    try clear c94
                    try clear c94b0
                    try clear c94b1
                    try clear c95
                    try clear c95b0
                    try clear c95b1
                    try clear c97
                    try clear c97b0
                    try clear c98
                    try clear c99
                    try clear c99b0
                    try clear c99b1
                    try clear c100
                    try clear c100b0
                    try clear c100b1
                    try clear c119
                    try clear c119b0
                    try clear c119b1
                    try clear c119b2
                    try clear c120
                    try clear c120b0
                    try clear c120b1
                    try clear c121
                    try clear c121b0
                    try clear c121b1
                    try clear c121b2
                    try clear c122
                    try clear c122b0
                    try clear c122b1
                    try clear c123
                    try clear c123b0
                    try clear c123b1
                    try clear c123b2
                    try clear hx210_0
                    try clear hx211_0
                    try clear hx219_0
                    try clear p2
                    try clear p21
                    try clear p210
                    try clear p211
                    try clear p219
                    try clear p6
                    try clear p64
                    try clear q2
                    try clear q21
                    try clear q210
                    try clear q211
                    try clear q219
                    obtain ⟨kq, x292_114, rfl, HA, HJ114, HB⟩ := hcut
                    cases kq with
                    | zero => exact absurd HA.out (by simp [laws_FnCountedAnewOfAll.j6])
                    | succ kj114 =>
                      have H := HA.out
                      clear HA
                      simp only [laws_FnCountedAnewOfAll.j6] at H
                      by_cases c124 : x292_114 = true
                      · subst c124
                        have H1 : (some false) = some r := by rw [if_pos rfl] at H; exact H
                        clear H
                        have H := H1
                        clear H1
                        obtain rfl := Option.some.inj H
                        go_wp2
                        go_ret
                        exact ⟨by first | rfl | (simp [errW_none, errW_some] <;> rfl) | (simp [*, errW_none, errW_some] <;> rfl), by repeat (first | (with_reducible first | exact HB.out | apply below_alloc | apply pw_below_drewN | apply below_drew1) | exact HB.out)⟩
                      · replace c124 := Bool.eq_false_iff.mpr c124
                        subst c124
                        have H1 : (if t229 = true then (if t228 ≤ 10000 then ((impl_RankBehind.f kj114 l4 t228).bind fun bt232 => (if bt232.2 = true then (some (bt232.1 == a5)) else (some false))) else (some true)) else (some true)) = some r := by rw [if_neg (show ¬ (false = true) by decide)] at H; exact H
                        clear H
                        have H := H1
                        clear H1
                        by_cases c125 : t229 = true
                        · subst c125
                          have H1 : (if t228 ≤ 10000 then ((impl_RankBehind.f kj114 l4 t228).bind fun bt232 => (if bt232.2 = true then (some (bt232.1 == a5)) else (some false))) else (some true)) = some r := by rw [if_pos rfl] at H; exact H
                          clear H
                          have H := H1
                          clear H1
                          by_cases c126 : t228 ≤ 10000
                          · rw [if_pos c126] at H
                            have c126b0 : decide (t228 ≤ 10000) = true := decide_eq_true c126
                            clear c126
                            replace H := Option.bind_eq_some_iff.mp H
                            obtain ⟨⟨t232, t233⟩, A1270, H⟩ := H
                            replace H : (if t233 = true then (some (t232 == a5)) else (some false)) = some r := H
                            have A127 := Aside0.mk A1270
                            clear A1270
                            by_cases c128 : t233 = true
                            · subst c128
                              have H1 : (some (t232 == a5)) = some r := by rw [if_pos rfl] at H; exact H
                              clear H
                              have H := H1
                              clear H1
                              obtain rfl := Option.some.inj H
                              go_wp2_with (first | ((with_reducible refine gate_callee (f := 21) rfl ?_); refine goesL_ (some 301) rfl rfl Try.func21 (by kernel_rfl) rfl #[.slice A4 l4.length c4, .int .i64 t228] rfl (by (try simp only [List.map_toArray, List.map_cons, List.map_nil]); first | done | rfl | (simp only [List.length_drop, List.length_take]; rfl)) ?_; (with_reducible refine (impl_RankBehind.calls kj114 _ _ l4 t228 t232 true _ ?side1 ?side2 A127.out).mono ?_); (case side1 => repeat (first | exact (Kd.C_below HR4.out HB.out) | (with_reducible refine Kd.C_alloc ?_ _) | (with_reducible refine Kd.C_drewN ?_ _) | (with_reducible refine Kd.C_drew ?_))); (case side2 => exact HC4.out); rintro e w129 ⟨rfl, hb⟩; refine ⟨_, rfl, ?_⟩; have n0_ := Aside0.mk (below_step (by repeat (first | (with_reducible first | exact HB.out | apply below_alloc | apply pw_below_drewN | apply below_drew1) | exact HB.out)) hb); clear HB; have HB := n0_; clear n0_; (try clear hb); (try clear hb2); (try clear hk); (try clear hi)))
                              go_ret
                              exact ⟨by first | rfl | (simp [errW_none, errW_some] <;> rfl) | (simp [*, errW_none, errW_some] <;> rfl), by repeat (first | (with_reducible first | exact HB.out | apply below_alloc | apply pw_below_drewN | apply below_drew1) | exact HB.out)⟩
                            · replace c128 := Bool.eq_false_iff.mpr c128
                              subst c128
                              have H1 : (some false) = some r := by rw [if_neg (show ¬ (false = true) by decide)] at H; exact H
                              clear H
                              have H := H1
                              clear H1
                              obtain rfl := Option.some.inj H
                              go_wp2_with (first | ((with_reducible refine gate_callee (f := 21) rfl ?_); refine goesL_ (some 301) rfl rfl Try.func21 (by kernel_rfl) rfl #[.slice A4 l4.length c4, .int .i64 t228] rfl (by (try simp only [List.map_toArray, List.map_cons, List.map_nil]); first | done | rfl | (simp only [List.length_drop, List.length_take]; rfl)) ?_; (with_reducible refine (impl_RankBehind.calls kj114 _ _ l4 t228 t232 false _ ?side1 ?side2 A127.out).mono ?_); (case side1 => repeat (first | exact (Kd.C_below HR4.out HB.out) | (with_reducible refine Kd.C_alloc ?_ _) | (with_reducible refine Kd.C_drewN ?_ _) | (with_reducible refine Kd.C_drew ?_))); (case side2 => exact HC4.out); rintro e w130 ⟨rfl, hb⟩; refine ⟨_, rfl, ?_⟩; have n0_ := Aside0.mk (below_step (by repeat (first | (with_reducible first | exact HB.out | apply below_alloc | apply pw_below_drewN | apply below_drew1) | exact HB.out)) hb); clear HB; have HB := n0_; clear n0_; (try clear hb); (try clear hb2); (try clear hk); (try clear hi)))
                              go_ret
                              exact ⟨by first | rfl | (simp [errW_none, errW_some] <;> rfl) | (simp [*, errW_none, errW_some] <;> rfl), by repeat (first | (with_reducible first | exact HB.out | apply below_alloc | apply pw_below_drewN | apply below_drew1) | exact HB.out)⟩
                          · rw [if_neg c126] at H
                            have c126b0 : decide (t228 ≤ 10000) = false := decide_eq_false c126
                            clear c126
                            obtain rfl := Option.some.inj H
                            go_wp2
                            go_ret
                            exact ⟨by first | rfl | (simp [errW_none, errW_some] <;> rfl) | (simp [*, errW_none, errW_some] <;> rfl), by repeat (first | (with_reducible first | exact HB.out | apply below_alloc | apply pw_below_drewN | apply below_drew1) | exact HB.out)⟩
                        · replace c125 := Bool.eq_false_iff.mpr c125
                          subst c125
                          have H1 : (some true) = some r := by rw [if_neg (show ¬ (false = true) by decide)] at H; exact H
                          clear H
                          have H := H1
                          clear H1
                          obtain rfl := Option.some.inj H
                          go_wp2
                          go_ret
                          exact ⟨by first | rfl | (simp [errW_none, errW_some] <;> rfl) | (simp [*, errW_none, errW_some] <;> rfl), by repeat (first | (with_reducible first | exact HB.out | apply below_alloc | apply pw_below_drewN | apply below_drew1) | exact HB.out)⟩

/-- THE ONE PURE STATEMENT of laws_FnCountedAnewOfAll: yours. -/
def laws_FnCountedAnewOfAll.Pure : Prop := ∀ (l0 : List Int) (a1 : Int) (l2 : List Int) (a3 : Int) (l4 : List Int) (a5 : Int), l0.length ≤ maxLen → l0.length * 8 ≤ 140737488351232 → (∀ x ∈ l0, (Lit.int .i64 x).wf = true) → (Lit.int .i64 a1).wf = true → l2.length ≤ maxLen → l2.length * 8 ≤ 140737488351232 → (∀ x ∈ l2, (Lit.int .i64 x).wf = true) → (Lit.int .i64 a3).wf = true → l4.length ≤ maxLen → l4.length * 8 ≤ 140737488351232 → (∀ x ∈ l4, (Lit.int .i64 x).wf = true) → (Lit.int .i64 a5).wf = true → ∃ k, laws_FnCountedAnewOfAll.f k l0 a1 l2 a3 l4 a5 = some true
theorem laws_FnCountedAnewOfAll.walk (P : laws_FnCountedAnewOfAll.Pure) (a0 : Option Addr) (len0 cap0 : Nat) (z0 : List Int) (a1 : Int) (a2 : Option Addr) (len2 cap2 : Nat) (z2 : List Int) (a3 : Int) (a4 : Option Addr) (len4 cap4 : Nat) (z4 : List Int) (a5 : Int) (w : World) (w0 : (a0 = none ∧ len0 = 0 ∧ cap0 = 0 ∧ z0 = []) ∨ ∃ x, a0 = some x ∧ len0 ≤ cap0 ∧ cap0 ≤ maxLen ∧ z0.length = cap0 ∧ (∀ i, i < z0.length → w.cell? (x.add i) = some (.int .i64 (z0.getD i 0))) ∧ ∀ n ∈ z0, (Lit.int .i64 n).wf = true) (y0 : len0 * 8 ≤ 140737488351232) (w1 : (Lit.int .i64 a1).wf = true) (w2 : (a2 = none ∧ len2 = 0 ∧ cap2 = 0 ∧ z2 = []) ∨ ∃ x, a2 = some x ∧ len2 ≤ cap2 ∧ cap2 ≤ maxLen ∧ z2.length = cap2 ∧ (∀ i, i < z2.length → w.cell? (x.add i) = some (.int .i64 (z2.getD i 0))) ∧ ∀ n ∈ z2, (Lit.int .i64 n).wf = true) (y2 : len2 * 8 ≤ 140737488351232) (w3 : (Lit.int .i64 a3).wf = true) (w4 : (a4 = none ∧ len4 = 0 ∧ cap4 = 0 ∧ z4 = []) ∨ ∃ x, a4 = some x ∧ len4 ≤ cap4 ∧ cap4 ≤ maxLen ∧ z4.length = cap4 ∧ (∀ i, i < z4.length → w.cell? (x.add i) = some (.int .i64 (z4.getD i 0))) ∧ ∀ n ∈ z4, (Lit.int .i64 n).wf = true) (y4 : len4 * 8 ≤ 140737488351232) (w5 : (Lit.int .i64 a5).wf = true) :
    Calls Try.prog 4 #[.slice a0 len0 cap0, .int .i64 a1, .slice a2 len2 cap2, .int .i64 a3, .slice a4 len4 cap4, .int .i64 a5] w fun e w' => e = .returned (.bool true) ∧ Below w.heap.size w w' := by
  obtain ⟨l0, rfl, hr0, hm0, hw0, hc0⟩ := ReadsInt.ofRowC w0
  obtain ⟨l2, rfl, hr2, hm2, hw2, hc2⟩ := ReadsInt.ofRowC w2
  obtain ⟨l4, rfl, hr4, hm4, hw4, hc4⟩ := ReadsInt.ofRowC w4
  obtain ⟨k, h⟩ := P l0 a1 l2 a3 l4 a5 hm0 y0 hw0 w1 hm2 y2 hw2 w3 hm4 y4 hw4 w5
  refine (laws_FnCountedAnewOfAll.calls k _ _ l0 a1 _ _ l2 a3 _ _ l4 a5 true w (Kd.C_of_reads (d := (0 : Int)) (h1 := fun _ => rfl) hr0) hc0 (Kd.C_of_reads (d := (0 : Int)) (h1 := fun _ => rfl) hr2) hc2 (Kd.C_of_reads (d := (0 : Int)) (h1 := fun _ => rfl) hr4) hc4 h).mono ?_
  rintro e w' ⟨rfl, hd⟩
  exact ⟨rfl, hd⟩

end Go.Proofs.Ytnhlhfkpkpbekaa.PFnCountedAnewOfAll
