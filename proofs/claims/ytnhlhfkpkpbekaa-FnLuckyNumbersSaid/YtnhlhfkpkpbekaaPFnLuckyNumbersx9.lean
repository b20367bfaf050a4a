-- Written by a turned copy of the printer, for this claim
import Derived.Test.YtnhlhfkpkpbekaaPFnLuckyNumbersx8
namespace Go.Proofs.Ytnhlhfkpkpbekaa.PFnLuckyNumbers
open Go.RowKit Go.Proofs.YtnhlhfkpkpbekaaW.PrintWords Go.Proofs.YtnhlhfkpkpbekaaW.PrintLast Go.Proofs.YtnhlhfkpkpbekaaW.PrintMore
attribute [local go_sem] max2_int min2_int max_two min_two max_three min_three max_four min_four   -- for this text's walks alone
set_option linter.unusedVariables false
set_option linter.unusedSimpArgs false

/-- So many values at once. -/
theorem ex32_ {V : Type} {P : V → V → V → V → V → V → V → V → V → V → V → V → V → V → V → V → V → V → V → V → V → V → V → V → V → V → V → V → V → V → V → V → Prop} (a0 a1 a2 a3 a4 a5 a6 a7 a8 a9 a10 a11 a12 a13 a14 a15 a16 a17 a18 a19 a20 a21 a22 a23 a24 a25 a26 a27 a28 a29 a30 a31 : V) (h : P a0 a1 a2 a3 a4 a5 a6 a7 a8 a9 a10 a11 a12 a13 a14 a15 a16 a17 a18 a19 a20 a21 a22 a23 a24 a25 a26 a27 a28 a29 a30 a31) : ∃ a0 a1 a2 a3 a4 a5 a6 a7 a8 a9 a10 a11 a12 a13 a14 a15 a16 a17 a18 a19 a20 a21 a22 a23 a24 a25 a26 a27 a28 a29 a30 a31, P a0 a1 a2 a3 a4 a5 a6 a7 a8 a9 a10 a11 a12 a13 a14 a15 a16 a17 a18 a19 a20 a21 a22 a23 a24 a25 a26 a27 a28 a29 a30 a31 := ⟨a0, a1, a2, a3, a4, a5, a6, a7, a8, a9, a10, a11, a12, a13, a14, a15, a16, a17, a18, a19, a20, a21, a22, a23, a24, a25, a26, a27, a28, a29, a30, a31, h⟩

set_option maxHeartbeats 80000000 in
set_option maxRecDepth 100000 in
theorem laws_FnLuckyNumbers.calls (k : Nat) (A0 : Option Addr) (c0 : Nat) (l0 : List Int) (A1 : Option Addr) (c1 : Nat) (l1 : List Int) (r : Bool) (w : World) (hr0 : Kd.C (Kd.int .u8) w A0 l0.length l0) (hc0 : l0.length ≤ c0) (hr1 : Kd.C (Kd.int .u8) w A1 l1.length l1) (hc1 : l1.length ≤ c1) (h : laws_FnLuckyNumbers.f k l0 l1 = some r) (hr : r = true) :
  Calls Try.prog 6 #[.slice A0 l0.length c0, .slice A1 l1.length c1] w fun e w' => e = .returned (.bool r) ∧ Below w.heap.size w w' := by
 have HRT := Aside0.mk hr
 clear hr
 have HR0 := Aside0.mk hr0
 have HC0 := Aside0.mk hc0
 clear hr0 hc0
 have HR1 := Aside0.mk hr1
 have HC1 := Aside0.mk hc1
 clear hr1 hc1
 have HB := Aside0.mk (Below.refl w.heap.size w)
 have H : ((laws_big.f l0 l1).bind fun t429 => (if t429 = true then (some true) else ((spec_DrawLucky.f l0).bind fun t430 => ((impl_Lucky.f k t430).bind fun bt431 => ((spec_Lucky.f k t430).bind fun bt435 => ((impl_LuckySteps.f k t430).bind fun bt439 => ((spec_LuckySteps.f k t430).bind fun bt443 => ((impl_EvenLucky.f k t430).bind fun bt447 => ((spec_EvenLucky.f k t430).bind fun bt451 => ((impl_RisingSieve.f k t430).bind fun bt455 => ((spec_RisingSieve.f k t430).bind fun bt459 => (if (bt431.2 != bt435.2) = true then (some false) else ((laws_tSame.f k bt431.1 bt435.1).bind fun t463 => (if t463 = true then (if (bt439.2 != bt443.2) = true then (some false) else ((laws_tSame.f k bt439.1 bt443.1).bind fun t464 => (if t464 = true then (if (bt447.2 != bt451.2) = true then (some false) else ((laws_tSame.f k bt447.1 bt451.1).bind fun t465 => (if t465 = true then (if (bt455.2 != bt459.2) = true then (some false) else ((laws_tSame.f k bt455.1 bt459.1).bind fun t466 => (if t466 = true then (if (bt439.2 != bt431.2) = true then (some false) else (if (bt447.2 != bt431.2) = true then (some false) else (if (bt455.2 != bt431.2) = true then (some false) else (if bt431.2 = true then ((laws_tRises.f k bt431.1 1 t430).bind fun t467 => (if t467 = true then ((laws_tRises.f k bt447.1 2 t430).bind fun t468 => (if t468 = true then ((laws_tRises.f k bt455.1 1 t430).bind fun t469 => (if t469 = true then (if (bt439.1.length : Int) ≤ 12 then ((impl_LeftByCounting.f k bt439.1 t430).bind fun bt470 => (if bt470.2 = true then ((laws_tSame.f k bt470.1 bt431.1).bind fun t474 => (if t474 = true then (laws_FnLuckyNumbers.j0 k l1 bt431.1 bt439.1 bt447.1 bt455.1) else (some false))) else (some false))) else (laws_FnLuckyNumbers.j0 k l1 bt431.1 bt439.1 bt447.1 bt455.1)) else (some false))) else (some false))) else (some false))) else (laws_FnLuckyNumbers.j5 k l1))))) else (some false)))) else (some false)))) else (some false)))) else (some false))))))))))))))) = some r := h
 clear h
 replace H := Option.bind_eq_some_iff.mp H
 obtain ⟨t429, A30, H⟩ := H
 replace H : (if t429 = true then (some true) else ((spec_DrawLucky.f l0).bind fun t430 => ((impl_Lucky.f k t430).bind fun bt431 => ((spec_Lucky.f k t430).bind fun bt435 => ((impl_LuckySteps.f k t430).bind fun bt439 => ((spec_LuckySteps.f k t430).bind fun bt443 => ((impl_EvenLucky.f k t430).bind fun bt447 => ((spec_EvenLucky.f k t430).bind fun bt451 => ((impl_RisingSieve.f k t430).bind fun bt455 => ((spec_RisingSieve.f k t430).bind fun bt459 => (if (bt431.2 != bt435.2) = true then (some false) else ((laws_tSame.f k bt431.1 bt435.1).bind fun t463 => (if t463 = true then (if (bt439.2 != bt443.2) = true then (some false) else ((laws_tSame.f k bt439.1 bt443.1).bind fun t464 => (if t464 = true then (if (bt447.2 != bt451.2) = true then (some false) else ((laws_tSame.f k bt447.1 bt451.1).bind fun t465 => (if t465 = true then (if (bt455.2 != bt459.2) = true then (some false) else ((laws_tSame.f k bt455.1 bt459.1).bind fun t466 => (if t466 = true then (if (bt439.2 != bt431.2) = true then (some false) else (if (bt447.2 != bt431.2) = true then (some false) else (if (bt455.2 != bt431.2) = true then (some false) else (if bt431.2 = true then ((laws_tRises.f k bt431.1 1 t430).bind fun t467 => (if t467 = true then ((laws_tRises.f k bt447.1 2 t430).bind fun t468 => (if t468 = true then ((laws_tRises.f k bt455.1 1 t430).bind fun t469 => (if t469 = true then (if (bt439.1.length : Int) ≤ 12 then ((impl_LeftByCounting.f k bt439.1 t430).bind fun bt470 => (if bt470.2 = true then ((laws_tSame.f k bt470.1 bt431.1).bind fun t474 => (if t474 = true then (laws_FnLuckyNumbers.j0 k l1 bt431.1 bt439.1 bt447.1 bt455.1) else (some false))) else (some false))) else (laws_FnLuckyNumbers.j0 k l1 bt431.1 bt439.1 bt447.1 bt455.1)) else (some false))) else (some false))) else (some false))) else (laws_FnLuckyNumbers.j5 k l1))))) else (some false)))) else (some false)))) else (some false)))) else (some false)))))))))))))) = some r := H
 have A3 := Aside0.mk A30
 clear A30
 by_cases c4 : t429 = true
 ·subst c4
  have H1 : (some true) = some r := by rw [if_pos rfl] at H; exact H
  clear H
  have H := H1
  clear H1
  obtain rfl := Option.some.inj H
  as_aux_lemma =>
  go_enter Try.func6, Try.ntmps6
  go_wp2_with (first | (go_at_call 43; (with_reducible refine (laws_big.calls _ _ l0 _ _ l1 true _ ?side1 ?side2 ?side3 ?side4 A3.out).mono ?_); (case side1 => repeat (first | exact HR0.out | (with_reducible refine Kd.C_alloc ?_ _) | (with_reducible refine Kd.C_drewN ?_ _) | (with_reducible refine Kd.C_drew ?_))); (case side2 => exact HC0.out); (case side3 => repeat (first | exact HR1.out | (with_reducible refine Kd.C_alloc ?_ _) | (with_reducible refine Kd.C_drewN ?_ _) | (with_reducible refine Kd.C_drew ?_))); (case side4 => exact HC1.out); rintro e w' ⟨rfl, ⟨nd, rfl⟩⟩; (try first | exact ⟨rfl, _, World.drewN_drewN _ _ _⟩ | exact ⟨rfl, _, Eq.trans (World.drewN_drewN _ _ _) (congrArg (World.drewN _) (Nat.add_assoc _ _ _))⟩)))
  go_ret
  exact ⟨by first | rfl | (simp [errW_none, errW_some] <;> rfl) | (simp [*, errW_none, errW_some] <;> rfl), by repeat (first | (with_reducible first | exact HB.out | apply below_alloc | apply pw_below_drewN | apply below_drew1) | exact HB.out)⟩
 ·as_aux_lemma =>
  replace c4 := Bool.eq_false_iff.mpr c4
  subst c4
  have H1 : ((spec_DrawLucky.f l0).bind fun t430 => ((impl_Lucky.f k t430).bind fun bt431 => ((spec_Lucky.f k t430).bind fun bt435 => ((impl_LuckySteps.f k t430).bind fun bt439 => ((spec_LuckySteps.f k t430).bind fun bt443 => ((impl_EvenLucky.f k t430).bind fun bt447 => ((spec_EvenLucky.f k t430).bind fun bt451 => ((impl_RisingSieve.f k t430).bind fun bt455 => ((spec_RisingSieve.f k t430).bind fun bt459 => (if (bt431.2 != bt435.2) = true then (some false) else ((laws_tSame.f k bt431.1 bt435.1).bind fun t463 => (if t463 = true then (if (bt439.2 != bt443.2) = true then (some false) else ((laws_tSame.f k bt439.1 bt443.1).bind fun t464 => (if t464 = true then (if (bt447.2 != bt451.2) = true then (some false) else ((laws_tSame.f k bt447.1 bt451.1).bind fun t465 => (if t465 = true then (if (bt455.2 != bt459.2) = true then (some false) else ((laws_tSame.f k bt455.1 bt459.1).bind fun t466 => (if t466 = true then (if (bt439.2 != bt431.2) = true then (some false) else (if (bt447.2 != bt431.2) = true then (some false) else (if (bt455.2 != bt431.2) = true then (some false) else (if bt431.2 = true then ((laws_tRises.f k bt431.1 1 t430).bind fun t467 => (if t467 = true then ((laws_tRises.f k bt447.1 2 t430).bind fun t468 => (if t468 = true then ((laws_tRises.f k bt455.1 1 t430).bind fun t469 => (if t469 = true then (if (bt439.1.length : Int) ≤ 12 then ((impl_LeftByCounting.f k bt439.1 t430).bind fun bt470 => (if bt470.2 = true then ((laws_tSame.f k bt470.1 bt431.1).bind fun t474 => (if t474 = true then (laws_FnLuckyNumbers.j0 k l1 bt431.1 bt439.1 bt447.1 bt455.1) else (some false))) else (some false))) else (laws_FnLuckyNumbers.j0 k l1 bt431.1 bt439.1 bt447.1 bt455.1)) else (some false))) else (some false))) else (some false))) else (laws_FnLuckyNumbers.j5 k l1))))) else (some false)))) else (some false)))) else (some false)))) else (some false))))))))))))) = some r := by rw [if_neg (show ¬ (false = true) by decide)] at H; exact H
  clear H
  have H := H1
  clear H1
  replace H := Option.bind_eq_some_iff.mp H
  obtain ⟨t430, A50, H⟩ := H
  replace H : ((impl_Lucky.f k t430).bind fun bt431 => ((spec_Lucky.f k t430).bind fun bt435 => ((impl_LuckySteps.f k t430).bind fun bt439 => ((spec_LuckySteps.f k t430).bind fun bt443 => ((impl_EvenLucky.f k t430).bind fun bt447 => ((spec_EvenLucky.f k t430).bind fun bt451 => ((impl_RisingSieve.f k t430).bind fun bt455 => ((spec_RisingSieve.f k t430).bind fun bt459 => (if (bt431.2 != bt435.2) = true then (some false) else ((laws_tSame.f k bt431.1 bt435.1).bind fun t463 => (if t463 = true then (if (bt439.2 != bt443.2) = true then (some false) else ((laws_tSame.f k bt439.1 bt443.1).bind fun t464 => (if t464 = true then (if (bt447.2 != bt451.2) = true then (some false) else ((laws_tSame.f k bt447.1 bt451.1).bind fun t465 => (if t465 = true then (if (bt455.2 != bt459.2) = true then (some false) else ((laws_tSame.f k bt455.1 bt459.1).bind fun t466 => (if t466 = true then (if (bt439.2 != bt431.2) = true then (some false) else (if (bt447.2 != bt431.2) = true then (some false) else (if (bt455.2 != bt431.2) = true then (some false) else (if bt431.2 = true then ((laws_tRises.f k bt431.1 1 t430).bind fun t467 => (if t467 = true then ((laws_tRises.f k bt447.1 2 t430).bind fun t468 => (if t468 = true then ((laws_tRises.f k bt455.1 1 t430).bind fun t469 => (if t469 = true then (if (bt439.1.length : Int) ≤ 12 then ((impl_LeftByCounting.f k bt439.1 t430).bind fun bt470 => (if bt470.2 = true then ((laws_tSame.f k bt470.1 bt431.1).bind fun t474 => (if t474 = true then (laws_FnLuckyNumbers.j0 k l1 bt431.1 bt439.1 bt447.1 bt455.1) else (some false))) else (some false))) else (laws_FnLuckyNumbers.j0 k l1 bt431.1 bt439.1 bt447.1 bt455.1)) else (some false))) else (some false))) else (some false))) else (laws_FnLuckyNumbers.j5 k l1))))) else (some false)))) else (some false)))) else (some false)))) else (some false)))))))))))) = some r := H
  have A5 := Aside0.mk A50
  clear A50
  replace H := Option.bind_eq_some_iff.mp H
  obtain ⟨⟨t431, t432⟩, A60, H⟩ := H
  replace H : ((spec_Lucky.f k t430).bind fun bt435 => ((impl_LuckySteps.f k t430).bind fun bt439 => ((spec_LuckySteps.f k t430).bind fun bt443 => ((impl_EvenLucky.f k t430).bind fun bt447 => ((spec_EvenLucky.f k t430).bind fun bt451 => ((impl_RisingSieve.f k t430).bind fun bt455 => ((spec_RisingSieve.f k t430).bind fun bt459 => (if (t432 != bt435.2) = true then (some false) else ((laws_tSame.f k t431 bt435.1).bind fun t463 => (if t463 = true then (if (bt439.2 != bt443.2) = true then (some false) else ((laws_tSame.f k bt439.1 bt443.1).bind fun t464 => (if t464 = true then (if (bt447.2 != bt451.2) = true then (some false) else ((laws_tSame.f k bt447.1 bt451.1).bind fun t465 => (if t465 = true then (if (bt455.2 != bt459.2) = true then (some false) else ((laws_tSame.f k bt455.1 bt459.1).bind fun t466 => (if t466 = true then (if (bt439.2 != t432) = true then (some false) else (if (bt447.2 != t432) = true then (some false) else (if (bt455.2 != t432) = true then (some false) else (if t432 = true then ((laws_tRises.f k t431 1 t430).bind fun t467 => (if t467 = true then ((laws_tRises.f k bt447.1 2 t430).bind fun t468 => (if t468 = true then ((laws_tRises.f k bt455.1 1 t430).bind fun t469 => (if t469 = true then (if (bt439.1.length : Int) ≤ 12 then ((impl_LeftByCounting.f k bt439.1 t430).bind fun bt470 => (if bt470.2 = true then ((laws_tSame.f k bt470.1 t431).bind fun t474 => (if t474 = true then (laws_FnLuckyNumbers.j0 k l1 t431 bt439.1 bt447.1 bt455.1) else (some false))) else (some false))) else (laws_FnLuckyNumbers.j0 k l1 t431 bt439.1 bt447.1 bt455.1)) else (some false))) else (some false))) else (some false))) else (laws_FnLuckyNumbers.j5 k l1))))) else (some false)))) else (some false)))) else (some false)))) else (some false))))))))))) = some r := H
  have A6 := Aside0.mk A60
  clear A60
  replace H := Option.bind_eq_some_iff.mp H
  obtain ⟨⟨t435, t436⟩, A70, H⟩ := H
  replace H : ((impl_LuckySteps.f k t430).bind fun bt439 => ((spec_LuckySteps.f k t430).bind fun bt443 => ((impl_EvenLucky.f k t430).bind fun bt447 => ((spec_EvenLucky.f k t430).bind fun bt451 => ((impl_RisingSieve.f k t430).bind fun bt455 => ((spec_RisingSieve.f k t430).bind fun bt459 => (if (t432 != t436) = true then (some false) else ((laws_tSame.f k t431 t435).bind fun t463 => (if t463 = true then (if (bt439.2 != bt443.2) = true then (some false) else ((laws_tSame.f k bt439.1 bt443.1).bind fun t464 => (if t464 = true then (if (bt447.2 != bt451.2) = true then (some false) else ((laws_tSame.f k bt447.1 bt451.1).bind fun t465 => (if t465 = true then (if (bt455.2 != bt459.2) = true then (some false) else ((laws_tSame.f k bt455.1 bt459.1).bind fun t466 => (if t466 = true then (if (bt439.2 != t432) = true then (some false) else (if (bt447.2 != t432) = true then (some false) else (if (bt455.2 != t432) = true then (some false) else (if t432 = true then ((laws_tRises.f k t431 1 t430).bind fun t467 => (if t467 = true then ((laws_tRises.f k bt447.1 2 t430).bind fun t468 => (if t468 = true then ((laws_tRises.f k bt455.1 1 t430).bind fun t469 => (if t469 = true then (if (bt439.1.length : Int) ≤ 12 then ((impl_LeftByCounting.f k bt439.1 t430).bind fun bt470 => (if bt470.2 = true then ((laws_tSame.f k bt470.1 t431).bind fun t474 => (if t474 = true then (laws_FnLuckyNumbers.j0 k l1 t431 bt439.1 bt447.1 bt455.1) else (some false))) else (some false))) else (laws_FnLuckyNumbers.j0 k l1 t431 bt439.1 bt447.1 bt455.1)) else (some false))) else (some false))) else (some false))) else (laws_FnLuckyNumbers.j5 k l1))))) else (some false)))) else (some false)))) else (some false)))) else (some false)))))))))) = some r := H
  have A7 := Aside0.mk A70
  clear A70
  replace H := Option.bind_eq_some_iff.mp H
  obtain ⟨⟨t439, t440⟩, A80, H⟩ := H
  replace H : ((spec_LuckySteps.f k t430).bind fun bt443 => ((impl_EvenLucky.f k t430).bind fun bt447 => ((spec_EvenLucky.f k t430).bind fun bt451 => ((impl_RisingSieve.f k t430).bind fun bt455 => ((spec_RisingSieve.f k t430).bind fun bt459 => (if (t432 != t436) = true then (some false) else ((laws_tSame.f k t431 t435).bind fun t463 => (if t463 = true then (if (t440 != bt443.2) = true then (some false) else ((laws_tSame.f k t439 bt443.1).bind fun t464 => (if t464 = true then (if (bt447.2 != bt451.2) = true then (some false) else ((laws_tSame.f k bt447.1 bt451.1).bind fun t465 => (if t465 = true then (if (bt455.2 != bt459.2) = true then (some false) else ((laws_tSame.f k bt455.1 bt459.1).bind fun t466 => (if t466 = true then (if (t440 != t432) = true then (some false) else (if (bt447.2 != t432) = true then (some false) else (if (bt455.2 != t432) = true then (some false) else (if t432 = true then ((laws_tRises.f k t431 1 t430).bind fun t467 => (if t467 = true then ((laws_tRises.f k bt447.1 2 t430).bind fun t468 => (if t468 = true then ((laws_tRises.f k bt455.1 1 t430).bind fun t469 => (if t469 = true then (if (t439.length : Int) ≤ 12 then ((impl_LeftByCounting.f k t439 t430).bind fun bt470 => (if bt470.2 = true then ((laws_tSame.f k bt470.1 t431).bind fun t474 => (if t474 = true then (laws_FnLuckyNumbers.j0 k l1 t431 t439 bt447.1 bt455.1) else (some false))) else (some false))) else (laws_FnLuckyNumbers.j0 k l1 t431 t439 bt447.1 bt455.1)) else (some false))) else (some false))) else (some false))) else (laws_FnLuckyNumbers.j5 k l1))))) else (some false)))) else (some false)))) else (some false)))) else (some false))))))))) = some r := H
  have A8 := Aside0.mk A80
  clear A80
  as_aux_lemma =>
  replace H := Option.bind_eq_some_iff.mp H
  obtain ⟨⟨t443, t444⟩, A90, H⟩ := H
  replace H : ((impl_EvenLucky.f k t430).bind fun bt447 => ((spec_EvenLucky.f k t430).bind fun bt451 => ((impl_RisingSieve.f k t430).bind fun bt455 => ((spec_RisingSieve.f k t430).bind fun bt459 => (if (t432 != t436) = true then (some false) else ((laws_tSame.f k t431 t435).bind fun t463 => (if t463 = true then (if (t440 != t444) = true then (some false) else ((laws_tSame.f k t439 t443).bind fun t464 => (if t464 = true then (if (bt447.2 != bt451.2) = true then (some false) else ((laws_tSame.f k bt447.1 bt451.1).bind fun t465 => (if t465 = true then (if (bt455.2 != bt459.2) = true then (some false) else ((laws_tSame.f k bt455.1 bt459.1).bind fun t466 => (if t466 = true then (if (t440 != t432) = true then (some false) else (if (bt447.2 != t432) = true then (some false) else (if (bt455.2 != t432) = true then (some false) else (if t432 = true then ((laws_tRises.f k t431 1 t430).bind fun t467 => (if t467 = true then ((laws_tRises.f k bt447.1 2 t430).bind fun t468 => (if t468 = true then ((laws_tRises.f k bt455.1 1 t430).bind fun t469 => (if t469 = true then (if (t439.length : Int) ≤ 12 then ((impl_LeftByCounting.f k t439 t430).bind fun bt470 => (if bt470.2 = true then ((laws_tSame.f k bt470.1 t431).bind fun t474 => (if t474 = true then (laws_FnLuckyNumbers.j0 k l1 t431 t439 bt447.1 bt455.1) else (some false))) else (some false))) else (laws_FnLuckyNumbers.j0 k l1 t431 t439 bt447.1 bt455.1)) else (some false))) else (some false))) else (some false))) else (laws_FnLuckyNumbers.j5 k l1))))) else (some false)))) else (some false)))) else (some false)))) else (some false)))))))) = some r := H
  have A9 := Aside0.mk A90
  clear A90
  replace H := Option.bind_eq_some_iff.mp H
  obtain ⟨⟨t447, t448⟩, A100, H⟩ := H
  replace H : ((spec_EvenLucky.f k t430).bind fun bt451 => ((impl_RisingSieve.f k t430).bind fun bt455 => ((spec_RisingSieve.f k t430).bind fun bt459 => (if (t432 != t436) = true then (some false) else ((laws_tSame.f k t431 t435).bind fun t463 => (if t463 = true then (if (t440 != t444) = true then (some false) else ((laws_tSame.f k t439 t443).bind fun t464 => (if t464 = true then (if (t448 != bt451.2) = true then (some false) else ((laws_tSame.f k t447 bt451.1).bind fun t465 => (if t465 = true then (if (bt455.2 != bt459.2) = true then (some false) else ((laws_tSame.f k bt455.1 bt459.1).bind fun t466 => (if t466 = true then (if (t440 != t432) = true then (some false) else (if (t448 != t432) = true then (some false) else (if (bt455.2 != t432) = true then (some false) else (if t432 = true then ((laws_tRises.f k t431 1 t430).bind fun t467 => (if t467 = true then ((laws_tRises.f k t447 2 t430).bind fun t468 => (if t468 = true then ((laws_tRises.f k bt455.1 1 t430).bind fun t469 => (if t469 = true then (if (t439.length : Int) ≤ 12 then ((impl_LeftByCounting.f k t439 t430).bind fun bt470 => (if bt470.2 = true then ((laws_tSame.f k bt470.1 t431).bind fun t474 => (if t474 = true then (laws_FnLuckyNumbers.j0 k l1 t431 t439 t447 bt455.1) else (some false))) else (some false))) else (laws_FnLuckyNumbers.j0 k l1 t431 t439 t447 bt455.1)) else (some false))) else (some false))) else (some false))) else (laws_FnLuckyNumbers.j5 k l1))))) else (some false)))) else (some false)))) else (some false)))) else (some false))))))) = some r := H
  have A10 := Aside0.mk A100
  clear A100
  replace H := Option.bind_eq_some_iff.mp H
  obtain ⟨⟨t451, t452⟩, A110, H⟩ := H
  replace H : ((impl_RisingSieve.f k t430).bind fun bt455 => ((spec_RisingSieve.f k t430).bind fun bt459 => (if (t432 != t436) = true then (some false) else ((laws_tSame.f k t431 t435).bind fun t463 => (if t463 = true then (if (t440 != t444) = true then (some false) else ((laws_tSame.f k t439 t443).bind fun t464 => (if t464 = true then (if (t448 != t452) = true then (some false) else ((laws_tSame.f k t447 t451).bind fun t465 => (if t465 = true then (if (bt455.2 != bt459.2) = true then (some false) else ((laws_tSame.f k bt455.1 bt459.1).bind fun t466 => (if t466 = true then (if (t440 != t432) = true then (some false) else (if (t448 != t432) = true then (some false) else (if (bt455.2 != t432) = true then (some false) else (if t432 = true then ((laws_tRises.f k t431 1 t430).bind fun t467 => (if t467 = true then ((laws_tRises.f k t447 2 t430).bind fun t468 => (if t468 = true then ((laws_tRises.f k bt455.1 1 t430).bind fun t469 => (if t469 = true then (if (t439.length : Int) ≤ 12 then ((impl_LeftByCounting.f k t439 t430).bind fun bt470 => (if bt470.2 = true then ((laws_tSame.f k bt470.1 t431).bind fun t474 => (if t474 = true then (laws_FnLuckyNumbers.j0 k l1 t431 t439 t447 bt455.1) else (some false))) else (some false))) else (laws_FnLuckyNumbers.j0 k l1 t431 t439 t447 bt455.1)) else (some false))) else (some false))) else (some false))) else (laws_FnLuckyNumbers.j5 k l1))))) else (some false)))) else (some false)))) else (some false)))) else (some false)))))) = some r := H
  have A11 := Aside0.mk A110
  clear A110
  replace H := Option.bind_eq_some_iff.mp H
  obtain ⟨⟨t455, t456⟩, A120, H⟩ := H
  replace H : ((spec_RisingSieve.f k t430).bind fun bt459 => (if (t432 != t436) = true then (some false) else ((laws_tSame.f k t431 t435).bind fun t463 => (if t463 = true then (if (t440 != t444) = true then (some false) else ((laws_tSame.f k t439 t443).bind fun t464 => (if t464 = true then (if (t448 != t452) = true then (some false) else ((laws_tSame.f k t447 t451).bind fun t465 => (if t465 = true then (if (t456 != bt459.2) = true then (some false) else ((laws_tSame.f k t455 bt459.1).bind fun t466 => (if t466 = true then (if (t440 != t432) = true then (some false) else (if (t448 != t432) = true then (some false) else (if (t456 != t432) = true then (some false) else (if t432 = true then ((laws_tRises.f k t431 1 t430).bind fun t467 => (if t467 = true then ((laws_tRises.f k t447 2 t430).bind fun t468 => (if t468 = true then ((laws_tRises.f k t455 1 t430).bind fun t469 => (if t469 = true then (if (t439.length : Int) ≤ 12 then ((impl_LeftByCounting.f k t439 t430).bind fun bt470 => (if bt470.2 = true then ((laws_tSame.f k bt470.1 t431).bind fun t474 => (if t474 = true then (laws_FnLuckyNumbers.j0 k l1 t431 t439 t447 t455) else (some false))) else (some false))) else (laws_FnLuckyNumbers.j0 k l1 t431 t439 t447 t455)) else (some false))) else (some false))) else (some false))) else (laws_FnLuckyNumbers.j5 k l1))))) else (some false)))) else (some false)))) else (some false)))) else (some false))))) = some r := H
  have A12 := Aside0.mk A120
  clear A120
  replace H := Option.bind_eq_some_iff.mp H
  obtain ⟨⟨t459, t460⟩, A130, H⟩ := H
  replace H : (if (t432 != t436) = true then (some false) else ((laws_tSame.f k t431 t435).bind fun t463 => (if t463 = true then (if (t440 != t444) = true then (some false) else ((laws_tSame.f k t439 t443).bind fun t464 => (if t464 = true then (if (t448 != t452) = true then (some false) else ((laws_tSame.f k t447 t451).bind fun t465 => (if t465 = true then (if (t456 != t460) = true then (some false) else ((laws_tSame.f k t455 t459).bind fun t466 => (if t466 = true then (if (t440 != t432) = true then (some false) else (if (t448 != t432) = true then (some false) else (if (t456 != t432) = true then (some false) else (if t432 = true then ((laws_tRises.f k t431 1 t430).bind fun t467 => (if t467 = true then ((laws_tRises.f k t447 2 t430).bind fun t468 => (if t468 = true then ((laws_tRises.f k t455 1 t430).bind fun t469 => (if t469 = true then (if (t439.length : Int) ≤ 12 then ((impl_LeftByCounting.f k t439 t430).bind fun bt470 => (if bt470.2 = true then ((laws_tSame.f k bt470.1 t431).bind fun t474 => (if t474 = true then (laws_FnLuckyNumbers.j0 k l1 t431 t439 t447 t455) else (some false))) else (some false))) else (laws_FnLuckyNumbers.j0 k l1 t431 t439 t447 t455)) else (some false))) else (some false))) else (some false))) else (laws_FnLuckyNumbers.j5 k l1))))) else (some false)))) else (some false)))) else (some false)))) else (some false)))) = some r := H
  have A13 := Aside0.mk A130
  clear A130
  by_cases c14 : (t432 != t436) = true
  ·rw [if_pos c14] at H
   have c14b0 : (t432 != t436) = true := c14
   (try (have c14b1 : decide (t432 = t436) = false := by simpa using c14))
   (try (have c14b2 : (t432 == t436) = false := by simpa using c14))
   (try (have c14b3 : ¬ (t432 = t436) := by simpa using c14))
   clear c14
   exact absurd (Option.some.inj H) (by rw [HRT.out]; decide)
  ·as_aux_lemma =>
   rw [if_neg c14] at H
   have c14b0 : (t432 != t436) = false := by simpa using c14
   (try (have c14b1 : decide (t432 = t436) = true := by simpa using c14))
   (try (have c14b2 : (t432 == t436) = true := by simpa using c14))
   clear c14
   replace H := Option.bind_eq_some_iff.mp H
   obtain ⟨t463, A150, H⟩ := H
   replace H : (if t463 = true then (if (t440 != t444) = true then (some false) else ((laws_tSame.f k t439 t443).bind fun t464 => (if t464 = true then (if (t448 != t452) = true then (some false) else ((laws_tSame.f k t447 t451).bind fun t465 => (if t465 = true then (if (t456 != t460) = true then (some false) else ((laws_tSame.f k t455 t459).bind fun t466 => (if t466 = true then (if (t440 != t432) = true then (some false) else (if (t448 != t432) = true then (some false) else (if (t456 != t432) = true then (some false) else (if t432 = true then ((laws_tRises.f k t431 1 t430).bind fun t467 => (if t467 = true then ((laws_tRises.f k t447 2 t430).bind fun t468 => (if t468 = true then ((laws_tRises.f k t455 1 t430).bind fun t469 => (if t469 = true then (if (t439.length : Int) ≤ 12 then ((impl_LeftByCounting.f k t439 t430).bind fun bt470 => (if bt470.2 = true then ((laws_tSame.f k bt470.1 t431).bind fun t474 => (if t474 = true then (laws_FnLuckyNumbers.j0 k l1 t431 t439 t447 t455) else (some false))) else (some false))) else (laws_FnLuckyNumbers.j0 k l1 t431 t439 t447 t455)) else (some false))) else (some false))) else (some false))) else (laws_FnLuckyNumbers.j5 k l1))))) else (some false)))) else (some false)))) else (some false)))) else (some false)) = some r := H
   have A15 := Aside0.mk A150
   clear A150
   by_cases c16 : t463 = true
   ·subst c16
    have H1 : (if (t440 != t444) = true then (some false) else ((laws_tSame.f k t439 t443).bind fun t464 => (if t464 = true then (if (t448 != t452) = true then (some false) else ((laws_tSame.f k t447 t451).bind fun t465 => (if t465 = true then (if (t456 != t460) = true then (some false) else ((laws_tSame.f k t455 t459).bind fun t466 => (if t466 = true then (if (t440 != t432) = true then (some false) else (if (t448 != t432) = true then (some false) else (if (t456 != t432) = true then (some false) else (if t432 = true then ((laws_tRises.f k t431 1 t430).bind fun t467 => (if t467 = true then ((laws_tRises.f k t447 2 t430).bind fun t468 => (if t468 = true then ((laws_tRises.f k t455 1 t430).bind fun t469 => (if t469 = true then (if (t439.length : Int) ≤ 12 then ((impl_LeftByCounting.f k t439 t430).bind fun bt470 => (if bt470.2 = true then ((laws_tSame.f k bt470.1 t431).bind fun t474 => (if t474 = true then (laws_FnLuckyNumbers.j0 k l1 t431 t439 t447 t455) else (some false))) else (some false))) else (laws_FnLuckyNumbers.j0 k l1 t431 t439 t447 t455)) else (some false))) else (some false))) else (some false))) else (laws_FnLuckyNumbers.j5 k l1))))) else (some false)))) else (some false)))) else (some false)))) = some r := by rw [if_pos rfl] at H; exact H
    clear H
    have H := H1
    clear H1
    by_cases c17 : (t440 != t444) = true
    ·rw [if_pos c17] at H
     have c17b0 : (t440 != t444) = true := c17
     (try (have c17b1 : decide (t440 = t444) = false := by simpa using c17))
     (try (have c17b2 : (t440 == t444) = false := by simpa using c17))
     (try (have c17b3 : ¬ (t440 = t444) := by simpa using c17))
     clear c17
     exact absurd (Option.some.inj H) (by rw [HRT.out]; decide)
    ·rw [if_neg c17] at H
     have c17b0 : (t440 != t444) = false := by simpa using c17
     (try (have c17b1 : decide (t440 = t444) = true := by simpa using c17))
     (try (have c17b2 : (t440 == t444) = true := by simpa using c17))
     clear c17
     as_aux_lemma =>
     replace H := Option.bind_eq_some_iff.mp H
     obtain ⟨t464, A180, H⟩ := H
     replace H : (if t464 = true then (if (t448 != t452) = true then (some false) else ((laws_tSame.f k t447 t451).bind fun t465 => (if t465 = true then (if (t456 != t460) = true then (some false) else ((laws_tSame.f k t455 t459).bind fun t466 => (if t466 = true then (if (t440 != t432) = true then (some false) else (if (t448 != t432) = true then (some false) else (if (t456 != t432) = true then (some false) else (if t432 = true then ((laws_tRises.f k t431 1 t430).bind fun t467 => (if t467 = true then ((laws_tRises.f k t447 2 t430).bind fun t468 => (if t468 = true then ((laws_tRises.f k t455 1 t430).bind fun t469 => (if t469 = true then (if (t439.length : Int) ≤ 12 then ((impl_LeftByCounting.f k t439 t430).bind fun bt470 => (if bt470.2 = true then ((laws_tSame.f k bt470.1 t431).bind fun t474 => (if t474 = true then (laws_FnLuckyNumbers.j0 k l1 t431 t439 t447 t455) else (some false))) else (some false))) else (laws_FnLuckyNumbers.j0 k l1 t431 t439 t447 t455)) else (some false))) else (some false))) else (some false))) else (laws_FnLuckyNumbers.j5 k l1))))) else (some false)))) else (some false)))) else (some false)) = some r := H
     have A18 := Aside0.mk A180
     clear A180
     by_cases c19 : t464 = true
     ·subst c19
      have H1 : (if (t448 != t452) = true then (some false) else ((laws_tSame.f k t447 t451).bind fun t465 => (if t465 = true then (if (t456 != t460) = true then (some false) else ((laws_tSame.f k t455 t459).bind fun t466 => (if t466 = true then (if (t440 != t432) = true then (some false) else (if (t448 != t432) = true then (some false) else (if (t456 != t432) = true then (some false) else (if t432 = true then ((laws_tRises.f k t431 1 t430).bind fun t467 => (if t467 = true then ((laws_tRises.f k t447 2 t430).bind fun t468 => (if t468 = true then ((laws_tRises.f k t455 1 t430).bind fun t469 => (if t469 = true then (if (t439.length : Int) ≤ 12 then ((impl_LeftByCounting.f k t439 t430).bind fun bt470 => (if bt470.2 = true then ((laws_tSame.f k bt470.1 t431).bind fun t474 => (if t474 = true then (laws_FnLuckyNumbers.j0 k l1 t431 t439 t447 t455) else (some false))) else (some false))) else (laws_FnLuckyNumbers.j0 k l1 t431 t439 t447 t455)) else (some false))) else (some false))) else (some false))) else (laws_FnLuckyNumbers.j5 k l1))))) else (some false)))) else (some false)))) = some r := by rw [if_pos rfl] at H; exact H
      clear H
      have H := H1
      clear H1
      by_cases c20 : (t448 != t452) = true
      ·rw [if_pos c20] at H
       have c20b0 : (t448 != t452) = true := c20
       (try (have c20b1 : decide (t448 = t452) = false := by simpa using c20))
       (try (have c20b2 : (t448 == t452) = false := by simpa using c20))
       (try (have c20b3 : ¬ (t448 = t452) := by simpa using c20))
       clear c20
       exact absurd (Option.some.inj H) (by rw [HRT.out]; decide)
      ·rw [if_neg c20] at H
       have c20b0 : (t448 != t452) = false := by simpa using c20
       (try (have c20b1 : decide (t448 = t452) = true := by simpa using c20))
       (try (have c20b2 : (t448 == t452) = true := by simpa using c20))
       clear c20
       replace H := Option.bind_eq_some_iff.mp H
       obtain ⟨t465, A210, H⟩ := H
       replace H : (if t465 = true then (if (t456 != t460) = true then (some false) else ((laws_tSame.f k t455 t459).bind fun t466 => (if t466 = true then (if (t440 != t432) = true then (some false) else (if (t448 != t432) = true then (some false) else (if (t456 != t432) = true then (some false) else (if t432 = true then ((laws_tRises.f k t431 1 t430).bind fun t467 => (if t467 = true then ((laws_tRises.f k t447 2 t430).bind fun t468 => (if t468 = true then ((laws_tRises.f k t455 1 t430).bind fun t469 => (if t469 = true then (if (t439.length : Int) ≤ 12 then ((impl_LeftByCounting.f k t439 t430).bind fun bt470 => (if bt470.2 = true then ((laws_tSame.f k bt470.1 t431).bind fun t474 => (if t474 = true then (laws_FnLuckyNumbers.j0 k l1 t431 t439 t447 t455) else (some false))) else (some false))) else (laws_FnLuckyNumbers.j0 k l1 t431 t439 t447 t455)) else (some false))) else (some false))) else (some false))) else (laws_FnLuckyNumbers.j5 k l1))))) else (some false)))) else (some false)) = some r := H
       have A21 := Aside0.mk A210
       clear A210
       by_cases c22 : t465 = true
       ·as_aux_lemma =>
        subst c22
        have H1 : (if (t456 != t460) = true then (some false) else ((laws_tSame.f k t455 t459).bind fun t466 => (if t466 = true then (if (t440 != t432) = true then (some false) else (if (t448 != t432) = true then (some false) else (if (t456 != t432) = true then (some false) else (if t432 = true then ((laws_tRises.f k t431 1 t430).bind fun t467 => (if t467 = true then ((laws_tRises.f k t447 2 t430).bind fun t468 => (if t468 = true then ((laws_tRises.f k t455 1 t430).bind fun t469 => (if t469 = true then (if (t439.length : Int) ≤ 12 then ((impl_LeftByCounting.f k t439 t430).bind fun bt470 => (if bt470.2 = true then ((laws_tSame.f k bt470.1 t431).bind fun t474 => (if t474 = true then (laws_FnLuckyNumbers.j0 k l1 t431 t439 t447 t455) else (some false))) else (some false))) else (laws_FnLuckyNumbers.j0 k l1 t431 t439 t447 t455)) else (some false))) else (some false))) else (some false))) else (laws_FnLuckyNumbers.j5 k l1))))) else (some false)))) = some r := by rw [if_pos rfl] at H; exact H
        clear H
        have H := H1
        clear H1
        by_cases c23 : (t456 != t460) = true
        ·rw [if_pos c23] at H
         have c23b0 : (t456 != t460) = true := c23
         (try (have c23b1 : decide (t456 = t460) = false := by simpa using c23))
         (try (have c23b2 : (t456 == t460) = false := by simpa using c23))
         (try (have c23b3 : ¬ (t456 = t460) := by simpa using c23))
         clear c23
         exact absurd (Option.some.inj H) (by rw [HRT.out]; decide)
        ·rw [if_neg c23] at H
         have c23b0 : (t456 != t460) = false := by simpa using c23
         (try (have c23b1 : decide (t456 = t460) = true := by simpa using c23))
         (try (have c23b2 : (t456 == t460) = true := by simpa using c23))
         clear c23
         replace H := Option.bind_eq_some_iff.mp H
         obtain ⟨t466, A240, H⟩ := H
         replace H : (if t466 = true then (if (t440 != t432) = true then (some false) else (if (t448 != t432) = true then (some false) else (if (t456 != t432) = true then (some false) else (if t432 = true then ((laws_tRises.f k t431 1 t430).bind fun t467 => (if t467 = true then ((laws_tRises.f k t447 2 t430).bind fun t468 => (if t468 = true then ((laws_tRises.f k t455 1 t430).bind fun t469 => (if t469 = true then (if (t439.length : Int) ≤ 12 then ((impl_LeftByCounting.f k t439 t430).bind fun bt470 => (if bt470.2 = true then ((laws_tSame.f k bt470.1 t431).bind fun t474 => (if t474 = true then (laws_FnLuckyNumbers.j0 k l1 t431 t439 t447 t455) else (some false))) else (some false))) else (laws_FnLuckyNumbers.j0 k l1 t431 t439 t447 t455)) else (some false))) else (some false))) else (some false))) else (laws_FnLuckyNumbers.j5 k l1))))) else (some false)) = some r := H
         have A24 := Aside0.mk A240
         clear A240
         by_cases c25 : t466 = true
         ·subst c25
          have H1 : (if (t440 != t432) = true then (some false) else (if (t448 != t432) = true then (some false) else (if (t456 != t432) = true then (some false) else (if t432 = true then ((laws_tRises.f k t431 1 t430).bind fun t467 => (if t467 = true then ((laws_tRises.f k t447 2 t430).bind fun t468 => (if t468 = true then ((laws_tRises.f k t455 1 t430).bind fun t469 => (if t469 = true then (if (t439.length : Int) ≤ 12 then ((impl_LeftByCounting.f k t439 t430).bind fun bt470 => (if bt470.2 = true then ((laws_tSame.f k bt470.1 t431).bind fun t474 => (if t474 = true then (laws_FnLuckyNumbers.j0 k l1 t431 t439 t447 t455) else (some false))) else (some false))) else (laws_FnLuckyNumbers.j0 k l1 t431 t439 t447 t455)) else (some false))) else (some false))) else (some false))) else (laws_FnLuckyNumbers.j5 k l1))))) = some r := by rw [if_pos rfl] at H; exact H
          clear H
          have H := H1
          clear H1
          by_cases c26 : (t440 != t432) = true
          ·rw [if_pos c26] at H
           have c26b0 : (t440 != t432) = true := c26
           (try (have c26b1 : decide (t440 = t432) = false := by simpa using c26))
           (try (have c26b2 : (t440 == t432) = false := by simpa using c26))
           (try (have c26b3 : ¬ (t440 = t432) := by simpa using c26))
           clear c26
           exact absurd (Option.some.inj H) (by rw [HRT.out]; decide)
          ·as_aux_lemma =>
           rw [if_neg c26] at H
           have c26b0 : (t440 != t432) = false := by simpa using c26
           (try (have c26b1 : decide (t440 = t432) = true := by simpa using c26))
           (try (have c26b2 : (t440 == t432) = true := by simpa using c26))
           clear c26
           by_cases c27 : (t448 != t432) = true
           ·rw [if_pos c27] at H
            have c27b0 : (t448 != t432) = true := c27
            (try (have c27b1 : decide (t448 = t432) = false := by simpa using c27))
            (try (have c27b2 : (t448 == t432) = false := by simpa using c27))
            (try (have c27b3 : ¬ (t448 = t432) := by simpa using c27))
            clear c27
            exact absurd (Option.some.inj H) (by rw [HRT.out]; decide)
           ·rw [if_neg c27] at H
            have c27b0 : (t448 != t432) = false := by simpa using c27
            (try (have c27b1 : decide (t448 = t432) = true := by simpa using c27))
            (try (have c27b2 : (t448 == t432) = true := by simpa using c27))
            clear c27
            by_cases c28 : (t456 != t432) = true
            ·rw [if_pos c28] at H
             have c28b0 : (t456 != t432) = true := c28
             (try (have c28b1 : decide (t456 = t432) = false := by simpa using c28))
             (try (have c28b2 : (t456 == t432) = false := by simpa using c28))
             (try (have c28b3 : ¬ (t456 = t432) := by simpa using c28))
             clear c28
             exact absurd (Option.some.inj H) (by rw [HRT.out]; decide)
            ·as_aux_lemma =>
             rw [if_neg c28] at H
             have c28b0 : (t456 != t432) = false := by simpa using c28
             (try (have c28b1 : decide (t456 = t432) = true := by simpa using c28))
             (try (have c28b2 : (t456 == t432) = true := by simpa using c28))
             clear c28
             have HC29 := Aside0.mk H
             clear H
             as_aux_lemma =>
             go_enter Try.func6, Try.ntmps6
             go_upto_region 5 with (first | (go_at_call 43; (with_reducible refine (laws_big.calls _ _ l0 _ _ l1 false _ ?side1 ?side2 ?side3 ?side4 A3.out).mono ?_); (case side1 => repeat (first | exact HR0.out | (with_reducible refine Kd.C_alloc ?_ _) | (with_reducible refine Kd.C_drewN ?_ _) | (with_reducible refine Kd.C_drew ?_))); (case side2 => exact HC0.out); (case side3 => repeat (first | exact HR1.out | (with_reducible refine Kd.C_alloc ?_ _) | (with_reducible refine Kd.C_drewN ?_ _) | (with_reducible refine Kd.C_drew ?_))); (case side4 => exact HC1.out); rintro e w' ⟨rfl, ⟨nd, rfl⟩⟩; (try first | exact ⟨rfl, _, World.drewN_drewN _ _ _⟩ | exact ⟨rfl, _, Eq.trans (World.drewN_drewN _ _ _) (congrArg (World.drewN _) (Nat.add_assoc _ _ _))⟩)) | (go_at_call 44; (with_reducible refine (spec_DrawLucky.calls _ _ l0 t430 _ ?side1 ?side2 A5.out).mono ?_); (case side1 => repeat (first | exact HR0.out | (with_reducible refine Kd.C_alloc ?_ _) | (with_reducible refine Kd.C_drewN ?_ _) | (with_reducible refine Kd.C_drew ?_))); (case side2 => exact HC0.out); rintro e w30 ⟨rfl, hb⟩; have n0_ := Aside0.mk (below_step (by repeat (first | (with_reducible first | exact HB.out | apply below_alloc | apply pw_below_drewN | apply below_drew1) | exact HB.out)) hb); clear HB; have HB := n0_; clear n0_; (try clear hb); (try clear hb2); (try clear hk); (try clear hi)) | (go_at_call 27; (with_reducible refine (impl_Lucky.calls k t430 t431 t432 _ A6.out).mono ?_); rintro e w31 ⟨v433, rfl, ho0, hb⟩; have n0_ := Aside0.mk (Kd.R_lower ho0 (below_size (by repeat (first | (with_reducible first | exact HB.out | apply below_alloc | apply pw_below_drewN | apply below_drew1) | exact HB.out)))); have n1_ := Aside0.mk (below_step (by repeat (first | (with_reducible first | exact HB.out | apply below_alloc | apply pw_below_drewN | apply below_drew1) | exact HB.out)) hb); clear HB; have HO434 := n0_; have HB := n1_; clear n0_ n1_; (try clear hb); (try clear hb2); (try clear hk); (try clear hi); (try clear ho0)))
             (try simp only [Act.put, List.setIfInBounds_toArray, List.set_cons_zero, List.set_cons_succ])
             as_aux_lemma =>
             go_upto_region 8 with (first | (go_at_call 28; (with_reducible refine (spec_Lucky.calls k t430 t435 t436 _ A7.out).mono ?_); rintro e w32 ⟨v437, rfl, ho0, hb⟩; have n0_ := Aside0.mk (Kd.R_elder' (by (with_reducible repeat (first | apply Kd.R_alloc | apply Kd.R_drewN | apply Kd.R_drew)); exact HO434.out) (Kd.R_base ho0) hb); have n1_ := Aside0.mk (Kd.R_lower (Kd.R_new' ho0 (Kd.R_lt (by (with_reducible repeat (first | apply Kd.R_alloc | apply Kd.R_drewN | apply Kd.R_drew)); exact HO434.out))) (below_size (by repeat (first | (with_reducible first | exact HB.out | apply below_alloc | apply pw_below_drewN | apply below_drew1) | exact HB.out)))); have n2_ := Aside0.mk (below_step (by repeat (first | (with_reducible first | exact HB.out | apply below_alloc | apply pw_below_drewN | apply below_drew1) | exact HB.out)) hb); clear HO434; clear HB; have HO434 := n0_; have HO438 := n1_; have HB := n2_; clear n0_ n1_ n2_; (try clear hb); (try clear hb2); (try clear hk); (try clear hi); (try clear ho0)) | (go_at_call 8; (with_reducible refine (impl_LuckySteps.calls k t430 t439 t440 _ A8.out).mono ?_); rintro e w33 ⟨v441, rfl, ho0, hb⟩; have n0_ := Aside0.mk (Kd.R_elder' (by (with_reducible repeat (first | apply Kd.R_alloc | apply Kd.R_drewN | apply Kd.R_drew)); exact HO434.out) (Kd.R_base ho0) hb); have n1_ := Aside0.mk (Kd.R_elder' (by (with_reducible repeat (first | apply Kd.R_alloc | apply Kd.R_drewN | apply Kd.R_drew)); exact HO438.out) (Kd.R_base ho0) hb); have n2_ := Aside0.mk (Kd.R_lower (Kd.R_new' (Kd.R_new' ho0 (Kd.R_lt (by (with_reducible repeat (first | apply Kd.R_alloc | apply Kd.R_drewN | apply Kd.R_drew)); exact HO434.out))) (Kd.R_lt (by (with_reducible repeat (first | apply Kd.R_alloc | apply Kd.R_drewN | apply Kd.R_drew)); exact HO438.out))) (below_size (by repeat (first | (with_reducible first | exact HB.out | apply below_alloc | apply pw_below_drewN | apply below_drew1) | exact HB.out)))); have n3_ := Aside0.mk (below_step (by repeat (first | (with_reducible first | exact HB.out | apply below_alloc | apply pw_below_drewN | apply below_drew1) | exact HB.out)) hb); clear HO434; clear HO438; clear HB; have HO434 := n0_; have HO438 := n1_; have HO442 := n2_; have HB := n3_; clear n0_ n1_ n2_ n3_; (try clear hb); (try clear hb2); (try clear hk); (try clear hi); (try clear ho0)) | (go_at_call 7; (with_reducible refine (spec_LuckySteps.calls k t430 t443 t444 _ A9.out).mono ?_); rintro e w34 ⟨v445, rfl, ho0, hb⟩; have n0_ := Aside0.mk (Kd.R_elder' (by (with_reducible repeat (first | apply Kd.R_alloc | apply Kd.R_drewN | apply Kd.R_drew)); exact HO434.out) (Kd.R_base ho0) hb); have n1_ := Aside0.mk (Kd.R_elder' (by (with_reducible repeat (first | apply Kd.R_alloc | apply Kd.R_drewN | apply Kd.R_drew)); exact HO438.out) (Kd.R_base ho0) hb); have n2_ := Aside0.mk (Kd.R_elder' (by (with_reducible repeat (first | apply Kd.R_alloc | apply Kd.R_drewN | apply Kd.R_drew)); exact HO442.out) (Kd.R_base ho0) hb); have n3_ := Aside0.mk (Kd.R_lower (Kd.R_new' (Kd.R_new' (Kd.R_new' ho0 (Kd.R_lt (by (with_reducible repeat (first | apply Kd.R_alloc | apply Kd.R_drewN | apply Kd.R_drew)); exact HO434.out))) (Kd.R_lt (by (with_reducible repeat (first | apply Kd.R_alloc | apply Kd.R_drewN | apply Kd.R_drew)); exact HO438.out))) (Kd.R_lt (by (with_reducible repeat (first | apply Kd.R_alloc | apply Kd.R_drewN | apply Kd.R_drew)); exact HO442.out))) (below_size (by repeat (first | (with_reducible first | exact HB.out | apply below_alloc | apply pw_below_drewN | apply below_drew1) | exact HB.out)))); have n4_ := Aside0.mk (below_step (by repeat (first | (with_reducible first | exact HB.out | apply below_alloc | apply pw_below_drewN | apply below_drew1) | exact HB.out)) hb); clear HO434; clear HO438; clear HO442; clear HB; have HO434 := n0_; have HO438 := n1_; have HO442 := n2_; have HO446 := n3_; have HB := n4_; clear n0_ n1_ n2_ n3_ n4_; (try clear hb); (try clear hb2); (try clear hk); (try clear hi); (try clear ho0)))
             (try simp only [Act.put, List.setIfInBounds_toArray, List.set_cons_zero, List.set_cons_succ])
             as_aux_lemma =>
             go_upto_region 11 with (first | (go_at_call 29; (with_reducible refine (impl_EvenLucky.calls k t430 t447 t448 _ A10.out).mono ?_); rintro e w35 ⟨v449, rfl, ho0, hb⟩; have n0_ := Aside0.mk (Kd.R_elder' (by (with_reducible repeat (first | apply Kd.R_alloc | apply Kd.R_drewN | apply Kd.R_drew)); exact HO434.out) (Kd.R_base ho0) hb); have n1_ := Aside0.mk (Kd.R_elder' (by (with_reducible repeat (first | apply Kd.R_alloc | apply Kd.R_drewN | apply Kd.R_drew)); exact HO438.out) (Kd.R_base ho0) hb); have n2_ := Aside0.mk (Kd.R_elder' (by (with_reducible repeat (first | apply Kd.R_alloc | apply Kd.R_drewN | apply Kd.R_drew)); exact HO442.out) (Kd.R_base ho0) hb); have n3_ := Aside0.mk (Kd.R_elder' (by (with_reducible repeat (first | apply Kd.R_alloc | apply Kd.R_drewN | apply Kd.R_drew)); exact HO446.out) (Kd.R_base ho0) hb); have n4_ := Aside0.mk (Kd.R_lower (Kd.R_new' (Kd.R_new' (Kd.R_new' (Kd.R_new' ho0 (Kd.R_lt (by (with_reducible repeat (first | apply Kd.R_alloc | apply Kd.R_drewN | apply Kd.R_drew)); exact HO434.out))) (Kd.R_lt (by (with_reducible repeat (first | apply Kd.R_alloc | apply Kd.R_drewN | apply Kd.R_drew)); exact HO438.out))) (Kd.R_lt (by (with_reducible repeat (first | apply Kd.R_alloc | apply Kd.R_drewN | apply Kd.R_drew)); exact HO442.out))) (Kd.R_lt (by (with_reducible repeat (first | apply Kd.R_alloc | apply Kd.R_drewN | apply Kd.R_drew)); exact HO446.out))) (below_size (by repeat (first | (with_reducible first | exact HB.out | apply below_alloc | apply pw_below_drewN | apply below_drew1) | exact HB.out)))); have n5_ := Aside0.mk (below_step (by repeat (first | (with_reducible first | exact HB.out | apply below_alloc | apply pw_below_drewN | apply below_drew1) | exact HB.out)) hb); clear HO434; clear HO438; clear HO442; clear HO446; clear HB; have HO434 := n0_; have HO438 := n1_; have HO442 := n2_; have HO446 := n3_; have HO450 := n4_; have HB := n5_; clear n0_ n1_ n2_ n3_ n4_ n5_; (try clear hb); (try clear hb2); (try clear hk); (try clear hi); (try clear ho0)) | (go_at_call 30; (with_reducible refine (spec_EvenLucky.calls k t430 t451 t452 _ A11.out).mono ?_); rintro e w36 ⟨v453, rfl, ho0, hb⟩; have n0_ := Aside0.mk (Kd.R_elder' (by (with_reducible repeat (first | apply Kd.R_alloc | apply Kd.R_drewN | apply Kd.R_drew)); exact HO434.out) (Kd.R_base ho0) hb); have n1_ := Aside0.mk (Kd.R_elder' (by (with_reducible repeat (first | apply Kd.R_alloc | apply Kd.R_drewN | apply Kd.R_drew)); exact HO438.out) (Kd.R_base ho0) hb); have n2_ := Aside0.mk (Kd.R_elder' (by (with_reducible repeat (first | apply Kd.R_alloc | apply Kd.R_drewN | apply Kd.R_drew)); exact HO442.out) (Kd.R_base ho0) hb); have n3_ := Aside0.mk (Kd.R_elder' (by (with_reducible repeat (first | apply Kd.R_alloc | apply Kd.R_drewN | apply Kd.R_drew)); exact HO446.out) (Kd.R_base ho0) hb); have n4_ := Aside0.mk (Kd.R_elder' (by (with_reducible repeat (first | apply Kd.R_alloc | apply Kd.R_drewN | apply Kd.R_drew)); exact HO450.out) (Kd.R_base ho0) hb); have n5_ := Aside0.mk (Kd.R_lower (Kd.R_new' (Kd.R_new' (Kd.R_new' (Kd.R_new' (Kd.R_new' ho0 (Kd.R_lt (by (with_reducible repeat (first | apply Kd.R_alloc | apply Kd.R_drewN | apply Kd.R_drew)); exact HO434.out))) (Kd.R_lt (by (with_reducible repeat (first | apply Kd.R_alloc | apply Kd.R_drewN | apply Kd.R_drew)); exact HO438.out))) (Kd.R_lt (by (with_reducible repeat (first | apply Kd.R_alloc | apply Kd.R_drewN | apply Kd.R_drew)); exact HO442.out))) (Kd.R_lt (by (with_reducible repeat (first | apply Kd.R_alloc | apply Kd.R_drewN | apply Kd.R_drew)); exact HO446.out))) (Kd.R_lt (by (with_reducible repeat (first | apply Kd.R_alloc | apply Kd.R_drewN | apply Kd.R_drew)); exact HO450.out))) (below_size (by repeat (first | (with_reducible first | exact HB.out | apply below_alloc | apply pw_below_drewN | apply below_drew1) | exact HB.out)))); have n6_ := Aside0.mk (below_step (by repeat (first | (with_reducible first | exact HB.out | apply below_alloc | apply pw_below_drewN | apply below_drew1) | exact HB.out)) hb); clear HO434; clear HO438; clear HO442; clear HO446; clear HO450; clear HB; have HO434 := n0_; have HO438 := n1_; have HO442 := n2_; have HO446 := n3_; have HO450 := n4_; have HO454 := n5_; have HB := n6_; clear n0_ n1_ n2_ n3_ n4_ n5_ n6_; (try clear hb); (try clear hb2); (try clear hk); (try clear hi); (try clear ho0)) | (go_at_call 31; (with_reducible refine (impl_RisingSieve.calls k t430 t455 t456 _ A12.out).mono ?_); rintro e w37 ⟨v457, rfl, ho0, hb⟩; have n0_ := Aside0.mk (Kd.R_elder' (by (with_reducible repeat (first | apply Kd.R_alloc | apply Kd.R_drewN | apply Kd.R_drew)); exact HO434.out) (Kd.R_base ho0) hb); have n1_ := Aside0.mk (Kd.R_elder' (by (with_reducible repeat (first | apply Kd.R_alloc | apply Kd.R_drewN | apply Kd.R_drew)); exact HO438.out) (Kd.R_base ho0) hb); have n2_ := Aside0.mk (Kd.R_elder' (by (with_reducible repeat (first | apply Kd.R_alloc | apply Kd.R_drewN | apply Kd.R_drew)); exact HO442.out) (Kd.R_base ho0) hb); have n3_ := Aside0.mk (Kd.R_elder' (by (with_reducible repeat (first | apply Kd.R_alloc | apply Kd.R_drewN | apply Kd.R_drew)); exact HO446.out) (Kd.R_base ho0) hb); have n4_ := Aside0.mk (Kd.R_elder' (by (with_reducible repeat (first | apply Kd.R_alloc | apply Kd.R_drewN | apply Kd.R_drew)); exact HO450.out) (Kd.R_base ho0) hb); have n5_ := Aside0.mk (Kd.R_elder' (by (with_reducible repeat (first | apply Kd.R_alloc | apply Kd.R_drewN | apply Kd.R_drew)); exact HO454.out) (Kd.R_base ho0) hb); have n6_ := Aside0.mk (Kd.R_lower (Kd.R_new' (Kd.R_new' (Kd.R_new' (Kd.R_new' (Kd.R_new' (Kd.R_new' ho0 (Kd.R_lt (by (with_reducible repeat (first | apply Kd.R_alloc | apply Kd.R_drewN | apply Kd.R_drew)); exact HO434.out))) (Kd.R_lt (by (with_reducible repeat (first | apply Kd.R_alloc | apply Kd.R_drewN | apply Kd.R_drew)); exact HO438.out))) (Kd.R_lt (by (with_reducible repeat (first | apply Kd.R_alloc | apply Kd.R_drewN | apply Kd.R_drew)); exact HO442.out))) (Kd.R_lt (by (with_reducible repeat (first | apply Kd.R_alloc | apply Kd.R_drewN | apply Kd.R_drew)); exact HO446.out))) (Kd.R_lt (by (with_reducible repeat (first | apply Kd.R_alloc | apply Kd.R_drewN | apply Kd.R_drew)); exact HO450.out))) (Kd.R_lt (by (with_reducible repeat (first | apply Kd.R_alloc | apply Kd.R_drewN | apply Kd.R_drew)); exact HO454.out))) (below_size (by repeat (first | (with_reducible first | exact HB.out | apply below_alloc | apply pw_below_drewN | apply below_drew1) | exact HB.out)))); have n7_ := Aside0.mk (below_step (by repeat (first | (with_reducible first | exact HB.out | apply below_alloc | apply pw_below_drewN | apply below_drew1) | exact HB.out)) hb); clear HO434; clear HO438; clear HO442; clear HO446; clear HO450; clear HO454; clear HB; have HO434 := n0_; have HO438 := n1_; have HO442 := n2_; have HO446 := n3_; have HO450 := n4_; have HO454 := n5_; have HO458 := n6_; have HB := n7_; clear n0_ n1_ n2_ n3_ n4_ n5_ n6_ n7_; (try clear hb); (try clear hb2); (try clear hk); (try clear hi); (try clear ho0)))
             (try simp only [Act.put, List.setIfInBounds_toArray, List.set_cons_zero, List.set_cons_succ])
             as_aux_lemma =>
             go_upto_if 167 with (first | (go_at_call 32; (with_reducible refine (spec_RisingSieve.calls k t430 t459 t460 _ A13.out).mono ?_); rintro e w38 ⟨v461, rfl, ho0, hb⟩; have n0_ := Aside0.mk (Kd.R_elder' (by (with_reducible repeat (first | apply Kd.R_alloc | apply Kd.R_drewN | apply Kd.R_drew)); exact HO434.out) (Kd.R_base ho0) hb); have n1_ := Aside0.mk (Kd.R_elder' (by (with_reducible repeat (first | apply Kd.R_alloc | apply Kd.R_drewN | apply Kd.R_drew)); exact HO438.out) (Kd.R_base ho0) hb); have n2_ := Aside0.mk (Kd.R_elder' (by (with_reducible repeat (first | apply Kd.R_alloc | apply Kd.R_drewN | apply Kd.R_drew)); exact HO442.out) (Kd.R_base ho0) hb); have n3_ := Aside0.mk (Kd.R_elder' (by (with_reducible repeat (first | apply Kd.R_alloc | apply Kd.R_drewN | apply Kd.R_drew)); exact HO446.out) (Kd.R_base ho0) hb); have n4_ := Aside0.mk (Kd.R_elder' (by (with_reducible repeat (first | apply Kd.R_alloc | apply Kd.R_drewN | apply Kd.R_drew)); exact HO450.out) (Kd.R_base ho0) hb); have n5_ := Aside0.mk (Kd.R_elder' (by (with_reducible repeat (first | apply Kd.R_alloc | apply Kd.R_drewN | apply Kd.R_drew)); exact HO454.out) (Kd.R_base ho0) hb); have n6_ := Aside0.mk (Kd.R_elder' (by (with_reducible repeat (first | apply Kd.R_alloc | apply Kd.R_drewN | apply Kd.R_drew)); exact HO458.out) (Kd.R_base ho0) hb); have n7_ := Aside0.mk (Kd.R_lower (Kd.R_new' (Kd.R_new' (Kd.R_new' (Kd.R_new' (Kd.R_new' (Kd.R_new' (Kd.R_new' ho0 (Kd.R_lt (by (with_reducible repeat (first | apply Kd.R_alloc | apply Kd.R_drewN | apply Kd.R_drew)); exact HO434.out))) (Kd.R_lt (by (with_reducible repeat (first | apply Kd.R_alloc | apply Kd.R_drewN | apply Kd.R_drew)); exact HO438.out))) (Kd.R_lt (by (with_reducible repeat (first | apply Kd.R_alloc | apply Kd.R_drewN | apply Kd.R_drew)); exact HO442.out))) (Kd.R_lt (by (with_reducible repeat (first | apply Kd.R_alloc | apply Kd.R_drewN | apply Kd.R_drew)); exact HO446.out))) (Kd.R_lt (by (with_reducible repeat (first | apply Kd.R_alloc | apply Kd.R_drewN | apply Kd.R_drew)); exact HO450.out))) (Kd.R_lt (by (with_reducible repeat (first | apply Kd.R_alloc | apply Kd.R_drewN | apply Kd.R_drew)); exact HO454.out))) (Kd.R_lt (by (with_reducible repeat (first | apply Kd.R_alloc | apply Kd.R_drewN | apply Kd.R_drew)); exact HO458.out))) (below_size (by repeat (first | (with_reducible first | exact HB.out | apply below_alloc | apply pw_below_drewN | apply below_drew1) | exact HB.out)))); have n8_ := Aside0.mk (below_step (by repeat (first | (with_reducible first | exact HB.out | apply below_alloc | apply pw_below_drewN | apply below_drew1) | exact HB.out)) hb); clear HO434; clear HO438; clear HO442; clear HO446; clear HO450; clear HO454; clear HO458; clear HB; have HO434 := n0_; have HO438 := n1_; have HO442 := n2_; have HO446 := n3_; have HO450 := n4_; have HO454 := n5_; have HO458 := n6_; have HO462 := n7_; have HB := n8_; clear n0_ n1_ n2_ n3_ n4_ n5_ n6_ n7_ n8_; (try clear hb); (try clear hb2); (try clear hk); (try clear hi); (try clear ho0); obtain ⟨Ao39, co39, eo39⟩ := Kd.R_slice HO434.out; subst eo39; obtain ⟨Ao40, co40, eo40⟩ := Kd.R_slice HO438.out; subst eo40) | (go_at_call 16; (with_reducible refine (laws_tSame.calls k _ _ t431 _ _ t435 true _ ?side1 ?side2 ?side3 ?side4 A15.out).mono ?_); (case side1 => repeat (first | exact (Kd.R_reads' HO434.out).2.2 | (with_reducible refine Kd.C_alloc ?_ _) | (with_reducible refine Kd.C_drewN ?_ _) | (with_reducible refine Kd.C_drew ?_))); (case side2 => exact (Kd.R_reads' HO434.out).2.1); (case side3 => repeat (first | exact (Kd.R_reads' HO438.out).2.2 | (with_reducible refine Kd.C_alloc ?_ _) | (with_reducible refine Kd.C_drewN ?_ _) | (with_reducible refine Kd.C_drew ?_))); (case side4 => exact (Kd.R_reads' HO438.out).2.1); rintro e w' ⟨rfl, ⟨nd, rfl⟩⟩; (try first | exact ⟨rfl, _, World.drewN_drewN _ _ _⟩ | exact ⟨rfl, _, Eq.trans (World.drewN_drewN _ _ _) (congrArg (World.drewN _) (Nat.add_assoc _ _ _))⟩); obtain ⟨Ao41, co41, eo41⟩ := Kd.R_slice HO442.out; subst eo41; obtain ⟨Ao42, co42, eo42⟩ := Kd.R_slice HO446.out; subst eo42) | (go_at_call 16; (with_reducible refine (laws_tSame.calls k _ _ t439 _ _ t443 true _ ?side1 ?side2 ?side3 ?side4 A18.out).mono ?_); (case side1 => repeat (first | exact (Kd.R_reads' HO442.out).2.2 | (with_reducible refine Kd.C_alloc ?_ _) | (with_reducible refine Kd.C_drewN ?_ _) | (with_reducible refine Kd.C_drew ?_))); (case side2 => exact (Kd.R_reads' HO442.out).2.1); (case side3 => repeat (first | exact (Kd.R_reads' HO446.out).2.2 | (with_reducible refine Kd.C_alloc ?_ _) | (with_reducible refine Kd.C_drewN ?_ _) | (with_reducible refine Kd.C_drew ?_))); (case side4 => exact (Kd.R_reads' HO446.out).2.1); rintro e w' ⟨rfl, ⟨nd, rfl⟩⟩; (try first | exact ⟨rfl, _, World.drewN_drewN _ _ _⟩ | exact ⟨rfl, _, Eq.trans (World.drewN_drewN _ _ _) (congrArg (World.drewN _) (Nat.add_assoc _ _ _))⟩); obtain ⟨Ao43, co43, eo43⟩ := Kd.R_slice HO450.out; subst eo43; obtain ⟨Ao44, co44, eo44⟩ := Kd.R_slice HO454.out; subst eo44) | (go_at_call 16; (with_reducible refine (laws_tSame.calls k _ _ t447 _ _ t451 true _ ?side1 ?side2 ?side3 ?side4 A21.out).mono ?_); (case side1 => repeat (first | exact (Kd.R_reads' HO450.out).2.2 | (with_reducible refine Kd.C_alloc ?_ _) | (with_reducible refine Kd.C_drewN ?_ _) | (with_reducible refine Kd.C_drew ?_))); (case side2 => exact (Kd.R_reads' HO450.out).2.1); (case side3 => repeat (first | exact (Kd.R_reads' HO454.out).2.2 | (with_reducible refine Kd.C_alloc ?_ _) | (with_reducible refine Kd.C_drewN ?_ _) | (with_reducible refine Kd.C_drew ?_))); (case side4 => exact (Kd.R_reads' HO454.out).2.1); rintro e w' ⟨rfl, ⟨nd, rfl⟩⟩; (try first | exact ⟨rfl, _, World.drewN_drewN _ _ _⟩ | exact ⟨rfl, _, Eq.trans (World.drewN_drewN _ _ _) (congrArg (World.drewN _) (Nat.add_assoc _ _ _))⟩); obtain ⟨Ao45, co45, eo45⟩ := Kd.R_slice HO458.out; subst eo45; obtain ⟨Ao46, co46, eo46⟩ := Kd.R_slice HO462.out; subst eo46) | (go_at_call 16; (with_reducible refine (laws_tSame.calls k _ _ t455 _ _ t459 true _ ?side1 ?side2 ?side3 ?side4 A24.out).mono ?_); (case side1 => repeat (first | exact (Kd.R_reads' HO458.out).2.2 | (with_reducible refine Kd.C_alloc ?_ _) | (with_reducible refine Kd.C_drewN ?_ _) | (with_reducible refine Kd.C_drew ?_))); (case side2 => exact (Kd.R_reads' HO458.out).2.1); (case side3 => repeat (first | exact (Kd.R_reads' HO462.out).2.2 | (with_reducible refine Kd.C_alloc ?_ _) | (with_reducible refine Kd.C_drewN ?_ _) | (with_reducible refine Kd.C_drew ?_))); (case side4 => exact (Kd.R_reads' HO462.out).2.1); rintro e w' ⟨rfl, ⟨nd, rfl⟩⟩; (try first | exact ⟨rfl, _, World.drewN_drewN _ _ _⟩ | exact ⟨rfl, _, Eq.trans (World.drewN_drewN _ _ _) (congrArg (World.drewN _) (Nat.add_assoc _ _ _))⟩)))
             (try simp only [Act.put, List.setIfInBounds_toArray, List.set_cons_zero, List.set_cons_succ])
             go_cut [] from 155 to 167 (fun wc => ∃ (kq : Nat), Aside0 (laws_FnLuckyNumbers.j5 kq l1 = some r) ∧ Aside0 (kq ≤ k) ∧ Aside0 (Below w.heap.size w wc))
             case first => as_aux_lemma =>
              have H := HC29.out
              clear HC29
              by_cases c47 : t432 = true
              ·subst c47
               have H1 : ((laws_tRises.f k t431 1 t430).bind fun t467 => (if t467 = true then ((laws_tRises.f k t447 2 t430).bind fun t468 => (if t468 = true then ((laws_tRises.f k t455 1 t430).bind fun t469 => (if t469 = true then (if (t439.length : Int) ≤ 12 then ((impl_LeftByCounting.f k t439 t430).bind fun bt470 => (if bt470.2 = true then ((laws_tSame.f k bt470.1 t431).bind fun t474 => (if t474 = true then (laws_FnLuckyNumbers.j0 k l1 t431 t439 t447 t455) else (some false))) else (some false))) else (laws_FnLuckyNumbers.j0 k l1 t431 t439 t447 t455)) else (some false))) else (some false))) else (some false))) = some r := by rw [if_pos rfl] at H; exact H
               clear H
               have H := H1
               clear H1
               replace H := Option.bind_eq_some_iff.mp H
               obtain ⟨t467, A480, H⟩ := H
               replace H : (if t467 = true then ((laws_tRises.f k t447 2 t430).bind fun t468 => (if t468 = true then ((laws_tRises.f k t455 1 t430).bind fun t469 => (if t469 = true then (if (t439.length : Int) ≤ 12 then ((impl_LeftByCounting.f k t439 t430).bind fun bt470 => (if bt470.2 = true then ((laws_tSame.f k bt470.1 t431).bind fun t474 => (if t474 = true then (laws_FnLuckyNumbers.j0 k l1 t431 t439 t447 t455) else (some false))) else (some false))) else (laws_FnLuckyNumbers.j0 k l1 t431 t439 t447 t455)) else (some false))) else (some false))) else (some false)) = some r := H
               have A48 := Aside0.mk A480
               clear A480
               by_cases c49 : t467 = true
               ·subst c49
                have H1 : ((laws_tRises.f k t447 2 t430).bind fun t468 => (if t468 = true then ((laws_tRises.f k t455 1 t430).bind fun t469 => (if t469 = true then (if (t439.length : Int) ≤ 12 then ((impl_LeftByCounting.f k t439 t430).bind fun bt470 => (if bt470.2 = true then ((laws_tSame.f k bt470.1 t431).bind fun t474 => (if t474 = true then (laws_FnLuckyNumbers.j0 k l1 t431 t439 t447 t455) else (some false))) else (some false))) else (laws_FnLuckyNumbers.j0 k l1 t431 t439 t447 t455)) else (some false))) else (some false))) = some r := by rw [if_pos rfl] at H; exact H
                clear H
                have H := H1
                clear H1
                replace H := Option.bind_eq_some_iff.mp H
                obtain ⟨t468, A500, H⟩ := H
                replace H : (if t468 = true then ((laws_tRises.f k t455 1 t430).bind fun t469 => (if t469 = true then (if (t439.length : Int) ≤ 12 then ((impl_LeftByCounting.f k t439 t430).bind fun bt470 => (if bt470.2 = true then ((laws_tSame.f k bt470.1 t431).bind fun t474 => (if t474 = true then (laws_FnLuckyNumbers.j0 k l1 t431 t439 t447 t455) else (some false))) else (some false))) else (laws_FnLuckyNumbers.j0 k l1 t431 t439 t447 t455)) else (some false))) else (some false)) = some r := H
                have A50 := Aside0.mk A500
                clear A500
                by_cases c51 : t468 = true
                ·as_aux_lemma =>
                 subst c51
                 have H1 : ((laws_tRises.f k t455 1 t430).bind fun t469 => (if t469 = true then (if (t439.length : Int) ≤ 12 then ((impl_LeftByCounting.f k t439 t430).bind fun bt470 => (if bt470.2 = true then ((laws_tSame.f k bt470.1 t431).bind fun t474 => (if t474 = true then (laws_FnLuckyNumbers.j0 k l1 t431 t439 t447 t455) else (some false))) else (some false))) else (laws_FnLuckyNumbers.j0 k l1 t431 t439 t447 t455)) else (some false))) = some r := by rw [if_pos rfl] at H; exact H
                 clear H
                 have H := H1
                 clear H1
                 replace H := Option.bind_eq_some_iff.mp H
                 obtain ⟨t469, A520, H⟩ := H
                 replace H : (if t469 = true then (if (t439.length : Int) ≤ 12 then ((impl_LeftByCounting.f k t439 t430).bind fun bt470 => (if bt470.2 = true then ((laws_tSame.f k bt470.1 t431).bind fun t474 => (if t474 = true then (laws_FnLuckyNumbers.j0 k l1 t431 t439 t447 t455) else (some false))) else (some false))) else (laws_FnLuckyNumbers.j0 k l1 t431 t439 t447 t455)) else (some false)) = some r := H
                 have A52 := Aside0.mk A520
                 clear A520
                 by_cases c53 : t469 = true
                 ·subst c53
                  have H1 : (if (t439.length : Int) ≤ 12 then ((impl_LeftByCounting.f k t439 t430).bind fun bt470 => (if bt470.2 = true then ((laws_tSame.f k bt470.1 t431).bind fun t474 => (if t474 = true then (laws_FnLuckyNumbers.j0 k l1 t431 t439 t447 t455) else (some false))) else (some false))) else (laws_FnLuckyNumbers.j0 k l1 t431 t439 t447 t455)) = some r := by rw [if_pos rfl] at H; exact H
                  clear H
                  have H := H1
                  clear H1
                  have HC54 := Aside0.mk H
                  clear H
                  as_aux_lemma =>
                  go_upto_if 186 with (first | (go_at_call 19; (with_reducible refine (laws_tRises.calls k _ _ t431 1 t430 true _ ?side1 ?side2 A48.out).mono ?_); (case side1 => repeat (first | exact (Kd.R_reads' HO434.out).2.2 | (with_reducible refine Kd.C_alloc ?_ _) | (with_reducible refine Kd.C_drewN ?_ _) | (with_reducible refine Kd.C_drew ?_))); (case side2 => exact (Kd.R_reads' HO434.out).2.1); rintro e w' ⟨rfl, ⟨nd, rfl⟩⟩; (try first | exact ⟨rfl, _, World.drewN_drewN _ _ _⟩ | exact ⟨rfl, _, Eq.trans (World.drewN_drewN _ _ _) (congrArg (World.drewN _) (Nat.add_assoc _ _ _))⟩)) | (go_at_call 19; (with_reducible refine (laws_tRises.calls k _ _ t447 2 t430 true _ ?side1 ?side2 A50.out).mono ?_); (case side1 => repeat (first | exact (Kd.R_reads' HO450.out).2.2 | (with_reducible refine Kd.C_alloc ?_ _) | (with_reducible refine Kd.C_drewN ?_ _) | (with_reducible refine Kd.C_drew ?_))); (case side2 => exact (Kd.R_reads' HO450.out).2.1); rintro e w' ⟨rfl, ⟨nd, rfl⟩⟩; (try first | exact ⟨rfl, _, World.drewN_drewN _ _ _⟩ | exact ⟨rfl, _, Eq.trans (World.drewN_drewN _ _ _) (congrArg (World.drewN _) (Nat.add_assoc _ _ _))⟩)) | (go_at_call 19; (with_reducible refine (laws_tRises.calls k _ _ t455 1 t430 true _ ?side1 ?side2 A52.out).mono ?_); (case side1 => repeat (first | exact (Kd.R_reads' HO458.out).2.2 | (with_reducible refine Kd.C_alloc ?_ _) | (with_reducible refine Kd.C_drewN ?_ _) | (with_reducible refine Kd.C_drew ?_))); (case side2 => exact (Kd.R_reads' HO458.out).2.1); rintro e w' ⟨rfl, ⟨nd, rfl⟩⟩; (try first | exact ⟨rfl, _, World.drewN_drewN _ _ _⟩ | exact ⟨rfl, _, Eq.trans (World.drewN_drewN _ _ _) (congrArg (World.drewN _) (Nat.add_assoc _ _ _))⟩)))
                  (try simp only [Act.put, List.setIfInBounds_toArray, List.set_cons_zero, List.set_cons_succ])
                  go_cut [] from 174 to 186 (fun wc => ∃ (kq : Nat), Aside0 (laws_FnLuckyNumbers.j0 kq l1 t431 t439 t447 t455 = some r) ∧ Aside0 (kq ≤ k) ∧ Aside0 (Kd.R (Kd.int .i64) 3 wc w.heap.size (fun k_ => some k_ ≠ ((.slice Ao41 t439.length co41) : Value).ownBlock ∧ some k_ ≠ ((.slice Ao43 t447.length co43) : Value).ownBlock ∧ some k_ ≠ ((.slice Ao45 t455.length co45) : Value).ownBlock) (.slice Ao39 t431.length co39) t431) ∧ Aside0 (Kd.R (Kd.int .i64) 3 wc w.heap.size (fun k_ => some k_ ≠ ((.slice Ao39 t431.length co39) : Value).ownBlock ∧ some k_ ≠ ((.slice Ao43 t447.length co43) : Value).ownBlock ∧ some k_ ≠ ((.slice Ao45 t455.length co45) : Value).ownBlock) (.slice Ao41 t439.length co41) t439) ∧ Aside0 (Kd.R (Kd.int .i64) 3 wc w.heap.size (fun k_ => some k_ ≠ ((.slice Ao39 t431.length co39) : Value).ownBlock ∧ some k_ ≠ ((.slice Ao41 t439.length co41) : Value).ownBlock ∧ some k_ ≠ ((.slice Ao45 t455.length co45) : Value).ownBlock) (.slice Ao43 t447.length co43) t447) ∧ Aside0 (Kd.R (Kd.int .i64) 3 wc w.heap.size (fun k_ => some k_ ≠ ((.slice Ao39 t431.length co39) : Value).ownBlock ∧ some k_ ≠ ((.slice Ao41 t439.length co41) : Value).ownBlock ∧ some k_ ≠ ((.slice Ao43 t447.length co43) : Value).ownBlock) (.slice Ao45 t455.length co45) t455) ∧ Aside0 (Below w.heap.size w wc))
                  case first => as_aux_lemma =>
                   have H := HC54.out
                   clear HC54
                   by_cases c55 : (t439.length : Int) ≤ 12
                   ·rw [if_pos c55] at H
                    have c55b0 : decide ((t439.length : Int) ≤ 12) = true := decide_eq_true c55
                    have c55b1 : decide (t439.length ≤ 12) = true := decide_eq_true (by omega)
                    clear c55
                    (first | rw [c55b0] | (simp only [i64_w, i32_w]; rw [c55b0]) | skip)
                    replace H := Option.bind_eq_some_iff.mp H
                    obtain ⟨⟨t470, t471⟩, A560, H⟩ := H
                    replace H : (if t471 = true then ((laws_tSame.f k t470 t431).bind fun t474 => (if t474 = true then (laws_FnLuckyNumbers.j0 k l1 t431 t439 t447 t455) else (some false))) else (some false)) = some r := H
                    have A56 := Aside0.mk A560
                    clear A560
                    by_cases c57 : t471 = true
                    ·subst c57
                     have H1 : ((laws_tSame.f k t470 t431).bind fun t474 => (if t474 = true then (laws_FnLuckyNumbers.j0 k l1 t431 t439 t447 t455) else (some false))) = some r := by rw [if_pos rfl] at H; exact H
                     clear H
                     have H := H1
                     clear H1
                     replace H := Option.bind_eq_some_iff.mp H
                     obtain ⟨t474, A580, H⟩ := H
                     replace H : (if t474 = true then (laws_FnLuckyNumbers.j0 k l1 t431 t439 t447 t455) else (some false)) = some r := H
                     have A58 := Aside0.mk A580
                     clear A580
                     by_cases c59 : t474 = true
                     ·subst c59
                      have H1 : (laws_FnLuckyNumbers.j0 k l1 t431 t439 t447 t455) = some r := by rw [if_pos rfl] at H; exact H
                      clear H
                      have H := H1
                      clear H1
                      have H' := Aside0.mk H
                      clear H
                      go_wp2_with (first | (go_at_call 12; (with_reducible refine (impl_LeftByCounting.calls k _ _ t439 t430 t470 true _ ?side1 ?side2 A56.out).mono ?_); (case side1 => repeat (first | exact (Kd.R_reads' HO442.out).2.2 | (with_reducible refine Kd.C_alloc ?_ _) | (with_reducible refine Kd.C_drewN ?_ _) | (with_reducible refine Kd.C_drew ?_))); (case side2 => exact (Kd.R_reads' HO442.out).2.1); rintro e w60 ⟨v472, rfl, ho0, hb⟩; have n0_ := Aside0.mk (Kd.R_elder' (by (with_reducible repeat (first | apply Kd.R_alloc | apply Kd.R_drewN | apply Kd.R_drew)); exact HO434.out) (Kd.R_base ho0) hb); have n1_ := Aside0.mk (Kd.R_elder' (by (with_reducible repeat (first | apply Kd.R_alloc | apply Kd.R_drewN | apply Kd.R_drew)); exact HO438.out) (Kd.R_base ho0) hb); have n2_ := Aside0.mk (Kd.R_elder' (by (with_reducible repeat (first | apply Kd.R_alloc | apply Kd.R_drewN | apply Kd.R_drew)); exact HO442.out) (Kd.R_base ho0) hb); have n3_ := Aside0.mk (Kd.R_elder' (by (with_reducible repeat (first | apply Kd.R_alloc | apply Kd.R_drewN | apply Kd.R_drew)); exact HO446.out) (Kd.R_base ho0) hb); have n4_ := Aside0.mk (Kd.R_elder' (by (with_reducible repeat (first | apply Kd.R_alloc | apply Kd.R_drewN | apply Kd.R_drew)); exact HO450.out) (Kd.R_base ho0) hb); have n5_ := Aside0.mk (Kd.R_elder' (by (with_reducible repeat (first | apply Kd.R_alloc | apply Kd.R_drewN | apply Kd.R_drew)); exact HO454.out) (Kd.R_base ho0) hb); have n6_ := Aside0.mk (Kd.R_elder' (by (with_reducible repeat (first | apply Kd.R_alloc | apply Kd.R_drewN | apply Kd.R_drew)); exact HO458.out) (Kd.R_base ho0) hb); have n7_ := Aside0.mk (Kd.R_elder' (by (with_reducible repeat (first | apply Kd.R_alloc | apply Kd.R_drewN | apply Kd.R_drew)); exact HO462.out) (Kd.R_base ho0) hb); have n8_ := Aside0.mk (Kd.R_lower (Kd.R_new' (Kd.R_new' (Kd.R_new' (Kd.R_new' (Kd.R_new' (Kd.R_new' (Kd.R_new' (Kd.R_new' ho0 (Kd.R_lt (by (with_reducible repeat (first | apply Kd.R_alloc | apply Kd.R_drewN | apply Kd.R_drew)); exact HO434.out))) (Kd.R_lt (by (with_reducible repeat (first | apply Kd.R_alloc | apply Kd.R_drewN | apply Kd.R_drew)); exact HO438.out))) (Kd.R_lt (by (with_reducible repeat (first | apply Kd.R_alloc | apply Kd.R_drewN | apply Kd.R_drew)); exact HO442.out))) (Kd.R_lt (by (with_reducible repeat (first | apply Kd.R_alloc | apply Kd.R_drewN | apply Kd.R_drew)); exact HO446.out))) (Kd.R_lt (by (with_reducible repeat (first | apply Kd.R_alloc | apply Kd.R_drewN | apply Kd.R_drew)); exact HO450.out))) (Kd.R_lt (by (with_reducible repeat (first | apply Kd.R_alloc | apply Kd.R_drewN | apply Kd.R_drew)); exact HO454.out))) (Kd.R_lt (by (with_reducible repeat (first | apply Kd.R_alloc | apply Kd.R_drewN | apply Kd.R_drew)); exact HO458.out))) (Kd.R_lt (by (with_reducible repeat (first | apply Kd.R_alloc | apply Kd.R_drewN | apply Kd.R_drew)); exact HO462.out))) (below_size (by repeat (first | (with_reducible first | exact HB.out | apply below_alloc | apply pw_below_drewN | apply below_drew1) | exact HB.out)))); have n9_ := Aside0.mk (below_step (by repeat (first | (with_reducible first | exact HB.out | apply below_alloc | apply pw_below_drewN | apply below_drew1) | exact HB.out)) hb); clear HO434; clear HO438; clear HO442; clear HO446; clear HO450; clear HO454; clear HO458; clear HO462; clear HB; have HO434 := n0_; have HO438 := n1_; have HO442 := n2_; have HO446 := n3_; have HO450 := n4_; have HO454 := n5_; have HO458 := n6_; have HO462 := n7_; have HO473 := n8_; have HB := n9_; clear n0_ n1_ n2_ n3_ n4_ n5_ n6_ n7_ n8_ n9_; (try clear hb); (try clear hb2); (try clear hk); (try clear hi); (try clear ho0); obtain ⟨Ao61, co61, eo61⟩ := Kd.R_slice HO473.out; subst eo61) | (go_at_call 16; (with_reducible refine (laws_tSame.calls k _ _ t470 _ _ t431 true _ ?side1 ?side2 ?side3 ?side4 A58.out).mono ?_); (case side1 => repeat (first | exact (Kd.R_reads' HO473.out).2.2 | (with_reducible refine Kd.C_alloc ?_ _) | (with_reducible refine Kd.C_drewN ?_ _) | (with_reducible refine Kd.C_drew ?_))); (case side2 => exact (Kd.R_reads' HO473.out).2.1); (case side3 => repeat (first | exact (Kd.R_reads' HO434.out).2.2 | (with_reducible refine Kd.C_alloc ?_ _) | (with_reducible refine Kd.C_drewN ?_ _) | (with_reducible refine Kd.C_drew ?_))); (case side4 => exact (Kd.R_reads' HO434.out).2.1); rintro e w' ⟨rfl, ⟨nd, rfl⟩⟩; (try first | exact ⟨rfl, _, World.drewN_drewN _ _ _⟩ | exact ⟨rfl, _, Eq.trans (World.drewN_drewN _ _ _) (congrArg (World.drewN _) (Nat.add_assoc _ _ _))⟩)))
                      refine Met.intro ?_
                      go_step
                      (repeat with_reducible apply ex32_)
                      (repeat apply Exists.intro)
                      refine ⟨?rel, rfl⟩
                      case rel => exact ⟨_, H', ⟨by first | omega | exact Nat.le_refl _⟩, ⟨by (with_reducible repeat (first | apply Kd.R_alloc | apply Kd.R_drewN | apply Kd.R_drew)); exact Kd.R_mono HO434.out (fun _ hk => ⟨hk.1.1.1.1.1.1.2, ⟨hk.1.1.1.1.2, hk.1.1.2⟩⟩)⟩, ⟨by (with_reducible repeat (first | apply Kd.R_alloc | apply Kd.R_drewN | apply Kd.R_drew)); exact Kd.R_mono HO442.out (fun _ hk => ⟨hk.1.1.1.1.1.1.1.2, ⟨hk.1.1.1.1.2, hk.1.1.2⟩⟩)⟩, ⟨by (with_reducible repeat (first | apply Kd.R_alloc | apply Kd.R_drewN | apply Kd.R_drew)); exact Kd.R_mono HO450.out (fun _ hk => ⟨hk.1.1.1.1.1.1.1.2, ⟨hk.1.1.1.1.1.2, hk.1.1.2⟩⟩)⟩, ⟨by (with_reducible repeat (first | apply Kd.R_alloc | apply Kd.R_drewN | apply Kd.R_drew)); exact Kd.R_mono HO458.out (fun _ hk => ⟨hk.1.1.1.1.1.1.1.2, ⟨hk.1.1.1.1.1.2, hk.1.1.1.2⟩⟩)⟩, ⟨by repeat (first | (with_reducible first | exact HB.out | apply below_alloc | apply pw_below_drewN | apply below_drew1) | exact HB.out)⟩⟩
                     ·replace c59 := Bool.eq_false_iff.mpr c59
                      subst c59
                      have H1 : (some false) = some r := by rw [if_neg (show ¬ (false = true) by decide)] at H; exact H
                      clear H
                      have H := H1
                      clear H1
                      exact absurd (Option.some.inj H) (by rw [HRT.out]; decide)
                    ·replace c57 := Bool.eq_false_iff.mpr c57
                     subst c57
                     have H1 : (some false) = some r := by rw [if_neg (show ¬ (false = true) by decide)] at H; exact H
                     clear H
                     have H := H1
                     clear H1
                     exact absurd (Option.some.inj H) (by rw [HRT.out]; decide)
                   ·as_aux_lemma =>
                    rw [if_neg c55] at H
                    have c55b0 : decide ((t439.length : Int) ≤ 12) = false := decide_eq_false c55
                    have c55b1 : decide (t439.length ≤ 12) = false := decide_eq_false (by omega)
                    clear c55
                    (first | rw [c55b0] | (simp only [i64_w, i32_w]; rw [c55b0]) | skip)
                    have H' := Aside0.mk H
                    clear H
                    go_wp2
                    repeat (go_quiet (fail); try go_wp2)
                    refine Met.intro ?_
                    go_step
                    (repeat with_reducible apply ex32_)
                    (repeat apply Exists.intro)
                    refine ⟨?rel, rfl⟩
                    case rel => exact ⟨_, H', ⟨by first | omega | exact Nat.le_refl _⟩, ⟨by (with_reducible repeat (first | apply Kd.R_alloc | apply Kd.R_drewN | apply Kd.R_drew)); exact Kd.R_mono HO434.out (fun _ hk => ⟨hk.1.1.1.1.1.2, ⟨hk.1.1.1.2, hk.1.2⟩⟩)⟩, ⟨by (with_reducible repeat (first | apply Kd.R_alloc | apply Kd.R_drewN | apply Kd.R_drew)); exact Kd.R_mono HO442.out (fun _ hk => ⟨hk.1.1.1.1.1.1.2, ⟨hk.1.1.1.2, hk.1.2⟩⟩)⟩, ⟨by (with_reducible repeat (first | apply Kd.R_alloc | apply Kd.R_drewN | apply Kd.R_drew)); exact Kd.R_mono HO450.out (fun _ hk => ⟨hk.1.1.1.1.1.1.2, ⟨hk.1.1.1.1.2, hk.1.2⟩⟩)⟩, ⟨by (with_reducible repeat (first | apply Kd.R_alloc | apply Kd.R_drewN | apply Kd.R_drew)); exact Kd.R_mono HO458.out (fun _ hk => ⟨hk.1.1.1.1.1.1.2, ⟨hk.1.1.1.1.2, hk.1.1.2⟩⟩)⟩, ⟨by repeat (first | (with_reducible first | exact HB.out | apply below_alloc | apply pw_below_drewN | apply below_drew1) | exact HB.out)⟩⟩
                  case rest => as_aux_lemma =>
                   clear HC54
                   obtain ⟨kq, HA, HJ53, HO_6, HO_10, HO_14, HO_18, HB⟩ := hcut
                   cases kq with
                   | zero => exact absurd HA.out (by simp [laws_FnLuckyNumbers.j0])
                   | succ kj53 =>
                    have H := HA.out
                    clear HA
                    simp only [laws_FnLuckyNumbers.j0] at H
                    have H' := Aside0.mk H
                    clear H
                    go_wp2
                    repeat (go_quiet (fail); try go_wp2)
                    as_aux_lemma =>
                    go_loopg [203] kj53 (fun kq v203 w' => ∃ (x203_2 : Int), v203 = .int .i64 x203_2 ∧ Aside0 (laws_FnLuckyNumbers.l0 kq l1 t431 t447 t455 t439 (t439.length : Int) x203_2 = some r) ∧ Aside0 (kq ≤ kj53) ∧ Aside0 (Kd.R (Kd.int .i64) 3 w' w.heap.size (fun k_ => some k_ ≠ ((.slice Ao43 t447.length co43) : Value).ownBlock ∧ some k_ ≠ ((.slice Ao45 t455.length co45) : Value).ownBlock ∧ some k_ ≠ ((.slice Ao41 t439.length co41) : Value).ownBlock) (.slice Ao39 t431.length co39) t431) ∧ Aside0 (Kd.R (Kd.int .i64) 3 w' w.heap.size (fun k_ => some k_ ≠ ((.slice Ao39 t431.length co39) : Value).ownBlock ∧ some k_ ≠ ((.slice Ao45 t455.length co45) : Value).ownBlock ∧ some k_ ≠ ((.slice Ao41 t439.length co41) : Value).ownBlock) (.slice Ao43 t447.length co43) t447) ∧ Aside0 (Kd.R (Kd.int .i64) 3 w' w.heap.size (fun k_ => some k_ ≠ ((.slice Ao39 t431.length co39) : Value).ownBlock ∧ some k_ ≠ ((.slice Ao43 t447.length co43) : Value).ownBlock ∧ some k_ ≠ ((.slice Ao41 t439.length co41) : Value).ownBlock) (.slice Ao45 t455.length co45) t455) ∧ Aside0 (Kd.R (Kd.int .i64) 3 w' w.heap.size (fun k_ => some k_ ≠ ((.slice Ao39 t431.length co39) : Value).ownBlock ∧ some k_ ≠ ((.slice Ao43 t447.length co43) : Value).ownBlock ∧ some k_ ≠ ((.slice Ao45 t455.length co45) : Value).ownBlock) (.slice Ao41 t439.length co41) t439) ∧ Aside0 (Below w.heap.size w w'))
                    case atStart => exact ⟨(0), (by first | rfl | (simp; done) | (simp [*]; done)), H', ⟨Nat.le_refl _⟩, ⟨by (with_reducible repeat (first | apply Kd.R_alloc | apply Kd.R_drewN | apply Kd.R_drew)); exact Kd.R_mono HO_6.out (fun _ hk => ⟨hk.2.1, ⟨hk.2.2, hk.1⟩⟩)⟩, ⟨by (with_reducible repeat (first | apply Kd.R_alloc | apply Kd.R_drewN | apply Kd.R_drew)); exact Kd.R_mono HO_14.out (fun _ hk => ⟨hk.1, ⟨hk.2.2, hk.2.1⟩⟩)⟩, ⟨by (with_reducible repeat (first | apply Kd.R_alloc | apply Kd.R_drewN | apply Kd.R_drew)); exact Kd.R_mono HO_18.out (fun _ hk => ⟨hk.1, ⟨hk.2.2, hk.2.1⟩⟩)⟩, ⟨by (with_reducible repeat (first | apply Kd.R_alloc | apply Kd.R_drewN | apply Kd.R_drew)); exact HO_10.out⟩, ⟨by repeat (first | (with_reducible first | exact HB.out | apply below_alloc | apply pw_below_drewN | apply below_drew1) | exact HB.out)⟩⟩
                    case round => as_aux_lemma =>
                     clear H'
                     obtain ⟨x203_2, rfl, HA, HK2, HO_6, HO_14, HO_18, HO_201, HB⟩ := hrel
                     cases gk with
                     | zero => exact absurd HA.out (by simp [laws_FnLuckyNumbers.l0])
                     | succ k2 =>
                      have H := HA.out
                      clear HA
                      simp only [laws_FnLuckyNumbers.l0] at H
                      by_cases c62 : x203_2 < (t439.length : Int)
                      ·rw [if_pos c62] at H
                       have c62b0 : decide (x203_2 < (t439.length : Int)) = true := decide_eq_true c62
                       clear c62
                       by_cases c63 : 0 ≤ x203_2
                       ·rw [if_pos c63] at H
                        have c63b0 : decide (0 ≤ x203_2) = true := decide_eq_true c63
                        clear c63
                        by_cases c64 : x203_2 < (t439.length : Int)
                        ·rw [if_pos c64] at H
                         have c64b0 : decide (x203_2 < (t439.length : Int)) = true := decide_eq_true c64
                         clear c64
                         by_cases c65 : x203_2 > 0
                         ·rw [if_pos c65] at H
                          have c65b0 : decide (0 < x203_2) = true := decide_eq_true c65
                          clear c65
                          as_aux_lemma =>
                          replace H := Option.bind_eq_some_iff.mp H
                          obtain ⟨t476, A660, H⟩ := H
                          replace H : (if t476 = true then (if x203_2 = 0 then (if (rd t439 x203_2) = 2 then (laws_FnLuckyNumbers.l0 k2 l1 t431 t447 t455 t439 (t439.length : Int) (wrap64 (x203_2 + 1))) else (some false)) else (laws_FnLuckyNumbers.l0 k2 l1 t431 t447 t455 t439 (t439.length : Int) (wrap64 (x203_2 + 1)))) else (some false)) = some r := H
                          have A66 := Aside0.mk A660
                          clear A660
                          by_cases c67 : t476 = true
                          ·subst c67
                           have H1 : (if x203_2 = 0 then (if (rd t439 x203_2) = 2 then (laws_FnLuckyNumbers.l0 k2 l1 t431 t447 t455 t439 (t439.length : Int) (wrap64 (x203_2 + 1))) else (some false)) else (laws_FnLuckyNumbers.l0 k2 l1 t431 t447 t455 t439 (t439.length : Int) (wrap64 (x203_2 + 1)))) = some r := by rw [if_pos rfl] at H; exact H
                           clear H
                           have H := H1
                           clear H1
                           by_cases c68 : x203_2 = 0
                           ·rw [if_pos c68] at H
                            have c68b0 : (x203_2 == 0) = true := beq_iff_eq.mpr c68
                            have c68b1 : (x203_2 != 0) = false := bne_eq_false_iff_eq.mpr c68
                            clear c68
                            by_cases c69 : (rd t439 x203_2) = 2
                            ·rw [if_pos c69] at H
                             have c69b0 : ((rd t439 x203_2) == 2) = true := beq_iff_eq.mpr c69
                             have c69b1 : ((rd t439 x203_2) != 2) = false := bne_eq_false_iff_eq.mpr c69
                             clear c69
                             have H' := Aside0.mk H
                             clear H
                             have p475 : 0 ≤ (x203_2 : Int) := of_decide_eq_true (by first | (with_reducible assumption) | assumption)
                             have q475 : x203_2 < (t439.length : Int) := of_decide_eq_true (by first | (with_reducible assumption) | assumption)
                             obtain ⟨ad475, e475, hx475_0⟩ := Kd.at_int (Kd.R_reads' HO_201.out).2.2 x203_2 p475 q475
                             cases e475
                             replace p475 := eq_true p475
                             replace q475 := eq_true q475
                             go_wp2_with (first | (go_at_call 22; (with_reducible refine (laws_tHas.calls k2 _ _ t431 (rd t439 x203_2) true _ ?side1 ?side2 A66.out).mono ?_); (case side1 => repeat (first | exact (Kd.R_reads' HO_6.out).2.2 | (with_reducible refine Kd.C_alloc ?_ _) | (with_reducible refine Kd.C_drewN ?_ _) | (with_reducible refine Kd.C_drew ?_))); (case side2 => exact (Kd.R_reads' HO_6.out).2.1); rintro e w' ⟨rfl, ⟨nd, rfl⟩⟩; (try first | exact ⟨rfl, _, World.drewN_drewN _ _ _⟩ | exact ⟨rfl, _, Eq.trans (World.drewN_drewN _ _ _) (congrArg (World.drewN _) (Nat.add_assoc _ _ _))⟩)))
                             refine Handed.intro k2 ?measure ?_
                             rotate_left
                             go_step
                             (repeat with_reducible apply ex32_)
                             (repeat apply Exists.intro)
                             refine ⟨?rel, rfl⟩
                             case measure => have := HJ53.out; have := HK2.out; omega
                             case rel => exact ⟨(wrap64 (x203_2 + 1)), (by first | rfl | (simp; done) | (simp [*]; done)), H', ⟨by have := HJ53.out; have := HK2.out; omega⟩, ⟨by (with_reducible repeat (first | apply Kd.R_alloc | apply Kd.R_drewN | apply Kd.R_drew)); exact HO_6.out⟩, ⟨by (with_reducible repeat (first | apply Kd.R_alloc | apply Kd.R_drewN | apply Kd.R_drew)); exact HO_14.out⟩, ⟨by (with_reducible repeat (first | apply Kd.R_alloc | apply Kd.R_drewN | apply Kd.R_drew)); exact HO_18.out⟩, ⟨by (with_reducible repeat (first | apply Kd.R_alloc | apply Kd.R_drewN | apply Kd.R_drew)); exact HO_201.out⟩, ⟨by repeat (first | (with_reducible first | exact HB.out | apply below_alloc | apply pw_below_drewN | apply below_drew1) | exact HB.out)⟩⟩
                            ·rw [if_neg c69] at H
                             have c69b0 : ((rd t439 x203_2) == 2) = false := beq_eq_false_iff_ne.mpr c69
                             have c69b1 : ((rd t439 x203_2) != 2) = true := bne_iff_ne.mpr c69
                             exact absurd (Option.some.inj H) (by rw [HRT.out]; decide)
                           ·as_aux_lemma =>
                            rw [if_neg c68] at H
                            have c68b0 : (x203_2 == 0) = false := beq_eq_false_iff_ne.mpr c68
                            have c68b1 : (x203_2 != 0) = true := bne_iff_ne.mpr c68
                            have H' := Aside0.mk H
                            clear H
                            have p475 : 0 ≤ (x203_2 : Int) := of_decide_eq_true (by first | (with_reducible assumption) | assumption)
                            have q475 : x203_2 < (t439.length : Int) := of_decide_eq_true (by first | (with_reducible assumption) | assumption)
                            obtain ⟨ad475, e475, hx475_0⟩ := Kd.at_int (Kd.R_reads' HO_201.out).2.2 x203_2 p475 q475
                            cases e475
                            replace p475 := eq_true p475
                            replace q475 := eq_true q475
                            go_wp2_with (first | (go_at_call 22; (with_reducible refine (laws_tHas.calls k2 _ _ t431 (rd t439 x203_2) true _ ?side1 ?side2 A66.out).mono ?_); (case side1 => repeat (first | exact (Kd.R_reads' HO_6.out).2.2 | (with_reducible refine Kd.C_alloc ?_ _) | (with_reducible refine Kd.C_drewN ?_ _) | (with_reducible refine Kd.C_drew ?_))); (case side2 => exact (Kd.R_reads' HO_6.out).2.1); rintro e w' ⟨rfl, ⟨nd, rfl⟩⟩; (try first | exact ⟨rfl, _, World.drewN_drewN _ _ _⟩ | exact ⟨rfl, _, Eq.trans (World.drewN_drewN _ _ _) (congrArg (World.drewN _) (Nat.add_assoc _ _ _))⟩)))
                            refine Handed.intro k2 ?measure ?_
                            rotate_left
                            go_step
                            (repeat with_reducible apply ex32_)
                            (repeat apply Exists.intro)
                            refine ⟨?rel, rfl⟩
                            case measure => have := HJ53.out; have := HK2.out; omega
                            case rel => exact ⟨(wrap64 (x203_2 + 1)), (by first | rfl | (simp; done) | (simp [*]; done)), H', ⟨by have := HJ53.out; have := HK2.out; omega⟩, ⟨by (with_reducible repeat (first | apply Kd.R_alloc | apply Kd.R_drewN | apply Kd.R_drew)); exact HO_6.out⟩, ⟨by (with_reducible repeat (first | apply Kd.R_alloc | apply Kd.R_drewN | apply Kd.R_drew)); exact HO_14.out⟩, ⟨by (with_reducible repeat (first | apply Kd.R_alloc | apply Kd.R_drewN | apply Kd.R_drew)); exact HO_18.out⟩, ⟨by (with_reducible repeat (first | apply Kd.R_alloc | apply Kd.R_drewN | apply Kd.R_drew)); exact HO_201.out⟩, ⟨by repeat (first | (with_reducible first | exact HB.out | apply below_alloc | apply pw_below_drewN | apply below_drew1) | exact HB.out)⟩⟩
                          ·replace c67 := Bool.eq_false_iff.mpr c67
                           subst c67
                           have H1 : (some false) = some r := by rw [if_neg (show ¬ (false = true) by decide)] at H; exact H
                           clear H
                           have H := H1
                           clear H1
                           exact absurd (Option.some.inj H) (by rw [HRT.out]; decide)
                         ·as_aux_lemma =>
                          rw [if_neg c65] at H
                          have c65b0 : decide (0 < x203_2) = false := decide_eq_false c65
                          clear c65
                          by_cases c70 : x203_2 = 0
                          ·rw [if_pos c70] at H
                           have c70b0 : (x203_2 == 0) = true := beq_iff_eq.mpr c70
                           have c70b1 : (x203_2 != 0) = false := bne_eq_false_iff_eq.mpr c70
                           clear c70
                           by_cases c71 : (rd t439 x203_2) = 2
                           ·rw [if_pos c71] at H
                            have c71b0 : ((rd t439 x203_2) == 2) = true := beq_iff_eq.mpr c71
                            have c71b1 : ((rd t439 x203_2) != 2) = false := bne_eq_false_iff_eq.mpr c71
                            clear c71
                            have H' := Aside0.mk H
                            clear H
                            have p475 : 0 ≤ (x203_2 : Int) := of_decide_eq_true (by first | (with_reducible assumption) | assumption)
                            have q475 : x203_2 < (t439.length : Int) := of_decide_eq_true (by first | (with_reducible assumption) | assumption)
                            obtain ⟨ad475, e475, hx475_0⟩ := Kd.at_int (Kd.R_reads' HO_201.out).2.2 x203_2 p475 q475
                            cases e475
                            replace p475 := eq_true p475
                            replace q475 := eq_true q475
                            go_wp2
                            repeat (go_quiet (fail); try go_wp2)
                            refine Handed.intro k2 ?measure ?_
                            rotate_left
                            go_step
                            (repeat with_reducible apply ex32_)
                            (repeat apply Exists.intro)
                            refine ⟨?rel, rfl⟩
                            case measure => have := HJ53.out; have := HK2.out; omega
                            case rel => exact ⟨(wrap64 (x203_2 + 1)), (by first | rfl | (simp; done) | (simp [*]; done)), H', ⟨by have := HJ53.out; have := HK2.out; omega⟩, ⟨by (with_reducible repeat (first | apply Kd.R_alloc | apply Kd.R_drewN | apply Kd.R_drew)); exact HO_6.out⟩, ⟨by (with_reducible repeat (first | apply Kd.R_alloc | apply Kd.R_drewN | apply Kd.R_drew)); exact HO_14.out⟩, ⟨by (with_reducible repeat (first | apply Kd.R_alloc | apply Kd.R_drewN | apply Kd.R_drew)); exact HO_18.out⟩, ⟨by (with_reducible repeat (first | apply Kd.R_alloc | apply Kd.R_drewN | apply Kd.R_drew)); exact HO_201.out⟩, ⟨by repeat (first | (with_reducible first | exact HB.out | apply below_alloc | apply pw_below_drewN | apply below_drew1) | exact HB.out)⟩⟩
                           ·rw [if_neg c71] at H
                            have c71b0 : ((rd t439 x203_2) == 2) = false := beq_eq_false_iff_ne.mpr c71
                            have c71b1 : ((rd t439 x203_2) != 2) = true := bne_iff_ne.mpr c71
                            exact absurd (Option.some.inj H) (by rw [HRT.out]; decide)
                          ·as_aux_lemma =>
                           rw [if_neg c70] at H
                           have c70b0 : (x203_2 == 0) = false := beq_eq_false_iff_ne.mpr c70
                           have c70b1 : (x203_2 != 0) = true := bne_iff_ne.mpr c70
                           have H' := Aside0.mk H
                           clear H
                           have p475 : 0 ≤ (x203_2 : Int) := of_decide_eq_true (by first | (with_reducible assumption) | assumption)
                           have q475 : x203_2 < (t439.length : Int) := of_decide_eq_true (by first | (with_reducible assumption) | assumption)
                           obtain ⟨ad475, e475, hx475_0⟩ := Kd.at_int (Kd.R_reads' HO_201.out).2.2 x203_2 p475 q475
                           cases e475
                           replace p475 := eq_true p475
                           replace q475 := eq_true q475
                           go_wp2
                           repeat (go_quiet (fail); try go_wp2)
                           refine Handed.intro k2 ?measure ?_
                           rotate_left
                           go_step
                           (repeat with_reducible apply ex32_)
                           (repeat apply Exists.intro)
                           refine ⟨?rel, rfl⟩
                           case measure => have := HJ53.out; have := HK2.out; omega
                           case rel => exact ⟨(wrap64 (x203_2 + 1)), (by first | rfl | (simp; done) | (simp [*]; done)), H', ⟨by have := HJ53.out; have := HK2.out; omega⟩, ⟨by (with_reducible repeat (first | apply Kd.R_alloc | apply Kd.R_drewN | apply Kd.R_drew)); exact HO_6.out⟩, ⟨by (with_reducible repeat (first | apply Kd.R_alloc | apply Kd.R_drewN | apply Kd.R_drew)); exact HO_14.out⟩, ⟨by (with_reducible repeat (first | apply Kd.R_alloc | apply Kd.R_drewN | apply Kd.R_drew)); exact HO_18.out⟩, ⟨by (with_reducible repeat (first | apply Kd.R_alloc | apply Kd.R_drewN | apply Kd.R_drew)); exact HO_201.out⟩, ⟨by repeat (first | (with_reducible first | exact HB.out | apply below_alloc | apply pw_below_drewN | apply below_drew1) | exact HB.out)⟩⟩
                        ·rw [if_neg c64] at H
                         exact absurd H (by simp)
                       ·rw [if_neg c63] at H
                        exact absurd H (by simp)
                      ·as_aux_lemma =>
                       rw [if_neg c62] at H
                       have c62b0 : decide (x203_2 < (t439.length : Int)) = false := decide_eq_false c62
                       clear c62
                       have H' := Aside0.mk H
                       clear H
                       go_wp2
                       repeat (go_quiet (fail); try go_wp2)
                       as_aux_lemma =>
                       go_loopg [227] k2 (fun kq v227 w' => ∃ (x227_3 : Int), v227 = .int .i64 x227_3 ∧ Aside0 (laws_FnLuckyNumbers.l1 kq l1 t447 t455 t431 (t431.length : Int) x227_3 = some r) ∧ Aside0 (kq ≤ k2) ∧ Aside0 (Kd.R (Kd.int .i64) 3 w' w.heap.size (fun k_ => some k_ ≠ ((.slice Ao45 t455.length co45) : Value).ownBlock ∧ some k_ ≠ ((.slice Ao39 t431.length co39) : Value).ownBlock) (.slice Ao43 t447.length co43) t447) ∧ Aside0 (Kd.R (Kd.int .i64) 3 w' w.heap.size (fun k_ => some k_ ≠ ((.slice Ao43 t447.length co43) : Value).ownBlock ∧ some k_ ≠ ((.slice Ao39 t431.length co39) : Value).ownBlock) (.slice Ao45 t455.length co45) t455) ∧ Aside0 (Kd.R (Kd.int .i64) 3 w' w.heap.size (fun k_ => some k_ ≠ ((.slice Ao43 t447.length co43) : Value).ownBlock ∧ some k_ ≠ ((.slice Ao45 t455.length co45) : Value).ownBlock) (.slice Ao39 t431.length co39) t431) ∧ Aside0 (Below w.heap.size w w'))
                       case atStart => exact ⟨(0), (by first | rfl | (simp; done) | (simp [*]; done)), H', ⟨Nat.le_refl _⟩, ⟨by (with_reducible repeat (first | apply Kd.R_alloc | apply Kd.R_drewN | apply Kd.R_drew)); exact Kd.R_mono HO_14.out (fun _ hk => ⟨hk.2.1, hk.1⟩)⟩, ⟨by (with_reducible repeat (first | apply Kd.R_alloc | apply Kd.R_drewN | apply Kd.R_drew)); exact Kd.R_mono HO_18.out (fun _ hk => ⟨hk.2.1, hk.1⟩)⟩, ⟨by (with_reducible repeat (first | apply Kd.R_alloc | apply Kd.R_drewN | apply Kd.R_drew)); exact Kd.R_mono HO_6.out (fun _ hk => ⟨hk.1, hk.2.1⟩)⟩, ⟨by repeat (first | (with_reducible first | exact HB.out | apply below_alloc | apply pw_below_drewN | apply below_drew1) | exact HB.out)⟩⟩
                       case round => as_aux_lemma =>
                        clear H'
                        obtain ⟨x227_3, rfl, HA, HK3, HO_14, HO_18, HO_225, HB⟩ := hrel
                        cases gk with
                        | zero => exact absurd HA.out (by simp [laws_FnLuckyNumbers.l1])
                        | succ k3 =>
                         have H := HA.out
                         clear HA
                         simp only [laws_FnLuckyNumbers.l1] at H
                         by_cases c72 : x227_3 < (t431.length : Int)
                         ·rw [if_pos c72] at H
                          have c72b0 : decide (x227_3 < (t431.length : Int)) = true := decide_eq_true c72
                          clear c72
                          by_cases c73 : 0 ≤ x227_3
                          ·rw [if_pos c73] at H
                           have c73b0 : decide (0 ≤ x227_3) = true := decide_eq_true c73
                           clear c73
                           by_cases c74 : x227_3 < (t431.length : Int)
                           ·rw [if_pos c74] at H
                            have c74b0 : decide (x227_3 < (t431.length : Int)) = true := decide_eq_true c74
                            clear c74
                            replace H := Option.bind_eq_some_iff.mp H
                            obtain ⟨⟨t478, t479⟩, A750, H⟩ := H
                            replace H : (if t479 = true then (if t478 = true then (if (Int.tmod (rd t431 x227_3) 2) = 0 then (some false) else (laws_FnLuckyNumbers.l1 k3 l1 t447 t455 t431 (t431.length : Int) (wrap64 (x227_3 + 1)))) else (some false)) else (some false)) = some r := H
                            have A75 := Aside0.mk A750
                            clear A750
                            by_cases c76 : t479 = true
                            ·as_aux_lemma =>
                             subst c76
                             have H1 : (if t478 = true then (if (Int.tmod (rd t431 x227_3) 2) = 0 then (some false) else (laws_FnLuckyNumbers.l1 k3 l1 t447 t455 t431 (t431.length : Int) (wrap64 (x227_3 + 1)))) else (some false)) = some r := by rw [if_pos rfl] at H; exact H
                             clear H
                             have H := H1
                             clear H1
                             by_cases c77 : t478 = true
                             ·subst c77
                              have H1 : (if (Int.tmod (rd t431 x227_3) 2) = 0 then (some false) else (laws_FnLuckyNumbers.l1 k3 l1 t447 t455 t431 (t431.length : Int) (wrap64 (x227_3 + 1)))) = some r := by rw [if_pos rfl] at H; exact H
                              clear H
                              have H := H1
                              clear H1
                              by_cases c78 : (Int.tmod (rd t431 x227_3) 2) = 0
                              ·rw [if_pos c78] at H
                               have c78b0 : ((Int.tmod (rd t431 x227_3) 2) == 0) = true := beq_iff_eq.mpr c78
                               have c78b1 : ((Int.tmod (rd t431 x227_3) 2) != 0) = false := bne_eq_false_iff_eq.mpr c78
                               clear c78
                               exact absurd (Option.some.inj H) (by rw [HRT.out]; decide)
                              ·rw [if_neg c78] at H
                               have c78b0 : ((Int.tmod (rd t431 x227_3) 2) == 0) = false := beq_eq_false_iff_ne.mpr c78
                               have c78b1 : ((Int.tmod (rd t431 x227_3) 2) != 0) = true := bne_iff_ne.mpr c78
                               have H' := Aside0.mk H
                               clear H
                               have p477 : 0 ≤ (x227_3 : Int) := of_decide_eq_true (by first | (with_reducible assumption) | assumption)
                               have q477 : x227_3 < (t431.length : Int) := of_decide_eq_true (by first | (with_reducible assumption) | assumption)
                               obtain ⟨ad477, e477, hx477_0⟩ := Kd.at_int (Kd.R_reads' HO_225.out).2.2 x227_3 p477 q477
                               cases e477
                               replace p477 := eq_true p477
                               replace q477 := eq_true q477
                               go_wp2_with (first | (go_at_call 33; (with_reducible refine (impl_IsLucky.calls k3 (rd t431 x227_3) true true _ A75.out).mono ?_); rintro e w79 ⟨rfl, hb⟩; have n0_ := Aside0.mk (Kd.R_below (by (with_reducible repeat (first | apply Kd.R_alloc | apply Kd.R_drewN | apply Kd.R_drew)); exact HO_14.out) hb); have n1_ := Aside0.mk (Kd.R_below (by (with_reducible repeat (first | apply Kd.R_alloc | apply Kd.R_drewN | apply Kd.R_drew)); exact HO_18.out) hb); have n2_ := Aside0.mk (Kd.R_below (by (with_reducible repeat (first | apply Kd.R_alloc | apply Kd.R_drewN | apply Kd.R_drew)); exact HO_225.out) hb); have n3_ := Aside0.mk (below_step (by repeat (first | (with_reducible first | exact HB.out | apply below_alloc | apply pw_below_drewN | apply below_drew1) | exact HB.out)) hb); clear HO_14; clear HO_18; clear HO_225; clear HB; have HO_14 := n0_; have HO_18 := n1_; have HO_225 := n2_; have HB := n3_; clear n0_ n1_ n2_ n3_; (try clear hb); (try clear hb2); (try clear hk); (try clear hi)))
                               refine Handed.intro k3 ?measure ?_
                               rotate_left
                               go_step
                               (repeat with_reducible apply ex32_)
                               (repeat apply Exists.intro)
                               refine ⟨?rel, rfl⟩
                               case measure => have := HJ53.out; have := HK2.out; have := HK3.out; omega
                               case rel => exact ⟨(wrap64 (x227_3 + 1)), (by first | rfl | (simp; done) | (simp [*]; done)), H', ⟨by have := HJ53.out; have := HK2.out; have := HK3.out; omega⟩, ⟨by (with_reducible repeat (first | apply Kd.R_alloc | apply Kd.R_drewN | apply Kd.R_drew)); exact HO_14.out⟩, ⟨by (with_reducible repeat (first | apply Kd.R_alloc | apply Kd.R_drewN | apply Kd.R_drew)); exact HO_18.out⟩, ⟨by (with_reducible repeat (first | apply Kd.R_alloc | apply Kd.R_drewN | apply Kd.R_drew)); exact HO_225.out⟩, ⟨by repeat (first | (with_reducible first | exact HB.out | apply below_alloc | apply pw_below_drewN | apply below_drew1) | exact HB.out)⟩⟩
                             ·replace c77 := Bool.eq_false_iff.mpr c77
                              subst c77
                              have H1 : (some false) = some r := by rw [if_neg (show ¬ (false = true) by decide)] at H; exact H
                              clear H
                              have H := H1
                              clear H1
                              exact absurd (Option.some.inj H) (by rw [HRT.out]; decide)
                            ·replace c76 := Bool.eq_false_iff.mpr c76
                             subst c76
                             have H1 : (some false) = some r := by rw [if_neg (show ¬ (false = true) by decide)] at H; exact H
                             clear H
                             have H := H1
                             clear H1
                             exact absurd (Option.some.inj H) (by rw [HRT.out]; decide)
                           ·rw [if_neg c74] at H
                            exact absurd H (by simp)
                          ·rw [if_neg c73] at H
                           exact absurd H (by simp)
                         ·as_aux_lemma =>
                          rw [if_neg c72] at H
                          have c72b0 : decide (x227_3 < (t431.length : Int)) = false := decide_eq_false c72
                          clear c72
                          have H' := Aside0.mk H
                          clear H
                          go_wp2
                          repeat (go_quiet (fail); try go_wp2)
                          as_aux_lemma =>
                          go_loopg [250] k3 (fun kq v250 w' => ∃ (x250_4 : Int), v250 = .int .i64 x250_4 ∧ Aside0 (laws_FnLuckyNumbers.l2 kq l1 t455 t447 (t447.length : Int) x250_4 = some r) ∧ Aside0 (kq ≤ k3) ∧ Aside0 (Kd.R (Kd.int .i64) 3 w' w.heap.size (fun k_ => some k_ ≠ ((.slice Ao43 t447.length co43) : Value).ownBlock) (.slice Ao45 t455.length co45) t455) ∧ Aside0 (Kd.R (Kd.int .i64) 3 w' w.heap.size (fun k_ => some k_ ≠ ((.slice Ao45 t455.length co45) : Value).ownBlock) (.slice Ao43 t447.length co43) t447) ∧ Aside0 (Below w.heap.size w w'))
                          case atStart => exact ⟨(0), (by first | rfl | (simp; done) | (simp [*]; done)), H', ⟨Nat.le_refl _⟩, ⟨by (with_reducible repeat (first | apply Kd.R_alloc | apply Kd.R_drewN | apply Kd.R_drew)); exact Kd.R_mono HO_18.out (fun _ hk => hk.1)⟩, ⟨by (with_reducible repeat (first | apply Kd.R_alloc | apply Kd.R_drewN | apply Kd.R_drew)); exact Kd.R_mono HO_14.out (fun _ hk => hk.1)⟩, ⟨by repeat (first | (with_reducible first | exact HB.out | apply below_alloc | apply pw_below_drewN | apply below_drew1) | exact HB.out)⟩⟩
                          case round => as_aux_lemma =>
                           clear H'
                           obtain ⟨x250_4, rfl, HA, HK4, HO_18, HO_248, HB⟩ := hrel
                           cases gk with
                           | zero => exact absurd HA.out (by simp [laws_FnLuckyNumbers.l2])
                           | succ k4 =>
                            have H := HA.out
                            clear HA
                            simp only [laws_FnLuckyNumbers.l2] at H
                            by_cases c80 : x250_4 < (t447.length : Int)
                            ·rw [if_pos c80] at H
                             have c80b0 : decide (x250_4 < (t447.length : Int)) = true := decide_eq_true c80
                             clear c80
                             by_cases c81 : 0 ≤ x250_4
                             ·rw [if_pos c81] at H
                              have c81b0 : decide (0 ≤ x250_4) = true := decide_eq_true c81
                              clear c81
                              by_cases c82 : x250_4 < (t447.length : Int)
                              ·rw [if_pos c82] at H
                               have c82b0 : decide (x250_4 < (t447.length : Int)) = true := decide_eq_true c82
                               clear c82
                               by_cases c83 : (Int.tmod (rd t447 x250_4) 2) = 0
                               ·rw [if_pos c83] at H
                                have c83b0 : ((Int.tmod (rd t447 x250_4) 2) == 0) = true := beq_iff_eq.mpr c83
                                have c83b1 : ((Int.tmod (rd t447 x250_4) 2) != 0) = false := bne_eq_false_iff_eq.mpr c83
                                clear c83
                                have H' := Aside0.mk H
                                clear H
                                have p480 : 0 ≤ (x250_4 : Int) := of_decide_eq_true (by first | (with_reducible assumption) | assumption)
                                have q480 : x250_4 < (t447.length : Int) := of_decide_eq_true (by first | (with_reducible assumption) | assumption)
                                obtain ⟨ad480, e480, hx480_0⟩ := Kd.at_int (Kd.R_reads' HO_248.out).2.2 x250_4 p480 q480
                                cases e480
                                replace p480 := eq_true p480
                                replace q480 := eq_true q480
                                go_wp2
                                repeat (go_quiet (fail); try go_wp2)
                                refine Handed.intro k4 ?measure ?_
                                rotate_left
                                go_step
                                (repeat with_reducible apply ex32_)
                                (repeat apply Exists.intro)
                                refine ⟨?rel, rfl⟩
                                case measure => have := HJ53.out; have := HK2.out; have := HK3.out; have := HK4.out; omega
                                case rel => exact ⟨(wrap64 (x250_4 + 1)), (by first | rfl | (simp; done) | (simp [*]; done)), H', ⟨by have := HJ53.out; have := HK2.out; have := HK3.out; have := HK4.out; omega⟩, ⟨by (with_reducible repeat (first | apply Kd.R_alloc | apply Kd.R_drewN | apply Kd.R_drew)); exact HO_18.out⟩, ⟨by (with_reducible repeat (first | apply Kd.R_alloc | apply Kd.R_drewN | apply Kd.R_drew)); exact HO_248.out⟩, ⟨by repeat (first | (with_reducible first | exact HB.out | apply below_alloc | apply pw_below_drewN | apply below_drew1) | exact HB.out)⟩⟩
                               ·rw [if_neg c83] at H
                                have c83b0 : ((Int.tmod (rd t447 x250_4) 2) == 0) = false := beq_eq_false_iff_ne.mpr c83
                                have c83b1 : ((Int.tmod (rd t447 x250_4) 2) != 0) = true := bne_iff_ne.mpr c83
                                exact absurd (Option.some.inj H) (by rw [HRT.out]; decide)
                              ·rw [if_neg c82] at H
                               exact absurd H (by simp)
                             ·rw [if_neg c81] at H
                              exact absurd H (by simp)
                            ·as_aux_lemma =>
                             rw [if_neg c80] at H
                             have c80b0 : decide (x250_4 < (t447.length : Int)) = false := decide_eq_false c80
                             clear c80
                             have H' := Aside0.mk H
                             clear H
                             go_wp2
                             repeat (go_quiet (fail); try go_wp2)
                             as_aux_lemma =>
                             go_loopg [260] k4 (fun kq v260 w' => ∃ (x260_5 : Int), v260 = .int .i64 x260_5 ∧ Aside0 (laws_FnLuckyNumbers.l3 kq l1 t455 (t455.length : Int) x260_5 = some r) ∧ Aside0 (kq ≤ k4) ∧ Aside0 (Kd.R (Kd.int .i64) 3 w' w.heap.size (fun _ => True) (.slice Ao45 t455.length co45) t455) ∧ Aside0 (Below w.heap.size w w'))
                             case atStart => exact ⟨(0), (by first | rfl | (simp; done) | (simp [*]; done)), H', ⟨Nat.le_refl _⟩, ⟨by (with_reducible repeat (first | apply Kd.R_alloc | apply Kd.R_drewN | apply Kd.R_drew)); exact Kd.R_mono HO_18.out (fun _ hk => trivial)⟩, ⟨by repeat (first | (with_reducible first | exact HB.out | apply below_alloc | apply pw_below_drewN | apply below_drew1) | exact HB.out)⟩⟩
                             case round => as_aux_lemma =>
                              clear H'
                              obtain ⟨x260_5, rfl, HA, HK5, HO_258, HB⟩ := hrel
                              cases gk with
                              | zero => exact absurd HA.out (by simp [laws_FnLuckyNumbers.l3])
                              | succ k5 =>
                               have H := HA.out
                               clear HA
                               simp only [laws_FnLuckyNumbers.l3] at H
                               by_cases c84 : x260_5 < (t455.length : Int)
                               ·rw [if_pos c84] at H
                                have c84b0 : decide (x260_5 < (t455.length : Int)) = true := decide_eq_true c84
                                clear c84
                                by_cases c85 : 0 ≤ x260_5
                                ·rw [if_pos c85] at H
                                 have c85b0 : decide (0 ≤ x260_5) = true := decide_eq_true c85
                                 clear c85
                                 by_cases c86 : x260_5 < (t455.length : Int)
                                 ·rw [if_pos c86] at H
                                  have c86b0 : decide (x260_5 < (t455.length : Int)) = true := decide_eq_true c86
                                  clear c86
                                  by_cases c87 : x260_5 > 30
                                  ·rw [if_pos c87] at H
                                   have c87b0 : decide (30 < x260_5) = true := decide_eq_true c87
                                   clear c87
                                   have H' := Aside0.mk H
                                   clear H
                                   have p481 : 0 ≤ (x260_5 : Int) := of_decide_eq_true (by first | (with_reducible assumption) | assumption)
                                   have q481 : x260_5 < (t455.length : Int) := of_decide_eq_true (by first | (with_reducible assumption) | assumption)
                                   obtain ⟨ad481, e481, hx481_0⟩ := Kd.at_int (Kd.R_reads' HO_258.out).2.2 x260_5 p481 q481
                                   cases e481
                                   replace p481 := eq_true p481
                                   replace q481 := eq_true q481
                                   go_wp2
                                   repeat (go_quiet (fail); try go_wp2)
                                   refine Met.intro ?_
                                   go_step
                                   (repeat with_reducible apply ex32_)
                                   (repeat apply Exists.intro)
                                   refine ⟨?rel, rfl⟩
                                   case rel => exact ⟨_, H', ⟨by have := HJ53.out; have := HK2.out; have := HK3.out; have := HK4.out; have := HK5.out; first | omega | exact Nat.le_refl _⟩, ⟨by repeat (first | (with_reducible first | exact HB.out | apply below_alloc | apply pw_below_drewN | apply below_drew1) | exact HB.out)⟩⟩
                                  ·as_aux_lemma =>
                                   rw [if_neg c87] at H
                                   have c87b0 : decide (30 < x260_5) = false := decide_eq_false c87
                                   clear c87
                                   replace H := Option.bind_eq_some_iff.mp H
                                   obtain ⟨⟨t482, t483⟩, A880, H⟩ := H
                                   replace H : (if t483 = true then (if t482 = (rd t455 x260_5) then (laws_FnLuckyNumbers.l3 k5 l1 t455 (t455.length : Int) (wrap64 (x260_5 + 1))) else (some false)) else (some false)) = some r := H
                                   have A88 := Aside0.mk A880
                                   clear A880
                                   by_cases c89 : t483 = true
                                   ·subst c89
                                    have H1 : (if t482 = (rd t455 x260_5) then (laws_FnLuckyNumbers.l3 k5 l1 t455 (t455.length : Int) (wrap64 (x260_5 + 1))) else (some false)) = some r := by rw [if_pos rfl] at H; exact H
                                    clear H
                                    have H := H1
                                    clear H1
                                    by_cases c90 : t482 = (rd t455 x260_5)
                                    ·rw [if_pos c90] at H
                                     have c90b0 : (t482 == (rd t455 x260_5)) = true := beq_iff_eq.mpr c90
                                     have c90b1 : (t482 != (rd t455 x260_5)) = false := bne_eq_false_iff_eq.mpr c90
                                     clear c90
                                     have H' := Aside0.mk H
                                     clear H
                                     have p481 : 0 ≤ (x260_5 : Int) := of_decide_eq_true (by first | (with_reducible assumption) | assumption)
                                     have q481 : x260_5 < (t455.length : Int) := of_decide_eq_true (by first | (with_reducible assumption) | assumption)
                                     obtain ⟨ad481, e481, hx481_0⟩ := Kd.at_int (Kd.R_reads' HO_258.out).2.2 x260_5 p481 q481
                                     cases e481
                                     replace p481 := eq_true p481
                                     replace q481 := eq_true q481
                                     go_wp2_with (first | (go_at_call 34; (with_reducible refine (impl_RisingOfRank.calls k5 x260_5 t482 true _ A88.out).mono ?_); rintro e w' ⟨rfl, ⟨nd, rfl⟩⟩; (try first | exact ⟨rfl, _, World.drewN_drewN _ _ _⟩ | exact ⟨rfl, _, Eq.trans (World.drewN_drewN _ _ _) (congrArg (World.drewN _) (Nat.add_assoc _ _ _))⟩)))
                                     refine Handed.intro k5 ?measure ?_
                                     rotate_left
                                     go_step
                                     (repeat with_reducible apply ex32_)
                                     (repeat apply Exists.intro)
                                     refine ⟨?rel, rfl⟩
                                     case measure => have := HJ53.out; have := HK2.out; have := HK3.out; have := HK4.out; have := HK5.out; omega
                                     case rel => exact ⟨(wrap64 (x260_5 + 1)), (by first | rfl | (simp; done) | (simp [*]; done)), H', ⟨by have := HJ53.out; have := HK2.out; have := HK3.out; have := HK4.out; have := HK5.out; omega⟩, ⟨by (with_reducible repeat (first | apply Kd.R_alloc | apply Kd.R_drewN | apply Kd.R_drew)); exact HO_258.out⟩, ⟨by repeat (first | (with_reducible first | exact HB.out | apply below_alloc | apply pw_below_drewN | apply below_drew1) | exact HB.out)⟩⟩
                                    ·rw [if_neg c90] at H
                                     have c90b0 : (t482 == (rd t455 x260_5)) = false := beq_eq_false_iff_ne.mpr c90
                                     have c90b1 : (t482 != (rd t455 x260_5)) = true := bne_iff_ne.mpr c90
                                     exact absurd (Option.some.inj H) (by rw [HRT.out]; decide)
                                   ·replace c89 := Bool.eq_false_iff.mpr c89
                                    subst c89
                                    have H1 : (some false) = some r := by rw [if_neg (show ¬ (false = true) by decide)] at H; exact H
                                    clear H
                                    have H := H1
                                    clear H1
                                    exact absurd (Option.some.inj H) (by rw [HRT.out]; decide)
                                 ·rw [if_neg c86] at H
                                  exact absurd H (by simp)
                                ·rw [if_neg c85] at H
                                 exact absurd H (by simp)
                               ·rw [if_neg c84] at H
                                have c84b0 : decide (x260_5 < (t455.length : Int)) = false := decide_eq_false c84
                                clear c84
                                have H' := Aside0.mk H
                                clear H
                                go_wp2
                                repeat (go_quiet (fail); try go_wp2)
                                refine Met.intro ?_
                                go_step
                                (repeat with_reducible apply ex32_)
                                (repeat apply Exists.intro)
                                refine ⟨?rel, rfl⟩
                                case rel => exact ⟨_, H', ⟨by have := HJ53.out; have := HK2.out; have := HK3.out; have := HK4.out; have := HK5.out; first | omega | exact Nat.le_refl _⟩, ⟨by repeat (first | (with_reducible first | exact HB.out | apply below_alloc | apply pw_below_drewN | apply below_drew1) | exact HB.out)⟩⟩
                 ·replace c53 := Bool.eq_false_iff.mpr c53
                  subst c53
                  have H1 : (some false) = some r := by rw [if_neg (show ¬ (false = true) by decide)] at H; exact H
                  clear H
                  have H := H1
                  clear H1
                  exact absurd (Option.some.inj H) (by rw [HRT.out]; decide)
                ·replace c51 := Bool.eq_false_iff.mpr c51
                 subst c51
                 have H1 : (some false) = some r := by rw [if_neg (show ¬ (false = true) by decide)] at H; exact H
                 clear H
                 have H := H1
                 clear H1
                 exact absurd (Option.some.inj H) (by rw [HRT.out]; decide)
               ·replace c49 := Bool.eq_false_iff.mpr c49
                subst c49
                have H1 : (some false) = some r := by rw [if_neg (show ¬ (false = true) by decide)] at H; exact H
                clear H
                have H := H1
                clear H1
                exact absurd (Option.some.inj H) (by rw [HRT.out]; decide)
              ·as_aux_lemma =>
               replace c47 := Bool.eq_false_iff.mpr c47
               subst c47
               have H1 : (laws_FnLuckyNumbers.j5 k l1) = some r := by rw [if_neg (show ¬ (false = true) by decide)] at H; exact H
               clear H
               have H := H1
               clear H1
               have H' := Aside0.mk H
               clear H
               go_wp2
               repeat (go_quiet (fail); try go_wp2)
               refine Met.intro ?_
               go_step
               (repeat with_reducible apply ex32_)
               (repeat apply Exists.intro)
               refine ⟨?rel, rfl⟩
               case rel => exact ⟨_, H', ⟨by first | omega | exact Nat.le_refl _⟩, ⟨by repeat (first | (with_reducible first | exact HB.out | apply below_alloc | apply pw_below_drewN | apply below_drew1) | exact HB.out)⟩⟩
             case rest => as_aux_lemma =>
              clear HC29
              obtain ⟨kq, HA, HJ28, HB⟩ := hcut
              cases kq with
              | zero => exact absurd HA.out (by simp [laws_FnLuckyNumbers.j5])
              | succ kj28 =>
               have H := HA.out
               clear HA
               simp only [laws_FnLuckyNumbers.j5] at H
               replace H := Option.bind_eq_some_iff.mp H
               obtain ⟨t484, A910, H⟩ := H
               replace H : ((impl_IsLucky.f kj28 t484).bind fun bt485 => ((spec_IsLucky.f kj28 t484).bind fun bt487 => ((spec_DrawRisingOfRank.f l1).bind fun t489 => ((impl_RisingOfRank.f kj28 t489).bind fun bt490 => ((spec_RisingOfRank.f kj28 t489).bind fun bt492 => ((spec_DrawOwnSteps.f l1).bind fun bt494 => ((impl_OwnSteps.f kj28 bt494.1 bt494.2).bind fun bt496 => ((spec_OwnSteps.f kj28 bt494.1 bt494.2).bind fun bt500 => ((spec_DrawCircleOut.f l1).bind fun bt504 => ((impl_CircleOut.f kj28 bt504.1 bt504.2).bind fun bt506 => ((spec_CircleOut.f kj28 bt504.1 bt504.2).bind fun bt510 => ((impl_LastOfCircle.f kj28 bt504.1 bt504.2).bind fun bt514 => ((spec_LastOfCircle.f kj28 bt504.1 bt504.2).bind fun bt516 => (if (bt485.2 != bt487.2) = true then (some false) else (if (bt485.1 != bt487.1) = true then (some false) else (if (bt490.2 != bt492.2) = true then (some false) else (if bt490.1 = bt492.1 then (if (bt496.2 != bt500.2) = true then (some false) else ((laws_tSame.f kj28 bt496.1 bt500.1).bind fun t518 => (if t518 = true then (if (bt506.2 != bt510.2) = true then (some false) else ((laws_tSame.f kj28 bt506.1 bt510.1).bind fun t519 => (if t519 = true then (if (bt514.2 != bt516.2) = true then (some false) else (if bt514.1 = bt516.1 then (if (bt514.2 != bt506.2) = true then (some false) else (if bt496.2 = true then ((laws_tRises.f kj28 bt496.1 bt494.1 bt494.2).bind fun t520 => (if t520 = true then (if bt494.1 ≤ bt494.2 then (if (bt496.1.length : Int) = 0 then (some false) else (if 0 < (bt496.1.length : Int) then (laws_FnLuckyNumbers.j6 kj28 bt494.1 bt494.2 bt496.1 bt496.2 bt504.1 bt504.2 bt506.1 bt506.2 bt514.1 ((rd bt496.1 0) != bt494.1)) else (none))) else (laws_FnLuckyNumbers.j6 kj28 bt494.1 bt494.2 bt496.1 bt496.2 bt504.1 bt504.2 bt506.1 bt506.2 bt514.1 false)) else (some false))) else (laws_FnLuckyNumbers.j6 kj28 bt494.1 bt494.2 bt496.1 bt496.2 bt504.1 bt504.2 bt506.1 bt506.2 bt514.1 false))) else (some false))) else (some false)))) else (some false)))) else (some false)))))))))))))))))) = some r := H
               have A91 := Aside0.mk A910
               clear A910
               replace H := Option.bind_eq_some_iff.mp H
               obtain ⟨⟨t485, t486⟩, A920, H⟩ := H
               replace H : ((spec_IsLucky.f kj28 t484).bind fun bt487 => ((spec_DrawRisingOfRank.f l1).bind fun t489 => ((impl_RisingOfRank.f kj28 t489).bind fun bt490 => ((spec_RisingOfRank.f kj28 t489).bind fun bt492 => ((spec_DrawOwnSteps.f l1).bind fun bt494 => ((impl_OwnSteps.f kj28 bt494.1 bt494.2).bind fun bt496 => ((spec_OwnSteps.f kj28 bt494.1 bt494.2).bind fun bt500 => ((spec_DrawCircleOut.f l1).bind fun bt504 => ((impl_CircleOut.f kj28 bt504.1 bt504.2).bind fun bt506 => ((spec_CircleOut.f kj28 bt504.1 bt504.2).bind fun bt510 => ((impl_LastOfCircle.f kj28 bt504.1 bt504.2).bind fun bt514 => ((spec_LastOfCircle.f kj28 bt504.1 bt504.2).bind fun bt516 => (if (t486 != bt487.2) = true then (some false) else (if (t485 != bt487.1) = true then (some false) else (if (bt490.2 != bt492.2) = true then (some false) else (if bt490.1 = bt492.1 then (if (bt496.2 != bt500.2) = true then (some false) else ((laws_tSame.f kj28 bt496.1 bt500.1).bind fun t518 => (if t518 = true then (if (bt506.2 != bt510.2) = true then (some false) else ((laws_tSame.f kj28 bt506.1 bt510.1).bind fun t519 => (if t519 = true then (if (bt514.2 != bt516.2) = true then (some false) else (if bt514.1 = bt516.1 then (if (bt514.2 != bt506.2) = true then (some false) else (if bt496.2 = true then ((laws_tRises.f kj28 bt496.1 bt494.1 bt494.2).bind fun t520 => (if t520 = true then (if bt494.1 ≤ bt494.2 then (if (bt496.1.length : Int) = 0 then (some false) else (if 0 < (bt496.1.length : Int) then (laws_FnLuckyNumbers.j6 kj28 bt494.1 bt494.2 bt496.1 bt496.2 bt504.1 bt504.2 bt506.1 bt506.2 bt514.1 ((rd bt496.1 0) != bt494.1)) else (none))) else (laws_FnLuckyNumbers.j6 kj28 bt494.1 bt494.2 bt496.1 bt496.2 bt504.1 bt504.2 bt506.1 bt506.2 bt514.1 false)) else (some false))) else (laws_FnLuckyNumbers.j6 kj28 bt494.1 bt494.2 bt496.1 bt496.2 bt504.1 bt504.2 bt506.1 bt506.2 bt514.1 false))) else (some false))) else (some false)))) else (some false)))) else (some false))))))))))))))))) = some r := H
               have A92 := Aside0.mk A920
               clear A920
               replace H := Option.bind_eq_some_iff.mp H
               obtain ⟨⟨t487, t488⟩, A930, H⟩ := H
               replace H : ((spec_DrawRisingOfRank.f l1).bind fun t489 => ((impl_RisingOfRank.f kj28 t489).bind fun bt490 => ((spec_RisingOfRank.f kj28 t489).bind fun bt492 => ((spec_DrawOwnSteps.f l1).bind fun bt494 => ((impl_OwnSteps.f kj28 bt494.1 bt494.2).bind fun bt496 => ((spec_OwnSteps.f kj28 bt494.1 bt494.2).bind fun bt500 => ((spec_DrawCircleOut.f l1).bind fun bt504 => ((impl_CircleOut.f kj28 bt504.1 bt504.2).bind fun bt506 => ((spec_CircleOut.f kj28 bt504.1 bt504.2).bind fun bt510 => ((impl_LastOfCircle.f kj28 bt504.1 bt504.2).bind fun bt514 => ((spec_LastOfCircle.f kj28 bt504.1 bt504.2).bind fun bt516 => (if (t486 != t488) = true then (some false) else (if (t485 != t487) = true then (some false) else (if (bt490.2 != bt492.2) = true then (some false) else (if bt490.1 = bt492.1 then (if (bt496.2 != bt500.2) = true then (some false) else ((laws_tSame.f kj28 bt496.1 bt500.1).bind fun t518 => (if t518 = true then (if (bt506.2 != bt510.2) = true then (some false) else ((laws_tSame.f kj28 bt506.1 bt510.1).bind fun t519 => (if t519 = true then (if (bt514.2 != bt516.2) = true then (some false) else (if bt514.1 = bt516.1 then (if (bt514.2 != bt506.2) = true then (some false) else (if bt496.2 = true then ((laws_tRises.f kj28 bt496.1 bt494.1 bt494.2).bind fun t520 => (if t520 = true then (if bt494.1 ≤ bt494.2 then (if (bt496.1.length : Int) = 0 then (some false) else (if 0 < (bt496.1.length : Int) then (laws_FnLuckyNumbers.j6 kj28 bt494.1 bt494.2 bt496.1 bt496.2 bt504.1 bt504.2 bt506.1 bt506.2 bt514.1 ((rd bt496.1 0) != bt494.1)) else (none))) else (laws_FnLuckyNumbers.j6 kj28 bt494.1 bt494.2 bt496.1 bt496.2 bt504.1 bt504.2 bt506.1 bt506.2 bt514.1 false)) else (some false))) else (laws_FnLuckyNumbers.j6 kj28 bt494.1 bt494.2 bt496.1 bt496.2 bt504.1 bt504.2 bt506.1 bt506.2 bt514.1 false))) else (some false))) else (some false)))) else (some false)))) else (some false)))))))))))))))) = some r := H
               have A93 := Aside0.mk A930
               clear A930
               replace H := Option.bind_eq_some_iff.mp H
               obtain ⟨t489, A940, H⟩ := H
               replace H : ((impl_RisingOfRank.f kj28 t489).bind fun bt490 => ((spec_RisingOfRank.f kj28 t489).bind fun bt492 => ((spec_DrawOwnSteps.f l1).bind fun bt494 => ((impl_OwnSteps.f kj28 bt494.1 bt494.2).bind fun bt496 => ((spec_OwnSteps.f kj28 bt494.1 bt494.2).bind fun bt500 => ((spec_DrawCircleOut.f l1).bind fun bt504 => ((impl_CircleOut.f kj28 bt504.1 bt504.2).bind fun bt506 => ((spec_CircleOut.f kj28 bt504.1 bt504.2).bind fun bt510 => ((impl_LastOfCircle.f kj28 bt504.1 bt504.2).bind fun bt514 => ((spec_LastOfCircle.f kj28 bt504.1 bt504.2).bind fun bt516 => (if (t486 != t488) = true then (some false) else (if (t485 != t487) = true then (some false) else (if (bt490.2 != bt492.2) = true then (some false) else (if bt490.1 = bt492.1 then (if (bt496.2 != bt500.2) = true then (some false) else ((laws_tSame.f kj28 bt496.1 bt500.1).bind fun t518 => (if t518 = true then (if (bt506.2 != bt510.2) = true then (some false) else ((laws_tSame.f kj28 bt506.1 bt510.1).bind fun t519 => (if t519 = true then (if (bt514.2 != bt516.2) = true then (some false) else (if bt514.1 = bt516.1 then (if (bt514.2 != bt506.2) = true then (some false) else (if bt496.2 = true then ((laws_tRises.f kj28 bt496.1 bt494.1 bt494.2).bind fun t520 => (if t520 = true then (if bt494.1 ≤ bt494.2 then (if (bt496.1.length : Int) = 0 then (some false) else (if 0 < (bt496.1.length : Int) then (laws_FnLuckyNumbers.j6 kj28 bt494.1 bt494.2 bt496.1 bt496.2 bt504.1 bt504.2 bt506.1 bt506.2 bt514.1 ((rd bt496.1 0) != bt494.1)) else (none))) else (laws_FnLuckyNumbers.j6 kj28 bt494.1 bt494.2 bt496.1 bt496.2 bt504.1 bt504.2 bt506.1 bt506.2 bt514.1 false)) else (some false))) else (laws_FnLuckyNumbers.j6 kj28 bt494.1 bt494.2 bt496.1 bt496.2 bt504.1 bt504.2 bt506.1 bt506.2 bt514.1 false))) else (some false))) else (some false)))) else (some false)))) else (some false))))))))))))))) = some r := H
               have A94 := Aside0.mk A940
               clear A940
               as_aux_lemma =>
               replace H := Option.bind_eq_some_iff.mp H
               obtain ⟨⟨t490, t491⟩, A950, H⟩ := H
               replace H : ((spec_RisingOfRank.f kj28 t489).bind fun bt492 => ((spec_DrawOwnSteps.f l1).bind fun bt494 => ((impl_OwnSteps.f kj28 bt494.1 bt494.2).bind fun bt496 => ((spec_OwnSteps.f kj28 bt494.1 bt494.2).bind fun bt500 => ((spec_DrawCircleOut.f l1).bind fun bt504 => ((impl_CircleOut.f kj28 bt504.1 bt504.2).bind fun bt506 => ((spec_CircleOut.f kj28 bt504.1 bt504.2).bind fun bt510 => ((impl_LastOfCircle.f kj28 bt504.1 bt504.2).bind fun bt514 => ((spec_LastOfCircle.f kj28 bt504.1 bt504.2).bind fun bt516 => (if (t486 != t488) = true then (some false) else (if (t485 != t487) = true then (some false) else (if (t491 != bt492.2) = true then (some false) else (if t490 = bt492.1 then (if (bt496.2 != bt500.2) = true then (some false) else ((laws_tSame.f kj28 bt496.1 bt500.1).bind fun t518 => (if t518 = true then (if (bt506.2 != bt510.2) = true then (some false) else ((laws_tSame.f kj28 bt506.1 bt510.1).bind fun t519 => (if t519 = true then (if (bt514.2 != bt516.2) = true then (some false) else (if bt514.1 = bt516.1 then (if (bt514.2 != bt506.2) = true then (some false) else (if bt496.2 = true then ((laws_tRises.f kj28 bt496.1 bt494.1 bt494.2).bind fun t520 => (if t520 = true then (if bt494.1 ≤ bt494.2 then (if (bt496.1.length : Int) = 0 then (some false) else (if 0 < (bt496.1.length : Int) then (laws_FnLuckyNumbers.j6 kj28 bt494.1 bt494.2 bt496.1 bt496.2 bt504.1 bt504.2 bt506.1 bt506.2 bt514.1 ((rd bt496.1 0) != bt494.1)) else (none))) else (laws_FnLuckyNumbers.j6 kj28 bt494.1 bt494.2 bt496.1 bt496.2 bt504.1 bt504.2 bt506.1 bt506.2 bt514.1 false)) else (some false))) else (laws_FnLuckyNumbers.j6 kj28 bt494.1 bt494.2 bt496.1 bt496.2 bt504.1 bt504.2 bt506.1 bt506.2 bt514.1 false))) else (some false))) else (some false)))) else (some false)))) else (some false)))))))))))))) = some r := H
               have A95 := Aside0.mk A950
               clear A950
               replace H := Option.bind_eq_some_iff.mp H
               obtain ⟨⟨t492, t493⟩, A960, H⟩ := H
               replace H : ((spec_DrawOwnSteps.f l1).bind fun bt494 => ((impl_OwnSteps.f kj28 bt494.1 bt494.2).bind fun bt496 => ((spec_OwnSteps.f kj28 bt494.1 bt494.2).bind fun bt500 => ((spec_DrawCircleOut.f l1).bind fun bt504 => ((impl_CircleOut.f kj28 bt504.1 bt504.2).bind fun bt506 => ((spec_CircleOut.f kj28 bt504.1 bt504.2).bind fun bt510 => ((impl_LastOfCircle.f kj28 bt504.1 bt504.2).bind fun bt514 => ((spec_LastOfCircle.f kj28 bt504.1 bt504.2).bind fun bt516 => (if (t486 != t488) = true then (some false) else (if (t485 != t487) = true then (some false) else (if (t491 != t493) = true then (some false) else (if t490 = t492 then (if (bt496.2 != bt500.2) = true then (some false) else ((laws_tSame.f kj28 bt496.1 bt500.1).bind fun t518 => (if t518 = true then (if (bt506.2 != bt510.2) = true then (some false) else ((laws_tSame.f kj28 bt506.1 bt510.1).bind fun t519 => (if t519 = true then (if (bt514.2 != bt516.2) = true then (some false) else (if bt514.1 = bt516.1 then (if (bt514.2 != bt506.2) = true then (some false) else (if bt496.2 = true then ((laws_tRises.f kj28 bt496.1 bt494.1 bt494.2).bind fun t520 => (if t520 = true then (if bt494.1 ≤ bt494.2 then (if (bt496.1.length : Int) = 0 then (some false) else (if 0 < (bt496.1.length : Int) then (laws_FnLuckyNumbers.j6 kj28 bt494.1 bt494.2 bt496.1 bt496.2 bt504.1 bt504.2 bt506.1 bt506.2 bt514.1 ((rd bt496.1 0) != bt494.1)) else (none))) else (laws_FnLuckyNumbers.j6 kj28 bt494.1 bt494.2 bt496.1 bt496.2 bt504.1 bt504.2 bt506.1 bt506.2 bt514.1 false)) else (some false))) else (laws_FnLuckyNumbers.j6 kj28 bt494.1 bt494.2 bt496.1 bt496.2 bt504.1 bt504.2 bt506.1 bt506.2 bt514.1 false))) else (some false))) else (some false)))) else (some false)))) else (some false))))))))))))) = some r := H
               have A96 := Aside0.mk A960
               clear A960
               replace H := Option.bind_eq_some_iff.mp H
               obtain ⟨⟨t494, t495⟩, A970, H⟩ := H
               replace H : ((impl_OwnSteps.f kj28 t494 t495).bind fun bt496 => ((spec_OwnSteps.f kj28 t494 t495).bind fun bt500 => ((spec_DrawCircleOut.f l1).bind fun bt504 => ((impl_CircleOut.f kj28 bt504.1 bt504.2).bind fun bt506 => ((spec_CircleOut.f kj28 bt504.1 bt504.2).bind fun bt510 => ((impl_LastOfCircle.f kj28 bt504.1 bt504.2).bind fun bt514 => ((spec_LastOfCircle.f kj28 bt504.1 bt504.2).bind fun bt516 => (if (t486 != t488) = true then (some false) else (if (t485 != t487) = true then (some false) else (if (t491 != t493) = true then (some false) else (if t490 = t492 then (if (bt496.2 != bt500.2) = true then (some false) else ((laws_tSame.f kj28 bt496.1 bt500.1).bind fun t518 => (if t518 = true then (if (bt506.2 != bt510.2) = true then (some false) else ((laws_tSame.f kj28 bt506.1 bt510.1).bind fun t519 => (if t519 = true then (if (bt514.2 != bt516.2) = true then (some false) else (if bt514.1 = bt516.1 then (if (bt514.2 != bt506.2) = true then (some false) else (if bt496.2 = true then ((laws_tRises.f kj28 bt496.1 t494 t495).bind fun t520 => (if t520 = true then (if t494 ≤ t495 then (if (bt496.1.length : Int) = 0 then (some false) else (if 0 < (bt496.1.length : Int) then (laws_FnLuckyNumbers.j6 kj28 t494 t495 bt496.1 bt496.2 bt504.1 bt504.2 bt506.1 bt506.2 bt514.1 ((rd bt496.1 0) != t494)) else (none))) else (laws_FnLuckyNumbers.j6 kj28 t494 t495 bt496.1 bt496.2 bt504.1 bt504.2 bt506.1 bt506.2 bt514.1 false)) else (some false))) else (laws_FnLuckyNumbers.j6 kj28 t494 t495 bt496.1 bt496.2 bt504.1 bt504.2 bt506.1 bt506.2 bt514.1 false))) else (some false))) else (some false)))) else (some false)))) else (some false)))))))))))) = some r := H
               have A97 := Aside0.mk A970
               clear A970
               replace H := Option.bind_eq_some_iff.mp H
               obtain ⟨⟨t496, t497⟩, A980, H⟩ := H
               replace H : ((spec_OwnSteps.f kj28 t494 t495).bind fun bt500 => ((spec_DrawCircleOut.f l1).bind fun bt504 => ((impl_CircleOut.f kj28 bt504.1 bt504.2).bind fun bt506 => ((spec_CircleOut.f kj28 bt504.1 bt504.2).bind fun bt510 => ((impl_LastOfCircle.f kj28 bt504.1 bt504.2).bind fun bt514 => ((spec_LastOfCircle.f kj28 bt504.1 bt504.2).bind fun bt516 => (if (t486 != t488) = true then (some false) else (if (t485 != t487) = true then (some false) else (if (t491 != t493) = true then (some false) else (if t490 = t492 then (if (t497 != bt500.2) = true then (some false) else ((laws_tSame.f kj28 t496 bt500.1).bind fun t518 => (if t518 = true then (if (bt506.2 != bt510.2) = true then (some false) else ((laws_tSame.f kj28 bt506.1 bt510.1).bind fun t519 => (if t519 = true then (if (bt514.2 != bt516.2) = true then (some false) else (if bt514.1 = bt516.1 then (if (bt514.2 != bt506.2) = true then (some false) else (if t497 = true then ((laws_tRises.f kj28 t496 t494 t495).bind fun t520 => (if t520 = true then (if t494 ≤ t495 then (if (t496.length : Int) = 0 then (some false) else (if 0 < (t496.length : Int) then (laws_FnLuckyNumbers.j6 kj28 t494 t495 t496 t497 bt504.1 bt504.2 bt506.1 bt506.2 bt514.1 ((rd t496 0) != t494)) else (none))) else (laws_FnLuckyNumbers.j6 kj28 t494 t495 t496 t497 bt504.1 bt504.2 bt506.1 bt506.2 bt514.1 false)) else (some false))) else (laws_FnLuckyNumbers.j6 kj28 t494 t495 t496 t497 bt504.1 bt504.2 bt506.1 bt506.2 bt514.1 false))) else (some false))) else (some false)))) else (some false)))) else (some false))))))))))) = some r := H
               have A98 := Aside0.mk A980
               clear A980
               replace H := Option.bind_eq_some_iff.mp H
               obtain ⟨⟨t500, t501⟩, A990, H⟩ := H
               replace H : ((spec_DrawCircleOut.f l1).bind fun bt504 => ((impl_CircleOut.f kj28 bt504.1 bt504.2).bind fun bt506 => ((spec_CircleOut.f kj28 bt504.1 bt504.2).bind fun bt510 => ((impl_LastOfCircle.f kj28 bt504.1 bt504.2).bind fun bt514 => ((spec_LastOfCircle.f kj28 bt504.1 bt504.2).bind fun bt516 => (if (t486 != t488) = true then (some false) else (if (t485 != t487) = true then (some false) else (if (t491 != t493) = true then (some false) else (if t490 = t492 then (if (t497 != t501) = true then (some false) else ((laws_tSame.f kj28 t496 t500).bind fun t518 => (if t518 = true then (if (bt506.2 != bt510.2) = true then (some false) else ((laws_tSame.f kj28 bt506.1 bt510.1).bind fun t519 => (if t519 = true then (if (bt514.2 != bt516.2) = true then (some false) else (if bt514.1 = bt516.1 then (if (bt514.2 != bt506.2) = true then (some false) else (if t497 = true then ((laws_tRises.f kj28 t496 t494 t495).bind fun t520 => (if t520 = true then (if t494 ≤ t495 then (if (t496.length : Int) = 0 then (some false) else (if 0 < (t496.length : Int) then (laws_FnLuckyNumbers.j6 kj28 t494 t495 t496 t497 bt504.1 bt504.2 bt506.1 bt506.2 bt514.1 ((rd t496 0) != t494)) else (none))) else (laws_FnLuckyNumbers.j6 kj28 t494 t495 t496 t497 bt504.1 bt504.2 bt506.1 bt506.2 bt514.1 false)) else (some false))) else (laws_FnLuckyNumbers.j6 kj28 t494 t495 t496 t497 bt504.1 bt504.2 bt506.1 bt506.2 bt514.1 false))) else (some false))) else (some false)))) else (some false)))) else (some false)))))))))) = some r := H
               have A99 := Aside0.mk A990
               clear A990
               as_aux_lemma =>
               replace H := Option.bind_eq_some_iff.mp H
               obtain ⟨⟨t504, t505⟩, A1000, H⟩ := H
               replace H : ((impl_CircleOut.f kj28 t504 t505).bind fun bt506 => ((spec_CircleOut.f kj28 t504 t505).bind fun bt510 => ((impl_LastOfCircle.f kj28 t504 t505).bind fun bt514 => ((spec_LastOfCircle.f kj28 t504 t505).bind fun bt516 => (if (t486 != t488) = true then (some false) else (if (t485 != t487) = true then (some false) else (if (t491 != t493) = true then (some false) else (if t490 = t492 then (if (t497 != t501) = true then (some false) else ((laws_tSame.f kj28 t496 t500).bind fun t518 => (if t518 = true then (if (bt506.2 != bt510.2) = true then (some false) else ((laws_tSame.f kj28 bt506.1 bt510.1).bind fun t519 => (if t519 = true then (if (bt514.2 != bt516.2) = true then (some false) else (if bt514.1 = bt516.1 then (if (bt514.2 != bt506.2) = true then (some false) else (if t497 = true then ((laws_tRises.f kj28 t496 t494 t495).bind fun t520 => (if t520 = true then (if t494 ≤ t495 then (if (t496.length : Int) = 0 then (some false) else (if 0 < (t496.length : Int) then (laws_FnLuckyNumbers.j6 kj28 t494 t495 t496 t497 t504 t505 bt506.1 bt506.2 bt514.1 ((rd t496 0) != t494)) else (none))) else (laws_FnLuckyNumbers.j6 kj28 t494 t495 t496 t497 t504 t505 bt506.1 bt506.2 bt514.1 false)) else (some false))) else (laws_FnLuckyNumbers.j6 kj28 t494 t495 t496 t497 t504 t505 bt506.1 bt506.2 bt514.1 false))) else (some false))) else (some false)))) else (some false)))) else (some false))))))))) = some r := H
               have A100 := Aside0.mk A1000
               clear A1000
               replace H := Option.bind_eq_some_iff.mp H
               obtain ⟨⟨t506, t507⟩, A1010, H⟩ := H
               replace H : ((spec_CircleOut.f kj28 t504 t505).bind fun bt510 => ((impl_LastOfCircle.f kj28 t504 t505).bind fun bt514 => ((spec_LastOfCircle.f kj28 t504 t505).bind fun bt516 => (if (t486 != t488) = true then (some false) else (if (t485 != t487) = true then (some false) else (if (t491 != t493) = true then (some false) else (if t490 = t492 then (if (t497 != t501) = true then (some false) else ((laws_tSame.f kj28 t496 t500).bind fun t518 => (if t518 = true then (if (t507 != bt510.2) = true then (some false) else ((laws_tSame.f kj28 t506 bt510.1).bind fun t519 => (if t519 = true then (if (bt514.2 != bt516.2) = true then (some false) else (if bt514.1 = bt516.1 then (if (bt514.2 != t507) = true then (some false) else (if t497 = true then ((laws_tRises.f kj28 t496 t494 t495).bind fun t520 => (if t520 = true then (if t494 ≤ t495 then (if (t496.length : Int) = 0 then (some false) else (if 0 < (t496.length : Int) then (laws_FnLuckyNumbers.j6 kj28 t494 t495 t496 t497 t504 t505 t506 t507 bt514.1 ((rd t496 0) != t494)) else (none))) else (laws_FnLuckyNumbers.j6 kj28 t494 t495 t496 t497 t504 t505 t506 t507 bt514.1 false)) else (some false))) else (laws_FnLuckyNumbers.j6 kj28 t494 t495 t496 t497 t504 t505 t506 t507 bt514.1 false))) else (some false))) else (some false)))) else (some false)))) else (some false)))))))) = some r := H
               have A101 := Aside0.mk A1010
               clear A1010
               replace H := Option.bind_eq_some_iff.mp H
               obtain ⟨⟨t510, t511⟩, A1020, H⟩ := H
               replace H : ((impl_LastOfCircle.f kj28 t504 t505).bind fun bt514 => ((spec_LastOfCircle.f kj28 t504 t505).bind fun bt516 => (if (t486 != t488) = true then (some false) else (if (t485 != t487) = true then (some false) else (if (t491 != t493) = true then (some false) else (if t490 = t492 then (if (t497 != t501) = true then (some false) else ((laws_tSame.f kj28 t496 t500).bind fun t518 => (if t518 = true then (if (t507 != t511) = true then (some false) else ((laws_tSame.f kj28 t506 t510).bind fun t519 => (if t519 = true then (if (bt514.2 != bt516.2) = true then (some false) else (if bt514.1 = bt516.1 then (if (bt514.2 != t507) = true then (some false) else (if t497 = true then ((laws_tRises.f kj28 t496 t494 t495).bind fun t520 => (if t520 = true then (if t494 ≤ t495 then (if (t496.length : Int) = 0 then (some false) else (if 0 < (t496.length : Int) then (laws_FnLuckyNumbers.j6 kj28 t494 t495 t496 t497 t504 t505 t506 t507 bt514.1 ((rd t496 0) != t494)) else (none))) else (laws_FnLuckyNumbers.j6 kj28 t494 t495 t496 t497 t504 t505 t506 t507 bt514.1 false)) else (some false))) else (laws_FnLuckyNumbers.j6 kj28 t494 t495 t496 t497 t504 t505 t506 t507 bt514.1 false))) else (some false))) else (some false)))) else (some false)))) else (some false))))))) = some r := H
               have A102 := Aside0.mk A1020
               clear A1020
               replace H := Option.bind_eq_some_iff.mp H
               obtain ⟨⟨t514, t515⟩, A1030, H⟩ := H
               replace H : ((spec_LastOfCircle.f kj28 t504 t505).bind fun bt516 => (if (t486 != t488) = true then (some false) else (if (t485 != t487) = true then (some false) else (if (t491 != t493) = true then (some false) else (if t490 = t492 then (if (t497 != t501) = true then (some false) else ((laws_tSame.f kj28 t496 t500).bind fun t518 => (if t518 = true then (if (t507 != t511) = true then (some false) else ((laws_tSame.f kj28 t506 t510).bind fun t519 => (if t519 = true then (if (t515 != bt516.2) = true then (some false) else (if t514 = bt516.1 then (if (t515 != t507) = true then (some false) else (if t497 = true then ((laws_tRises.f kj28 t496 t494 t495).bind fun t520 => (if t520 = true then (if t494 ≤ t495 then (if (t496.length : Int) = 0 then (some false) else (if 0 < (t496.length : Int) then (laws_FnLuckyNumbers.j6 kj28 t494 t495 t496 t497 t504 t505 t506 t507 t514 ((rd t496 0) != t494)) else (none))) else (laws_FnLuckyNumbers.j6 kj28 t494 t495 t496 t497 t504 t505 t506 t507 t514 false)) else (some false))) else (laws_FnLuckyNumbers.j6 kj28 t494 t495 t496 t497 t504 t505 t506 t507 t514 false))) else (some false))) else (some false)))) else (some false)))) else (some false)))))) = some r := H
               have A103 := Aside0.mk A1030
               clear A1030
               replace H := Option.bind_eq_some_iff.mp H
               obtain ⟨⟨t516, t517⟩, A1040, H⟩ := H
               replace H : (if (t486 != t488) = true then (some false) else (if (t485 != t487) = true then (some false) else (if (t491 != t493) = true then (some false) else (if t490 = t492 then (if (t497 != t501) = true then (some false) else ((laws_tSame.f kj28 t496 t500).bind fun t518 => (if t518 = true then (if (t507 != t511) = true then (some false) else ((laws_tSame.f kj28 t506 t510).bind fun t519 => (if t519 = true then (if (t515 != t517) = true then (some false) else (if t514 = t516 then (if (t515 != t507) = true then (some false) else (if t497 = true then ((laws_tRises.f kj28 t496 t494 t495).bind fun t520 => (if t520 = true then (if t494 ≤ t495 then (if (t496.length : Int) = 0 then (some false) else (if 0 < (t496.length : Int) then (laws_FnLuckyNumbers.j6 kj28 t494 t495 t496 t497 t504 t505 t506 t507 t514 ((rd t496 0) != t494)) else (none))) else (laws_FnLuckyNumbers.j6 kj28 t494 t495 t496 t497 t504 t505 t506 t507 t514 false)) else (some false))) else (laws_FnLuckyNumbers.j6 kj28 t494 t495 t496 t497 t504 t505 t506 t507 t514 false))) else (some false))) else (some false)))) else (some false)))) else (some false))))) = some r := H
               have A104 := Aside0.mk A1040
               clear A1040
               by_cases c105 : (t486 != t488) = true
               ·rw [if_pos c105] at H
                have c105b0 : (t486 != t488) = true := c105
                (try (have c105b1 : decide (t486 = t488) = false := by simpa using c105))
                (try (have c105b2 : (t486 == t488) = false := by simpa using c105))
                (try (have c105b3 : ¬ (t486 = t488) := by simpa using c105))
                clear c105
                exact absurd (Option.some.inj H) (by rw [HRT.out]; decide)
               ·as_aux_lemma =>
                rw [if_neg c105] at H
                have c105b0 : (t486 != t488) = false := by simpa using c105
                (try (have c105b1 : decide (t486 = t488) = true := by simpa using c105))
                (try (have c105b2 : (t486 == t488) = true := by simpa using c105))
                clear c105
                by_cases c106 : (t485 != t487) = true
                ·rw [if_pos c106] at H
                 have c106b0 : (t485 != t487) = true := c106
                 (try (have c106b1 : decide (t485 = t487) = false := by simpa using c106))
                 (try (have c106b2 : (t485 == t487) = false := by simpa using c106))
                 (try (have c106b3 : ¬ (t485 = t487) := by simpa using c106))
                 clear c106
                 exact absurd (Option.some.inj H) (by rw [HRT.out]; decide)
                ·rw [if_neg c106] at H
                 have c106b0 : (t485 != t487) = false := by simpa using c106
                 (try (have c106b1 : decide (t485 = t487) = true := by simpa using c106))
                 (try (have c106b2 : (t485 == t487) = true := by simpa using c106))
                 clear c106
                 by_cases c107 : (t491 != t493) = true
                 ·rw [if_pos c107] at H
                  have c107b0 : (t491 != t493) = true := c107
                  (try (have c107b1 : decide (t491 = t493) = false := by simpa using c107))
                  (try (have c107b2 : (t491 == t493) = false := by simpa using c107))
                  (try (have c107b3 : ¬ (t491 = t493) := by simpa using c107))
                  clear c107
                  exact absurd (Option.some.inj H) (by rw [HRT.out]; decide)
                 ·as_aux_lemma =>
                  rw [if_neg c107] at H
                  have c107b0 : (t491 != t493) = false := by simpa using c107
                  (try (have c107b1 : decide (t491 = t493) = true := by simpa using c107))
                  (try (have c107b2 : (t491 == t493) = true := by simpa using c107))
                  clear c107
                  by_cases c108 : t490 = t492
                  ·rw [if_pos c108] at H
                   have c108b0 : (t490 == t492) = true := beq_iff_eq.mpr c108
                   have c108b1 : (t490 != t492) = false := bne_eq_false_iff_eq.mpr c108
                   clear c108
                   by_cases c109 : (t497 != t501) = true
                   ·rw [if_pos c109] at H
                    have c109b0 : (t497 != t501) = true := c109
                    (try (have c109b1 : decide (t497 = t501) = false := by simpa using c109))
                    (try (have c109b2 : (t497 == t501) = false := by simpa using c109))
                    (try (have c109b3 : ¬ (t497 = t501) := by simpa using c109))
                    clear c109
                    exact absurd (Option.some.inj H) (by rw [HRT.out]; decide)
                   ·rw [if_neg c109] at H
                    have c109b0 : (t497 != t501) = false := by simpa using c109
                    (try (have c109b1 : decide (t497 = t501) = true := by simpa using c109))
                    (try (have c109b2 : (t497 == t501) = true := by simpa using c109))
                    clear c109
                    replace H := Option.bind_eq_some_iff.mp H
                    obtain ⟨t518, A1100, H⟩ := H
                    replace H : (if t518 = true then (if (t507 != t511) = true then (some false) else ((laws_tSame.f kj28 t506 t510).bind fun t519 => (if t519 = true then (if (t515 != t517) = true then (some false) else (if t514 = t516 then (if (t515 != t507) = true then (some false) else (if t497 = true then ((laws_tRises.f kj28 t496 t494 t495).bind fun t520 => (if t520 = true then (if t494 ≤ t495 then (if (t496.length : Int) = 0 then (some false) else (if 0 < (t496.length : Int) then (laws_FnLuckyNumbers.j6 kj28 t494 t495 t496 t497 t504 t505 t506 t507 t514 ((rd t496 0) != t494)) else (none))) else (laws_FnLuckyNumbers.j6 kj28 t494 t495 t496 t497 t504 t505 t506 t507 t514 false)) else (some false))) else (laws_FnLuckyNumbers.j6 kj28 t494 t495 t496 t497 t504 t505 t506 t507 t514 false))) else (some false))) else (some false)))) else (some false)) = some r := H
                    have A110 := Aside0.mk A1100
                    clear A1100
                    by_cases c111 : t518 = true
                    ·as_aux_lemma =>
                     subst c111
                     have H1 : (if (t507 != t511) = true then (some false) else ((laws_tSame.f kj28 t506 t510).bind fun t519 => (if t519 = true then (if (t515 != t517) = true then (some false) else (if t514 = t516 then (if (t515 != t507) = true then (some false) else (if t497 = true then ((laws_tRises.f kj28 t496 t494 t495).bind fun t520 => (if t520 = true then (if t494 ≤ t495 then (if (t496.length : Int) = 0 then (some false) else (if 0 < (t496.length : Int) then (laws_FnLuckyNumbers.j6 kj28 t494 t495 t496 t497 t504 t505 t506 t507 t514 ((rd t496 0) != t494)) else (none))) else (laws_FnLuckyNumbers.j6 kj28 t494 t495 t496 t497 t504 t505 t506 t507 t514 false)) else (some false))) else (laws_FnLuckyNumbers.j6 kj28 t494 t495 t496 t497 t504 t505 t506 t507 t514 false))) else (some false))) else (some false)))) = some r := by rw [if_pos rfl] at H; exact H
                     clear H
                     have H := H1
                     clear H1
                     by_cases c112 : (t507 != t511) = true
                     ·rw [if_pos c112] at H
                      have c112b0 : (t507 != t511) = true := c112
                      (try (have c112b1 : decide (t507 = t511) = false := by simpa using c112))
                      (try (have c112b2 : (t507 == t511) = false := by simpa using c112))
                      (try (have c112b3 : ¬ (t507 = t511) := by simpa using c112))
                      clear c112
                      exact absurd (Option.some.inj H) (by rw [HRT.out]; decide)
                     ·rw [if_neg c112] at H
                      have c112b0 : (t507 != t511) = false := by simpa using c112
                      (try (have c112b1 : decide (t507 = t511) = true := by simpa using c112))
                      (try (have c112b2 : (t507 == t511) = true := by simpa using c112))
                      clear c112
                      replace H := Option.bind_eq_some_iff.mp H
                      obtain ⟨t519, A1130, H⟩ := H
                      replace H : (if t519 = true then (if (t515 != t517) = true then (some false) else (if t514 = t516 then (if (t515 != t507) = true then (some false) else (if t497 = true then ((laws_tRises.f kj28 t496 t494 t495).bind fun t520 => (if t520 = true then (if t494 ≤ t495 then (if (t496.length : Int) = 0 then (some false) else (if 0 < (t496.length : Int) then (laws_FnLuckyNumbers.j6 kj28 t494 t495 t496 t497 t504 t505 t506 t507 t514 ((rd t496 0) != t494)) else (none))) else (laws_FnLuckyNumbers.j6 kj28 t494 t495 t496 t497 t504 t505 t506 t507 t514 false)) else (some false))) else (laws_FnLuckyNumbers.j6 kj28 t494 t495 t496 t497 t504 t505 t506 t507 t514 false))) else (some false))) else (some false)) = some r := H
                      have A113 := Aside0.mk A1130
                      clear A1130
                      by_cases c114 : t519 = true
                      ·subst c114
                       have H1 : (if (t515 != t517) = true then (some false) else (if t514 = t516 then (if (t515 != t507) = true then (some false) else (if t497 = true then ((laws_tRises.f kj28 t496 t494 t495).bind fun t520 => (if t520 = true then (if t494 ≤ t495 then (if (t496.length : Int) = 0 then (some false) else (if 0 < (t496.length : Int) then (laws_FnLuckyNumbers.j6 kj28 t494 t495 t496 t497 t504 t505 t506 t507 t514 ((rd t496 0) != t494)) else (none))) else (laws_FnLuckyNumbers.j6 kj28 t494 t495 t496 t497 t504 t505 t506 t507 t514 false)) else (some false))) else (laws_FnLuckyNumbers.j6 kj28 t494 t495 t496 t497 t504 t505 t506 t507 t514 false))) else (some false))) = some r := by rw [if_pos rfl] at H; exact H
                       clear H
                       have H := H1
                       clear H1
                       by_cases c115 : (t515 != t517) = true
                       ·rw [if_pos c115] at H
                        have c115b0 : (t515 != t517) = true := c115
                        (try (have c115b1 : decide (t515 = t517) = false := by simpa using c115))
                        (try (have c115b2 : (t515 == t517) = false := by simpa using c115))
                        (try (have c115b3 : ¬ (t515 = t517) := by simpa using c115))
                        clear c115
                        exact absurd (Option.some.inj H) (by rw [HRT.out]; decide)
                       ·as_aux_lemma =>
                        rw [if_neg c115] at H
                        have c115b0 : (t515 != t517) = false := by simpa using c115
                        (try (have c115b1 : decide (t515 = t517) = true := by simpa using c115))
                        (try (have c115b2 : (t515 == t517) = true := by simpa using c115))
                        clear c115
                        by_cases c116 : t514 = t516
                        ·rw [if_pos c116] at H
                         have c116b0 : (t514 == t516) = true := beq_iff_eq.mpr c116
                         have c116b1 : (t514 != t516) = false := bne_eq_false_iff_eq.mpr c116
                         clear c116
                         by_cases c117 : (t515 != t507) = true
                         ·rw [if_pos c117] at H
                          have c117b0 : (t515 != t507) = true := c117
                          (try (have c117b1 : decide (t515 = t507) = false := by simpa using c117))
                          (try (have c117b2 : (t515 == t507) = false := by simpa using c117))
                          (try (have c117b3 : ¬ (t515 = t507) := by simpa using c117))
                          clear c117
                          exact absurd (Option.some.inj H) (by rw [HRT.out]; decide)
                         ·rw [if_neg c117] at H
                          have c117b0 : (t515 != t507) = false := by simpa using c117
                          (try (have c117b1 : decide (t515 = t507) = true := by simpa using c117))
                          (try (have c117b2 : (t515 == t507) = true := by simpa using c117))
                          clear c117
                          have HC118 := Aside0.mk H
                          clear H
                          as_aux_lemma =>
                          go_upto_region 51 with (first | (go_at_call 45; (with_reducible refine (spec_DrawIsLucky.calls _ _ l1 t484 _ ?side1 ?side2 A91.out).mono ?_); (case side1 => repeat (first | exact (Kd.C_below HR1.out HB.out) | (with_reducible refine Kd.C_alloc ?_ _) | (with_reducible refine Kd.C_drewN ?_ _) | (with_reducible refine Kd.C_drew ?_))); (case side2 => exact HC1.out); rintro e w119 ⟨rfl, hb⟩; have n0_ := Aside0.mk (below_step (by repeat (first | (with_reducible first | exact HB.out | apply below_alloc | apply pw_below_drewN | apply below_drew1) | exact HB.out)) hb); clear HB; have HB := n0_; clear n0_; (try clear hb); (try clear hb2); (try clear hk); (try clear hi)) | (go_at_call 33; (with_reducible refine (impl_IsLucky.calls kj28 t484 t485 t486 _ A92.out).mono ?_); rintro e w120 ⟨rfl, hb⟩; have n0_ := Aside0.mk (below_step (by repeat (first | (with_reducible first | exact HB.out | apply below_alloc | apply pw_below_drewN | apply below_drew1) | exact HB.out)) hb); clear HB; have HB := n0_; clear n0_; (try clear hb); (try clear hb2); (try clear hk); (try clear hi)) | (go_at_call 35; (with_reducible refine (spec_IsLucky.calls kj28 t484 t487 t488 _ A93.out).mono ?_); rintro e w121 ⟨rfl, hb⟩; have n0_ := Aside0.mk (below_step (by repeat (first | (with_reducible first | exact HB.out | apply below_alloc | apply pw_below_drewN | apply below_drew1) | exact HB.out)) hb); clear HB; have HB := n0_; clear n0_; (try clear hb); (try clear hb2); (try clear hk); (try clear hi)))
                          (try simp only [Act.put, List.setIfInBounds_toArray, List.set_cons_zero, List.set_cons_succ])
                          as_aux_lemma =>
                          go_upto_region 54 with (first | (go_at_call 46; (with_reducible refine (spec_DrawRisingOfRank.calls _ _ l1 t489 _ ?side1 ?side2 A94.out).mono ?_); (case side1 => repeat (first | exact (Kd.C_below HR1.out HB.out) | (with_reducible refine Kd.C_alloc ?_ _) | (with_reducible refine Kd.C_drewN ?_ _) | (with_reducible refine Kd.C_drew ?_))); (case side2 => exact HC1.out); rintro e w122 ⟨rfl, hb⟩; have n0_ := Aside0.mk (below_step (by repeat (first | (with_reducible first | exact HB.out | apply below_alloc | apply pw_below_drewN | apply below_drew1) | exact HB.out)) hb); clear HB; have HB := n0_; clear n0_; (try clear hb); (try clear hb2); (try clear hk); (try clear hi)) | (go_at_call 34; (with_reducible refine (impl_RisingOfRank.calls kj28 t489 t490 t491 _ A95.out).mono ?_); rintro e w' ⟨rfl, ⟨nd, rfl⟩⟩; (try first | exact ⟨rfl, _, World.drewN_drewN _ _ _⟩ | exact ⟨rfl, _, Eq.trans (World.drewN_drewN _ _ _) (congrArg (World.drewN _) (Nat.add_assoc _ _ _))⟩)) | (go_at_call 36; (with_reducible refine (spec_RisingOfRank.calls kj28 t489 t492 t493 _ A96.out).mono ?_); rintro e w' ⟨rfl, ⟨nd, rfl⟩⟩; (try first | exact ⟨rfl, _, World.drewN_drewN _ _ _⟩ | exact ⟨rfl, _, Eq.trans (World.drewN_drewN _ _ _) (congrArg (World.drewN _) (Nat.add_assoc _ _ _))⟩)))
                          (try simp only [Act.put, List.setIfInBounds_toArray, List.set_cons_zero, List.set_cons_succ])
                          as_aux_lemma =>
                          go_upto_region 57 with (first | (go_at_call 47; (with_reducible refine (spec_DrawOwnSteps.calls _ _ l1 t494 t495 _ ?side1 ?side2 A97.out).mono ?_); (case side1 => repeat (first | exact (Kd.C_below HR1.out (by repeat (first | (with_reducible first | exact HB.out | apply below_alloc | apply pw_below_drewN | apply below_drew1) | exact HB.out))) | (with_reducible refine Kd.C_alloc ?_ _) | (with_reducible refine Kd.C_drewN ?_ _) | (with_reducible refine Kd.C_drew ?_))); (case side2 => exact HC1.out); rintro e w123 ⟨rfl, hb⟩; have n0_ := Aside0.mk (below_step (by repeat (first | (with_reducible first | exact HB.out | apply below_alloc | apply pw_below_drewN | apply below_drew1) | exact HB.out)) hb); clear HB; have HB := n0_; clear n0_; (try clear hb); (try clear hb2); (try clear hk); (try clear hi)) | (go_at_call 37; (with_reducible refine (impl_OwnSteps.calls kj28 t494 t495 t496 t497 _ A98.out).mono ?_); rintro e w124 ⟨v498, rfl, ho0, hb⟩; have n0_ := Aside0.mk (Kd.R_lower ho0 (below_size (by repeat (first | (with_reducible first | exact HB.out | apply below_alloc | apply pw_below_drewN | apply below_drew1) | exact HB.out)))); have n1_ := Aside0.mk (below_step (by repeat (first | (with_reducible first | exact HB.out | apply below_alloc | apply pw_below_drewN | apply below_drew1) | exact HB.out)) hb); clear HB; have HO499 := n0_; have HB := n1_; clear n0_ n1_; (try clear hb); (try clear hb2); (try clear hk); (try clear hi); (try clear ho0)) | (go_at_call 38; (with_reducible refine (spec_OwnSteps.calls kj28 t494 t495 t500 t501 _ A99.out).mono ?_); rintro e w125 ⟨v502, rfl, ho0, hb⟩; have n0_ := Aside0.mk (Kd.R_elder' (by (with_reducible repeat (first | apply Kd.R_alloc | apply Kd.R_drewN | apply Kd.R_drew)); exact HO499.out) (Kd.R_base ho0) hb); have n1_ := Aside0.mk (Kd.R_lower (Kd.R_new' ho0 (Kd.R_lt (by (with_reducible repeat (first | apply Kd.R_alloc | apply Kd.R_drewN | apply Kd.R_drew)); exact HO499.out))) (below_size (by repeat (first | (with_reducible first | exact HB.out | apply below_alloc | apply pw_below_drewN | apply below_drew1) | exact HB.out)))); have n2_ := Aside0.mk (below_step (by repeat (first | (with_reducible first | exact HB.out | apply below_alloc | apply pw_below_drewN | apply below_drew1) | exact HB.out)) hb); clear HO499; clear HB; have HO499 := n0_; have HO503 := n1_; have HB := n2_; clear n0_ n1_ n2_; (try clear hb); (try clear hb2); (try clear hk); (try clear hi); (try clear ho0)))
                          (try simp only [Act.put, List.setIfInBounds_toArray, List.set_cons_zero, List.set_cons_succ])
                          as_aux_lemma =>
                          go_upto_region 60 with (first | (go_at_call 48; (with_reducible refine (spec_DrawCircleOut.calls _ _ l1 t504 t505 _ ?side1 ?side2 A100.out).mono ?_); (case side1 => repeat (first | exact (Kd.C_below HR1.out HB.out) | (with_reducible refine Kd.C_alloc ?_ _) | (with_reducible refine Kd.C_drewN ?_ _) | (with_reducible refine Kd.C_drew ?_))); (case side2 => exact HC1.out); rintro e w126 ⟨rfl, hb⟩; have n0_ := Aside0.mk (Kd.R_below (by (with_reducible repeat (first | apply Kd.R_alloc | apply Kd.R_drewN | apply Kd.R_drew)); exact HO499.out) hb); have n1_ := Aside0.mk (Kd.R_below (by (with_reducible repeat (first | apply Kd.R_alloc | apply Kd.R_drewN | apply Kd.R_drew)); exact HO503.out) hb); have n2_ := Aside0.mk (below_step (by repeat (first | (with_reducible first | exact HB.out | apply below_alloc | apply pw_below_drewN | apply below_drew1) | exact HB.out)) hb); clear HO499; clear HO503; clear HB; have HO499 := n0_; have HO503 := n1_; have HB := n2_; clear n0_ n1_ n2_; (try clear hb); (try clear hb2); (try clear hk); (try clear hi)) | (go_at_call 39; (with_reducible refine (impl_CircleOut.calls kj28 t504 t505 t506 t507 _ A101.out).mono ?_); rintro e w127 ⟨v508, rfl, ho0, hb⟩; have n0_ := Aside0.mk (Kd.R_elder' (by (with_reducible repeat (first | apply Kd.R_alloc | apply Kd.R_drewN | apply Kd.R_drew)); exact HO499.out) (Kd.R_base ho0) hb); have n1_ := Aside0.mk (Kd.R_elder' (by (with_reducible repeat (first | apply Kd.R_alloc | apply Kd.R_drewN | apply Kd.R_drew)); exact HO503.out) (Kd.R_base ho0) hb); have n2_ := Aside0.mk (Kd.R_lower (Kd.R_new' (Kd.R_new' ho0 (Kd.R_lt (by (with_reducible repeat (first | apply Kd.R_alloc | apply Kd.R_drewN | apply Kd.R_drew)); exact HO499.out))) (Kd.R_lt (by (with_reducible repeat (first | apply Kd.R_alloc | apply Kd.R_drewN | apply Kd.R_drew)); exact HO503.out))) (below_size (by repeat (first | (with_reducible first | exact HB.out | apply below_alloc | apply pw_below_drewN | apply below_drew1) | exact HB.out)))); have n3_ := Aside0.mk (below_step (by repeat (first | (with_reducible first | exact HB.out | apply below_alloc | apply pw_below_drewN | apply below_drew1) | exact HB.out)) hb); clear HO499; clear HO503; clear HB; have HO499 := n0_; have HO503 := n1_; have HO509 := n2_; have HB := n3_; clear n0_ n1_ n2_ n3_; (try clear hb); (try clear hb2); (try clear hk); (try clear hi); (try clear ho0)) | (go_at_call 40; (with_reducible refine (spec_CircleOut.calls kj28 t504 t505 t510 t511 _ A102.out).mono ?_); rintro e w128 ⟨v512, rfl, ho0, hb⟩; have n0_ := Aside0.mk (Kd.R_elder' (by (with_reducible repeat (first | apply Kd.R_alloc | apply Kd.R_drewN | apply Kd.R_drew)); exact HO499.out) (Kd.R_base ho0) hb); have n1_ := Aside0.mk (Kd.R_elder' (by (with_reducible repeat (first | apply Kd.R_alloc | apply Kd.R_drewN | apply Kd.R_drew)); exact HO503.out) (Kd.R_base ho0) hb); have n2_ := Aside0.mk (Kd.R_elder' (by (with_reducible repeat (first | apply Kd.R_alloc | apply Kd.R_drewN | apply Kd.R_drew)); exact HO509.out) (Kd.R_base ho0) hb); have n3_ := Aside0.mk (Kd.R_lower (Kd.R_new' (Kd.R_new' (Kd.R_new' ho0 (Kd.R_lt (by (with_reducible repeat (first | apply Kd.R_alloc | apply Kd.R_drewN | apply Kd.R_drew)); exact HO499.out))) (Kd.R_lt (by (with_reducible repeat (first | apply Kd.R_alloc | apply Kd.R_drewN | apply Kd.R_drew)); exact HO503.out))) (Kd.R_lt (by (with_reducible repeat (first | apply Kd.R_alloc | apply Kd.R_drewN | apply Kd.R_drew)); exact HO509.out))) (below_size (by repeat (first | (with_reducible first | exact HB.out | apply below_alloc | apply pw_below_drewN | apply below_drew1) | exact HB.out)))); have n4_ := Aside0.mk (below_step (by repeat (first | (with_reducible first | exact HB.out | apply below_alloc | apply pw_below_drewN | apply below_drew1) | exact HB.out)) hb); clear HO499; clear HO503; clear HO509; clear HB; have HO499 := n0_; have HO503 := n1_; have HO509 := n2_; have HO513 := n3_; have HB := n4_; clear n0_ n1_ n2_ n3_ n4_; (try clear hb); (try clear hb2); (try clear hk); (try clear hi); (try clear ho0)))
                          (try simp only [Act.put, List.setIfInBounds_toArray, List.set_cons_zero, List.set_cons_succ])
                          as_aux_lemma =>
                          go_upto_region 64 with (first | (go_at_call 41; (with_reducible refine (impl_LastOfCircle.calls kj28 t504 t505 t514 t515 _ A103.out).mono ?_); rintro e w' ⟨rfl, ⟨nd, rfl⟩⟩; (try first | exact ⟨rfl, _, World.drewN_drewN _ _ _⟩ | exact ⟨rfl, _, Eq.trans (World.drewN_drewN _ _ _) (congrArg (World.drewN _) (Nat.add_assoc _ _ _))⟩)) | (go_at_call 42; (with_reducible refine (spec_LastOfCircle.calls kj28 t504 t505 t516 t517 _ A104.out).mono ?_); rintro e w' ⟨rfl, ⟨nd, rfl⟩⟩; (try first | exact ⟨rfl, _, World.drewN_drewN _ _ _⟩ | exact ⟨rfl, _, Eq.trans (World.drewN_drewN _ _ _) (congrArg (World.drewN _) (Nat.add_assoc _ _ _))⟩); obtain ⟨Ao129, co129, eo129⟩ := Kd.R_slice HO499.out; subst eo129; obtain ⟨Ao130, co130, eo130⟩ := Kd.R_slice HO503.out; subst eo130) | (go_at_call 16; (with_reducible refine (laws_tSame.calls kj28 _ _ t496 _ _ t500 true _ ?side1 ?side2 ?side3 ?side4 A110.out).mono ?_); (case side1 => repeat (first | exact (Kd.R_reads' HO499.out).2.2 | (with_reducible refine Kd.C_alloc ?_ _) | (with_reducible refine Kd.C_drewN ?_ _) | (with_reducible refine Kd.C_drew ?_))); (case side2 => exact (Kd.R_reads' HO499.out).2.1); (case side3 => repeat (first | exact (Kd.R_reads' HO503.out).2.2 | (with_reducible refine Kd.C_alloc ?_ _) | (with_reducible refine Kd.C_drewN ?_ _) | (with_reducible refine Kd.C_drew ?_))); (case side4 => exact (Kd.R_reads' HO503.out).2.1); rintro e w' ⟨rfl, ⟨nd, rfl⟩⟩; (try first | exact ⟨rfl, _, World.drewN_drewN _ _ _⟩ | exact ⟨rfl, _, Eq.trans (World.drewN_drewN _ _ _) (congrArg (World.drewN _) (Nat.add_assoc _ _ _))⟩); obtain ⟨Ao131, co131, eo131⟩ := Kd.R_slice HO509.out; subst eo131; obtain ⟨Ao132, co132, eo132⟩ := Kd.R_slice HO513.out; subst eo132) | (go_at_call 16; (with_reducible refine (laws_tSame.calls kj28 _ _ t506 _ _ t510 true _ ?side1 ?side2 ?side3 ?side4 A113.out).mono ?_); (case side1 => repeat (first | exact (Kd.R_reads' HO509.out).2.2 | (with_reducible refine Kd.C_alloc ?_ _) | (with_reducible refine Kd.C_drewN ?_ _) | (with_reducible refine Kd.C_drew ?_))); (case side2 => exact (Kd.R_reads' HO509.out).2.1); (case side3 => repeat (first | exact (Kd.R_reads' HO513.out).2.2 | (with_reducible refine Kd.C_alloc ?_ _) | (with_reducible refine Kd.C_drewN ?_ _) | (with_reducible refine Kd.C_drew ?_))); (case side4 => exact (Kd.R_reads' HO513.out).2.1); rintro e w' ⟨rfl, ⟨nd, rfl⟩⟩; (try first | exact ⟨rfl, _, World.drewN_drewN _ _ _⟩ | exact ⟨rfl, _, Eq.trans (World.drewN_drewN _ _ _) (congrArg (World.drewN _) (Nat.add_assoc _ _ _))⟩)))
                          (try simp only [Act.put, List.setIfInBounds_toArray, List.set_cons_zero, List.set_cons_succ])
                          go_cut [429] from 417 to 429 (fun v429 wc => ∃ (kq : Nat) (x429_117 : Bool), v429 = .bool x429_117 ∧ Aside0 (laws_FnLuckyNumbers.j6 kq t494 t495 t496 t497 t504 t505 t506 t507 t514 x429_117 = some r) ∧ Aside0 (kq ≤ kj28) ∧ Aside0 (Kd.R (Kd.int .i64) 3 wc w.heap.size (fun k_ => some k_ ≠ ((.slice Ao131 t506.length co131) : Value).ownBlock) (.slice Ao129 t496.length co129) t496) ∧ Aside0 (Kd.R (Kd.int .i64) 3 wc w.heap.size (fun k_ => some k_ ≠ ((.slice Ao129 t496.length co129) : Value).ownBlock) (.slice Ao131 t506.length co131) t506) ∧ Aside0 (Below w.heap.size w wc))
                          case first => as_aux_lemma =>
                           have H := HC118.out
                           clear HC118
                           by_cases c133 : t497 = true
                           ·subst c133
                            have H1 : ((laws_tRises.f kj28 t496 t494 t495).bind fun t520 => (if t520 = true then (if t494 ≤ t495 then (if (t496.length : Int) = 0 then (some false) else (if 0 < (t496.length : Int) then (laws_FnLuckyNumbers.j6 kj28 t494 t495 t496 true t504 t505 t506 t507 t514 ((rd t496 0) != t494)) else (none))) else (laws_FnLuckyNumbers.j6 kj28 t494 t495 t496 true t504 t505 t506 t507 t514 false)) else (some false))) = some r := by rw [if_pos rfl] at H; exact H
                            clear H
                            have H := H1
                            clear H1
                            replace H := Option.bind_eq_some_iff.mp H
                            obtain ⟨t520, A1340, H⟩ := H
                            replace H : (if t520 = true then (if t494 ≤ t495 then (if (t496.length : Int) = 0 then (some false) else (if 0 < (t496.length : Int) then (laws_FnLuckyNumbers.j6 kj28 t494 t495 t496 true t504 t505 t506 t507 t514 ((rd t496 0) != t494)) else (none))) else (laws_FnLuckyNumbers.j6 kj28 t494 t495 t496 true t504 t505 t506 t507 t514 false)) else (some false)) = some r := H
                            have A134 := Aside0.mk A1340
                            clear A1340
                            by_cases c135 : t520 = true
                            ·subst c135
                             have H1 : (if t494 ≤ t495 then (if (t496.length : Int) = 0 then (some false) else (if 0 < (t496.length : Int) then (laws_FnLuckyNumbers.j6 kj28 t494 t495 t496 true t504 t505 t506 t507 t514 ((rd t496 0) != t494)) else (none))) else (laws_FnLuckyNumbers.j6 kj28 t494 t495 t496 true t504 t505 t506 t507 t514 false)) = some r := by rw [if_pos rfl] at H; exact H
                             clear H
                             have H := H1
                             clear H1
                             by_cases c136 : t494 ≤ t495
                             ·rw [if_pos c136] at H
                              have c136b0 : decide (t494 ≤ t495) = true := decide_eq_true c136
                              clear c136
                              (first | rw [c136b0] | (simp only [i64_w, i32_w]; rw [c136b0]) | skip)
                              by_cases c137 : (t496.length : Int) = 0
                              ·rw [if_pos c137] at H
                               have c137b0 : ((t496.length : Int) == 0) = true := beq_iff_eq.mpr c137
                               have c137b1 : ((t496.length : Int) != 0) = false := bne_eq_false_iff_eq.mpr c137
                               clear c137
                               exact absurd (Option.some.inj H) (by rw [HRT.out]; decide)
                              ·as_aux_lemma =>
                               rw [if_neg c137] at H
                               have c137b0 : ((t496.length : Int) == 0) = false := beq_eq_false_iff_ne.mpr c137
                               have c137b1 : ((t496.length : Int) != 0) = true := bne_iff_ne.mpr c137
                               have c137b2 : ¬ (t496 = []) := fun h_ => c137 (by rw [h_]; rfl)
                               by_cases c138 : 0 < (t496.length : Int)
                               ·rw [if_pos c138] at H
                                have c138b0 : decide (0 < (t496.length : Int)) = true := decide_eq_true c138
                                have c138b1 : decide (0 < t496.length) = true := decide_eq_true (by omega)
                                clear c138
                                have H' := Aside0.mk H
                                clear H
                                go_wp2_with (first | (go_at_call 19; (with_reducible refine (laws_tRises.calls kj28 _ _ t496 t494 t495 true _ ?side1 ?side2 A134.out).mono ?_); (case side1 => repeat (first | exact (Kd.R_reads' HO499.out).2.2 | (with_reducible refine Kd.C_alloc ?_ _) | (with_reducible refine Kd.C_drewN ?_ _) | (with_reducible refine Kd.C_drew ?_))); (case side2 => exact (Kd.R_reads' HO499.out).2.1); rintro e w' ⟨rfl, ⟨nd, rfl⟩⟩; (try first | exact ⟨rfl, _, World.drewN_drewN _ _ _⟩ | exact ⟨rfl, _, Eq.trans (World.drewN_drewN _ _ _) (congrArg (World.drewN _) (Nat.add_assoc _ _ _))⟩); have p521 : 0 ≤ (0 : Int) := (by omega); have q521 : 0 < (t496.length : Int) := of_decide_eq_true (by first | (with_reducible assumption) | assumption); obtain ⟨ad521, e521, hx521_0⟩ := Kd.at_int (Kd.R_reads' HO499.out).2.2 0 p521 q521; cases e521; have qi521 : (0 < t496.length) = True := eq_true (by omega); (try rw [show ((0 : Int)).toNat = 0 from rfl] at hx521_0); (try rw [Addr.add_zero'] at hx521_0); replace p521 := eq_true p521; replace q521 := eq_true q521))
                                refine Met.intro ?_
                                go_step
                                (repeat with_reducible apply ex32_)
                                (repeat apply Exists.intro)
                                refine ⟨?rel, rfl⟩
                                case rel => exact ⟨_, (((rd t496 0) != t494)), (by first | rfl | (simp; done) | (simp [*]; done)), H', ⟨by have := HJ28.out; first | omega | exact Nat.le_refl _⟩, ⟨by (with_reducible repeat (first | apply Kd.R_alloc | apply Kd.R_drewN | apply Kd.R_drew)); exact Kd.R_mono HO499.out (fun _ hk => hk.1.2)⟩, ⟨by (with_reducible repeat (first | apply Kd.R_alloc | apply Kd.R_drewN | apply Kd.R_drew)); exact Kd.R_mono HO509.out (fun _ hk => hk.1.1.2)⟩, ⟨by repeat (first | (with_reducible first | exact HB.out | apply below_alloc | apply pw_below_drewN | apply below_drew1) | exact HB.out)⟩⟩
                               ·rw [if_neg c138] at H
                                exact absurd H (by simp)
                             ·rw [if_neg c136] at H
                              have c136b0 : decide (t494 ≤ t495) = false := decide_eq_false c136
                              clear c136
                              (first | rw [c136b0] | (simp only [i64_w, i32_w]; rw [c136b0]) | skip)
                              have H' := Aside0.mk H
                              clear H
                              go_wp2_with (first | (go_at_call 19; (with_reducible refine (laws_tRises.calls kj28 _ _ t496 t494 t495 true _ ?side1 ?side2 A134.out).mono ?_); (case side1 => repeat (first | exact (Kd.R_reads' HO499.out).2.2 | (with_reducible refine Kd.C_alloc ?_ _) | (with_reducible refine Kd.C_drewN ?_ _) | (with_reducible refine Kd.C_drew ?_))); (case side2 => exact (Kd.R_reads' HO499.out).2.1); rintro e w' ⟨rfl, ⟨nd, rfl⟩⟩; (try first | exact ⟨rfl, _, World.drewN_drewN _ _ _⟩ | exact ⟨rfl, _, Eq.trans (World.drewN_drewN _ _ _) (congrArg (World.drewN _) (Nat.add_assoc _ _ _))⟩)))
                              refine Met.intro ?_
                              go_step
                              (repeat with_reducible apply ex32_)
                              (repeat apply Exists.intro)
                              refine ⟨?rel, rfl⟩
                              case rel => exact ⟨_, (false), (by first | rfl | (simp; done) | (simp [*]; done)), H', ⟨by have := HJ28.out; first | omega | exact Nat.le_refl _⟩, ⟨by (with_reducible repeat (first | apply Kd.R_alloc | apply Kd.R_drewN | apply Kd.R_drew)); exact Kd.R_mono HO499.out (fun _ hk => hk.1.2)⟩, ⟨by (with_reducible repeat (first | apply Kd.R_alloc | apply Kd.R_drewN | apply Kd.R_drew)); exact Kd.R_mono HO509.out (fun _ hk => hk.1.1.2)⟩, ⟨by repeat (first | (with_reducible first | exact HB.out | apply below_alloc | apply pw_below_drewN | apply below_drew1) | exact HB.out)⟩⟩
                            ·replace c135 := Bool.eq_false_iff.mpr c135
                             subst c135
                             have H1 : (some false) = some r := by rw [if_neg (show ¬ (false = true) by decide)] at H; exact H
                             clear H
                             have H := H1
                             clear H1
                             exact absurd (Option.some.inj H) (by rw [HRT.out]; decide)
                           ·as_aux_lemma =>
                            replace c133 := Bool.eq_false_iff.mpr c133
                            subst c133
                            have H1 : (laws_FnLuckyNumbers.j6 kj28 t494 t495 t496 false t504 t505 t506 t507 t514 false) = some r := by rw [if_neg (show ¬ (false = true) by decide)] at H; exact H
                            clear H
                            have H := H1
                            clear H1
                            have H' := Aside0.mk H
                            clear H
                            go_wp2
                            repeat (go_quiet (fail); try go_wp2)
                            refine Met.intro ?_
                            go_step
                            (repeat with_reducible apply ex32_)
                            (repeat apply Exists.intro)
                            refine ⟨?rel, rfl⟩
                            case rel => exact ⟨_, (false), (by first | rfl | (simp; done) | (simp [*]; done)), H', ⟨by have := HJ28.out; first | omega | exact Nat.le_refl _⟩, ⟨by (with_reducible repeat (first | apply Kd.R_alloc | apply Kd.R_drewN | apply Kd.R_drew)); exact Kd.R_mono HO499.out (fun _ hk => hk.1.2)⟩, ⟨by (with_reducible repeat (first | apply Kd.R_alloc | apply Kd.R_drewN | apply Kd.R_drew)); exact Kd.R_mono HO509.out (fun _ hk => hk.1.1.2)⟩, ⟨by repeat (first | (with_reducible first | exact HB.out | apply below_alloc | apply pw_below_drewN | apply below_drew1) | exact HB.out)⟩⟩
                          case rest => as_aux_lemma =>
                           clear HC118
                           obtain ⟨kq, x429_117, rfl, HA, HJ117, HO_48, HO_54, HB⟩ := hcut
                           cases kq with
                           | zero => exact absurd HA.out (by simp [laws_FnLuckyNumbers.j6])
                           | succ kj117 =>
                            have H := HA.out
                            clear HA
                            simp only [laws_FnLuckyNumbers.j6] at H
                            by_cases c139 : x429_117 = true
                            ·subst c139
                             have H1 : (some false) = some r := by rw [if_pos rfl] at H; exact H
                             clear H
                             have H := H1
                             clear H1
                             exact absurd (Option.some.inj H) (by rw [HRT.out]; decide)
                            ·replace c139 := Bool.eq_false_iff.mpr c139
                             subst c139
                             have H1 : (if t497 = true then (laws_FnLuckyNumbers.j7 kj117 t495 t496 t504 t505 t506 t507 t514 (t494 == 2)) else (laws_FnLuckyNumbers.j7 kj117 t495 t496 t504 t505 t506 t507 t514 false)) = some r := by rw [if_neg (show ¬ (false = true) by decide)] at H; exact H
                             clear H
                             have H := H1
                             clear H1
                             have HC140 := Aside0.mk H
                             clear H
                             as_aux_lemma =>
                             go_upto_region 66 with (fail)
                             repeat (go_quiet (fail); go_upto_region 66 with (fail))
                             go_cut [434] from 422 to 434 (fun v434 wc => ∃ (kq : Nat) (x434_139 : Bool), v434 = .bool x434_139 ∧ Aside0 (laws_FnLuckyNumbers.j7 kq t495 t496 t504 t505 t506 t507 t514 x434_139 = some r) ∧ Aside0 (kq ≤ kj117) ∧ Aside0 (Kd.R (Kd.int .i64) 3 wc w.heap.size (fun k_ => some k_ ≠ ((.slice Ao131 t506.length co131) : Value).ownBlock) (.slice Ao129 t496.length co129) t496) ∧ Aside0 (Kd.R (Kd.int .i64) 3 wc w.heap.size (fun k_ => some k_ ≠ ((.slice Ao129 t496.length co129) : Value).ownBlock) (.slice Ao131 t506.length co131) t506) ∧ Aside0 (Below w.heap.size w wc))
                             case first => as_aux_lemma =>
                              have H := HC140.out
                              clear HC140
                              by_cases c141 : t497 = true
                              ·subst c141
                               have H1 : (laws_FnLuckyNumbers.j7 kj117 t495 t496 t504 t505 t506 t507 t514 (t494 == 2)) = some r := by rw [if_pos rfl] at H; exact H
                               clear H
                               have H := H1
                               clear H1
                               have H' := Aside0.mk H
                               clear H
                               go_wp2
                               repeat (go_quiet (fail); try go_wp2)
                               refine Met.intro ?_
                               go_step
                               (repeat with_reducible apply ex32_)
                               (repeat apply Exists.intro)
                               refine ⟨?rel, rfl⟩
                               case rel => exact ⟨_, ((t494 == 2)), (by first | rfl | (simp; done) | (simp [*]; done)), H', ⟨by have := HJ28.out; have := HJ117.out; first | omega | exact Nat.le_refl _⟩, ⟨by (with_reducible repeat (first | apply Kd.R_alloc | apply Kd.R_drewN | apply Kd.R_drew)); exact HO_48.out⟩, ⟨by (with_reducible repeat (first | apply Kd.R_alloc | apply Kd.R_drewN | apply Kd.R_drew)); exact HO_54.out⟩, ⟨by repeat (first | (with_reducible first | exact HB.out | apply below_alloc | apply pw_below_drewN | apply below_drew1) | exact HB.out)⟩⟩
                              ·replace c141 := Bool.eq_false_iff.mpr c141
                               subst c141
                               have H1 : (laws_FnLuckyNumbers.j7 kj117 t495 t496 t504 t505 t506 t507 t514 false) = some r := by rw [if_neg (show ¬ (false = true) by decide)] at H; exact H
                               clear H
                               have H := H1
                               clear H1
                               have H' := Aside0.mk H
                               clear H
                               go_wp2
                               repeat (go_quiet (fail); try go_wp2)
                               refine Met.intro ?_
                               go_step
                               (repeat with_reducible apply ex32_)
                               (repeat apply Exists.intro)
                               refine ⟨?rel, rfl⟩
                               case rel => exact ⟨_, (false), (by first | rfl | (simp; done) | (simp [*]; done)), H', ⟨by have := HJ28.out; have := HJ117.out; first | omega | exact Nat.le_refl _⟩, ⟨by (with_reducible repeat (first | apply Kd.R_alloc | apply Kd.R_drewN | apply Kd.R_drew)); exact HO_48.out⟩, ⟨by (with_reducible repeat (first | apply Kd.R_alloc | apply Kd.R_drewN | apply Kd.R_drew)); exact HO_54.out⟩, ⟨by repeat (first | (with_reducible first | exact HB.out | apply below_alloc | apply pw_below_drewN | apply below_drew1) | exact HB.out)⟩⟩
                             case rest => as_aux_lemma =>
                              clear HC140
                              obtain ⟨kq, x434_139, rfl, HA, HJ139, HO_48, HO_54, HB⟩ := hcut
                              cases kq with
                              | zero => exact absurd HA.out (by simp [laws_FnLuckyNumbers.j7])
                              | succ kj139 =>
                               have H := HA.out
                               clear HA
                               simp only [laws_FnLuckyNumbers.j7] at H
                               have HC142 := Aside0.mk H
                               clear H
                               as_aux_lemma =>
                               go_upto_if 434 with (fail)
                               repeat (go_quiet (fail); go_upto_if 434 with (fail))
                               go_cut [] from 422 to 434 (fun wc => ∃ (kq : Nat), Aside0 (laws_FnLuckyNumbers.j9 kq t504 t505 t506 t507 t514 = some r) ∧ Aside0 (kq ≤ kj139) ∧ Aside0 (Kd.R (Kd.int .i64) 3 wc w.heap.size (fun _ => True) (.slice Ao131 t506.length co131) t506) ∧ Aside0 (Below w.heap.size w wc))
                               case first => as_aux_lemma =>
                                have H := HC142.out
                                clear HC142
                                by_cases c143 : x434_139 = true
                                ·subst c143
                                 have H1 : ((some (([2, 3, 5, 7, 11, 13, 17, 23, 25] : List Int) : List Int)).bind fun y522 => (laws_FnLuckyNumbers.l4 kj139 t495 t496 t504 t505 t506 t507 t514 y522 (y522.length : Int) 0)) = some r := by rw [if_pos rfl] at H; exact H
                                 clear H
                                 have H := H1
                                 clear H1
                                 obtain ⟨y522, hy522⟩ : ∃ y_ : List Int, y_ = (([2, 3, 5, 7, 11, 13, 17, 23, 25] : List Int)) := ⟨_, rfl⟩
                                 replace H : (laws_FnLuckyNumbers.l4 kj139 t495 t496 t504 t505 t506 t507 t514 y522 (y522.length : Int) 0) = some r := by first | (rw [hy522]; with_reducible exact H) | (have H2_ := (Option.bind_some _ _).symm.trans H; rw [hy522]; with_reducible exact H2_) | (have H2_ := (Option.bind_some _ _).symm.trans H; with_reducible exact H2_) | with_reducible exact H | (rw [hy522]; exact H) | exact H
                                 have Ny522 := Aside0.mk hy522
                                 clear hy522
                                 have H' := Aside0.mk H
                                 clear H
                                 go_wp2_with (first | ((with_reducible refine gate_dst (N := 435) rfl ?_); (try (refine gate_guard (by rfl) ?_; dsimp only)); refine Kd.R_lit (Kd.int .i64) _ 3 ?hg (N := 435) ?hd (xs := ([2, 3, 5, 7, 11, 13, 17, 23, 25] : List Int)) (inner := [.int .i64 2, .int .i64 3, .int .i64 5, .int .i64 7, .int .i64 11, .int .i64 13, .int .i64 17, .int .i64 23, .int .i64 25]) (ok := fun _ => True) (okp := fun _ => True) ?hr ?hp (fun _ hk => hk) trivial (Below.refl _ _) (Nat.le_refl _) (by simp) ?_; (case hd => rfl); (case hg => rfl); (case hr => generalize Act.mk _ _ = a_; as_aux_lemma => kernel_rfl); (case hp => exact (Reps.one (show Kd.M (Kd.int .i64) _ _ _ 2 [.int .i64 2] from rfl) (Reps.one (show Kd.M (Kd.int .i64) _ _ _ 3 [.int .i64 3] from rfl) (Reps.one (show Kd.M (Kd.int .i64) _ _ _ 5 [.int .i64 5] from rfl) (Reps.one (show Kd.M (Kd.int .i64) _ _ _ 7 [.int .i64 7] from rfl) (Reps.one (show Kd.M (Kd.int .i64) _ _ _ 11 [.int .i64 11] from rfl) (Reps.one (show Kd.M (Kd.int .i64) _ _ _ 13 [.int .i64 13] from rfl) (Reps.one (show Kd.M (Kd.int .i64) _ _ _ 17 [.int .i64 17] from rfl) (Reps.one (show Kd.M (Kd.int .i64) _ _ _ 23 [.int .i64 23] from rfl) (Reps.one (show Kd.M (Kd.int .i64) _ _ _ 25 [.int .i64 25] from rfl) (Reps.none _ _))))))))))); intro v523 w144 ho145 hb hg_ hnew_; clear hg_ hnew_; (first | rw [← Ny522.out] at ho145 | (simp only [Int.reduceToNat] at ho145; rw [← Ny522.out] at ho145)); have n0_ := Aside0.mk (Kd.R_elder' (by (with_reducible repeat (first | apply Kd.R_alloc | apply Kd.R_drewN | apply Kd.R_drew)); exact HO_48.out) (Kd.R_base ho145) hb); have n1_ := Aside0.mk (Kd.R_elder' (by (with_reducible repeat (first | apply Kd.R_alloc | apply Kd.R_drewN | apply Kd.R_drew)); exact HO_54.out) (Kd.R_base ho145) hb); have n2_ := Aside0.mk (Kd.R_lower (Kd.R_new' (Kd.R_new' ho145 (Kd.R_lt (by (with_reducible repeat (first | apply Kd.R_alloc | apply Kd.R_drewN | apply Kd.R_drew)); exact HO_48.out))) (Kd.R_lt (by (with_reducible repeat (first | apply Kd.R_alloc | apply Kd.R_drewN | apply Kd.R_drew)); exact HO_54.out))) (below_size (by repeat (first | (with_reducible first | exact HB.out | apply below_alloc | apply pw_below_drewN | apply below_drew1) | exact HB.out)))); have n3_ := Aside0.mk (below_step (by repeat (first | (with_reducible first | exact HB.out | apply below_alloc | apply pw_below_drewN | apply below_drew1) | exact HB.out)) hb); clear HO_48; clear HO_54; clear HB; have HO_48 := n0_; have HO_54 := n1_; have HO524 := n2_; have HB := n3_; clear n0_ n1_ n2_ n3_; clear hb ho145; obtain ⟨Ao146, co146, eo146⟩ := Kd.R_slice HO524.out; subst eo146))
                                 as_aux_lemma =>
                                 go_loopg [437] kj139 (fun kq v437 w' => ∃ (x437_4 : Int), v437 = .int .i64 x437_4 ∧ Aside0 (laws_FnLuckyNumbers.l4 kq t495 t496 t504 t505 t506 t507 t514 y522 (y522.length : Int) x437_4 = some r) ∧ Aside0 (kq ≤ kj139) ∧ Aside0 (Kd.R (Kd.int .i64) 3 w' w.heap.size (fun k_ => some k_ ≠ ((.slice Ao131 t506.length co131) : Value).ownBlock ∧ some k_ ≠ ((.slice Ao146 y522.length co146) : Value).ownBlock) (.slice Ao129 t496.length co129) t496) ∧ Aside0 (Kd.R (Kd.int .i64) 3 w' w.heap.size (fun k_ => some k_ ≠ ((.slice Ao129 t496.length co129) : Value).ownBlock ∧ some k_ ≠ ((.slice Ao146 y522.length co146) : Value).ownBlock) (.slice Ao131 t506.length co131) t506) ∧ Aside0 (Kd.R (Kd.int .i64) 3 w' w.heap.size (fun k_ => some k_ ≠ ((.slice Ao129 t496.length co129) : Value).ownBlock ∧ some k_ ≠ ((.slice Ao131 t506.length co131) : Value).ownBlock) (.slice Ao146 y522.length co146) y522) ∧ Aside0 (Below w.heap.size w w'))
                                 case atStart => exact ⟨(0), (by first | rfl | (simp; done) | (simp [*]; done)), H', ⟨Nat.le_refl _⟩, ⟨by (with_reducible repeat (first | apply Kd.R_alloc | apply Kd.R_drewN | apply Kd.R_drew)); exact HO_48.out⟩, ⟨by (with_reducible repeat (first | apply Kd.R_alloc | apply Kd.R_drewN | apply Kd.R_drew)); exact HO_54.out⟩, ⟨by (with_reducible repeat (first | apply Kd.R_alloc | apply Kd.R_drewN | apply Kd.R_drew)); exact Kd.R_mono HO524.out (fun _ hk => ⟨hk.1.2, hk.2⟩)⟩, ⟨by repeat (first | (with_reducible first | exact HB.out | apply below_alloc | apply pw_below_drewN | apply below_drew1) | exact HB.out)⟩⟩
                                 case round => as_aux_lemma =>
                                  clear H'
                                  obtain ⟨x437_4, rfl, HA, HK4, HO_48, HO_54, HO_435, HB⟩ := hrel
                                  cases gk with
                                  | zero => exact absurd HA.out (by simp [laws_FnLuckyNumbers.l4])
                                  | succ k4 =>
                                   have H := HA.out
                                   clear HA
                                   simp only [laws_FnLuckyNumbers.l4] at H
                                   by_cases c147 : x437_4 < (y522.length : Int)
                                   ·rw [if_pos c147] at H
                                    have c147b0 : decide (x437_4 < (y522.length : Int)) = true := decide_eq_true c147
                                    clear c147
                                    (first | rw [c147b0] | (simp only [i64_w, i32_w]; rw [c147b0]) | skip)
                                    by_cases c148 : 0 ≤ x437_4
                                    ·rw [if_pos c148] at H
                                     have c148b0 : decide (0 ≤ x437_4) = true := decide_eq_true c148
                                     clear c148
                                     by_cases c149 : x437_4 < (y522.length : Int)
                                     ·rw [if_pos c149] at H
                                      have c149b0 : decide (x437_4 < (y522.length : Int)) = true := decide_eq_true c149
                                      clear c149
                                      by_cases c150 : (rd y522 x437_4) ≤ t495
                                      ·rw [if_pos c150] at H
                                       have c150b0 : decide ((rd y522 x437_4) ≤ t495) = true := decide_eq_true c150
                                       clear c150
                                       by_cases c151 : x437_4 ≥ (t496.length : Int)
                                       ·rw [if_pos c151] at H
                                        have c151b0 : decide ((t496.length : Int) ≤ x437_4) = true := decide_eq_true c151
                                        clear c151
                                        exact absurd (Option.some.inj H) (by rw [HRT.out]; decide)
                                       ·as_aux_lemma =>
                                        rw [if_neg c151] at H
                                        have c151b0 : decide ((t496.length : Int) ≤ x437_4) = false := decide_eq_false c151
                                        clear c151
                                        by_cases c152 : x437_4 < (t496.length : Int)
                                        ·rw [if_pos c152] at H
                                         have c152b0 : decide (x437_4 < (t496.length : Int)) = true := decide_eq_true c152
                                         clear c152
                                         by_cases c153 : (rd t496 x437_4) = (rd y522 x437_4)
                                         ·rw [if_pos c153] at H
                                          have c153b0 : ((rd t496 x437_4) == (rd y522 x437_4)) = true := beq_iff_eq.mpr c153
                                          have c153b1 : ((rd t496 x437_4) != (rd y522 x437_4)) = false := bne_eq_false_iff_eq.mpr c153
                                          clear c153
                                          have H' := Aside0.mk H
                                          clear H
                                          have p525 : 0 ≤ (x437_4 : Int) := of_decide_eq_true (by first | (with_reducible assumption) | assumption)
                                          have q525 : x437_4 < (y522.length : Int) := of_decide_eq_true (by first | (with_reducible assumption) | assumption)
                                          obtain ⟨ad525, e525, hx525_0⟩ := Kd.at_int (Kd.R_reads' HO_435.out).2.2 x437_4 p525 q525
                                          cases e525
                                          replace p525 := eq_true p525
                                          replace q525 := eq_true q525
                                          have p526 : 0 ≤ (x437_4 : Int) := of_decide_eq_true (by first | (with_reducible assumption) | assumption)
                                          have q526 : x437_4 < (t496.length : Int) := of_decide_eq_true (by first | (with_reducible assumption) | assumption)
                                          obtain ⟨ad526, e526, hx526_0⟩ := Kd.at_int (Kd.R_reads' HO_48.out).2.2 x437_4 p526 q526
                                          cases e526
                                          replace p526 := eq_true p526
                                          replace q526 := eq_true q526
                                          go_wp2
                                          repeat (go_quiet (fail); try go_wp2)
                                          refine Handed.intro k4 ?measure ?_
                                          rotate_left
                                          go_step
                                          (repeat with_reducible apply ex32_)
                                          (repeat apply Exists.intro)
                                          refine ⟨?rel, rfl⟩
                                          case measure => have := HJ28.out; have := HJ117.out; have := HJ139.out; have := HK4.out; omega
                                          case rel => exact ⟨(wrap64 (x437_4 + 1)), (by first | rfl | (simp; done) | (simp [*]; done)), H', ⟨by have := HJ28.out; have := HJ117.out; have := HJ139.out; have := HK4.out; omega⟩, ⟨by (with_reducible repeat (first | apply Kd.R_alloc | apply Kd.R_drewN | apply Kd.R_drew)); exact HO_48.out⟩, ⟨by (with_reducible repeat (first | apply Kd.R_alloc | apply Kd.R_drewN | apply Kd.R_drew)); exact HO_54.out⟩, ⟨by (with_reducible repeat (first | apply Kd.R_alloc | apply Kd.R_drewN | apply Kd.R_drew)); exact HO_435.out⟩, ⟨by repeat (first | (with_reducible first | exact HB.out | apply below_alloc | apply pw_below_drewN | apply below_drew1) | exact HB.out)⟩⟩
                                         ·rw [if_neg c153] at H
                                          have c153b0 : ((rd t496 x437_4) == (rd y522 x437_4)) = false := beq_eq_false_iff_ne.mpr c153
                                          have c153b1 : ((rd t496 x437_4) != (rd y522 x437_4)) = true := bne_iff_ne.mpr c153
                                          exact absurd (Option.some.inj H) (by rw [HRT.out]; decide)
                                        ·rw [if_neg c152] at H
                                         exact absurd H (by simp)
                                      ·as_aux_lemma =>
                                       rw [if_neg c150] at H
                                       have c150b0 : decide ((rd y522 x437_4) ≤ t495) = false := decide_eq_false c150
                                       clear c150
                                       have H' := Aside0.mk H
                                       clear H
                                       have p525 : 0 ≤ (x437_4 : Int) := of_decide_eq_true (by first | (with_reducible assumption) | assumption)
                                       have q525 : x437_4 < (y522.length : Int) := of_decide_eq_true (by first | (with_reducible assumption) | assumption)
                                       obtain ⟨ad525, e525, hx525_0⟩ := Kd.at_int (Kd.R_reads' HO_435.out).2.2 x437_4 p525 q525
                                       cases e525
                                       replace p525 := eq_true p525
                                       replace q525 := eq_true q525
                                       go_wp2
                                       repeat (go_quiet (fail); try go_wp2)
                                       refine Handed.intro k4 ?measure ?_
                                       rotate_left
                                       go_step
                                       (repeat with_reducible apply ex32_)
                                       (repeat apply Exists.intro)
                                       refine ⟨?rel, rfl⟩
                                       case measure => have := HJ28.out; have := HJ117.out; have := HJ139.out; have := HK4.out; omega
                                       case rel => exact ⟨(wrap64 (x437_4 + 1)), (by first | rfl | (simp; done) | (simp [*]; done)), H', ⟨by have := HJ28.out; have := HJ117.out; have := HJ139.out; have := HK4.out; omega⟩, ⟨by (with_reducible repeat (first | apply Kd.R_alloc | apply Kd.R_drewN | apply Kd.R_drew)); exact HO_48.out⟩, ⟨by (with_reducible repeat (first | apply Kd.R_alloc | apply Kd.R_drewN | apply Kd.R_drew)); exact HO_54.out⟩, ⟨by (with_reducible repeat (first | apply Kd.R_alloc | apply Kd.R_drewN | apply Kd.R_drew)); exact HO_435.out⟩, ⟨by repeat (first | (with_reducible first | exact HB.out | apply below_alloc | apply pw_below_drewN | apply below_drew1) | exact HB.out)⟩⟩
                                     ·rw [if_neg c149] at H
                                      exact absurd H (by simp)
                                    ·rw [if_neg c148] at H
                                     exact absurd H (by simp)
                                   ·rw [if_neg c147] at H
                                    have c147b0 : decide (x437_4 < (y522.length : Int)) = false := decide_eq_false c147
                                    clear c147
                                    (first | rw [c147b0] | (simp only [i64_w, i32_w]; rw [c147b0]) | skip)
                                    have H' := Aside0.mk H
                                    clear H
                                    go_wp2
                                    repeat (go_quiet (fail); try go_wp2)
                                    refine Met.intro ?_
                                    go_step
                                    (repeat with_reducible apply ex32_)
                                    (repeat apply Exists.intro)
                                    refine ⟨?rel, rfl⟩
                                    case rel => exact ⟨_, H', ⟨by have := HJ28.out; have := HJ117.out; have := HJ139.out; have := HK4.out; first | omega | exact Nat.le_refl _⟩, ⟨by (with_reducible repeat (first | apply Kd.R_alloc | apply Kd.R_drewN | apply Kd.R_drew)); exact Kd.R_mono HO_54.out (fun _ hk => trivial)⟩, ⟨by repeat (first | (with_reducible first | exact HB.out | apply below_alloc | apply pw_below_drewN | apply below_drew1) | exact HB.out)⟩⟩
                                ·as_aux_lemma =>
                                 replace c143 := Bool.eq_false_iff.mpr c143
                                 subst c143
                                 have H1 : (laws_FnLuckyNumbers.j9 kj139 t504 t505 t506 t507 t514) = some r := by rw [if_neg (show ¬ (false = true) by decide)] at H; exact H
                                 clear H
                                 have H := H1
                                 clear H1
                                 have H' := Aside0.mk H
                                 clear H
                                 go_wp2
                                 repeat (go_quiet (fail); try go_wp2)
                                 refine Met.intro ?_
                                 go_step
                                 (repeat with_reducible apply ex32_)
                                 (repeat apply Exists.intro)
                                 refine ⟨?rel, rfl⟩
                                 case rel => exact ⟨_, H', ⟨by have := HJ28.out; have := HJ117.out; have := HJ139.out; first | omega | exact Nat.le_refl _⟩, ⟨by (with_reducible repeat (first | apply Kd.R_alloc | apply Kd.R_drewN | apply Kd.R_drew)); exact Kd.R_mono HO_54.out (fun _ hk => trivial)⟩, ⟨by repeat (first | (with_reducible first | exact HB.out | apply below_alloc | apply pw_below_drewN | apply below_drew1) | exact HB.out)⟩⟩
                               case rest => as_aux_lemma =>
                                clear HC142
                                obtain ⟨kq, HA, HJ141, HO_54, HB⟩ := hcut
                                cases kq with
                                | zero => exact absurd HA.out (by simp [laws_FnLuckyNumbers.j9])
                                | succ kj141 =>
                                 have H := HA.out
                                 clear HA
                                 simp only [laws_FnLuckyNumbers.j9] at H
                                 by_cases c154 : t507 = true
                                 ·subst c154
                                  have H1 : (if (t506.length : Int) = t504 then (if 0 ≤ (wrap64 (t504 - 1)) then (if (wrap64 (t504 - 1)) < (t506.length : Int) then (if (rd t506 (wrap64 (t504 - 1))) = t514 then (if 0 < (t506.length : Int) then (if t504 = 0 then (none) else (if (rd t506 0) = (wrap64 ((Int.tmod (wrap64 (t505 - 1)) t504) + 1)) then (laws_FnLuckyNumbers.l5 kj141 t504 t506 1) else (some false))) else (none)) else (some false)) else (none)) else (none)) else (some false)) = some r := by rw [if_pos rfl] at H; exact H
                                  clear H
                                  have H := H1
                                  clear H1
                                  by_cases c155 : (t506.length : Int) = t504
                                  ·rw [if_pos c155] at H
                                   have c155b0 : ((t506.length : Int) == t504) = true := beq_iff_eq.mpr c155
                                   have c155b1 : ((t506.length : Int) != t504) = false := bne_eq_false_iff_eq.mpr c155
                                   clear c155
                                   obtain ⟨ji156, hji156⟩ : ∃ j_ : Int, (wrap64 (t504 - 1)) = j_ := ⟨_, rfl⟩
                                   replace H : (if 0 ≤ (ji156) then (if (ji156) < (t506.length : Int) then (if (rd t506 (ji156)) = t514 then (if 0 < (t506.length : Int) then (if t504 = 0 then (none) else (if (rd t506 0) = (wrap64 ((Int.tmod (wrap64 (t505 - 1)) t504) + 1)) then (laws_FnLuckyNumbers.l5 kj141 t504 t506 1) else (some false))) else (none)) else (some false)) else (none)) else (none)) = some r := by first | (rw [hji156] at H; exact H) | (simp only [hji156] at H ⊢; exact H)
                                   have hji156w : (IntKind.i64.wrap (t504 - 1)) = ji156 := (i64_w _).trans hji156
                                   by_cases c157 : 0 ≤ (ji156)
                                   ·rw [if_pos c157] at H
                                    have c157b0 : decide (0 ≤ (ji156)) = true := decide_eq_true c157
                                    clear c157
                                    by_cases c158 : (ji156) < (t506.length : Int)
                                    ·as_aux_lemma =>
                                     rw [if_pos c158] at H
                                     have c158b0 : decide ((ji156) < (t506.length : Int)) = true := decide_eq_true c158
                                     clear c158
                                     by_cases c159 : (rd t506 (ji156)) = t514
                                     ·rw [if_pos c159] at H
                                      have c159b0 : ((rd t506 (ji156)) == t514) = true := beq_iff_eq.mpr c159
                                      have c159b1 : ((rd t506 (ji156)) != t514) = false := bne_eq_false_iff_eq.mpr c159
                                      clear c159
                                      by_cases c160 : 0 < (t506.length : Int)
                                      ·rw [if_pos c160] at H
                                       have c160b0 : decide (0 < (t506.length : Int)) = true := decide_eq_true c160
                                       have c160b1 : decide (0 < t506.length) = true := decide_eq_true (by omega)
                                       clear c160
                                       by_cases c161 : t504 = 0
                                       ·rw [if_pos c161] at H
                                        exact absurd H (by simp)
                                       ·rw [if_neg c161] at H
                                        have c161b0 : (t504 == 0) = false := beq_eq_false_iff_ne.mpr c161
                                        have c161b1 : (t504 != 0) = true := bne_iff_ne.mpr c161
                                        by_cases c162 : (rd t506 0) = (wrap64 ((Int.tmod (wrap64 (t505 - 1)) t504) + 1))
                                        ·rw [if_pos c162] at H
                                         have c162b0 : ((rd t506 0) == (wrap64 ((Int.tmod (wrap64 (t505 - 1)) t504) + 1))) = true := beq_iff_eq.mpr c162
                                         have c162b1 : ((rd t506 0) != (wrap64 ((Int.tmod (wrap64 (t505 - 1)) t504) + 1))) = false := bne_eq_false_iff_eq.mpr c162
                                         clear c162
                                         have H' := Aside0.mk H
                                         clear H
                                         have p527 : 0 ≤ ((ji156) : Int) := of_decide_eq_true (by first | (with_reducible assumption) | assumption)
                                         have q527 : (ji156) < (t506.length : Int) := of_decide_eq_true (by first | (with_reducible assumption) | assumption)
                                         obtain ⟨ad527, e527, hx527_0⟩ := Kd.at_int (Kd.R_reads' HO_54.out).2.2 (ji156) p527 q527
                                         cases e527
                                         replace p527 := eq_true p527
                                         replace q527 := eq_true q527
                                         have p528 : 0 ≤ (0 : Int) := (by omega)
                                         have q528 : 0 < (t506.length : Int) := of_decide_eq_true (by first | (with_reducible assumption) | assumption)
                                         obtain ⟨ad528, e528, hx528_0⟩ := Kd.at_int (Kd.R_reads' HO_54.out).2.2 0 p528 q528
                                         obtain rfl : ad527 = ad528 := (by injection e528)
                                         have qi528 : (0 < t506.length) = True := eq_true (by omega)
                                         (try rw [show ((0 : Int)).toNat = 0 from rfl] at hx528_0)
                                         (try rw [Addr.add_zero'] at hx528_0)
                                         replace p528 := eq_true p528
                                         replace q528 := eq_true q528
                                         go_wp2
                                         repeat (go_quiet (fail); try go_wp2)
                                         as_aux_lemma =>
                                         go_loopg [64] kj141 (fun kq v64 w' => ∃ (x64_5 : Int), v64 = .int .i64 x64_5 ∧ Aside0 (laws_FnLuckyNumbers.l5 kq t504 t506 x64_5 = some r) ∧ Aside0 (kq ≤ kj141) ∧ Aside0 (Kd.R (Kd.int .i64) 3 w' w.heap.size (fun _ => True) (.slice (some ad527) t506.length co131) t506) ∧ Aside0 (Below w.heap.size w w'))
                                         case atStart => exact ⟨(1), (by first | rfl | (simp; done) | (simp [*]; done)), H', ⟨Nat.le_refl _⟩, ⟨by (with_reducible repeat (first | apply Kd.R_alloc | apply Kd.R_drewN | apply Kd.R_drew)); exact HO_54.out⟩, ⟨by repeat (first | (with_reducible first | exact HB.out | apply below_alloc | apply pw_below_drewN | apply below_drew1) | exact HB.out)⟩⟩
                                         case round => as_aux_lemma =>
                                          clear H'
                                          obtain ⟨x64_5, rfl, HA, HK5, HO_54, HB⟩ := hrel
                                          cases gk with
                                          | zero => exact absurd HA.out (by simp [laws_FnLuckyNumbers.l5])
                                          | succ k5 =>
                                           have H := HA.out
                                           clear HA
                                           simp only [laws_FnLuckyNumbers.l5] at H
                                           by_cases c163 : x64_5 ≤ t504
                                           ·rw [if_pos c163] at H
                                            have c163b0 : decide (x64_5 ≤ t504) = true := decide_eq_true c163
                                            clear c163
                                            replace H := Option.bind_eq_some_iff.mp H
                                            obtain ⟨t529, A1640, H⟩ := H
                                            replace H : (if t529 = true then (laws_FnLuckyNumbers.l5 k5 t504 t506 (wrap64 (x64_5 + 1))) else (some false)) = some r := H
                                            have A164 := Aside0.mk A1640
                                            clear A1640
                                            by_cases c165 : t529 = true
                                            ·subst c165
                                             have H1 : (laws_FnLuckyNumbers.l5 k5 t504 t506 (wrap64 (x64_5 + 1))) = some r := by rw [if_pos rfl] at H; exact H
                                             clear H
                                             have H := H1
                                             clear H1
                                             have H' := Aside0.mk H
                                             clear H
                                             go_wp2_with (first | (go_at_call 22; (with_reducible refine (laws_tHas.calls k5 _ _ t506 x64_5 true _ ?side1 ?side2 A164.out).mono ?_); (case side1 => repeat (first | exact (Kd.R_reads' HO_54.out).2.2 | (with_reducible refine Kd.C_alloc ?_ _) | (with_reducible refine Kd.C_drewN ?_ _) | (with_reducible refine Kd.C_drew ?_))); (case side2 => exact (Kd.R_reads' HO_54.out).2.1); rintro e w' ⟨rfl, ⟨nd, rfl⟩⟩; (try first | exact ⟨rfl, _, World.drewN_drewN _ _ _⟩ | exact ⟨rfl, _, Eq.trans (World.drewN_drewN _ _ _) (congrArg (World.drewN _) (Nat.add_assoc _ _ _))⟩)))
                                             refine Handed.intro k5 ?measure ?_
                                             rotate_left
                                             go_step
                                             (repeat with_reducible apply ex32_)
                                             (repeat apply Exists.intro)
                                             refine ⟨?rel, rfl⟩
                                             case measure => have := HJ28.out; have := HJ117.out; have := HJ139.out; have := HJ141.out; have := HK5.out; omega
                                             case rel => exact ⟨(wrap64 (x64_5 + 1)), (by first | rfl | (simp; done) | (simp [*]; done)), H', ⟨by have := HJ28.out; have := HJ117.out; have := HJ139.out; have := HJ141.out; have := HK5.out; omega⟩, ⟨by (with_reducible repeat (first | apply Kd.R_alloc | apply Kd.R_drewN | apply Kd.R_drew)); exact HO_54.out⟩, ⟨by repeat (first | (with_reducible first | exact HB.out | apply below_alloc | apply pw_below_drewN | apply below_drew1) | exact HB.out)⟩⟩
                                            ·replace c165 := Bool.eq_false_iff.mpr c165
                                             subst c165
                                             have H1 : (some false) = some r := by rw [if_neg (show ¬ (false = true) by decide)] at H; exact H
                                             clear H
                                             have H := H1
                                             clear H1
                                             exact absurd (Option.some.inj H) (by rw [HRT.out]; decide)
                                           ·rw [if_neg c163] at H
                                            have c163b0 : decide (x64_5 ≤ t504) = false := decide_eq_false c163
                                            clear c163
                                            obtain rfl := Option.some.inj H
                                            go_wp2
                                            repeat (go_quiet (fail); try go_wp2)
                                            go_ret
                                            exact ⟨by first | rfl | (simp [errW_none, errW_some] <;> rfl) | (simp only [← hji156]; first | rfl | (simp [errW_none, errW_some] <;> rfl)) | (simp [*, errW_none, errW_some] <;> rfl), by repeat (first | (with_reducible first | exact HB.out | apply below_alloc | apply pw_below_drewN | apply below_drew1) | exact HB.out)⟩
                                        ·rw [if_neg c162] at H
                                         have c162b0 : ((rd t506 0) == (wrap64 ((Int.tmod (wrap64 (t505 - 1)) t504) + 1))) = false := beq_eq_false_iff_ne.mpr c162
                                         have c162b1 : ((rd t506 0) != (wrap64 ((Int.tmod (wrap64 (t505 - 1)) t504) + 1))) = true := bne_iff_ne.mpr c162
                                         exact absurd (Option.some.inj H) (by rw [HRT.out]; decide)
                                      ·rw [if_neg c160] at H
                                       exact absurd H (by simp)
                                     ·rw [if_neg c159] at H
                                      have c159b0 : ((rd t506 (ji156)) == t514) = false := beq_eq_false_iff_ne.mpr c159
                                      have c159b1 : ((rd t506 (ji156)) != t514) = true := bne_iff_ne.mpr c159
                                      exact absurd (Option.some.inj H) (by rw [HRT.out]; decide)
                                    ·rw [if_neg c158] at H
                                     exact absurd H (by simp)
                                   ·rw [if_neg c157] at H
                                    exact absurd H (by simp)
                                  ·rw [if_neg c155] at H
                                   have c155b0 : ((t506.length : Int) == t504) = false := beq_eq_false_iff_ne.mpr c155
                                   have c155b1 : ((t506.length : Int) != t504) = true := bne_iff_ne.mpr c155
                                   exact absurd (Option.some.inj H) (by rw [HRT.out]; decide)
                                 ·replace c154 := Bool.eq_false_iff.mpr c154
                                  subst c154
                                  have H1 : (some true) = some r := by rw [if_neg (show ¬ (false = true) by decide)] at H; exact H
                                  clear H
                                  have H := H1
                                  clear H1
                                  obtain rfl := Option.some.inj H
                                  go_wp2
                                  repeat (go_quiet (fail); try go_wp2)
                                  go_ret
                                  exact ⟨by first | rfl | (simp [errW_none, errW_some] <;> rfl) | (simp [*, errW_none, errW_some] <;> rfl), by repeat (first | (with_reducible first | exact HB.out | apply below_alloc | apply pw_below_drewN | apply below_drew1) | exact HB.out)⟩
                        ·rw [if_neg c116] at H
                         have c116b0 : (t514 == t516) = false := beq_eq_false_iff_ne.mpr c116
                         have c116b1 : (t514 != t516) = true := bne_iff_ne.mpr c116
                         exact absurd (Option.some.inj H) (by rw [HRT.out]; decide)
                      ·replace c114 := Bool.eq_false_iff.mpr c114
                       subst c114
                       have H1 : (some false) = some r := by rw [if_neg (show ¬ (false = true) by decide)] at H; exact H
                       clear H
                       have H := H1
                       clear H1
                       exact absurd (Option.some.inj H) (by rw [HRT.out]; decide)
                    ·replace c111 := Bool.eq_false_iff.mpr c111
                     subst c111
                     have H1 : (some false) = some r := by rw [if_neg (show ¬ (false = true) by decide)] at H; exact H
                     clear H
                     have H := H1
                     clear H1
                     exact absurd (Option.some.inj H) (by rw [HRT.out]; decide)
                  ·rw [if_neg c108] at H
                   have c108b0 : (t490 == t492) = false := beq_eq_false_iff_ne.mpr c108
                   have c108b1 : (t490 != t492) = true := bne_iff_ne.mpr c108
                   exact absurd (Option.some.inj H) (by rw [HRT.out]; decide)
         ·replace c25 := Bool.eq_false_iff.mpr c25
          subst c25
          have H1 : (some false) = some r := by rw [if_neg (show ¬ (false = true) by decide)] at H; exact H
          clear H
          have H := H1
          clear H1
          exact absurd (Option.some.inj H) (by rw [HRT.out]; decide)
       ·replace c22 := Bool.eq_false_iff.mpr c22
        subst c22
        have H1 : (some false) = some r := by rw [if_neg (show ¬ (false = true) by decide)] at H; exact H
        clear H
        have H := H1
        clear H1
        exact absurd (Option.some.inj H) (by rw [HRT.out]; decide)
     ·replace c19 := Bool.eq_false_iff.mpr c19
      subst c19
      have H1 : (some false) = some r := by rw [if_neg (show ¬ (false = true) by decide)] at H; exact H
      clear H
      have H := H1
      clear H1
      exact absurd (Option.some.inj H) (by rw [HRT.out]; decide)
   ·replace c16 := Bool.eq_false_iff.mpr c16
    subst c16
    have H1 : (some false) = some r := by rw [if_neg (show ¬ (false = true) by decide)] at H; exact H
    clear H
    have H := H1
    clear H1
    exact absurd (Option.some.inj H) (by rw [HRT.out]; decide)

/-- THE ONE PURE STATEMENT of laws_FnLuckyNumbers: yours. -/
theorem laws_FnLuckyNumbers.walk (P : laws_FnLuckyNumbers.Pure) (a0 : Option Addr) (len0 cap0 : Nat) (z0 : List Int) (a1 : Option Addr) (len1 cap1 : Nat) (z1 : List Int) (w : World) (w0 : (a0 = none ∧ len0 = 0 ∧ cap0 = 0 ∧ z0 = []) ∨ ∃ x, a0 = some x ∧ len0 ≤ cap0 ∧ cap0 ≤ maxLen ∧ z0.length = cap0 ∧ (∀ i, i < z0.length → w.cell? (x.add i) = some (.int .u8 (z0.getD i 0))) ∧ ∀ n ∈ z0, (Lit.int .u8 n).wf = true) (y0 : len0 * 1 ≤ 140737488351232) (w1 : (a1 = none ∧ len1 = 0 ∧ cap1 = 0 ∧ z1 = []) ∨ ∃ x, a1 = some x ∧ len1 ≤ cap1 ∧ cap1 ≤ maxLen ∧ z1.length = cap1 ∧ (∀ i, i < z1.length → w.cell? (x.add i) = some (.int .u8 (z1.getD i 0))) ∧ ∀ n ∈ z1, (Lit.int .u8 n).wf = true) (y1 : len1 * 1 ≤ 140737488351232) :
    Calls Try.prog 6 #[.slice a0 len0 cap0, .slice a1 len1 cap1] w fun e w' => e = .returned (.bool true) ∧ Below w.heap.size w w' := by
  obtain ⟨l0, rfl, hr0, hm0, hw0, hc0⟩ := ReadsInt.ofRowC w0
  obtain ⟨l1, rfl, hr1, hm1, hw1, hc1⟩ := ReadsInt.ofRowC w1
  obtain ⟨k, h⟩ := P l0 l1 hm0 y0 hw0 hm1 y1 hw1
  refine (laws_FnLuckyNumbers.calls k _ _ l0 _ _ l1 true w (Kd.C_of_reads (d := (0 : Int)) (h1 := fun _ => rfl) hr0) hc0 (Kd.C_of_reads (d := (0 : Int)) (h1 := fun _ => rfl) hr1) hc1 h rfl).mono ?_
  rintro e w' ⟨rfl, hd⟩
  exact ⟨rfl, hd⟩

end Go.Proofs.Ytnhlhfkpkpbekaa.PFnLuckyNumbers
