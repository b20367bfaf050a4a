-- Written by a turned copy of the printer, for this claim
import Derived.Test.YtnhlhfkpkpbekaaPFnLuckyNumbersOfAllx7
namespace Go.Proofs.Ytnhlhfkpkpbekaa.PFnLuckyNumbersOfAll
open Go.RowKit Go.Proofs.YtnhlhfkpkpbekaaW.PrintWords Go.Proofs.YtnhlhfkpkpbekaaW.PrintLast Go.Proofs.YtnhlhfkpkpbekaaW.PrintMore
attribute [local go_sem] max2_int min2_int max_two min_two max_three min_three max_four min_four   -- for this text's walks alone
set_option linter.unusedVariables false
set_option linter.unusedSimpArgs false

/-- So many values at once. -/
theorem ex32_ {V : Type} {P : V → V → V → V → V → V → V → V → V → V → V → V → V → V → V → V → V → V → V → V → V → V → V → V → V → V → V → V → V → V → V → V → Prop} (a0 a1 a2 a3 a4 a5 a6 a7 a8 a9 a10 a11 a12 a13 a14 a15 a16 a17 a18 a19 a20 a21 a22 a23 a24 a25 a26 a27 a28 a29 a30 a31 : V) (h : P a0 a1 a2 a3 a4 a5 a6 a7 a8 a9 a10 a11 a12 a13 a14 a15 a16 a17 a18 a19 a20 a21 a22 a23 a24 a25 a26 a27 a28 a29 a30 a31) : ∃ a0 a1 a2 a3 a4 a5 a6 a7 a8 a9 a10 a11 a12 a13 a14 a15 a16 a17 a18 a19 a20 a21 a22 a23 a24 a25 a26 a27 a28 a29 a30 a31, P a0 a1 a2 a3 a4 a5 a6 a7 a8 a9 a10 a11 a12 a13 a14 a15 a16 a17 a18 a19 a20 a21 a22 a23 a24 a25 a26 a27 a28 a29 a30 a31 := ⟨a0, a1, a2, a3, a4, a5, a6, a7, a8, a9, a10, a11, a12, a13, a14, a15, a16, a17, a18, a19, a20, a21, a22, a23, a24, a25, a26, a27, a28, a29, a30, a31, h⟩

set_option maxHeartbeats 80000000 in
set_option maxRecDepth 100000 in
theorem laws_FnLuckyNumbersOfAll.calls (k : Nat) (a0 : Int) (a1 : Int) (a2 : Int) (a3 : Int) (a4 : Int) (a5 : Int) (a6 : Int) (r : Bool) (w : World) (h : laws_FnLuckyNumbersOfAll.f k a0 a1 a2 a3 a4 a5 a6 = some r) (hr : r = true) :
  Calls Try.prog 5 #[.int .i64 a0, .int .i64 a1, .int .i64 a2, .int .i64 a3, .int .i64 a4, .int .i64 a5, .int .i64 a6] w fun e w' => e = .returned (.bool r) ∧ Below w.heap.size w w' := by
 have HRT := Aside0.mk hr
 clear hr
 have HB := Aside0.mk (Below.refl w.heap.size w)
 have H : ((impl_Lucky.f k a0).bind fun bt341 => ((spec_Lucky.f k a0).bind fun bt345 => ((impl_LuckySteps.f k a0).bind fun bt349 => ((spec_LuckySteps.f k a0).bind fun bt353 => ((impl_EvenLucky.f k a0).bind fun bt357 => ((spec_EvenLucky.f k a0).bind fun bt361 => ((impl_RisingSieve.f k a0).bind fun bt365 => ((spec_RisingSieve.f k a0).bind fun bt369 => (if (bt341.2 != bt345.2) = true then (some false) else ((laws_tSame.f k bt341.1 bt345.1).bind fun t373 => (if t373 = true then (if (bt349.2 != bt353.2) = true then (some false) else ((laws_tSame.f k bt349.1 bt353.1).bind fun t374 => (if t374 = true then (if (bt357.2 != bt361.2) = true then (some false) else ((laws_tSame.f k bt357.1 bt361.1).bind fun t375 => (if t375 = true then (if (bt365.2 != bt369.2) = true then (some false) else ((laws_tSame.f k bt365.1 bt369.1).bind fun t376 => (if t376 = true then (if (bt349.2 != bt341.2) = true then (some false) else (if (bt357.2 != bt341.2) = true then (some false) else (if (bt365.2 != bt341.2) = true then (some false) else (if bt341.2 = true then ((laws_tRises.f k bt341.1 1 a0).bind fun t377 => (if t377 = true then ((laws_tRises.f k bt357.1 2 a0).bind fun t378 => (if t378 = true then ((laws_tRises.f k bt365.1 1 a0).bind fun t379 => (if t379 = true then (if (bt349.1.length : Int) ≤ 12 then ((impl_LeftByCounting.f k bt349.1 a0).bind fun bt380 => (if bt380.2 = true then ((laws_tSame.f k bt380.1 bt341.1).bind fun t384 => (if t384 = true then (laws_FnLuckyNumbersOfAll.j0 k a1 a2 a3 a4 a5 a6 bt341.1 bt349.1 bt357.1 bt365.1) else (some false))) else (some false))) else (laws_FnLuckyNumbersOfAll.j0 k a1 a2 a3 a4 a5 a6 bt341.1 bt349.1 bt357.1 bt365.1)) else (some false))) else (some false))) else (some false))) else (laws_FnLuckyNumbersOfAll.j5 k a1 a2 a3 a4 a5 a6))))) else (some false)))) else (some false)))) else (some false)))) else (some false)))))))))))) = some r := h
 clear h
 replace H := Option.bind_eq_some_iff.mp H
 obtain ⟨⟨t341, t342⟩, A80, H⟩ := H
 replace H : ((spec_Lucky.f k a0).bind fun bt345 => ((impl_LuckySteps.f k a0).bind fun bt349 => ((spec_LuckySteps.f k a0).bind fun bt353 => ((impl_EvenLucky.f k a0).bind fun bt357 => ((spec_EvenLucky.f k a0).bind fun bt361 => ((impl_RisingSieve.f k a0).bind fun bt365 => ((spec_RisingSieve.f k a0).bind fun bt369 => (if (t342 != bt345.2) = true then (some false) else ((laws_tSame.f k t341 bt345.1).bind fun t373 => (if t373 = true then (if (bt349.2 != bt353.2) = true then (some false) else ((laws_tSame.f k bt349.1 bt353.1).bind fun t374 => (if t374 = true then (if (bt357.2 != bt361.2) = true then (some false) else ((laws_tSame.f k bt357.1 bt361.1).bind fun t375 => (if t375 = true then (if (bt365.2 != bt369.2) = true then (some false) else ((laws_tSame.f k bt365.1 bt369.1).bind fun t376 => (if t376 = true then (if (bt349.2 != t342) = true then (some false) else (if (bt357.2 != t342) = true then (some false) else (if (bt365.2 != t342) = true then (some false) else (if t342 = true then ((laws_tRises.f k t341 1 a0).bind fun t377 => (if t377 = true then ((laws_tRises.f k bt357.1 2 a0).bind fun t378 => (if t378 = true then ((laws_tRises.f k bt365.1 1 a0).bind fun t379 => (if t379 = true then (if (bt349.1.length : Int) ≤ 12 then ((impl_LeftByCounting.f k bt349.1 a0).bind fun bt380 => (if bt380.2 = true then ((laws_tSame.f k bt380.1 t341).bind fun t384 => (if t384 = true then (laws_FnLuckyNumbersOfAll.j0 k a1 a2 a3 a4 a5 a6 t341 bt349.1 bt357.1 bt365.1) else (some false))) else (some false))) else (laws_FnLuckyNumbersOfAll.j0 k a1 a2 a3 a4 a5 a6 t341 bt349.1 bt357.1 bt365.1)) else (some false))) else (some false))) else (some false))) else (laws_FnLuckyNumbersOfAll.j5 k a1 a2 a3 a4 a5 a6))))) else (some false)))) else (some false)))) else (some false)))) else (some false))))))))))) = some r := H
 have A8 := Aside0.mk A80
 clear A80
 replace H := Option.bind_eq_some_iff.mp H
 obtain ⟨⟨t345, t346⟩, A90, H⟩ := H
 replace H : ((impl_LuckySteps.f k a0).bind fun bt349 => ((spec_LuckySteps.f k a0).bind fun bt353 => ((impl_EvenLucky.f k a0).bind fun bt357 => ((spec_EvenLucky.f k a0).bind fun bt361 => ((impl_RisingSieve.f k a0).bind fun bt365 => ((spec_RisingSieve.f k a0).bind fun bt369 => (if (t342 != t346) = true then (some false) else ((laws_tSame.f k t341 t345).bind fun t373 => (if t373 = true then (if (bt349.2 != bt353.2) = true then (some false) else ((laws_tSame.f k bt349.1 bt353.1).bind fun t374 => (if t374 = true then (if (bt357.2 != bt361.2) = true then (some false) else ((laws_tSame.f k bt357.1 bt361.1).bind fun t375 => (if t375 = true then (if (bt365.2 != bt369.2) = true then (some false) else ((laws_tSame.f k bt365.1 bt369.1).bind fun t376 => (if t376 = true then (if (bt349.2 != t342) = true then (some false) else (if (bt357.2 != t342) = true then (some false) else (if (bt365.2 != t342) = true then (some false) else (if t342 = true then ((laws_tRises.f k t341 1 a0).bind fun t377 => (if t377 = true then ((laws_tRises.f k bt357.1 2 a0).bind fun t378 => (if t378 = true then ((laws_tRises.f k bt365.1 1 a0).bind fun t379 => (if t379 = true then (if (bt349.1.length : Int) ≤ 12 then ((impl_LeftByCounting.f k bt349.1 a0).bind fun bt380 => (if bt380.2 = true then ((laws_tSame.f k bt380.1 t341).bind fun t384 => (if t384 = true then (laws_FnLuckyNumbersOfAll.j0 k a1 a2 a3 a4 a5 a6 t341 bt349.1 bt357.1 bt365.1) else (some false))) else (some false))) else (laws_FnLuckyNumbersOfAll.j0 k a1 a2 a3 a4 a5 a6 t341 bt349.1 bt357.1 bt365.1)) else (some false))) else (some false))) else (some false))) else (laws_FnLuckyNumbersOfAll.j5 k a1 a2 a3 a4 a5 a6))))) else (some false)))) else (some false)))) else (some false)))) else (some false)))))))))) = some r := H
 have A9 := Aside0.mk A90
 clear A90
 replace H := Option.bind_eq_some_iff.mp H
 obtain ⟨⟨t349, t350⟩, A100, H⟩ := H
 replace H : ((spec_LuckySteps.f k a0).bind fun bt353 => ((impl_EvenLucky.f k a0).bind fun bt357 => ((spec_EvenLucky.f k a0).bind fun bt361 => ((impl_RisingSieve.f k a0).bind fun bt365 => ((spec_RisingSieve.f k a0).bind fun bt369 => (if (t342 != t346) = true then (some false) else ((laws_tSame.f k t341 t345).bind fun t373 => (if t373 = true then (if (t350 != bt353.2) = true then (some false) else ((laws_tSame.f k t349 bt353.1).bind fun t374 => (if t374 = true then (if (bt357.2 != bt361.2) = true then (some false) else ((laws_tSame.f k bt357.1 bt361.1).bind fun t375 => (if t375 = true then (if (bt365.2 != bt369.2) = true then (some false) else ((laws_tSame.f k bt365.1 bt369.1).bind fun t376 => (if t376 = true then (if (t350 != t342) = true then (some false) else (if (bt357.2 != t342) = true then (some false) else (if (bt365.2 != t342) = true then (some false) else (if t342 = true then ((laws_tRises.f k t341 1 a0).bind fun t377 => (if t377 = true then ((laws_tRises.f k bt357.1 2 a0).bind fun t378 => (if t378 = true then ((laws_tRises.f k bt365.1 1 a0).bind fun t379 => (if t379 = true then (if (t349.length : Int) ≤ 12 then ((impl_LeftByCounting.f k t349 a0).bind fun bt380 => (if bt380.2 = true then ((laws_tSame.f k bt380.1 t341).bind fun t384 => (if t384 = true then (laws_FnLuckyNumbersOfAll.j0 k a1 a2 a3 a4 a5 a6 t341 t349 bt357.1 bt365.1) else (some false))) else (some false))) else (laws_FnLuckyNumbersOfAll.j0 k a1 a2 a3 a4 a5 a6 t341 t349 bt357.1 bt365.1)) else (some false))) else (some false))) else (some false))) else (laws_FnLuckyNumbersOfAll.j5 k a1 a2 a3 a4 a5 a6))))) else (some false)))) else (some false)))) else (some false)))) else (some false))))))))) = some r := H
 have A10 := Aside0.mk A100
 clear A100
 replace H := Option.bind_eq_some_iff.mp H
 obtain ⟨⟨t353, t354⟩, A110, H⟩ := H
 replace H : ((impl_EvenLucky.f k a0).bind fun bt357 => ((spec_EvenLucky.f k a0).bind fun bt361 => ((impl_RisingSieve.f k a0).bind fun bt365 => ((spec_RisingSieve.f k a0).bind fun bt369 => (if (t342 != t346) = true then (some false) else ((laws_tSame.f k t341 t345).bind fun t373 => (if t373 = true then (if (t350 != t354) = true then (some false) else ((laws_tSame.f k t349 t353).bind fun t374 => (if t374 = true then (if (bt357.2 != bt361.2) = true then (some false) else ((laws_tSame.f k bt357.1 bt361.1).bind fun t375 => (if t375 = true then (if (bt365.2 != bt369.2) = true then (some false) else ((laws_tSame.f k bt365.1 bt369.1).bind fun t376 => (if t376 = true then (if (t350 != t342) = true then (some false) else (if (bt357.2 != t342) = true then (some false) else (if (bt365.2 != t342) = true then (some false) else (if t342 = true then ((laws_tRises.f k t341 1 a0).bind fun t377 => (if t377 = true then ((laws_tRises.f k bt357.1 2 a0).bind fun t378 => (if t378 = true then ((laws_tRises.f k bt365.1 1 a0).bind fun t379 => (if t379 = true then (if (t349.length : Int) ≤ 12 then ((impl_LeftByCounting.f k t349 a0).bind fun bt380 => (if bt380.2 = true then ((laws_tSame.f k bt380.1 t341).bind fun t384 => (if t384 = true then (laws_FnLuckyNumbersOfAll.j0 k a1 a2 a3 a4 a5 a6 t341 t349 bt357.1 bt365.1) else (some false))) else (some false))) else (laws_FnLuckyNumbersOfAll.j0 k a1 a2 a3 a4 a5 a6 t341 t349 bt357.1 bt365.1)) else (some false))) else (some false))) else (some false))) else (laws_FnLuckyNumbersOfAll.j5 k a1 a2 a3 a4 a5 a6))))) else (some false)))) else (some false)))) else (some false)))) else (some false)))))))) = some r := H
 have A11 := Aside0.mk A110
 clear A110
 as_aux_lemma =>
 replace H := Option.bind_eq_some_iff.mp H
 obtain ⟨⟨t357, t358⟩, A120, H⟩ := H
 replace H : ((spec_EvenLucky.f k a0).bind fun bt361 => ((impl_RisingSieve.f k a0).bind fun bt365 => ((spec_RisingSieve.f k a0).bind fun bt369 => (if (t342 != t346) = true then (some false) else ((laws_tSame.f k t341 t345).bind fun t373 => (if t373 = true then (if (t350 != t354) = true then (some false) else ((laws_tSame.f k t349 t353).bind fun t374 => (if t374 = true then (if (t358 != bt361.2) = true then (some false) else ((laws_tSame.f k t357 bt361.1).bind fun t375 => (if t375 = true then (if (bt365.2 != bt369.2) = true then (some false) else ((laws_tSame.f k bt365.1 bt369.1).bind fun t376 => (if t376 = true then (if (t350 != t342) = true then (some false) else (if (t358 != t342) = true then (some false) else (if (bt365.2 != t342) = true then (some false) else (if t342 = true then ((laws_tRises.f k t341 1 a0).bind fun t377 => (if t377 = true then ((laws_tRises.f k t357 2 a0).bind fun t378 => (if t378 = true then ((laws_tRises.f k bt365.1 1 a0).bind fun t379 => (if t379 = true then (if (t349.length : Int) ≤ 12 then ((impl_LeftByCounting.f k t349 a0).bind fun bt380 => (if bt380.2 = true then ((laws_tSame.f k bt380.1 t341).bind fun t384 => (if t384 = true then (laws_FnLuckyNumbersOfAll.j0 k a1 a2 a3 a4 a5 a6 t341 t349 t357 bt365.1) else (some false))) else (some false))) else (laws_FnLuckyNumbersOfAll.j0 k a1 a2 a3 a4 a5 a6 t341 t349 t357 bt365.1)) else (some false))) else (some false))) else (some false))) else (laws_FnLuckyNumbersOfAll.j5 k a1 a2 a3 a4 a5 a6))))) else (some false)))) else (some false)))) else (some false)))) else (some false))))))) = some r := H
 have A12 := Aside0.mk A120
 clear A120
 replace H := Option.bind_eq_some_iff.mp H
 obtain ⟨⟨t361, t362⟩, A130, H⟩ := H
 replace H : ((impl_RisingSieve.f k a0).bind fun bt365 => ((spec_RisingSieve.f k a0).bind fun bt369 => (if (t342 != t346) = true then (some false) else ((laws_tSame.f k t341 t345).bind fun t373 => (if t373 = true then (if (t350 != t354) = true then (some false) else ((laws_tSame.f k t349 t353).bind fun t374 => (if t374 = true then (if (t358 != t362) = true then (some false) else ((laws_tSame.f k t357 t361).bind fun t375 => (if t375 = true then (if (bt365.2 != bt369.2) = true then (some false) else ((laws_tSame.f k bt365.1 bt369.1).bind fun t376 => (if t376 = true then (if (t350 != t342) = true then (some false) else (if (t358 != t342) = true then (some false) else (if (bt365.2 != t342) = true then (some false) else (if t342 = true then ((laws_tRises.f k t341 1 a0).bind fun t377 => (if t377 = true then ((laws_tRises.f k t357 2 a0).bind fun t378 => (if t378 = true then ((laws_tRises.f k bt365.1 1 a0).bind fun t379 => (if t379 = true then (if (t349.length : Int) ≤ 12 then ((impl_LeftByCounting.f k t349 a0).bind fun bt380 => (if bt380.2 = true then ((laws_tSame.f k bt380.1 t341).bind fun t384 => (if t384 = true then (laws_FnLuckyNumbersOfAll.j0 k a1 a2 a3 a4 a5 a6 t341 t349 t357 bt365.1) else (some false))) else (some false))) else (laws_FnLuckyNumbersOfAll.j0 k a1 a2 a3 a4 a5 a6 t341 t349 t357 bt365.1)) else (some false))) else (some false))) else (some false))) else (laws_FnLuckyNumbersOfAll.j5 k a1 a2 a3 a4 a5 a6))))) else (some false)))) else (some false)))) else (some false)))) else (some false)))))) = some r := H
 have A13 := Aside0.mk A130
 clear A130
 replace H := Option.bind_eq_some_iff.mp H
 obtain ⟨⟨t365, t366⟩, A140, H⟩ := H
 replace H : ((spec_RisingSieve.f k a0).bind fun bt369 => (if (t342 != t346) = true then (some false) else ((laws_tSame.f k t341 t345).bind fun t373 => (if t373 = true then (if (t350 != t354) = true then (some false) else ((laws_tSame.f k t349 t353).bind fun t374 => (if t374 = true then (if (t358 != t362) = true then (some false) else ((laws_tSame.f k t357 t361).bind fun t375 => (if t375 = true then (if (t366 != bt369.2) = true then (some false) else ((laws_tSame.f k t365 bt369.1).bind fun t376 => (if t376 = true then (if (t350 != t342) = true then (some false) else (if (t358 != t342) = true then (some false) else (if (t366 != t342) = true then (some false) else (if t342 = true then ((laws_tRises.f k t341 1 a0).bind fun t377 => (if t377 = true then ((laws_tRises.f k t357 2 a0).bind fun t378 => (if t378 = true then ((laws_tRises.f k t365 1 a0).bind fun t379 => (if t379 = true then (if (t349.length : Int) ≤ 12 then ((impl_LeftByCounting.f k t349 a0).bind fun bt380 => (if bt380.2 = true then ((laws_tSame.f k bt380.1 t341).bind fun t384 => (if t384 = true then (laws_FnLuckyNumbersOfAll.j0 k a1 a2 a3 a4 a5 a6 t341 t349 t357 t365) else (some false))) else (some false))) else (laws_FnLuckyNumbersOfAll.j0 k a1 a2 a3 a4 a5 a6 t341 t349 t357 t365)) else (some false))) else (some false))) else (some false))) else (laws_FnLuckyNumbersOfAll.j5 k a1 a2 a3 a4 a5 a6))))) else (some false)))) else (some false)))) else (some false)))) else (some false))))) = some r := H
 have A14 := Aside0.mk A140
 clear A140
 replace H := Option.bind_eq_some_iff.mp H
 obtain ⟨⟨t369, t370⟩, A150, H⟩ := H
 replace H : (if (t342 != t346) = true then (some false) else ((laws_tSame.f k t341 t345).bind fun t373 => (if t373 = true then (if (t350 != t354) = true then (some false) else ((laws_tSame.f k t349 t353).bind fun t374 => (if t374 = true then (if (t358 != t362) = true then (some false) else ((laws_tSame.f k t357 t361).bind fun t375 => (if t375 = true then (if (t366 != t370) = true then (some false) else ((laws_tSame.f k t365 t369).bind fun t376 => (if t376 = true then (if (t350 != t342) = true then (some false) else (if (t358 != t342) = true then (some false) else (if (t366 != t342) = true then (some false) else (if t342 = true then ((laws_tRises.f k t341 1 a0).bind fun t377 => (if t377 = true then ((laws_tRises.f k t357 2 a0).bind fun t378 => (if t378 = true then ((laws_tRises.f k t365 1 a0).bind fun t379 => (if t379 = true then (if (t349.length : Int) ≤ 12 then ((impl_LeftByCounting.f k t349 a0).bind fun bt380 => (if bt380.2 = true then ((laws_tSame.f k bt380.1 t341).bind fun t384 => (if t384 = true then (laws_FnLuckyNumbersOfAll.j0 k a1 a2 a3 a4 a5 a6 t341 t349 t357 t365) else (some false))) else (some false))) else (laws_FnLuckyNumbersOfAll.j0 k a1 a2 a3 a4 a5 a6 t341 t349 t357 t365)) else (some false))) else (some false))) else (some false))) else (laws_FnLuckyNumbersOfAll.j5 k a1 a2 a3 a4 a5 a6))))) else (some false)))) else (some false)))) else (some false)))) else (some false)))) = some r := H
 have A15 := Aside0.mk A150
 clear A150
 by_cases c16 : (t342 != t346) = true
 ·rw [if_pos c16] at H
  have c16b0 : (t342 != t346) = true := c16
  (try (have c16b1 : decide (t342 = t346) = false := by simpa using c16))
  (try (have c16b2 : (t342 == t346) = false := by simpa using c16))
  (try (have c16b3 : ¬ (t342 = t346) := by simpa using c16))
  clear c16
  exact absurd (Option.some.inj H) (by rw [HRT.out]; decide)
 ·as_aux_lemma =>
  rw [if_neg c16] at H
  have c16b0 : (t342 != t346) = false := by simpa using c16
  (try (have c16b1 : decide (t342 = t346) = true := by simpa using c16))
  (try (have c16b2 : (t342 == t346) = true := by simpa using c16))
  clear c16
  replace H := Option.bind_eq_some_iff.mp H
  obtain ⟨t373, A170, H⟩ := H
  replace H : (if t373 = true then (if (t350 != t354) = true then (some false) else ((laws_tSame.f k t349 t353).bind fun t374 => (if t374 = true then (if (t358 != t362) = true then (some false) else ((laws_tSame.f k t357 t361).bind fun t375 => (if t375 = true then (if (t366 != t370) = true then (some false) else ((laws_tSame.f k t365 t369).bind fun t376 => (if t376 = true then (if (t350 != t342) = true then (some false) else (if (t358 != t342) = true then (some false) else (if (t366 != t342) = true then (some false) else (if t342 = true then ((laws_tRises.f k t341 1 a0).bind fun t377 => (if t377 = true then ((laws_tRises.f k t357 2 a0).bind fun t378 => (if t378 = true then ((laws_tRises.f k t365 1 a0).bind fun t379 => (if t379 = true then (if (t349.length : Int) ≤ 12 then ((impl_LeftByCounting.f k t349 a0).bind fun bt380 => (if bt380.2 = true then ((laws_tSame.f k bt380.1 t341).bind fun t384 => (if t384 = true then (laws_FnLuckyNumbersOfAll.j0 k a1 a2 a3 a4 a5 a6 t341 t349 t357 t365) else (some false))) else (some false))) else (laws_FnLuckyNumbersOfAll.j0 k a1 a2 a3 a4 a5 a6 t341 t349 t357 t365)) else (some false))) else (some false))) else (some false))) else (laws_FnLuckyNumbersOfAll.j5 k a1 a2 a3 a4 a5 a6))))) else (some false)))) else (some false)))) else (some false)))) else (some false)) = some r := H
  have A17 := Aside0.mk A170
  clear A170
  by_cases c18 : t373 = true
  ·subst c18
   have H1 : (if (t350 != t354) = true then (some false) else ((laws_tSame.f k t349 t353).bind fun t374 => (if t374 = true then (if (t358 != t362) = true then (some false) else ((laws_tSame.f k t357 t361).bind fun t375 => (if t375 = true then (if (t366 != t370) = true then (some false) else ((laws_tSame.f k t365 t369).bind fun t376 => (if t376 = true then (if (t350 != t342) = true then (some false) else (if (t358 != t342) = true then (some false) else (if (t366 != t342) = true then (some false) else (if t342 = true then ((laws_tRises.f k t341 1 a0).bind fun t377 => (if t377 = true then ((laws_tRises.f k t357 2 a0).bind fun t378 => (if t378 = true then ((laws_tRises.f k t365 1 a0).bind fun t379 => (if t379 = true then (if (t349.length : Int) ≤ 12 then ((impl_LeftByCounting.f k t349 a0).bind fun bt380 => (if bt380.2 = true then ((laws_tSame.f k bt380.1 t341).bind fun t384 => (if t384 = true then (laws_FnLuckyNumbersOfAll.j0 k a1 a2 a3 a4 a5 a6 t341 t349 t357 t365) else (some false))) else (some false))) else (laws_FnLuckyNumbersOfAll.j0 k a1 a2 a3 a4 a5 a6 t341 t349 t357 t365)) else (some false))) else (some false))) else (some false))) else (laws_FnLuckyNumbersOfAll.j5 k a1 a2 a3 a4 a5 a6))))) else (some false)))) else (some false)))) else (some false)))) = some r := by rw [if_pos rfl] at H; exact H
   clear H
   have H := H1
   clear H1
   by_cases c19 : (t350 != t354) = true
   ·rw [if_pos c19] at H
    have c19b0 : (t350 != t354) = true := c19
    (try (have c19b1 : decide (t350 = t354) = false := by simpa using c19))
    (try (have c19b2 : (t350 == t354) = false := by simpa using c19))
    (try (have c19b3 : ¬ (t350 = t354) := by simpa using c19))
    clear c19
    exact absurd (Option.some.inj H) (by rw [HRT.out]; decide)
   ·rw [if_neg c19] at H
    have c19b0 : (t350 != t354) = false := by simpa using c19
    (try (have c19b1 : decide (t350 = t354) = true := by simpa using c19))
    (try (have c19b2 : (t350 == t354) = true := by simpa using c19))
    clear c19
    as_aux_lemma =>
    replace H := Option.bind_eq_some_iff.mp H
    obtain ⟨t374, A200, H⟩ := H
    replace H : (if t374 = true then (if (t358 != t362) = true then (some false) else ((laws_tSame.f k t357 t361).bind fun t375 => (if t375 = true then (if (t366 != t370) = true then (some false) else ((laws_tSame.f k t365 t369).bind fun t376 => (if t376 = true then (if (t350 != t342) = true then (some false) else (if (t358 != t342) = true then (some false) else (if (t366 != t342) = true then (some false) else (if t342 = true then ((laws_tRises.f k t341 1 a0).bind fun t377 => (if t377 = true then ((laws_tRises.f k t357 2 a0).bind fun t378 => (if t378 = true then ((laws_tRises.f k t365 1 a0).bind fun t379 => (if t379 = true then (if (t349.length : Int) ≤ 12 then ((impl_LeftByCounting.f k t349 a0).bind fun bt380 => (if bt380.2 = true then ((laws_tSame.f k bt380.1 t341).bind fun t384 => (if t384 = true then (laws_FnLuckyNumbersOfAll.j0 k a1 a2 a3 a4 a5 a6 t341 t349 t357 t365) else (some false))) else (some false))) else (laws_FnLuckyNumbersOfAll.j0 k a1 a2 a3 a4 a5 a6 t341 t349 t357 t365)) else (some false))) else (some false))) else (some false))) else (laws_FnLuckyNumbersOfAll.j5 k a1 a2 a3 a4 a5 a6))))) else (some false)))) else (some false)))) else (some false)) = some r := H
    have A20 := Aside0.mk A200
    clear A200
    by_cases c21 : t374 = true
    ·subst c21
     have H1 : (if (t358 != t362) = true then (some false) else ((laws_tSame.f k t357 t361).bind fun t375 => (if t375 = true then (if (t366 != t370) = true then (some false) else ((laws_tSame.f k t365 t369).bind fun t376 => (if t376 = true then (if (t350 != t342) = true then (some false) else (if (t358 != t342) = true then (some false) else (if (t366 != t342) = true then (some false) else (if t342 = true then ((laws_tRises.f k t341 1 a0).bind fun t377 => (if t377 = true then ((laws_tRises.f k t357 2 a0).bind fun t378 => (if t378 = true then ((laws_tRises.f k t365 1 a0).bind fun t379 => (if t379 = true then (if (t349.length : Int) ≤ 12 then ((impl_LeftByCounting.f k t349 a0).bind fun bt380 => (if bt380.2 = true then ((laws_tSame.f k bt380.1 t341).bind fun t384 => (if t384 = true then (laws_FnLuckyNumbersOfAll.j0 k a1 a2 a3 a4 a5 a6 t341 t349 t357 t365) else (some false))) else (some false))) else (laws_FnLuckyNumbersOfAll.j0 k a1 a2 a3 a4 a5 a6 t341 t349 t357 t365)) else (some false))) else (some false))) else (some false))) else (laws_FnLuckyNumbersOfAll.j5 k a1 a2 a3 a4 a5 a6))))) else (some false)))) else (some false)))) = some r := by rw [if_pos rfl] at H; exact H
     clear H
     have H := H1
     clear H1
     by_cases c22 : (t358 != t362) = true
     ·rw [if_pos c22] at H
      have c22b0 : (t358 != t362) = true := c22
      (try (have c22b1 : decide (t358 = t362) = false := by simpa using c22))
      (try (have c22b2 : (t358 == t362) = false := by simpa using c22))
      (try (have c22b3 : ¬ (t358 = t362) := by simpa using c22))
      clear c22
      exact absurd (Option.some.inj H) (by rw [HRT.out]; decide)
     ·rw [if_neg c22] at H
      have c22b0 : (t358 != t362) = false := by simpa using c22
      (try (have c22b1 : decide (t358 = t362) = true := by simpa using c22))
      (try (have c22b2 : (t358 == t362) = true := by simpa using c22))
      clear c22
      replace H := Option.bind_eq_some_iff.mp H
      obtain ⟨t375, A230, H⟩ := H
      replace H : (if t375 = true then (if (t366 != t370) = true then (some false) else ((laws_tSame.f k t365 t369).bind fun t376 => (if t376 = true then (if (t350 != t342) = true then (some false) else (if (t358 != t342) = true then (some false) else (if (t366 != t342) = true then (some false) else (if t342 = true then ((laws_tRises.f k t341 1 a0).bind fun t377 => (if t377 = true then ((laws_tRises.f k t357 2 a0).bind fun t378 => (if t378 = true then ((laws_tRises.f k t365 1 a0).bind fun t379 => (if t379 = true then (if (t349.length : Int) ≤ 12 then ((impl_LeftByCounting.f k t349 a0).bind fun bt380 => (if bt380.2 = true then ((laws_tSame.f k bt380.1 t341).bind fun t384 => (if t384 = true then (laws_FnLuckyNumbersOfAll.j0 k a1 a2 a3 a4 a5 a6 t341 t349 t357 t365) else (some false))) else (some false))) else (laws_FnLuckyNumbersOfAll.j0 k a1 a2 a3 a4 a5 a6 t341 t349 t357 t365)) else (some false))) else (some false))) else (some false))) else (laws_FnLuckyNumbersOfAll.j5 k a1 a2 a3 a4 a5 a6))))) else (some false)))) else (some false)) = some r := H
      have A23 := Aside0.mk A230
      clear A230
      by_cases c24 : t375 = true
      ·as_aux_lemma =>
       subst c24
       have H1 : (if (t366 != t370) = true then (some false) else ((laws_tSame.f k t365 t369).bind fun t376 => (if t376 = true then (if (t350 != t342) = true then (some false) else (if (t358 != t342) = true then (some false) else (if (t366 != t342) = true then (some false) else (if t342 = true then ((laws_tRises.f k t341 1 a0).bind fun t377 => (if t377 = true then ((laws_tRises.f k t357 2 a0).bind fun t378 => (if t378 = true then ((laws_tRises.f k t365 1 a0).bind fun t379 => (if t379 = true then (if (t349.length : Int) ≤ 12 then ((impl_LeftByCounting.f k t349 a0).bind fun bt380 => (if bt380.2 = true then ((laws_tSame.f k bt380.1 t341).bind fun t384 => (if t384 = true then (laws_FnLuckyNumbersOfAll.j0 k a1 a2 a3 a4 a5 a6 t341 t349 t357 t365) else (some false))) else (some false))) else (laws_FnLuckyNumbersOfAll.j0 k a1 a2 a3 a4 a5 a6 t341 t349 t357 t365)) else (some false))) else (some false))) else (some false))) else (laws_FnLuckyNumbersOfAll.j5 k a1 a2 a3 a4 a5 a6))))) else (some false)))) = some r := by rw [if_pos rfl] at H; exact H
       clear H
       have H := H1
       clear H1
       by_cases c25 : (t366 != t370) = true
       ·rw [if_pos c25] at H
        have c25b0 : (t366 != t370) = true := c25
        (try (have c25b1 : decide (t366 = t370) = false := by simpa using c25))
        (try (have c25b2 : (t366 == t370) = false := by simpa using c25))
        (try (have c25b3 : ¬ (t366 = t370) := by simpa using c25))
        clear c25
        exact absurd (Option.some.inj H) (by rw [HRT.out]; decide)
       ·rw [if_neg c25] at H
        have c25b0 : (t366 != t370) = false := by simpa using c25
        (try (have c25b1 : decide (t366 = t370) = true := by simpa using c25))
        (try (have c25b2 : (t366 == t370) = true := by simpa using c25))
        clear c25
        replace H := Option.bind_eq_some_iff.mp H
        obtain ⟨t376, A260, H⟩ := H
        replace H : (if t376 = true then (if (t350 != t342) = true then (some false) else (if (t358 != t342) = true then (some false) else (if (t366 != t342) = true then (some false) else (if t342 = true then ((laws_tRises.f k t341 1 a0).bind fun t377 => (if t377 = true then ((laws_tRises.f k t357 2 a0).bind fun t378 => (if t378 = true then ((laws_tRises.f k t365 1 a0).bind fun t379 => (if t379 = true then (if (t349.length : Int) ≤ 12 then ((impl_LeftByCounting.f k t349 a0).bind fun bt380 => (if bt380.2 = true then ((laws_tSame.f k bt380.1 t341).bind fun t384 => (if t384 = true then (laws_FnLuckyNumbersOfAll.j0 k a1 a2 a3 a4 a5 a6 t341 t349 t357 t365) else (some false))) else (some false))) else (laws_FnLuckyNumbersOfAll.j0 k a1 a2 a3 a4 a5 a6 t341 t349 t357 t365)) else (some false))) else (some false))) else (some false))) else (laws_FnLuckyNumbersOfAll.j5 k a1 a2 a3 a4 a5 a6))))) else (some false)) = some r := H
        have A26 := Aside0.mk A260
        clear A260
        by_cases c27 : t376 = true
        ·subst c27
         have H1 : (if (t350 != t342) = true then (some false) else (if (t358 != t342) = true then (some false) else (if (t366 != t342) = true then (some false) else (if t342 = true then ((laws_tRises.f k t341 1 a0).bind fun t377 => (if t377 = true then ((laws_tRises.f k t357 2 a0).bind fun t378 => (if t378 = true then ((laws_tRises.f k t365 1 a0).bind fun t379 => (if t379 = true then (if (t349.length : Int) ≤ 12 then ((impl_LeftByCounting.f k t349 a0).bind fun bt380 => (if bt380.2 = true then ((laws_tSame.f k bt380.1 t341).bind fun t384 => (if t384 = true then (laws_FnLuckyNumbersOfAll.j0 k a1 a2 a3 a4 a5 a6 t341 t349 t357 t365) else (some false))) else (some false))) else (laws_FnLuckyNumbersOfAll.j0 k a1 a2 a3 a4 a5 a6 t341 t349 t357 t365)) else (some false))) else (some false))) else (some false))) else (laws_FnLuckyNumbersOfAll.j5 k a1 a2 a3 a4 a5 a6))))) = some r := by rw [if_pos rfl] at H; exact H
         clear H
         have H := H1
         clear H1
         by_cases c28 : (t350 != t342) = true
         ·rw [if_pos c28] at H
          have c28b0 : (t350 != t342) = true := c28
          (try (have c28b1 : decide (t350 = t342) = false := by simpa using c28))
          (try (have c28b2 : (t350 == t342) = false := by simpa using c28))
          (try (have c28b3 : ¬ (t350 = t342) := by simpa using c28))
          clear c28
          exact absurd (Option.some.inj H) (by rw [HRT.out]; decide)
         ·as_aux_lemma =>
          rw [if_neg c28] at H
          have c28b0 : (t350 != t342) = false := by simpa using c28
          (try (have c28b1 : decide (t350 = t342) = true := by simpa using c28))
          (try (have c28b2 : (t350 == t342) = true := by simpa using c28))
          clear c28
          by_cases c29 : (t358 != t342) = true
          ·rw [if_pos c29] at H
           have c29b0 : (t358 != t342) = true := c29
           (try (have c29b1 : decide (t358 = t342) = false := by simpa using c29))
           (try (have c29b2 : (t358 == t342) = false := by simpa using c29))
           (try (have c29b3 : ¬ (t358 = t342) := by simpa using c29))
           clear c29
           exact absurd (Option.some.inj H) (by rw [HRT.out]; decide)
          ·rw [if_neg c29] at H
           have c29b0 : (t358 != t342) = false := by simpa using c29
           (try (have c29b1 : decide (t358 = t342) = true := by simpa using c29))
           (try (have c29b2 : (t358 == t342) = true := by simpa using c29))
           clear c29
           by_cases c30 : (t366 != t342) = true
           ·rw [if_pos c30] at H
            have c30b0 : (t366 != t342) = true := c30
            (try (have c30b1 : decide (t366 = t342) = false := by simpa using c30))
            (try (have c30b2 : (t366 == t342) = false := by simpa using c30))
            (try (have c30b3 : ¬ (t366 = t342) := by simpa using c30))
            clear c30
            exact absurd (Option.some.inj H) (by rw [HRT.out]; decide)
           ·as_aux_lemma =>
            rw [if_neg c30] at H
            have c30b0 : (t366 != t342) = false := by simpa using c30
            (try (have c30b1 : decide (t366 = t342) = true := by simpa using c30))
            (try (have c30b2 : (t366 == t342) = true := by simpa using c30))
            clear c30
            have HC31 := Aside0.mk H
            clear H
            as_aux_lemma =>
            go_enter Try.func5, Try.ntmps5
            go_upto_region 4 with (first | (go_at_call 27; (with_reducible refine (impl_Lucky.calls k a0 t341 t342 _ A8.out).mono ?_); rintro e w32 ⟨v343, rfl, ho0, hb⟩; have n0_ := Aside0.mk (Kd.R_lower ho0 (below_size (by repeat (first | (with_reducible first | exact HB.out | apply below_alloc | apply pw_below_drewN | apply below_drew1) | exact HB.out)))); have n1_ := Aside0.mk (below_step (by repeat (first | (with_reducible first | exact HB.out | apply below_alloc | apply pw_below_drewN | apply below_drew1) | exact HB.out)) hb); clear HB; have HO344 := n0_; have HB := n1_; clear n0_ n1_; (try clear hb); (try clear hb2); (try clear hk); (try clear hi); (try clear ho0)) | (go_at_call 28; (with_reducible refine (spec_Lucky.calls k a0 t345 t346 _ A9.out).mono ?_); rintro e w33 ⟨v347, rfl, ho0, hb⟩; have n0_ := Aside0.mk (Kd.R_elder' (by (with_reducible repeat (first | apply Kd.R_alloc | apply Kd.R_drewN | apply Kd.R_drew)); exact HO344.out) (Kd.R_base ho0) hb); have n1_ := Aside0.mk (Kd.R_lower (Kd.R_new' ho0 (Kd.R_lt (by (with_reducible repeat (first | apply Kd.R_alloc | apply Kd.R_drewN | apply Kd.R_drew)); exact HO344.out))) (below_size (by repeat (first | (with_reducible first | exact HB.out | apply below_alloc | apply pw_below_drewN | apply below_drew1) | exact HB.out)))); have n2_ := Aside0.mk (below_step (by repeat (first | (with_reducible first | exact HB.out | apply below_alloc | apply pw_below_drewN | apply below_drew1) | exact HB.out)) hb); clear HO344; clear HB; have HO344 := n0_; have HO348 := n1_; have HB := n2_; clear n0_ n1_ n2_; (try clear hb); (try clear hb2); (try clear hk); (try clear hi); (try clear ho0)) | (go_at_call 8; (with_reducible refine (impl_LuckySteps.calls k a0 t349 t350 _ A10.out).mono ?_); rintro e w34 ⟨v351, rfl, ho0, hb⟩; have n0_ := Aside0.mk (Kd.R_elder' (by (with_reducible repeat (first | apply Kd.R_alloc | apply Kd.R_drewN | apply Kd.R_drew)); exact HO344.out) (Kd.R_base ho0) hb); have n1_ := Aside0.mk (Kd.R_elder' (by (with_reducible repeat (first | apply Kd.R_alloc | apply Kd.R_drewN | apply Kd.R_drew)); exact HO348.out) (Kd.R_base ho0) hb); have n2_ := Aside0.mk (Kd.R_lower (Kd.R_new' (Kd.R_new' ho0 (Kd.R_lt (by (with_reducible repeat (first | apply Kd.R_alloc | apply Kd.R_drewN | apply Kd.R_drew)); exact HO344.out))) (Kd.R_lt (by (with_reducible repeat (first | apply Kd.R_alloc | apply Kd.R_drewN | apply Kd.R_drew)); exact HO348.out))) (below_size (by repeat (first | (with_reducible first | exact HB.out | apply below_alloc | apply pw_below_drewN | apply below_drew1) | exact HB.out)))); have n3_ := Aside0.mk (below_step (by repeat (first | (with_reducible first | exact HB.out | apply below_alloc | apply pw_below_drewN | apply below_drew1) | exact HB.out)) hb); clear HO344; clear HO348; clear HB; have HO344 := n0_; have HO348 := n1_; have HO352 := n2_; have HB := n3_; clear n0_ n1_ n2_ n3_; (try clear hb); (try clear hb2); (try clear hk); (try clear hi); (try clear ho0)))
            (try simp only [Act.put, List.setIfInBounds_toArray, List.set_cons_zero, List.set_cons_succ])
            as_aux_lemma =>
            go_upto_region 7 with (first | (go_at_call 7; (with_reducible refine (spec_LuckySteps.calls k a0 t353 t354 _ A11.out).mono ?_); rintro e w35 ⟨v355, rfl, ho0, hb⟩; have n0_ := Aside0.mk (Kd.R_elder' (by (with_reducible repeat (first | apply Kd.R_alloc | apply Kd.R_drewN | apply Kd.R_drew)); exact HO344.out) (Kd.R_base ho0) hb); have n1_ := Aside0.mk (Kd.R_elder' (by (with_reducible repeat (first | apply Kd.R_alloc | apply Kd.R_drewN | apply Kd.R_drew)); exact HO348.out) (Kd.R_base ho0) hb); have n2_ := Aside0.mk (Kd.R_elder' (by (with_reducible repeat (first | apply Kd.R_alloc | apply Kd.R_drewN | apply Kd.R_drew)); exact HO352.out) (Kd.R_base ho0) hb); have n3_ := Aside0.mk (Kd.R_lower (Kd.R_new' (Kd.R_new' (Kd.R_new' ho0 (Kd.R_lt (by (with_reducible repeat (first | apply Kd.R_alloc | apply Kd.R_drewN | apply Kd.R_drew)); exact HO344.out))) (Kd.R_lt (by (with_reducible repeat (first | apply Kd.R_alloc | apply Kd.R_drewN | apply Kd.R_drew)); exact HO348.out))) (Kd.R_lt (by (with_reducible repeat (first | apply Kd.R_alloc | apply Kd.R_drewN | apply Kd.R_drew)); exact HO352.out))) (below_size (by repeat (first | (with_reducible first | exact HB.out | apply below_alloc | apply pw_below_drewN | apply below_drew1) | exact HB.out)))); have n4_ := Aside0.mk (below_step (by repeat (first | (with_reducible first | exact HB.out | apply below_alloc | apply pw_below_drewN | apply below_drew1) | exact HB.out)) hb); clear HO344; clear HO348; clear HO352; clear HB; have HO344 := n0_; have HO348 := n1_; have HO352 := n2_; have HO356 := n3_; have HB := n4_; clear n0_ n1_ n2_ n3_ n4_; (try clear hb); (try clear hb2); (try clear hk); (try clear hi); (try clear ho0)) | (go_at_call 29; (with_reducible refine (impl_EvenLucky.calls k a0 t357 t358 _ A12.out).mono ?_); rintro e w36 ⟨v359, rfl, ho0, hb⟩; have n0_ := Aside0.mk (Kd.R_elder' (by (with_reducible repeat (first | apply Kd.R_alloc | apply Kd.R_drewN | apply Kd.R_drew)); exact HO344.out) (Kd.R_base ho0) hb); have n1_ := Aside0.mk (Kd.R_elder' (by (with_reducible repeat (first | apply Kd.R_alloc | apply Kd.R_drewN | apply Kd.R_drew)); exact HO348.out) (Kd.R_base ho0) hb); have n2_ := Aside0.mk (Kd.R_elder' (by (with_reducible repeat (first | apply Kd.R_alloc | apply Kd.R_drewN | apply Kd.R_drew)); exact HO352.out) (Kd.R_base ho0) hb); have n3_ := Aside0.mk (Kd.R_elder' (by (with_reducible repeat (first | apply Kd.R_alloc | apply Kd.R_drewN | apply Kd.R_drew)); exact HO356.out) (Kd.R_base ho0) hb); have n4_ := Aside0.mk (Kd.R_lower (Kd.R_new' (Kd.R_new' (Kd.R_new' (Kd.R_new' ho0 (Kd.R_lt (by (with_reducible repeat (first | apply Kd.R_alloc | apply Kd.R_drewN | apply Kd.R_drew)); exact HO344.out))) (Kd.R_lt (by (with_reducible repeat (first | apply Kd.R_alloc | apply Kd.R_drewN | apply Kd.R_drew)); exact HO348.out))) (Kd.R_lt (by (with_reducible repeat (first | apply Kd.R_alloc | apply Kd.R_drewN | apply Kd.R_drew)); exact HO352.out))) (Kd.R_lt (by (with_reducible repeat (first | apply Kd.R_alloc | apply Kd.R_drewN | apply Kd.R_drew)); exact HO356.out))) (below_size (by repeat (first | (with_reducible first | exact HB.out | apply below_alloc | apply pw_below_drewN | apply below_drew1) | exact HB.out)))); have n5_ := Aside0.mk (below_step (by repeat (first | (with_reducible first | exact HB.out | apply below_alloc | apply pw_below_drewN | apply below_drew1) | exact HB.out)) hb); clear HO344; clear HO348; clear HO352; clear HO356; clear HB; have HO344 := n0_; have HO348 := n1_; have HO352 := n2_; have HO356 := n3_; have HO360 := n4_; have HB := n5_; clear n0_ n1_ n2_ n3_ n4_ n5_; (try clear hb); (try clear hb2); (try clear hk); (try clear hi); (try clear ho0)) | (go_at_call 30; (with_reducible refine (spec_EvenLucky.calls k a0 t361 t362 _ A13.out).mono ?_); rintro e w37 ⟨v363, rfl, ho0, hb⟩; have n0_ := Aside0.mk (Kd.R_elder' (by (with_reducible repeat (first | apply Kd.R_alloc | apply Kd.R_drewN | apply Kd.R_drew)); exact HO344.out) (Kd.R_base ho0) hb); have n1_ := Aside0.mk (Kd.R_elder' (by (with_reducible repeat (first | apply Kd.R_alloc | apply Kd.R_drewN | apply Kd.R_drew)); exact HO348.out) (Kd.R_base ho0) hb); have n2_ := Aside0.mk (Kd.R_elder' (by (with_reducible repeat (first | apply Kd.R_alloc | apply Kd.R_drewN | apply Kd.R_drew)); exact HO352.out) (Kd.R_base ho0) hb); have n3_ := Aside0.mk (Kd.R_elder' (by (with_reducible repeat (first | apply Kd.R_alloc | apply Kd.R_drewN | apply Kd.R_drew)); exact HO356.out) (Kd.R_base ho0) hb); have n4_ := Aside0.mk (Kd.R_elder' (by (with_reducible repeat (first | apply Kd.R_alloc | apply Kd.R_drewN | apply Kd.R_drew)); exact HO360.out) (Kd.R_base ho0) hb); have n5_ := Aside0.mk (Kd.R_lower (Kd.R_new' (Kd.R_new' (Kd.R_new' (Kd.R_new' (Kd.R_new' ho0 (Kd.R_lt (by (with_reducible repeat (first | apply Kd.R_alloc | apply Kd.R_drewN | apply Kd.R_drew)); exact HO344.out))) (Kd.R_lt (by (with_reducible repeat (first | apply Kd.R_alloc | apply Kd.R_drewN | apply Kd.R_drew)); exact HO348.out))) (Kd.R_lt (by (with_reducible repeat (first | apply Kd.R_alloc | apply Kd.R_drewN | apply Kd.R_drew)); exact HO352.out))) (Kd.R_lt (by (with_reducible repeat (first | apply Kd.R_alloc | apply Kd.R_drewN | apply Kd.R_drew)); exact HO356.out))) (Kd.R_lt (by (with_reducible repeat (first | apply Kd.R_alloc | apply Kd.R_drewN | apply Kd.R_drew)); exact HO360.out))) (below_size (by repeat (first | (with_reducible first | exact HB.out | apply below_alloc | apply pw_below_drewN | apply below_drew1) | exact HB.out)))); have n6_ := Aside0.mk (below_step (by repeat (first | (with_reducible first | exact HB.out | apply below_alloc | apply pw_below_drewN | apply below_drew1) | exact HB.out)) hb); clear HO344; clear HO348; clear HO352; clear HO356; clear HO360; clear HB; have HO344 := n0_; have HO348 := n1_; have HO352 := n2_; have HO356 := n3_; have HO360 := n4_; have HO364 := n5_; have HB := n6_; clear n0_ n1_ n2_ n3_ n4_ n5_ n6_; (try clear hb); (try clear hb2); (try clear hk); (try clear hi); (try clear ho0)))
            (try simp only [Act.put, List.setIfInBounds_toArray, List.set_cons_zero, List.set_cons_succ])
            as_aux_lemma =>
            go_upto_if 165 with (first | (go_at_call 31; (with_reducible refine (impl_RisingSieve.calls k a0 t365 t366 _ A14.out).mono ?_); rintro e w38 ⟨v367, rfl, ho0, hb⟩; have n0_ := Aside0.mk (Kd.R_elder' (by (with_reducible repeat (first | apply Kd.R_alloc | apply Kd.R_drewN | apply Kd.R_drew)); exact HO344.out) (Kd.R_base ho0) hb); have n1_ := Aside0.mk (Kd.R_elder' (by (with_reducible repeat (first | apply Kd.R_alloc | apply Kd.R_drewN | apply Kd.R_drew)); exact HO348.out) (Kd.R_base ho0) hb); have n2_ := Aside0.mk (Kd.R_elder' (by (with_reducible repeat (first | apply Kd.R_alloc | apply Kd.R_drewN | apply Kd.R_drew)); exact HO352.out) (Kd.R_base ho0) hb); have n3_ := Aside0.mk (Kd.R_elder' (by (with_reducible repeat (first | apply Kd.R_alloc | apply Kd.R_drewN | apply Kd.R_drew)); exact HO356.out) (Kd.R_base ho0) hb); have n4_ := Aside0.mk (Kd.R_elder' (by (with_reducible repeat (first | apply Kd.R_alloc | apply Kd.R_drewN | apply Kd.R_drew)); exact HO360.out) (Kd.R_base ho0) hb); have n5_ := Aside0.mk (Kd.R_elder' (by (with_reducible repeat (first | apply Kd.R_alloc | apply Kd.R_drewN | apply Kd.R_drew)); exact HO364.out) (Kd.R_base ho0) hb); have n6_ := Aside0.mk (Kd.R_lower (Kd.R_new' (Kd.R_new' (Kd.R_new' (Kd.R_new' (Kd.R_new' (Kd.R_new' ho0 (Kd.R_lt (by (with_reducible repeat (first | apply Kd.R_alloc | apply Kd.R_drewN | apply Kd.R_drew)); exact HO344.out))) (Kd.R_lt (by (with_reducible repeat (first | apply Kd.R_alloc | apply Kd.R_drewN | apply Kd.R_drew)); exact HO348.out))) (Kd.R_lt (by (with_reducible repeat (first | apply Kd.R_alloc | apply Kd.R_drewN | apply Kd.R_drew)); exact HO352.out))) (Kd.R_lt (by (with_reducible repeat (first | apply Kd.R_alloc | apply Kd.R_drewN | apply Kd.R_drew)); exact HO356.out))) (Kd.R_lt (by (with_reducible repeat (first | apply Kd.R_alloc | apply Kd.R_drewN | apply Kd.R_drew)); exact HO360.out))) (Kd.R_lt (by (with_reducible repeat (first | apply Kd.R_alloc | apply Kd.R_drewN | apply Kd.R_drew)); exact HO364.out))) (below_size (by repeat (first | (with_reducible first | exact HB.out | apply below_alloc | apply pw_below_drewN | apply below_drew1) | exact HB.out)))); have n7_ := Aside0.mk (below_step (by repeat (first | (with_reducible first | exact HB.out | apply below_alloc | apply pw_below_drewN | apply below_drew1) | exact HB.out)) hb); clear HO344; clear HO348; clear HO352; clear HO356; clear HO360; clear HO364; clear HB; have HO344 := n0_; have HO348 := n1_; have HO352 := n2_; have HO356 := n3_; have HO360 := n4_; have HO364 := n5_; have HO368 := n6_; have HB := n7_; clear n0_ n1_ n2_ n3_ n4_ n5_ n6_ n7_; (try clear hb); (try clear hb2); (try clear hk); (try clear hi); (try clear ho0)) | (go_at_call 32; (with_reducible refine (spec_RisingSieve.calls k a0 t369 t370 _ A15.out).mono ?_); rintro e w39 ⟨v371, rfl, ho0, hb⟩; have n0_ := Aside0.mk (Kd.R_elder' (by (with_reducible repeat (first | apply Kd.R_alloc | apply Kd.R_drewN | apply Kd.R_drew)); exact HO344.out) (Kd.R_base ho0) hb); have n1_ := Aside0.mk (Kd.R_elder' (by (with_reducible repeat (first | apply Kd.R_alloc | apply Kd.R_drewN | apply Kd.R_drew)); exact HO348.out) (Kd.R_base ho0) hb); have n2_ := Aside0.mk (Kd.R_elder' (by (with_reducible repeat (first | apply Kd.R_alloc | apply Kd.R_drewN | apply Kd.R_drew)); exact HO352.out) (Kd.R_base ho0) hb); have n3_ := Aside0.mk (Kd.R_elder' (by (with_reducible repeat (first | apply Kd.R_alloc | apply Kd.R_drewN | apply Kd.R_drew)); exact HO356.out) (Kd.R_base ho0) hb); have n4_ := Aside0.mk (Kd.R_elder' (by (with_reducible repeat (first | apply Kd.R_alloc | apply Kd.R_drewN | apply Kd.R_drew)); exact HO360.out) (Kd.R_base ho0) hb); have n5_ := Aside0.mk (Kd.R_elder' (by (with_reducible repeat (first | apply Kd.R_alloc | apply Kd.R_drewN | apply Kd.R_drew)); exact HO364.out) (Kd.R_base ho0) hb); have n6_ := Aside0.mk (Kd.R_elder' (by (with_reducible repeat (first | apply Kd.R_alloc | apply Kd.R_drewN | apply Kd.R_drew)); exact HO368.out) (Kd.R_base ho0) hb); have n7_ := Aside0.mk (Kd.R_lower (Kd.R_new' (Kd.R_new' (Kd.R_new' (Kd.R_new' (Kd.R_new' (Kd.R_new' (Kd.R_new' ho0 (Kd.R_lt (by (with_reducible repeat (first | apply Kd.R_alloc | apply Kd.R_drewN | apply Kd.R_drew)); exact HO344.out))) (Kd.R_lt (by (with_reducible repeat (first | apply Kd.R_alloc | apply Kd.R_drewN | apply Kd.R_drew)); exact HO348.out))) (Kd.R_lt (by (with_reducible repeat (first | apply Kd.R_alloc | apply Kd.R_drewN | apply Kd.R_drew)); exact HO352.out))) (Kd.R_lt (by (with_reducible repeat (first | apply Kd.R_alloc | apply Kd.R_drewN | apply Kd.R_drew)); exact HO356.out))) (Kd.R_lt (by (with_reducible repeat (first | apply Kd.R_alloc | apply Kd.R_drewN | apply Kd.R_drew)); exact HO360.out))) (Kd.R_lt (by (with_reducible repeat (first | apply Kd.R_alloc | apply Kd.R_drewN | apply Kd.R_drew)); exact HO364.out))) (Kd.R_lt (by (with_reducible repeat (first | apply Kd.R_alloc | apply Kd.R_drewN | apply Kd.R_drew)); exact HO368.out))) (below_size (by repeat (first | (with_reducible first | exact HB.out | apply below_alloc | apply pw_below_drewN | apply below_drew1) | exact HB.out)))); have n8_ := Aside0.mk (below_step (by repeat (first | (with_reducible first | exact HB.out | apply below_alloc | apply pw_below_drewN | apply below_drew1) | exact HB.out)) hb); clear HO344; clear HO348; clear HO352; clear HO356; clear HO360; clear HO364; clear HO368; clear HB; have HO344 := n0_; have HO348 := n1_; have HO352 := n2_; have HO356 := n3_; have HO360 := n4_; have HO364 := n5_; have HO368 := n6_; have HO372 := n7_; have HB := n8_; clear n0_ n1_ n2_ n3_ n4_ n5_ n6_ n7_ n8_; (try clear hb); (try clear hb2); (try clear hk); (try clear hi); (try clear ho0); obtain ⟨Ao40, co40, eo40⟩ := Kd.R_slice HO344.out; subst eo40; obtain ⟨Ao41, co41, eo41⟩ := Kd.R_slice HO348.out; subst eo41) | (go_at_call 16; (with_reducible refine (laws_tSame.calls k _ _ t341 _ _ t345 true _ ?side1 ?side2 ?side3 ?side4 A17.out).mono ?_); (case side1 => repeat (first | exact (Kd.R_reads' HO344.out).2.2 | (with_reducible refine Kd.C_alloc ?_ _) | (with_reducible refine Kd.C_drewN ?_ _) | (with_reducible refine Kd.C_drew ?_))); (case side2 => exact (Kd.R_reads' HO344.out).2.1); (case side3 => repeat (first | exact (Kd.R_reads' HO348.out).2.2 | (with_reducible refine Kd.C_alloc ?_ _) | (with_reducible refine Kd.C_drewN ?_ _) | (with_reducible refine Kd.C_drew ?_))); (case side4 => exact (Kd.R_reads' HO348.out).2.1); rintro e w' ⟨rfl, ⟨nd, rfl⟩⟩; (try first | exact ⟨rfl, _, World.drewN_drewN _ _ _⟩ | exact ⟨rfl, _, Eq.trans (World.drewN_drewN _ _ _) (congrArg (World.drewN _) (Nat.add_assoc _ _ _))⟩); obtain ⟨Ao42, co42, eo42⟩ := Kd.R_slice HO352.out; subst eo42; obtain ⟨Ao43, co43, eo43⟩ := Kd.R_slice HO356.out; subst eo43) | (go_at_call 16; (with_reducible refine (laws_tSame.calls k _ _ t349 _ _ t353 true _ ?side1 ?side2 ?side3 ?side4 A20.out).mono ?_); (case side1 => repeat (first | exact (Kd.R_reads' HO352.out).2.2 | (with_reducible refine Kd.C_alloc ?_ _) | (with_reducible refine Kd.C_drewN ?_ _) | (with_reducible refine Kd.C_drew ?_))); (case side2 => exact (Kd.R_reads' HO352.out).2.1); (case side3 => repeat (first | exact (Kd.R_reads' HO356.out).2.2 | (with_reducible refine Kd.C_alloc ?_ _) | (with_reducible refine Kd.C_drewN ?_ _) | (with_reducible refine Kd.C_drew ?_))); (case side4 => exact (Kd.R_reads' HO356.out).2.1); rintro e w' ⟨rfl, ⟨nd, rfl⟩⟩; (try first | exact ⟨rfl, _, World.drewN_drewN _ _ _⟩ | exact ⟨rfl, _, Eq.trans (World.drewN_drewN _ _ _) (congrArg (World.drewN _) (Nat.add_assoc _ _ _))⟩); obtain ⟨Ao44, co44, eo44⟩ := Kd.R_slice HO360.out; subst eo44; obtain ⟨Ao45, co45, eo45⟩ := Kd.R_slice HO364.out; subst eo45) | (go_at_call 16; (with_reducible refine (laws_tSame.calls k _ _ t357 _ _ t361 true _ ?side1 ?side2 ?side3 ?side4 A23.out).mono ?_); (case side1 => repeat (first | exact (Kd.R_reads' HO360.out).2.2 | (with_reducible refine Kd.C_alloc ?_ _) | (with_reducible refine Kd.C_drewN ?_ _) | (with_reducible refine Kd.C_drew ?_))); (case side2 => exact (Kd.R_reads' HO360.out).2.1); (case side3 => repeat (first | exact (Kd.R_reads' HO364.out).2.2 | (with_reducible refine Kd.C_alloc ?_ _) | (with_reducible refine Kd.C_drewN ?_ _) | (with_reducible refine Kd.C_drew ?_))); (case side4 => exact (Kd.R_reads' HO364.out).2.1); rintro e w' ⟨rfl, ⟨nd, rfl⟩⟩; (try first | exact ⟨rfl, _, World.drewN_drewN _ _ _⟩ | exact ⟨rfl, _, Eq.trans (World.drewN_drewN _ _ _) (congrArg (World.drewN _) (Nat.add_assoc _ _ _))⟩); obtain ⟨Ao46, co46, eo46⟩ := Kd.R_slice HO368.out; subst eo46; obtain ⟨Ao47, co47, eo47⟩ := Kd.R_slice HO372.out; subst eo47) | (go_at_call 16; (with_reducible refine (laws_tSame.calls k _ _ t365 _ _ t369 true _ ?side1 ?side2 ?side3 ?side4 A26.out).mono ?_); (case side1 => repeat (first | exact (Kd.R_reads' HO368.out).2.2 | (with_reducible refine Kd.C_alloc ?_ _) | (with_reducible refine Kd.C_drewN ?_ _) | (with_reducible refine Kd.C_drew ?_))); (case side2 => exact (Kd.R_reads' HO368.out).2.1); (case side3 => repeat (first | exact (Kd.R_reads' HO372.out).2.2 | (with_reducible refine Kd.C_alloc ?_ _) | (with_reducible refine Kd.C_drewN ?_ _) | (with_reducible refine Kd.C_drew ?_))); (case side4 => exact (Kd.R_reads' HO372.out).2.1); rintro e w' ⟨rfl, ⟨nd, rfl⟩⟩; (try first | exact ⟨rfl, _, World.drewN_drewN _ _ _⟩ | exact ⟨rfl, _, Eq.trans (World.drewN_drewN _ _ _) (congrArg (World.drewN _) (Nat.add_assoc _ _ _))⟩)))
            (try simp only [Act.put, List.setIfInBounds_toArray, List.set_cons_zero, List.set_cons_succ])
            go_cut [] from 153 to 165 (fun wc => ∃ (kq : Nat), Aside0 (laws_FnLuckyNumbersOfAll.j5 kq a1 a2 a3 a4 a5 a6 = some r) ∧ Aside0 (kq ≤ k) ∧ Aside0 (Below w.heap.size w wc))
            case first => as_aux_lemma =>
             have H := HC31.out
             clear HC31
             by_cases c48 : t342 = true
             ·subst c48
              have H1 : ((laws_tRises.f k t341 1 a0).bind fun t377 => (if t377 = true then ((laws_tRises.f k t357 2 a0).bind fun t378 => (if t378 = true then ((laws_tRises.f k t365 1 a0).bind fun t379 => (if t379 = true then (if (t349.length : Int) ≤ 12 then ((impl_LeftByCounting.f k t349 a0).bind fun bt380 => (if bt380.2 = true then ((laws_tSame.f k bt380.1 t341).bind fun t384 => (if t384 = true then (laws_FnLuckyNumbersOfAll.j0 k a1 a2 a3 a4 a5 a6 t341 t349 t357 t365) else (some false))) else (some false))) else (laws_FnLuckyNumbersOfAll.j0 k a1 a2 a3 a4 a5 a6 t341 t349 t357 t365)) else (some false))) else (some false))) else (some false))) = some r := by rw [if_pos rfl] at H; exact H
              clear H
              have H := H1
              clear H1
              replace H := Option.bind_eq_some_iff.mp H
              obtain ⟨t377, A490, H⟩ := H
              replace H : (if t377 = true then ((laws_tRises.f k t357 2 a0).bind fun t378 => (if t378 = true then ((laws_tRises.f k t365 1 a0).bind fun t379 => (if t379 = true then (if (t349.length : Int) ≤ 12 then ((impl_LeftByCounting.f k t349 a0).bind fun bt380 => (if bt380.2 = true then ((laws_tSame.f k bt380.1 t341).bind fun t384 => (if t384 = true then (laws_FnLuckyNumbersOfAll.j0 k a1 a2 a3 a4 a5 a6 t341 t349 t357 t365) else (some false))) else (some false))) else (laws_FnLuckyNumbersOfAll.j0 k a1 a2 a3 a4 a5 a6 t341 t349 t357 t365)) else (some false))) else (some false))) else (some false)) = some r := H
              have A49 := Aside0.mk A490
              clear A490
              by_cases c50 : t377 = true
              ·subst c50
               have H1 : ((laws_tRises.f k t357 2 a0).bind fun t378 => (if t378 = true then ((laws_tRises.f k t365 1 a0).bind fun t379 => (if t379 = true then (if (t349.length : Int) ≤ 12 then ((impl_LeftByCounting.f k t349 a0).bind fun bt380 => (if bt380.2 = true then ((laws_tSame.f k bt380.1 t341).bind fun t384 => (if t384 = true then (laws_FnLuckyNumbersOfAll.j0 k a1 a2 a3 a4 a5 a6 t341 t349 t357 t365) else (some false))) else (some false))) else (laws_FnLuckyNumbersOfAll.j0 k a1 a2 a3 a4 a5 a6 t341 t349 t357 t365)) else (some false))) else (some false))) = some r := by rw [if_pos rfl] at H; exact H
               clear H
               have H := H1
               clear H1
               replace H := Option.bind_eq_some_iff.mp H
               obtain ⟨t378, A510, H⟩ := H
               replace H : (if t378 = true then ((laws_tRises.f k t365 1 a0).bind fun t379 => (if t379 = true then (if (t349.length : Int) ≤ 12 then ((impl_LeftByCounting.f k t349 a0).bind fun bt380 => (if bt380.2 = true then ((laws_tSame.f k bt380.1 t341).bind fun t384 => (if t384 = true then (laws_FnLuckyNumbersOfAll.j0 k a1 a2 a3 a4 a5 a6 t341 t349 t357 t365) else (some false))) else (some false))) else (laws_FnLuckyNumbersOfAll.j0 k a1 a2 a3 a4 a5 a6 t341 t349 t357 t365)) else (some false))) else (some false)) = some r := H
               have A51 := Aside0.mk A510
               clear A510
               by_cases c52 : t378 = true
               ·as_aux_lemma =>
                subst c52
                have H1 : ((laws_tRises.f k t365 1 a0).bind fun t379 => (if t379 = true then (if (t349.length : Int) ≤ 12 then ((impl_LeftByCounting.f k t349 a0).bind fun bt380 => (if bt380.2 = true then ((laws_tSame.f k bt380.1 t341).bind fun t384 => (if t384 = true then (laws_FnLuckyNumbersOfAll.j0 k a1 a2 a3 a4 a5 a6 t341 t349 t357 t365) else (some false))) else (some false))) else (laws_FnLuckyNumbersOfAll.j0 k a1 a2 a3 a4 a5 a6 t341 t349 t357 t365)) else (some false))) = some r := by rw [if_pos rfl] at H; exact H
                clear H
                have H := H1
                clear H1
                replace H := Option.bind_eq_some_iff.mp H
                obtain ⟨t379, A530, H⟩ := H
                replace H : (if t379 = true then (if (t349.length : Int) ≤ 12 then ((impl_LeftByCounting.f k t349 a0).bind fun bt380 => (if bt380.2 = true then ((laws_tSame.f k bt380.1 t341).bind fun t384 => (if t384 = true then (laws_FnLuckyNumbersOfAll.j0 k a1 a2 a3 a4 a5 a6 t341 t349 t357 t365) else (some false))) else (some false))) else (laws_FnLuckyNumbersOfAll.j0 k a1 a2 a3 a4 a5 a6 t341 t349 t357 t365)) else (some false)) = some r := H
                have A53 := Aside0.mk A530
                clear A530
                by_cases c54 : t379 = true
                ·subst c54
                 have H1 : (if (t349.length : Int) ≤ 12 then ((impl_LeftByCounting.f k t349 a0).bind fun bt380 => (if bt380.2 = true then ((laws_tSame.f k bt380.1 t341).bind fun t384 => (if t384 = true then (laws_FnLuckyNumbersOfAll.j0 k a1 a2 a3 a4 a5 a6 t341 t349 t357 t365) else (some false))) else (some false))) else (laws_FnLuckyNumbersOfAll.j0 k a1 a2 a3 a4 a5 a6 t341 t349 t357 t365)) = some r := by rw [if_pos rfl] at H; exact H
                 clear H
                 have H := H1
                 clear H1
                 have HC55 := Aside0.mk H
                 clear H
                 as_aux_lemma =>
                 go_upto_if 184 with (first | (go_at_call 19; (with_reducible refine (laws_tRises.calls k _ _ t341 1 a0 true _ ?side1 ?side2 A49.out).mono ?_); (case side1 => repeat (first | exact (Kd.R_reads' HO344.out).2.2 | (with_reducible refine Kd.C_alloc ?_ _) | (with_reducible refine Kd.C_drewN ?_ _) | (with_reducible refine Kd.C_drew ?_))); (case side2 => exact (Kd.R_reads' HO344.out).2.1); rintro e w' ⟨rfl, ⟨nd, rfl⟩⟩; (try first | exact ⟨rfl, _, World.drewN_drewN _ _ _⟩ | exact ⟨rfl, _, Eq.trans (World.drewN_drewN _ _ _) (congrArg (World.drewN _) (Nat.add_assoc _ _ _))⟩)) | (go_at_call 19; (with_reducible refine (laws_tRises.calls k _ _ t357 2 a0 true _ ?side1 ?side2 A51.out).mono ?_); (case side1 => repeat (first | exact (Kd.R_reads' HO360.out).2.2 | (with_reducible refine Kd.C_alloc ?_ _) | (with_reducible refine Kd.C_drewN ?_ _) | (with_reducible refine Kd.C_drew ?_))); (case side2 => exact (Kd.R_reads' HO360.out).2.1); rintro e w' ⟨rfl, ⟨nd, rfl⟩⟩; (try first | exact ⟨rfl, _, World.drewN_drewN _ _ _⟩ | exact ⟨rfl, _, Eq.trans (World.drewN_drewN _ _ _) (congrArg (World.drewN _) (Nat.add_assoc _ _ _))⟩)) | (go_at_call 19; (with_reducible refine (laws_tRises.calls k _ _ t365 1 a0 true _ ?side1 ?side2 A53.out).mono ?_); (case side1 => repeat (first | exact (Kd.R_reads' HO368.out).2.2 | (with_reducible refine Kd.C_alloc ?_ _) | (with_reducible refine Kd.C_drewN ?_ _) | (with_reducible refine Kd.C_drew ?_))); (case side2 => exact (Kd.R_reads' HO368.out).2.1); rintro e w' ⟨rfl, ⟨nd, rfl⟩⟩; (try first | exact ⟨rfl, _, World.drewN_drewN _ _ _⟩ | exact ⟨rfl, _, Eq.trans (World.drewN_drewN _ _ _) (congrArg (World.drewN _) (Nat.add_assoc _ _ _))⟩)))
                 (try simp only [Act.put, List.setIfInBounds_toArray, List.set_cons_zero, List.set_cons_succ])
                 go_cut [] from 172 to 184 (fun wc => ∃ (kq : Nat), Aside0 (laws_FnLuckyNumbersOfAll.j0 kq a1 a2 a3 a4 a5 a6 t341 t349 t357 t365 = some r) ∧ Aside0 (kq ≤ k) ∧ Aside0 (Kd.R (Kd.int .i64) 3 wc w.heap.size (fun k_ => some k_ ≠ ((.slice Ao42 t349.length co42) : Value).ownBlock ∧ some k_ ≠ ((.slice Ao44 t357.length co44) : Value).ownBlock ∧ some k_ ≠ ((.slice Ao46 t365.length co46) : Value).ownBlock) (.slice Ao40 t341.length co40) t341) ∧ Aside0 (Kd.R (Kd.int .i64) 3 wc w.heap.size (fun k_ => some k_ ≠ ((.slice Ao40 t341.length co40) : Value).ownBlock ∧ some k_ ≠ ((.slice Ao44 t357.length co44) : Value).ownBlock ∧ some k_ ≠ ((.slice Ao46 t365.length co46) : Value).ownBlock) (.slice Ao42 t349.length co42) t349) ∧ Aside0 (Kd.R (Kd.int .i64) 3 wc w.heap.size (fun k_ => some k_ ≠ ((.slice Ao40 t341.length co40) : Value).ownBlock ∧ some k_ ≠ ((.slice Ao42 t349.length co42) : Value).ownBlock ∧ some k_ ≠ ((.slice Ao46 t365.length co46) : Value).ownBlock) (.slice Ao44 t357.length co44) t357) ∧ Aside0 (Kd.R (Kd.int .i64) 3 wc w.heap.size (fun k_ => some k_ ≠ ((.slice Ao40 t341.length co40) : Value).ownBlock ∧ some k_ ≠ ((.slice Ao42 t349.length co42) : Value).ownBlock ∧ some k_ ≠ ((.slice Ao44 t357.length co44) : Value).ownBlock) (.slice Ao46 t365.length co46) t365) ∧ Aside0 (Below w.heap.size w wc))
                 case first => as_aux_lemma =>
                  have H := HC55.out
                  clear HC55
                  by_cases c56 : (t349.length : Int) ≤ 12
                  ·rw [if_pos c56] at H
                   have c56b0 : decide ((t349.length : Int) ≤ 12) = true := decide_eq_true c56
                   have c56b1 : decide (t349.length ≤ 12) = true := decide_eq_true (by omega)
                   clear c56
                   (first | rw [c56b0] | (simp only [i64_w, i32_w]; rw [c56b0]) | skip)
                   replace H := Option.bind_eq_some_iff.mp H
                   obtain ⟨⟨t380, t381⟩, A570, H⟩ := H
                   replace H : (if t381 = true then ((laws_tSame.f k t380 t341).bind fun t384 => (if t384 = true then (laws_FnLuckyNumbersOfAll.j0 k a1 a2 a3 a4 a5 a6 t341 t349 t357 t365) else (some false))) else (some false)) = some r := H
                   have A57 := Aside0.mk A570
                   clear A570
                   by_cases c58 : t381 = true
                   ·subst c58
                    have H1 : ((laws_tSame.f k t380 t341).bind fun t384 => (if t384 = true then (laws_FnLuckyNumbersOfAll.j0 k a1 a2 a3 a4 a5 a6 t341 t349 t357 t365) else (some false))) = some r := by rw [if_pos rfl] at H; exact H
                    clear H
                    have H := H1
                    clear H1
                    replace H := Option.bind_eq_some_iff.mp H
                    obtain ⟨t384, A590, H⟩ := H
                    replace H : (if t384 = true then (laws_FnLuckyNumbersOfAll.j0 k a1 a2 a3 a4 a5 a6 t341 t349 t357 t365) else (some false)) = some r := H
                    have A59 := Aside0.mk A590
                    clear A590
                    by_cases c60 : t384 = true
                    ·subst c60
                     have H1 : (laws_FnLuckyNumbersOfAll.j0 k a1 a2 a3 a4 a5 a6 t341 t349 t357 t365) = some r := by rw [if_pos rfl] at H; exact H
                     clear H
                     have H := H1
                     clear H1
                     have H' := Aside0.mk H
                     clear H
                     go_wp2_with (first | (go_at_call 12; (with_reducible refine (impl_LeftByCounting.calls k _ _ t349 a0 t380 true _ ?side1 ?side2 A57.out).mono ?_); (case side1 => repeat (first | exact (Kd.R_reads' HO352.out).2.2 | (with_reducible refine Kd.C_alloc ?_ _) | (with_reducible refine Kd.C_drewN ?_ _) | (with_reducible refine Kd.C_drew ?_))); (case side2 => exact (Kd.R_reads' HO352.out).2.1); rintro e w61 ⟨v382, rfl, ho0, hb⟩; have n0_ := Aside0.mk (Kd.R_elder' (by (with_reducible repeat (first | apply Kd.R_alloc | apply Kd.R_drewN | apply Kd.R_drew)); exact HO344.out) (Kd.R_base ho0) hb); have n1_ := Aside0.mk (Kd.R_elder' (by (with_reducible repeat (first | apply Kd.R_alloc | apply Kd.R_drewN | apply Kd.R_drew)); exact HO348.out) (Kd.R_base ho0) hb); have n2_ := Aside0.mk (Kd.R_elder' (by (with_reducible repeat (first | apply Kd.R_alloc | apply Kd.R_drewN | apply Kd.R_drew)); exact HO352.out) (Kd.R_base ho0) hb); have n3_ := Aside0.mk (Kd.R_elder' (by (with_reducible repeat (first | apply Kd.R_alloc | apply Kd.R_drewN | apply Kd.R_drew)); exact HO356.out) (Kd.R_base ho0) hb); have n4_ := Aside0.mk (Kd.R_elder' (by (with_reducible repeat (first | apply Kd.R_alloc | apply Kd.R_drewN | apply Kd.R_drew)); exact HO360.out) (Kd.R_base ho0) hb); have n5_ := Aside0.mk (Kd.R_elder' (by (with_reducible repeat (first | apply Kd.R_alloc | apply Kd.R_drewN | apply Kd.R_drew)); exact HO364.out) (Kd.R_base ho0) hb); have n6_ := Aside0.mk (Kd.R_elder' (by (with_reducible repeat (first | apply Kd.R_alloc | apply Kd.R_drewN | apply Kd.R_drew)); exact HO368.out) (Kd.R_base ho0) hb); have n7_ := Aside0.mk (Kd.R_elder' (by (with_reducible repeat (first | apply Kd.R_alloc | apply Kd.R_drewN | apply Kd.R_drew)); exact HO372.out) (Kd.R_base ho0) hb); have n8_ := Aside0.mk (Kd.R_lower (Kd.R_new' (Kd.R_new' (Kd.R_new' (Kd.R_new' (Kd.R_new' (Kd.R_new' (Kd.R_new' (Kd.R_new' ho0 (Kd.R_lt (by (with_reducible repeat (first | apply Kd.R_alloc | apply Kd.R_drewN | apply Kd.R_drew)); exact HO344.out))) (Kd.R_lt (by (with_reducible repeat (first | apply Kd.R_alloc | apply Kd.R_drewN | apply Kd.R_drew)); exact HO348.out))) (Kd.R_lt (by (with_reducible repeat (first | apply Kd.R_alloc | apply Kd.R_drewN | apply Kd.R_drew)); exact HO352.out))) (Kd.R_lt (by (with_reducible repeat (first | apply Kd.R_alloc | apply Kd.R_drewN | apply Kd.R_drew)); exact HO356.out))) (Kd.R_lt (by (with_reducible repeat (first | apply Kd.R_alloc | apply Kd.R_drewN | apply Kd.R_drew)); exact HO360.out))) (Kd.R_lt (by (with_reducible repeat (first | apply Kd.R_alloc | apply Kd.R_drewN | apply Kd.R_drew)); exact HO364.out))) (Kd.R_lt (by (with_reducible repeat (first | apply Kd.R_alloc | apply Kd.R_drewN | apply Kd.R_drew)); exact HO368.out))) (Kd.R_lt (by (with_reducible repeat (first | apply Kd.R_alloc | apply Kd.R_drewN | apply Kd.R_drew)); exact HO372.out))) (below_size (by repeat (first | (with_reducible first | exact HB.out | apply below_alloc | apply pw_below_drewN | apply below_drew1) | exact HB.out)))); have n9_ := Aside0.mk (below_step (by repeat (first | (with_reducible first | exact HB.out | apply below_alloc | apply pw_below_drewN | apply below_drew1) | exact HB.out)) hb); clear HO344; clear HO348; clear HO352; clear HO356; clear HO360; clear HO364; clear HO368; clear HO372; clear HB; have HO344 := n0_; have HO348 := n1_; have HO352 := n2_; have HO356 := n3_; have HO360 := n4_; have HO364 := n5_; have HO368 := n6_; have HO372 := n7_; have HO383 := n8_; have HB := n9_; clear n0_ n1_ n2_ n3_ n4_ n5_ n6_ n7_ n8_ n9_; (try clear hb); (try clear hb2); (try clear hk); (try clear hi); (try clear ho0); obtain ⟨Ao62, co62, eo62⟩ := Kd.R_slice HO383.out; subst eo62) | (go_at_call 16; (with_reducible refine (laws_tSame.calls k _ _ t380 _ _ t341 true _ ?side1 ?side2 ?side3 ?side4 A59.out).mono ?_); (case side1 => repeat (first | exact (Kd.R_reads' HO383.out).2.2 | (with_reducible refine Kd.C_alloc ?_ _) | (with_reducible refine Kd.C_drewN ?_ _) | (with_reducible refine Kd.C_drew ?_))); (case side2 => exact (Kd.R_reads' HO383.out).2.1); (case side3 => repeat (first | exact (Kd.R_reads' HO344.out).2.2 | (with_reducible refine Kd.C_alloc ?_ _) | (with_reducible refine Kd.C_drewN ?_ _) | (with_reducible refine Kd.C_drew ?_))); (case side4 => exact (Kd.R_reads' HO344.out).2.1); rintro e w' ⟨rfl, ⟨nd, rfl⟩⟩; (try first | exact ⟨rfl, _, World.drewN_drewN _ _ _⟩ | exact ⟨rfl, _, Eq.trans (World.drewN_drewN _ _ _) (congrArg (World.drewN _) (Nat.add_assoc _ _ _))⟩)))
                     refine Met.intro ?_
                     go_step
                     (repeat with_reducible apply ex32_)
                     (repeat apply Exists.intro)
                     refine ⟨?rel, rfl⟩
                     case rel => exact ⟨_, H', ⟨by first | omega | exact Nat.le_refl _⟩, ⟨by (with_reducible repeat (first | apply Kd.R_alloc | apply Kd.R_drewN | apply Kd.R_drew)); exact Kd.R_mono HO344.out (fun _ hk => ⟨hk.1.1.1.1.1.1.2, ⟨hk.1.1.1.1.2, hk.1.1.2⟩⟩)⟩, ⟨by (with_reducible repeat (first | apply Kd.R_alloc | apply Kd.R_drewN | apply Kd.R_drew)); exact Kd.R_mono HO352.out (fun _ hk => ⟨hk.1.1.1.1.1.1.1.2, ⟨hk.1.1.1.1.2, hk.1.1.2⟩⟩)⟩, ⟨by (with_reducible repeat (first | apply Kd.R_alloc | apply Kd.R_drewN | apply Kd.R_drew)); exact Kd.R_mono HO360.out (fun _ hk => ⟨hk.1.1.1.1.1.1.1.2, ⟨hk.1.1.1.1.1.2, hk.1.1.2⟩⟩)⟩, ⟨by (with_reducible repeat (first | apply Kd.R_alloc | apply Kd.R_drewN | apply Kd.R_drew)); exact Kd.R_mono HO368.out (fun _ hk => ⟨hk.1.1.1.1.1.1.1.2, ⟨hk.1.1.1.1.1.2, hk.1.1.1.2⟩⟩)⟩, ⟨by repeat (first | (with_reducible first | exact HB.out | apply below_alloc | apply pw_below_drewN | apply below_drew1) | exact HB.out)⟩⟩
                    ·replace c60 := Bool.eq_false_iff.mpr c60
                     subst c60
                     have H1 : (some false) = some r := by rw [if_neg (show ¬ (false = true) by decide)] at H; exact H
                     clear H
                     have H := H1
                     clear H1
                     exact absurd (Option.some.inj H) (by rw [HRT.out]; decide)
                   ·replace c58 := Bool.eq_false_iff.mpr c58
                    subst c58
                    have H1 : (some false) = some r := by rw [if_neg (show ¬ (false = true) by decide)] at H; exact H
                    clear H
                    have H := H1
                    clear H1
                    exact absurd (Option.some.inj H) (by rw [HRT.out]; decide)
                  ·as_aux_lemma =>
                   rw [if_neg c56] at H
                   have c56b0 : decide ((t349.length : Int) ≤ 12) = false := decide_eq_false c56
                   have c56b1 : decide (t349.length ≤ 12) = false := decide_eq_false (by omega)
                   clear c56
                   (first | rw [c56b0] | (simp only [i64_w, i32_w]; rw [c56b0]) | skip)
                   have H' := Aside0.mk H
                   clear H
                   go_wp2
                   repeat (go_quiet (fail); try go_wp2)
                   refine Met.intro ?_
                   go_step
                   (repeat with_reducible apply ex32_)
                   (repeat apply Exists.intro)
                   refine ⟨?rel, rfl⟩
                   case rel => exact ⟨_, H', ⟨by first | omega | exact Nat.le_refl _⟩, ⟨by (with_reducible repeat (first | apply Kd.R_alloc | apply Kd.R_drewN | apply Kd.R_drew)); exact Kd.R_mono HO344.out (fun _ hk => ⟨hk.1.1.1.1.1.2, ⟨hk.1.1.1.2, hk.1.2⟩⟩)⟩, ⟨by (with_reducible repeat (first | apply Kd.R_alloc | apply Kd.R_drewN | apply Kd.R_drew)); exact Kd.R_mono HO352.out (fun _ hk => ⟨hk.1.1.1.1.1.1.2, ⟨hk.1.1.1.2, hk.1.2⟩⟩)⟩, ⟨by (with_reducible repeat (first | apply Kd.R_alloc | apply Kd.R_drewN | apply Kd.R_drew)); exact Kd.R_mono HO360.out (fun _ hk => ⟨hk.1.1.1.1.1.1.2, ⟨hk.1.1.1.1.2, hk.1.2⟩⟩)⟩, ⟨by (with_reducible repeat (first | apply Kd.R_alloc | apply Kd.R_drewN | apply Kd.R_drew)); exact Kd.R_mono HO368.out (fun _ hk => ⟨hk.1.1.1.1.1.1.2, ⟨hk.1.1.1.1.2, hk.1.1.2⟩⟩)⟩, ⟨by repeat (first | (with_reducible first | exact HB.out | apply below_alloc | apply pw_below_drewN | apply below_drew1) | exact HB.out)⟩⟩
                 case rest => as_aux_lemma =>
                  clear HC55
                  obtain ⟨kq, HA, HJ54, HO_15, HO_19, HO_23, HO_27, HB⟩ := hcut
                  cases kq with
                  | zero => exact absurd HA.out (by simp [laws_FnLuckyNumbersOfAll.j0])
                  | succ kj54 =>
                   have H := HA.out
                   clear HA
                   simp only [laws_FnLuckyNumbersOfAll.j0] at H
                   have H' := Aside0.mk H
                   clear H
                   go_wp2
                   repeat (go_quiet (fail); try go_wp2)
                   as_aux_lemma =>
                   go_loopg [201] kj54 (fun kq v201 w' => ∃ (x201_2 : Int), v201 = .int .i64 x201_2 ∧ Aside0 (laws_FnLuckyNumbersOfAll.l0 kq a1 a2 a3 a4 a5 a6 t341 t357 t365 t349 (t349.length : Int) x201_2 = some r) ∧ Aside0 (kq ≤ kj54) ∧ Aside0 (Kd.R (Kd.int .i64) 3 w' w.heap.size (fun k_ => some k_ ≠ ((.slice Ao44 t357.length co44) : Value).ownBlock ∧ some k_ ≠ ((.slice Ao46 t365.length co46) : Value).ownBlock ∧ some k_ ≠ ((.slice Ao42 t349.length co42) : Value).ownBlock) (.slice Ao40 t341.length co40) t341) ∧ Aside0 (Kd.R (Kd.int .i64) 3 w' w.heap.size (fun k_ => some k_ ≠ ((.slice Ao40 t341.length co40) : Value).ownBlock ∧ some k_ ≠ ((.slice Ao46 t365.length co46) : Value).ownBlock ∧ some k_ ≠ ((.slice Ao42 t349.length co42) : Value).ownBlock) (.slice Ao44 t357.length co44) t357) ∧ Aside0 (Kd.R (Kd.int .i64) 3 w' w.heap.size (fun k_ => some k_ ≠ ((.slice Ao40 t341.length co40) : Value).ownBlock ∧ some k_ ≠ ((.slice Ao44 t357.length co44) : Value).ownBlock ∧ some k_ ≠ ((.slice Ao42 t349.length co42) : Value).ownBlock) (.slice Ao46 t365.length co46) t365) ∧ Aside0 (Kd.R (Kd.int .i64) 3 w' w.heap.size (fun k_ => some k_ ≠ ((.slice Ao40 t341.length co40) : Value).ownBlock ∧ some k_ ≠ ((.slice Ao44 t357.length co44) : Value).ownBlock ∧ some k_ ≠ ((.slice Ao46 t365.length co46) : Value).ownBlock) (.slice Ao42 t349.length co42) t349) ∧ Aside0 (Below w.heap.size w w'))
                   case atStart => exact ⟨(0), (by first | rfl | (simp; done) | (simp [*]; done)), H', ⟨Nat.le_refl _⟩, ⟨by (with_reducible repeat (first | apply Kd.R_alloc | apply Kd.R_drewN | apply Kd.R_drew)); exact Kd.R_mono HO_15.out (fun _ hk => ⟨hk.2.1, ⟨hk.2.2, hk.1⟩⟩)⟩, ⟨by (with_reducible repeat (first | apply Kd.R_alloc | apply Kd.R_drewN | apply Kd.R_drew)); exact Kd.R_mono HO_23.out (fun _ hk => ⟨hk.1, ⟨hk.2.2, hk.2.1⟩⟩)⟩, ⟨by (with_reducible repeat (first | apply Kd.R_alloc | apply Kd.R_drewN | apply Kd.R_drew)); exact Kd.R_mono HO_27.out (fun _ hk => ⟨hk.1, ⟨hk.2.2, hk.2.1⟩⟩)⟩, ⟨by (with_reducible repeat (first | apply Kd.R_alloc | apply Kd.R_drewN | apply Kd.R_drew)); exact HO_19.out⟩, ⟨by repeat (first | (with_reducible first | exact HB.out | apply below_alloc | apply pw_below_drewN | apply below_drew1) | exact HB.out)⟩⟩
                   case round => as_aux_lemma =>
                    clear H'
                    obtain ⟨x201_2, rfl, HA, HK2, HO_15, HO_23, HO_27, HO_199, HB⟩ := hrel
                    cases gk with
                    | zero => exact absurd HA.out (by simp [laws_FnLuckyNumbersOfAll.l0])
                    | succ k2 =>
                     have H := HA.out
                     clear HA
                     simp only [laws_FnLuckyNumbersOfAll.l0] at H
                     by_cases c63 : x201_2 < (t349.length : Int)
                     ·rw [if_pos c63] at H
                      have c63b0 : decide (x201_2 < (t349.length : Int)) = true := decide_eq_true c63
                      clear c63
                      by_cases c64 : 0 ≤ x201_2
                      ·rw [if_pos c64] at H
                       have c64b0 : decide (0 ≤ x201_2) = true := decide_eq_true c64
                       clear c64
                       by_cases c65 : x201_2 < (t349.length : Int)
                       ·rw [if_pos c65] at H
                        have c65b0 : decide (x201_2 < (t349.length : Int)) = true := decide_eq_true c65
                        clear c65
                        by_cases c66 : x201_2 > 0
                        ·rw [if_pos c66] at H
                         have c66b0 : decide (0 < x201_2) = true := decide_eq_true c66
                         clear c66
                         as_aux_lemma =>
                         replace H := Option.bind_eq_some_iff.mp H
                         obtain ⟨t386, A670, H⟩ := H
                         replace H : (if t386 = true then (if x201_2 = 0 then (if (rd t349 x201_2) = 2 then (laws_FnLuckyNumbersOfAll.l0 k2 a1 a2 a3 a4 a5 a6 t341 t357 t365 t349 (t349.length : Int) (wrap64 (x201_2 + 1))) else (some false)) else (laws_FnLuckyNumbersOfAll.l0 k2 a1 a2 a3 a4 a5 a6 t341 t357 t365 t349 (t349.length : Int) (wrap64 (x201_2 + 1)))) else (some false)) = some r := H
                         have A67 := Aside0.mk A670
                         clear A670
                         by_cases c68 : t386 = true
                         ·subst c68
                          have H1 : (if x201_2 = 0 then (if (rd t349 x201_2) = 2 then (laws_FnLuckyNumbersOfAll.l0 k2 a1 a2 a3 a4 a5 a6 t341 t357 t365 t349 (t349.length : Int) (wrap64 (x201_2 + 1))) else (some false)) else (laws_FnLuckyNumbersOfAll.l0 k2 a1 a2 a3 a4 a5 a6 t341 t357 t365 t349 (t349.length : Int) (wrap64 (x201_2 + 1)))) = some r := by rw [if_pos rfl] at H; exact H
                          clear H
                          have H := H1
                          clear H1
                          by_cases c69 : x201_2 = 0
                          ·rw [if_pos c69] at H
                           have c69b0 : (x201_2 == 0) = true := beq_iff_eq.mpr c69
                           have c69b1 : (x201_2 != 0) = false := bne_eq_false_iff_eq.mpr c69
                           clear c69
                           by_cases c70 : (rd t349 x201_2) = 2
                           ·rw [if_pos c70] at H
                            have c70b0 : ((rd t349 x201_2) == 2) = true := beq_iff_eq.mpr c70
                            have c70b1 : ((rd t349 x201_2) != 2) = false := bne_eq_false_iff_eq.mpr c70
                            clear c70
                            have H' := Aside0.mk H
                            clear H
                            have p385 : 0 ≤ (x201_2 : Int) := of_decide_eq_true (by first | (with_reducible assumption) | assumption)
                            have q385 : x201_2 < (t349.length : Int) := of_decide_eq_true (by first | (with_reducible assumption) | assumption)
                            obtain ⟨ad385, e385, hx385_0⟩ := Kd.at_int (Kd.R_reads' HO_199.out).2.2 x201_2 p385 q385
                            cases e385
                            replace p385 := eq_true p385
                            replace q385 := eq_true q385
                            go_wp2_with (first | (go_at_call 22; (with_reducible refine (laws_tHas.calls k2 _ _ t341 (rd t349 x201_2) true _ ?side1 ?side2 A67.out).mono ?_); (case side1 => repeat (first | exact (Kd.R_reads' HO_15.out).2.2 | (with_reducible refine Kd.C_alloc ?_ _) | (with_reducible refine Kd.C_drewN ?_ _) | (with_reducible refine Kd.C_drew ?_))); (case side2 => exact (Kd.R_reads' HO_15.out).2.1); rintro e w' ⟨rfl, ⟨nd, rfl⟩⟩; (try first | exact ⟨rfl, _, World.drewN_drewN _ _ _⟩ | exact ⟨rfl, _, Eq.trans (World.drewN_drewN _ _ _) (congrArg (World.drewN _) (Nat.add_assoc _ _ _))⟩)))
                            refine Handed.intro k2 ?measure ?_
                            rotate_left
                            go_step
                            (repeat with_reducible apply ex32_)
                            (repeat apply Exists.intro)
                            refine ⟨?rel, rfl⟩
                            case measure => have := HJ54.out; have := HK2.out; omega
                            case rel => exact ⟨(wrap64 (x201_2 + 1)), (by first | rfl | (simp; done) | (simp [*]; done)), H', ⟨by have := HJ54.out; have := HK2.out; omega⟩, ⟨by (with_reducible repeat (first | apply Kd.R_alloc | apply Kd.R_drewN | apply Kd.R_drew)); exact HO_15.out⟩, ⟨by (with_reducible repeat (first | apply Kd.R_alloc | apply Kd.R_drewN | apply Kd.R_drew)); exact HO_23.out⟩, ⟨by (with_reducible repeat (first | apply Kd.R_alloc | apply Kd.R_drewN | apply Kd.R_drew)); exact HO_27.out⟩, ⟨by (with_reducible repeat (first | apply Kd.R_alloc | apply Kd.R_drewN | apply Kd.R_drew)); exact HO_199.out⟩, ⟨by repeat (first | (with_reducible first | exact HB.out | apply below_alloc | apply pw_below_drewN | apply below_drew1) | exact HB.out)⟩⟩
                           ·rw [if_neg c70] at H
                            have c70b0 : ((rd t349 x201_2) == 2) = false := beq_eq_false_iff_ne.mpr c70
                            have c70b1 : ((rd t349 x201_2) != 2) = true := bne_iff_ne.mpr c70
                            exact absurd (Option.some.inj H) (by rw [HRT.out]; decide)
                          ·as_aux_lemma =>
                           rw [if_neg c69] at H
                           have c69b0 : (x201_2 == 0) = false := beq_eq_false_iff_ne.mpr c69
                           have c69b1 : (x201_2 != 0) = true := bne_iff_ne.mpr c69
                           have H' := Aside0.mk H
                           clear H
                           have p385 : 0 ≤ (x201_2 : Int) := of_decide_eq_true (by first | (with_reducible assumption) | assumption)
                           have q385 : x201_2 < (t349.length : Int) := of_decide_eq_true (by first | (with_reducible assumption) | assumption)
                           obtain ⟨ad385, e385, hx385_0⟩ := Kd.at_int (Kd.R_reads' HO_199.out).2.2 x201_2 p385 q385
                           cases e385
                           replace p385 := eq_true p385
                           replace q385 := eq_true q385
                           go_wp2_with (first | (go_at_call 22; (with_reducible refine (laws_tHas.calls k2 _ _ t341 (rd t349 x201_2) true _ ?side1 ?side2 A67.out).mono ?_); (case side1 => repeat (first | exact (Kd.R_reads' HO_15.out).2.2 | (with_reducible refine Kd.C_alloc ?_ _) | (with_reducible refine Kd.C_drewN ?_ _) | (with_reducible refine Kd.C_drew ?_))); (case side2 => exact (Kd.R_reads' HO_15.out).2.1); rintro e w' ⟨rfl, ⟨nd, rfl⟩⟩; (try first | exact ⟨rfl, _, World.drewN_drewN _ _ _⟩ | exact ⟨rfl, _, Eq.trans (World.drewN_drewN _ _ _) (congrArg (World.drewN _) (Nat.add_assoc _ _ _))⟩)))
                           refine Handed.intro k2 ?measure ?_
                           rotate_left
                           go_step
                           (repeat with_reducible apply ex32_)
                           (repeat apply Exists.intro)
                           refine ⟨?rel, rfl⟩
                           case measure => have := HJ54.out; have := HK2.out; omega
                           case rel => exact ⟨(wrap64 (x201_2 + 1)), (by first | rfl | (simp; done) | (simp [*]; done)), H', ⟨by have := HJ54.out; have := HK2.out; omega⟩, ⟨by (with_reducible repeat (first | apply Kd.R_alloc | apply Kd.R_drewN | apply Kd.R_drew)); exact HO_15.out⟩, ⟨by (with_reducible repeat (first | apply Kd.R_alloc | apply Kd.R_drewN | apply Kd.R_drew)); exact HO_23.out⟩, ⟨by (with_reducible repeat (first | apply Kd.R_alloc | apply Kd.R_drewN | apply Kd.R_drew)); exact HO_27.out⟩, ⟨by (with_reducible repeat (first | apply Kd.R_alloc | apply Kd.R_drewN | apply Kd.R_drew)); exact HO_199.out⟩, ⟨by repeat (first | (with_reducible first | exact HB.out | apply below_alloc | apply pw_below_drewN | apply below_drew1) | exact HB.out)⟩⟩
                         ·replace c68 := Bool.eq_false_iff.mpr c68
                          subst c68
                          have H1 : (some false) = some r := by rw [if_neg (show ¬ (false = true) by decide)] at H; exact H
                          clear H
                          have H := H1
                          clear H1
                          exact absurd (Option.some.inj H) (by rw [HRT.out]; decide)
                        ·as_aux_lemma =>
                         rw [if_neg c66] at H
                         have c66b0 : decide (0 < x201_2) = false := decide_eq_false c66
                         clear c66
                         by_cases c71 : x201_2 = 0
                         ·rw [if_pos c71] at H
                          have c71b0 : (x201_2 == 0) = true := beq_iff_eq.mpr c71
                          have c71b1 : (x201_2 != 0) = false := bne_eq_false_iff_eq.mpr c71
                          clear c71
                          by_cases c72 : (rd t349 x201_2) = 2
                          ·rw [if_pos c72] at H
                           have c72b0 : ((rd t349 x201_2) == 2) = true := beq_iff_eq.mpr c72
                           have c72b1 : ((rd t349 x201_2) != 2) = false := bne_eq_false_iff_eq.mpr c72
                           clear c72
                           have H' := Aside0.mk H
                           clear H
                           have p385 : 0 ≤ (x201_2 : Int) := of_decide_eq_true (by first | (with_reducible assumption) | assumption)
                           have q385 : x201_2 < (t349.length : Int) := of_decide_eq_true (by first | (with_reducible assumption) | assumption)
                           obtain ⟨ad385, e385, hx385_0⟩ := Kd.at_int (Kd.R_reads' HO_199.out).2.2 x201_2 p385 q385
                           cases e385
                           replace p385 := eq_true p385
                           replace q385 := eq_true q385
                           go_wp2
                           repeat (go_quiet (fail); try go_wp2)
                           refine Handed.intro k2 ?measure ?_
                           rotate_left
                           go_step
                           (repeat with_reducible apply ex32_)
                           (repeat apply Exists.intro)
                           refine ⟨?rel, rfl⟩
                           case measure => have := HJ54.out; have := HK2.out; omega
                           case rel => exact ⟨(wrap64 (x201_2 + 1)), (by first | rfl | (simp; done) | (simp [*]; done)), H', ⟨by have := HJ54.out; have := HK2.out; omega⟩, ⟨by (with_reducible repeat (first | apply Kd.R_alloc | apply Kd.R_drewN | apply Kd.R_drew)); exact HO_15.out⟩, ⟨by (with_reducible repeat (first | apply Kd.R_alloc | apply Kd.R_drewN | apply Kd.R_drew)); exact HO_23.out⟩, ⟨by (with_reducible repeat (first | apply Kd.R_alloc | apply Kd.R_drewN | apply Kd.R_drew)); exact HO_27.out⟩, ⟨by (with_reducible repeat (first | apply Kd.R_alloc | apply Kd.R_drewN | apply Kd.R_drew)); exact HO_199.out⟩, ⟨by repeat (first | (with_reducible first | exact HB.out | apply below_alloc | apply pw_below_drewN | apply below_drew1) | exact HB.out)⟩⟩
                          ·rw [if_neg c72] at H
                           have c72b0 : ((rd t349 x201_2) == 2) = false := beq_eq_false_iff_ne.mpr c72
                           have c72b1 : ((rd t349 x201_2) != 2) = true := bne_iff_ne.mpr c72
                           exact absurd (Option.some.inj H) (by rw [HRT.out]; decide)
                         ·as_aux_lemma =>
                          rw [if_neg c71] at H
                          have c71b0 : (x201_2 == 0) = false := beq_eq_false_iff_ne.mpr c71
                          have c71b1 : (x201_2 != 0) = true := bne_iff_ne.mpr c71
                          have H' := Aside0.mk H
                          clear H
                          have p385 : 0 ≤ (x201_2 : Int) := of_decide_eq_true (by first | (with_reducible assumption) | assumption)
                          have q385 : x201_2 < (t349.length : Int) := of_decide_eq_true (by first | (with_reducible assumption) | assumption)
                          obtain ⟨ad385, e385, hx385_0⟩ := Kd.at_int (Kd.R_reads' HO_199.out).2.2 x201_2 p385 q385
                          cases e385
                          replace p385 := eq_true p385
                          replace q385 := eq_true q385
                          go_wp2
                          repeat (go_quiet (fail); try go_wp2)
                          refine Handed.intro k2 ?measure ?_
                          rotate_left
                          go_step
                          (repeat with_reducible apply ex32_)
                          (repeat apply Exists.intro)
                          refine ⟨?rel, rfl⟩
                          case measure => have := HJ54.out; have := HK2.out; omega
                          case rel => exact ⟨(wrap64 (x201_2 + 1)), (by first | rfl | (simp; done) | (simp [*]; done)), H', ⟨by have := HJ54.out; have := HK2.out; omega⟩, ⟨by (with_reducible repeat (first | apply Kd.R_alloc | apply Kd.R_drewN | apply Kd.R_drew)); exact HO_15.out⟩, ⟨by (with_reducible repeat (first | apply Kd.R_alloc | apply Kd.R_drewN | apply Kd.R_drew)); exact HO_23.out⟩, ⟨by (with_reducible repeat (first | apply Kd.R_alloc | apply Kd.R_drewN | apply Kd.R_drew)); exact HO_27.out⟩, ⟨by (with_reducible repeat (first | apply Kd.R_alloc | apply Kd.R_drewN | apply Kd.R_drew)); exact HO_199.out⟩, ⟨by repeat (first | (with_reducible first | exact HB.out | apply below_alloc | apply pw_below_drewN | apply below_drew1) | exact HB.out)⟩⟩
                       ·rw [if_neg c65] at H
                        exact absurd H (by simp)
                      ·rw [if_neg c64] at H
                       exact absurd H (by simp)
                     ·as_aux_lemma =>
                      rw [if_neg c63] at H
                      have c63b0 : decide (x201_2 < (t349.length : Int)) = false := decide_eq_false c63
                      clear c63
                      have H' := Aside0.mk H
                      clear H
                      go_wp2
                      repeat (go_quiet (fail); try go_wp2)
                      as_aux_lemma =>
                      go_loopg [225] k2 (fun kq v225 w' => ∃ (x225_3 : Int), v225 = .int .i64 x225_3 ∧ Aside0 (laws_FnLuckyNumbersOfAll.l1 kq a1 a2 a3 a4 a5 a6 t357 t365 t341 (t341.length : Int) x225_3 = some r) ∧ Aside0 (kq ≤ k2) ∧ Aside0 (Kd.R (Kd.int .i64) 3 w' w.heap.size (fun k_ => some k_ ≠ ((.slice Ao46 t365.length co46) : Value).ownBlock ∧ some k_ ≠ ((.slice Ao40 t341.length co40) : Value).ownBlock) (.slice Ao44 t357.length co44) t357) ∧ Aside0 (Kd.R (Kd.int .i64) 3 w' w.heap.size (fun k_ => some k_ ≠ ((.slice Ao44 t357.length co44) : Value).ownBlock ∧ some k_ ≠ ((.slice Ao40 t341.length co40) : Value).ownBlock) (.slice Ao46 t365.length co46) t365) ∧ Aside0 (Kd.R (Kd.int .i64) 3 w' w.heap.size (fun k_ => some k_ ≠ ((.slice Ao44 t357.length co44) : Value).ownBlock ∧ some k_ ≠ ((.slice Ao46 t365.length co46) : Value).ownBlock) (.slice Ao40 t341.length co40) t341) ∧ Aside0 (Below w.heap.size w w'))
                      case atStart => exact ⟨(0), (by first | rfl | (simp; done) | (simp [*]; done)), H', ⟨Nat.le_refl _⟩, ⟨by (with_reducible repeat (first | apply Kd.R_alloc | apply Kd.R_drewN | apply Kd.R_drew)); exact Kd.R_mono HO_23.out (fun _ hk => ⟨hk.2.1, hk.1⟩)⟩, ⟨by (with_reducible repeat (first | apply Kd.R_alloc | apply Kd.R_drewN | apply Kd.R_drew)); exact Kd.R_mono HO_27.out (fun _ hk => ⟨hk.2.1, hk.1⟩)⟩, ⟨by (with_reducible repeat (first | apply Kd.R_alloc | apply Kd.R_drewN | apply Kd.R_drew)); exact Kd.R_mono HO_15.out (fun _ hk => ⟨hk.1, hk.2.1⟩)⟩, ⟨by repeat (first | (with_reducible first | exact HB.out | apply below_alloc | apply pw_below_drewN | apply below_drew1) | exact HB.out)⟩⟩
                      case round => as_aux_lemma =>
                       clear H'
                       obtain ⟨x225_3, rfl, HA, HK3, HO_23, HO_27, HO_223, HB⟩ := hrel
                       cases gk with
                       | zero => exact absurd HA.out (by simp [laws_FnLuckyNumbersOfAll.l1])
                       | succ k3 =>
                        have H := HA.out
                        clear HA
                        simp only [laws_FnLuckyNumbersOfAll.l1] at H
                        by_cases c73 : x225_3 < (t341.length : Int)
                        ·rw [if_pos c73] at H
                         have c73b0 : decide (x225_3 < (t341.length : Int)) = true := decide_eq_true c73
                         clear c73
                         by_cases c74 : 0 ≤ x225_3
                         ·rw [if_pos c74] at H
                          have c74b0 : decide (0 ≤ x225_3) = true := decide_eq_true c74
                          clear c74
                          by_cases c75 : x225_3 < (t341.length : Int)
                          ·rw [if_pos c75] at H
                           have c75b0 : decide (x225_3 < (t341.length : Int)) = true := decide_eq_true c75
                           clear c75
                           replace H := Option.bind_eq_some_iff.mp H
                           obtain ⟨⟨t388, t389⟩, A760, H⟩ := H
                           replace H : (if t389 = true then (if t388 = true then (if (Int.tmod (rd t341 x225_3) 2) = 0 then (some false) else (laws_FnLuckyNumbersOfAll.l1 k3 a1 a2 a3 a4 a5 a6 t357 t365 t341 (t341.length : Int) (wrap64 (x225_3 + 1)))) else (some false)) else (some false)) = some r := H
                           have A76 := Aside0.mk A760
                           clear A760
                           by_cases c77 : t389 = true
                           ·as_aux_lemma =>
                            subst c77
                            have H1 : (if t388 = true then (if (Int.tmod (rd t341 x225_3) 2) = 0 then (some false) else (laws_FnLuckyNumbersOfAll.l1 k3 a1 a2 a3 a4 a5 a6 t357 t365 t341 (t341.length : Int) (wrap64 (x225_3 + 1)))) else (some false)) = some r := by rw [if_pos rfl] at H; exact H
                            clear H
                            have H := H1
                            clear H1
                            by_cases c78 : t388 = true
                            ·subst c78
                             have H1 : (if (Int.tmod (rd t341 x225_3) 2) = 0 then (some false) else (laws_FnLuckyNumbersOfAll.l1 k3 a1 a2 a3 a4 a5 a6 t357 t365 t341 (t341.length : Int) (wrap64 (x225_3 + 1)))) = some r := by rw [if_pos rfl] at H; exact H
                             clear H
                             have H := H1
                             clear H1
                             by_cases c79 : (Int.tmod (rd t341 x225_3) 2) = 0
                             ·rw [if_pos c79] at H
                              have c79b0 : ((Int.tmod (rd t341 x225_3) 2) == 0) = true := beq_iff_eq.mpr c79
                              have c79b1 : ((Int.tmod (rd t341 x225_3) 2) != 0) = false := bne_eq_false_iff_eq.mpr c79
                              clear c79
                              exact absurd (Option.some.inj H) (by rw [HRT.out]; decide)
                             ·rw [if_neg c79] at H
                              have c79b0 : ((Int.tmod (rd t341 x225_3) 2) == 0) = false := beq_eq_false_iff_ne.mpr c79
                              have c79b1 : ((Int.tmod (rd t341 x225_3) 2) != 0) = true := bne_iff_ne.mpr c79
                              have H' := Aside0.mk H
                              clear H
                              have p387 : 0 ≤ (x225_3 : Int) := of_decide_eq_true (by first | (with_reducible assumption) | assumption)
                              have q387 : x225_3 < (t341.length : Int) := of_decide_eq_true (by first | (with_reducible assumption) | assumption)
                              obtain ⟨ad387, e387, hx387_0⟩ := Kd.at_int (Kd.R_reads' HO_223.out).2.2 x225_3 p387 q387
                              cases e387
                              replace p387 := eq_true p387
                              replace q387 := eq_true q387
                              go_wp2_with (first | (go_at_call 33; (with_reducible refine (impl_IsLucky.calls k3 (rd t341 x225_3) true true _ A76.out).mono ?_); rintro e w80 ⟨rfl, hb⟩; have n0_ := Aside0.mk (Kd.R_below (by (with_reducible repeat (first | apply Kd.R_alloc | apply Kd.R_drewN | apply Kd.R_drew)); exact HO_23.out) hb); have n1_ := Aside0.mk (Kd.R_below (by (with_reducible repeat (first | apply Kd.R_alloc | apply Kd.R_drewN | apply Kd.R_drew)); exact HO_27.out) hb); have n2_ := Aside0.mk (Kd.R_below (by (with_reducible repeat (first | apply Kd.R_alloc | apply Kd.R_drewN | apply Kd.R_drew)); exact HO_223.out) hb); have n3_ := Aside0.mk (below_step (by repeat (first | (with_reducible first | exact HB.out | apply below_alloc | apply pw_below_drewN | apply below_drew1) | exact HB.out)) hb); clear HO_23; clear HO_27; clear HO_223; clear HB; have HO_23 := n0_; have HO_27 := n1_; have HO_223 := n2_; have HB := n3_; clear n0_ n1_ n2_ n3_; (try clear hb); (try clear hb2); (try clear hk); (try clear hi)))
                              refine Handed.intro k3 ?measure ?_
                              rotate_left
                              go_step
                              (repeat with_reducible apply ex32_)
                              (repeat apply Exists.intro)
                              refine ⟨?rel, rfl⟩
                              case measure => have := HJ54.out; have := HK2.out; have := HK3.out; omega
                              case rel => exact ⟨(wrap64 (x225_3 + 1)), (by first | rfl | (simp; done) | (simp [*]; done)), H', ⟨by have := HJ54.out; have := HK2.out; have := HK3.out; omega⟩, ⟨by (with_reducible repeat (first | apply Kd.R_alloc | apply Kd.R_drewN | apply Kd.R_drew)); exact HO_23.out⟩, ⟨by (with_reducible repeat (first | apply Kd.R_alloc | apply Kd.R_drewN | apply Kd.R_drew)); exact HO_27.out⟩, ⟨by (with_reducible repeat (first | apply Kd.R_alloc | apply Kd.R_drewN | apply Kd.R_drew)); exact HO_223.out⟩, ⟨by repeat (first | (with_reducible first | exact HB.out | apply below_alloc | apply pw_below_drewN | apply below_drew1) | exact HB.out)⟩⟩
                            ·replace c78 := Bool.eq_false_iff.mpr c78
                             subst c78
                             have H1 : (some false) = some r := by rw [if_neg (show ¬ (false = true) by decide)] at H; exact H
                             clear H
                             have H := H1
                             clear H1
                             exact absurd (Option.some.inj H) (by rw [HRT.out]; decide)
                           ·replace c77 := Bool.eq_false_iff.mpr c77
                            subst c77
                            have H1 : (some false) = some r := by rw [if_neg (show ¬ (false = true) by decide)] at H; exact H
                            clear H
                            have H := H1
                            clear H1
                            exact absurd (Option.some.inj H) (by rw [HRT.out]; decide)
                          ·rw [if_neg c75] at H
                           exact absurd H (by simp)
                         ·rw [if_neg c74] at H
                          exact absurd H (by simp)
                        ·as_aux_lemma =>
                         rw [if_neg c73] at H
                         have c73b0 : decide (x225_3 < (t341.length : Int)) = false := decide_eq_false c73
                         clear c73
                         have H' := Aside0.mk H
                         clear H
                         go_wp2
                         repeat (go_quiet (fail); try go_wp2)
                         as_aux_lemma =>
                         go_loopg [248] k3 (fun kq v248 w' => ∃ (x248_4 : Int), v248 = .int .i64 x248_4 ∧ Aside0 (laws_FnLuckyNumbersOfAll.l2 kq a1 a2 a3 a4 a5 a6 t365 t357 (t357.length : Int) x248_4 = some r) ∧ Aside0 (kq ≤ k3) ∧ Aside0 (Kd.R (Kd.int .i64) 3 w' w.heap.size (fun k_ => some k_ ≠ ((.slice Ao44 t357.length co44) : Value).ownBlock) (.slice Ao46 t365.length co46) t365) ∧ Aside0 (Kd.R (Kd.int .i64) 3 w' w.heap.size (fun k_ => some k_ ≠ ((.slice Ao46 t365.length co46) : Value).ownBlock) (.slice Ao44 t357.length co44) t357) ∧ Aside0 (Below w.heap.size w w'))
                         case atStart => exact ⟨(0), (by first | rfl | (simp; done) | (simp [*]; done)), H', ⟨Nat.le_refl _⟩, ⟨by (with_reducible repeat (first | apply Kd.R_alloc | apply Kd.R_drewN | apply Kd.R_drew)); exact Kd.R_mono HO_27.out (fun _ hk => hk.1)⟩, ⟨by (with_reducible repeat (first | apply Kd.R_alloc | apply Kd.R_drewN | apply Kd.R_drew)); exact Kd.R_mono HO_23.out (fun _ hk => hk.1)⟩, ⟨by repeat (first | (with_reducible first | exact HB.out | apply below_alloc | apply pw_below_drewN | apply below_drew1) | exact HB.out)⟩⟩
                         case round => as_aux_lemma =>
                          clear H'
                          obtain ⟨x248_4, rfl, HA, HK4, HO_27, HO_246, HB⟩ := hrel
                          cases gk with
                          | zero => exact absurd HA.out (by simp [laws_FnLuckyNumbersOfAll.l2])
                          | succ k4 =>
                           have H := HA.out
                           clear HA
                           simp only [laws_FnLuckyNumbersOfAll.l2] at H
                           by_cases c81 : x248_4 < (t357.length : Int)
                           ·rw [if_pos c81] at H
                            have c81b0 : decide (x248_4 < (t357.length : Int)) = true := decide_eq_true c81
                            clear c81
                            by_cases c82 : 0 ≤ x248_4
                            ·rw [if_pos c82] at H
                             have c82b0 : decide (0 ≤ x248_4) = true := decide_eq_true c82
                             clear c82
                             by_cases c83 : x248_4 < (t357.length : Int)
                             ·rw [if_pos c83] at H
                              have c83b0 : decide (x248_4 < (t357.length : Int)) = true := decide_eq_true c83
                              clear c83
                              by_cases c84 : (Int.tmod (rd t357 x248_4) 2) = 0
                              ·rw [if_pos c84] at H
                               have c84b0 : ((Int.tmod (rd t357 x248_4) 2) == 0) = true := beq_iff_eq.mpr c84
                               have c84b1 : ((Int.tmod (rd t357 x248_4) 2) != 0) = false := bne_eq_false_iff_eq.mpr c84
                               clear c84
                               have H' := Aside0.mk H
                               clear H
                               have p390 : 0 ≤ (x248_4 : Int) := of_decide_eq_true (by first | (with_reducible assumption) | assumption)
                               have q390 : x248_4 < (t357.length : Int) := of_decide_eq_true (by first | (with_reducible assumption) | assumption)
                               obtain ⟨ad390, e390, hx390_0⟩ := Kd.at_int (Kd.R_reads' HO_246.out).2.2 x248_4 p390 q390
                               cases e390
                               replace p390 := eq_true p390
                               replace q390 := eq_true q390
                               go_wp2
                               repeat (go_quiet (fail); try go_wp2)
                               refine Handed.intro k4 ?measure ?_
                               rotate_left
                               go_step
                               (repeat with_reducible apply ex32_)
                               (repeat apply Exists.intro)
                               refine ⟨?rel, rfl⟩
                               case measure => have := HJ54.out; have := HK2.out; have := HK3.out; have := HK4.out; omega
                               case rel => exact ⟨(wrap64 (x248_4 + 1)), (by first | rfl | (simp; done) | (simp [*]; done)), H', ⟨by have := HJ54.out; have := HK2.out; have := HK3.out; have := HK4.out; omega⟩, ⟨by (with_reducible repeat (first | apply Kd.R_alloc | apply Kd.R_drewN | apply Kd.R_drew)); exact HO_27.out⟩, ⟨by (with_reducible repeat (first | apply Kd.R_alloc | apply Kd.R_drewN | apply Kd.R_drew)); exact HO_246.out⟩, ⟨by repeat (first | (with_reducible first | exact HB.out | apply below_alloc | apply pw_below_drewN | apply below_drew1) | exact HB.out)⟩⟩
                              ·rw [if_neg c84] at H
                               have c84b0 : ((Int.tmod (rd t357 x248_4) 2) == 0) = false := beq_eq_false_iff_ne.mpr c84
                               have c84b1 : ((Int.tmod (rd t357 x248_4) 2) != 0) = true := bne_iff_ne.mpr c84
                               exact absurd (Option.some.inj H) (by rw [HRT.out]; decide)
                             ·rw [if_neg c83] at H
                              exact absurd H (by simp)
                            ·rw [if_neg c82] at H
                             exact absurd H (by simp)
                           ·as_aux_lemma =>
                            rw [if_neg c81] at H
                            have c81b0 : decide (x248_4 < (t357.length : Int)) = false := decide_eq_false c81
                            clear c81
                            have H' := Aside0.mk H
                            clear H
                            go_wp2
                            repeat (go_quiet (fail); try go_wp2)
                            as_aux_lemma =>
                            go_loopg [258] k4 (fun kq v258 w' => ∃ (x258_5 : Int), v258 = .int .i64 x258_5 ∧ Aside0 (laws_FnLuckyNumbersOfAll.l3 kq a1 a2 a3 a4 a5 a6 t365 (t365.length : Int) x258_5 = some r) ∧ Aside0 (kq ≤ k4) ∧ Aside0 (Kd.R (Kd.int .i64) 3 w' w.heap.size (fun _ => True) (.slice Ao46 t365.length co46) t365) ∧ Aside0 (Below w.heap.size w w'))
                            case atStart => exact ⟨(0), (by first | rfl | (simp; done) | (simp [*]; done)), H', ⟨Nat.le_refl _⟩, ⟨by (with_reducible repeat (first | apply Kd.R_alloc | apply Kd.R_drewN | apply Kd.R_drew)); exact Kd.R_mono HO_27.out (fun _ hk => trivial)⟩, ⟨by repeat (first | (with_reducible first | exact HB.out | apply below_alloc | apply pw_below_drewN | apply below_drew1) | exact HB.out)⟩⟩
                            case round => as_aux_lemma =>
                             clear H'
                             obtain ⟨x258_5, rfl, HA, HK5, HO_256, HB⟩ := hrel
                             cases gk with
                             | zero => exact absurd HA.out (by simp [laws_FnLuckyNumbersOfAll.l3])
                             | succ k5 =>
                              have H := HA.out
                              clear HA
                              simp only [laws_FnLuckyNumbersOfAll.l3] at H
                              by_cases c85 : x258_5 < (t365.length : Int)
                              ·rw [if_pos c85] at H
                               have c85b0 : decide (x258_5 < (t365.length : Int)) = true := decide_eq_true c85
                               clear c85
                               by_cases c86 : 0 ≤ x258_5
                               ·rw [if_pos c86] at H
                                have c86b0 : decide (0 ≤ x258_5) = true := decide_eq_true c86
                                clear c86
                                by_cases c87 : x258_5 < (t365.length : Int)
                                ·rw [if_pos c87] at H
                                 have c87b0 : decide (x258_5 < (t365.length : Int)) = true := decide_eq_true c87
                                 clear c87
                                 by_cases c88 : x258_5 > 30
                                 ·rw [if_pos c88] at H
                                  have c88b0 : decide (30 < x258_5) = true := decide_eq_true c88
                                  clear c88
                                  have H' := Aside0.mk H
                                  clear H
                                  have p391 : 0 ≤ (x258_5 : Int) := of_decide_eq_true (by first | (with_reducible assumption) | assumption)
                                  have q391 : x258_5 < (t365.length : Int) := of_decide_eq_true (by first | (with_reducible assumption) | assumption)
                                  obtain ⟨ad391, e391, hx391_0⟩ := Kd.at_int (Kd.R_reads' HO_256.out).2.2 x258_5 p391 q391
                                  cases e391
                                  replace p391 := eq_true p391
                                  replace q391 := eq_true q391
                                  go_wp2
                                  repeat (go_quiet (fail); try go_wp2)
                                  refine Met.intro ?_
                                  go_step
                                  (repeat with_reducible apply ex32_)
                                  (repeat apply Exists.intro)
                                  refine ⟨?rel, rfl⟩
                                  case rel => exact ⟨_, H', ⟨by have := HJ54.out; have := HK2.out; have := HK3.out; have := HK4.out; have := HK5.out; first | omega | exact Nat.le_refl _⟩, ⟨by repeat (first | (with_reducible first | exact HB.out | apply below_alloc | apply pw_below_drewN | apply below_drew1) | exact HB.out)⟩⟩
                                 ·as_aux_lemma =>
                                  rw [if_neg c88] at H
                                  have c88b0 : decide (30 < x258_5) = false := decide_eq_false c88
                                  clear c88
                                  replace H := Option.bind_eq_some_iff.mp H
                                  obtain ⟨⟨t392, t393⟩, A890, H⟩ := H
                                  replace H : (if t393 = true then (if t392 = (rd t365 x258_5) then (laws_FnLuckyNumbersOfAll.l3 k5 a1 a2 a3 a4 a5 a6 t365 (t365.length : Int) (wrap64 (x258_5 + 1))) else (some false)) else (some false)) = some r := H
                                  have A89 := Aside0.mk A890
                                  clear A890
                                  by_cases c90 : t393 = true
                                  ·subst c90
                                   have H1 : (if t392 = (rd t365 x258_5) then (laws_FnLuckyNumbersOfAll.l3 k5 a1 a2 a3 a4 a5 a6 t365 (t365.length : Int) (wrap64 (x258_5 + 1))) else (some false)) = some r := by rw [if_pos rfl] at H; exact H
                                   clear H
                                   have H := H1
                                   clear H1
                                   by_cases c91 : t392 = (rd t365 x258_5)
                                   ·rw [if_pos c91] at H
                                    have c91b0 : (t392 == (rd t365 x258_5)) = true := beq_iff_eq.mpr c91
                                    have c91b1 : (t392 != (rd t365 x258_5)) = false := bne_eq_false_iff_eq.mpr c91
                                    clear c91
                                    have H' := Aside0.mk H
                                    clear H
                                    have p391 : 0 ≤ (x258_5 : Int) := of_decide_eq_true (by first | (with_reducible assumption) | assumption)
                                    have q391 : x258_5 < (t365.length : Int) := of_decide_eq_true (by first | (with_reducible assumption) | assumption)
                                    obtain ⟨ad391, e391, hx391_0⟩ := Kd.at_int (Kd.R_reads' HO_256.out).2.2 x258_5 p391 q391
                                    cases e391
                                    replace p391 := eq_true p391
                                    replace q391 := eq_true q391
                                    go_wp2_with (first | (go_at_call 34; (with_reducible refine (impl_RisingOfRank.calls k5 x258_5 t392 true _ A89.out).mono ?_); rintro e w' ⟨rfl, ⟨nd, rfl⟩⟩; (try first | exact ⟨rfl, _, World.drewN_drewN _ _ _⟩ | exact ⟨rfl, _, Eq.trans (World.drewN_drewN _ _ _) (congrArg (World.drewN _) (Nat.add_assoc _ _ _))⟩)))
                                    refine Handed.intro k5 ?measure ?_
                                    rotate_left
                                    go_step
                                    (repeat with_reducible apply ex32_)
                                    (repeat apply Exists.intro)
                                    refine ⟨?rel, rfl⟩
                                    case measure => have := HJ54.out; have := HK2.out; have := HK3.out; have := HK4.out; have := HK5.out; omega
                                    case rel => exact ⟨(wrap64 (x258_5 + 1)), (by first | rfl | (simp; done) | (simp [*]; done)), H', ⟨by have := HJ54.out; have := HK2.out; have := HK3.out; have := HK4.out; have := HK5.out; omega⟩, ⟨by (with_reducible repeat (first | apply Kd.R_alloc | apply Kd.R_drewN | apply Kd.R_drew)); exact HO_256.out⟩, ⟨by repeat (first | (with_reducible first | exact HB.out | apply below_alloc | apply pw_below_drewN | apply below_drew1) | exact HB.out)⟩⟩
                                   ·rw [if_neg c91] at H
                                    have c91b0 : (t392 == (rd t365 x258_5)) = false := beq_eq_false_iff_ne.mpr c91
                                    have c91b1 : (t392 != (rd t365 x258_5)) = true := bne_iff_ne.mpr c91
                                    exact absurd (Option.some.inj H) (by rw [HRT.out]; decide)
                                  ·replace c90 := Bool.eq_false_iff.mpr c90
                                   subst c90
                                   have H1 : (some false) = some r := by rw [if_neg (show ¬ (false = true) by decide)] at H; exact H
                                   clear H
                                   have H := H1
                                   clear H1
                                   exact absurd (Option.some.inj H) (by rw [HRT.out]; decide)
                                ·rw [if_neg c87] at H
                                 exact absurd H (by simp)
                               ·rw [if_neg c86] at H
                                exact absurd H (by simp)
                              ·rw [if_neg c85] at H
                               have c85b0 : decide (x258_5 < (t365.length : Int)) = false := decide_eq_false c85
                               clear c85
                               have H' := Aside0.mk H
                               clear H
                               go_wp2
                               repeat (go_quiet (fail); try go_wp2)
                               refine Met.intro ?_
                               go_step
                               (repeat with_reducible apply ex32_)
                               (repeat apply Exists.intro)
                               refine ⟨?rel, rfl⟩
                               case rel => exact ⟨_, H', ⟨by have := HJ54.out; have := HK2.out; have := HK3.out; have := HK4.out; have := HK5.out; first | omega | exact Nat.le_refl _⟩, ⟨by repeat (first | (with_reducible first | exact HB.out | apply below_alloc | apply pw_below_drewN | apply below_drew1) | exact HB.out)⟩⟩
                ·replace c54 := Bool.eq_false_iff.mpr c54
                 subst c54
                 have H1 : (some false) = some r := by rw [if_neg (show ¬ (false = true) by decide)] at H; exact H
                 clear H
                 have H := H1
                 clear H1
                 exact absurd (Option.some.inj H) (by rw [HRT.out]; decide)
               ·replace c52 := Bool.eq_false_iff.mpr c52
                subst c52
                have H1 : (some false) = some r := by rw [if_neg (show ¬ (false = true) by decide)] at H; exact H
                clear H
                have H := H1
                clear H1
                exact absurd (Option.some.inj H) (by rw [HRT.out]; decide)
              ·replace c50 := Bool.eq_false_iff.mpr c50
               subst c50
               have H1 : (some false) = some r := by rw [if_neg (show ¬ (false = true) by decide)] at H; exact H
               clear H
               have H := H1
               clear H1
               exact absurd (Option.some.inj H) (by rw [HRT.out]; decide)
             ·as_aux_lemma =>
              replace c48 := Bool.eq_false_iff.mpr c48
              subst c48
              have H1 : (laws_FnLuckyNumbersOfAll.j5 k a1 a2 a3 a4 a5 a6) = some r := by rw [if_neg (show ¬ (false = true) by decide)] at H; exact H
              clear H
              have H := H1
              clear H1
              have H' := Aside0.mk H
              clear H
              go_wp2
              repeat (go_quiet (fail); try go_wp2)
              refine Met.intro ?_
              go_step
              (repeat with_reducible apply ex32_)
              (repeat apply Exists.intro)
              refine ⟨?rel, rfl⟩
              case rel => exact ⟨_, H', ⟨by first | omega | exact Nat.le_refl _⟩, ⟨by repeat (first | (with_reducible first | exact HB.out | apply below_alloc | apply pw_below_drewN | apply below_drew1) | exact HB.out)⟩⟩
            case rest => as_aux_lemma =>
             clear HC31
             obtain ⟨kq, HA, HJ30, HB⟩ := hcut
             cases kq with
             | zero => exact absurd HA.out (by simp [laws_FnLuckyNumbersOfAll.j5])
             | succ kj30 =>
              have H := HA.out
              clear HA
              simp only [laws_FnLuckyNumbersOfAll.j5] at H
              replace H := Option.bind_eq_some_iff.mp H
              obtain ⟨⟨t394, t395⟩, A920, H⟩ := H
              replace H : ((spec_IsLucky.f kj30 a1).bind fun bt396 => ((impl_RisingOfRank.f kj30 a2).bind fun bt398 => ((spec_RisingOfRank.f kj30 a2).bind fun bt400 => ((impl_OwnSteps.f kj30 a3 a4).bind fun bt402 => ((spec_OwnSteps.f kj30 a3 a4).bind fun bt406 => ((impl_CircleOut.f kj30 a5 a6).bind fun bt410 => ((spec_CircleOut.f kj30 a5 a6).bind fun bt414 => ((impl_LastOfCircle.f kj30 a5 a6).bind fun bt418 => ((spec_LastOfCircle.f kj30 a5 a6).bind fun bt420 => (if (t395 != bt396.2) = true then (some false) else (if (t394 != bt396.1) = true then (some false) else (if (bt398.2 != bt400.2) = true then (some false) else (if bt398.1 = bt400.1 then (if (bt402.2 != bt406.2) = true then (some false) else ((laws_tSame.f kj30 bt402.1 bt406.1).bind fun t422 => (if t422 = true then (if (bt410.2 != bt414.2) = true then (some false) else ((laws_tSame.f kj30 bt410.1 bt414.1).bind fun t423 => (if t423 = true then (if (bt418.2 != bt420.2) = true then (some false) else (if bt418.1 = bt420.1 then (if (bt418.2 != bt410.2) = true then (some false) else (if bt402.2 = true then ((laws_tRises.f kj30 bt402.1 a3 a4).bind fun t424 => (if t424 = true then (if a3 ≤ a4 then (if (bt402.1.length : Int) = 0 then (some false) else (if 0 < (bt402.1.length : Int) then (laws_FnLuckyNumbersOfAll.j6 kj30 a3 a4 a5 a6 bt402.1 bt402.2 bt410.1 bt410.2 bt418.1 ((rd bt402.1 0) != a3)) else (none))) else (laws_FnLuckyNumbersOfAll.j6 kj30 a3 a4 a5 a6 bt402.1 bt402.2 bt410.1 bt410.2 bt418.1 false)) else (some false))) else (laws_FnLuckyNumbersOfAll.j6 kj30 a3 a4 a5 a6 bt402.1 bt402.2 bt410.1 bt410.2 bt418.1 false))) else (some false))) else (some false)))) else (some false)))) else (some false)))))))))))))) = some r := H
              have A92 := Aside0.mk A920
              clear A920
              replace H := Option.bind_eq_some_iff.mp H
              obtain ⟨⟨t396, t397⟩, A930, H⟩ := H
              replace H : ((impl_RisingOfRank.f kj30 a2).bind fun bt398 => ((spec_RisingOfRank.f kj30 a2).bind fun bt400 => ((impl_OwnSteps.f kj30 a3 a4).bind fun bt402 => ((spec_OwnSteps.f kj30 a3 a4).bind fun bt406 => ((impl_CircleOut.f kj30 a5 a6).bind fun bt410 => ((spec_CircleOut.f kj30 a5 a6).bind fun bt414 => ((impl_LastOfCircle.f kj30 a5 a6).bind fun bt418 => ((spec_LastOfCircle.f kj30 a5 a6).bind fun bt420 => (if (t395 != t397) = true then (some false) else (if (t394 != t396) = true then (some false) else (if (bt398.2 != bt400.2) = true then (some false) else (if bt398.1 = bt400.1 then (if (bt402.2 != bt406.2) = true then (some false) else ((laws_tSame.f kj30 bt402.1 bt406.1).bind fun t422 => (if t422 = true then (if (bt410.2 != bt414.2) = true then (some false) else ((laws_tSame.f kj30 bt410.1 bt414.1).bind fun t423 => (if t423 = true then (if (bt418.2 != bt420.2) = true then (some false) else (if bt418.1 = bt420.1 then (if (bt418.2 != bt410.2) = true then (some false) else (if bt402.2 = true then ((laws_tRises.f kj30 bt402.1 a3 a4).bind fun t424 => (if t424 = true then (if a3 ≤ a4 then (if (bt402.1.length : Int) = 0 then (some false) else (if 0 < (bt402.1.length : Int) then (laws_FnLuckyNumbersOfAll.j6 kj30 a3 a4 a5 a6 bt402.1 bt402.2 bt410.1 bt410.2 bt418.1 ((rd bt402.1 0) != a3)) else (none))) else (laws_FnLuckyNumbersOfAll.j6 kj30 a3 a4 a5 a6 bt402.1 bt402.2 bt410.1 bt410.2 bt418.1 false)) else (some false))) else (laws_FnLuckyNumbersOfAll.j6 kj30 a3 a4 a5 a6 bt402.1 bt402.2 bt410.1 bt410.2 bt418.1 false))) else (some false))) else (some false)))) else (some false)))) else (some false))))))))))))) = some r := H
              have A93 := Aside0.mk A930
              clear A930
              replace H := Option.bind_eq_some_iff.mp H
              obtain ⟨⟨t398, t399⟩, A940, H⟩ := H
              replace H : ((spec_RisingOfRank.f kj30 a2).bind fun bt400 => ((impl_OwnSteps.f kj30 a3 a4).bind fun bt402 => ((spec_OwnSteps.f kj30 a3 a4).bind fun bt406 => ((impl_CircleOut.f kj30 a5 a6).bind fun bt410 => ((spec_CircleOut.f kj30 a5 a6).bind fun bt414 => ((impl_LastOfCircle.f kj30 a5 a6).bind fun bt418 => ((spec_LastOfCircle.f kj30 a5 a6).bind fun bt420 => (if (t395 != t397) = true then (some false) else (if (t394 != t396) = true then (some false) else (if (t399 != bt400.2) = true then (some false) else (if t398 = bt400.1 then (if (bt402.2 != bt406.2) = true then (some false) else ((laws_tSame.f kj30 bt402.1 bt406.1).bind fun t422 => (if t422 = true then (if (bt410.2 != bt414.2) = true then (some false) else ((laws_tSame.f kj30 bt410.1 bt414.1).bind fun t423 => (if t423 = true then (if (bt418.2 != bt420.2) = true then (some false) else (if bt418.1 = bt420.1 then (if (bt418.2 != bt410.2) = true then (some false) else (if bt402.2 = true then ((laws_tRises.f kj30 bt402.1 a3 a4).bind fun t424 => (if t424 = true then (if a3 ≤ a4 then (if (bt402.1.length : Int) = 0 then (some false) else (if 0 < (bt402.1.length : Int) then (laws_FnLuckyNumbersOfAll.j6 kj30 a3 a4 a5 a6 bt402.1 bt402.2 bt410.1 bt410.2 bt418.1 ((rd bt402.1 0) != a3)) else (none))) else (laws_FnLuckyNumbersOfAll.j6 kj30 a3 a4 a5 a6 bt402.1 bt402.2 bt410.1 bt410.2 bt418.1 false)) else (some false))) else (laws_FnLuckyNumbersOfAll.j6 kj30 a3 a4 a5 a6 bt402.1 bt402.2 bt410.1 bt410.2 bt418.1 false))) else (some false))) else (some false)))) else (some false)))) else (some false)))))))))))) = some r := H
              have A94 := Aside0.mk A940
              clear A940
              replace H := Option.bind_eq_some_iff.mp H
              obtain ⟨⟨t400, t401⟩, A950, H⟩ := H
              replace H : ((impl_OwnSteps.f kj30 a3 a4).bind fun bt402 => ((spec_OwnSteps.f kj30 a3 a4).bind fun bt406 => ((impl_CircleOut.f kj30 a5 a6).bind fun bt410 => ((spec_CircleOut.f kj30 a5 a6).bind fun bt414 => ((impl_LastOfCircle.f kj30 a5 a6).bind fun bt418 => ((spec_LastOfCircle.f kj30 a5 a6).bind fun bt420 => (if (t395 != t397) = true then (some false) else (if (t394 != t396) = true then (some false) else (if (t399 != t401) = true then (some false) else (if t398 = t400 then (if (bt402.2 != bt406.2) = true then (some false) else ((laws_tSame.f kj30 bt402.1 bt406.1).bind fun t422 => (if t422 = true then (if (bt410.2 != bt414.2) = true then (some false) else ((laws_tSame.f kj30 bt410.1 bt414.1).bind fun t423 => (if t423 = true then (if (bt418.2 != bt420.2) = true then (some false) else (if bt418.1 = bt420.1 then (if (bt418.2 != bt410.2) = true then (some false) else (if bt402.2 = true then ((laws_tRises.f kj30 bt402.1 a3 a4).bind fun t424 => (if t424 = true then (if a3 ≤ a4 then (if (bt402.1.length : Int) = 0 then (some false) else (if 0 < (bt402.1.length : Int) then (laws_FnLuckyNumbersOfAll.j6 kj30 a3 a4 a5 a6 bt402.1 bt402.2 bt410.1 bt410.2 bt418.1 ((rd bt402.1 0) != a3)) else (none))) else (laws_FnLuckyNumbersOfAll.j6 kj30 a3 a4 a5 a6 bt402.1 bt402.2 bt410.1 bt410.2 bt418.1 false)) else (some false))) else (laws_FnLuckyNumbersOfAll.j6 kj30 a3 a4 a5 a6 bt402.1 bt402.2 bt410.1 bt410.2 bt418.1 false))) else (some false))) else (some false)))) else (some false)))) else (some false))))))))))) = some r := H
              have A95 := Aside0.mk A950
              clear A950
              as_aux_lemma =>
              replace H := Option.bind_eq_some_iff.mp H
              obtain ⟨⟨t402, t403⟩, A960, H⟩ := H
              replace H : ((spec_OwnSteps.f kj30 a3 a4).bind fun bt406 => ((impl_CircleOut.f kj30 a5 a6).bind fun bt410 => ((spec_CircleOut.f kj30 a5 a6).bind fun bt414 => ((impl_LastOfCircle.f kj30 a5 a6).bind fun bt418 => ((spec_LastOfCircle.f kj30 a5 a6).bind fun bt420 => (if (t395 != t397) = true then (some false) else (if (t394 != t396) = true then (some false) else (if (t399 != t401) = true then (some false) else (if t398 = t400 then (if (t403 != bt406.2) = true then (some false) else ((laws_tSame.f kj30 t402 bt406.1).bind fun t422 => (if t422 = true then (if (bt410.2 != bt414.2) = true then (some false) else ((laws_tSame.f kj30 bt410.1 bt414.1).bind fun t423 => (if t423 = true then (if (bt418.2 != bt420.2) = true then (some false) else (if bt418.1 = bt420.1 then (if (bt418.2 != bt410.2) = true then (some false) else (if t403 = true then ((laws_tRises.f kj30 t402 a3 a4).bind fun t424 => (if t424 = true then (if a3 ≤ a4 then (if (t402.length : Int) = 0 then (some false) else (if 0 < (t402.length : Int) then (laws_FnLuckyNumbersOfAll.j6 kj30 a3 a4 a5 a6 t402 t403 bt410.1 bt410.2 bt418.1 ((rd t402 0) != a3)) else (none))) else (laws_FnLuckyNumbersOfAll.j6 kj30 a3 a4 a5 a6 t402 t403 bt410.1 bt410.2 bt418.1 false)) else (some false))) else (laws_FnLuckyNumbersOfAll.j6 kj30 a3 a4 a5 a6 t402 t403 bt410.1 bt410.2 bt418.1 false))) else (some false))) else (some false)))) else (some false)))) else (some false)))))))))) = some r := H
              have A96 := Aside0.mk A960
              clear A960
              replace H := Option.bind_eq_some_iff.mp H
              obtain ⟨⟨t406, t407⟩, A970, H⟩ := H
              replace H : ((impl_CircleOut.f kj30 a5 a6).bind fun bt410 => ((spec_CircleOut.f kj30 a5 a6).bind fun bt414 => ((impl_LastOfCircle.f kj30 a5 a6).bind fun bt418 => ((spec_LastOfCircle.f kj30 a5 a6).bind fun bt420 => (if (t395 != t397) = true then (some false) else (if (t394 != t396) = true then (some false) else (if (t399 != t401) = true then (some false) else (if t398 = t400 then (if (t403 != t407) = true then (some false) else ((laws_tSame.f kj30 t402 t406).bind fun t422 => (if t422 = true then (if (bt410.2 != bt414.2) = true then (some false) else ((laws_tSame.f kj30 bt410.1 bt414.1).bind fun t423 => (if t423 = true then (if (bt418.2 != bt420.2) = true then (some false) else (if bt418.1 = bt420.1 then (if (bt418.2 != bt410.2) = true then (some false) else (if t403 = true then ((laws_tRises.f kj30 t402 a3 a4).bind fun t424 => (if t424 = true then (if a3 ≤ a4 then (if (t402.length : Int) = 0 then (some false) else (if 0 < (t402.length : Int) then (laws_FnLuckyNumbersOfAll.j6 kj30 a3 a4 a5 a6 t402 t403 bt410.1 bt410.2 bt418.1 ((rd t402 0) != a3)) else (none))) else (laws_FnLuckyNumbersOfAll.j6 kj30 a3 a4 a5 a6 t402 t403 bt410.1 bt410.2 bt418.1 false)) else (some false))) else (laws_FnLuckyNumbersOfAll.j6 kj30 a3 a4 a5 a6 t402 t403 bt410.1 bt410.2 bt418.1 false))) else (some false))) else (some false)))) else (some false)))) else (some false))))))))) = some r := H
              have A97 := Aside0.mk A970
              clear A970
              replace H := Option.bind_eq_some_iff.mp H
              obtain ⟨⟨t410, t411⟩, A980, H⟩ := H
              replace H : ((spec_CircleOut.f kj30 a5 a6).bind fun bt414 => ((impl_LastOfCircle.f kj30 a5 a6).bind fun bt418 => ((spec_LastOfCircle.f kj30 a5 a6).bind fun bt420 => (if (t395 != t397) = true then (some false) else (if (t394 != t396) = true then (some false) else (if (t399 != t401) = true then (some false) else (if t398 = t400 then (if (t403 != t407) = true then (some false) else ((laws_tSame.f kj30 t402 t406).bind fun t422 => (if t422 = true then (if (t411 != bt414.2) = true then (some false) else ((laws_tSame.f kj30 t410 bt414.1).bind fun t423 => (if t423 = true then (if (bt418.2 != bt420.2) = true then (some false) else (if bt418.1 = bt420.1 then (if (bt418.2 != t411) = true then (some false) else (if t403 = true then ((laws_tRises.f kj30 t402 a3 a4).bind fun t424 => (if t424 = true then (if a3 ≤ a4 then (if (t402.length : Int) = 0 then (some false) else (if 0 < (t402.length : Int) then (laws_FnLuckyNumbersOfAll.j6 kj30 a3 a4 a5 a6 t402 t403 t410 t411 bt418.1 ((rd t402 0) != a3)) else (none))) else (laws_FnLuckyNumbersOfAll.j6 kj30 a3 a4 a5 a6 t402 t403 t410 t411 bt418.1 false)) else (some false))) else (laws_FnLuckyNumbersOfAll.j6 kj30 a3 a4 a5 a6 t402 t403 t410 t411 bt418.1 false))) else (some false))) else (some false)))) else (some false)))) else (some false)))))))) = some r := H
              have A98 := Aside0.mk A980
              clear A980
              replace H := Option.bind_eq_some_iff.mp H
              obtain ⟨⟨t414, t415⟩, A990, H⟩ := H
              replace H : ((impl_LastOfCircle.f kj30 a5 a6).bind fun bt418 => ((spec_LastOfCircle.f kj30 a5 a6).bind fun bt420 => (if (t395 != t397) = true then (some false) else (if (t394 != t396) = true then (some false) else (if (t399 != t401) = true then (some false) else (if t398 = t400 then (if (t403 != t407) = true then (some false) else ((laws_tSame.f kj30 t402 t406).bind fun t422 => (if t422 = true then (if (t411 != t415) = true then (some false) else ((laws_tSame.f kj30 t410 t414).bind fun t423 => (if t423 = true then (if (bt418.2 != bt420.2) = true then (some false) else (if bt418.1 = bt420.1 then (if (bt418.2 != t411) = true then (some false) else (if t403 = true then ((laws_tRises.f kj30 t402 a3 a4).bind fun t424 => (if t424 = true then (if a3 ≤ a4 then (if (t402.length : Int) = 0 then (some false) else (if 0 < (t402.length : Int) then (laws_FnLuckyNumbersOfAll.j6 kj30 a3 a4 a5 a6 t402 t403 t410 t411 bt418.1 ((rd t402 0) != a3)) else (none))) else (laws_FnLuckyNumbersOfAll.j6 kj30 a3 a4 a5 a6 t402 t403 t410 t411 bt418.1 false)) else (some false))) else (laws_FnLuckyNumbersOfAll.j6 kj30 a3 a4 a5 a6 t402 t403 t410 t411 bt418.1 false))) else (some false))) else (some false)))) else (some false)))) else (some false))))))) = some r := H
              have A99 := Aside0.mk A990
              clear A990
              replace H := Option.bind_eq_some_iff.mp H
              obtain ⟨⟨t418, t419⟩, A1000, H⟩ := H
              replace H : ((spec_LastOfCircle.f kj30 a5 a6).bind fun bt420 => (if (t395 != t397) = true then (some false) else (if (t394 != t396) = true then (some false) else (if (t399 != t401) = true then (some false) else (if t398 = t400 then (if (t403 != t407) = true then (some false) else ((laws_tSame.f kj30 t402 t406).bind fun t422 => (if t422 = true then (if (t411 != t415) = true then (some false) else ((laws_tSame.f kj30 t410 t414).bind fun t423 => (if t423 = true then (if (t419 != bt420.2) = true then (some false) else (if t418 = bt420.1 then (if (t419 != t411) = true then (some false) else (if t403 = true then ((laws_tRises.f kj30 t402 a3 a4).bind fun t424 => (if t424 = true then (if a3 ≤ a4 then (if (t402.length : Int) = 0 then (some false) else (if 0 < (t402.length : Int) then (laws_FnLuckyNumbersOfAll.j6 kj30 a3 a4 a5 a6 t402 t403 t410 t411 t418 ((rd t402 0) != a3)) else (none))) else (laws_FnLuckyNumbersOfAll.j6 kj30 a3 a4 a5 a6 t402 t403 t410 t411 t418 false)) else (some false))) else (laws_FnLuckyNumbersOfAll.j6 kj30 a3 a4 a5 a6 t402 t403 t410 t411 t418 false))) else (some false))) else (some false)))) else (some false)))) else (some false)))))) = some r := H
              have A100 := Aside0.mk A1000
              clear A1000
              as_aux_lemma =>
              replace H := Option.bind_eq_some_iff.mp H
              obtain ⟨⟨t420, t421⟩, A1010, H⟩ := H
              replace H : (if (t395 != t397) = true then (some false) else (if (t394 != t396) = true then (some false) else (if (t399 != t401) = true then (some false) else (if t398 = t400 then (if (t403 != t407) = true then (some false) else ((laws_tSame.f kj30 t402 t406).bind fun t422 => (if t422 = true then (if (t411 != t415) = true then (some false) else ((laws_tSame.f kj30 t410 t414).bind fun t423 => (if t423 = true then (if (t419 != t421) = true then (some false) else (if t418 = t420 then (if (t419 != t411) = true then (some false) else (if t403 = true then ((laws_tRises.f kj30 t402 a3 a4).bind fun t424 => (if t424 = true then (if a3 ≤ a4 then (if (t402.length : Int) = 0 then (some false) else (if 0 < (t402.length : Int) then (laws_FnLuckyNumbersOfAll.j6 kj30 a3 a4 a5 a6 t402 t403 t410 t411 t418 ((rd t402 0) != a3)) else (none))) else (laws_FnLuckyNumbersOfAll.j6 kj30 a3 a4 a5 a6 t402 t403 t410 t411 t418 false)) else (some false))) else (laws_FnLuckyNumbersOfAll.j6 kj30 a3 a4 a5 a6 t402 t403 t410 t411 t418 false))) else (some false))) else (some false)))) else (some false)))) else (some false))))) = some r := H
              have A101 := Aside0.mk A1010
              clear A1010
              by_cases c102 : (t395 != t397) = true
              ·rw [if_pos c102] at H
               have c102b0 : (t395 != t397) = true := c102
               (try (have c102b1 : decide (t395 = t397) = false := by simpa using c102))
               (try (have c102b2 : (t395 == t397) = false := by simpa using c102))
               (try (have c102b3 : ¬ (t395 = t397) := by simpa using c102))
               clear c102
               exact absurd (Option.some.inj H) (by rw [HRT.out]; decide)
              ·rw [if_neg c102] at H
               have c102b0 : (t395 != t397) = false := by simpa using c102
               (try (have c102b1 : decide (t395 = t397) = true := by simpa using c102))
               (try (have c102b2 : (t395 == t397) = true := by simpa using c102))
               clear c102
               by_cases c103 : (t394 != t396) = true
               ·rw [if_pos c103] at H
                have c103b0 : (t394 != t396) = true := c103
                (try (have c103b1 : decide (t394 = t396) = false := by simpa using c103))
                (try (have c103b2 : (t394 == t396) = false := by simpa using c103))
                (try (have c103b3 : ¬ (t394 = t396) := by simpa using c103))
                clear c103
                exact absurd (Option.some.inj H) (by rw [HRT.out]; decide)
               ·as_aux_lemma =>
                rw [if_neg c103] at H
                have c103b0 : (t394 != t396) = false := by simpa using c103
                (try (have c103b1 : decide (t394 = t396) = true := by simpa using c103))
                (try (have c103b2 : (t394 == t396) = true := by simpa using c103))
                clear c103
                by_cases c104 : (t399 != t401) = true
                ·rw [if_pos c104] at H
                 have c104b0 : (t399 != t401) = true := c104
                 (try (have c104b1 : decide (t399 = t401) = false := by simpa using c104))
                 (try (have c104b2 : (t399 == t401) = false := by simpa using c104))
                 (try (have c104b3 : ¬ (t399 = t401) := by simpa using c104))
                 clear c104
                 exact absurd (Option.some.inj H) (by rw [HRT.out]; decide)
                ·rw [if_neg c104] at H
                 have c104b0 : (t399 != t401) = false := by simpa using c104
                 (try (have c104b1 : decide (t399 = t401) = true := by simpa using c104))
                 (try (have c104b2 : (t399 == t401) = true := by simpa using c104))
                 clear c104
                 by_cases c105 : t398 = t400
                 ·rw [if_pos c105] at H
                  have c105b0 : (t398 == t400) = true := beq_iff_eq.mpr c105
                  have c105b1 : (t398 != t400) = false := bne_eq_false_iff_eq.mpr c105
                  clear c105
                  by_cases c106 : (t403 != t407) = true
                  ·rw [if_pos c106] at H
                   have c106b0 : (t403 != t407) = true := c106
                   (try (have c106b1 : decide (t403 = t407) = false := by simpa using c106))
                   (try (have c106b2 : (t403 == t407) = false := by simpa using c106))
                   (try (have c106b3 : ¬ (t403 = t407) := by simpa using c106))
                   clear c106
                   exact absurd (Option.some.inj H) (by rw [HRT.out]; decide)
                  ·as_aux_lemma =>
                   rw [if_neg c106] at H
                   have c106b0 : (t403 != t407) = false := by simpa using c106
                   (try (have c106b1 : decide (t403 = t407) = true := by simpa using c106))
                   (try (have c106b2 : (t403 == t407) = true := by simpa using c106))
                   clear c106
                   replace H := Option.bind_eq_some_iff.mp H
                   obtain ⟨t422, A1070, H⟩ := H
                   replace H : (if t422 = true then (if (t411 != t415) = true then (some false) else ((laws_tSame.f kj30 t410 t414).bind fun t423 => (if t423 = true then (if (t419 != t421) = true then (some false) else (if t418 = t420 then (if (t419 != t411) = true then (some false) else (if t403 = true then ((laws_tRises.f kj30 t402 a3 a4).bind fun t424 => (if t424 = true then (if a3 ≤ a4 then (if (t402.length : Int) = 0 then (some false) else (if 0 < (t402.length : Int) then (laws_FnLuckyNumbersOfAll.j6 kj30 a3 a4 a5 a6 t402 t403 t410 t411 t418 ((rd t402 0) != a3)) else (none))) else (laws_FnLuckyNumbersOfAll.j6 kj30 a3 a4 a5 a6 t402 t403 t410 t411 t418 false)) else (some false))) else (laws_FnLuckyNumbersOfAll.j6 kj30 a3 a4 a5 a6 t402 t403 t410 t411 t418 false))) else (some false))) else (some false)))) else (some false)) = some r := H
                   have A107 := Aside0.mk A1070
                   clear A1070
                   by_cases c108 : t422 = true
                   ·subst c108
                    have H1 : (if (t411 != t415) = true then (some false) else ((laws_tSame.f kj30 t410 t414).bind fun t423 => (if t423 = true then (if (t419 != t421) = true then (some false) else (if t418 = t420 then (if (t419 != t411) = true then (some false) else (if t403 = true then ((laws_tRises.f kj30 t402 a3 a4).bind fun t424 => (if t424 = true then (if a3 ≤ a4 then (if (t402.length : Int) = 0 then (some false) else (if 0 < (t402.length : Int) then (laws_FnLuckyNumbersOfAll.j6 kj30 a3 a4 a5 a6 t402 t403 t410 t411 t418 ((rd t402 0) != a3)) else (none))) else (laws_FnLuckyNumbersOfAll.j6 kj30 a3 a4 a5 a6 t402 t403 t410 t411 t418 false)) else (some false))) else (laws_FnLuckyNumbersOfAll.j6 kj30 a3 a4 a5 a6 t402 t403 t410 t411 t418 false))) else (some false))) else (some false)))) = some r := by rw [if_pos rfl] at H; exact H
                    clear H
                    have H := H1
                    clear H1
                    by_cases c109 : (t411 != t415) = true
                    ·rw [if_pos c109] at H
                     have c109b0 : (t411 != t415) = true := c109
                     (try (have c109b1 : decide (t411 = t415) = false := by simpa using c109))
                     (try (have c109b2 : (t411 == t415) = false := by simpa using c109))
                     (try (have c109b3 : ¬ (t411 = t415) := by simpa using c109))
                     clear c109
                     exact absurd (Option.some.inj H) (by rw [HRT.out]; decide)
                    ·rw [if_neg c109] at H
                     have c109b0 : (t411 != t415) = false := by simpa using c109
                     (try (have c109b1 : decide (t411 = t415) = true := by simpa using c109))
                     (try (have c109b2 : (t411 == t415) = true := by simpa using c109))
                     clear c109
                     as_aux_lemma =>
                     replace H := Option.bind_eq_some_iff.mp H
                     obtain ⟨t423, A1100, H⟩ := H
                     replace H : (if t423 = true then (if (t419 != t421) = true then (some false) else (if t418 = t420 then (if (t419 != t411) = true then (some false) else (if t403 = true then ((laws_tRises.f kj30 t402 a3 a4).bind fun t424 => (if t424 = true then (if a3 ≤ a4 then (if (t402.length : Int) = 0 then (some false) else (if 0 < (t402.length : Int) then (laws_FnLuckyNumbersOfAll.j6 kj30 a3 a4 a5 a6 t402 t403 t410 t411 t418 ((rd t402 0) != a3)) else (none))) else (laws_FnLuckyNumbersOfAll.j6 kj30 a3 a4 a5 a6 t402 t403 t410 t411 t418 false)) else (some false))) else (laws_FnLuckyNumbersOfAll.j6 kj30 a3 a4 a5 a6 t402 t403 t410 t411 t418 false))) else (some false))) else (some false)) = some r := H
                     have A110 := Aside0.mk A1100
                     clear A1100
                     by_cases c111 : t423 = true
                     ·subst c111
                      have H1 : (if (t419 != t421) = true then (some false) else (if t418 = t420 then (if (t419 != t411) = true then (some false) else (if t403 = true then ((laws_tRises.f kj30 t402 a3 a4).bind fun t424 => (if t424 = true then (if a3 ≤ a4 then (if (t402.length : Int) = 0 then (some false) else (if 0 < (t402.length : Int) then (laws_FnLuckyNumbersOfAll.j6 kj30 a3 a4 a5 a6 t402 t403 t410 t411 t418 ((rd t402 0) != a3)) else (none))) else (laws_FnLuckyNumbersOfAll.j6 kj30 a3 a4 a5 a6 t402 t403 t410 t411 t418 false)) else (some false))) else (laws_FnLuckyNumbersOfAll.j6 kj30 a3 a4 a5 a6 t402 t403 t410 t411 t418 false))) else (some false))) = some r := by rw [if_pos rfl] at H; exact H
                      clear H
                      have H := H1
                      clear H1
                      by_cases c112 : (t419 != t421) = true
                      ·rw [if_pos c112] at H
                       have c112b0 : (t419 != t421) = true := c112
                       (try (have c112b1 : decide (t419 = t421) = false := by simpa using c112))
                       (try (have c112b2 : (t419 == t421) = false := by simpa using c112))
                       (try (have c112b3 : ¬ (t419 = t421) := by simpa using c112))
                       clear c112
                       exact absurd (Option.some.inj H) (by rw [HRT.out]; decide)
                      ·rw [if_neg c112] at H
                       have c112b0 : (t419 != t421) = false := by simpa using c112
                       (try (have c112b1 : decide (t419 = t421) = true := by simpa using c112))
                       (try (have c112b2 : (t419 == t421) = true := by simpa using c112))
                       clear c112
                       by_cases c113 : t418 = t420
                       ·as_aux_lemma =>
                        rw [if_pos c113] at H
                        have c113b0 : (t418 == t420) = true := beq_iff_eq.mpr c113
                        have c113b1 : (t418 != t420) = false := bne_eq_false_iff_eq.mpr c113
                        clear c113
                        by_cases c114 : (t419 != t411) = true
                        ·rw [if_pos c114] at H
                         have c114b0 : (t419 != t411) = true := c114
                         (try (have c114b1 : decide (t419 = t411) = false := by simpa using c114))
                         (try (have c114b2 : (t419 == t411) = false := by simpa using c114))
                         (try (have c114b3 : ¬ (t419 = t411) := by simpa using c114))
                         clear c114
                         exact absurd (Option.some.inj H) (by rw [HRT.out]; decide)
                        ·rw [if_neg c114] at H
                         have c114b0 : (t419 != t411) = false := by simpa using c114
                         (try (have c114b1 : decide (t419 = t411) = true := by simpa using c114))
                         (try (have c114b2 : (t419 == t411) = true := by simpa using c114))
                         clear c114
                         have HC115 := Aside0.mk H
                         clear H
                         as_aux_lemma =>
                         go_upto_region 48 with (first | (go_at_call 33; (with_reducible refine (impl_IsLucky.calls kj30 a1 t394 t395 _ A92.out).mono ?_); rintro e w116 ⟨rfl, hb⟩; have n0_ := Aside0.mk (below_step (by repeat (first | (with_reducible first | exact HB.out | apply below_alloc | apply pw_below_drewN | apply below_drew1) | exact HB.out)) hb); clear HB; have HB := n0_; clear n0_; (try clear hb); (try clear hb2); (try clear hk); (try clear hi)) | (go_at_call 35; (with_reducible refine (spec_IsLucky.calls kj30 a1 t396 t397 _ A93.out).mono ?_); rintro e w117 ⟨rfl, hb⟩; have n0_ := Aside0.mk (below_step (by repeat (first | (with_reducible first | exact HB.out | apply below_alloc | apply pw_below_drewN | apply below_drew1) | exact HB.out)) hb); clear HB; have HB := n0_; clear n0_; (try clear hb); (try clear hb2); (try clear hk); (try clear hi)) | (go_at_call 34; (with_reducible refine (impl_RisingOfRank.calls kj30 a2 t398 t399 _ A94.out).mono ?_); rintro e w' ⟨rfl, ⟨nd, rfl⟩⟩; (try first | exact ⟨rfl, _, World.drewN_drewN _ _ _⟩ | exact ⟨rfl, _, Eq.trans (World.drewN_drewN _ _ _) (congrArg (World.drewN _) (Nat.add_assoc _ _ _))⟩)))
                         (try simp only [Act.put, List.setIfInBounds_toArray, List.set_cons_zero, List.set_cons_succ])
                         as_aux_lemma =>
                         go_upto_region 51 with (first | (go_at_call 36; (with_reducible refine (spec_RisingOfRank.calls kj30 a2 t400 t401 _ A95.out).mono ?_); rintro e w' ⟨rfl, ⟨nd, rfl⟩⟩; (try first | exact ⟨rfl, _, World.drewN_drewN _ _ _⟩ | exact ⟨rfl, _, Eq.trans (World.drewN_drewN _ _ _) (congrArg (World.drewN _) (Nat.add_assoc _ _ _))⟩)) | (go_at_call 37; (with_reducible refine (impl_OwnSteps.calls kj30 a3 a4 t402 t403 _ A96.out).mono ?_); rintro e w118 ⟨v404, rfl, ho0, hb⟩; have n0_ := Aside0.mk (Kd.R_lower ho0 (below_size (by repeat (first | (with_reducible first | exact HB.out | apply below_alloc | apply pw_below_drewN | apply below_drew1) | exact HB.out)))); have n1_ := Aside0.mk (below_step (by repeat (first | (with_reducible first | exact HB.out | apply below_alloc | apply pw_below_drewN | apply below_drew1) | exact HB.out)) hb); clear HB; have HO405 := n0_; have HB := n1_; clear n0_ n1_; (try clear hb); (try clear hb2); (try clear hk); (try clear hi); (try clear ho0)) | (go_at_call 38; (with_reducible refine (spec_OwnSteps.calls kj30 a3 a4 t406 t407 _ A97.out).mono ?_); rintro e w119 ⟨v408, rfl, ho0, hb⟩; have n0_ := Aside0.mk (Kd.R_elder' (by (with_reducible repeat (first | apply Kd.R_alloc | apply Kd.R_drewN | apply Kd.R_drew)); exact HO405.out) (Kd.R_base ho0) hb); have n1_ := Aside0.mk (Kd.R_lower (Kd.R_new' ho0 (Kd.R_lt (by (with_reducible repeat (first | apply Kd.R_alloc | apply Kd.R_drewN | apply Kd.R_drew)); exact HO405.out))) (below_size (by repeat (first | (with_reducible first | exact HB.out | apply below_alloc | apply pw_below_drewN | apply below_drew1) | exact HB.out)))); have n2_ := Aside0.mk (below_step (by repeat (first | (with_reducible first | exact HB.out | apply below_alloc | apply pw_below_drewN | apply below_drew1) | exact HB.out)) hb); clear HO405; clear HB; have HO405 := n0_; have HO409 := n1_; have HB := n2_; clear n0_ n1_ n2_; (try clear hb); (try clear hb2); (try clear hk); (try clear hi); (try clear ho0)))
                         (try simp only [Act.put, List.setIfInBounds_toArray, List.set_cons_zero, List.set_cons_succ])
                         as_aux_lemma =>
                         go_upto_region 54 with (first | (go_at_call 39; (with_reducible refine (impl_CircleOut.calls kj30 a5 a6 t410 t411 _ A98.out).mono ?_); rintro e w120 ⟨v412, rfl, ho0, hb⟩; have n0_ := Aside0.mk (Kd.R_elder' (by (with_reducible repeat (first | apply Kd.R_alloc | apply Kd.R_drewN | apply Kd.R_drew)); exact HO405.out) (Kd.R_base ho0) hb); have n1_ := Aside0.mk (Kd.R_elder' (by (with_reducible repeat (first | apply Kd.R_alloc | apply Kd.R_drewN | apply Kd.R_drew)); exact HO409.out) (Kd.R_base ho0) hb); have n2_ := Aside0.mk (Kd.R_lower (Kd.R_new' (Kd.R_new' ho0 (Kd.R_lt (by (with_reducible repeat (first | apply Kd.R_alloc | apply Kd.R_drewN | apply Kd.R_drew)); exact HO405.out))) (Kd.R_lt (by (with_reducible repeat (first | apply Kd.R_alloc | apply Kd.R_drewN | apply Kd.R_drew)); exact HO409.out))) (below_size (by repeat (first | (with_reducible first | exact HB.out | apply below_alloc | apply pw_below_drewN | apply below_drew1) | exact HB.out)))); have n3_ := Aside0.mk (below_step (by repeat (first | (with_reducible first | exact HB.out | apply below_alloc | apply pw_below_drewN | apply below_drew1) | exact HB.out)) hb); clear HO405; clear HO409; clear HB; have HO405 := n0_; have HO409 := n1_; have HO413 := n2_; have HB := n3_; clear n0_ n1_ n2_ n3_; (try clear hb); (try clear hb2); (try clear hk); (try clear hi); (try clear ho0)) | (go_at_call 40; (with_reducible refine (spec_CircleOut.calls kj30 a5 a6 t414 t415 _ A99.out).mono ?_); rintro e w121 ⟨v416, rfl, ho0, hb⟩; have n0_ := Aside0.mk (Kd.R_elder' (by (with_reducible repeat (first | apply Kd.R_alloc | apply Kd.R_drewN | apply Kd.R_drew)); exact HO405.out) (Kd.R_base ho0) hb); have n1_ := Aside0.mk (Kd.R_elder' (by (with_reducible repeat (first | apply Kd.R_alloc | apply Kd.R_drewN | apply Kd.R_drew)); exact HO409.out) (Kd.R_base ho0) hb); have n2_ := Aside0.mk (Kd.R_elder' (by (with_reducible repeat (first | apply Kd.R_alloc | apply Kd.R_drewN | apply Kd.R_drew)); exact HO413.out) (Kd.R_base ho0) hb); have n3_ := Aside0.mk (Kd.R_lower (Kd.R_new' (Kd.R_new' (Kd.R_new' ho0 (Kd.R_lt (by (with_reducible repeat (first | apply Kd.R_alloc | apply Kd.R_drewN | apply Kd.R_drew)); exact HO405.out))) (Kd.R_lt (by (with_reducible repeat (first | apply Kd.R_alloc | apply Kd.R_drewN | apply Kd.R_drew)); exact HO409.out))) (Kd.R_lt (by (with_reducible repeat (first | apply Kd.R_alloc | apply Kd.R_drewN | apply Kd.R_drew)); exact HO413.out))) (below_size (by repeat (first | (with_reducible first | exact HB.out | apply below_alloc | apply pw_below_drewN | apply below_drew1) | exact HB.out)))); have n4_ := Aside0.mk (below_step (by repeat (first | (with_reducible first | exact HB.out | apply below_alloc | apply pw_below_drewN | apply below_drew1) | exact HB.out)) hb); clear HO405; clear HO409; clear HO413; clear HB; have HO405 := n0_; have HO409 := n1_; have HO413 := n2_; have HO417 := n3_; have HB := n4_; clear n0_ n1_ n2_ n3_ n4_; (try clear hb); (try clear hb2); (try clear hk); (try clear hi); (try clear ho0)) | (go_at_call 41; (with_reducible refine (impl_LastOfCircle.calls kj30 a5 a6 t418 t419 _ A100.out).mono ?_); rintro e w' ⟨rfl, ⟨nd, rfl⟩⟩; (try first | exact ⟨rfl, _, World.drewN_drewN _ _ _⟩ | exact ⟨rfl, _, Eq.trans (World.drewN_drewN _ _ _) (congrArg (World.drewN _) (Nat.add_assoc _ _ _))⟩)))
                         (try simp only [Act.put, List.setIfInBounds_toArray, List.set_cons_zero, List.set_cons_succ])
                         as_aux_lemma =>
                         go_upto_region 57 with (first | (go_at_call 42; (with_reducible refine (spec_LastOfCircle.calls kj30 a5 a6 t420 t421 _ A101.out).mono ?_); rintro e w' ⟨rfl, ⟨nd, rfl⟩⟩; (try first | exact ⟨rfl, _, World.drewN_drewN _ _ _⟩ | exact ⟨rfl, _, Eq.trans (World.drewN_drewN _ _ _) (congrArg (World.drewN _) (Nat.add_assoc _ _ _))⟩); obtain ⟨Ao122, co122, eo122⟩ := Kd.R_slice HO405.out; subst eo122; obtain ⟨Ao123, co123, eo123⟩ := Kd.R_slice HO409.out; subst eo123) | (go_at_call 16; (with_reducible refine (laws_tSame.calls kj30 _ _ t402 _ _ t406 true _ ?side1 ?side2 ?side3 ?side4 A107.out).mono ?_); (case side1 => repeat (first | exact (Kd.R_reads' HO405.out).2.2 | (with_reducible refine Kd.C_alloc ?_ _) | (with_reducible refine Kd.C_drewN ?_ _) | (with_reducible refine Kd.C_drew ?_))); (case side2 => exact (Kd.R_reads' HO405.out).2.1); (case side3 => repeat (first | exact (Kd.R_reads' HO409.out).2.2 | (with_reducible refine Kd.C_alloc ?_ _) | (with_reducible refine Kd.C_drewN ?_ _) | (with_reducible refine Kd.C_drew ?_))); (case side4 => exact (Kd.R_reads' HO409.out).2.1); rintro e w' ⟨rfl, ⟨nd, rfl⟩⟩; (try first | exact ⟨rfl, _, World.drewN_drewN _ _ _⟩ | exact ⟨rfl, _, Eq.trans (World.drewN_drewN _ _ _) (congrArg (World.drewN _) (Nat.add_assoc _ _ _))⟩); obtain ⟨Ao124, co124, eo124⟩ := Kd.R_slice HO413.out; subst eo124; obtain ⟨Ao125, co125, eo125⟩ := Kd.R_slice HO417.out; subst eo125) | (go_at_call 16; (with_reducible refine (laws_tSame.calls kj30 _ _ t410 _ _ t414 true _ ?side1 ?side2 ?side3 ?side4 A110.out).mono ?_); (case side1 => repeat (first | exact (Kd.R_reads' HO413.out).2.2 | (with_reducible refine Kd.C_alloc ?_ _) | (with_reducible refine Kd.C_drewN ?_ _) | (with_reducible refine Kd.C_drew ?_))); (case side2 => exact (Kd.R_reads' HO413.out).2.1); (case side3 => repeat (first | exact (Kd.R_reads' HO417.out).2.2 | (with_reducible refine Kd.C_alloc ?_ _) | (with_reducible refine Kd.C_drewN ?_ _) | (with_reducible refine Kd.C_drew ?_))); (case side4 => exact (Kd.R_reads' HO417.out).2.1); rintro e w' ⟨rfl, ⟨nd, rfl⟩⟩; (try first | exact ⟨rfl, _, World.drewN_drewN _ _ _⟩ | exact ⟨rfl, _, Eq.trans (World.drewN_drewN _ _ _) (congrArg (World.drewN _) (Nat.add_assoc _ _ _))⟩)))
                         (try simp only [Act.put, List.setIfInBounds_toArray, List.set_cons_zero, List.set_cons_succ])
                         go_cut [413] from 401 to 413 (fun v413 wc => ∃ (kq : Nat) (x413_114 : Bool), v413 = .bool x413_114 ∧ Aside0 (laws_FnLuckyNumbersOfAll.j6 kq a3 a4 a5 a6 t402 t403 t410 t411 t418 x413_114 = some r) ∧ Aside0 (kq ≤ kj30) ∧ Aside0 (Kd.R (Kd.int .i64) 3 wc w.heap.size (fun k_ => some k_ ≠ ((.slice Ao124 t410.length co124) : Value).ownBlock) (.slice Ao122 t402.length co122) t402) ∧ Aside0 (Kd.R (Kd.int .i64) 3 wc w.heap.size (fun k_ => some k_ ≠ ((.slice Ao122 t402.length co122) : Value).ownBlock) (.slice Ao124 t410.length co124) t410) ∧ Aside0 (Below w.heap.size w wc))
                         case first => as_aux_lemma =>
                          have H := HC115.out
                          clear HC115
                          by_cases c126 : t403 = true
                          ·subst c126
                           have H1 : ((laws_tRises.f kj30 t402 a3 a4).bind fun t424 => (if t424 = true then (if a3 ≤ a4 then (if (t402.length : Int) = 0 then (some false) else (if 0 < (t402.length : Int) then (laws_FnLuckyNumbersOfAll.j6 kj30 a3 a4 a5 a6 t402 true t410 t411 t418 ((rd t402 0) != a3)) else (none))) else (laws_FnLuckyNumbersOfAll.j6 kj30 a3 a4 a5 a6 t402 true t410 t411 t418 false)) else (some false))) = some r := by rw [if_pos rfl] at H; exact H
                           clear H
                           have H := H1
                           clear H1
                           replace H := Option.bind_eq_some_iff.mp H
                           obtain ⟨t424, A1270, H⟩ := H
                           replace H : (if t424 = true then (if a3 ≤ a4 then (if (t402.length : Int) = 0 then (some false) else (if 0 < (t402.length : Int) then (laws_FnLuckyNumbersOfAll.j6 kj30 a3 a4 a5 a6 t402 true t410 t411 t418 ((rd t402 0) != a3)) else (none))) else (laws_FnLuckyNumbersOfAll.j6 kj30 a3 a4 a5 a6 t402 true t410 t411 t418 false)) else (some false)) = some r := H
                           have A127 := Aside0.mk A1270
                           clear A1270
                           by_cases c128 : t424 = true
                           ·subst c128
                            have H1 : (if a3 ≤ a4 then (if (t402.length : Int) = 0 then (some false) else (if 0 < (t402.length : Int) then (laws_FnLuckyNumbersOfAll.j6 kj30 a3 a4 a5 a6 t402 true t410 t411 t418 ((rd t402 0) != a3)) else (none))) else (laws_FnLuckyNumbersOfAll.j6 kj30 a3 a4 a5 a6 t402 true t410 t411 t418 false)) = some r := by rw [if_pos rfl] at H; exact H
                            clear H
                            have H := H1
                            clear H1
                            by_cases c129 : a3 ≤ a4
                            ·rw [if_pos c129] at H
                             have c129b0 : decide (a3 ≤ a4) = true := decide_eq_true c129
                             clear c129
                             (first | rw [c129b0] | (simp only [i64_w, i32_w]; rw [c129b0]) | skip)
                             by_cases c130 : (t402.length : Int) = 0
                             ·rw [if_pos c130] at H
                              have c130b0 : ((t402.length : Int) == 0) = true := beq_iff_eq.mpr c130
                              have c130b1 : ((t402.length : Int) != 0) = false := bne_eq_false_iff_eq.mpr c130
                              clear c130
                              exact absurd (Option.some.inj H) (by rw [HRT.out]; decide)
                             ·as_aux_lemma =>
                              rw [if_neg c130] at H
                              have c130b0 : ((t402.length : Int) == 0) = false := beq_eq_false_iff_ne.mpr c130
                              have c130b1 : ((t402.length : Int) != 0) = true := bne_iff_ne.mpr c130
                              have c130b2 : ¬ (t402 = []) := fun h_ => c130 (by rw [h_]; rfl)
                              by_cases c131 : 0 < (t402.length : Int)
                              ·rw [if_pos c131] at H
                               have c131b0 : decide (0 < (t402.length : Int)) = true := decide_eq_true c131
                               have c131b1 : decide (0 < t402.length) = true := decide_eq_true (by omega)
                               clear c131
                               have H' := Aside0.mk H
                               clear H
                               go_wp2_with (first | (go_at_call 19; (with_reducible refine (laws_tRises.calls kj30 _ _ t402 a3 a4 true _ ?side1 ?side2 A127.out).mono ?_); (case side1 => repeat (first | exact (Kd.R_reads' HO405.out).2.2 | (with_reducible refine Kd.C_alloc ?_ _) | (with_reducible refine Kd.C_drewN ?_ _) | (with_reducible refine Kd.C_drew ?_))); (case side2 => exact (Kd.R_reads' HO405.out).2.1); rintro e w' ⟨rfl, ⟨nd, rfl⟩⟩; (try first | exact ⟨rfl, _, World.drewN_drewN _ _ _⟩ | exact ⟨rfl, _, Eq.trans (World.drewN_drewN _ _ _) (congrArg (World.drewN _) (Nat.add_assoc _ _ _))⟩); have p425 : 0 ≤ (0 : Int) := (by omega); have q425 : 0 < (t402.length : Int) := of_decide_eq_true (by first | (with_reducible assumption) | assumption); obtain ⟨ad425, e425, hx425_0⟩ := Kd.at_int (Kd.R_reads' HO405.out).2.2 0 p425 q425; cases e425; have qi425 : (0 < t402.length) = True := eq_true (by omega); (try rw [show ((0 : Int)).toNat = 0 from rfl] at hx425_0); (try rw [Addr.add_zero'] at hx425_0); replace p425 := eq_true p425; replace q425 := eq_true q425))
                               refine Met.intro ?_
                               go_step
                               (repeat with_reducible apply ex32_)
                               (repeat apply Exists.intro)
                               refine ⟨?rel, rfl⟩
                               case rel => exact ⟨_, (((rd t402 0) != a3)), (by first | rfl | (simp; done) | (simp [*]; done)), H', ⟨by have := HJ30.out; first | omega | exact Nat.le_refl _⟩, ⟨by (with_reducible repeat (first | apply Kd.R_alloc | apply Kd.R_drewN | apply Kd.R_drew)); exact Kd.R_mono HO405.out (fun _ hk => hk.1.2)⟩, ⟨by (with_reducible repeat (first | apply Kd.R_alloc | apply Kd.R_drewN | apply Kd.R_drew)); exact Kd.R_mono HO413.out (fun _ hk => hk.1.1.2)⟩, ⟨by repeat (first | (with_reducible first | exact HB.out | apply below_alloc | apply pw_below_drewN | apply below_drew1) | exact HB.out)⟩⟩
                              ·rw [if_neg c131] at H
                               exact absurd H (by simp)
                            ·rw [if_neg c129] at H
                             have c129b0 : decide (a3 ≤ a4) = false := decide_eq_false c129
                             clear c129
                             (first | rw [c129b0] | (simp only [i64_w, i32_w]; rw [c129b0]) | skip)
                             have H' := Aside0.mk H
                             clear H
                             go_wp2_with (first | (go_at_call 19; (with_reducible refine (laws_tRises.calls kj30 _ _ t402 a3 a4 true _ ?side1 ?side2 A127.out).mono ?_); (case side1 => repeat (first | exact (Kd.R_reads' HO405.out).2.2 | (with_reducible refine Kd.C_alloc ?_ _) | (with_reducible refine Kd.C_drewN ?_ _) | (with_reducible refine Kd.C_drew ?_))); (case side2 => exact (Kd.R_reads' HO405.out).2.1); rintro e w' ⟨rfl, ⟨nd, rfl⟩⟩; (try first | exact ⟨rfl, _, World.drewN_drewN _ _ _⟩ | exact ⟨rfl, _, Eq.trans (World.drewN_drewN _ _ _) (congrArg (World.drewN _) (Nat.add_assoc _ _ _))⟩)))
                             refine Met.intro ?_
                             go_step
                             (repeat with_reducible apply ex32_)
                             (repeat apply Exists.intro)
                             refine ⟨?rel, rfl⟩
                             case rel => exact ⟨_, (false), (by first | rfl | (simp; done) | (simp [*]; done)), H', ⟨by have := HJ30.out; first | omega | exact Nat.le_refl _⟩, ⟨by (with_reducible repeat (first | apply Kd.R_alloc | apply Kd.R_drewN | apply Kd.R_drew)); exact Kd.R_mono HO405.out (fun _ hk => hk.1.2)⟩, ⟨by (with_reducible repeat (first | apply Kd.R_alloc | apply Kd.R_drewN | apply Kd.R_drew)); exact Kd.R_mono HO413.out (fun _ hk => hk.1.1.2)⟩, ⟨by repeat (first | (with_reducible first | exact HB.out | apply below_alloc | apply pw_below_drewN | apply below_drew1) | exact HB.out)⟩⟩
                           ·replace c128 := Bool.eq_false_iff.mpr c128
                            subst c128
                            have H1 : (some false) = some r := by rw [if_neg (show ¬ (false = true) by decide)] at H; exact H
                            clear H
                            have H := H1
                            clear H1
                            exact absurd (Option.some.inj H) (by rw [HRT.out]; decide)
                          ·as_aux_lemma =>
                           replace c126 := Bool.eq_false_iff.mpr c126
                           subst c126
                           have H1 : (laws_FnLuckyNumbersOfAll.j6 kj30 a3 a4 a5 a6 t402 false t410 t411 t418 false) = some r := by rw [if_neg (show ¬ (false = true) by decide)] at H; exact H
                           clear H
                           have H := H1
                           clear H1
                           have H' := Aside0.mk H
                           clear H
                           go_wp2
                           repeat (go_quiet (fail); try go_wp2)
                           refine Met.intro ?_
                           go_step
                           (repeat with_reducible apply ex32_)
                           (repeat apply Exists.intro)
                           refine ⟨?rel, rfl⟩
                           case rel => exact ⟨_, (false), (by first | rfl | (simp; done) | (simp [*]; done)), H', ⟨by have := HJ30.out; first | omega | exact Nat.le_refl _⟩, ⟨by (with_reducible repeat (first | apply Kd.R_alloc | apply Kd.R_drewN | apply Kd.R_drew)); exact Kd.R_mono HO405.out (fun _ hk => hk.1.2)⟩, ⟨by (with_reducible repeat (first | apply Kd.R_alloc | apply Kd.R_drewN | apply Kd.R_drew)); exact Kd.R_mono HO413.out (fun _ hk => hk.1.1.2)⟩, ⟨by repeat (first | (with_reducible first | exact HB.out | apply below_alloc | apply pw_below_drewN | apply below_drew1) | exact HB.out)⟩⟩
                         case rest => as_aux_lemma =>
                          clear HC115
                          obtain ⟨kq, x413_114, rfl, HA, HJ114, HO_53, HO_57, HB⟩ := hcut
                          cases kq with
                          | zero => exact absurd HA.out (by simp [laws_FnLuckyNumbersOfAll.j6])
                          | succ kj114 =>
                           have H := HA.out
                           clear HA
                           simp only [laws_FnLuckyNumbersOfAll.j6] at H
                           by_cases c132 : x413_114 = true
                           ·subst c132
                            have H1 : (some false) = some r := by rw [if_pos rfl] at H; exact H
                            clear H
                            have H := H1
                            clear H1
                            exact absurd (Option.some.inj H) (by rw [HRT.out]; decide)
                           ·replace c132 := Bool.eq_false_iff.mpr c132
                            subst c132
                            have H1 : (if t403 = true then (laws_FnLuckyNumbersOfAll.j7 kj114 a4 a5 a6 t402 t410 t411 t418 (a3 == 2)) else (laws_FnLuckyNumbersOfAll.j7 kj114 a4 a5 a6 t402 t410 t411 t418 false)) = some r := by rw [if_neg (show ¬ (false = true) by decide)] at H; exact H
                            clear H
                            have H := H1
                            clear H1
                            have HC133 := Aside0.mk H
                            clear H
                            as_aux_lemma =>
                            go_upto_region 59 with (fail)
                            repeat (go_quiet (fail); go_upto_region 59 with (fail))
                            go_cut [418] from 406 to 418 (fun v418 wc => ∃ (kq : Nat) (x418_132 : Bool), v418 = .bool x418_132 ∧ Aside0 (laws_FnLuckyNumbersOfAll.j7 kq a4 a5 a6 t402 t410 t411 t418 x418_132 = some r) ∧ Aside0 (kq ≤ kj114) ∧ Aside0 (Kd.R (Kd.int .i64) 3 wc w.heap.size (fun k_ => some k_ ≠ ((.slice Ao124 t410.length co124) : Value).ownBlock) (.slice Ao122 t402.length co122) t402) ∧ Aside0 (Kd.R (Kd.int .i64) 3 wc w.heap.size (fun k_ => some k_ ≠ ((.slice Ao122 t402.length co122) : Value).ownBlock) (.slice Ao124 t410.length co124) t410) ∧ Aside0 (Below w.heap.size w wc))
                            case first => as_aux_lemma =>
                             have H := HC133.out
                             clear HC133
                             by_cases c134 : t403 = true
                             ·subst c134
                              have H1 : (laws_FnLuckyNumbersOfAll.j7 kj114 a4 a5 a6 t402 t410 t411 t418 (a3 == 2)) = some r := by rw [if_pos rfl] at H; exact H
                              clear H
                              have H := H1
                              clear H1
                              have H' := Aside0.mk H
                              clear H
                              go_wp2
                              repeat (go_quiet (fail); try go_wp2)
                              refine Met.intro ?_
                              go_step
                              (repeat with_reducible apply ex32_)
                              (repeat apply Exists.intro)
                              refine ⟨?rel, rfl⟩
                              case rel => exact ⟨_, ((a3 == 2)), (by first | rfl | (simp; done) | (simp [*]; done)), H', ⟨by have := HJ30.out; have := HJ114.out; first | omega | exact Nat.le_refl _⟩, ⟨by (with_reducible repeat (first | apply Kd.R_alloc | apply Kd.R_drewN | apply Kd.R_drew)); exact HO_53.out⟩, ⟨by (with_reducible repeat (first | apply Kd.R_alloc | apply Kd.R_drewN | apply Kd.R_drew)); exact HO_57.out⟩, ⟨by repeat (first | (with_reducible first | exact HB.out | apply below_alloc | apply pw_below_drewN | apply below_drew1) | exact HB.out)⟩⟩
                             ·replace c134 := Bool.eq_false_iff.mpr c134
                              subst c134
                              have H1 : (laws_FnLuckyNumbersOfAll.j7 kj114 a4 a5 a6 t402 t410 t411 t418 false) = some r := by rw [if_neg (show ¬ (false = true) by decide)] at H; exact H
                              clear H
                              have H := H1
                              clear H1
                              have H' := Aside0.mk H
                              clear H
                              go_wp2
                              repeat (go_quiet (fail); try go_wp2)
                              refine Met.intro ?_
                              go_step
                              (repeat with_reducible apply ex32_)
                              (repeat apply Exists.intro)
                              refine ⟨?rel, rfl⟩
                              case rel => exact ⟨_, (false), (by first | rfl | (simp; done) | (simp [*]; done)), H', ⟨by have := HJ30.out; have := HJ114.out; first | omega | exact Nat.le_refl _⟩, ⟨by (with_reducible repeat (first | apply Kd.R_alloc | apply Kd.R_drewN | apply Kd.R_drew)); exact HO_53.out⟩, ⟨by (with_reducible repeat (first | apply Kd.R_alloc | apply Kd.R_drewN | apply Kd.R_drew)); exact HO_57.out⟩, ⟨by repeat (first | (with_reducible first | exact HB.out | apply below_alloc | apply pw_below_drewN | apply below_drew1) | exact HB.out)⟩⟩
                            case rest => as_aux_lemma =>
                             clear HC133
                             obtain ⟨kq, x418_132, rfl, HA, HJ132, HO_53, HO_57, HB⟩ := hcut
                             cases kq with
                             | zero => exact absurd HA.out (by simp [laws_FnLuckyNumbersOfAll.j7])
                             | succ kj132 =>
                              have H := HA.out
                              clear HA
                              simp only [laws_FnLuckyNumbersOfAll.j7] at H
                              have HC135 := Aside0.mk H
                              clear H
                              as_aux_lemma =>
                              go_upto_if 418 with (fail)
                              repeat (go_quiet (fail); go_upto_if 418 with (fail))
                              go_cut [] from 406 to 418 (fun wc => ∃ (kq : Nat), Aside0 (laws_FnLuckyNumbersOfAll.j9 kq a5 a6 t410 t411 t418 = some r) ∧ Aside0 (kq ≤ kj132) ∧ Aside0 (Kd.R (Kd.int .i64) 3 wc w.heap.size (fun _ => True) (.slice Ao124 t410.length co124) t410) ∧ Aside0 (Below w.heap.size w wc))
                              case first => as_aux_lemma =>
                               have H := HC135.out
                               clear HC135
                               by_cases c136 : x418_132 = true
                               ·subst c136
                                have H1 : ((some (([2, 3, 5, 7, 11, 13, 17, 23, 25] : List Int) : List Int)).bind fun y426 => (laws_FnLuckyNumbersOfAll.l4 kj132 a4 a5 a6 t402 t410 t411 t418 y426 (y426.length : Int) 0)) = some r := by rw [if_pos rfl] at H; exact H
                                clear H
                                have H := H1
                                clear H1
                                obtain ⟨y426, hy426⟩ : ∃ y_ : List Int, y_ = (([2, 3, 5, 7, 11, 13, 17, 23, 25] : List Int)) := ⟨_, rfl⟩
                                replace H : (laws_FnLuckyNumbersOfAll.l4 kj132 a4 a5 a6 t402 t410 t411 t418 y426 (y426.length : Int) 0) = some r := by first | (rw [hy426]; with_reducible exact H) | (have H2_ := (Option.bind_some _ _).symm.trans H; rw [hy426]; with_reducible exact H2_) | (have H2_ := (Option.bind_some _ _).symm.trans H; with_reducible exact H2_) | with_reducible exact H | (rw [hy426]; exact H) | exact H
                                have Ny426 := Aside0.mk hy426
                                clear hy426
                                have H' := Aside0.mk H
                                clear H
                                go_wp2_with (first | ((with_reducible refine gate_dst (N := 419) rfl ?_); (try (refine gate_guard (by rfl) ?_; dsimp only)); refine Kd.R_lit (Kd.int .i64) _ 3 ?hg (N := 419) ?hd (xs := ([2, 3, 5, 7, 11, 13, 17, 23, 25] : List Int)) (inner := [.int .i64 2, .int .i64 3, .int .i64 5, .int .i64 7, .int .i64 11, .int .i64 13, .int .i64 17, .int .i64 23, .int .i64 25]) (ok := fun _ => True) (okp := fun _ => True) ?hr ?hp (fun _ hk => hk) trivial (Below.refl _ _) (Nat.le_refl _) (by simp) ?_; (case hd => rfl); (case hg => rfl); (case hr => generalize Act.mk _ _ = a_; as_aux_lemma => kernel_rfl); (case hp => exact (Reps.one (show Kd.M (Kd.int .i64) _ _ _ 2 [.int .i64 2] from rfl) (Reps.one (show Kd.M (Kd.int .i64) _ _ _ 3 [.int .i64 3] from rfl) (Reps.one (show Kd.M (Kd.int .i64) _ _ _ 5 [.int .i64 5] from rfl) (Reps.one (show Kd.M (Kd.int .i64) _ _ _ 7 [.int .i64 7] from rfl) (Reps.one (show Kd.M (Kd.int .i64) _ _ _ 11 [.int .i64 11] from rfl) (Reps.one (show Kd.M (Kd.int .i64) _ _ _ 13 [.int .i64 13] from rfl) (Reps.one (show Kd.M (Kd.int .i64) _ _ _ 17 [.int .i64 17] from rfl) (Reps.one (show Kd.M (Kd.int .i64) _ _ _ 23 [.int .i64 23] from rfl) (Reps.one (show Kd.M (Kd.int .i64) _ _ _ 25 [.int .i64 25] from rfl) (Reps.none _ _))))))))))); intro v427 w137 ho138 hb hg_ hnew_; clear hg_ hnew_; (first | rw [← Ny426.out] at ho138 | (simp only [Int.reduceToNat] at ho138; rw [← Ny426.out] at ho138)); have n0_ := Aside0.mk (Kd.R_elder' (by (with_reducible repeat (first | apply Kd.R_alloc | apply Kd.R_drewN | apply Kd.R_drew)); exact HO_53.out) (Kd.R_base ho138) hb); have n1_ := Aside0.mk (Kd.R_elder' (by (with_reducible repeat (first | apply Kd.R_alloc | apply Kd.R_drewN | apply Kd.R_drew)); exact HO_57.out) (Kd.R_base ho138) hb); have n2_ := Aside0.mk (Kd.R_lower (Kd.R_new' (Kd.R_new' ho138 (Kd.R_lt (by (with_reducible repeat (first | apply Kd.R_alloc | apply Kd.R_drewN | apply Kd.R_drew)); exact HO_53.out))) (Kd.R_lt (by (with_reducible repeat (first | apply Kd.R_alloc | apply Kd.R_drewN | apply Kd.R_drew)); exact HO_57.out))) (below_size (by repeat (first | (with_reducible first | exact HB.out | apply below_alloc | apply pw_below_drewN | apply below_drew1) | exact HB.out)))); have n3_ := Aside0.mk (below_step (by repeat (first | (with_reducible first | exact HB.out | apply below_alloc | apply pw_below_drewN | apply below_drew1) | exact HB.out)) hb); clear HO_53; clear HO_57; clear HB; have HO_53 := n0_; have HO_57 := n1_; have HO428 := n2_; have HB := n3_; clear n0_ n1_ n2_ n3_; clear hb ho138; obtain ⟨Ao139, co139, eo139⟩ := Kd.R_slice HO428.out; subst eo139))
                                as_aux_lemma =>
                                go_loopg [421] kj132 (fun kq v421 w' => ∃ (x421_4 : Int), v421 = .int .i64 x421_4 ∧ Aside0 (laws_FnLuckyNumbersOfAll.l4 kq a4 a5 a6 t402 t410 t411 t418 y426 (y426.length : Int) x421_4 = some r) ∧ Aside0 (kq ≤ kj132) ∧ Aside0 (Kd.R (Kd.int .i64) 3 w' w.heap.size (fun k_ => some k_ ≠ ((.slice Ao124 t410.length co124) : Value).ownBlock ∧ some k_ ≠ ((.slice Ao139 y426.length co139) : Value).ownBlock) (.slice Ao122 t402.length co122) t402) ∧ Aside0 (Kd.R (Kd.int .i64) 3 w' w.heap.size (fun k_ => some k_ ≠ ((.slice Ao122 t402.length co122) : Value).ownBlock ∧ some k_ ≠ ((.slice Ao139 y426.length co139) : Value).ownBlock) (.slice Ao124 t410.length co124) t410) ∧ Aside0 (Kd.R (Kd.int .i64) 3 w' w.heap.size (fun k_ => some k_ ≠ ((.slice Ao122 t402.length co122) : Value).ownBlock ∧ some k_ ≠ ((.slice Ao124 t410.length co124) : Value).ownBlock) (.slice Ao139 y426.length co139) y426) ∧ Aside0 (Below w.heap.size w w'))
                                case atStart => exact ⟨(0), (by first | rfl | (simp; done) | (simp [*]; done)), H', ⟨Nat.le_refl _⟩, ⟨by (with_reducible repeat (first | apply Kd.R_alloc | apply Kd.R_drewN | apply Kd.R_drew)); exact HO_53.out⟩, ⟨by (with_reducible repeat (first | apply Kd.R_alloc | apply Kd.R_drewN | apply Kd.R_drew)); exact HO_57.out⟩, ⟨by (with_reducible repeat (first | apply Kd.R_alloc | apply Kd.R_drewN | apply Kd.R_drew)); exact Kd.R_mono HO428.out (fun _ hk => ⟨hk.1.2, hk.2⟩)⟩, ⟨by repeat (first | (with_reducible first | exact HB.out | apply below_alloc | apply pw_below_drewN | apply below_drew1) | exact HB.out)⟩⟩
                                case round => as_aux_lemma =>
                                 clear H'
                                 obtain ⟨x421_4, rfl, HA, HK4, HO_53, HO_57, HO_419, HB⟩ := hrel
                                 cases gk with
                                 | zero => exact absurd HA.out (by simp [laws_FnLuckyNumbersOfAll.l4])
                                 | succ k4 =>
                                  have H := HA.out
                                  clear HA
                                  simp only [laws_FnLuckyNumbersOfAll.l4] at H
                                  by_cases c140 : x421_4 < (y426.length : Int)
                                  ·rw [if_pos c140] at H
                                   have c140b0 : decide (x421_4 < (y426.length : Int)) = true := decide_eq_true c140
                                   clear c140
                                   (first | rw [c140b0] | (simp only [i64_w, i32_w]; rw [c140b0]) | skip)
                                   by_cases c141 : 0 ≤ x421_4
                                   ·rw [if_pos c141] at H
                                    have c141b0 : decide (0 ≤ x421_4) = true := decide_eq_true c141
                                    clear c141
                                    by_cases c142 : x421_4 < (y426.length : Int)
                                    ·rw [if_pos c142] at H
                                     have c142b0 : decide (x421_4 < (y426.length : Int)) = true := decide_eq_true c142
                                     clear c142
                                     by_cases c143 : (rd y426 x421_4) ≤ a4
                                     ·rw [if_pos c143] at H
                                      have c143b0 : decide ((rd y426 x421_4) ≤ a4) = true := decide_eq_true c143
                                      clear c143
                                      by_cases c144 : x421_4 ≥ (t402.length : Int)
                                      ·rw [if_pos c144] at H
                                       have c144b0 : decide ((t402.length : Int) ≤ x421_4) = true := decide_eq_true c144
                                       clear c144
                                       exact absurd (Option.some.inj H) (by rw [HRT.out]; decide)
                                      ·as_aux_lemma =>
                                       rw [if_neg c144] at H
                                       have c144b0 : decide ((t402.length : Int) ≤ x421_4) = false := decide_eq_false c144
                                       clear c144
                                       by_cases c145 : x421_4 < (t402.length : Int)
                                       ·rw [if_pos c145] at H
                                        have c145b0 : decide (x421_4 < (t402.length : Int)) = true := decide_eq_true c145
                                        clear c145
                                        by_cases c146 : (rd t402 x421_4) = (rd y426 x421_4)
                                        ·rw [if_pos c146] at H
                                         have c146b0 : ((rd t402 x421_4) == (rd y426 x421_4)) = true := beq_iff_eq.mpr c146
                                         have c146b1 : ((rd t402 x421_4) != (rd y426 x421_4)) = false := bne_eq_false_iff_eq.mpr c146
                                         clear c146
                                         have H' := Aside0.mk H
                                         clear H
                                         have p429 : 0 ≤ (x421_4 : Int) := of_decide_eq_true (by first | (with_reducible assumption) | assumption)
                                         have q429 : x421_4 < (y426.length : Int) := of_decide_eq_true (by first | (with_reducible assumption) | assumption)
                                         obtain ⟨ad429, e429, hx429_0⟩ := Kd.at_int (Kd.R_reads' HO_419.out).2.2 x421_4 p429 q429
                                         cases e429
                                         replace p429 := eq_true p429
                                         replace q429 := eq_true q429
                                         have p430 : 0 ≤ (x421_4 : Int) := of_decide_eq_true (by first | (with_reducible assumption) | assumption)
                                         have q430 : x421_4 < (t402.length : Int) := of_decide_eq_true (by first | (with_reducible assumption) | assumption)
                                         obtain ⟨ad430, e430, hx430_0⟩ := Kd.at_int (Kd.R_reads' HO_53.out).2.2 x421_4 p430 q430
                                         cases e430
                                         replace p430 := eq_true p430
                                         replace q430 := eq_true q430
                                         go_wp2
                                         repeat (go_quiet (fail); try go_wp2)
                                         refine Handed.intro k4 ?measure ?_
                                         rotate_left
                                         go_step
                                         (repeat with_reducible apply ex32_)
                                         (repeat apply Exists.intro)
                                         refine ⟨?rel, rfl⟩
                                         case measure => have := HJ30.out; have := HJ114.out; have := HJ132.out; have := HK4.out; omega
                                         case rel => exact ⟨(wrap64 (x421_4 + 1)), (by first | rfl | (simp; done) | (simp [*]; done)), H', ⟨by have := HJ30.out; have := HJ114.out; have := HJ132.out; have := HK4.out; omega⟩, ⟨by (with_reducible repeat (first | apply Kd.R_alloc | apply Kd.R_drewN | apply Kd.R_drew)); exact HO_53.out⟩, ⟨by (with_reducible repeat (first | apply Kd.R_alloc | apply Kd.R_drewN | apply Kd.R_drew)); exact HO_57.out⟩, ⟨by (with_reducible repeat (first | apply Kd.R_alloc | apply Kd.R_drewN | apply Kd.R_drew)); exact HO_419.out⟩, ⟨by repeat (first | (with_reducible first | exact HB.out | apply below_alloc | apply pw_below_drewN | apply below_drew1) | exact HB.out)⟩⟩
                                        ·rw [if_neg c146] at H
                                         have c146b0 : ((rd t402 x421_4) == (rd y426 x421_4)) = false := beq_eq_false_iff_ne.mpr c146
                                         have c146b1 : ((rd t402 x421_4) != (rd y426 x421_4)) = true := bne_iff_ne.mpr c146
                                         exact absurd (Option.some.inj H) (by rw [HRT.out]; decide)
                                       ·rw [if_neg c145] at H
                                        exact absurd H (by simp)
                                     ·as_aux_lemma =>
                                      rw [if_neg c143] at H
                                      have c143b0 : decide ((rd y426 x421_4) ≤ a4) = false := decide_eq_false c143
                                      clear c143
                                      have H' := Aside0.mk H
                                      clear H
                                      have p429 : 0 ≤ (x421_4 : Int) := of_decide_eq_true (by first | (with_reducible assumption) | assumption)
                                      have q429 : x421_4 < (y426.length : Int) := of_decide_eq_true (by first | (with_reducible assumption) | assumption)
                                      obtain ⟨ad429, e429, hx429_0⟩ := Kd.at_int (Kd.R_reads' HO_419.out).2.2 x421_4 p429 q429
                                      cases e429
                                      replace p429 := eq_true p429
                                      replace q429 := eq_true q429
                                      go_wp2
                                      repeat (go_quiet (fail); try go_wp2)
                                      refine Handed.intro k4 ?measure ?_
                                      rotate_left
                                      go_step
                                      (repeat with_reducible apply ex32_)
                                      (repeat apply Exists.intro)
                                      refine ⟨?rel, rfl⟩
                                      case measure => have := HJ30.out; have := HJ114.out; have := HJ132.out; have := HK4.out; omega
                                      case rel => exact ⟨(wrap64 (x421_4 + 1)), (by first | rfl | (simp; done) | (simp [*]; done)), H', ⟨by have := HJ30.out; have := HJ114.out; have := HJ132.out; have := HK4.out; omega⟩, ⟨by (with_reducible repeat (first | apply Kd.R_alloc | apply Kd.R_drewN | apply Kd.R_drew)); exact HO_53.out⟩, ⟨by (with_reducible repeat (first | apply Kd.R_alloc | apply Kd.R_drewN | apply Kd.R_drew)); exact HO_57.out⟩, ⟨by (with_reducible repeat (first | apply Kd.R_alloc | apply Kd.R_drewN | apply Kd.R_drew)); exact HO_419.out⟩, ⟨by repeat (first | (with_reducible first | exact HB.out | apply below_alloc | apply pw_below_drewN | apply below_drew1) | exact HB.out)⟩⟩
                                    ·rw [if_neg c142] at H
                                     exact absurd H (by simp)
                                   ·rw [if_neg c141] at H
                                    exact absurd H (by simp)
                                  ·rw [if_neg c140] at H
                                   have c140b0 : decide (x421_4 < (y426.length : Int)) = false := decide_eq_false c140
                                   clear c140
                                   (first | rw [c140b0] | (simp only [i64_w, i32_w]; rw [c140b0]) | skip)
                                   have H' := Aside0.mk H
                                   clear H
                                   go_wp2
                                   repeat (go_quiet (fail); try go_wp2)
                                   refine Met.intro ?_
                                   go_step
                                   (repeat with_reducible apply ex32_)
                                   (repeat apply Exists.intro)
                                   refine ⟨?rel, rfl⟩
                                   case rel => exact ⟨_, H', ⟨by have := HJ30.out; have := HJ114.out; have := HJ132.out; have := HK4.out; first | omega | exact Nat.le_refl _⟩, ⟨by (with_reducible repeat (first | apply Kd.R_alloc | apply Kd.R_drewN | apply Kd.R_drew)); exact Kd.R_mono HO_57.out (fun _ hk => trivial)⟩, ⟨by repeat (first | (with_reducible first | exact HB.out | apply below_alloc | apply pw_below_drewN | apply below_drew1) | exact HB.out)⟩⟩
                               ·as_aux_lemma =>
                                replace c136 := Bool.eq_false_iff.mpr c136
                                subst c136
                                have H1 : (laws_FnLuckyNumbersOfAll.j9 kj132 a5 a6 t410 t411 t418) = some r := by rw [if_neg (show ¬ (false = true) by decide)] at H; exact H
                                clear H
                                have H := H1
                                clear H1
                                have H' := Aside0.mk H
                                clear H
                                go_wp2
                                repeat (go_quiet (fail); try go_wp2)
                                refine Met.intro ?_
                                go_step
                                (repeat with_reducible apply ex32_)
                                (repeat apply Exists.intro)
                                refine ⟨?rel, rfl⟩
                                case rel => exact ⟨_, H', ⟨by have := HJ30.out; have := HJ114.out; have := HJ132.out; first | omega | exact Nat.le_refl _⟩, ⟨by (with_reducible repeat (first | apply Kd.R_alloc | apply Kd.R_drewN | apply Kd.R_drew)); exact Kd.R_mono HO_57.out (fun _ hk => trivial)⟩, ⟨by repeat (first | (with_reducible first | exact HB.out | apply below_alloc | apply pw_below_drewN | apply below_drew1) | exact HB.out)⟩⟩
                              case rest => as_aux_lemma =>
                               clear HC135
                               obtain ⟨kq, HA, HJ134, HO_57, HB⟩ := hcut
                               cases kq with
                               | zero => exact absurd HA.out (by simp [laws_FnLuckyNumbersOfAll.j9])
                               | succ kj134 =>
                                have H := HA.out
                                clear HA
                                simp only [laws_FnLuckyNumbersOfAll.j9] at H
                                by_cases c147 : t411 = true
                                ·subst c147
                                 have H1 : (if (t410.length : Int) = a5 then (if 0 ≤ (wrap64 (a5 - 1)) then (if (wrap64 (a5 - 1)) < (t410.length : Int) then (if (rd t410 (wrap64 (a5 - 1))) = t418 then (if 0 < (t410.length : Int) then (if a5 = 0 then (none) else (if (rd t410 0) = (wrap64 ((Int.tmod (wrap64 (a6 - 1)) a5) + 1)) then (laws_FnLuckyNumbersOfAll.l5 kj134 a5 t410 1) else (some false))) else (none)) else (some false)) else (none)) else (none)) else (some false)) = some r := by rw [if_pos rfl] at H; exact H
                                 clear H
                                 have H := H1
                                 clear H1
                                 by_cases c148 : (t410.length : Int) = a5
                                 ·rw [if_pos c148] at H
                                  have c148b0 : ((t410.length : Int) == a5) = true := beq_iff_eq.mpr c148
                                  have c148b1 : ((t410.length : Int) != a5) = false := bne_eq_false_iff_eq.mpr c148
                                  clear c148
                                  obtain ⟨ji149, hji149⟩ : ∃ j_ : Int, (wrap64 (a5 - 1)) = j_ := ⟨_, rfl⟩
                                  replace H : (if 0 ≤ (ji149) then (if (ji149) < (t410.length : Int) then (if (rd t410 (ji149)) = t418 then (if 0 < (t410.length : Int) then (if a5 = 0 then (none) else (if (rd t410 0) = (wrap64 ((Int.tmod (wrap64 (a6 - 1)) a5) + 1)) then (laws_FnLuckyNumbersOfAll.l5 kj134 a5 t410 1) else (some false))) else (none)) else (some false)) else (none)) else (none)) = some r := by first | (rw [hji149] at H; exact H) | (simp only [hji149] at H ⊢; exact H)
                                  have hji149w : (IntKind.i64.wrap (a5 - 1)) = ji149 := (i64_w _).trans hji149
                                  by_cases c150 : 0 ≤ (ji149)
                                  ·rw [if_pos c150] at H
                                   have c150b0 : decide (0 ≤ (ji149)) = true := decide_eq_true c150
                                   clear c150
                                   by_cases c151 : (ji149) < (t410.length : Int)
                                   ·as_aux_lemma =>
                                    rw [if_pos c151] at H
                                    have c151b0 : decide ((ji149) < (t410.length : Int)) = true := decide_eq_true c151
                                    clear c151
                                    by_cases c152 : (rd t410 (ji149)) = t418
                                    ·rw [if_pos c152] at H
                                     have c152b0 : ((rd t410 (ji149)) == t418) = true := beq_iff_eq.mpr c152
                                     have c152b1 : ((rd t410 (ji149)) != t418) = false := bne_eq_false_iff_eq.mpr c152
                                     clear c152
                                     by_cases c153 : 0 < (t410.length : Int)
                                     ·rw [if_pos c153] at H
                                      have c153b0 : decide (0 < (t410.length : Int)) = true := decide_eq_true c153
                                      have c153b1 : decide (0 < t410.length) = true := decide_eq_true (by omega)
                                      clear c153
                                      by_cases c154 : a5 = 0
                                      ·rw [if_pos c154] at H
                                       exact absurd H (by simp)
                                      ·rw [if_neg c154] at H
                                       have c154b0 : (a5 == 0) = false := beq_eq_false_iff_ne.mpr c154
                                       have c154b1 : (a5 != 0) = true := bne_iff_ne.mpr c154
                                       by_cases c155 : (rd t410 0) = (wrap64 ((Int.tmod (wrap64 (a6 - 1)) a5) + 1))
                                       ·rw [if_pos c155] at H
                                        have c155b0 : ((rd t410 0) == (wrap64 ((Int.tmod (wrap64 (a6 - 1)) a5) + 1))) = true := beq_iff_eq.mpr c155
                                        have c155b1 : ((rd t410 0) != (wrap64 ((Int.tmod (wrap64 (a6 - 1)) a5) + 1))) = false := bne_eq_false_iff_eq.mpr c155
                                        clear c155
                                        have H' := Aside0.mk H
                                        clear H
                                        have p431 : 0 ≤ ((ji149) : Int) := of_decide_eq_true (by first | (with_reducible assumption) | assumption)
                                        have q431 : (ji149) < (t410.length : Int) := of_decide_eq_true (by first | (with_reducible assumption) | assumption)
                                        obtain ⟨ad431, e431, hx431_0⟩ := Kd.at_int (Kd.R_reads' HO_57.out).2.2 (ji149) p431 q431
                                        cases e431
                                        replace p431 := eq_true p431
                                        replace q431 := eq_true q431
                                        have p432 : 0 ≤ (0 : Int) := (by omega)
                                        have q432 : 0 < (t410.length : Int) := of_decide_eq_true (by first | (with_reducible assumption) | assumption)
                                        obtain ⟨ad432, e432, hx432_0⟩ := Kd.at_int (Kd.R_reads' HO_57.out).2.2 0 p432 q432
                                        obtain rfl : ad431 = ad432 := (by injection e432)
                                        have qi432 : (0 < t410.length) = True := eq_true (by omega)
                                        (try rw [show ((0 : Int)).toNat = 0 from rfl] at hx432_0)
                                        (try rw [Addr.add_zero'] at hx432_0)
                                        replace p432 := eq_true p432
                                        replace q432 := eq_true q432
                                        go_wp2
                                        repeat (go_quiet (fail); try go_wp2)
                                        as_aux_lemma =>
                                        go_loopg [67] kj134 (fun kq v67 w' => ∃ (x67_5 : Int), v67 = .int .i64 x67_5 ∧ Aside0 (laws_FnLuckyNumbersOfAll.l5 kq a5 t410 x67_5 = some r) ∧ Aside0 (kq ≤ kj134) ∧ Aside0 (Kd.R (Kd.int .i64) 3 w' w.heap.size (fun _ => True) (.slice (some ad431) t410.length co124) t410) ∧ Aside0 (Below w.heap.size w w'))
                                        case atStart => exact ⟨(1), (by first | rfl | (simp; done) | (simp [*]; done)), H', ⟨Nat.le_refl _⟩, ⟨by (with_reducible repeat (first | apply Kd.R_alloc | apply Kd.R_drewN | apply Kd.R_drew)); exact HO_57.out⟩, ⟨by repeat (first | (with_reducible first | exact HB.out | apply below_alloc | apply pw_below_drewN | apply below_drew1) | exact HB.out)⟩⟩
                                        case round => as_aux_lemma =>
                                         clear H'
                                         obtain ⟨x67_5, rfl, HA, HK5, HO_57, HB⟩ := hrel
                                         cases gk with
                                         | zero => exact absurd HA.out (by simp [laws_FnLuckyNumbersOfAll.l5])
                                         | succ k5 =>
                                          have H := HA.out
                                          clear HA
                                          simp only [laws_FnLuckyNumbersOfAll.l5] at H
                                          by_cases c156 : x67_5 ≤ a5
                                          ·rw [if_pos c156] at H
                                           have c156b0 : decide (x67_5 ≤ a5) = true := decide_eq_true c156
                                           clear c156
                                           replace H := Option.bind_eq_some_iff.mp H
                                           obtain ⟨t433, A1570, H⟩ := H
                                           replace H : (if t433 = true then (laws_FnLuckyNumbersOfAll.l5 k5 a5 t410 (wrap64 (x67_5 + 1))) else (some false)) = some r := H
                                           have A157 := Aside0.mk A1570
                                           clear A1570
                                           by_cases c158 : t433 = true
                                           ·subst c158
                                            have H1 : (laws_FnLuckyNumbersOfAll.l5 k5 a5 t410 (wrap64 (x67_5 + 1))) = some r := by rw [if_pos rfl] at H; exact H
                                            clear H
                                            have H := H1
                                            clear H1
                                            have H' := Aside0.mk H
                                            clear H
                                            go_wp2_with (first | (go_at_call 22; (with_reducible refine (laws_tHas.calls k5 _ _ t410 x67_5 true _ ?side1 ?side2 A157.out).mono ?_); (case side1 => repeat (first | exact (Kd.R_reads' HO_57.out).2.2 | (with_reducible refine Kd.C_alloc ?_ _) | (with_reducible refine Kd.C_drewN ?_ _) | (with_reducible refine Kd.C_drew ?_))); (case side2 => exact (Kd.R_reads' HO_57.out).2.1); rintro e w' ⟨rfl, ⟨nd, rfl⟩⟩; (try first | exact ⟨rfl, _, World.drewN_drewN _ _ _⟩ | exact ⟨rfl, _, Eq.trans (World.drewN_drewN _ _ _) (congrArg (World.drewN _) (Nat.add_assoc _ _ _))⟩)))
                                            refine Handed.intro k5 ?measure ?_
                                            rotate_left
                                            go_step
                                            (repeat with_reducible apply ex32_)
                                            (repeat apply Exists.intro)
                                            refine ⟨?rel, rfl⟩
                                            case measure => have := HJ30.out; have := HJ114.out; have := HJ132.out; have := HJ134.out; have := HK5.out; omega
                                            case rel => exact ⟨(wrap64 (x67_5 + 1)), (by first | rfl | (simp; done) | (simp [*]; done)), H', ⟨by have := HJ30.out; have := HJ114.out; have := HJ132.out; have := HJ134.out; have := HK5.out; omega⟩, ⟨by (with_reducible repeat (first | apply Kd.R_alloc | apply Kd.R_drewN | apply Kd.R_drew)); exact HO_57.out⟩, ⟨by repeat (first | (with_reducible first | exact HB.out | apply below_alloc | apply pw_below_drewN | apply below_drew1) | exact HB.out)⟩⟩
                                           ·replace c158 := Bool.eq_false_iff.mpr c158
                                            subst c158
                                            have H1 : (some false) = some r := by rw [if_neg (show ¬ (false = true) by decide)] at H; exact H
                                            clear H
                                            have H := H1
                                            clear H1
                                            exact absurd (Option.some.inj H) (by rw [HRT.out]; decide)
                                          ·rw [if_neg c156] at H
                                           have c156b0 : decide (x67_5 ≤ a5) = false := decide_eq_false c156
                                           clear c156
                                           obtain rfl := Option.some.inj H
                                           go_wp2
                                           repeat (go_quiet (fail); try go_wp2)
                                           go_ret
                                           exact ⟨by first | rfl | (simp [errW_none, errW_some] <;> rfl) | (simp only [← hji149]; first | rfl | (simp [errW_none, errW_some] <;> rfl)) | (simp [*, errW_none, errW_some] <;> rfl), by repeat (first | (with_reducible first | exact HB.out | apply below_alloc | apply pw_below_drewN | apply below_drew1) | exact HB.out)⟩
                                       ·rw [if_neg c155] at H
                                        have c155b0 : ((rd t410 0) == (wrap64 ((Int.tmod (wrap64 (a6 - 1)) a5) + 1))) = false := beq_eq_false_iff_ne.mpr c155
                                        have c155b1 : ((rd t410 0) != (wrap64 ((Int.tmod (wrap64 (a6 - 1)) a5) + 1))) = true := bne_iff_ne.mpr c155
                                        exact absurd (Option.some.inj H) (by rw [HRT.out]; decide)
                                     ·rw [if_neg c153] at H
                                      exact absurd H (by simp)
                                    ·rw [if_neg c152] at H
                                     have c152b0 : ((rd t410 (ji149)) == t418) = false := beq_eq_false_iff_ne.mpr c152
                                     have c152b1 : ((rd t410 (ji149)) != t418) = true := bne_iff_ne.mpr c152
                                     exact absurd (Option.some.inj H) (by rw [HRT.out]; decide)
                                   ·rw [if_neg c151] at H
                                    exact absurd H (by simp)
                                  ·rw [if_neg c150] at H
                                   exact absurd H (by simp)
                                 ·rw [if_neg c148] at H
                                  have c148b0 : ((t410.length : Int) == a5) = false := beq_eq_false_iff_ne.mpr c148
                                  have c148b1 : ((t410.length : Int) != a5) = true := bne_iff_ne.mpr c148
                                  exact absurd (Option.some.inj H) (by rw [HRT.out]; decide)
                                ·replace c147 := Bool.eq_false_iff.mpr c147
                                 subst c147
                                 have H1 : (some true) = some r := by rw [if_neg (show ¬ (false = true) by decide)] at H; exact H
                                 clear H
                                 have H := H1
                                 clear H1
                                 obtain rfl := Option.some.inj H
                                 go_wp2
                                 repeat (go_quiet (fail); try go_wp2)
                                 go_ret
                                 exact ⟨by first | rfl | (simp [errW_none, errW_some] <;> rfl) | (simp [*, errW_none, errW_some] <;> rfl), by repeat (first | (with_reducible first | exact HB.out | apply below_alloc | apply pw_below_drewN | apply below_drew1) | exact HB.out)⟩
                       ·rw [if_neg c113] at H
                        have c113b0 : (t418 == t420) = false := beq_eq_false_iff_ne.mpr c113
                        have c113b1 : (t418 != t420) = true := bne_iff_ne.mpr c113
                        exact absurd (Option.some.inj H) (by rw [HRT.out]; decide)
                     ·replace c111 := Bool.eq_false_iff.mpr c111
                      subst c111
                      have H1 : (some false) = some r := by rw [if_neg (show ¬ (false = true) by decide)] at H; exact H
                      clear H
                      have H := H1
                      clear H1
                      exact absurd (Option.some.inj H) (by rw [HRT.out]; decide)
                   ·replace c108 := Bool.eq_false_iff.mpr c108
                    subst c108
                    have H1 : (some false) = some r := by rw [if_neg (show ¬ (false = true) by decide)] at H; exact H
                    clear H
                    have H := H1
                    clear H1
                    exact absurd (Option.some.inj H) (by rw [HRT.out]; decide)
                 ·rw [if_neg c105] at H
                  have c105b0 : (t398 == t400) = false := beq_eq_false_iff_ne.mpr c105
                  have c105b1 : (t398 != t400) = true := bne_iff_ne.mpr c105
                  exact absurd (Option.some.inj H) (by rw [HRT.out]; decide)
        ·replace c27 := Bool.eq_false_iff.mpr c27
         subst c27
         have H1 : (some false) = some r := by rw [if_neg (show ¬ (false = true) by decide)] at H; exact H
         clear H
         have H := H1
         clear H1
         exact absurd (Option.some.inj H) (by rw [HRT.out]; decide)
      ·replace c24 := Bool.eq_false_iff.mpr c24
       subst c24
       have H1 : (some false) = some r := by rw [if_neg (show ¬ (false = true) by decide)] at H; exact H
       clear H
       have H := H1
       clear H1
       exact absurd (Option.some.inj H) (by rw [HRT.out]; decide)
    ·replace c21 := Bool.eq_false_iff.mpr c21
     subst c21
     have H1 : (some false) = some r := by rw [if_neg (show ¬ (false = true) by decide)] at H; exact H
     clear H
     have H := H1
     clear H1
     exact absurd (Option.some.inj H) (by rw [HRT.out]; decide)
  ·replace c18 := Bool.eq_false_iff.mpr c18
   subst c18
   have H1 : (some false) = some r := by rw [if_neg (show ¬ (false = true) by decide)] at H; exact H
   clear H
   have H := H1
   clear H1
   exact absurd (Option.some.inj H) (by rw [HRT.out]; decide)

/-- THE ONE PURE STATEMENT of laws_FnLuckyNumbersOfAll: yours. -/
theorem laws_FnLuckyNumbersOfAll.walk (P : laws_FnLuckyNumbersOfAll.Pure) (a0 : Int) (a1 : Int) (a2 : Int) (a3 : Int) (a4 : Int) (a5 : Int) (a6 : Int) (w : World) (w0 : (Lit.int .i64 a0).wf = true) (w1 : (Lit.int .i64 a1).wf = true) (w2 : (Lit.int .i64 a2).wf = true) (w3 : (Lit.int .i64 a3).wf = true) (w4 : (Lit.int .i64 a4).wf = true) (w5 : (Lit.int .i64 a5).wf = true) (w6 : (Lit.int .i64 a6).wf = true) :
    Calls Try.prog 5 #[.int .i64 a0, .int .i64 a1, .int .i64 a2, .int .i64 a3, .int .i64 a4, .int .i64 a5, .int .i64 a6] w fun e w' => e = .returned (.bool true) ∧ Below w.heap.size w w' := by
  obtain ⟨k, h⟩ := P a0 a1 a2 a3 a4 a5 a6 w0 w1 w2 w3 w4 w5 w6
  refine (laws_FnLuckyNumbersOfAll.calls k a0 a1 a2 a3 a4 a5 a6 true w h rfl).mono ?_
  rintro e w' ⟨rfl, hd⟩
  exact ⟨rfl, hd⟩

end Go.Proofs.Ytnhlhfkpkpbekaa.PFnLuckyNumbersOfAll
