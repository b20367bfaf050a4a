-- Written by a turned copy of the printer, for this claim
import Derived.Test.YtnfbdaffbpaagaaGreatDoorPFnSievesMovedOfAllx12
namespace Go.Proofs.YtnfbdaffbpaagaaGreatDoor.PFnSievesMovedOfAll
open Go.RowKit Go.Proofs.YtnfbdaffbpaagaaGreatDoorW.PrintWords Go.Proofs.YtnfbdaffbpaagaaGreatDoorW.PrintLast Go.Proofs.YtnfbdaffbpaagaaGreatDoorW.PrintMore
attribute [local go_sem] max2_int min2_int max_two min_two max_three min_three max_four min_four   -- for this text's walks alone
set_option linter.unusedVariables false
set_option linter.unusedSimpArgs false

/-- So many values at once. -/
theorem ex32_ {V : Type} {P : V → V → V → V → V → V → V → V → V → V → V → V → V → V → V → V → V → V → V → V → V → V → V → V → V → V → V → V → V → V → V → V → Prop} (a0 a1 a2 a3 a4 a5 a6 a7 a8 a9 a10 a11 a12 a13 a14 a15 a16 a17 a18 a19 a20 a21 a22 a23 a24 a25 a26 a27 a28 a29 a30 a31 : V) (h : P a0 a1 a2 a3 a4 a5 a6 a7 a8 a9 a10 a11 a12 a13 a14 a15 a16 a17 a18 a19 a20 a21 a22 a23 a24 a25 a26 a27 a28 a29 a30 a31) : ∃ a0 a1 a2 a3 a4 a5 a6 a7 a8 a9 a10 a11 a12 a13 a14 a15 a16 a17 a18 a19 a20 a21 a22 a23 a24 a25 a26 a27 a28 a29 a30 a31, P a0 a1 a2 a3 a4 a5 a6 a7 a8 a9 a10 a11 a12 a13 a14 a15 a16 a17 a18 a19 a20 a21 a22 a23 a24 a25 a26 a27 a28 a29 a30 a31 := ⟨a0, a1, a2, a3, a4, a5, a6, a7, a8, a9, a10, a11, a12, a13, a14, a15, a16, a17, a18, a19, a20, a21, a22, a23, a24, a25, a26, a27, a28, a29, a30, a31, h⟩

set_option maxHeartbeats 80000000 in
set_option maxRecDepth 100000 in
theorem laws_FnSievesMovedOfAll.calls (k : Nat) (A0 : Option Addr) (c0 : Nat) (l0 : List (S41)) (a1 : Int) (A2 : Option Addr) (c2 : Nat) (l2 : List (S41)) (A3 : Option Addr) (c3 : Nat) (l3 : List (S41)) (A4 : Option Addr) (c4 : Nat) (l4 : List (S41)) (a5 : ByteArray) (r : Bool) (w : World) (hr0 : Kd.C k41 w A0 l0.length l0) (hc0 : l0.length ≤ c0) (hr2 : Kd.C k41 w A2 l2.length l2) (hc2 : l2.length ≤ c2) (hr3 : Kd.C k41 w A3 l3.length l3) (hc3 : l3.length ≤ c3) (hr4 : Kd.C k41 w A4 l4.length l4) (hc4 : l4.length ≤ c4) (hG : GlobP w) (h : laws_FnSievesMovedOfAll.f k l0 a1 l2 l3 l4 a5 = some r) (hr : r = true) :
  Calls Tryz.prog 3 #[.slice A0 l0.length c0, .int .i64 a1, .slice A2 l2.length c2, .slice A3 l3.length c3, .slice A4 l4.length c4, .string a5] w fun e w' => e = .returned (.bool r) ∧ Below w.heap.size w w' := by
 have HG := Aside0.mk hG
 clear hG
 have HRT := Aside0.mk hr
 clear hr
 have hu41 := Tryz.underlying41
 have HR0 := Aside0.mk hr0
 have HC0 := Aside0.mk hc0
 clear hr0 hc0
 have HR2 := Aside0.mk hr2
 have HC2 := Aside0.mk hc2
 clear hr2 hc2
 have HR3 := Aside0.mk hr3
 have HC3 := Aside0.mk hc3
 clear hr3 hc3
 have HR4 := Aside0.mk hr4
 have HC4 := Aside0.mk hc4
 clear hr4 hc4
 have HB := Aside0.mk (Below.refl w.heap.size w)
 have H : (if (l0.length : Int) > 10000 then (laws_FnSievesMovedOfAll.j0 k l0 a1 l2 l3 l4 a5 true) else (if (l2.length : Int) > 10000 then (laws_FnSievesMovedOfAll.j0 k l0 a1 l2 l3 l4 a5 true) else (if (l3.length : Int) > 10000 then (laws_FnSievesMovedOfAll.j0 k l0 a1 l2 l3 l4 a5 true) else (if (l4.length : Int) > 10000 then (laws_FnSievesMovedOfAll.j0 k l0 a1 l2 l3 l4 a5 true) else (laws_FnSievesMovedOfAll.j0 k l0 a1 l2 l3 l4 a5 (decide ((a5.size : Int) > 1048576))))))) = some r := h
 clear h
 have HC7 := Aside0.mk H
 clear H
 as_aux_lemma =>
 go_enter Tryz.func3, Tryz.ntmps3
 go_upto_region 1 with (fail)
 go_cut [92] from 92 to 92 (fun v92 wc => ∃ (kq : Nat) (x92_6 : Bool), v92 = .bool x92_6 ∧ Aside0 (laws_FnSievesMovedOfAll.j0 kq l0 a1 l2 l3 l4 a5 x92_6 = some r) ∧ Aside0 (kq ≤ k) ∧ Aside0 (Below w.heap.size w wc))
 case first => as_aux_lemma =>
  have H := HC7.out
  clear HC7
  by_cases c8 : (l0.length : Int) > 10000
  ·rw [if_pos c8] at H
   have c8b0 : decide (10000 < (l0.length : Int)) = true := decide_eq_true c8
   have c8b1 : decide (10000 < l0.length) = true := decide_eq_true (by omega)
   clear c8
   (first | rw [c8b0] | (simp only [i64_w, i32_w]; rw [c8b0]) | skip)
   have H' := Aside0.mk H
   clear H
   go_wp2
   refine Met.intro ?_
   go_step
   (repeat with_reducible apply ex32_)
   (repeat apply Exists.intro)
   refine ⟨?rel, rfl⟩
   case rel => exact ⟨_, (true), (by first | rfl | (simp; done) | (simp [*]; done)), H', ⟨by first | omega | exact Nat.le_refl _⟩, ⟨by repeat (first | (with_reducible first | exact HB.out | apply below_alloc | apply pw_below_drewN | apply below_drew1) | exact HB.out)⟩⟩
  ·rw [if_neg c8] at H
   have c8b0 : decide (10000 < (l0.length : Int)) = false := decide_eq_false c8
   have c8b1 : decide (10000 < l0.length) = false := decide_eq_false (by omega)
   clear c8
   (first | rw [c8b0] | (simp only [i64_w, i32_w]; rw [c8b0]) | skip)
   by_cases c9 : (l2.length : Int) > 10000
   ·rw [if_pos c9] at H
    have c9b0 : decide (10000 < (l2.length : Int)) = true := decide_eq_true c9
    have c9b1 : decide (10000 < l2.length) = true := decide_eq_true (by omega)
    clear c9
    have H' := Aside0.mk H
    clear H
    go_wp2
    refine Met.intro ?_
    go_step
    (repeat with_reducible apply ex32_)
    (repeat apply Exists.intro)
    refine ⟨?rel, rfl⟩
    case rel => exact ⟨_, (true), (by first | rfl | (simp; done) | (simp [*]; done)), H', ⟨by first | omega | exact Nat.le_refl _⟩, ⟨by repeat (first | (with_reducible first | exact HB.out | apply below_alloc | apply pw_below_drewN | apply below_drew1) | exact HB.out)⟩⟩
   ·as_aux_lemma =>
    rw [if_neg c9] at H
    have c9b0 : decide (10000 < (l2.length : Int)) = false := decide_eq_false c9
    have c9b1 : decide (10000 < l2.length) = false := decide_eq_false (by omega)
    clear c9
    by_cases c10 : (l3.length : Int) > 10000
    ·rw [if_pos c10] at H
     have c10b0 : decide (10000 < (l3.length : Int)) = true := decide_eq_true c10
     have c10b1 : decide (10000 < l3.length) = true := decide_eq_true (by omega)
     clear c10
     have H' := Aside0.mk H
     clear H
     go_wp2
     refine Met.intro ?_
     go_step
     (repeat with_reducible apply ex32_)
     (repeat apply Exists.intro)
     refine ⟨?rel, rfl⟩
     case rel => exact ⟨_, (true), (by first | rfl | (simp; done) | (simp [*]; done)), H', ⟨by first | omega | exact Nat.le_refl _⟩, ⟨by repeat (first | (with_reducible first | exact HB.out | apply below_alloc | apply pw_below_drewN | apply below_drew1) | exact HB.out)⟩⟩
    ·rw [if_neg c10] at H
     have c10b0 : decide (10000 < (l3.length : Int)) = false := decide_eq_false c10
     have c10b1 : decide (10000 < l3.length) = false := decide_eq_false (by omega)
     clear c10
     by_cases c11 : (l4.length : Int) > 10000
     ·rw [if_pos c11] at H
      have c11b0 : decide (10000 < (l4.length : Int)) = true := decide_eq_true c11
      have c11b1 : decide (10000 < l4.length) = true := decide_eq_true (by omega)
      clear c11
      have H' := Aside0.mk H
      clear H
      go_wp2
      refine Met.intro ?_
      go_step
      (repeat with_reducible apply ex32_)
      (repeat apply Exists.intro)
      refine ⟨?rel, rfl⟩
      case rel => exact ⟨_, (true), (by first | rfl | (simp; done) | (simp [*]; done)), H', ⟨by first | omega | exact Nat.le_refl _⟩, ⟨by repeat (first | (with_reducible first | exact HB.out | apply below_alloc | apply pw_below_drewN | apply below_drew1) | exact HB.out)⟩⟩
     ·rw [if_neg c11] at H
      have c11b0 : decide (10000 < (l4.length : Int)) = false := decide_eq_false c11
      have c11b1 : decide (10000 < l4.length) = false := decide_eq_false (by omega)
      clear c11
      have H' := Aside0.mk H
      clear H
      go_wp2
      refine Met.intro ?_
      go_step
      (repeat with_reducible apply ex32_)
      (repeat apply Exists.intro)
      refine ⟨?rel, rfl⟩
      case rel => exact ⟨_, (decide ((a5.size : Int) > 1048576)), (by first | rfl | (simp; done) | (simp [*]; done)), H', ⟨by first | omega | exact Nat.le_refl _⟩, ⟨by repeat (first | (with_reducible first | exact HB.out | apply below_alloc | apply pw_below_drewN | apply below_drew1) | exact HB.out)⟩⟩
 case rest => as_aux_lemma =>
  clear HC7
  obtain ⟨kq, x92_6, rfl, HA, HJ6, HB⟩ := hcut
  cases kq with
  | zero => exact absurd HA.out (by simp [laws_FnSievesMovedOfAll.j0])
  | succ kj6 =>
   have H := HA.out
   clear HA
   simp only [laws_FnSievesMovedOfAll.j0] at H
   by_cases c12 : x92_6 = true
   ·subst c12
    have H1 : (some true) = some r := by rw [if_pos rfl] at H; exact H
    clear H
    have H := H1
    clear H1
    obtain rfl := Option.some.inj H
    go_wp2
    go_ret
    exact ⟨by first | rfl | (simp [errW_none, errW_some] <;> rfl) | (simp [*, errW_none, errW_some] <;> rfl), by repeat (first | (with_reducible first | exact HB.out | apply below_alloc | apply pw_below_drewN | apply below_drew1) | exact HB.out)⟩
   ·replace c12 := Bool.eq_false_iff.mpr c12
    subst c12
    have H1 : ((impl_MoveRules.f kj6 l0 a1).bind fun bt358 => ((spec_MoveRules.f kj6 l0 a1).bind fun bt362 => ((impl_MirrorRules.f kj6 l0).bind fun bt366 => ((spec_MirrorRules.f kj6 l0).bind fun bt370 => ((impl_RulesText.f kj6 l0).bind fun bt374 => ((spec_RulesText.f kj6 l0).bind fun bt376 => (if (bt358.2 != bt362.2) = true then (some false) else ((laws_tRules.f kj6 bt358.1 bt362.1).bind fun t378 => (if t378 = true then (if (bt366.2 != bt370.2) = true then (some false) else ((laws_tRules.f kj6 bt366.1 bt370.1).bind fun t379 => (if t379 = true then (if (bt374.2 != bt376.2) = true then (some false) else (if bt374.1.toList = bt376.1.toList then ((impl_AreRules.f l0).bind fun t380 => (if (bt366.2 != t380) = true then (some false) else (if (bt374.2 != bt366.2) = true then (some false) else (if bt358.2 = true then (laws_FnSievesMovedOfAll.j1 kj6 l0 a1 l2 l3 l4 a5 bt358.1 bt358.2 bt366.1 bt366.2 bt374.1 (!bt366.2)) else (laws_FnSievesMovedOfAll.j1 kj6 l0 a1 l2 l3 l4 a5 bt358.1 bt358.2 bt366.1 bt366.2 bt374.1 false))))) else (some false))) else (some false)))) else (some false)))))))))) = some r := by rw [if_neg (show ¬ (false = true) by decide)] at H; exact H
    clear H
    have H := H1
    clear H1
    as_aux_lemma =>
    replace H := Option.bind_eq_some_iff.mp H
    obtain ⟨⟨t358, t359⟩, A130, H⟩ := H
    replace H : ((spec_MoveRules.f kj6 l0 a1).bind fun bt362 => ((impl_MirrorRules.f kj6 l0).bind fun bt366 => ((spec_MirrorRules.f kj6 l0).bind fun bt370 => ((impl_RulesText.f kj6 l0).bind fun bt374 => ((spec_RulesText.f kj6 l0).bind fun bt376 => (if (t359 != bt362.2) = true then (some false) else ((laws_tRules.f kj6 t358 bt362.1).bind fun t378 => (if t378 = true then (if (bt366.2 != bt370.2) = true then (some false) else ((laws_tRules.f kj6 bt366.1 bt370.1).bind fun t379 => (if t379 = true then (if (bt374.2 != bt376.2) = true then (some false) else (if bt374.1.toList = bt376.1.toList then ((impl_AreRules.f l0).bind fun t380 => (if (bt366.2 != t380) = true then (some false) else (if (bt374.2 != bt366.2) = true then (some false) else (if t359 = true then (laws_FnSievesMovedOfAll.j1 kj6 l0 a1 l2 l3 l4 a5 t358 t359 bt366.1 bt366.2 bt374.1 (!bt366.2)) else (laws_FnSievesMovedOfAll.j1 kj6 l0 a1 l2 l3 l4 a5 t358 t359 bt366.1 bt366.2 bt374.1 false))))) else (some false))) else (some false)))) else (some false))))))))) = some r := H
    have A13 := Aside0.mk A130
    clear A130
    replace H := Option.bind_eq_some_iff.mp H
    obtain ⟨⟨t362, t363⟩, A140, H⟩ := H
    replace H : ((impl_MirrorRules.f kj6 l0).bind fun bt366 => ((spec_MirrorRules.f kj6 l0).bind fun bt370 => ((impl_RulesText.f kj6 l0).bind fun bt374 => ((spec_RulesText.f kj6 l0).bind fun bt376 => (if (t359 != t363) = true then (some false) else ((laws_tRules.f kj6 t358 t362).bind fun t378 => (if t378 = true then (if (bt366.2 != bt370.2) = true then (some false) else ((laws_tRules.f kj6 bt366.1 bt370.1).bind fun t379 => (if t379 = true then (if (bt374.2 != bt376.2) = true then (some false) else (if bt374.1.toList = bt376.1.toList then ((impl_AreRules.f l0).bind fun t380 => (if (bt366.2 != t380) = true then (some false) else (if (bt374.2 != bt366.2) = true then (some false) else (if t359 = true then (laws_FnSievesMovedOfAll.j1 kj6 l0 a1 l2 l3 l4 a5 t358 t359 bt366.1 bt366.2 bt374.1 (!bt366.2)) else (laws_FnSievesMovedOfAll.j1 kj6 l0 a1 l2 l3 l4 a5 t358 t359 bt366.1 bt366.2 bt374.1 false))))) else (some false))) else (some false)))) else (some false)))))))) = some r := H
    have A14 := Aside0.mk A140
    clear A140
    replace H := Option.bind_eq_some_iff.mp H
    obtain ⟨⟨t366, t367⟩, A150, H⟩ := H
    replace H : ((spec_MirrorRules.f kj6 l0).bind fun bt370 => ((impl_RulesText.f kj6 l0).bind fun bt374 => ((spec_RulesText.f kj6 l0).bind fun bt376 => (if (t359 != t363) = true then (some false) else ((laws_tRules.f kj6 t358 t362).bind fun t378 => (if t378 = true then (if (t367 != bt370.2) = true then (some false) else ((laws_tRules.f kj6 t366 bt370.1).bind fun t379 => (if t379 = true then (if (bt374.2 != bt376.2) = true then (some false) else (if bt374.1.toList = bt376.1.toList then ((impl_AreRules.f l0).bind fun t380 => (if (t367 != t380) = true then (some false) else (if (bt374.2 != t367) = true then (some false) else (if t359 = true then (laws_FnSievesMovedOfAll.j1 kj6 l0 a1 l2 l3 l4 a5 t358 t359 t366 t367 bt374.1 (!t367)) else (laws_FnSievesMovedOfAll.j1 kj6 l0 a1 l2 l3 l4 a5 t358 t359 t366 t367 bt374.1 false))))) else (some false))) else (some false)))) else (some false))))))) = some r := H
    have A15 := Aside0.mk A150
    clear A150
    replace H := Option.bind_eq_some_iff.mp H
    obtain ⟨⟨t370, t371⟩, A160, H⟩ := H
    replace H : ((impl_RulesText.f kj6 l0).bind fun bt374 => ((spec_RulesText.f kj6 l0).bind fun bt376 => (if (t359 != t363) = true then (some false) else ((laws_tRules.f kj6 t358 t362).bind fun t378 => (if t378 = true then (if (t367 != t371) = true then (some false) else ((laws_tRules.f kj6 t366 t370).bind fun t379 => (if t379 = true then (if (bt374.2 != bt376.2) = true then (some false) else (if bt374.1.toList = bt376.1.toList then ((impl_AreRules.f l0).bind fun t380 => (if (t367 != t380) = true then (some false) else (if (bt374.2 != t367) = true then (some false) else (if t359 = true then (laws_FnSievesMovedOfAll.j1 kj6 l0 a1 l2 l3 l4 a5 t358 t359 t366 t367 bt374.1 (!t367)) else (laws_FnSievesMovedOfAll.j1 kj6 l0 a1 l2 l3 l4 a5 t358 t359 t366 t367 bt374.1 false))))) else (some false))) else (some false)))) else (some false)))))) = some r := H
    have A16 := Aside0.mk A160
    clear A160
    replace H := Option.bind_eq_some_iff.mp H
    obtain ⟨⟨t374, t375⟩, A170, H⟩ := H
    replace H : ((spec_RulesText.f kj6 l0).bind fun bt376 => (if (t359 != t363) = true then (some false) else ((laws_tRules.f kj6 t358 t362).bind fun t378 => (if t378 = true then (if (t367 != t371) = true then (some false) else ((laws_tRules.f kj6 t366 t370).bind fun t379 => (if t379 = true then (if (t375 != bt376.2) = true then (some false) else (if t374.toList = bt376.1.toList then ((impl_AreRules.f l0).bind fun t380 => (if (t367 != t380) = true then (some false) else (if (t375 != t367) = true then (some false) else (if t359 = true then (laws_FnSievesMovedOfAll.j1 kj6 l0 a1 l2 l3 l4 a5 t358 t359 t366 t367 t374 (!t367)) else (laws_FnSievesMovedOfAll.j1 kj6 l0 a1 l2 l3 l4 a5 t358 t359 t366 t367 t374 false))))) else (some false))) else (some false)))) else (some false))))) = some r := H
    have A17 := Aside0.mk A170
    clear A170
    as_aux_lemma =>
    replace H := Option.bind_eq_some_iff.mp H
    obtain ⟨⟨t376, t377⟩, A180, H⟩ := H
    replace H : (if (t359 != t363) = true then (some false) else ((laws_tRules.f kj6 t358 t362).bind fun t378 => (if t378 = true then (if (t367 != t371) = true then (some false) else ((laws_tRules.f kj6 t366 t370).bind fun t379 => (if t379 = true then (if (t375 != t377) = true then (some false) else (if t374.toList = t376.toList then ((impl_AreRules.f l0).bind fun t380 => (if (t367 != t380) = true then (some false) else (if (t375 != t367) = true then (some false) else (if t359 = true then (laws_FnSievesMovedOfAll.j1 kj6 l0 a1 l2 l3 l4 a5 t358 t359 t366 t367 t374 (!t367)) else (laws_FnSievesMovedOfAll.j1 kj6 l0 a1 l2 l3 l4 a5 t358 t359 t366 t367 t374 false))))) else (some false))) else (some false)))) else (some false)))) = some r := H
    have A18 := Aside0.mk A180
    clear A180
    have HC19 := Aside0.mk H
    clear H
    as_aux_lemma =>
    go_upto_region 6 with (first | ((with_reducible refine gate_callee (f := 5) rfl ?_); refine goesL_ (some 96) rfl rfl Tryz.func5 (by kernel_rfl) rfl #[.slice A0 l0.length c0, .int .i64 a1] rfl (by (try simp only [List.map_toArray, List.map_cons, List.map_nil]); first | done | rfl | (simp only [List.length_drop, List.length_take]; rfl)) ?_; (with_reducible refine (impl_MoveRules.calls kj6 _ _ l0 a1 t358 t359 _ ?side1 ?side2 A13.out).mono ?_); (case side1 => repeat (first | exact (Kd.C_below HR0.out HB.out) | (with_reducible refine Kd.C_alloc ?_ _) | (with_reducible refine Kd.C_drewN ?_ _) | (with_reducible refine Kd.C_drew ?_))); (case side2 => exact HC0.out); rintro e w20 ⟨v360, rfl, ho0, hb⟩; refine ⟨_, rfl, ?_⟩; have n0_ := Aside0.mk (Kd.R_lower ho0 (below_size (by repeat (first | (with_reducible first | exact HB.out | apply below_alloc | apply pw_below_drewN | apply below_drew1) | exact HB.out)))); have n1_ := Aside0.mk (below_step (by repeat (first | (with_reducible first | exact HB.out | apply below_alloc | apply pw_below_drewN | apply below_drew1) | exact HB.out)) hb); clear HB; have HO361 := n0_; have HB := n1_; clear n0_ n1_; (try clear hb); (try clear hb2); (try clear hk); (try clear hi); (try clear ho0)) | ((with_reducible refine gate_callee (f := 6) rfl ?_); refine goesL_ (some 102) rfl rfl Tryz.func6 (by kernel_rfl) rfl #[.slice A0 l0.length c0, .int .i64 a1] rfl (by (try simp only [List.map_toArray, List.map_cons, List.map_nil]); first | done | rfl | (simp only [List.length_drop, List.length_take]; rfl)) ?_; (with_reducible refine (spec_MoveRules.calls kj6 _ _ l0 a1 t362 t363 _ ?side1 ?side2 A14.out).mono ?_); (case side1 => repeat (first | exact (Kd.C_below HR0.out HB.out) | (with_reducible refine Kd.C_alloc ?_ _) | (with_reducible refine Kd.C_drewN ?_ _) | (with_reducible refine Kd.C_drew ?_))); (case side2 => exact HC0.out); rintro e w21 ⟨v364, rfl, ho0, hb⟩; refine ⟨_, rfl, ?_⟩; have n0_ := Aside0.mk (Kd.R_elder' (by (with_reducible repeat (first | apply Kd.R_alloc | apply Kd.R_drewN | apply Kd.R_drew)); exact HO361.out) (Kd.R_base ho0) hb); have n1_ := Aside0.mk (Kd.R_lower (Kd.R_new' ho0 (Kd.R_lt (by (with_reducible repeat (first | apply Kd.R_alloc | apply Kd.R_drewN | apply Kd.R_drew)); exact HO361.out))) (below_size (by repeat (first | (with_reducible first | exact HB.out | apply below_alloc | apply pw_below_drewN | apply below_drew1) | exact HB.out)))); have n2_ := Aside0.mk (below_step (by repeat (first | (with_reducible first | exact HB.out | apply below_alloc | apply pw_below_drewN | apply below_drew1) | exact HB.out)) hb); clear HO361; clear HB; have HO361 := n0_; have HO365 := n1_; have HB := n2_; clear n0_ n1_ n2_; (try clear hb); (try clear hb2); (try clear hk); (try clear hi); (try clear ho0)) | ((with_reducible refine gate_callee (f := 7) rfl ?_); refine goesL_ (some 107) rfl rfl Tryz.func7 (by kernel_rfl) rfl #[.slice A0 l0.length c0] rfl (by (try simp only [List.map_toArray, List.map_cons, List.map_nil]); first | done | rfl | (simp only [List.length_drop, List.length_take]; rfl)) ?_; (with_reducible refine (impl_MirrorRules.calls kj6 _ _ l0 t366 t367 _ ?side1 ?side2 A15.out).mono ?_); (case side1 => repeat (first | exact (Kd.C_below HR0.out HB.out) | (with_reducible refine Kd.C_alloc ?_ _) | (with_reducible refine Kd.C_drewN ?_ _) | (with_reducible refine Kd.C_drew ?_))); (case side2 => exact HC0.out); rintro e w22 ⟨v368, rfl, ho0, hb⟩; refine ⟨_, rfl, ?_⟩; have n0_ := Aside0.mk (Kd.R_elder' (by (with_reducible repeat (first | apply Kd.R_alloc | apply Kd.R_drewN | apply Kd.R_drew)); exact HO361.out) (Kd.R_base ho0) hb); have n1_ := Aside0.mk (Kd.R_elder' (by (with_reducible repeat (first | apply Kd.R_alloc | apply Kd.R_drewN | apply Kd.R_drew)); exact HO365.out) (Kd.R_base ho0) hb); have n2_ := Aside0.mk (Kd.R_lower (Kd.R_new' (Kd.R_new' ho0 (Kd.R_lt (by (with_reducible repeat (first | apply Kd.R_alloc | apply Kd.R_drewN | apply Kd.R_drew)); exact HO361.out))) (Kd.R_lt (by (with_reducible repeat (first | apply Kd.R_alloc | apply Kd.R_drewN | apply Kd.R_drew)); exact HO365.out))) (below_size (by repeat (first | (with_reducible first | exact HB.out | apply below_alloc | apply pw_below_drewN | apply below_drew1) | exact HB.out)))); have n3_ := Aside0.mk (below_step (by repeat (first | (with_reducible first | exact HB.out | apply below_alloc | apply pw_below_drewN | apply below_drew1) | exact HB.out)) hb); clear HO361; clear HO365; clear HB; have HO361 := n0_; have HO365 := n1_; have HO369 := n2_; have HB := n3_; clear n0_ n1_ n2_ n3_; (try clear hb); (try clear hb2); (try clear hk); (try clear hi); (try clear ho0)))
    (try simp only [Act.put, List.setIfInBounds_toArray, List.set_cons_zero, List.set_cons_succ])
    as_aux_lemma =>
    go_upto_region 9 with (first | ((with_reducible refine gate_callee (f := 8) rfl ?_); refine goesL_ (some 112) rfl rfl Tryz.func8 (by kernel_rfl) rfl #[.slice A0 l0.length c0] rfl (by (try simp only [List.map_toArray, List.map_cons, List.map_nil]); first | done | rfl | (simp only [List.length_drop, List.length_take]; rfl)) ?_; (with_reducible refine (spec_MirrorRules.calls kj6 _ _ l0 t370 t371 _ ?side1 ?side2 A16.out).mono ?_); (case side1 => repeat (first | exact (Kd.C_below HR0.out HB.out) | (with_reducible refine Kd.C_alloc ?_ _) | (with_reducible refine Kd.C_drewN ?_ _) | (with_reducible refine Kd.C_drew ?_))); (case side2 => exact HC0.out); rintro e w23 ⟨v372, rfl, ho0, hb⟩; refine ⟨_, rfl, ?_⟩; have n0_ := Aside0.mk (Kd.R_elder' (by (with_reducible repeat (first | apply Kd.R_alloc | apply Kd.R_drewN | apply Kd.R_drew)); exact HO361.out) (Kd.R_base ho0) hb); have n1_ := Aside0.mk (Kd.R_elder' (by (with_reducible repeat (first | apply Kd.R_alloc | apply Kd.R_drewN | apply Kd.R_drew)); exact HO365.out) (Kd.R_base ho0) hb); have n2_ := Aside0.mk (Kd.R_elder' (by (with_reducible repeat (first | apply Kd.R_alloc | apply Kd.R_drewN | apply Kd.R_drew)); exact HO369.out) (Kd.R_base ho0) hb); have n3_ := Aside0.mk (Kd.R_lower (Kd.R_new' (Kd.R_new' (Kd.R_new' ho0 (Kd.R_lt (by (with_reducible repeat (first | apply Kd.R_alloc | apply Kd.R_drewN | apply Kd.R_drew)); exact HO361.out))) (Kd.R_lt (by (with_reducible repeat (first | apply Kd.R_alloc | apply Kd.R_drewN | apply Kd.R_drew)); exact HO365.out))) (Kd.R_lt (by (with_reducible repeat (first | apply Kd.R_alloc | apply Kd.R_drewN | apply Kd.R_drew)); exact HO369.out))) (below_size (by repeat (first | (with_reducible first | exact HB.out | apply below_alloc | apply pw_below_drewN | apply below_drew1) | exact HB.out)))); have n4_ := Aside0.mk (below_step (by repeat (first | (with_reducible first | exact HB.out | apply below_alloc | apply pw_below_drewN | apply below_drew1) | exact HB.out)) hb); clear HO361; clear HO365; clear HO369; clear HB; have HO361 := n0_; have HO365 := n1_; have HO369 := n2_; have HO373 := n3_; have HB := n4_; clear n0_ n1_ n2_ n3_ n4_; (try clear hb); (try clear hb2); (try clear hk); (try clear hi); (try clear ho0)) | ((with_reducible refine gate_callee (f := 9) rfl ?_); refine goesL_ (some 117) rfl rfl Tryz.func9 (by kernel_rfl) rfl #[.slice A0 l0.length c0] rfl (by (try simp only [List.map_toArray, List.map_cons, List.map_nil]); first | done | rfl | (simp only [List.length_drop, List.length_take]; rfl)) ?_; (with_reducible refine (impl_RulesText.calls kj6 _ _ l0 t374 t375 _ ?side1 ?side2 A17.out).mono ?_); (case side1 => repeat (first | exact (Kd.C_below HR0.out HB.out) | (with_reducible refine Kd.C_alloc ?_ _) | (with_reducible refine Kd.C_drewN ?_ _) | (with_reducible refine Kd.C_drew ?_))); (case side2 => exact HC0.out); rintro e w24 ⟨rfl, hb⟩; refine ⟨_, rfl, ?_⟩; have n0_ := Aside0.mk (Kd.R_below (by (with_reducible repeat (first | apply Kd.R_alloc | apply Kd.R_drewN | apply Kd.R_drew)); exact HO361.out) hb); have n1_ := Aside0.mk (Kd.R_below (by (with_reducible repeat (first | apply Kd.R_alloc | apply Kd.R_drewN | apply Kd.R_drew)); exact HO365.out) hb); have n2_ := Aside0.mk (Kd.R_below (by (with_reducible repeat (first | apply Kd.R_alloc | apply Kd.R_drewN | apply Kd.R_drew)); exact HO369.out) hb); have n3_ := Aside0.mk (Kd.R_below (by (with_reducible repeat (first | apply Kd.R_alloc | apply Kd.R_drewN | apply Kd.R_drew)); exact HO373.out) hb); have n4_ := Aside0.mk (below_step (by repeat (first | (with_reducible first | exact HB.out | apply below_alloc | apply pw_below_drewN | apply below_drew1) | exact HB.out)) hb); clear HO361; clear HO365; clear HO369; clear HO373; clear HB; have HO361 := n0_; have HO365 := n1_; have HO369 := n2_; have HO373 := n3_; have HB := n4_; clear n0_ n1_ n2_ n3_ n4_; (try clear hb); (try clear hb2); (try clear hk); (try clear hi)) | ((with_reducible refine gate_callee (f := 10) rfl ?_); refine goesL_ (some 122) rfl rfl Tryz.func10 (by kernel_rfl) rfl #[.slice A0 l0.length c0] rfl (by (try simp only [List.map_toArray, List.map_cons, List.map_nil]); first | done | rfl | (simp only [List.length_drop, List.length_take]; rfl)) ?_; (with_reducible refine (spec_RulesText.calls kj6 _ _ l0 t376 t377 _ ?side1 ?side2 A18.out).mono ?_); (case side1 => repeat (first | exact (Kd.C_below HR0.out HB.out) | (with_reducible refine Kd.C_alloc ?_ _) | (with_reducible refine Kd.C_drewN ?_ _) | (with_reducible refine Kd.C_drew ?_))); (case side2 => exact HC0.out); rintro e w25 ⟨rfl, hb⟩; refine ⟨_, rfl, ?_⟩; have n0_ := Aside0.mk (Kd.R_below (by (with_reducible repeat (first | apply Kd.R_alloc | apply Kd.R_drewN | apply Kd.R_drew)); exact HO361.out) hb); have n1_ := Aside0.mk (Kd.R_below (by (with_reducible repeat (first | apply Kd.R_alloc | apply Kd.R_drewN | apply Kd.R_drew)); exact HO365.out) hb); have n2_ := Aside0.mk (Kd.R_below (by (with_reducible repeat (first | apply Kd.R_alloc | apply Kd.R_drewN | apply Kd.R_drew)); exact HO369.out) hb); have n3_ := Aside0.mk (Kd.R_below (by (with_reducible repeat (first | apply Kd.R_alloc | apply Kd.R_drewN | apply Kd.R_drew)); exact HO373.out) hb); have n4_ := Aside0.mk (below_step (by repeat (first | (with_reducible first | exact HB.out | apply below_alloc | apply pw_below_drewN | apply below_drew1) | exact HB.out)) hb); clear HO361; clear HO365; clear HO369; clear HO373; clear HB; have HO361 := n0_; have HO365 := n1_; have HO369 := n2_; have HO373 := n3_; have HB := n4_; clear n0_ n1_ n2_ n3_ n4_; (try clear hb); (try clear hb2); (try clear hk); (try clear hi)))
    (try simp only [Act.put, List.setIfInBounds_toArray, List.set_cons_zero, List.set_cons_succ])
    go_cut [172] from 160 to 172 (fun v172 wc => ∃ (kq : Nat) (x172_18 : Bool), v172 = .bool x172_18 ∧ Aside0 (laws_FnSievesMovedOfAll.j1 kq l0 a1 l2 l3 l4 a5 t358 t359 t366 t367 t374 x172_18 = some r) ∧ Aside0 (kq ≤ kj6) ∧ Aside0 (Kd.R k41 41 wc w.heap.size (fun k_ => some k_ ≠ (v368 : Value).ownBlock) v360 t358) ∧ Aside0 (Kd.R k41 41 wc w.heap.size (fun k_ => some k_ ≠ (v360 : Value).ownBlock) v368 t366) ∧ Aside0 (Below w.heap.size w wc))
    case first => as_aux_lemma =>
     have H := HC19.out
     clear HC19
     by_cases c26 : (t359 != t363) = true
     ·rw [if_pos c26] at H
      have c26b0 : (t359 != t363) = true := c26
      (try (have c26b1 : decide (t359 = t363) = false := by simpa using c26))
      (try (have c26b2 : (t359 == t363) = false := by simpa using c26))
      (try (have c26b3 : ¬ (t359 = t363) := by simpa using c26))
      clear c26
      (first | rw [c26b0] | (simp only [i64_w, i32_w]; rw [c26b0]) | skip)
      exact absurd (Option.some.inj H) (by rw [HRT.out]; decide)
     ·rw [if_neg c26] at H
      have c26b0 : (t359 != t363) = false := by simpa using c26
      (try (have c26b1 : decide (t359 = t363) = true := by simpa using c26))
      (try (have c26b2 : (t359 == t363) = true := by simpa using c26))
      clear c26
      (first | rw [c26b0] | (simp only [i64_w, i32_w]; rw [c26b0]) | skip)
      replace H := Option.bind_eq_some_iff.mp H
      obtain ⟨t378, A270, H⟩ := H
      replace H : (if t378 = true then (if (t367 != t371) = true then (some false) else ((laws_tRules.f kj6 t366 t370).bind fun t379 => (if t379 = true then (if (t375 != t377) = true then (some false) else (if t374.toList = t376.toList then ((impl_AreRules.f l0).bind fun t380 => (if (t367 != t380) = true then (some false) else (if (t375 != t367) = true then (some false) else (if t359 = true then (laws_FnSievesMovedOfAll.j1 kj6 l0 a1 l2 l3 l4 a5 t358 t359 t366 t367 t374 (!t367)) else (laws_FnSievesMovedOfAll.j1 kj6 l0 a1 l2 l3 l4 a5 t358 t359 t366 t367 t374 false))))) else (some false))) else (some false)))) else (some false)) = some r := H
      have A27 := Aside0.mk A270
      clear A270
      by_cases c28 : t378 = true
      ·subst c28
       have H1 : (if (t367 != t371) = true then (some false) else ((laws_tRules.f kj6 t366 t370).bind fun t379 => (if t379 = true then (if (t375 != t377) = true then (some false) else (if t374.toList = t376.toList then ((impl_AreRules.f l0).bind fun t380 => (if (t367 != t380) = true then (some false) else (if (t375 != t367) = true then (some false) else (if t359 = true then (laws_FnSievesMovedOfAll.j1 kj6 l0 a1 l2 l3 l4 a5 t358 t359 t366 t367 t374 (!t367)) else (laws_FnSievesMovedOfAll.j1 kj6 l0 a1 l2 l3 l4 a5 t358 t359 t366 t367 t374 false))))) else (some false))) else (some false)))) = some r := by rw [if_pos rfl] at H; exact H
       clear H
       have H := H1
       clear H1
       by_cases c29 : (t367 != t371) = true
       ·rw [if_pos c29] at H
        have c29b0 : (t367 != t371) = true := c29
        (try (have c29b1 : decide (t367 = t371) = false := by simpa using c29))
        (try (have c29b2 : (t367 == t371) = false := by simpa using c29))
        (try (have c29b3 : ¬ (t367 = t371) := by simpa using c29))
        clear c29
        exact absurd (Option.some.inj H) (by rw [HRT.out]; decide)
       ·as_aux_lemma =>
        rw [if_neg c29] at H
        have c29b0 : (t367 != t371) = false := by simpa using c29
        (try (have c29b1 : decide (t367 = t371) = true := by simpa using c29))
        (try (have c29b2 : (t367 == t371) = true := by simpa using c29))
        clear c29
        replace H := Option.bind_eq_some_iff.mp H
        obtain ⟨t379, A300, H⟩ := H
        replace H : (if t379 = true then (if (t375 != t377) = true then (some false) else (if t374.toList = t376.toList then ((impl_AreRules.f l0).bind fun t380 => (if (t367 != t380) = true then (some false) else (if (t375 != t367) = true then (some false) else (if t359 = true then (laws_FnSievesMovedOfAll.j1 kj6 l0 a1 l2 l3 l4 a5 t358 t359 t366 t367 t374 (!t367)) else (laws_FnSievesMovedOfAll.j1 kj6 l0 a1 l2 l3 l4 a5 t358 t359 t366 t367 t374 false))))) else (some false))) else (some false)) = some r := H
        have A30 := Aside0.mk A300
        clear A300
        by_cases c31 : t379 = true
        ·subst c31
         have H1 : (if (t375 != t377) = true then (some false) else (if t374.toList = t376.toList then ((impl_AreRules.f l0).bind fun t380 => (if (t367 != t380) = true then (some false) else (if (t375 != t367) = true then (some false) else (if t359 = true then (laws_FnSievesMovedOfAll.j1 kj6 l0 a1 l2 l3 l4 a5 t358 t359 t366 t367 t374 (!t367)) else (laws_FnSievesMovedOfAll.j1 kj6 l0 a1 l2 l3 l4 a5 t358 t359 t366 t367 t374 false))))) else (some false))) = some r := by rw [if_pos rfl] at H; exact H
         clear H
         have H := H1
         clear H1
         by_cases c32 : (t375 != t377) = true
         ·rw [if_pos c32] at H
          have c32b0 : (t375 != t377) = true := c32
          (try (have c32b1 : decide (t375 = t377) = false := by simpa using c32))
          (try (have c32b2 : (t375 == t377) = false := by simpa using c32))
          (try (have c32b3 : ¬ (t375 = t377) := by simpa using c32))
          clear c32
          exact absurd (Option.some.inj H) (by rw [HRT.out]; decide)
         ·rw [if_neg c32] at H
          have c32b0 : (t375 != t377) = false := by simpa using c32
          (try (have c32b1 : decide (t375 = t377) = true := by simpa using c32))
          (try (have c32b2 : (t375 == t377) = true := by simpa using c32))
          clear c32
          by_cases c33 : t374.toList = t376.toList
          ·as_aux_lemma =>
           rw [if_pos c33] at H
           have c33b0 : (t374.toList == t376.toList) = true := beq_iff_eq.mpr c33
           have c33b1 : (t374.toList != t376.toList) = false := bne_eq_false_iff_eq.mpr c33
           clear c33
           replace H := Option.bind_eq_some_iff.mp H
           obtain ⟨t380, A340, H⟩ := H
           replace H : (if (t367 != t380) = true then (some false) else (if (t375 != t367) = true then (some false) else (if t359 = true then (laws_FnSievesMovedOfAll.j1 kj6 l0 a1 l2 l3 l4 a5 t358 t359 t366 t367 t374 (!t367)) else (laws_FnSievesMovedOfAll.j1 kj6 l0 a1 l2 l3 l4 a5 t358 t359 t366 t367 t374 false)))) = some r := H
           have A34 := Aside0.mk A340
           clear A340
           by_cases c35 : (t367 != t380) = true
           ·rw [if_pos c35] at H
            have c35b0 : (t367 != t380) = true := c35
            (try (have c35b1 : decide (t367 = t380) = false := by simpa using c35))
            (try (have c35b2 : (t367 == t380) = false := by simpa using c35))
            (try (have c35b3 : ¬ (t367 = t380) := by simpa using c35))
            clear c35
            exact absurd (Option.some.inj H) (by rw [HRT.out]; decide)
           ·rw [if_neg c35] at H
            have c35b0 : (t367 != t380) = false := by simpa using c35
            (try (have c35b1 : decide (t367 = t380) = true := by simpa using c35))
            (try (have c35b2 : (t367 == t380) = true := by simpa using c35))
            clear c35
            by_cases c36 : (t375 != t367) = true
            ·rw [if_pos c36] at H
             have c36b0 : (t375 != t367) = true := c36
             (try (have c36b1 : decide (t375 = t367) = false := by simpa using c36))
             (try (have c36b2 : (t375 == t367) = false := by simpa using c36))
             (try (have c36b3 : ¬ (t375 = t367) := by simpa using c36))
             clear c36
             exact absurd (Option.some.inj H) (by rw [HRT.out]; decide)
            ·as_aux_lemma =>
             rw [if_neg c36] at H
             have c36b0 : (t375 != t367) = false := by simpa using c36
             (try (have c36b1 : decide (t375 = t367) = true := by simpa using c36))
             (try (have c36b2 : (t375 == t367) = true := by simpa using c36))
             clear c36
             by_cases c37 : t359 = true
             ·subst c37
              have H1 : (laws_FnSievesMovedOfAll.j1 kj6 l0 a1 l2 l3 l4 a5 t358 true t366 t367 t374 (!t367)) = some r := by rw [if_pos rfl] at H; exact H
              clear H
              have H := H1
              clear H1
              have H' := Aside0.mk H
              clear H
              obtain ⟨Ao38, co38, eo38⟩ := Kd.R_slice HO361.out
              subst eo38
              obtain ⟨Ao39, co39, eo39⟩ := Kd.R_slice HO365.out
              subst eo39
              go_wp2_with (first | (go_at_call 11; (with_reducible refine (laws_tRules.calls kj6 _ _ t358 _ _ t362 true _ ?side1 ?side2 ?side3 ?side4 A27.out).mono ?_); (case side1 => repeat (first | exact (Kd.R_reads' HO361.out).2.2 | (with_reducible refine Kd.C_alloc ?_ _) | (with_reducible refine Kd.C_drewN ?_ _) | (with_reducible refine Kd.C_drew ?_))); (case side2 => exact (Kd.R_reads' HO361.out).2.1); (case side3 => repeat (first | exact (Kd.R_reads' HO365.out).2.2 | (with_reducible refine Kd.C_alloc ?_ _) | (with_reducible refine Kd.C_drewN ?_ _) | (with_reducible refine Kd.C_drew ?_))); (case side4 => exact (Kd.R_reads' HO365.out).2.1); rintro e w' ⟨rfl, ⟨nd, rfl⟩⟩; obtain ⟨Ao40, co40, eo40⟩ := Kd.R_slice HO369.out; subst eo40; obtain ⟨Ao41, co41, eo41⟩ := Kd.R_slice HO373.out; subst eo41) | (go_at_call 11; (with_reducible refine (laws_tRules.calls kj6 _ _ t366 _ _ t370 true _ ?side1 ?side2 ?side3 ?side4 A30.out).mono ?_); (case side1 => repeat (first | exact (Kd.R_reads' HO369.out).2.2 | (with_reducible refine Kd.C_alloc ?_ _) | (with_reducible refine Kd.C_drewN ?_ _) | (with_reducible refine Kd.C_drew ?_))); (case side2 => exact (Kd.R_reads' HO369.out).2.1); (case side3 => repeat (first | exact (Kd.R_reads' HO373.out).2.2 | (with_reducible refine Kd.C_alloc ?_ _) | (with_reducible refine Kd.C_drewN ?_ _) | (with_reducible refine Kd.C_drew ?_))); (case side4 => exact (Kd.R_reads' HO373.out).2.1); rintro e w' ⟨rfl, ⟨nd, rfl⟩⟩) | (go_at_call 12; (with_reducible refine (impl_AreRules.calls _ _ l0 t380 _ ?side1 ?side2 A34.out).mono ?_); (case side1 => repeat (first | exact (Kd.C_below HR0.out (by repeat (first | (with_reducible first | exact HB.out | apply below_alloc | apply pw_below_drewN | apply below_drew1) | exact HB.out))) | (with_reducible refine Kd.C_alloc ?_ _) | (with_reducible refine Kd.C_drewN ?_ _) | (with_reducible refine Kd.C_drew ?_))); (case side2 => exact HC0.out); rintro e w42 ⟨rfl, hb⟩; have n0_ := Aside0.mk (Kd.R_below (by (with_reducible repeat (first | apply Kd.R_alloc | apply Kd.R_drewN | apply Kd.R_drew)); exact HO361.out) hb); have n1_ := Aside0.mk (Kd.R_below (by (with_reducible repeat (first | apply Kd.R_alloc | apply Kd.R_drewN | apply Kd.R_drew)); exact HO365.out) hb); have n2_ := Aside0.mk (Kd.R_below (by (with_reducible repeat (first | apply Kd.R_alloc | apply Kd.R_drewN | apply Kd.R_drew)); exact HO369.out) hb); have n3_ := Aside0.mk (Kd.R_below (by (with_reducible repeat (first | apply Kd.R_alloc | apply Kd.R_drewN | apply Kd.R_drew)); exact HO373.out) hb); have n4_ := Aside0.mk (below_step (by repeat (first | (with_reducible first | exact HB.out | apply below_alloc | apply pw_below_drewN | apply below_drew1) | exact HB.out)) hb); clear HO361; clear HO365; clear HO369; clear HO373; clear HB; have HO361 := n0_; have HO365 := n1_; have HO369 := n2_; have HO373 := n3_; have HB := n4_; clear n0_ n1_ n2_ n3_ n4_; (try clear hb); (try clear hb2); (try clear hk); (try clear hi)))
              refine Met.intro ?_
              go_step
              (repeat with_reducible apply ex32_)
              (repeat apply Exists.intro)
              refine ⟨?rel, rfl⟩
              case rel => exact ⟨_, (!t367), (by first | rfl | (simp; done) | (simp [*]; done)), H', ⟨by have := HJ6.out; first | omega | exact Nat.le_refl _⟩, ⟨by (with_reducible repeat (first | apply Kd.R_alloc | apply Kd.R_drewN | apply Kd.R_drew)); exact Kd.R_mono HO361.out (fun _ hk => hk.1.2)⟩, ⟨by (with_reducible repeat (first | apply Kd.R_alloc | apply Kd.R_drewN | apply Kd.R_drew)); exact Kd.R_mono HO369.out (fun _ hk => hk.1.1.2)⟩, ⟨by repeat (first | (with_reducible first | exact HB.out | apply below_alloc | apply pw_below_drewN | apply below_drew1) | exact HB.out)⟩⟩
             ·replace c37 := Bool.eq_false_iff.mpr c37
              subst c37
              have H1 : (laws_FnSievesMovedOfAll.j1 kj6 l0 a1 l2 l3 l4 a5 t358 false t366 t367 t374 false) = some r := by rw [if_neg (show ¬ (false = true) by decide)] at H; exact H
              clear H
              have H := H1
              clear H1
              have H' := Aside0.mk H
              clear H
              obtain ⟨Ao43, co43, eo43⟩ := Kd.R_slice HO361.out
              subst eo43
              obtain ⟨Ao44, co44, eo44⟩ := Kd.R_slice HO365.out
              subst eo44
              go_wp2_with (first | (go_at_call 11; (with_reducible refine (laws_tRules.calls kj6 _ _ t358 _ _ t362 true _ ?side1 ?side2 ?side3 ?side4 A27.out).mono ?_); (case side1 => repeat (first | exact (Kd.R_reads' HO361.out).2.2 | (with_reducible refine Kd.C_alloc ?_ _) | (with_reducible refine Kd.C_drewN ?_ _) | (with_reducible refine Kd.C_drew ?_))); (case side2 => exact (Kd.R_reads' HO361.out).2.1); (case side3 => repeat (first | exact (Kd.R_reads' HO365.out).2.2 | (with_reducible refine Kd.C_alloc ?_ _) | (with_reducible refine Kd.C_drewN ?_ _) | (with_reducible refine Kd.C_drew ?_))); (case side4 => exact (Kd.R_reads' HO365.out).2.1); rintro e w' ⟨rfl, ⟨nd, rfl⟩⟩; obtain ⟨Ao45, co45, eo45⟩ := Kd.R_slice HO369.out; subst eo45; obtain ⟨Ao46, co46, eo46⟩ := Kd.R_slice HO373.out; subst eo46) | (go_at_call 11; (with_reducible refine (laws_tRules.calls kj6 _ _ t366 _ _ t370 true _ ?side1 ?side2 ?side3 ?side4 A30.out).mono ?_); (case side1 => repeat (first | exact (Kd.R_reads' HO369.out).2.2 | (with_reducible refine Kd.C_alloc ?_ _) | (with_reducible refine Kd.C_drewN ?_ _) | (with_reducible refine Kd.C_drew ?_))); (case side2 => exact (Kd.R_reads' HO369.out).2.1); (case side3 => repeat (first | exact (Kd.R_reads' HO373.out).2.2 | (with_reducible refine Kd.C_alloc ?_ _) | (with_reducible refine Kd.C_drewN ?_ _) | (with_reducible refine Kd.C_drew ?_))); (case side4 => exact (Kd.R_reads' HO373.out).2.1); rintro e w' ⟨rfl, ⟨nd, rfl⟩⟩) | (go_at_call 12; (with_reducible refine (impl_AreRules.calls _ _ l0 t380 _ ?side1 ?side2 A34.out).mono ?_); (case side1 => repeat (first | exact (Kd.C_below HR0.out (by repeat (first | (with_reducible first | exact HB.out | apply below_alloc | apply pw_below_drewN | apply below_drew1) | exact HB.out))) | (with_reducible refine Kd.C_alloc ?_ _) | (with_reducible refine Kd.C_drewN ?_ _) | (with_reducible refine Kd.C_drew ?_))); (case side2 => exact HC0.out); rintro e w47 ⟨rfl, hb⟩; have n0_ := Aside0.mk (Kd.R_below (by (with_reducible repeat (first | apply Kd.R_alloc | apply Kd.R_drewN | apply Kd.R_drew)); exact HO361.out) hb); have n1_ := Aside0.mk (Kd.R_below (by (with_reducible repeat (first | apply Kd.R_alloc | apply Kd.R_drewN | apply Kd.R_drew)); exact HO365.out) hb); have n2_ := Aside0.mk (Kd.R_below (by (with_reducible repeat (first | apply Kd.R_alloc | apply Kd.R_drewN | apply Kd.R_drew)); exact HO369.out) hb); have n3_ := Aside0.mk (Kd.R_below (by (with_reducible repeat (first | apply Kd.R_alloc | apply Kd.R_drewN | apply Kd.R_drew)); exact HO373.out) hb); have n4_ := Aside0.mk (below_step (by repeat (first | (with_reducible first | exact HB.out | apply below_alloc | apply pw_below_drewN | apply below_drew1) | exact HB.out)) hb); clear HO361; clear HO365; clear HO369; clear HO373; clear HB; have HO361 := n0_; have HO365 := n1_; have HO369 := n2_; have HO373 := n3_; have HB := n4_; clear n0_ n1_ n2_ n3_ n4_; (try clear hb); (try clear hb2); (try clear hk); (try clear hi)))
              refine Met.intro ?_
              go_step
              (repeat with_reducible apply ex32_)
              (repeat apply Exists.intro)
              refine ⟨?rel, rfl⟩
              case rel => exact ⟨_, (false), (by first | rfl | (simp; done) | (simp [*]; done)), H', ⟨by have := HJ6.out; first | omega | exact Nat.le_refl _⟩, ⟨by (with_reducible repeat (first | apply Kd.R_alloc | apply Kd.R_drewN | apply Kd.R_drew)); exact Kd.R_mono HO361.out (fun _ hk => hk.1.2)⟩, ⟨by (with_reducible repeat (first | apply Kd.R_alloc | apply Kd.R_drewN | apply Kd.R_drew)); exact Kd.R_mono HO369.out (fun _ hk => hk.1.1.2)⟩, ⟨by repeat (first | (with_reducible first | exact HB.out | apply below_alloc | apply pw_below_drewN | apply below_drew1) | exact HB.out)⟩⟩
          ·rw [if_neg c33] at H
           have c33b0 : (t374.toList == t376.toList) = false := beq_eq_false_iff_ne.mpr c33
           have c33b1 : (t374.toList != t376.toList) = true := bne_iff_ne.mpr c33
           exact absurd (Option.some.inj H) (by rw [HRT.out]; decide)
        ·replace c31 := Bool.eq_false_iff.mpr c31
         subst c31
         have H1 : (some false) = some r := by rw [if_neg (show ¬ (false = true) by decide)] at H; exact H
         clear H
         have H := H1
         clear H1
         exact absurd (Option.some.inj H) (by rw [HRT.out]; decide)
      ·replace c28 := Bool.eq_false_iff.mpr c28
       subst c28
       have H1 : (some false) = some r := by rw [if_neg (show ¬ (false = true) by decide)] at H; exact H
       clear H
       have H := H1
       clear H1
       exact absurd (Option.some.inj H) (by rw [HRT.out]; decide)
    case rest => as_aux_lemma =>
     clear HC19
     obtain ⟨kq, x172_18, rfl, HA, HJ18, HO_13, HO_17, HB⟩ := hcut
     cases kq with
     | zero => exact absurd HA.out (by simp [laws_FnSievesMovedOfAll.j1])
     | succ kj18 =>
      have H := HA.out
      clear HA
      simp only [laws_FnSievesMovedOfAll.j1] at H
      by_cases c48 : x172_18 = true
      ·subst c48
       have H1 : (some false) = some r := by rw [if_pos rfl] at H; exact H
       clear H
       have H := H1
       clear H1
       exact absurd (Option.some.inj H) (by rw [HRT.out]; decide)
      ·replace c48 := Bool.eq_false_iff.mpr c48
       subst c48
       have H1 : (if t367 = true then ((impl_MirrorRules.f kj18 t366).bind fun bt381 => ((impl_ParseRules.f kj18 t374).bind fun bt385 => (if bt381.2 = true then ((laws_tRules.f kj18 bt381.1 l0).bind fun t389 => (if t389 = true then (if bt385.2 = true then ((laws_tRules.f kj18 bt385.1 l0).bind fun t390 => (if t390 = true then (laws_FnSievesMovedOfAll.l0 kj18 l0 a1 l2 l3 l4 a5 t358 t359 t366 (-20)) else (some false))) else (some false)) else (some false))) else (some false)))) else (laws_FnSievesMovedOfAll.j4 kj18 l2 l3 l4 a5)) = some r := by rw [if_neg (show ¬ (false = true) by decide)] at H; exact H
       clear H
       have H := H1
       clear H1
       have HC49 := Aside0.mk H
       clear H
       as_aux_lemma =>
       go_upto_if 173 with (fail)
       go_cut [] from 161 to 173 (fun wc => ∃ (kq : Nat), Aside0 (laws_FnSievesMovedOfAll.j4 kq l2 l3 l4 a5 = some r) ∧ Aside0 (kq ≤ kj18) ∧ Aside0 (Below w.heap.size w wc))
       case first => as_aux_lemma =>
        have H := HC49.out
        clear HC49
        by_cases c50 : t367 = true
        ·subst c50
         have H1 : ((impl_MirrorRules.f kj18 t366).bind fun bt381 => ((impl_ParseRules.f kj18 t374).bind fun bt385 => (if bt381.2 = true then ((laws_tRules.f kj18 bt381.1 l0).bind fun t389 => (if t389 = true then (if bt385.2 = true then ((laws_tRules.f kj18 bt385.1 l0).bind fun t390 => (if t390 = true then (laws_FnSievesMovedOfAll.l0 kj18 l0 a1 l2 l3 l4 a5 t358 t359 t366 (-20)) else (some false))) else (some false)) else (some false))) else (some false)))) = some r := by rw [if_pos rfl] at H; exact H
         clear H
         have H := H1
         clear H1
         replace H := Option.bind_eq_some_iff.mp H
         obtain ⟨⟨t381, t382⟩, A510, H⟩ := H
         replace H : ((impl_ParseRules.f kj18 t374).bind fun bt385 => (if t382 = true then ((laws_tRules.f kj18 t381 l0).bind fun t389 => (if t389 = true then (if bt385.2 = true then ((laws_tRules.f kj18 bt385.1 l0).bind fun t390 => (if t390 = true then (laws_FnSievesMovedOfAll.l0 kj18 l0 a1 l2 l3 l4 a5 t358 t359 t366 (-20)) else (some false))) else (some false)) else (some false))) else (some false))) = some r := H
         have A51 := Aside0.mk A510
         clear A510
         replace H := Option.bind_eq_some_iff.mp H
         obtain ⟨⟨t385, t386⟩, A520, H⟩ := H
         replace H : (if t382 = true then ((laws_tRules.f kj18 t381 l0).bind fun t389 => (if t389 = true then (if t386 = true then ((laws_tRules.f kj18 t385 l0).bind fun t390 => (if t390 = true then (laws_FnSievesMovedOfAll.l0 kj18 l0 a1 l2 l3 l4 a5 t358 t359 t366 (-20)) else (some false))) else (some false)) else (some false))) else (some false)) = some r := H
         have A52 := Aside0.mk A520
         clear A520
         by_cases c53 : t382 = true
         ·subst c53
          have H1 : ((laws_tRules.f kj18 t381 l0).bind fun t389 => (if t389 = true then (if t386 = true then ((laws_tRules.f kj18 t385 l0).bind fun t390 => (if t390 = true then (laws_FnSievesMovedOfAll.l0 kj18 l0 a1 l2 l3 l4 a5 t358 t359 t366 (-20)) else (some false))) else (some false)) else (some false))) = some r := by rw [if_pos rfl] at H; exact H
          clear H
          have H := H1
          clear H1
          as_aux_lemma =>
          replace H := Option.bind_eq_some_iff.mp H
          obtain ⟨t389, A540, H⟩ := H
          replace H : (if t389 = true then (if t386 = true then ((laws_tRules.f kj18 t385 l0).bind fun t390 => (if t390 = true then (laws_FnSievesMovedOfAll.l0 kj18 l0 a1 l2 l3 l4 a5 t358 t359 t366 (-20)) else (some false))) else (some false)) else (some false)) = some r := H
          have A54 := Aside0.mk A540
          clear A540
          by_cases c55 : t389 = true
          ·subst c55
           have H1 : (if t386 = true then ((laws_tRules.f kj18 t385 l0).bind fun t390 => (if t390 = true then (laws_FnSievesMovedOfAll.l0 kj18 l0 a1 l2 l3 l4 a5 t358 t359 t366 (-20)) else (some false))) else (some false)) = some r := by rw [if_pos rfl] at H; exact H
           clear H
           have H := H1
           clear H1
           by_cases c56 : t386 = true
           ·subst c56
            have H1 : ((laws_tRules.f kj18 t385 l0).bind fun t390 => (if t390 = true then (laws_FnSievesMovedOfAll.l0 kj18 l0 a1 l2 l3 l4 a5 t358 t359 t366 (-20)) else (some false))) = some r := by rw [if_pos rfl] at H; exact H
            clear H
            have H := H1
            clear H1
            replace H := Option.bind_eq_some_iff.mp H
            obtain ⟨t390, A570, H⟩ := H
            replace H : (if t390 = true then (laws_FnSievesMovedOfAll.l0 kj18 l0 a1 l2 l3 l4 a5 t358 t359 t366 (-20)) else (some false)) = some r := H
            have A57 := Aside0.mk A570
            clear A570
            by_cases c58 : t390 = true
            ·subst c58
             have H1 : (laws_FnSievesMovedOfAll.l0 kj18 l0 a1 l2 l3 l4 a5 t358 t359 t366 (-20)) = some r := by rw [if_pos rfl] at H; exact H
             clear H
             have H := H1
             clear H1
             have H' := Aside0.mk H
             clear H
             obtain ⟨Ao59, co59, eo59⟩ := Kd.R_slice HO_17.out
             subst eo59
             go_wp2_with (first | ((with_reducible refine gate_callee (f := 7) rfl ?_); refine goesL_ (some 176) rfl rfl Tryz.func7 (by kernel_rfl) rfl #[.slice Ao59 t366.length co59] rfl (by (try simp only [List.map_toArray, List.map_cons, List.map_nil]); first | done | rfl | (simp only [List.length_drop, List.length_take]; rfl)) ?_; (with_reducible refine (impl_MirrorRules.calls kj18 _ _ t366 t381 true _ ?side1 ?side2 A51.out).mono ?_); (case side1 => repeat (first | exact (Kd.R_reads' HO_17.out).2.2 | (with_reducible refine Kd.C_alloc ?_ _) | (with_reducible refine Kd.C_drewN ?_ _) | (with_reducible refine Kd.C_drew ?_))); (case side2 => exact (Kd.R_reads' HO_17.out).2.1); rintro e w60 ⟨v383, rfl, ho0, hb⟩; refine ⟨_, rfl, ?_⟩; have n0_ := Aside0.mk (Kd.R_elder' (by (with_reducible repeat (first | apply Kd.R_alloc | apply Kd.R_drewN | apply Kd.R_drew)); exact HO_13.out) (Kd.R_base ho0) hb); have n1_ := Aside0.mk (Kd.R_elder' (by (with_reducible repeat (first | apply Kd.R_alloc | apply Kd.R_drewN | apply Kd.R_drew)); exact HO_17.out) (Kd.R_base ho0) hb); have n2_ := Aside0.mk (Kd.R_lower (Kd.R_new' (Kd.R_new' ho0 (Kd.R_lt (by (with_reducible repeat (first | apply Kd.R_alloc | apply Kd.R_drewN | apply Kd.R_drew)); exact HO_13.out))) (Kd.R_lt (by (with_reducible repeat (first | apply Kd.R_alloc | apply Kd.R_drewN | apply Kd.R_drew)); exact HO_17.out))) (below_size (by repeat (first | (with_reducible first | exact HB.out | apply below_alloc | apply pw_below_drewN | apply below_drew1) | exact HB.out)))); have n3_ := Aside0.mk (below_step (by repeat (first | (with_reducible first | exact HB.out | apply below_alloc | apply pw_below_drewN | apply below_drew1) | exact HB.out)) hb); clear HO_13; clear HO_17; clear HB; have HO_13 := n0_; have HO_17 := n1_; have HO384 := n2_; have HB := n3_; clear n0_ n1_ n2_ n3_; (try clear hb); (try clear hb2); (try clear hk); (try clear hi); (try clear ho0)) | ((with_reducible refine gate_callee (f := 13) rfl ?_); refine goesL_ (some 181) rfl rfl Tryz.func13 (by kernel_rfl) rfl #[.string t374] rfl (by (try simp only [List.map_toArray, List.map_cons, List.map_nil]); first | done | rfl | (simp only [List.length_drop, List.length_take]; rfl)) ?_; (with_reducible refine (impl_ParseRules.calls kj18 t374 t385 true _ ?glob_ A52.out).mono ?_); (case glob_ => exact GlobP.at_ HG.out (by repeat (first | (with_reducible first | exact HB.out | apply below_alloc | apply pw_below_drewN | apply below_drew1) | exact HB.out))); rintro e w61 ⟨v387, rfl, ho0, hb⟩; refine ⟨_, rfl, ?_⟩; have n0_ := Aside0.mk (Kd.R_elder' (by (with_reducible repeat (first | apply Kd.R_alloc | apply Kd.R_drewN | apply Kd.R_drew)); exact HO_13.out) (Kd.R_base ho0) hb); have n1_ := Aside0.mk (Kd.R_elder' (by (with_reducible repeat (first | apply Kd.R_alloc | apply Kd.R_drewN | apply Kd.R_drew)); exact HO_17.out) (Kd.R_base ho0) hb); have n2_ := Aside0.mk (Kd.R_elder' (by (with_reducible repeat (first | apply Kd.R_alloc | apply Kd.R_drewN | apply Kd.R_drew)); exact HO384.out) (Kd.R_base ho0) hb); have n3_ := Aside0.mk (Kd.R_lower (Kd.R_new' (Kd.R_new' (Kd.R_new' ho0 (Kd.R_lt (by (with_reducible repeat (first | apply Kd.R_alloc | apply Kd.R_drewN | apply Kd.R_drew)); exact HO_13.out))) (Kd.R_lt (by (with_reducible repeat (first | apply Kd.R_alloc | apply Kd.R_drewN | apply Kd.R_drew)); exact HO_17.out))) (Kd.R_lt (by (with_reducible repeat (first | apply Kd.R_alloc | apply Kd.R_drewN | apply Kd.R_drew)); exact HO384.out))) (below_size (by repeat (first | (with_reducible first | exact HB.out | apply below_alloc | apply pw_below_drewN | apply below_drew1) | exact HB.out)))); have n4_ := Aside0.mk (below_step (by repeat (first | (with_reducible first | exact HB.out | apply below_alloc | apply pw_below_drewN | apply below_drew1) | exact HB.out)) hb); clear HO_13; clear HO_17; clear HO384; clear HB; have HO_13 := n0_; have HO_17 := n1_; have HO384 := n2_; have HO388 := n3_; have HB := n4_; clear n0_ n1_ n2_ n3_ n4_; (try clear hb); (try clear hb2); (try clear hk); (try clear hi); (try clear ho0); obtain ⟨Ao62, co62, eo62⟩ := Kd.R_slice HO384.out; subst eo62) | (go_at_call 11; (with_reducible refine (laws_tRules.calls kj18 _ _ t381 _ _ l0 true _ ?side1 ?side2 ?side3 ?side4 A54.out).mono ?_); (case side1 => repeat (first | exact (Kd.R_reads' HO384.out).2.2 | (with_reducible refine Kd.C_alloc ?_ _) | (with_reducible refine Kd.C_drewN ?_ _) | (with_reducible refine Kd.C_drew ?_))); (case side2 => exact (Kd.R_reads' HO384.out).2.1); (case side3 => repeat (first | exact (Kd.C_below HR0.out HB.out) | (with_reducible refine Kd.C_alloc ?_ _) | (with_reducible refine Kd.C_drewN ?_ _) | (with_reducible refine Kd.C_drew ?_))); (case side4 => exact HC0.out); rintro e w' ⟨rfl, ⟨nd, rfl⟩⟩; obtain ⟨Ao63, co63, eo63⟩ := Kd.R_slice HO388.out; subst eo63) | (go_at_call 11; (with_reducible refine (laws_tRules.calls kj18 _ _ t385 _ _ l0 true _ ?side1 ?side2 ?side3 ?side4 A57.out).mono ?_); (case side1 => repeat (first | exact (Kd.R_reads' HO388.out).2.2 | (with_reducible refine Kd.C_alloc ?_ _) | (with_reducible refine Kd.C_drewN ?_ _) | (with_reducible refine Kd.C_drew ?_))); (case side2 => exact (Kd.R_reads' HO388.out).2.1); (case side3 => repeat (first | exact (Kd.C_below HR0.out (by repeat (first | (with_reducible first | exact HB.out | apply below_alloc | apply pw_below_drewN | apply below_drew1) | exact HB.out))) | (with_reducible refine Kd.C_alloc ?_ _) | (with_reducible refine Kd.C_drewN ?_ _) | (with_reducible refine Kd.C_drew ?_))); (case side4 => exact HC0.out); rintro e w' ⟨rfl, ⟨nd, rfl⟩⟩))
             as_aux_lemma =>
             go_loopg [29] kj18 (fun kq v29 w' => ∃ (x29_3 : Int), v29 = .int .i64 x29_3 ∧ Aside0 (laws_FnSievesMovedOfAll.l0 kq l0 a1 l2 l3 l4 a5 t358 t359 t366 x29_3 = some r) ∧ Aside0 (kq ≤ kj18) ∧ Aside0 (Kd.R k41 41 w' w.heap.size (fun k_ => some k_ ≠ ((.slice Ao59 t366.length co59) : Value).ownBlock) v360 t358) ∧ Aside0 (Kd.R k41 41 w' w.heap.size (fun k_ => some k_ ≠ (v360 : Value).ownBlock) (.slice Ao59 t366.length co59) t366) ∧ Aside0 (Below w.heap.size w w'))
             case atStart => exact ⟨((-20)), (by first | rfl | (simp; done) | (simp [*]; done)), H', ⟨Nat.le_refl _⟩, ⟨by (with_reducible repeat (first | apply Kd.R_alloc | apply Kd.R_drewN | apply Kd.R_drew)); exact Kd.R_mono HO_13.out (fun _ hk => hk.1.1)⟩, ⟨by (with_reducible repeat (first | apply Kd.R_alloc | apply Kd.R_drewN | apply Kd.R_drew)); exact Kd.R_mono HO_17.out (fun _ hk => hk.1.1)⟩, ⟨by repeat (first | (with_reducible first | exact HB.out | apply below_alloc | apply pw_below_drewN | apply below_drew1) | exact HB.out)⟩⟩
             case round => as_aux_lemma =>
              clear H'
              obtain ⟨x29_3, rfl, HA, HK3, HO_13, HO_17, HB⟩ := hrel
              cases gk with
              | zero => exact absurd HA.out (by simp [laws_FnSievesMovedOfAll.l0])
              | succ k3 =>
               have H := HA.out
               clear HA
               simp only [laws_FnSievesMovedOfAll.l0] at H
               by_cases c64 : x29_3 ≤ 20
               ·rw [if_pos c64] at H
                have c64b0 : decide (x29_3 ≤ 20) = true := decide_eq_true c64
                clear c64
                (first | rw [c64b0] | (simp only [i64_w, i32_w]; rw [c64b0]) | skip)
                replace H := Option.bind_eq_some_iff.mp H
                obtain ⟨⟨t391, t392⟩, A650, H⟩ := H
                replace H : ((impl_IsLeft.f t366 (wrap64 (-x29_3))).bind fun bt393 => (if t392 = true then (if bt393.2 = true then (if (t391 != bt393.1) = true then (some false) else (if t359 = true then (if (wrap64 (x29_3 + a1)) ≥ (-600) then (laws_FnSievesMovedOfAll.j3 k3 l0 a1 l2 l3 l4 a5 t358 t359 t366 x29_3 t391 (decide ((wrap64 (x29_3 + a1)) ≤ 600))) else (laws_FnSievesMovedOfAll.j3 k3 l0 a1 l2 l3 l4 a5 t358 t359 t366 x29_3 t391 false)) else (laws_FnSievesMovedOfAll.j3 k3 l0 a1 l2 l3 l4 a5 t358 t359 t366 x29_3 t391 false))) else (some false)) else (some false))) = some r := H
                have A65 := Aside0.mk A650
                clear A650
                replace H := Option.bind_eq_some_iff.mp H
                obtain ⟨⟨t393, t394⟩, A660, H⟩ := H
                replace H : (if t392 = true then (if t394 = true then (if (t391 != t393) = true then (some false) else (if t359 = true then (if (wrap64 (x29_3 + a1)) ≥ (-600) then (laws_FnSievesMovedOfAll.j3 k3 l0 a1 l2 l3 l4 a5 t358 t359 t366 x29_3 t391 (decide ((wrap64 (x29_3 + a1)) ≤ 600))) else (laws_FnSievesMovedOfAll.j3 k3 l0 a1 l2 l3 l4 a5 t358 t359 t366 x29_3 t391 false)) else (laws_FnSievesMovedOfAll.j3 k3 l0 a1 l2 l3 l4 a5 t358 t359 t366 x29_3 t391 false))) else (some false)) else (some false)) = some r := H
                have A66 := Aside0.mk A660
                clear A660
                by_cases c67 : t392 = true
                ·as_aux_lemma =>
                 subst c67
                 have H1 : (if t394 = true then (if (t391 != t393) = true then (some false) else (if t359 = true then (if (wrap64 (x29_3 + a1)) ≥ (-600) then (laws_FnSievesMovedOfAll.j3 k3 l0 a1 l2 l3 l4 a5 t358 t359 t366 x29_3 t391 (decide ((wrap64 (x29_3 + a1)) ≤ 600))) else (laws_FnSievesMovedOfAll.j3 k3 l0 a1 l2 l3 l4 a5 t358 t359 t366 x29_3 t391 false)) else (laws_FnSievesMovedOfAll.j3 k3 l0 a1 l2 l3 l4 a5 t358 t359 t366 x29_3 t391 false))) else (some false)) = some r := by rw [if_pos rfl] at H; exact H
                 clear H
                 have H := H1
                 clear H1
                 by_cases c68 : t394 = true
                 ·subst c68
                  have H1 : (if (t391 != t393) = true then (some false) else (if t359 = true then (if (wrap64 (x29_3 + a1)) ≥ (-600) then (laws_FnSievesMovedOfAll.j3 k3 l0 a1 l2 l3 l4 a5 t358 t359 t366 x29_3 t391 (decide ((wrap64 (x29_3 + a1)) ≤ 600))) else (laws_FnSievesMovedOfAll.j3 k3 l0 a1 l2 l3 l4 a5 t358 t359 t366 x29_3 t391 false)) else (laws_FnSievesMovedOfAll.j3 k3 l0 a1 l2 l3 l4 a5 t358 t359 t366 x29_3 t391 false))) = some r := by rw [if_pos rfl] at H; exact H
                  clear H
                  have H := H1
                  clear H1
                  by_cases c69 : (t391 != t393) = true
                  ·rw [if_pos c69] at H
                   have c69b0 : (t391 != t393) = true := c69
                   (try (have c69b1 : decide (t391 = t393) = false := by simpa using c69))
                   (try (have c69b2 : (t391 == t393) = false := by simpa using c69))
                   (try (have c69b3 : ¬ (t391 = t393) := by simpa using c69))
                   clear c69
                   exact absurd (Option.some.inj H) (by rw [HRT.out]; decide)
                  ·rw [if_neg c69] at H
                   have c69b0 : (t391 != t393) = false := by simpa using c69
                   (try (have c69b1 : decide (t391 = t393) = true := by simpa using c69))
                   (try (have c69b2 : (t391 == t393) = true := by simpa using c69))
                   clear c69
                   have HC70 := Aside0.mk H
                   clear H
                   as_aux_lemma =>
                   go_upto_region 23 with (first | ((with_reducible refine gate_callee (f := 14) rfl ?_); refine goesL_ (some 209) rfl rfl Tryz.func14 (by kernel_rfl) rfl #[.slice A0 l0.length c0, .int .i64 x29_3] rfl (by (try simp only [List.map_toArray, List.map_cons, List.map_nil]); first | done | rfl | (simp only [List.length_drop, List.length_take]; rfl)) ?_; (with_reducible refine (impl_IsLeft.calls _ _ l0 x29_3 t391 true _ ?side1 ?side2 A65.out).mono ?_); (case side1 => repeat (first | exact (Kd.C_below HR0.out HB.out) | (with_reducible refine Kd.C_alloc ?_ _) | (with_reducible refine Kd.C_drewN ?_ _) | (with_reducible refine Kd.C_drew ?_))); (case side2 => exact HC0.out); rintro e w71 ⟨rfl, hb⟩; refine ⟨_, rfl, ?_⟩; have n0_ := Aside0.mk (Kd.R_below (by (with_reducible repeat (first | apply Kd.R_alloc | apply Kd.R_drewN | apply Kd.R_drew)); exact HO_13.out) hb); have n1_ := Aside0.mk (Kd.R_below (by (with_reducible repeat (first | apply Kd.R_alloc | apply Kd.R_drewN | apply Kd.R_drew)); exact HO_17.out) hb); have n2_ := Aside0.mk (below_step (by repeat (first | (with_reducible first | exact HB.out | apply below_alloc | apply pw_below_drewN | apply below_drew1) | exact HB.out)) hb); clear HO_13; clear HO_17; clear HB; have HO_13 := n0_; have HO_17 := n1_; have HB := n2_; clear n0_ n1_ n2_; (try clear hb); (try clear hb2); (try clear hk); (try clear hi)) | ((with_reducible refine gate_callee (f := 14) rfl ?_); refine goesL_ (some 216) rfl rfl Tryz.func14 (by kernel_rfl) rfl #[.slice Ao59 t366.length co59, .int .i64 (wrap64 (-x29_3))] rfl (by (try simp only [List.map_toArray, List.map_cons, List.map_nil]); first | done | rfl | (simp only [List.length_drop, List.length_take]; rfl)) ?_; (with_reducible refine (impl_IsLeft.calls _ _ t366 (wrap64 (-x29_3)) t393 true _ ?side1 ?side2 A66.out).mono ?_); (case side1 => repeat (first | exact (Kd.R_reads' HO_17.out).2.2 | (with_reducible refine Kd.C_alloc ?_ _) | (with_reducible refine Kd.C_drewN ?_ _) | (with_reducible refine Kd.C_drew ?_))); (case side2 => exact (Kd.R_reads' HO_17.out).2.1); rintro e w72 ⟨rfl, hb⟩; refine ⟨_, rfl, ?_⟩; have n0_ := Aside0.mk (Kd.R_below (by (with_reducible repeat (first | apply Kd.R_alloc | apply Kd.R_drewN | apply Kd.R_drew)); exact HO_13.out) hb); have n1_ := Aside0.mk (Kd.R_below (by (with_reducible repeat (first | apply Kd.R_alloc | apply Kd.R_drewN | apply Kd.R_drew)); exact HO_17.out) hb); have n2_ := Aside0.mk (below_step (by repeat (first | (with_reducible first | exact HB.out | apply below_alloc | apply pw_below_drewN | apply below_drew1) | exact HB.out)) hb); clear HO_13; clear HO_17; clear HB; have HO_13 := n0_; have HO_17 := n1_; have HB := n2_; clear n0_ n1_ n2_; (try clear hb); (try clear hb2); (try clear hk); (try clear hi)))
                   (try simp only [Act.put, List.setIfInBounds_toArray, List.set_cons_zero, List.set_cons_succ])
                   go_cut [242] from 230 to 242 (fun v242 wc => ∃ (kq : Nat) (x242_69 : Bool), v242 = .bool x242_69 ∧ Aside0 (laws_FnSievesMovedOfAll.j3 kq l0 a1 l2 l3 l4 a5 t358 t359 t366 x29_3 t391 x242_69 = some r) ∧ Aside0 (kq ≤ k3) ∧ Aside0 (Kd.R k41 41 wc w.heap.size (fun k_ => some k_ ≠ ((.slice Ao59 t366.length co59) : Value).ownBlock) v360 t358) ∧ Aside0 (Kd.R k41 41 wc w.heap.size (fun k_ => some k_ ≠ (v360 : Value).ownBlock) (.slice Ao59 t366.length co59) t366) ∧ Aside0 (Below w.heap.size w wc))
                   case first => as_aux_lemma =>
                    have H := HC70.out
                    clear HC70
                    by_cases c73 : t359 = true
                    ·subst c73
                     have H1 : (if (wrap64 (x29_3 + a1)) ≥ (-600) then (laws_FnSievesMovedOfAll.j3 k3 l0 a1 l2 l3 l4 a5 t358 true t366 x29_3 t391 (decide ((wrap64 (x29_3 + a1)) ≤ 600))) else (laws_FnSievesMovedOfAll.j3 k3 l0 a1 l2 l3 l4 a5 t358 true t366 x29_3 t391 false)) = some r := by rw [if_pos rfl] at H; exact H
                     clear H
                     have H := H1
                     clear H1
                     by_cases c74 : (wrap64 (x29_3 + a1)) ≥ (-600)
                     ·rw [if_pos c74] at H
                      have c74b0 : decide ((-600) ≤ (wrap64 (x29_3 + a1))) = true := decide_eq_true c74
                      clear c74
                      (first | rw [c74b0] | (simp only [i64_w, i32_w]; rw [c74b0]) | skip)
                      have H' := Aside0.mk H
                      clear H
                      go_wp2
                      refine Met.intro ?_
                      go_step
                      (repeat with_reducible apply ex32_)
                      (repeat apply Exists.intro)
                      refine ⟨?rel, rfl⟩
                      case rel => exact ⟨_, (decide ((wrap64 (x29_3 + a1)) ≤ 600)), (by first | rfl | (simp; done) | (simp [*]; done)), H', ⟨by have := HJ6.out; have := HJ18.out; have := HK3.out; first | omega | exact Nat.le_refl _⟩, ⟨by (with_reducible repeat (first | apply Kd.R_alloc | apply Kd.R_drewN | apply Kd.R_drew)); exact HO_13.out⟩, ⟨by (with_reducible repeat (first | apply Kd.R_alloc | apply Kd.R_drewN | apply Kd.R_drew)); exact HO_17.out⟩, ⟨by repeat (first | (with_reducible first | exact HB.out | apply below_alloc | apply pw_below_drewN | apply below_drew1) | exact HB.out)⟩⟩
                     ·rw [if_neg c74] at H
                      have c74b0 : decide ((-600) ≤ (wrap64 (x29_3 + a1))) = false := decide_eq_false c74
                      clear c74
                      (first | rw [c74b0] | (simp only [i64_w, i32_w]; rw [c74b0]) | skip)
                      have H' := Aside0.mk H
                      clear H
                      go_wp2
                      refine Met.intro ?_
                      go_step
                      (repeat with_reducible apply ex32_)
                      (repeat apply Exists.intro)
                      refine ⟨?rel, rfl⟩
                      case rel => exact ⟨_, (false), (by first | rfl | (simp; done) | (simp [*]; done)), H', ⟨by have := HJ6.out; have := HJ18.out; have := HK3.out; first | omega | exact Nat.le_refl _⟩, ⟨by (with_reducible repeat (first | apply Kd.R_alloc | apply Kd.R_drewN | apply Kd.R_drew)); exact HO_13.out⟩, ⟨by (with_reducible repeat (first | apply Kd.R_alloc | apply Kd.R_drewN | apply Kd.R_drew)); exact HO_17.out⟩, ⟨by repeat (first | (with_reducible first | exact HB.out | apply below_alloc | apply pw_below_drewN | apply below_drew1) | exact HB.out)⟩⟩
                    ·as_aux_lemma =>
                     replace c73 := Bool.eq_false_iff.mpr c73
                     subst c73
                     have H1 : (laws_FnSievesMovedOfAll.j3 k3 l0 a1 l2 l3 l4 a5 t358 false t366 x29_3 t391 false) = some r := by rw [if_neg (show ¬ (false = true) by decide)] at H; exact H
                     clear H
                     have H := H1
                     clear H1
                     have H' := Aside0.mk H
                     clear H
                     go_wp2
                     refine Met.intro ?_
                     go_step
                     (repeat with_reducible apply ex32_)
                     (repeat apply Exists.intro)
                     refine ⟨?rel, rfl⟩
                     case rel => exact ⟨_, (false), (by first | rfl | (simp; done) | (simp [*]; done)), H', ⟨by have := HJ6.out; have := HJ18.out; have := HK3.out; first | omega | exact Nat.le_refl _⟩, ⟨by (with_reducible repeat (first | apply Kd.R_alloc | apply Kd.R_drewN | apply Kd.R_drew)); exact HO_13.out⟩, ⟨by (with_reducible repeat (first | apply Kd.R_alloc | apply Kd.R_drewN | apply Kd.R_drew)); exact HO_17.out⟩, ⟨by repeat (first | (with_reducible first | exact HB.out | apply below_alloc | apply pw_below_drewN | apply below_drew1) | exact HB.out)⟩⟩
                   case rest => as_aux_lemma =>
                    clear HC70
                    obtain ⟨kq, x242_69, rfl, HA, HJ69, HO_13, HO_17, HB⟩ := hcut
                    cases kq with
                    | zero => exact absurd HA.out (by simp [laws_FnSievesMovedOfAll.j3])
                    | succ kj69 =>
                     have H := HA.out
                     clear HA
                     simp only [laws_FnSievesMovedOfAll.j3] at H
                     by_cases c75 : x242_69 = true
                     ·subst c75
                      have H1 : ((impl_IsLeft.f t358 (wrap64 (x29_3 + a1))).bind fun bt395 => (if bt395.2 = true then (if (bt395.1 != t391) = true then (some false) else (laws_FnSievesMovedOfAll.l0 kj69 l0 a1 l2 l3 l4 a5 t358 t359 t366 (wrap64 (x29_3 + 1)))) else (some false))) = some r := by rw [if_pos rfl] at H; exact H
                      clear H
                      have H := H1
                      clear H1
                      replace H := Option.bind_eq_some_iff.mp H
                      obtain ⟨⟨t395, t396⟩, A760, H⟩ := H
                      replace H : (if t396 = true then (if (t395 != t391) = true then (some false) else (laws_FnSievesMovedOfAll.l0 kj69 l0 a1 l2 l3 l4 a5 t358 t359 t366 (wrap64 (x29_3 + 1)))) else (some false)) = some r := H
                      have A76 := Aside0.mk A760
                      clear A760
                      by_cases c77 : t396 = true
                      ·subst c77
                       have H1 : (if (t395 != t391) = true then (some false) else (laws_FnSievesMovedOfAll.l0 kj69 l0 a1 l2 l3 l4 a5 t358 t359 t366 (wrap64 (x29_3 + 1)))) = some r := by rw [if_pos rfl] at H; exact H
                       clear H
                       have H := H1
                       clear H1
                       by_cases c78 : (t395 != t391) = true
                       ·rw [if_pos c78] at H
                        have c78b0 : (t395 != t391) = true := c78
                        (try (have c78b1 : decide (t395 = t391) = false := by simpa using c78))
                        (try (have c78b2 : (t395 == t391) = false := by simpa using c78))
                        (try (have c78b3 : ¬ (t395 = t391) := by simpa using c78))
                        clear c78
                        exact absurd (Option.some.inj H) (by rw [HRT.out]; decide)
                       ·as_aux_lemma =>
                        rw [if_neg c78] at H
                        have c78b0 : (t395 != t391) = false := by simpa using c78
                        (try (have c78b1 : decide (t395 = t391) = true := by simpa using c78))
                        (try (have c78b2 : (t395 == t391) = true := by simpa using c78))
                        clear c78
                        have H' := Aside0.mk H
                        clear H
                        obtain ⟨Ao79, co79, eo79⟩ := Kd.R_slice HO_13.out
                        subst eo79
                        go_wp2_with (first | ((with_reducible refine gate_callee (f := 14) rfl ?_); refine goesL_ (some 248) rfl rfl Tryz.func14 (by kernel_rfl) rfl #[.slice Ao79 t358.length co79, .int .i64 (wrap64 (x29_3 + a1))] rfl (by (try simp only [List.map_toArray, List.map_cons, List.map_nil]); first | done | rfl | (simp only [List.length_drop, List.length_take]; rfl)) ?_; (with_reducible refine (impl_IsLeft.calls _ _ t358 (wrap64 (x29_3 + a1)) t395 true _ ?side1 ?side2 A76.out).mono ?_); (case side1 => repeat (first | exact (Kd.R_reads' HO_13.out).2.2 | (with_reducible refine Kd.C_alloc ?_ _) | (with_reducible refine Kd.C_drewN ?_ _) | (with_reducible refine Kd.C_drew ?_))); (case side2 => exact (Kd.R_reads' HO_13.out).2.1); rintro e w80 ⟨rfl, hb⟩; refine ⟨_, rfl, ?_⟩; have n0_ := Aside0.mk (Kd.R_below (by (with_reducible repeat (first | apply Kd.R_alloc | apply Kd.R_drewN | apply Kd.R_drew)); exact HO_13.out) hb); have n1_ := Aside0.mk (Kd.R_below (by (with_reducible repeat (first | apply Kd.R_alloc | apply Kd.R_drewN | apply Kd.R_drew)); exact HO_17.out) hb); have n2_ := Aside0.mk (below_step (by repeat (first | (with_reducible first | exact HB.out | apply below_alloc | apply pw_below_drewN | apply below_drew1) | exact HB.out)) hb); clear HO_13; clear HO_17; clear HB; have HO_13 := n0_; have HO_17 := n1_; have HB := n2_; clear n0_ n1_ n2_; (try clear hb); (try clear hb2); (try clear hk); (try clear hi)))
                        refine Handed.intro kj69 ?measure ?_
                        rotate_left
                        go_step
                        (repeat with_reducible apply ex32_)
                        (repeat apply Exists.intro)
                        refine ⟨?rel, rfl⟩
                        case measure => have := HJ6.out; have := HJ18.out; have := HK3.out; have := HJ69.out; omega
                        case rel => exact ⟨(wrap64 (x29_3 + 1)), (by first | rfl | (simp; done) | (simp [*]; done)), H', ⟨by have := HJ6.out; have := HJ18.out; have := HK3.out; have := HJ69.out; omega⟩, ⟨by (with_reducible repeat (first | apply Kd.R_alloc | apply Kd.R_drewN | apply Kd.R_drew)); exact HO_13.out⟩, ⟨by (with_reducible repeat (first | apply Kd.R_alloc | apply Kd.R_drewN | apply Kd.R_drew)); exact HO_17.out⟩, ⟨by repeat (first | (with_reducible first | exact HB.out | apply below_alloc | apply pw_below_drewN | apply below_drew1) | exact HB.out)⟩⟩
                      ·replace c77 := Bool.eq_false_iff.mpr c77
                       subst c77
                       have H1 : (some false) = some r := by rw [if_neg (show ¬ (false = true) by decide)] at H; exact H
                       clear H
                       have H := H1
                       clear H1
                       exact absurd (Option.some.inj H) (by rw [HRT.out]; decide)
                     ·as_aux_lemma =>
                      replace c75 := Bool.eq_false_iff.mpr c75
                      subst c75
                      have H1 : (laws_FnSievesMovedOfAll.l0 kj69 l0 a1 l2 l3 l4 a5 t358 t359 t366 (wrap64 (x29_3 + 1))) = some r := by rw [if_neg (show ¬ (false = true) by decide)] at H; exact H
                      clear H
                      have H := H1
                      clear H1
                      have H' := Aside0.mk H
                      clear H
                      go_wp2
                      refine Handed.intro kj69 ?measure ?_
                      rotate_left
                      go_step
                      (repeat with_reducible apply ex32_)
                      (repeat apply Exists.intro)
                      refine ⟨?rel, rfl⟩
                      case measure => have := HJ6.out; have := HJ18.out; have := HK3.out; have := HJ69.out; omega
                      case rel => exact ⟨(wrap64 (x29_3 + 1)), (by first | rfl | (simp; done) | (simp [*]; done)), H', ⟨by have := HJ6.out; have := HJ18.out; have := HK3.out; have := HJ69.out; omega⟩, ⟨by (with_reducible repeat (first | apply Kd.R_alloc | apply Kd.R_drewN | apply Kd.R_drew)); exact HO_13.out⟩, ⟨by (with_reducible repeat (first | apply Kd.R_alloc | apply Kd.R_drewN | apply Kd.R_drew)); exact HO_17.out⟩, ⟨by repeat (first | (with_reducible first | exact HB.out | apply below_alloc | apply pw_below_drewN | apply below_drew1) | exact HB.out)⟩⟩
                 ·replace c68 := Bool.eq_false_iff.mpr c68
                  subst c68
                  have H1 : (some false) = some r := by rw [if_neg (show ¬ (false = true) by decide)] at H; exact H
                  clear H
                  have H := H1
                  clear H1
                  exact absurd (Option.some.inj H) (by rw [HRT.out]; decide)
                ·replace c67 := Bool.eq_false_iff.mpr c67
                 subst c67
                 have H1 : (some false) = some r := by rw [if_neg (show ¬ (false = true) by decide)] at H; exact H
                 clear H
                 have H := H1
                 clear H1
                 exact absurd (Option.some.inj H) (by rw [HRT.out]; decide)
               ·rw [if_neg c64] at H
                have c64b0 : decide (x29_3 ≤ 20) = false := decide_eq_false c64
                clear c64
                (first | rw [c64b0] | (simp only [i64_w, i32_w]; rw [c64b0]) | skip)
                have H' := Aside0.mk H
                clear H
                go_wp2
                refine Met.intro ?_
                go_step
                (repeat with_reducible apply ex32_)
                (repeat apply Exists.intro)
                refine ⟨?rel, rfl⟩
                case rel => exact ⟨_, H', ⟨by have := HJ6.out; have := HJ18.out; have := HK3.out; first | omega | exact Nat.le_refl _⟩, ⟨by repeat (first | (with_reducible first | exact HB.out | apply below_alloc | apply pw_below_drewN | apply below_drew1) | exact HB.out)⟩⟩
            ·replace c58 := Bool.eq_false_iff.mpr c58
             subst c58
             have H1 : (some false) = some r := by rw [if_neg (show ¬ (false = true) by decide)] at H; exact H
             clear H
             have H := H1
             clear H1
             exact absurd (Option.some.inj H) (by rw [HRT.out]; decide)
           ·replace c56 := Bool.eq_false_iff.mpr c56
            subst c56
            have H1 : (some false) = some r := by rw [if_neg (show ¬ (false = true) by decide)] at H; exact H
            clear H
            have H := H1
            clear H1
            exact absurd (Option.some.inj H) (by rw [HRT.out]; decide)
          ·replace c55 := Bool.eq_false_iff.mpr c55
           subst c55
           have H1 : (some false) = some r := by rw [if_neg (show ¬ (false = true) by decide)] at H; exact H
           clear H
           have H := H1
           clear H1
           exact absurd (Option.some.inj H) (by rw [HRT.out]; decide)
         ·replace c53 := Bool.eq_false_iff.mpr c53
          subst c53
          have H1 : (some false) = some r := by rw [if_neg (show ¬ (false = true) by decide)] at H; exact H
          clear H
          have H := H1
          clear H1
          exact absurd (Option.some.inj H) (by rw [HRT.out]; decide)
        ·as_aux_lemma =>
         replace c50 := Bool.eq_false_iff.mpr c50
         subst c50
         have H1 : (laws_FnSievesMovedOfAll.j4 kj18 l2 l3 l4 a5) = some r := by rw [if_neg (show ¬ (false = true) by decide)] at H; exact H
         clear H
         have H := H1
         clear H1
         have H' := Aside0.mk H
         clear H
         go_wp2
         refine Met.intro ?_
         go_step
         (repeat with_reducible apply ex32_)
         (repeat apply Exists.intro)
         refine ⟨?rel, rfl⟩
         case rel => exact ⟨_, H', ⟨by have := HJ6.out; have := HJ18.out; first | omega | exact Nat.le_refl _⟩, ⟨by repeat (first | (with_reducible first | exact HB.out | apply below_alloc | apply pw_below_drewN | apply below_drew1) | exact HB.out)⟩⟩
       case rest => as_aux_lemma =>
        clear HC49
        obtain ⟨kq, HA, HJ48, HB⟩ := hcut
        cases kq with
        | zero => exact absurd HA.out (by simp [laws_FnSievesMovedOfAll.j4])
        | succ kj48 =>
         have H := HA.out
         clear HA
         simp only [laws_FnSievesMovedOfAll.j4] at H
         replace H := Option.bind_eq_some_iff.mp H
         obtain ⟨⟨t397, t398⟩, A810, H⟩ := H
         replace H : ((spec_DropNeedless.f kj48 l2).bind fun bt401 => ((impl_NeedlessRules.f kj48 l2).bind fun bt405 => ((spec_NeedlessRules.f kj48 l2).bind fun bt409 => ((impl_PeriodOfRules.f kj48 l2).bind fun bt413 => ((spec_PeriodOfRules.f kj48 l2).bind fun bt415 => ((impl_LeftInPeriod.f kj48 l2).bind fun bt417 => ((spec_LeftInPeriod.f kj48 l2).bind fun bt419 => (if (t398 != bt401.2) = true then (some false) else ((laws_tRules.f kj48 t397 bt401.1).bind fun t421 => (if t421 = true then (if (bt405.2 != bt409.2) = true then (some false) else ((laws_tSame.f kj48 bt405.1 bt409.1).bind fun t422 => (if t422 = true then (if (bt413.2 != bt415.2) = true then (some false) else (if bt413.1 = bt415.1 then (if (bt417.2 != bt419.2) = true then (some false) else (if bt417.1 = bt419.1 then (if (t398 != bt413.2) = true then (some false) else (if (bt405.2 != bt413.2) = true then (some false) else (if (bt417.2 != bt413.2) = true then (some false) else (if bt413.2 = true then ((impl_AreSameSieve.f kj48 l2 t397).bind fun bt423 => ((impl_NeedlessRules.f kj48 t397).bind fun bt425 => (if bt423.2 = true then (if bt423.1 = true then (if bt425.2 = true then (if (bt425.1.length : Int) = 0 then (if (((bt405.1.length : Int) == 0) != ((t397.length : Int) == (l2.length : Int))) = true then (some false) else (if bt417.1 < 0 then (some false) else (if bt417.1 > bt413.1 then (some false) else (laws_FnSievesMovedOfAll.l1 kj48 l2 l3 l4 a5 bt413.1 bt417.1 l2 (l2.length : Int) 0)))) else (some false)) else (some false)) else (some false)) else (some false)))) else (laws_FnSievesMovedOfAll.j6 kj48 l3 l4 a5))))) else (some false))) else (some false))) else (some false)))) else (some false))))))))))) = some r := H
         have A81 := Aside0.mk A810
         clear A810
         replace H := Option.bind_eq_some_iff.mp H
         obtain ⟨⟨t401, t402⟩, A820, H⟩ := H
         replace H : ((impl_NeedlessRules.f kj48 l2).bind fun bt405 => ((spec_NeedlessRules.f kj48 l2).bind fun bt409 => ((impl_PeriodOfRules.f kj48 l2).bind fun bt413 => ((spec_PeriodOfRules.f kj48 l2).bind fun bt415 => ((impl_LeftInPeriod.f kj48 l2).bind fun bt417 => ((spec_LeftInPeriod.f kj48 l2).bind fun bt419 => (if (t398 != t402) = true then (some false) else ((laws_tRules.f kj48 t397 t401).bind fun t421 => (if t421 = true then (if (bt405.2 != bt409.2) = true then (some false) else ((laws_tSame.f kj48 bt405.1 bt409.1).bind fun t422 => (if t422 = true then (if (bt413.2 != bt415.2) = true then (some false) else (if bt413.1 = bt415.1 then (if (bt417.2 != bt419.2) = true then (some false) else (if bt417.1 = bt419.1 then (if (t398 != bt413.2) = true then (some false) else (if (bt405.2 != bt413.2) = true then (some false) else (if (bt417.2 != bt413.2) = true then (some false) else (if bt413.2 = true then ((impl_AreSameSieve.f kj48 l2 t397).bind fun bt423 => ((impl_NeedlessRules.f kj48 t397).bind fun bt425 => (if bt423.2 = true then (if bt423.1 = true then (if bt425.2 = true then (if (bt425.1.length : Int) = 0 then (if (((bt405.1.length : Int) == 0) != ((t397.length : Int) == (l2.length : Int))) = true then (some false) else (if bt417.1 < 0 then (some false) else (if bt417.1 > bt413.1 then (some false) else (laws_FnSievesMovedOfAll.l1 kj48 l2 l3 l4 a5 bt413.1 bt417.1 l2 (l2.length : Int) 0)))) else (some false)) else (some false)) else (some false)) else (some false)))) else (laws_FnSievesMovedOfAll.j6 kj48 l3 l4 a5))))) else (some false))) else (some false))) else (some false)))) else (some false)))))))))) = some r := H
         have A82 := Aside0.mk A820
         clear A820
         replace H := Option.bind_eq_some_iff.mp H
         obtain ⟨⟨t405, t406⟩, A830, H⟩ := H
         replace H : ((spec_NeedlessRules.f kj48 l2).bind fun bt409 => ((impl_PeriodOfRules.f kj48 l2).bind fun bt413 => ((spec_PeriodOfRules.f kj48 l2).bind fun bt415 => ((impl_LeftInPeriod.f kj48 l2).bind fun bt417 => ((spec_LeftInPeriod.f kj48 l2).bind fun bt419 => (if (t398 != t402) = true then (some false) else ((laws_tRules.f kj48 t397 t401).bind fun t421 => (if t421 = true then (if (t406 != bt409.2) = true then (some false) else ((laws_tSame.f kj48 t405 bt409.1).bind fun t422 => (if t422 = true then (if (bt413.2 != bt415.2) = true then (some false) else (if bt413.1 = bt415.1 then (if (bt417.2 != bt419.2) = true then (some false) else (if bt417.1 = bt419.1 then (if (t398 != bt413.2) = true then (some false) else (if (t406 != bt413.2) = true then (some false) else (if (bt417.2 != bt413.2) = true then (some false) else (if bt413.2 = true then ((impl_AreSameSieve.f kj48 l2 t397).bind fun bt423 => ((impl_NeedlessRules.f kj48 t397).bind fun bt425 => (if bt423.2 = true then (if bt423.1 = true then (if bt425.2 = true then (if (bt425.1.length : Int) = 0 then (if (((t405.length : Int) == 0) != ((t397.length : Int) == (l2.length : Int))) = true then (some false) else (if bt417.1 < 0 then (some false) else (if bt417.1 > bt413.1 then (some false) else (laws_FnSievesMovedOfAll.l1 kj48 l2 l3 l4 a5 bt413.1 bt417.1 l2 (l2.length : Int) 0)))) else (some false)) else (some false)) else (some false)) else (some false)))) else (laws_FnSievesMovedOfAll.j6 kj48 l3 l4 a5))))) else (some false))) else (some false))) else (some false)))) else (some false))))))))) = some r := H
         have A83 := Aside0.mk A830
         clear A830
         replace H := Option.bind_eq_some_iff.mp H
         obtain ⟨⟨t409, t410⟩, A840, H⟩ := H
         replace H : ((impl_PeriodOfRules.f kj48 l2).bind fun bt413 => ((spec_PeriodOfRules.f kj48 l2).bind fun bt415 => ((impl_LeftInPeriod.f kj48 l2).bind fun bt417 => ((spec_LeftInPeriod.f kj48 l2).bind fun bt419 => (if (t398 != t402) = true then (some false) else ((laws_tRules.f kj48 t397 t401).bind fun t421 => (if t421 = true then (if (t406 != t410) = true then (some false) else ((laws_tSame.f kj48 t405 t409).bind fun t422 => (if t422 = true then (if (bt413.2 != bt415.2) = true then (some false) else (if bt413.1 = bt415.1 then (if (bt417.2 != bt419.2) = true then (some false) else (if bt417.1 = bt419.1 then (if (t398 != bt413.2) = true then (some false) else (if (t406 != bt413.2) = true then (some false) else (if (bt417.2 != bt413.2) = true then (some false) else (if bt413.2 = true then ((impl_AreSameSieve.f kj48 l2 t397).bind fun bt423 => ((impl_NeedlessRules.f kj48 t397).bind fun bt425 => (if bt423.2 = true then (if bt423.1 = true then (if bt425.2 = true then (if (bt425.1.length : Int) = 0 then (if (((t405.length : Int) == 0) != ((t397.length : Int) == (l2.length : Int))) = true then (some false) else (if bt417.1 < 0 then (some false) else (if bt417.1 > bt413.1 then (some false) else (laws_FnSievesMovedOfAll.l1 kj48 l2 l3 l4 a5 bt413.1 bt417.1 l2 (l2.length : Int) 0)))) else (some false)) else (some false)) else (some false)) else (some false)))) else (laws_FnSievesMovedOfAll.j6 kj48 l3 l4 a5))))) else (some false))) else (some false))) else (some false)))) else (some false)))))))) = some r := H
         have A84 := Aside0.mk A840
         clear A840
         as_aux_lemma =>
         replace H := Option.bind_eq_some_iff.mp H
         obtain ⟨⟨t413, t414⟩, A850, H⟩ := H
         replace H : ((spec_PeriodOfRules.f kj48 l2).bind fun bt415 => ((impl_LeftInPeriod.f kj48 l2).bind fun bt417 => ((spec_LeftInPeriod.f kj48 l2).bind fun bt419 => (if (t398 != t402) = true then (some false) else ((laws_tRules.f kj48 t397 t401).bind fun t421 => (if t421 = true then (if (t406 != t410) = true then (some false) else ((laws_tSame.f kj48 t405 t409).bind fun t422 => (if t422 = true then (if (t414 != bt415.2) = true then (some false) else (if t413 = bt415.1 then (if (bt417.2 != bt419.2) = true then (some false) else (if bt417.1 = bt419.1 then (if (t398 != t414) = true then (some false) else (if (t406 != t414) = true then (some false) else (if (bt417.2 != t414) = true then (some false) else (if t414 = true then ((impl_AreSameSieve.f kj48 l2 t397).bind fun bt423 => ((impl_NeedlessRules.f kj48 t397).bind fun bt425 => (if bt423.2 = true then (if bt423.1 = true then (if bt425.2 = true then (if (bt425.1.length : Int) = 0 then (if (((t405.length : Int) == 0) != ((t397.length : Int) == (l2.length : Int))) = true then (some false) else (if bt417.1 < 0 then (some false) else (if bt417.1 > t413 then (some false) else (laws_FnSievesMovedOfAll.l1 kj48 l2 l3 l4 a5 t413 bt417.1 l2 (l2.length : Int) 0)))) else (some false)) else (some false)) else (some false)) else (some false)))) else (laws_FnSievesMovedOfAll.j6 kj48 l3 l4 a5))))) else (some false))) else (some false))) else (some false)))) else (some false))))))) = some r := H
         have A85 := Aside0.mk A850
         clear A850
         replace H := Option.bind_eq_some_iff.mp H
         obtain ⟨⟨t415, t416⟩, A860, H⟩ := H
         replace H : ((impl_LeftInPeriod.f kj48 l2).bind fun bt417 => ((spec_LeftInPeriod.f kj48 l2).bind fun bt419 => (if (t398 != t402) = true then (some false) else ((laws_tRules.f kj48 t397 t401).bind fun t421 => (if t421 = true then (if (t406 != t410) = true then (some false) else ((laws_tSame.f kj48 t405 t409).bind fun t422 => (if t422 = true then (if (t414 != t416) = true then (some false) else (if t413 = t415 then (if (bt417.2 != bt419.2) = true then (some false) else (if bt417.1 = bt419.1 then (if (t398 != t414) = true then (some false) else (if (t406 != t414) = true then (some false) else (if (bt417.2 != t414) = true then (some false) else (if t414 = true then ((impl_AreSameSieve.f kj48 l2 t397).bind fun bt423 => ((impl_NeedlessRules.f kj48 t397).bind fun bt425 => (if bt423.2 = true then (if bt423.1 = true then (if bt425.2 = true then (if (bt425.1.length : Int) = 0 then (if (((t405.length : Int) == 0) != ((t397.length : Int) == (l2.length : Int))) = true then (some false) else (if bt417.1 < 0 then (some false) else (if bt417.1 > t413 then (some false) else (laws_FnSievesMovedOfAll.l1 kj48 l2 l3 l4 a5 t413 bt417.1 l2 (l2.length : Int) 0)))) else (some false)) else (some false)) else (some false)) else (some false)))) else (laws_FnSievesMovedOfAll.j6 kj48 l3 l4 a5))))) else (some false))) else (some false))) else (some false)))) else (some false)))))) = some r := H
         have A86 := Aside0.mk A860
         clear A860
         replace H := Option.bind_eq_some_iff.mp H
         obtain ⟨⟨t417, t418⟩, A870, H⟩ := H
         replace H : ((spec_LeftInPeriod.f kj48 l2).bind fun bt419 => (if (t398 != t402) = true then (some false) else ((laws_tRules.f kj48 t397 t401).bind fun t421 => (if t421 = true then (if (t406 != t410) = true then (some false) else ((laws_tSame.f kj48 t405 t409).bind fun t422 => (if t422 = true then (if (t414 != t416) = true then (some false) else (if t413 = t415 then (if (t418 != bt419.2) = true then (some false) else (if t417 = bt419.1 then (if (t398 != t414) = true then (some false) else (if (t406 != t414) = true then (some false) else (if (t418 != t414) = true then (some false) else (if t414 = true then ((impl_AreSameSieve.f kj48 l2 t397).bind fun bt423 => ((impl_NeedlessRules.f kj48 t397).bind fun bt425 => (if bt423.2 = true then (if bt423.1 = true then (if bt425.2 = true then (if (bt425.1.length : Int) = 0 then (if (((t405.length : Int) == 0) != ((t397.length : Int) == (l2.length : Int))) = true then (some false) else (if t417 < 0 then (some false) else (if t417 > t413 then (some false) else (laws_FnSievesMovedOfAll.l1 kj48 l2 l3 l4 a5 t413 t417 l2 (l2.length : Int) 0)))) else (some false)) else (some false)) else (some false)) else (some false)))) else (laws_FnSievesMovedOfAll.j6 kj48 l3 l4 a5))))) else (some false))) else (some false))) else (some false)))) else (some false))))) = some r := H
         have A87 := Aside0.mk A870
         clear A870
         replace H := Option.bind_eq_some_iff.mp H
         obtain ⟨⟨t419, t420⟩, A880, H⟩ := H
         replace H : (if (t398 != t402) = true then (some false) else ((laws_tRules.f kj48 t397 t401).bind fun t421 => (if t421 = true then (if (t406 != t410) = true then (some false) else ((laws_tSame.f kj48 t405 t409).bind fun t422 => (if t422 = true then (if (t414 != t416) = true then (some false) else (if t413 = t415 then (if (t418 != t420) = true then (some false) else (if t417 = t419 then (if (t398 != t414) = true then (some false) else (if (t406 != t414) = true then (some false) else (if (t418 != t414) = true then (some false) else (if t414 = true then ((impl_AreSameSieve.f kj48 l2 t397).bind fun bt423 => ((impl_NeedlessRules.f kj48 t397).bind fun bt425 => (if bt423.2 = true then (if bt423.1 = true then (if bt425.2 = true then (if (bt425.1.length : Int) = 0 then (if (((t405.length : Int) == 0) != ((t397.length : Int) == (l2.length : Int))) = true then (some false) else (if t417 < 0 then (some false) else (if t417 > t413 then (some false) else (laws_FnSievesMovedOfAll.l1 kj48 l2 l3 l4 a5 t413 t417 l2 (l2.length : Int) 0)))) else (some false)) else (some false)) else (some false)) else (some false)))) else (laws_FnSievesMovedOfAll.j6 kj48 l3 l4 a5))))) else (some false))) else (some false))) else (some false)))) else (some false)))) = some r := H
         have A88 := Aside0.mk A880
         clear A880
         by_cases c89 : (t398 != t402) = true
         ·rw [if_pos c89] at H
          have c89b0 : (t398 != t402) = true := c89
          (try (have c89b1 : decide (t398 = t402) = false := by simpa using c89))
          (try (have c89b2 : (t398 == t402) = false := by simpa using c89))
          (try (have c89b3 : ¬ (t398 = t402) := by simpa using c89))
          clear c89
          exact absurd (Option.some.inj H) (by rw [HRT.out]; decide)
         ·as_aux_lemma =>
          rw [if_neg c89] at H
          have c89b0 : (t398 != t402) = false := by simpa using c89
          (try (have c89b1 : decide (t398 = t402) = true := by simpa using c89))
          (try (have c89b2 : (t398 == t402) = true := by simpa using c89))
          clear c89
          replace H := Option.bind_eq_some_iff.mp H
          obtain ⟨t421, A900, H⟩ := H
          replace H : (if t421 = true then (if (t406 != t410) = true then (some false) else ((laws_tSame.f kj48 t405 t409).bind fun t422 => (if t422 = true then (if (t414 != t416) = true then (some false) else (if t413 = t415 then (if (t418 != t420) = true then (some false) else (if t417 = t419 then (if (t398 != t414) = true then (some false) else (if (t406 != t414) = true then (some false) else (if (t418 != t414) = true then (some false) else (if t414 = true then ((impl_AreSameSieve.f kj48 l2 t397).bind fun bt423 => ((impl_NeedlessRules.f kj48 t397).bind fun bt425 => (if bt423.2 = true then (if bt423.1 = true then (if bt425.2 = true then (if (bt425.1.length : Int) = 0 then (if (((t405.length : Int) == 0) != ((t397.length : Int) == (l2.length : Int))) = true then (some false) else (if t417 < 0 then (some false) else (if t417 > t413 then (some false) else (laws_FnSievesMovedOfAll.l1 kj48 l2 l3 l4 a5 t413 t417 l2 (l2.length : Int) 0)))) else (some false)) else (some false)) else (some false)) else (some false)))) else (laws_FnSievesMovedOfAll.j6 kj48 l3 l4 a5))))) else (some false))) else (some false))) else (some false)))) else (some false)) = some r := H
          have A90 := Aside0.mk A900
          clear A900
          by_cases c91 : t421 = true
          ·subst c91
           have H1 : (if (t406 != t410) = true then (some false) else ((laws_tSame.f kj48 t405 t409).bind fun t422 => (if t422 = true then (if (t414 != t416) = true then (some false) else (if t413 = t415 then (if (t418 != t420) = true then (some false) else (if t417 = t419 then (if (t398 != t414) = true then (some false) else (if (t406 != t414) = true then (some false) else (if (t418 != t414) = true then (some false) else (if t414 = true then ((impl_AreSameSieve.f kj48 l2 t397).bind fun bt423 => ((impl_NeedlessRules.f kj48 t397).bind fun bt425 => (if bt423.2 = true then (if bt423.1 = true then (if bt425.2 = true then (if (bt425.1.length : Int) = 0 then (if (((t405.length : Int) == 0) != ((t397.length : Int) == (l2.length : Int))) = true then (some false) else (if t417 < 0 then (some false) else (if t417 > t413 then (some false) else (laws_FnSievesMovedOfAll.l1 kj48 l2 l3 l4 a5 t413 t417 l2 (l2.length : Int) 0)))) else (some false)) else (some false)) else (some false)) else (some false)))) else (laws_FnSievesMovedOfAll.j6 kj48 l3 l4 a5))))) else (some false))) else (some false))) else (some false)))) = some r := by rw [if_pos rfl] at H; exact H
           clear H
           have H := H1
           clear H1
           by_cases c92 : (t406 != t410) = true
           ·rw [if_pos c92] at H
            have c92b0 : (t406 != t410) = true := c92
            (try (have c92b1 : decide (t406 = t410) = false := by simpa using c92))
            (try (have c92b2 : (t406 == t410) = false := by simpa using c92))
            (try (have c92b3 : ¬ (t406 = t410) := by simpa using c92))
            clear c92
            exact absurd (Option.some.inj H) (by rw [HRT.out]; decide)
           ·rw [if_neg c92] at H
            have c92b0 : (t406 != t410) = false := by simpa using c92
            (try (have c92b1 : decide (t406 = t410) = true := by simpa using c92))
            (try (have c92b2 : (t406 == t410) = true := by simpa using c92))
            clear c92
            as_aux_lemma =>
            replace H := Option.bind_eq_some_iff.mp H
            obtain ⟨t422, A930, H⟩ := H
            replace H : (if t422 = true then (if (t414 != t416) = true then (some false) else (if t413 = t415 then (if (t418 != t420) = true then (some false) else (if t417 = t419 then (if (t398 != t414) = true then (some false) else (if (t406 != t414) = true then (some false) else (if (t418 != t414) = true then (some false) else (if t414 = true then ((impl_AreSameSieve.f kj48 l2 t397).bind fun bt423 => ((impl_NeedlessRules.f kj48 t397).bind fun bt425 => (if bt423.2 = true then (if bt423.1 = true then (if bt425.2 = true then (if (bt425.1.length : Int) = 0 then (if (((t405.length : Int) == 0) != ((t397.length : Int) == (l2.length : Int))) = true then (some false) else (if t417 < 0 then (some false) else (if t417 > t413 then (some false) else (laws_FnSievesMovedOfAll.l1 kj48 l2 l3 l4 a5 t413 t417 l2 (l2.length : Int) 0)))) else (some false)) else (some false)) else (some false)) else (some false)))) else (laws_FnSievesMovedOfAll.j6 kj48 l3 l4 a5))))) else (some false))) else (some false))) else (some false)) = some r := H
            have A93 := Aside0.mk A930
            clear A930
            by_cases c94 : t422 = true
            ·subst c94
             have H1 : (if (t414 != t416) = true then (some false) else (if t413 = t415 then (if (t418 != t420) = true then (some false) else (if t417 = t419 then (if (t398 != t414) = true then (some false) else (if (t406 != t414) = true then (some false) else (if (t418 != t414) = true then (some false) else (if t414 = true then ((impl_AreSameSieve.f kj48 l2 t397).bind fun bt423 => ((impl_NeedlessRules.f kj48 t397).bind fun bt425 => (if bt423.2 = true then (if bt423.1 = true then (if bt425.2 = true then (if (bt425.1.length : Int) = 0 then (if (((t405.length : Int) == 0) != ((t397.length : Int) == (l2.length : Int))) = true then (some false) else (if t417 < 0 then (some false) else (if t417 > t413 then (some false) else (laws_FnSievesMovedOfAll.l1 kj48 l2 l3 l4 a5 t413 t417 l2 (l2.length : Int) 0)))) else (some false)) else (some false)) else (some false)) else (some false)))) else (laws_FnSievesMovedOfAll.j6 kj48 l3 l4 a5))))) else (some false))) else (some false))) = some r := by rw [if_pos rfl] at H; exact H
             clear H
             have H := H1
             clear H1
             by_cases c95 : (t414 != t416) = true
             ·rw [if_pos c95] at H
              have c95b0 : (t414 != t416) = true := c95
              (try (have c95b1 : decide (t414 = t416) = false := by simpa using c95))
              (try (have c95b2 : (t414 == t416) = false := by simpa using c95))
              (try (have c95b3 : ¬ (t414 = t416) := by simpa using c95))
              clear c95
              exact absurd (Option.some.inj H) (by rw [HRT.out]; decide)
             ·rw [if_neg c95] at H
              have c95b0 : (t414 != t416) = false := by simpa using c95
              (try (have c95b1 : decide (t414 = t416) = true := by simpa using c95))
              (try (have c95b2 : (t414 == t416) = true := by simpa using c95))
              clear c95
              by_cases c96 : t413 = t415
              ·as_aux_lemma =>
               rw [if_pos c96] at H
               have c96b0 : (t413 == t415) = true := beq_iff_eq.mpr c96
               have c96b1 : (t413 != t415) = false := bne_eq_false_iff_eq.mpr c96
               clear c96
               by_cases c97 : (t418 != t420) = true
               ·rw [if_pos c97] at H
                have c97b0 : (t418 != t420) = true := c97
                (try (have c97b1 : decide (t418 = t420) = false := by simpa using c97))
                (try (have c97b2 : (t418 == t420) = false := by simpa using c97))
                (try (have c97b3 : ¬ (t418 = t420) := by simpa using c97))
                clear c97
                exact absurd (Option.some.inj H) (by rw [HRT.out]; decide)
               ·rw [if_neg c97] at H
                have c97b0 : (t418 != t420) = false := by simpa using c97
                (try (have c97b1 : decide (t418 = t420) = true := by simpa using c97))
                (try (have c97b2 : (t418 == t420) = true := by simpa using c97))
                clear c97
                by_cases c98 : t417 = t419
                ·rw [if_pos c98] at H
                 have c98b0 : (t417 == t419) = true := beq_iff_eq.mpr c98
                 have c98b1 : (t417 != t419) = false := bne_eq_false_iff_eq.mpr c98
                 clear c98
                 by_cases c99 : (t398 != t414) = true
                 ·rw [if_pos c99] at H
                  have c99b0 : (t398 != t414) = true := c99
                  (try (have c99b1 : decide (t398 = t414) = false := by simpa using c99))
                  (try (have c99b2 : (t398 == t414) = false := by simpa using c99))
                  (try (have c99b3 : ¬ (t398 = t414) := by simpa using c99))
                  clear c99
                  exact absurd (Option.some.inj H) (by rw [HRT.out]; decide)
                 ·as_aux_lemma =>
                  rw [if_neg c99] at H
                  have c99b0 : (t398 != t414) = false := by simpa using c99
                  (try (have c99b1 : decide (t398 = t414) = true := by simpa using c99))
                  (try (have c99b2 : (t398 == t414) = true := by simpa using c99))
                  clear c99
                  by_cases c100 : (t406 != t414) = true
                  ·rw [if_pos c100] at H
                   have c100b0 : (t406 != t414) = true := c100
                   (try (have c100b1 : decide (t406 = t414) = false := by simpa using c100))
                   (try (have c100b2 : (t406 == t414) = false := by simpa using c100))
                   (try (have c100b3 : ¬ (t406 = t414) := by simpa using c100))
                   clear c100
                   exact absurd (Option.some.inj H) (by rw [HRT.out]; decide)
                  ·rw [if_neg c100] at H
                   have c100b0 : (t406 != t414) = false := by simpa using c100
                   (try (have c100b1 : decide (t406 = t414) = true := by simpa using c100))
                   (try (have c100b2 : (t406 == t414) = true := by simpa using c100))
                   clear c100
                   by_cases c101 : (t418 != t414) = true
                   ·rw [if_pos c101] at H
                    have c101b0 : (t418 != t414) = true := c101
                    (try (have c101b1 : decide (t418 = t414) = false := by simpa using c101))
                    (try (have c101b2 : (t418 == t414) = false := by simpa using c101))
                    (try (have c101b3 : ¬ (t418 = t414) := by simpa using c101))
                    clear c101
                    exact absurd (Option.some.inj H) (by rw [HRT.out]; decide)
                   ·as_aux_lemma =>
                    rw [if_neg c101] at H
                    have c101b0 : (t418 != t414) = false := by simpa using c101
                    (try (have c101b1 : decide (t418 = t414) = true := by simpa using c101))
                    (try (have c101b2 : (t418 == t414) = true := by simpa using c101))
                    clear c101
                    have HC102 := Aside0.mk H
                    clear H
                    as_aux_lemma =>
                    go_upto_region 30 with (first | ((with_reducible refine gate_callee (f := 15) rfl ?_); refine goesL_ (some 260) rfl rfl Tryz.func15 (by kernel_rfl) rfl #[.slice A2 l2.length c2] rfl (by (try simp only [List.map_toArray, List.map_cons, List.map_nil]); first | done | rfl | (simp only [List.length_drop, List.length_take]; rfl)) ?_; (with_reducible refine (impl_DropNeedless.calls kj48 _ _ l2 t397 t398 _ ?side1 ?side2 A81.out).mono ?_); (case side1 => repeat (first | exact (Kd.C_below HR2.out HB.out) | (with_reducible refine Kd.C_alloc ?_ _) | (with_reducible refine Kd.C_drewN ?_ _) | (with_reducible refine Kd.C_drew ?_))); (case side2 => exact HC2.out); rintro e w103 ⟨v399, rfl, ho0, hb⟩; refine ⟨_, rfl, ?_⟩; have n0_ := Aside0.mk (Kd.R_lower ho0 (below_size (by repeat (first | (with_reducible first | exact HB.out | apply below_alloc | apply pw_below_drewN | apply below_drew1) | exact HB.out)))); have n1_ := Aside0.mk (below_step (by repeat (first | (with_reducible first | exact HB.out | apply below_alloc | apply pw_below_drewN | apply below_drew1) | exact HB.out)) hb); clear HB; have HO400 := n0_; have HB := n1_; clear n0_ n1_; (try clear hb); (try clear hb2); (try clear hk); (try clear hi); (try clear ho0)) | ((with_reducible refine gate_callee (f := 16) rfl ?_); refine goesL_ (some 265) rfl rfl Tryz.func16 (by kernel_rfl) rfl #[.slice A2 l2.length c2] rfl (by (try simp only [List.map_toArray, List.map_cons, List.map_nil]); first | done | rfl | (simp only [List.length_drop, List.length_take]; rfl)) ?_; (with_reducible refine (spec_DropNeedless.calls kj48 _ _ l2 t401 t402 _ ?side1 ?side2 A82.out).mono ?_); (case side1 => repeat (first | exact (Kd.C_below HR2.out HB.out) | (with_reducible refine Kd.C_alloc ?_ _) | (with_reducible refine Kd.C_drewN ?_ _) | (with_reducible refine Kd.C_drew ?_))); (case side2 => exact HC2.out); rintro e w104 ⟨v403, rfl, ho0, hb⟩; refine ⟨_, rfl, ?_⟩; have n0_ := Aside0.mk (Kd.R_elder' (by (with_reducible repeat (first | apply Kd.R_alloc | apply Kd.R_drewN | apply Kd.R_drew)); exact HO400.out) (Kd.R_base ho0) hb); have n1_ := Aside0.mk (Kd.R_lower (Kd.R_new' ho0 (Kd.R_lt (by (with_reducible repeat (first | apply Kd.R_alloc | apply Kd.R_drewN | apply Kd.R_drew)); exact HO400.out))) (below_size (by repeat (first | (with_reducible first | exact HB.out | apply below_alloc | apply pw_below_drewN | apply below_drew1) | exact HB.out)))); have n2_ := Aside0.mk (below_step (by repeat (first | (with_reducible first | exact HB.out | apply below_alloc | apply pw_below_drewN | apply below_drew1) | exact HB.out)) hb); clear HO400; clear HB; have HO400 := n0_; have HO404 := n1_; have HB := n2_; clear n0_ n1_ n2_; (try clear hb); (try clear hb2); (try clear hk); (try clear hi); (try clear ho0)) | ((with_reducible refine gate_callee (f := 17) rfl ?_); refine goesL_ (some 270) rfl rfl Tryz.func17 (by kernel_rfl) rfl #[.slice A2 l2.length c2] rfl (by (try simp only [List.map_toArray, List.map_cons, List.map_nil]); first | done | rfl | (simp only [List.length_drop, List.length_take]; rfl)) ?_; (with_reducible refine (impl_NeedlessRules.calls kj48 _ _ l2 t405 t406 _ ?side1 ?side2 A83.out).mono ?_); (case side1 => repeat (first | exact (Kd.C_below HR2.out HB.out) | (with_reducible refine Kd.C_alloc ?_ _) | (with_reducible refine Kd.C_drewN ?_ _) | (with_reducible refine Kd.C_drew ?_))); (case side2 => exact HC2.out); rintro e w105 ⟨v407, rfl, ho0, hb⟩; refine ⟨_, rfl, ?_⟩; have n0_ := Aside0.mk (Kd.R_below (by (with_reducible repeat (first | apply Kd.R_alloc | apply Kd.R_drewN | apply Kd.R_drew)); exact HO400.out) hb); have n1_ := Aside0.mk (Kd.R_below (by (with_reducible repeat (first | apply Kd.R_alloc | apply Kd.R_drewN | apply Kd.R_drew)); exact HO404.out) hb); have n2_ := Aside0.mk (Kd.R_lower ho0 (below_size (by repeat (first | (with_reducible first | exact HB.out | apply below_alloc | apply pw_below_drewN | apply below_drew1) | exact HB.out)))); have n3_ := Aside0.mk (below_step (by repeat (first | (with_reducible first | exact HB.out | apply below_alloc | apply pw_below_drewN | apply below_drew1) | exact HB.out)) hb); clear HO400; clear HO404; clear HB; have HO400 := n0_; have HO404 := n1_; have HO408 := n2_; have HB := n3_; clear n0_ n1_ n2_ n3_; (try clear hb); (try clear hb2); (try clear hk); (try clear hi); (try clear ho0)))
                    (try simp only [Act.put, List.setIfInBounds_toArray, List.set_cons_zero, List.set_cons_succ])
                    as_aux_lemma =>
                    go_upto_region 33 with (first | ((with_reducible refine gate_callee (f := 18) rfl ?_); refine goesL_ (some 275) rfl rfl Tryz.func18 (by kernel_rfl) rfl #[.slice A2 l2.length c2] rfl (by (try simp only [List.map_toArray, List.map_cons, List.map_nil]); first | done | rfl | (simp only [List.length_drop, List.length_take]; rfl)) ?_; (with_reducible refine (spec_NeedlessRules.calls kj48 _ _ l2 t409 t410 _ ?side1 ?side2 A84.out).mono ?_); (case side1 => repeat (first | exact (Kd.C_below HR2.out HB.out) | (with_reducible refine Kd.C_alloc ?_ _) | (with_reducible refine Kd.C_drewN ?_ _) | (with_reducible refine Kd.C_drew ?_))); (case side2 => exact HC2.out); rintro e w106 ⟨v411, rfl, ho0, hb⟩; refine ⟨_, rfl, ?_⟩; have n0_ := Aside0.mk (Kd.R_below (by (with_reducible repeat (first | apply Kd.R_alloc | apply Kd.R_drewN | apply Kd.R_drew)); exact HO400.out) hb); have n1_ := Aside0.mk (Kd.R_below (by (with_reducible repeat (first | apply Kd.R_alloc | apply Kd.R_drewN | apply Kd.R_drew)); exact HO404.out) hb); have n2_ := Aside0.mk (Kd.R_elder' (by (with_reducible repeat (first | apply Kd.R_alloc | apply Kd.R_drewN | apply Kd.R_drew)); exact HO408.out) (Kd.R_base ho0) hb); have n3_ := Aside0.mk (Kd.R_lower (Kd.R_new' ho0 (Kd.R_lt (by (with_reducible repeat (first | apply Kd.R_alloc | apply Kd.R_drewN | apply Kd.R_drew)); exact HO408.out))) (below_size (by repeat (first | (with_reducible first | exact HB.out | apply below_alloc | apply pw_below_drewN | apply below_drew1) | exact HB.out)))); have n4_ := Aside0.mk (below_step (by repeat (first | (with_reducible first | exact HB.out | apply below_alloc | apply pw_below_drewN | apply below_drew1) | exact HB.out)) hb); clear HO400; clear HO404; clear HO408; clear HB; have HO400 := n0_; have HO404 := n1_; have HO408 := n2_; have HO412 := n3_; have HB := n4_; clear n0_ n1_ n2_ n3_ n4_; (try clear hb); (try clear hb2); (try clear hk); (try clear hi); (try clear ho0)) | ((with_reducible refine gate_callee (f := 19) rfl ?_); refine goesL_ (some 280) rfl rfl Tryz.func19 (by kernel_rfl) rfl #[.slice A2 l2.length c2] rfl (by (try simp only [List.map_toArray, List.map_cons, List.map_nil]); first | done | rfl | (simp only [List.length_drop, List.length_take]; rfl)) ?_; (with_reducible refine (impl_PeriodOfRules.calls kj48 _ _ l2 t413 t414 _ ?side1 ?side2 A85.out).mono ?_); (case side1 => repeat (first | exact (Kd.C_below HR2.out HB.out) | (with_reducible refine Kd.C_alloc ?_ _) | (with_reducible refine Kd.C_drewN ?_ _) | (with_reducible refine Kd.C_drew ?_))); (case side2 => exact HC2.out); rintro e w107 ⟨rfl, hb⟩; refine ⟨_, rfl, ?_⟩; have n0_ := Aside0.mk (Kd.R_below (by (with_reducible repeat (first | apply Kd.R_alloc | apply Kd.R_drewN | apply Kd.R_drew)); exact HO400.out) hb); have n1_ := Aside0.mk (Kd.R_below (by (with_reducible repeat (first | apply Kd.R_alloc | apply Kd.R_drewN | apply Kd.R_drew)); exact HO404.out) hb); have n2_ := Aside0.mk (Kd.R_below (by (with_reducible repeat (first | apply Kd.R_alloc | apply Kd.R_drewN | apply Kd.R_drew)); exact HO408.out) hb); have n3_ := Aside0.mk (Kd.R_below (by (with_reducible repeat (first | apply Kd.R_alloc | apply Kd.R_drewN | apply Kd.R_drew)); exact HO412.out) hb); have n4_ := Aside0.mk (below_step (by repeat (first | (with_reducible first | exact HB.out | apply below_alloc | apply pw_below_drewN | apply below_drew1) | exact HB.out)) hb); clear HO400; clear HO404; clear HO408; clear HO412; clear HB; have HO400 := n0_; have HO404 := n1_; have HO408 := n2_; have HO412 := n3_; have HB := n4_; clear n0_ n1_ n2_ n3_ n4_; (try clear hb); (try clear hb2); (try clear hk); (try clear hi)) | ((with_reducible refine gate_callee (f := 20) rfl ?_); refine goesL_ (some 285) rfl rfl Tryz.func20 (by kernel_rfl) rfl #[.slice A2 l2.length c2] rfl (by (try simp only [List.map_toArray, List.map_cons, List.map_nil]); first | done | rfl | (simp only [List.length_drop, List.length_take]; rfl)) ?_; (with_reducible refine (spec_PeriodOfRules.calls kj48 _ _ l2 t415 t416 _ ?side1 ?side2 A86.out).mono ?_); (case side1 => repeat (first | exact (Kd.C_below HR2.out HB.out) | (with_reducible refine Kd.C_alloc ?_ _) | (with_reducible refine Kd.C_drewN ?_ _) | (with_reducible refine Kd.C_drew ?_))); (case side2 => exact HC2.out); rintro e w108 ⟨rfl, hb⟩; refine ⟨_, rfl, ?_⟩; have n0_ := Aside0.mk (Kd.R_below (by (with_reducible repeat (first | apply Kd.R_alloc | apply Kd.R_drewN | apply Kd.R_drew)); exact HO400.out) hb); have n1_ := Aside0.mk (Kd.R_below (by (with_reducible repeat (first | apply Kd.R_alloc | apply Kd.R_drewN | apply Kd.R_drew)); exact HO404.out) hb); have n2_ := Aside0.mk (Kd.R_below (by (with_reducible repeat (first | apply Kd.R_alloc | apply Kd.R_drewN | apply Kd.R_drew)); exact HO408.out) hb); have n3_ := Aside0.mk (Kd.R_below (by (with_reducible repeat (first | apply Kd.R_alloc | apply Kd.R_drewN | apply Kd.R_drew)); exact HO412.out) hb); have n4_ := Aside0.mk (below_step (by repeat (first | (with_reducible first | exact HB.out | apply below_alloc | apply pw_below_drewN | apply below_drew1) | exact HB.out)) hb); clear HO400; clear HO404; clear HO408; clear HO412; clear HB; have HO400 := n0_; have HO404 := n1_; have HO408 := n2_; have HO412 := n3_; have HB := n4_; clear n0_ n1_ n2_ n3_ n4_; (try clear hb); (try clear hb2); (try clear hk); (try clear hi)))
                    (try simp only [Act.put, List.setIfInBounds_toArray, List.set_cons_zero, List.set_cons_succ])
                    as_aux_lemma =>
                    go_upto_if 353 with (first | ((with_reducible refine gate_callee (f := 21) rfl ?_); refine goesL_ (some 290) rfl rfl Tryz.func21 (by kernel_rfl) rfl #[.slice A2 l2.length c2] rfl (by (try simp only [List.map_toArray, List.map_cons, List.map_nil]); first | done | rfl | (simp only [List.length_drop, List.length_take]; rfl)) ?_; (with_reducible refine (impl_LeftInPeriod.calls kj48 _ _ l2 t417 t418 _ ?side1 ?side2 A87.out).mono ?_); (case side1 => repeat (first | exact (Kd.C_below HR2.out HB.out) | (with_reducible refine Kd.C_alloc ?_ _) | (with_reducible refine Kd.C_drewN ?_ _) | (with_reducible refine Kd.C_drew ?_))); (case side2 => exact HC2.out); rintro e w109 ⟨rfl, hb⟩; refine ⟨_, rfl, ?_⟩; have n0_ := Aside0.mk (Kd.R_below (by (with_reducible repeat (first | apply Kd.R_alloc | apply Kd.R_drewN | apply Kd.R_drew)); exact HO400.out) hb); have n1_ := Aside0.mk (Kd.R_below (by (with_reducible repeat (first | apply Kd.R_alloc | apply Kd.R_drewN | apply Kd.R_drew)); exact HO404.out) hb); have n2_ := Aside0.mk (Kd.R_below (by (with_reducible repeat (first | apply Kd.R_alloc | apply Kd.R_drewN | apply Kd.R_drew)); exact HO408.out) hb); have n3_ := Aside0.mk (Kd.R_below (by (with_reducible repeat (first | apply Kd.R_alloc | apply Kd.R_drewN | apply Kd.R_drew)); exact HO412.out) hb); have n4_ := Aside0.mk (below_step (by repeat (first | (with_reducible first | exact HB.out | apply below_alloc | apply pw_below_drewN | apply below_drew1) | exact HB.out)) hb); clear HO400; clear HO404; clear HO408; clear HO412; clear HB; have HO400 := n0_; have HO404 := n1_; have HO408 := n2_; have HO412 := n3_; have HB := n4_; clear n0_ n1_ n2_ n3_ n4_; (try clear hb); (try clear hb2); (try clear hk); (try clear hi)) | ((with_reducible refine gate_callee (f := 22) rfl ?_); refine goesL_ (some 295) rfl rfl Tryz.func22 (by kernel_rfl) rfl #[.slice A2 l2.length c2] rfl (by (try simp only [List.map_toArray, List.map_cons, List.map_nil]); first | done | rfl | (simp only [List.length_drop, List.length_take]; rfl)) ?_; (with_reducible refine (spec_LeftInPeriod.calls kj48 _ _ l2 t419 t420 _ ?side1 ?side2 A88.out).mono ?_); (case side1 => repeat (first | exact (Kd.C_below HR2.out HB.out) | (with_reducible refine Kd.C_alloc ?_ _) | (with_reducible refine Kd.C_drewN ?_ _) | (with_reducible refine Kd.C_drew ?_))); (case side2 => exact HC2.out); rintro e w110 ⟨rfl, hb⟩; refine ⟨_, rfl, ?_⟩; have n0_ := Aside0.mk (Kd.R_below (by (with_reducible repeat (first | apply Kd.R_alloc | apply Kd.R_drewN | apply Kd.R_drew)); exact HO400.out) hb); have n1_ := Aside0.mk (Kd.R_below (by (with_reducible repeat (first | apply Kd.R_alloc | apply Kd.R_drewN | apply Kd.R_drew)); exact HO404.out) hb); have n2_ := Aside0.mk (Kd.R_below (by (with_reducible repeat (first | apply Kd.R_alloc | apply Kd.R_drewN | apply Kd.R_drew)); exact HO408.out) hb); have n3_ := Aside0.mk (Kd.R_below (by (with_reducible repeat (first | apply Kd.R_alloc | apply Kd.R_drewN | apply Kd.R_drew)); exact HO412.out) hb); have n4_ := Aside0.mk (below_step (by repeat (first | (with_reducible first | exact HB.out | apply below_alloc | apply pw_below_drewN | apply below_drew1) | exact HB.out)) hb); clear HO400; clear HO404; clear HO408; clear HO412; clear HB; have HO400 := n0_; have HO404 := n1_; have HO408 := n2_; have HO412 := n3_; have HB := n4_; clear n0_ n1_ n2_ n3_ n4_; (try clear hb); (try clear hb2); (try clear hk); (try clear hi); obtain ⟨Ao111, co111, eo111⟩ := Kd.R_slice HO400.out; subst eo111; obtain ⟨Ao112, co112, eo112⟩ := Kd.R_slice HO404.out; subst eo112) | (go_at_call 11; (with_reducible refine (laws_tRules.calls kj48 _ _ t397 _ _ t401 true _ ?side1 ?side2 ?side3 ?side4 A90.out).mono ?_); (case side1 => repeat (first | exact (Kd.R_reads' HO400.out).2.2 | (with_reducible refine Kd.C_alloc ?_ _) | (with_reducible refine Kd.C_drewN ?_ _) | (with_reducible refine Kd.C_drew ?_))); (case side2 => exact (Kd.R_reads' HO400.out).2.1); (case side3 => repeat (first | exact (Kd.R_reads' HO404.out).2.2 | (with_reducible refine Kd.C_alloc ?_ _) | (with_reducible refine Kd.C_drewN ?_ _) | (with_reducible refine Kd.C_drew ?_))); (case side4 => exact (Kd.R_reads' HO404.out).2.1); rintro e w' ⟨rfl, ⟨nd, rfl⟩⟩; obtain ⟨Ao113, co113, eo113⟩ := Kd.R_slice HO408.out; subst eo113; obtain ⟨Ao114, co114, eo114⟩ := Kd.R_slice HO412.out; subst eo114) | (go_at_call 23; (with_reducible refine (laws_tSame.calls kj48 _ _ t405 _ _ t409 true _ ?side1 ?side2 ?side3 ?side4 A93.out).mono ?_); (case side1 => repeat (first | exact (Kd.R_reads' HO408.out).2.2 | (with_reducible refine Kd.C_alloc ?_ _) | (with_reducible refine Kd.C_drewN ?_ _) | (with_reducible refine Kd.C_drew ?_))); (case side2 => exact (Kd.R_reads' HO408.out).2.1); (case side3 => repeat (first | exact (Kd.R_reads' HO412.out).2.2 | (with_reducible refine Kd.C_alloc ?_ _) | (with_reducible refine Kd.C_drewN ?_ _) | (with_reducible refine Kd.C_drew ?_))); (case side4 => exact (Kd.R_reads' HO412.out).2.1); rintro e w' ⟨rfl, ⟨nd, rfl⟩⟩))
                    (try simp only [Act.put, List.setIfInBounds_toArray, List.set_cons_zero, List.set_cons_succ])
                    go_cut [] from 341 to 353 (fun wc => ∃ (kq : Nat), Aside0 (laws_FnSievesMovedOfAll.j6 kq l3 l4 a5 = some r) ∧ Aside0 (kq ≤ kj48) ∧ Aside0 (Below w.heap.size w wc))
                    case first => as_aux_lemma =>
                     have H := HC102.out
                     clear HC102
                     by_cases c115 : t414 = true
                     ·subst c115
                      have H1 : ((impl_AreSameSieve.f kj48 l2 t397).bind fun bt423 => ((impl_NeedlessRules.f kj48 t397).bind fun bt425 => (if bt423.2 = true then (if bt423.1 = true then (if bt425.2 = true then (if (bt425.1.length : Int) = 0 then (if (((t405.length : Int) == 0) != ((t397.length : Int) == (l2.length : Int))) = true then (some false) else (if t417 < 0 then (some false) else (if t417 > t413 then (some false) else (laws_FnSievesMovedOfAll.l1 kj48 l2 l3 l4 a5 t413 t417 l2 (l2.length : Int) 0)))) else (some false)) else (some false)) else (some false)) else (some false)))) = some r := by rw [if_pos rfl] at H; exact H
                      clear H
                      have H := H1
                      clear H1
                      replace H := Option.bind_eq_some_iff.mp H
                      obtain ⟨⟨t423, t424⟩, A1160, H⟩ := H
                      replace H : ((impl_NeedlessRules.f kj48 t397).bind fun bt425 => (if t424 = true then (if t423 = true then (if bt425.2 = true then (if (bt425.1.length : Int) = 0 then (if (((t405.length : Int) == 0) != ((t397.length : Int) == (l2.length : Int))) = true then (some false) else (if t417 < 0 then (some false) else (if t417 > t413 then (some false) else (laws_FnSievesMovedOfAll.l1 kj48 l2 l3 l4 a5 t413 t417 l2 (l2.length : Int) 0)))) else (some false)) else (some false)) else (some false)) else (some false))) = some r := H
                      have A116 := Aside0.mk A1160
                      clear A1160
                      replace H := Option.bind_eq_some_iff.mp H
                      obtain ⟨⟨t425, t426⟩, A1170, H⟩ := H
                      replace H : (if t424 = true then (if t423 = true then (if t426 = true then (if (t425.length : Int) = 0 then (if (((t405.length : Int) == 0) != ((t397.length : Int) == (l2.length : Int))) = true then (some false) else (if t417 < 0 then (some false) else (if t417 > t413 then (some false) else (laws_FnSievesMovedOfAll.l1 kj48 l2 l3 l4 a5 t413 t417 l2 (l2.length : Int) 0)))) else (some false)) else (some false)) else (some false)) else (some false)) = some r := H
                      have A117 := Aside0.mk A1170
                      clear A1170
                      by_cases c118 : t424 = true
                      ·subst c118
                       have H1 : (if t423 = true then (if t426 = true then (if (t425.length : Int) = 0 then (if (((t405.length : Int) == 0) != ((t397.length : Int) == (l2.length : Int))) = true then (some false) else (if t417 < 0 then (some false) else (if t417 > t413 then (some false) else (laws_FnSievesMovedOfAll.l1 kj48 l2 l3 l4 a5 t413 t417 l2 (l2.length : Int) 0)))) else (some false)) else (some false)) else (some false)) = some r := by rw [if_pos rfl] at H; exact H
                       clear H
                       have H := H1
                       clear H1
                       by_cases c119 : t423 = true
                       ·as_aux_lemma =>
                        subst c119
                        have H1 : (if t426 = true then (if (t425.length : Int) = 0 then (if (((t405.length : Int) == 0) != ((t397.length : Int) == (l2.length : Int))) = true then (some false) else (if t417 < 0 then (some false) else (if t417 > t413 then (some false) else (laws_FnSievesMovedOfAll.l1 kj48 l2 l3 l4 a5 t413 t417 l2 (l2.length : Int) 0)))) else (some false)) else (some false)) = some r := by rw [if_pos rfl] at H; exact H
                        clear H
                        have H := H1
                        clear H1
                        by_cases c120 : t426 = true
                        ·subst c120
                         have H1 : (if (t425.length : Int) = 0 then (if (((t405.length : Int) == 0) != ((t397.length : Int) == (l2.length : Int))) = true then (some false) else (if t417 < 0 then (some false) else (if t417 > t413 then (some false) else (laws_FnSievesMovedOfAll.l1 kj48 l2 l3 l4 a5 t413 t417 l2 (l2.length : Int) 0)))) else (some false)) = some r := by rw [if_pos rfl] at H; exact H
                         clear H
                         have H := H1
                         clear H1
                         by_cases c121 : (t425.length : Int) = 0
                         ·rw [if_pos c121] at H
                          have c121b0 : ((t425.length : Int) == 0) = true := beq_iff_eq.mpr c121
                          have c121b1 : ((t425.length : Int) != 0) = false := bne_eq_false_iff_eq.mpr c121
                          clear c121
                          (first | rw [c121b0] | (simp only [i64_w, i32_w]; rw [c121b0]) | skip)
                          by_cases c122 : (((t405.length : Int) == 0) != ((t397.length : Int) == (l2.length : Int))) = true
                          ·rw [if_pos c122] at H
                           have c122b0 : (((t405.length : Int) == 0) != ((t397.length : Int) == (l2.length : Int))) = true := c122
                           (try (have c122b1 : decide (((t405.length : Int) == 0) = ((t397.length : Int) == (l2.length : Int))) = false := by simpa using c122))
                           (try (have c122b2 : (((t405.length : Int) == 0) == ((t397.length : Int) == (l2.length : Int))) = false := by simpa using c122))
                           (try (have c122b3 : ¬ (((t405.length : Int) == 0) = ((t397.length : Int) == (l2.length : Int))) := by simpa using c122))
                           clear c122
                           exact absurd (Option.some.inj H) (by rw [HRT.out]; decide)
                          ·as_aux_lemma =>
                           rw [if_neg c122] at H
                           have c122b0 : (((t405.length : Int) == 0) != ((t397.length : Int) == (l2.length : Int))) = false := by simpa using c122
                           (try (have c122b1 : decide (((t405.length : Int) == 0) = ((t397.length : Int) == (l2.length : Int))) = true := by simpa using c122))
                           (try (have c122b2 : (((t405.length : Int) == 0) == ((t397.length : Int) == (l2.length : Int))) = true := by simpa using c122))
                           clear c122
                           by_cases c123 : t417 < 0
                           ·rw [if_pos c123] at H
                            have c123b0 : decide (t417 < 0) = true := decide_eq_true c123
                            clear c123
                            exact absurd (Option.some.inj H) (by rw [HRT.out]; decide)
                           ·rw [if_neg c123] at H
                            have c123b0 : decide (t417 < 0) = false := decide_eq_false c123
                            clear c123
                            by_cases c124 : t417 > t413
                            ·rw [if_pos c124] at H
                             have c124b0 : decide (t413 < t417) = true := decide_eq_true c124
                             clear c124
                             exact absurd (Option.some.inj H) (by rw [HRT.out]; decide)
                            ·rw [if_neg c124] at H
                             have c124b0 : decide (t413 < t417) = false := decide_eq_false c124
                             clear c124
                             have H' := Aside0.mk H
                             clear H
                             go_wp2_with (first | ((with_reducible refine gate_callee (f := 24) rfl ?_); refine goesL_ (some 357) rfl rfl Tryz.func24 (by kernel_rfl) rfl #[.slice A2 l2.length c2, .slice Ao111 t397.length co111] rfl (by (try simp only [List.map_toArray, List.map_cons, List.map_nil]); first | done | rfl | (simp only [List.length_drop, List.length_take]; rfl)) ?_; (with_reducible refine (impl_AreSameSieve.calls kj48 _ _ l2 _ _ t397 true true _ ?side1 ?side2 ?side3 ?side4 A116.out).mono ?_); (case side1 => repeat (first | exact (Kd.C_below HR2.out HB.out) | (with_reducible refine Kd.C_alloc ?_ _) | (with_reducible refine Kd.C_drewN ?_ _) | (with_reducible refine Kd.C_drew ?_))); (case side2 => exact HC2.out); (case side3 => repeat (first | exact (Kd.R_reads' HO400.out).2.2 | (with_reducible refine Kd.C_alloc ?_ _) | (with_reducible refine Kd.C_drewN ?_ _) | (with_reducible refine Kd.C_drew ?_))); (case side4 => exact (Kd.R_reads' HO400.out).2.1); rintro e w125 ⟨rfl, hb⟩; refine ⟨_, rfl, ?_⟩; have n0_ := Aside0.mk (Kd.R_below (by (with_reducible repeat (first | apply Kd.R_alloc | apply Kd.R_drewN | apply Kd.R_drew)); exact HO400.out) hb); have n1_ := Aside0.mk (Kd.R_below (by (with_reducible repeat (first | apply Kd.R_alloc | apply Kd.R_drewN | apply Kd.R_drew)); exact HO404.out) hb); have n2_ := Aside0.mk (Kd.R_below (by (with_reducible repeat (first | apply Kd.R_alloc | apply Kd.R_drewN | apply Kd.R_drew)); exact HO408.out) hb); have n3_ := Aside0.mk (Kd.R_below (by (with_reducible repeat (first | apply Kd.R_alloc | apply Kd.R_drewN | apply Kd.R_drew)); exact HO412.out) hb); have n4_ := Aside0.mk (below_step (by repeat (first | (with_reducible first | exact HB.out | apply below_alloc | apply pw_below_drewN | apply below_drew1) | exact HB.out)) hb); clear HO400; clear HO404; clear HO408; clear HO412; clear HB; have HO400 := n0_; have HO404 := n1_; have HO408 := n2_; have HO412 := n3_; have HB := n4_; clear n0_ n1_ n2_ n3_ n4_; (try clear hb); (try clear hb2); (try clear hk); (try clear hi)) | ((with_reducible refine gate_callee (f := 17) rfl ?_); refine goesL_ (some 362) rfl rfl Tryz.func17 (by kernel_rfl) rfl #[.slice Ao111 t397.length co111] rfl (by (try simp only [List.map_toArray, List.map_cons, List.map_nil]); first | done | rfl | (simp only [List.length_drop, List.length_take]; rfl)) ?_; (with_reducible refine (impl_NeedlessRules.calls kj48 _ _ t397 t425 true _ ?side1 ?side2 A117.out).mono ?_); (case side1 => repeat (first | exact (Kd.R_reads' HO400.out).2.2 | (with_reducible refine Kd.C_alloc ?_ _) | (with_reducible refine Kd.C_drewN ?_ _) | (with_reducible refine Kd.C_drew ?_))); (case side2 => exact (Kd.R_reads' HO400.out).2.1); rintro e w126 ⟨v427, rfl, ho0, hb⟩; refine ⟨_, rfl, ?_⟩; have n0_ := Aside0.mk (Kd.R_below (by (with_reducible repeat (first | apply Kd.R_alloc | apply Kd.R_drewN | apply Kd.R_drew)); exact HO400.out) hb); have n1_ := Aside0.mk (Kd.R_below (by (with_reducible repeat (first | apply Kd.R_alloc | apply Kd.R_drewN | apply Kd.R_drew)); exact HO404.out) hb); have n2_ := Aside0.mk (Kd.R_elder' (by (with_reducible repeat (first | apply Kd.R_alloc | apply Kd.R_drewN | apply Kd.R_drew)); exact HO408.out) (Kd.R_base ho0) hb); have n3_ := Aside0.mk (Kd.R_elder' (by (with_reducible repeat (first | apply Kd.R_alloc | apply Kd.R_drewN | apply Kd.R_drew)); exact HO412.out) (Kd.R_base ho0) hb); have n4_ := Aside0.mk (Kd.R_lower (Kd.R_new' (Kd.R_new' ho0 (Kd.R_lt (by (with_reducible repeat (first | apply Kd.R_alloc | apply Kd.R_drewN | apply Kd.R_drew)); exact HO408.out))) (Kd.R_lt (by (with_reducible repeat (first | apply Kd.R_alloc | apply Kd.R_drewN | apply Kd.R_drew)); exact HO412.out))) (below_size (by repeat (first | (with_reducible first | exact HB.out | apply below_alloc | apply pw_below_drewN | apply below_drew1) | exact HB.out)))); have n5_ := Aside0.mk (below_step (by repeat (first | (with_reducible first | exact HB.out | apply below_alloc | apply pw_below_drewN | apply below_drew1) | exact HB.out)) hb); clear HO400; clear HO404; clear HO408; clear HO412; clear HB; have HO400 := n0_; have HO404 := n1_; have HO408 := n2_; have HO412 := n3_; have HO428 := n4_; have HB := n5_; clear n0_ n1_ n2_ n3_ n4_ n5_; (try clear hb); (try clear hb2); (try clear hk); (try clear hi); (try clear ho0); obtain ⟨Ao127, co127, eo127⟩ := Kd.R_slice HO428.out; subst eo127))
                             as_aux_lemma =>
                             go_loopg [402] kj48 (fun kq v402 w' => ∃ (x402_4 : Int), v402 = .int .i64 x402_4 ∧ Aside0 (laws_FnSievesMovedOfAll.l1 kq l2 l3 l4 a5 t413 t417 l2 (l2.length : Int) x402_4 = some r) ∧ Aside0 (kq ≤ kj48) ∧ Aside0 (Below w.heap.size w w'))
                             case atStart => exact ⟨(0), (by first | rfl | (simp; done) | (simp [*]; done)), H', ⟨Nat.le_refl _⟩, ⟨by repeat (first | (with_reducible first | exact HB.out | apply below_alloc | apply pw_below_drewN | apply below_drew1) | exact HB.out)⟩⟩
                             case round => as_aux_lemma =>
                              clear H'
                              obtain ⟨x402_4, rfl, HA, HK4, HB⟩ := hrel
                              cases gk with
                              | zero => exact absurd HA.out (by simp [laws_FnSievesMovedOfAll.l1])
                              | succ k4 =>
                               have H := HA.out
                               clear HA
                               simp only [laws_FnSievesMovedOfAll.l1] at H
                               by_cases c128 : x402_4 < (l2.length : Int)
                               ·rw [if_pos c128] at H
                                have c128b0 : decide (x402_4 < (l2.length : Int)) = true := decide_eq_true c128
                                clear c128
                                by_cases c129 : 0 ≤ x402_4
                                ·rw [if_pos c129] at H
                                 have c129b0 : decide (0 ≤ x402_4) = true := decide_eq_true c129
                                 clear c129
                                 by_cases c130 : x402_4 < (l2.length : Int)
                                 ·rw [if_pos c130] at H
                                  have c130b0 : decide (x402_4 < (l2.length : Int)) = true := decide_eq_true c130
                                  clear c130
                                  by_cases c131 : ((rd_T41 l2 x402_4).f0) = 0
                                  ·rw [if_pos c131] at H
                                   exact absurd H (by simp)
                                  ·rw [if_neg c131] at H
                                   have c131b0 : (((rd_T41 l2 x402_4).f0) == 0) = false := beq_eq_false_iff_ne.mpr c131
                                   have c131b1 : (((rd_T41 l2 x402_4).f0) != 0) = true := bne_iff_ne.mpr c131
                                   by_cases c132 : (Int.tmod t413 ((rd_T41 l2 x402_4).f0)) = 0
                                   ·as_aux_lemma =>
                                    rw [if_pos c132] at H
                                    have c132b0 : ((Int.tmod t413 ((rd_T41 l2 x402_4).f0)) == 0) = true := beq_iff_eq.mpr c132
                                    have c132b1 : ((Int.tmod t413 ((rd_T41 l2 x402_4).f0)) != 0) = false := bne_eq_false_iff_eq.mpr c132
                                    clear c132
                                    have H' := Aside0.mk H
                                    clear H
                                    have p429 : 0 ≤ (x402_4 : Int) := of_decide_eq_true (by first | (with_reducible assumption) | assumption)
                                    have q429 : x402_4 < (l2.length : Int) := of_decide_eq_true (by first | (with_reducible assumption) | assumption)
                                    obtain ⟨ad429, e429, hx429_0, hx429_1⟩ := at_T41 HR2.out x402_4 p429 q429
                                    cases e429
                                    replace hx429_0 := (HB.out.cell (World.block_lt_of_cell? w _ hx429_0)).trans hx429_0
                                    replace hx429_1 := (HB.out.cell (World.block_lt_of_cell? w _ hx429_1)).trans hx429_1
                                    replace p429 := eq_true p429
                                    replace q429 := eq_true q429
                                    go_wp2_with (first | ((with_reducible refine gate_dst (N := 57) rfl ?_); (try (refine gate_guard (by rfl) ?_; dsimp only)); refine box_event ?hg (N := 57) ?hd (cs := #[.int .i64 0, .int .i64 0]) (t := 41) ?hr ?_; (case hd => rfl); (case hg => rfl); (case hr => generalize Act.mk _ _ = a_; as_aux_lemma => kernel_rfl); intro gb430 hg w133 hbox hb; have n0_ := Aside0.mk (below_step (by repeat (first | (with_reducible first | exact HB.out | apply below_alloc | apply pw_below_drewN | apply below_drew1) | exact HB.out)) hb); have n1_ := Aside0.mk (hbox); have n2_ := Aside0.mk ((by rw [hg]; exact (below_size (by repeat (first | (with_reducible first | exact HB.out | apply below_alloc | apply pw_below_drewN | apply below_drew1) | exact HB.out))) : w.heap.size ≤ gb430)); have n3_ := Aside0.mk ((by rw [hg]; exact (below_size (by repeat (first | (with_reducible first | exact HB.out | apply below_alloc | apply pw_below_drewN | apply below_drew1) | exact HB.out))) : w.heap.size ≤ gb430)); clear HB; have HB := n0_; have BK430 := n1_; have GW430 := n2_; have GE430 := n3_; clear n0_ n1_ n2_ n3_; clear hb hbox hg; have hcz134_0 : w133.cell? ⟨gb430, 0, none⟩ = some (.int .i64 0) := (blk_cell BK430.out 0).trans rfl; have hcz134_1 : w133.cell? ⟨gb430, 1, none⟩ = some (.int .i64 0) := (blk_cell BK430.out 1).trans rfl; have hfz134_0 := blk_frozen BK430.out 0; have hfz134_1 := blk_frozen BK430.out 1))
                                    refine Handed.intro k4 ?measure ?_
                                    rotate_left
                                    go_step
                                    (repeat with_reducible apply ex32_)
                                    (repeat apply Exists.intro)
                                    refine ⟨?rel, rfl⟩
                                    case measure => have := HJ6.out; have := HJ18.out; have := HJ48.out; have := HK4.out; omega
                                    case rel => exact ⟨(wrap64 (x402_4 + 1)), (by first | rfl | (simp; done) | (simp [*]; done)), H', ⟨by have := HJ6.out; have := HJ18.out; have := HJ48.out; have := HK4.out; omega⟩, ⟨by repeat (first | (with_reducible first | exact HB.out | apply below_alloc | apply pw_below_drewN | apply below_drew1 | refine below_set ?_ GE430.out) | exact HB.out)⟩⟩
                                   ·rw [if_neg c132] at H
                                    have c132b0 : ((Int.tmod t413 ((rd_T41 l2 x402_4).f0)) == 0) = false := beq_eq_false_iff_ne.mpr c132
                                    have c132b1 : ((Int.tmod t413 ((rd_T41 l2 x402_4).f0)) != 0) = true := bne_iff_ne.mpr c132
                                    exact absurd (Option.some.inj H) (by rw [HRT.out]; decide)
                                 ·rw [if_neg c130] at H
                                  exact absurd H (by simp)
                                ·rw [if_neg c129] at H
                                 exact absurd H (by simp)
                               ·as_aux_lemma =>
                                rw [if_neg c128] at H
                                have c128b0 : decide (x402_4 < (l2.length : Int)) = false := decide_eq_false c128
                                clear c128
                                by_cases c135 : t413 ≤ 600
                                ·rw [if_pos c135] at H
                                 have c135b0 : decide (t413 ≤ 600) = true := decide_eq_true c135
                                 clear c135
                                 replace H := Option.bind_eq_some_iff.mp H
                                 obtain ⟨⟨t431, t432⟩, A1360, H⟩ := H
                                 replace H : (if t432 = true then (if t431 = t417 then (laws_FnSievesMovedOfAll.j6 k4 l3 l4 a5) else (some false)) else (some false)) = some r := H
                                 have A136 := Aside0.mk A1360
                                 clear A1360
                                 by_cases c137 : t432 = true
                                 ·subst c137
                                  have H1 : (if t431 = t417 then (laws_FnSievesMovedOfAll.j6 k4 l3 l4 a5) else (some false)) = some r := by rw [if_pos rfl] at H; exact H
                                  clear H
                                  have H := H1
                                  clear H1
                                  by_cases c138 : t431 = t417
                                  ·rw [if_pos c138] at H
                                   have c138b0 : (t431 == t417) = true := beq_iff_eq.mpr c138
                                   have c138b1 : (t431 != t417) = false := bne_eq_false_iff_eq.mpr c138
                                   clear c138
                                   have H' := Aside0.mk H
                                   clear H
                                   go_wp2_with (first | ((with_reducible refine gate_callee (f := 25) rfl ?_); refine goesL_ (some 417) rfl rfl Tryz.func25 (by kernel_rfl) rfl #[.slice A2 l2.length c2, .int .i64 t413] rfl (by (try simp only [List.map_toArray, List.map_cons, List.map_nil]); first | done | rfl | (simp only [List.length_drop, List.length_take]; rfl)) ?_; (with_reducible refine (impl_CountLeft.calls k4 _ _ l2 t413 t431 true _ ?side1 ?side2 A136.out).mono ?_); (case side1 => repeat (first | exact (Kd.C_below HR2.out HB.out) | (with_reducible refine Kd.C_alloc ?_ _) | (with_reducible refine Kd.C_drewN ?_ _) | (with_reducible refine Kd.C_drew ?_))); (case side2 => exact HC2.out); rintro e w139 ⟨rfl, hb⟩; refine ⟨_, rfl, ?_⟩; have n0_ := Aside0.mk (below_step (by repeat (first | (with_reducible first | exact HB.out | apply below_alloc | apply pw_below_drewN | apply below_drew1) | exact HB.out)) hb); clear HB; have HB := n0_; clear n0_; (try clear hb); (try clear hb2); (try clear hk); (try clear hi)))
                                   refine Met.intro ?_
                                   go_step
                                   (repeat with_reducible apply ex32_)
                                   (repeat apply Exists.intro)
                                   refine ⟨?rel, rfl⟩
                                   case rel => exact ⟨_, H', ⟨by have := HJ6.out; have := HJ18.out; have := HJ48.out; have := HK4.out; first | omega | exact Nat.le_refl _⟩, ⟨by repeat (first | (with_reducible first | exact HB.out | apply below_alloc | apply pw_below_drewN | apply below_drew1) | exact HB.out)⟩⟩
                                  ·rw [if_neg c138] at H
                                   have c138b0 : (t431 == t417) = false := beq_eq_false_iff_ne.mpr c138
                                   have c138b1 : (t431 != t417) = true := bne_iff_ne.mpr c138
                                   exact absurd (Option.some.inj H) (by rw [HRT.out]; decide)
                                 ·replace c137 := Bool.eq_false_iff.mpr c137
                                  subst c137
                                  have H1 : (some false) = some r := by rw [if_neg (show ¬ (false = true) by decide)] at H; exact H
                                  clear H
                                  have H := H1
                                  clear H1
                                  exact absurd (Option.some.inj H) (by rw [HRT.out]; decide)
                                ·rw [if_neg c135] at H
                                 have c135b0 : decide (t413 ≤ 600) = false := decide_eq_false c135
                                 clear c135
                                 have H' := Aside0.mk H
                                 clear H
                                 go_wp2
                                 refine Met.intro ?_
                                 go_step
                                 (repeat with_reducible apply ex32_)
                                 (repeat apply Exists.intro)
                                 refine ⟨?rel, rfl⟩
                                 case rel => exact ⟨_, H', ⟨by have := HJ6.out; have := HJ18.out; have := HJ48.out; have := HK4.out; first | omega | exact Nat.le_refl _⟩, ⟨by repeat (first | (with_reducible first | exact HB.out | apply below_alloc | apply pw_below_drewN | apply below_drew1) | exact HB.out)⟩⟩
                         ·rw [if_neg c121] at H
                          have c121b0 : ((t425.length : Int) == 0) = false := beq_eq_false_iff_ne.mpr c121
                          have c121b1 : ((t425.length : Int) != 0) = true := bne_iff_ne.mpr c121
                          have c121b2 : ¬ (t425 = []) := fun h_ => c121 (by rw [h_]; rfl)
                          (first | rw [c121b0] | (simp only [i64_w, i32_w]; rw [c121b0]) | skip)
                          exact absurd (Option.some.inj H) (by rw [HRT.out]; decide)
                        ·replace c120 := Bool.eq_false_iff.mpr c120
                         subst c120
                         have H1 : (some false) = some r := by rw [if_neg (show ¬ (false = true) by decide)] at H; exact H
                         clear H
                         have H := H1
                         clear H1
                         exact absurd (Option.some.inj H) (by rw [HRT.out]; decide)
                       ·replace c119 := Bool.eq_false_iff.mpr c119
                        subst c119
                        have H1 : (some false) = some r := by rw [if_neg (show ¬ (false = true) by decide)] at H; exact H
                        clear H
                        have H := H1
                        clear H1
                        exact absurd (Option.some.inj H) (by rw [HRT.out]; decide)
                      ·replace c118 := Bool.eq_false_iff.mpr c118
                       subst c118
                       have H1 : (some false) = some r := by rw [if_neg (show ¬ (false = true) by decide)] at H; exact H
                       clear H
                       have H := H1
                       clear H1
                       exact absurd (Option.some.inj H) (by rw [HRT.out]; decide)
                     ·as_aux_lemma =>
                      replace c115 := Bool.eq_false_iff.mpr c115
                      subst c115
                      have H1 : (laws_FnSievesMovedOfAll.j6 kj48 l3 l4 a5) = some r := by rw [if_neg (show ¬ (false = true) by decide)] at H; exact H
                      clear H
                      have H := H1
                      clear H1
                      have H' := Aside0.mk H
                      clear H
                      go_wp2
                      refine Met.intro ?_
                      go_step
                      (repeat with_reducible apply ex32_)
                      (repeat apply Exists.intro)
                      refine ⟨?rel, rfl⟩
                      case rel => exact ⟨_, H', ⟨by have := HJ6.out; have := HJ18.out; have := HJ48.out; first | omega | exact Nat.le_refl _⟩, ⟨by repeat (first | (with_reducible first | exact HB.out | apply below_alloc | apply pw_below_drewN | apply below_drew1) | exact HB.out)⟩⟩
                    case rest => as_aux_lemma =>
                     clear HC102
                     obtain ⟨kq, HA, HJ101, HB⟩ := hcut
                     cases kq with
                     | zero => exact absurd HA.out (by simp [laws_FnSievesMovedOfAll.j6])
                     | succ kj101 =>
                      have H := HA.out
                      clear HA
                      simp only [laws_FnSievesMovedOfAll.j6] at H
                      replace H := Option.bind_eq_some_iff.mp H
                      obtain ⟨⟨t433, t434⟩, A1400, H⟩ := H
                      replace H : ((spec_AreSameSieve.f kj101 l3 l4).bind fun bt435 => ((impl_ParseRules.f kj101 a5).bind fun bt437 => ((spec_ParseRules.f kj101 a5).bind fun bt441 => (if (t434 != bt435.2) = true then (some false) else (if (t433 != bt435.1) = true then (some false) else (if (bt437.2 != bt441.2) = true then (some false) else ((laws_tRules.f kj101 bt437.1 bt441.1).bind fun t445 => (if t445 = true then (if bt437.2 = true then ((impl_RulesText.f kj101 bt437.1).bind fun bt446 => (if bt446.2 = true then (some (bt446.1.toList == a5.toList)) else (some false))) else (some true)) else (some false))))))))) = some r := H
                      have A140 := Aside0.mk A1400
                      clear A1400
                      replace H := Option.bind_eq_some_iff.mp H
                      obtain ⟨⟨t435, t436⟩, A1410, H⟩ := H
                      replace H : ((impl_ParseRules.f kj101 a5).bind fun bt437 => ((spec_ParseRules.f kj101 a5).bind fun bt441 => (if (t434 != t436) = true then (some false) else (if (t433 != t435) = true then (some false) else (if (bt437.2 != bt441.2) = true then (some false) else ((laws_tRules.f kj101 bt437.1 bt441.1).bind fun t445 => (if t445 = true then (if bt437.2 = true then ((impl_RulesText.f kj101 bt437.1).bind fun bt446 => (if bt446.2 = true then (some (bt446.1.toList == a5.toList)) else (some false))) else (some true)) else (some false)))))))) = some r := H
                      have A141 := Aside0.mk A1410
                      clear A1410
                      replace H := Option.bind_eq_some_iff.mp H
                      obtain ⟨⟨t437, t438⟩, A1420, H⟩ := H
                      replace H : ((spec_ParseRules.f kj101 a5).bind fun bt441 => (if (t434 != t436) = true then (some false) else (if (t433 != t435) = true then (some false) else (if (t438 != bt441.2) = true then (some false) else ((laws_tRules.f kj101 t437 bt441.1).bind fun t445 => (if t445 = true then (if t438 = true then ((impl_RulesText.f kj101 t437).bind fun bt446 => (if bt446.2 = true then (some (bt446.1.toList == a5.toList)) else (some false))) else (some true)) else (some false))))))) = some r := H
                      have A142 := Aside0.mk A1420
                      clear A1420
                      replace H := Option.bind_eq_some_iff.mp H
                      obtain ⟨⟨t441, t442⟩, A1430, H⟩ := H
                      replace H : (if (t434 != t436) = true then (some false) else (if (t433 != t435) = true then (some false) else (if (t438 != t442) = true then (some false) else ((laws_tRules.f kj101 t437 t441).bind fun t445 => (if t445 = true then (if t438 = true then ((impl_RulesText.f kj101 t437).bind fun bt446 => (if bt446.2 = true then (some (bt446.1.toList == a5.toList)) else (some false))) else (some true)) else (some false)))))) = some r := H
                      have A143 := Aside0.mk A1430
                      clear A1430
                      by_cases c144 : (t434 != t436) = true
                      ·rw [if_pos c144] at H
                       have c144b0 : (t434 != t436) = true := c144
                       (try (have c144b1 : decide (t434 = t436) = false := by simpa using c144))
                       (try (have c144b2 : (t434 == t436) = false := by simpa using c144))
                       (try (have c144b3 : ¬ (t434 = t436) := by simpa using c144))
                       clear c144
                       exact absurd (Option.some.inj H) (by rw [HRT.out]; decide)
                      ·as_aux_lemma =>
                       rw [if_neg c144] at H
                       have c144b0 : (t434 != t436) = false := by simpa using c144
                       (try (have c144b1 : decide (t434 = t436) = true := by simpa using c144))
                       (try (have c144b2 : (t434 == t436) = true := by simpa using c144))
                       clear c144
                       by_cases c145 : (t433 != t435) = true
                       ·rw [if_pos c145] at H
                        have c145b0 : (t433 != t435) = true := c145
                        (try (have c145b1 : decide (t433 = t435) = false := by simpa using c145))
                        (try (have c145b2 : (t433 == t435) = false := by simpa using c145))
                        (try (have c145b3 : ¬ (t433 = t435) := by simpa using c145))
                        clear c145
                        exact absurd (Option.some.inj H) (by rw [HRT.out]; decide)
                       ·rw [if_neg c145] at H
                        have c145b0 : (t433 != t435) = false := by simpa using c145
                        (try (have c145b1 : decide (t433 = t435) = true := by simpa using c145))
                        (try (have c145b2 : (t433 == t435) = true := by simpa using c145))
                        clear c145
                        by_cases c146 : (t438 != t442) = true
                        ·rw [if_pos c146] at H
                         have c146b0 : (t438 != t442) = true := c146
                         (try (have c146b1 : decide (t438 = t442) = false := by simpa using c146))
                         (try (have c146b2 : (t438 == t442) = false := by simpa using c146))
                         (try (have c146b3 : ¬ (t438 = t442) := by simpa using c146))
                         clear c146
                         exact absurd (Option.some.inj H) (by rw [HRT.out]; decide)
                        ·as_aux_lemma =>
                         rw [if_neg c146] at H
                         have c146b0 : (t438 != t442) = false := by simpa using c146
                         (try (have c146b1 : decide (t438 = t442) = true := by simpa using c146))
                         (try (have c146b2 : (t438 == t442) = true := by simpa using c146))
                         clear c146
                         replace H := Option.bind_eq_some_iff.mp H
                         obtain ⟨t445, A1470, H⟩ := H
                         replace H : (if t445 = true then (if t438 = true then ((impl_RulesText.f kj101 t437).bind fun bt446 => (if bt446.2 = true then (some (bt446.1.toList == a5.toList)) else (some false))) else (some true)) else (some false)) = some r := H
                         have A147 := Aside0.mk A1470
                         clear A1470
                         by_cases c148 : t445 = true
                         ·subst c148
                          have H1 : (if t438 = true then ((impl_RulesText.f kj101 t437).bind fun bt446 => (if bt446.2 = true then (some (bt446.1.toList == a5.toList)) else (some false))) else (some true)) = some r := by rw [if_pos rfl] at H; exact H
                          clear H
                          have H := H1
                          clear H1
                          by_cases c149 : t438 = true
                          ·subst c149
                           have H1 : ((impl_RulesText.f kj101 t437).bind fun bt446 => (if bt446.2 = true then (some (bt446.1.toList == a5.toList)) else (some false))) = some r := by rw [if_pos rfl] at H; exact H
                           clear H
                           have H := H1
                           clear H1
                           replace H := Option.bind_eq_some_iff.mp H
                           obtain ⟨⟨t446, t447⟩, A1500, H⟩ := H
                           replace H : (if t447 = true then (some (t446.toList == a5.toList)) else (some false)) = some r := H
                           have A150 := Aside0.mk A1500
                           clear A1500
                           by_cases c151 : t447 = true
                           ·subst c151
                            have H1 : (some (t446.toList == a5.toList)) = some r := by rw [if_pos rfl] at H; exact H
                            clear H
                            have H := H1
                            clear H1
                            obtain rfl := Option.some.inj H
                            go_wp2_with (first | ((with_reducible refine gate_callee (f := 24) rfl ?_); refine goesL_ (some 430) rfl rfl Tryz.func24 (by kernel_rfl) rfl #[.slice A3 l3.length c3, .slice A4 l4.length c4] rfl (by (try simp only [List.map_toArray, List.map_cons, List.map_nil]); first | done | rfl | (simp only [List.length_drop, List.length_take]; rfl)) ?_; (with_reducible refine (impl_AreSameSieve.calls kj101 _ _ l3 _ _ l4 t433 t434 _ ?side1 ?side2 ?side3 ?side4 A140.out).mono ?_); (case side1 => repeat (first | exact (Kd.C_below HR3.out HB.out) | (with_reducible refine Kd.C_alloc ?_ _) | (with_reducible refine Kd.C_drewN ?_ _) | (with_reducible refine Kd.C_drew ?_))); (case side2 => exact HC3.out); (case side3 => repeat (first | exact (Kd.C_below HR4.out HB.out) | (with_reducible refine Kd.C_alloc ?_ _) | (with_reducible refine Kd.C_drewN ?_ _) | (with_reducible refine Kd.C_drew ?_))); (case side4 => exact HC4.out); rintro e w152 ⟨rfl, hb⟩; refine ⟨_, rfl, ?_⟩; have n0_ := Aside0.mk (below_step (by repeat (first | (with_reducible first | exact HB.out | apply below_alloc | apply pw_below_drewN | apply below_drew1) | exact HB.out)) hb); clear HB; have HB := n0_; clear n0_; (try clear hb); (try clear hb2); (try clear hk); (try clear hi)) | ((with_reducible refine gate_callee (f := 26) rfl ?_); refine goesL_ (some 436) rfl rfl Tryz.func26 (by kernel_rfl) rfl #[.slice A3 l3.length c3, .slice A4 l4.length c4] rfl (by (try simp only [List.map_toArray, List.map_cons, List.map_nil]); first | done | rfl | (simp only [List.length_drop, List.length_take]; rfl)) ?_; (with_reducible refine (spec_AreSameSieve.calls kj101 _ _ l3 _ _ l4 t435 t436 _ ?side1 ?side2 ?side3 ?side4 A141.out).mono ?_); (case side1 => repeat (first | exact (Kd.C_below HR3.out HB.out) | (with_reducible refine Kd.C_alloc ?_ _) | (with_reducible refine Kd.C_drewN ?_ _) | (with_reducible refine Kd.C_drew ?_))); (case side2 => exact HC3.out); (case side3 => repeat (first | exact (Kd.C_below HR4.out HB.out) | (with_reducible refine Kd.C_alloc ?_ _) | (with_reducible refine Kd.C_drewN ?_ _) | (with_reducible refine Kd.C_drew ?_))); (case side4 => exact HC4.out); rintro e w153 ⟨rfl, hb⟩; refine ⟨_, rfl, ?_⟩; have n0_ := Aside0.mk (below_step (by repeat (first | (with_reducible first | exact HB.out | apply below_alloc | apply pw_below_drewN | apply below_drew1) | exact HB.out)) hb); clear HB; have HB := n0_; clear n0_; (try clear hb); (try clear hb2); (try clear hk); (try clear hi)) | ((with_reducible refine gate_callee (f := 13) rfl ?_); refine goesL_ (some 441) rfl rfl Tryz.func13 (by kernel_rfl) rfl #[.string a5] rfl (by (try simp only [List.map_toArray, List.map_cons, List.map_nil]); first | done | rfl | (simp only [List.length_drop, List.length_take]; rfl)) ?_; (with_reducible refine (impl_ParseRules.calls kj101 a5 t437 true _ ?glob_ A142.out).mono ?_); (case glob_ => exact GlobP.at_ HG.out (by repeat (first | (with_reducible first | exact HB.out | apply below_alloc | apply pw_below_drewN | apply below_drew1) | exact HB.out))); rintro e w154 ⟨v439, rfl, ho0, hb⟩; refine ⟨_, rfl, ?_⟩; have n0_ := Aside0.mk (Kd.R_lower ho0 (below_size (by repeat (first | (with_reducible first | exact HB.out | apply below_alloc | apply pw_below_drewN | apply below_drew1) | exact HB.out)))); have n1_ := Aside0.mk (below_step (by repeat (first | (with_reducible first | exact HB.out | apply below_alloc | apply pw_below_drewN | apply below_drew1) | exact HB.out)) hb); clear HB; have HO440 := n0_; have HB := n1_; clear n0_ n1_; (try clear hb); (try clear hb2); (try clear hk); (try clear hi); (try clear ho0)) | ((with_reducible refine gate_callee (f := 27) rfl ?_); refine goesL_ (some 446) rfl rfl Tryz.func27 (by kernel_rfl) rfl #[.string a5] rfl (by (try simp only [List.map_toArray, List.map_cons, List.map_nil]); first | done | rfl | (simp only [List.length_drop, List.length_take]; rfl)) ?_; (with_reducible refine (spec_ParseRules.calls kj101 a5 t441 t442 _ A143.out).mono ?_); rintro e w155 ⟨v443, rfl, ho0, hb⟩; refine ⟨_, rfl, ?_⟩; have n0_ := Aside0.mk (Kd.R_elder' (by (with_reducible repeat (first | apply Kd.R_alloc | apply Kd.R_drewN | apply Kd.R_drew)); exact HO440.out) (Kd.R_base ho0) hb); have n1_ := Aside0.mk (Kd.R_lower (Kd.R_new' ho0 (Kd.R_lt (by (with_reducible repeat (first | apply Kd.R_alloc | apply Kd.R_drewN | apply Kd.R_drew)); exact HO440.out))) (below_size (by repeat (first | (with_reducible first | exact HB.out | apply below_alloc | apply pw_below_drewN | apply below_drew1) | exact HB.out)))); have n2_ := Aside0.mk (below_step (by repeat (first | (with_reducible first | exact HB.out | apply below_alloc | apply pw_below_drewN | apply below_drew1) | exact HB.out)) hb); clear HO440; clear HB; have HO440 := n0_; have HO444 := n1_; have HB := n2_; clear n0_ n1_ n2_; (try clear hb); (try clear hb2); (try clear hk); (try clear hi); (try clear ho0); obtain ⟨Ao156, co156, eo156⟩ := Kd.R_slice HO440.out; subst eo156; obtain ⟨Ao157, co157, eo157⟩ := Kd.R_slice HO444.out; subst eo157) | (go_at_call 11; (with_reducible refine (laws_tRules.calls kj101 _ _ t437 _ _ t441 true _ ?side1 ?side2 ?side3 ?side4 A147.out).mono ?_); (case side1 => repeat (first | exact (Kd.R_reads' HO440.out).2.2 | (with_reducible refine Kd.C_alloc ?_ _) | (with_reducible refine Kd.C_drewN ?_ _) | (with_reducible refine Kd.C_drew ?_))); (case side2 => exact (Kd.R_reads' HO440.out).2.1); (case side3 => repeat (first | exact (Kd.R_reads' HO444.out).2.2 | (with_reducible refine Kd.C_alloc ?_ _) | (with_reducible refine Kd.C_drewN ?_ _) | (with_reducible refine Kd.C_drew ?_))); (case side4 => exact (Kd.R_reads' HO444.out).2.1); rintro e w' ⟨rfl, ⟨nd, rfl⟩⟩) | ((with_reducible refine gate_callee (f := 9) rfl ?_); refine goesL_ (some 471) rfl rfl Tryz.func9 (by kernel_rfl) rfl #[.slice Ao156 t437.length co156] rfl (by (try simp only [List.map_toArray, List.map_cons, List.map_nil]); first | done | rfl | (simp only [List.length_drop, List.length_take]; rfl)) ?_; (with_reducible refine (impl_RulesText.calls kj101 _ _ t437 t446 true _ ?side1 ?side2 A150.out).mono ?_); (case side1 => repeat (first | exact (Kd.R_reads' HO440.out).2.2 | (with_reducible refine Kd.C_alloc ?_ _) | (with_reducible refine Kd.C_drewN ?_ _) | (with_reducible refine Kd.C_drew ?_))); (case side2 => exact (Kd.R_reads' HO440.out).2.1); rintro e w158 ⟨rfl, hb⟩; refine ⟨_, rfl, ?_⟩; have n0_ := Aside0.mk (Kd.R_below (by (with_reducible repeat (first | apply Kd.R_alloc | apply Kd.R_drewN | apply Kd.R_drew)); exact HO440.out) hb); have n1_ := Aside0.mk (Kd.R_below (by (with_reducible repeat (first | apply Kd.R_alloc | apply Kd.R_drewN | apply Kd.R_drew)); exact HO444.out) hb); have n2_ := Aside0.mk (below_step (by repeat (first | (with_reducible first | exact HB.out | apply below_alloc | apply pw_below_drewN | apply below_drew1) | exact HB.out)) hb); clear HO440; clear HO444; clear HB; have HO440 := n0_; have HO444 := n1_; have HB := n2_; clear n0_ n1_ n2_; (try clear hb); (try clear hb2); (try clear hk); (try clear hi)))
                            go_ret
                            exact ⟨by first | rfl | (simp [errW_none, errW_some] <;> rfl) | (simp [*, errW_none, errW_some] <;> rfl), by repeat (first | (with_reducible first | exact HB.out | apply below_alloc | apply pw_below_drewN | apply below_drew1) | exact HB.out)⟩
                           ·replace c151 := Bool.eq_false_iff.mpr c151
                            subst c151
                            have H1 : (some false) = some r := by rw [if_neg (show ¬ (false = true) by decide)] at H; exact H
                            clear H
                            have H := H1
                            clear H1
                            exact absurd (Option.some.inj H) (by rw [HRT.out]; decide)
                          ·replace c149 := Bool.eq_false_iff.mpr c149
                           subst c149
                           have H1 : (some true) = some r := by rw [if_neg (show ¬ (false = true) by decide)] at H; exact H
                           clear H
                           have H := H1
                           clear H1
                           obtain rfl := Option.some.inj H
                           go_wp2_with (first | ((with_reducible refine gate_callee (f := 24) rfl ?_); refine goesL_ (some 430) rfl rfl Tryz.func24 (by kernel_rfl) rfl #[.slice A3 l3.length c3, .slice A4 l4.length c4] rfl (by (try simp only [List.map_toArray, List.map_cons, List.map_nil]); first | done | rfl | (simp only [List.length_drop, List.length_take]; rfl)) ?_; (with_reducible refine (impl_AreSameSieve.calls kj101 _ _ l3 _ _ l4 t433 t434 _ ?side1 ?side2 ?side3 ?side4 A140.out).mono ?_); (case side1 => repeat (first | exact (Kd.C_below HR3.out HB.out) | (with_reducible refine Kd.C_alloc ?_ _) | (with_reducible refine Kd.C_drewN ?_ _) | (with_reducible refine Kd.C_drew ?_))); (case side2 => exact HC3.out); (case side3 => repeat (first | exact (Kd.C_below HR4.out HB.out) | (with_reducible refine Kd.C_alloc ?_ _) | (with_reducible refine Kd.C_drewN ?_ _) | (with_reducible refine Kd.C_drew ?_))); (case side4 => exact HC4.out); rintro e w159 ⟨rfl, hb⟩; refine ⟨_, rfl, ?_⟩; have n0_ := Aside0.mk (below_step (by repeat (first | (with_reducible first | exact HB.out | apply below_alloc | apply pw_below_drewN | apply below_drew1) | exact HB.out)) hb); clear HB; have HB := n0_; clear n0_; (try clear hb); (try clear hb2); (try clear hk); (try clear hi)) | ((with_reducible refine gate_callee (f := 26) rfl ?_); refine goesL_ (some 436) rfl rfl Tryz.func26 (by kernel_rfl) rfl #[.slice A3 l3.length c3, .slice A4 l4.length c4] rfl (by (try simp only [List.map_toArray, List.map_cons, List.map_nil]); first | done | rfl | (simp only [List.length_drop, List.length_take]; rfl)) ?_; (with_reducible refine (spec_AreSameSieve.calls kj101 _ _ l3 _ _ l4 t435 t436 _ ?side1 ?side2 ?side3 ?side4 A141.out).mono ?_); (case side1 => repeat (first | exact (Kd.C_below HR3.out HB.out) | (with_reducible refine Kd.C_alloc ?_ _) | (with_reducible refine Kd.C_drewN ?_ _) | (with_reducible refine Kd.C_drew ?_))); (case side2 => exact HC3.out); (case side3 => repeat (first | exact (Kd.C_below HR4.out HB.out) | (with_reducible refine Kd.C_alloc ?_ _) | (with_reducible refine Kd.C_drewN ?_ _) | (with_reducible refine Kd.C_drew ?_))); (case side4 => exact HC4.out); rintro e w160 ⟨rfl, hb⟩; refine ⟨_, rfl, ?_⟩; have n0_ := Aside0.mk (below_step (by repeat (first | (with_reducible first | exact HB.out | apply below_alloc | apply pw_below_drewN | apply below_drew1) | exact HB.out)) hb); clear HB; have HB := n0_; clear n0_; (try clear hb); (try clear hb2); (try clear hk); (try clear hi)) | ((with_reducible refine gate_callee (f := 13) rfl ?_); refine goesL_ (some 441) rfl rfl Tryz.func13 (by kernel_rfl) rfl #[.string a5] rfl (by (try simp only [List.map_toArray, List.map_cons, List.map_nil]); first | done | rfl | (simp only [List.length_drop, List.length_take]; rfl)) ?_; (with_reducible refine (impl_ParseRules.calls kj101 a5 t437 false _ ?glob_ A142.out).mono ?_); (case glob_ => exact GlobP.at_ HG.out (by repeat (first | (with_reducible first | exact HB.out | apply below_alloc | apply pw_below_drewN | apply below_drew1) | exact HB.out))); rintro e w161 ⟨v439, rfl, ho0, hb⟩; refine ⟨_, rfl, ?_⟩; have n0_ := Aside0.mk (Kd.R_lower ho0 (below_size (by repeat (first | (with_reducible first | exact HB.out | apply below_alloc | apply pw_below_drewN | apply below_drew1) | exact HB.out)))); have n1_ := Aside0.mk (below_step (by repeat (first | (with_reducible first | exact HB.out | apply below_alloc | apply pw_below_drewN | apply below_drew1) | exact HB.out)) hb); clear HB; have HO440 := n0_; have HB := n1_; clear n0_ n1_; (try clear hb); (try clear hb2); (try clear hk); (try clear hi); (try clear ho0)) | ((with_reducible refine gate_callee (f := 27) rfl ?_); refine goesL_ (some 446) rfl rfl Tryz.func27 (by kernel_rfl) rfl #[.string a5] rfl (by (try simp only [List.map_toArray, List.map_cons, List.map_nil]); first | done | rfl | (simp only [List.length_drop, List.length_take]; rfl)) ?_; (with_reducible refine (spec_ParseRules.calls kj101 a5 t441 t442 _ A143.out).mono ?_); rintro e w162 ⟨v443, rfl, ho0, hb⟩; refine ⟨_, rfl, ?_⟩; have n0_ := Aside0.mk (Kd.R_elder' (by (with_reducible repeat (first | apply Kd.R_alloc | apply Kd.R_drewN | apply Kd.R_drew)); exact HO440.out) (Kd.R_base ho0) hb); have n1_ := Aside0.mk (Kd.R_lower (Kd.R_new' ho0 (Kd.R_lt (by (with_reducible repeat (first | apply Kd.R_alloc | apply Kd.R_drewN | apply Kd.R_drew)); exact HO440.out))) (below_size (by repeat (first | (with_reducible first | exact HB.out | apply below_alloc | apply pw_below_drewN | apply below_drew1) | exact HB.out)))); have n2_ := Aside0.mk (below_step (by repeat (first | (with_reducible first | exact HB.out | apply below_alloc | apply pw_below_drewN | apply below_drew1) | exact HB.out)) hb); clear HO440; clear HB; have HO440 := n0_; have HO444 := n1_; have HB := n2_; clear n0_ n1_ n2_; (try clear hb); (try clear hb2); (try clear hk); (try clear hi); (try clear ho0); obtain ⟨Ao163, co163, eo163⟩ := Kd.R_slice HO440.out; subst eo163; obtain ⟨Ao164, co164, eo164⟩ := Kd.R_slice HO444.out; subst eo164) | (go_at_call 11; (with_reducible refine (laws_tRules.calls kj101 _ _ t437 _ _ t441 true _ ?side1 ?side2 ?side3 ?side4 A147.out).mono ?_); (case side1 => repeat (first | exact (Kd.R_reads' HO440.out).2.2 | (with_reducible refine Kd.C_alloc ?_ _) | (with_reducible refine Kd.C_drewN ?_ _) | (with_reducible refine Kd.C_drew ?_))); (case side2 => exact (Kd.R_reads' HO440.out).2.1); (case side3 => repeat (first | exact (Kd.R_reads' HO444.out).2.2 | (with_reducible refine Kd.C_alloc ?_ _) | (with_reducible refine Kd.C_drewN ?_ _) | (with_reducible refine Kd.C_drew ?_))); (case side4 => exact (Kd.R_reads' HO444.out).2.1); rintro e w' ⟨rfl, ⟨nd, rfl⟩⟩))
                           go_ret
                           exact ⟨by first | rfl | (simp [errW_none, errW_some] <;> rfl) | (simp [*, errW_none, errW_some] <;> rfl), by repeat (first | (with_reducible first | exact HB.out | apply below_alloc | apply pw_below_drewN | apply below_drew1) | exact HB.out)⟩
                         ·replace c148 := Bool.eq_false_iff.mpr c148
                          subst c148
                          have H1 : (some false) = some r := by rw [if_neg (show ¬ (false = true) by decide)] at H; exact H
                          clear H
                          have H := H1
                          clear H1
                          exact absurd (Option.some.inj H) (by rw [HRT.out]; decide)
                ·rw [if_neg c98] at H
                 have c98b0 : (t417 == t419) = false := beq_eq_false_iff_ne.mpr c98
                 have c98b1 : (t417 != t419) = true := bne_iff_ne.mpr c98
                 exact absurd (Option.some.inj H) (by rw [HRT.out]; decide)
              ·rw [if_neg c96] at H
               have c96b0 : (t413 == t415) = false := beq_eq_false_iff_ne.mpr c96
               have c96b1 : (t413 != t415) = true := bne_iff_ne.mpr c96
               exact absurd (Option.some.inj H) (by rw [HRT.out]; decide)
            ·replace c94 := Bool.eq_false_iff.mpr c94
             subst c94
             have H1 : (some false) = some r := by rw [if_neg (show ¬ (false = true) by decide)] at H; exact H
             clear H
             have H := H1
             clear H1
             exact absurd (Option.some.inj H) (by rw [HRT.out]; decide)
          ·replace c91 := Bool.eq_false_iff.mpr c91
           subst c91
           have H1 : (some false) = some r := by rw [if_neg (show ¬ (false = true) by decide)] at H; exact H
           clear H
           have H := H1
           clear H1
           exact absurd (Option.some.inj H) (by rw [HRT.out]; decide)

/-- THE ONE PURE STATEMENT of laws_FnSievesMovedOfAll: yours. -/
theorem laws_FnSievesMovedOfAll.walk (P : laws_FnSievesMovedOfAll.Pure) (a0 : Option Addr) (len0 cap0 : Nat) (l0 : List S41) (a1 : Int) (a2 : Option Addr) (len2 cap2 : Nat) (l2 : List S41) (a3 : Option Addr) (len3 cap3 : Nat) (l3 : List S41) (a4 : Option Addr) (len4 cap4 : Nat) (l4 : List S41) (a5 : ByteArray) (w : World) (hG : GlobP w) (w0 : l0.length = len0 ∧ len0 ≤ cap0 ∧ cap0 ≤ maxLen ∧ Kd.C k41 w a0 len0 l0 ∧ (∀ x ∈ l0, (Lit.int .i64 x.f0).wf = true ∧ (Lit.int .i64 x.f1).wf = true) ∧ len0 * 16 ≤ 140737488351232) (w1 : (Lit.int .i64 a1).wf = true) (w2 : l2.length = len2 ∧ len2 ≤ cap2 ∧ cap2 ≤ maxLen ∧ Kd.C k41 w a2 len2 l2 ∧ (∀ x ∈ l2, (Lit.int .i64 x.f0).wf = true ∧ (Lit.int .i64 x.f1).wf = true) ∧ len2 * 16 ≤ 140737488351232) (w3 : l3.length = len3 ∧ len3 ≤ cap3 ∧ cap3 ≤ maxLen ∧ Kd.C k41 w a3 len3 l3 ∧ (∀ x ∈ l3, (Lit.int .i64 x.f0).wf = true ∧ (Lit.int .i64 x.f1).wf = true) ∧ len3 * 16 ≤ 140737488351232) (w4 : l4.length = len4 ∧ len4 ≤ cap4 ∧ cap4 ≤ maxLen ∧ Kd.C k41 w a4 len4 l4 ∧ (∀ x ∈ l4, (Lit.int .i64 x.f0).wf = true ∧ (Lit.int .i64 x.f1).wf = true) ∧ len4 * 16 ≤ 140737488351232) (w5 : a5.size ≤ 140737488351232) :
    Calls Tryz.prog 3 #[.slice a0 len0 cap0, .int .i64 a1, .slice a2 len2 cap2, .slice a3 len3 cap3, .slice a4 len4 cap4, .string a5] w fun e w' => e = .returned (.bool true) ∧ Below w.heap.size w w' := by
  obtain ⟨rfl, hc0, hx0, hr0, hw0, y0⟩ := w0
  have hm0 := Nat.le_trans hc0 hx0
  obtain ⟨rfl, hc2, hx2, hr2, hw2, y2⟩ := w2
  have hm2 := Nat.le_trans hc2 hx2
  obtain ⟨rfl, hc3, hx3, hr3, hw3, y3⟩ := w3
  have hm3 := Nat.le_trans hc3 hx3
  obtain ⟨rfl, hc4, hx4, hr4, hw4, y4⟩ := w4
  have hm4 := Nat.le_trans hc4 hx4
  obtain ⟨k, h⟩ := P l0 a1 l2 l3 l4 a5 hm0 y0 hw0 w1 hm2 y2 hw2 hm3 y3 hw3 hm4 y4 hw4 w5
  refine (laws_FnSievesMovedOfAll.calls k _ _ l0 a1 _ _ l2 _ _ l3 _ _ l4 a5 true w hr0 hc0 hr2 hc2 hr3 hc3 hr4 hc4 hG h rfl).mono ?_
  rintro e w' ⟨rfl, hd⟩
  exact ⟨rfl, hd⟩

end Go.Proofs.YtnfbdaffbpaagaaGreatDoor.PFnSievesMovedOfAll
