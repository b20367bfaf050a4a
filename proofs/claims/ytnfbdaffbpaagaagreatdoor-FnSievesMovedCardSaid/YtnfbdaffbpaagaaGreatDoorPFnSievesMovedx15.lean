-- Written by a turned copy of the printer, for this claim
import Derived.Test.YtnfbdaffbpaagaaGreatDoorPFnSievesMovedx14
namespace Go.Proofs.YtnfbdaffbpaagaaGreatDoor.PFnSievesMoved
open Go.RowKit Go.Proofs.YtnfbdaffbpaagaaGreatDoorW.PrintWords Go.Proofs.YtnfbdaffbpaagaaGreatDoorW.PrintLast Go.Proofs.YtnfbdaffbpaagaaGreatDoorW.PrintMore
attribute [local go_sem] max2_int min2_int max_two min_two max_three min_three max_four min_four   -- for this text's walks alone
set_option linter.unusedVariables false
set_option linter.unusedSimpArgs false

theorem no_ {r : Bool} (h : Aside0 (r = true)) (H : some false = some r) : False := by rw [h.out] at H; cases H
/-- So many values at once. -/
theorem ex32_ {V : Type} {P : V → V → V → V → V → V → V → V → V → V → V → V → V → V → V → V → V → V → V → V → V → V → V → V → V → V → V → V → V → V → V → V → Prop} (a0 a1 a2 a3 a4 a5 a6 a7 a8 a9 a10 a11 a12 a13 a14 a15 a16 a17 a18 a19 a20 a21 a22 a23 a24 a25 a26 a27 a28 a29 a30 a31 : V) (h : P a0 a1 a2 a3 a4 a5 a6 a7 a8 a9 a10 a11 a12 a13 a14 a15 a16 a17 a18 a19 a20 a21 a22 a23 a24 a25 a26 a27 a28 a29 a30 a31) : ∃ a0 a1 a2 a3 a4 a5 a6 a7 a8 a9 a10 a11 a12 a13 a14 a15 a16 a17 a18 a19 a20 a21 a22 a23 a24 a25 a26 a27 a28 a29 a30 a31, P a0 a1 a2 a3 a4 a5 a6 a7 a8 a9 a10 a11 a12 a13 a14 a15 a16 a17 a18 a19 a20 a21 a22 a23 a24 a25 a26 a27 a28 a29 a30 a31 := ⟨a0, a1, a2, a3, a4, a5, a6, a7, a8, a9, a10, a11, a12, a13, a14, a15, a16, a17, a18, a19, a20, a21, a22, a23, a24, a25, a26, a27, a28, a29, a30, a31, h⟩

set_option maxHeartbeats 80000000 in
set_option maxRecDepth 100000 in
theorem laws_FnSievesMoved.calls (k : Nat) (A0 : Option Addr) (c0 : Nat) (l0 : List Int) (A1 : Option Addr) (c1 : Nat) (l1 : List Int) (r : Bool) (w : World) (hr0 : Kd.C (Kd.int .u8) w A0 l0.length l0) (hc0 : l0.length ≤ c0) (hr1 : Kd.C (Kd.int .u8) w A1 l1.length l1) (hc1 : l1.length ≤ c1) (hG : GlobP w) (h : laws_FnSievesMoved.f k l0 l1 = some r) (hr : r = true) :
  Calls Tryz.prog 4 #[.slice A0 l0.length c0, .slice A1 l1.length c1] w fun e w' => e = .returned (.bool r) ∧ Below w.heap.size w w' := by
 have HG := Aside0.mk hG
 clear hG
 have HRT := Aside0.mk hr
 clear hr
 have hu41 := Tryz.underlying41
 have HR0 := Aside0.mk hr0
 have HC0 := Aside0.mk hc0
 clear hr0 hc0
 have HR1 := Aside0.mk hr1
 have HC1 := Aside0.mk hc1
 clear hr1 hc1
 have HB := Aside0.mk (Below.refl w.heap.size w)
 have H : ((laws_big.f l0 l1).bind fun t514 => (if t514 = true then (some true) else ((spec_DrawMoveRules.f k l0).bind fun bt515 => ((impl_MoveRules.f k bt515.1 bt515.2).bind fun bt519 => ((spec_MoveRules.f k bt515.1 bt515.2).bind fun bt523 => ((impl_MirrorRules.f k bt515.1).bind fun bt527 => ((spec_MirrorRules.f k bt515.1).bind fun bt531 => ((impl_RulesText.f k bt515.1).bind fun bt535 => ((spec_RulesText.f k bt515.1).bind fun bt537 => (if (bt519.2 != bt523.2) = true then (some false) else ((laws_tRules.f k bt519.1 bt523.1).bind fun t539 => (if t539 = true then (if (bt527.2 != bt531.2) = true then (some false) else ((laws_tRules.f k bt527.1 bt531.1).bind fun t540 => (if t540 = true then (if (bt535.2 != bt537.2) = true then (some false) else (if bt535.1.toList = bt537.1.toList then ((impl_AreRules.f bt515.1).bind fun t541 => (if (bt527.2 != t541) = true then (some false) else (if (bt535.2 != bt527.2) = true then (some false) else (if bt519.2 = true then (laws_FnSievesMoved.j0 k l1 bt515.1 bt515.2 bt519.1 bt519.2 bt527.1 bt527.2 bt535.1 (!bt527.2)) else (laws_FnSievesMoved.j0 k l1 bt515.1 bt515.2 bt519.1 bt519.2 bt527.1 bt527.2 bt535.1 false))))) else (some false))) else (some false)))) else (some false))))))))))))) = some r := h
 clear h
 replace H := Option.bind_eq_some_iff.mp H
 obtain ⟨t514, A30, H⟩ := H
 try dsimp only at H
 have A3 := Aside0.mk A30
 clear A30
 by_cases c4 : t514 = true
 ·subst c4
  rw [if_pos rfl] at H
  obtain rfl := Option.some.inj H
  as_aux_lemma =>
  go_enter Tryz.func4, Tryz.ntmps4
  go_wp2_with (first | ((with_reducible refine gate_callee (f := 28) rfl ?_); refine goesL_ (some 70) rfl rfl Tryz.func28 (by kernel_rfl) rfl #[.slice A0 l0.length c0, .slice A1 l1.length c1] rfl (by (try simp only [List.map_toArray, List.map_cons, List.map_nil]); first | done | rfl) ?_; (with_reducible refine (laws_big.calls _ _ l0 _ _ l1 true _ ?side1 ?side2 ?side3 ?side4 A3.out).mono ?_); (case side1 => repeat (first | exact HR0.out | with_reducible first | refine Kd.C_alloc ?_ _ | refine Kd.C_drewN ?_ _ | refine Kd.C_drew ?_)); (case side2 => exact HC0.out); (case side3 => repeat (first | exact HR1.out | with_reducible first | refine Kd.C_alloc ?_ _ | refine Kd.C_drewN ?_ _ | refine Kd.C_drew ?_)); (case side4 => exact HC1.out); rintro e w' ⟨rfl, ⟨nd, rfl⟩⟩; refine ⟨_, rfl, ?_⟩))
  go_ret
  exact ⟨by first | rfl | (simp [errW_none, errW_some] <;> rfl) | (simp [*, errW_none, errW_some] <;> rfl), by repeat first | exact HB.out | apply below_alloc | apply pw_below_drewN | apply below_drew1⟩
 ·as_aux_lemma =>
  replace c4 := Bool.eq_false_iff.mpr c4
  subst c4
  rw [if_neg (show ¬ (false = true) by decide)] at H
  replace H := Option.bind_eq_some_iff.mp H
  obtain ⟨⟨t515, t516⟩, A50, H⟩ := H
  try dsimp only at H
  have A5 := Aside0.mk A50
  clear A50
  replace H := Option.bind_eq_some_iff.mp H
  obtain ⟨⟨t519, t520⟩, A60, H⟩ := H
  try dsimp only at H
  have A6 := Aside0.mk A60
  clear A60
  replace H := Option.bind_eq_some_iff.mp H
  obtain ⟨⟨t523, t524⟩, A70, H⟩ := H
  try dsimp only at H
  have A7 := Aside0.mk A70
  clear A70
  replace H := Option.bind_eq_some_iff.mp H
  obtain ⟨⟨t527, t528⟩, A80, H⟩ := H
  try dsimp only at H
  have A8 := Aside0.mk A80
  clear A80
  as_aux_lemma =>
  replace H := Option.bind_eq_some_iff.mp H
  obtain ⟨⟨t531, t532⟩, A90, H⟩ := H
  try dsimp only at H
  have A9 := Aside0.mk A90
  clear A90
  replace H := Option.bind_eq_some_iff.mp H
  obtain ⟨⟨t535, t536⟩, A100, H⟩ := H
  try dsimp only at H
  have A10 := Aside0.mk A100
  clear A100
  replace H := Option.bind_eq_some_iff.mp H
  obtain ⟨⟨t537, t538⟩, A110, H⟩ := H
  try dsimp only at H
  have A11 := Aside0.mk A110
  clear A110
  have HC12 := Aside0.mk H
  clear H
  as_aux_lemma =>
  go_enter Tryz.func4, Tryz.ntmps4
  go_upto_region 5 with (first | ((with_reducible refine gate_callee (f := 28) rfl ?_); refine goesL_ (some 70) rfl rfl Tryz.func28 (by kernel_rfl) rfl #[.slice A0 l0.length c0, .slice A1 l1.length c1] rfl (by (try simp only [List.map_toArray, List.map_cons, List.map_nil]); first | done | rfl) ?_; (with_reducible refine (laws_big.calls _ _ l0 _ _ l1 false _ ?side1 ?side2 ?side3 ?side4 A3.out).mono ?_); (case side1 => repeat (first | exact HR0.out | with_reducible first | refine Kd.C_alloc ?_ _ | refine Kd.C_drewN ?_ _ | refine Kd.C_drew ?_)); (case side2 => exact HC0.out); (case side3 => repeat (first | exact HR1.out | with_reducible first | refine Kd.C_alloc ?_ _ | refine Kd.C_drewN ?_ _ | refine Kd.C_drew ?_)); (case side4 => exact HC1.out); rintro e w' ⟨rfl, ⟨nd, rfl⟩⟩; refine ⟨_, rfl, ?_⟩) | ((with_reducible refine gate_callee (f := 29) rfl ?_); refine goesL_ (some 73) rfl rfl Tryz.func29 (by kernel_rfl) rfl #[.slice A0 l0.length c0] rfl (by (try simp only [List.map_toArray, List.map_cons, List.map_nil]); first | done | rfl) ?_; (with_reducible refine (spec_DrawMoveRules.calls k _ _ l0 t515 t516 _ ?side1 ?side2 A5.out).mono ?_); (case side1 => repeat (first | exact HR0.out | with_reducible first | refine Kd.C_alloc ?_ _ | refine Kd.C_drewN ?_ _ | refine Kd.C_drew ?_)); (case side2 => exact HC0.out); rintro e w13 ⟨v517, rfl, ho0, hb⟩; refine ⟨_, rfl, ?_⟩; have n0_ := Aside0.mk (Kd.R_lower ho0 (below_size (by repeat first | exact HB.out | apply below_alloc | apply pw_below_drewN | apply below_drew1))); have n1_ := Aside0.mk (below_step (by repeat first | exact HB.out | apply below_alloc | apply pw_below_drewN | apply below_drew1) hb); clear HB; have HO518 := n0_; have HB := n1_; clear n0_ n1_; obtain ⟨Ao14, co14, eo14⟩ := Kd.R_slice HO518.out; subst eo14) | ((with_reducible refine gate_callee (f := 5) rfl ?_); refine goesL_ (some 79) rfl rfl Tryz.func5 (by kernel_rfl) rfl #[.slice Ao14 t515.length co14, .int .i64 t516] rfl (by (try simp only [List.map_toArray, List.map_cons, List.map_nil]); first | done | rfl) ?_; (with_reducible refine (impl_MoveRules.calls k _ _ t515 t516 t519 t520 _ ?side1 ?side2 A6.out).mono ?_); (case side1 => repeat (first | exact (Kd.R_reads' HO518.out).2.2 | with_reducible first | refine Kd.C_alloc ?_ _ | refine Kd.C_drewN ?_ _ | refine Kd.C_drew ?_)); (case side2 => exact (Kd.R_reads' HO518.out).2.1); rintro e w15 ⟨v521, rfl, ho0, hb⟩; refine ⟨_, rfl, ?_⟩; have n0_ := Aside0.mk (Kd.R_elder' (by (with_reducible repeat (first | apply Kd.R_alloc | apply Kd.R_drewN | apply Kd.R_drew)); exact HO518.out) (Kd.R_base ho0) hb); have n1_ := Aside0.mk (Kd.R_lower (Kd.R_new' ho0 (Kd.R_lt (by (with_reducible repeat (first | apply Kd.R_alloc | apply Kd.R_drewN | apply Kd.R_drew)); exact HO518.out))) (below_size (by repeat first | exact HB.out | apply below_alloc | apply pw_below_drewN | apply below_drew1))); have n2_ := Aside0.mk (below_step (by repeat first | exact HB.out | apply below_alloc | apply pw_below_drewN | apply below_drew1) hb); clear HO518; clear HB; have HO518 := n0_; have HO522 := n1_; have HB := n2_; clear n0_ n1_ n2_))
  (try simp only [Act.put, List.setIfInBounds_toArray, List.set_cons_zero, List.set_cons_succ])
  as_aux_lemma =>
  go_upto_region 8 with (first | ((with_reducible refine gate_callee (f := 6) rfl ?_); refine goesL_ (some 85) rfl rfl Tryz.func6 (by kernel_rfl) rfl #[.slice Ao14 t515.length co14, .int .i64 t516] rfl (by (try simp only [List.map_toArray, List.map_cons, List.map_nil]); first | done | rfl) ?_; (with_reducible refine (spec_MoveRules.calls k _ _ t515 t516 t523 t524 _ ?side1 ?side2 A7.out).mono ?_); (case side1 => repeat (first | exact (Kd.R_reads' HO518.out).2.2 | with_reducible first | refine Kd.C_alloc ?_ _ | refine Kd.C_drewN ?_ _ | refine Kd.C_drew ?_)); (case side2 => exact (Kd.R_reads' HO518.out).2.1); rintro e w16 ⟨v525, rfl, ho0, hb⟩; refine ⟨_, rfl, ?_⟩; have n0_ := Aside0.mk (Kd.R_elder' (by (with_reducible repeat (first | apply Kd.R_alloc | apply Kd.R_drewN | apply Kd.R_drew)); exact HO518.out) (Kd.R_base ho0) hb); have n1_ := Aside0.mk (Kd.R_elder' (by (with_reducible repeat (first | apply Kd.R_alloc | apply Kd.R_drewN | apply Kd.R_drew)); exact HO522.out) (Kd.R_base ho0) hb); have n2_ := Aside0.mk (Kd.R_lower (Kd.R_new' (Kd.R_new' ho0 (Kd.R_lt (by (with_reducible repeat (first | apply Kd.R_alloc | apply Kd.R_drewN | apply Kd.R_drew)); exact HO518.out))) (Kd.R_lt (by (with_reducible repeat (first | apply Kd.R_alloc | apply Kd.R_drewN | apply Kd.R_drew)); exact HO522.out))) (below_size (by repeat first | exact HB.out | apply below_alloc | apply pw_below_drewN | apply below_drew1))); have n3_ := Aside0.mk (below_step (by repeat first | exact HB.out | apply below_alloc | apply pw_below_drewN | apply below_drew1) hb); clear HO518; clear HO522; clear HB; have HO518 := n0_; have HO522 := n1_; have HO526 := n2_; have HB := n3_; clear n0_ n1_ n2_ n3_) | ((with_reducible refine gate_callee (f := 7) rfl ?_); refine goesL_ (some 90) rfl rfl Tryz.func7 (by kernel_rfl) rfl #[.slice Ao14 t515.length co14] rfl (by (try simp only [List.map_toArray, List.map_cons, List.map_nil]); first | done | rfl) ?_; (with_reducible refine (impl_MirrorRules.calls k _ _ t515 t527 t528 _ ?side1 ?side2 A8.out).mono ?_); (case side1 => repeat (first | exact (Kd.R_reads' HO518.out).2.2 | with_reducible first | refine Kd.C_alloc ?_ _ | refine Kd.C_drewN ?_ _ | refine Kd.C_drew ?_)); (case side2 => exact (Kd.R_reads' HO518.out).2.1); rintro e w17 ⟨v529, rfl, ho0, hb⟩; refine ⟨_, rfl, ?_⟩; have n0_ := Aside0.mk (Kd.R_elder' (by (with_reducible repeat (first | apply Kd.R_alloc | apply Kd.R_drewN | apply Kd.R_drew)); exact HO518.out) (Kd.R_base ho0) hb); have n1_ := Aside0.mk (Kd.R_elder' (by (with_reducible repeat (first | apply Kd.R_alloc | apply Kd.R_drewN | apply Kd.R_drew)); exact HO522.out) (Kd.R_base ho0) hb); have n2_ := Aside0.mk (Kd.R_elder' (by (with_reducible repeat (first | apply Kd.R_alloc | apply Kd.R_drewN | apply Kd.R_drew)); exact HO526.out) (Kd.R_base ho0) hb); have n3_ := Aside0.mk (Kd.R_lower (Kd.R_new' (Kd.R_new' (Kd.R_new' ho0 (Kd.R_lt (by (with_reducible repeat (first | apply Kd.R_alloc | apply Kd.R_drewN | apply Kd.R_drew)); exact HO518.out))) (Kd.R_lt (by (with_reducible repeat (first | apply Kd.R_alloc | apply Kd.R_drewN | apply Kd.R_drew)); exact HO522.out))) (Kd.R_lt (by (with_reducible repeat (first | apply Kd.R_alloc | apply Kd.R_drewN | apply Kd.R_drew)); exact HO526.out))) (below_size (by repeat first | exact HB.out | apply below_alloc | apply pw_below_drewN | apply below_drew1))); have n4_ := Aside0.mk (below_step (by repeat first | exact HB.out | apply below_alloc | apply pw_below_drewN | apply below_drew1) hb); clear HO518; clear HO522; clear HO526; clear HB; have HO518 := n0_; have HO522 := n1_; have HO526 := n2_; have HO530 := n3_; have HB := n4_; clear n0_ n1_ n2_ n3_ n4_) | ((with_reducible refine gate_callee (f := 8) rfl ?_); refine goesL_ (some 95) rfl rfl Tryz.func8 (by kernel_rfl) rfl #[.slice Ao14 t515.length co14] rfl (by (try simp only [List.map_toArray, List.map_cons, List.map_nil]); first | done | rfl) ?_; (with_reducible refine (spec_MirrorRules.calls k _ _ t515 t531 t532 _ ?side1 ?side2 A9.out).mono ?_); (case side1 => repeat (first | exact (Kd.R_reads' HO518.out).2.2 | with_reducible first | refine Kd.C_alloc ?_ _ | refine Kd.C_drewN ?_ _ | refine Kd.C_drew ?_)); (case side2 => exact (Kd.R_reads' HO518.out).2.1); rintro e w18 ⟨v533, rfl, ho0, hb⟩; refine ⟨_, rfl, ?_⟩; have n0_ := Aside0.mk (Kd.R_elder' (by (with_reducible repeat (first | apply Kd.R_alloc | apply Kd.R_drewN | apply Kd.R_drew)); exact HO518.out) (Kd.R_base ho0) hb); have n1_ := Aside0.mk (Kd.R_elder' (by (with_reducible repeat (first | apply Kd.R_alloc | apply Kd.R_drewN | apply Kd.R_drew)); exact HO522.out) (Kd.R_base ho0) hb); have n2_ := Aside0.mk (Kd.R_elder' (by (with_reducible repeat (first | apply Kd.R_alloc | apply Kd.R_drewN | apply Kd.R_drew)); exact HO526.out) (Kd.R_base ho0) hb); have n3_ := Aside0.mk (Kd.R_elder' (by (with_reducible repeat (first | apply Kd.R_alloc | apply Kd.R_drewN | apply Kd.R_drew)); exact HO530.out) (Kd.R_base ho0) hb); have n4_ := Aside0.mk (Kd.R_lower (Kd.R_new' (Kd.R_new' (Kd.R_new' (Kd.R_new' ho0 (Kd.R_lt (by (with_reducible repeat (first | apply Kd.R_alloc | apply Kd.R_drewN | apply Kd.R_drew)); exact HO518.out))) (Kd.R_lt (by (with_reducible repeat (first | apply Kd.R_alloc | apply Kd.R_drewN | apply Kd.R_drew)); exact HO522.out))) (Kd.R_lt (by (with_reducible repeat (first | apply Kd.R_alloc | apply Kd.R_drewN | apply Kd.R_drew)); exact HO526.out))) (Kd.R_lt (by (with_reducible repeat (first | apply Kd.R_alloc | apply Kd.R_drewN | apply Kd.R_drew)); exact HO530.out))) (below_size (by repeat first | exact HB.out | apply below_alloc | apply pw_below_drewN | apply below_drew1))); have n5_ := Aside0.mk (below_step (by repeat first | exact HB.out | apply below_alloc | apply pw_below_drewN | apply below_drew1) hb); clear HO518; clear HO522; clear HO526; clear HO530; clear HB; have HO518 := n0_; have HO522 := n1_; have HO526 := n2_; have HO530 := n3_; have HO534 := n4_; have HB := n5_; clear n0_ n1_ n2_ n3_ n4_ n5_))
  (try simp only [Act.put, List.setIfInBounds_toArray, List.set_cons_zero, List.set_cons_succ])
  as_aux_lemma =>
  go_upto_region 10 with (first | ((with_reducible refine gate_callee (f := 9) rfl ?_); refine goesL_ (some 100) rfl rfl Tryz.func9 (by kernel_rfl) rfl #[.slice Ao14 t515.length co14] rfl (by (try simp only [List.map_toArray, List.map_cons, List.map_nil]); first | done | rfl) ?_; (with_reducible refine (impl_RulesText.calls k _ _ t515 t535 t536 _ ?side1 ?side2 A10.out).mono ?_); (case side1 => repeat (first | exact (Kd.R_reads' HO518.out).2.2 | with_reducible first | refine Kd.C_alloc ?_ _ | refine Kd.C_drewN ?_ _ | refine Kd.C_drew ?_)); (case side2 => exact (Kd.R_reads' HO518.out).2.1); rintro e w19 ⟨rfl, hb⟩; refine ⟨_, rfl, ?_⟩; have n0_ := Aside0.mk (Kd.R_below (by (with_reducible repeat (first | apply Kd.R_alloc | apply Kd.R_drewN | apply Kd.R_drew)); exact HO518.out) hb); have n1_ := Aside0.mk (Kd.R_below (by (with_reducible repeat (first | apply Kd.R_alloc | apply Kd.R_drewN | apply Kd.R_drew)); exact HO522.out) hb); have n2_ := Aside0.mk (Kd.R_below (by (with_reducible repeat (first | apply Kd.R_alloc | apply Kd.R_drewN | apply Kd.R_drew)); exact HO526.out) hb); have n3_ := Aside0.mk (Kd.R_below (by (with_reducible repeat (first | apply Kd.R_alloc | apply Kd.R_drewN | apply Kd.R_drew)); exact HO530.out) hb); have n4_ := Aside0.mk (Kd.R_below (by (with_reducible repeat (first | apply Kd.R_alloc | apply Kd.R_drewN | apply Kd.R_drew)); exact HO534.out) hb); have n5_ := Aside0.mk (below_step (by repeat first | exact HB.out | apply below_alloc | apply pw_below_drewN | apply below_drew1) hb); clear HO518; clear HO522; clear HO526; clear HO530; clear HO534; clear HB; have HO518 := n0_; have HO522 := n1_; have HO526 := n2_; have HO530 := n3_; have HO534 := n4_; have HB := n5_; clear n0_ n1_ n2_ n3_ n4_ n5_) | ((with_reducible refine gate_callee (f := 10) rfl ?_); refine goesL_ (some 105) rfl rfl Tryz.func10 (by kernel_rfl) rfl #[.slice Ao14 t515.length co14] rfl (by (try simp only [List.map_toArray, List.map_cons, List.map_nil]); first | done | rfl) ?_; (with_reducible refine (spec_RulesText.calls k _ _ t515 t537 t538 _ ?side1 ?side2 A11.out).mono ?_); (case side1 => repeat (first | exact (Kd.R_reads' HO518.out).2.2 | with_reducible first | refine Kd.C_alloc ?_ _ | refine Kd.C_drewN ?_ _ | refine Kd.C_drew ?_)); (case side2 => exact (Kd.R_reads' HO518.out).2.1); rintro e w20 ⟨rfl, hb⟩; refine ⟨_, rfl, ?_⟩; have n0_ := Aside0.mk (Kd.R_below (by (with_reducible repeat (first | apply Kd.R_alloc | apply Kd.R_drewN | apply Kd.R_drew)); exact HO518.out) hb); have n1_ := Aside0.mk (Kd.R_below (by (with_reducible repeat (first | apply Kd.R_alloc | apply Kd.R_drewN | apply Kd.R_drew)); exact HO522.out) hb); have n2_ := Aside0.mk (Kd.R_below (by (with_reducible repeat (first | apply Kd.R_alloc | apply Kd.R_drewN | apply Kd.R_drew)); exact HO526.out) hb); have n3_ := Aside0.mk (Kd.R_below (by (with_reducible repeat (first | apply Kd.R_alloc | apply Kd.R_drewN | apply Kd.R_drew)); exact HO530.out) hb); have n4_ := Aside0.mk (Kd.R_below (by (with_reducible repeat (first | apply Kd.R_alloc | apply Kd.R_drewN | apply Kd.R_drew)); exact HO534.out) hb); have n5_ := Aside0.mk (below_step (by repeat first | exact HB.out | apply below_alloc | apply pw_below_drewN | apply below_drew1) hb); clear HO518; clear HO522; clear HO526; clear HO530; clear HO534; clear HB; have HO518 := n0_; have HO522 := n1_; have HO526 := n2_; have HO530 := n3_; have HO534 := n4_; have HB := n5_; clear n0_ n1_ n2_ n3_ n4_ n5_))
  (try simp only [Act.put, List.setIfInBounds_toArray, List.set_cons_zero, List.set_cons_succ])
  go_cut [155] from 143 to 155 (fun v155 wc => ∃ (kq : Nat) (x155_11 : Bool), v155 = .bool x155_11 ∧ Aside0 (laws_FnSievesMoved.j0 kq l1 t515 t516 t519 t520 t527 t528 t535 x155_11 = some r) ∧ Aside0 (kq ≤ k) ∧ Aside0 (Kd.R k41 41 wc w.heap.size (fun k_ => some k_ ≠ (v521 : Value).ownBlock ∧ some k_ ≠ (v529 : Value).ownBlock) (.slice Ao14 t515.length co14) t515) ∧ Aside0 (Kd.R k41 41 wc w.heap.size (fun k_ => some k_ ≠ ((.slice Ao14 t515.length co14) : Value).ownBlock ∧ some k_ ≠ (v529 : Value).ownBlock) v521 t519) ∧ Aside0 (Kd.R k41 41 wc w.heap.size (fun k_ => some k_ ≠ ((.slice Ao14 t515.length co14) : Value).ownBlock ∧ some k_ ≠ (v521 : Value).ownBlock) v529 t527) ∧ Aside0 (Below w.heap.size w wc))
  case first => as_aux_lemma =>
   have H := HC12.out
   clear HC12
   by_cases c21 : (t520 != t524) = true
   ·rw [if_pos c21] at H
    have c21b0 : (t520 != t524) = true := c21
    (try (have c21b1 : decide (t520 = t524) = false := by simpa using c21))
    (try (have c21b2 : (t520 == t524) = false := by simpa using c21))
    (try (have c21b3 : ¬ (t520 = t524) := by simpa using c21))
    clear c21
    (first | rw [c21b0] | (simp only [i64_w, i32_w]; rw [c21b0]) | skip)
    exact (no_ HRT H).elim
   ·rw [if_neg c21] at H
    have c21b0 : (t520 != t524) = false := by simpa using c21
    (try (have c21b1 : decide (t520 = t524) = true := by simpa using c21))
    (try (have c21b2 : (t520 == t524) = true := by simpa using c21))
    clear c21
    (first | rw [c21b0] | (simp only [i64_w, i32_w]; rw [c21b0]) | skip)
    replace H := Option.bind_eq_some_iff.mp H
    obtain ⟨t539, A220, H⟩ := H
    try dsimp only at H
    have A22 := Aside0.mk A220
    clear A220
    by_cases c23 : t539 = true
    ·subst c23
     rw [if_pos rfl] at H
     by_cases c24 : (t528 != t532) = true
     ·rw [if_pos c24] at H
      have c24b0 : (t528 != t532) = true := c24
      (try (have c24b1 : decide (t528 = t532) = false := by simpa using c24))
      (try (have c24b2 : (t528 == t532) = false := by simpa using c24))
      (try (have c24b3 : ¬ (t528 = t532) := by simpa using c24))
      clear c24
      exact (no_ HRT H).elim
     ·as_aux_lemma =>
      rw [if_neg c24] at H
      have c24b0 : (t528 != t532) = false := by simpa using c24
      (try (have c24b1 : decide (t528 = t532) = true := by simpa using c24))
      (try (have c24b2 : (t528 == t532) = true := by simpa using c24))
      clear c24
      replace H := Option.bind_eq_some_iff.mp H
      obtain ⟨t540, A250, H⟩ := H
      try dsimp only at H
      have A25 := Aside0.mk A250
      clear A250
      by_cases c26 : t540 = true
      ·subst c26
       rw [if_pos rfl] at H
       by_cases c27 : (t536 != t538) = true
       ·rw [if_pos c27] at H
        have c27b0 : (t536 != t538) = true := c27
        (try (have c27b1 : decide (t536 = t538) = false := by simpa using c27))
        (try (have c27b2 : (t536 == t538) = false := by simpa using c27))
        (try (have c27b3 : ¬ (t536 = t538) := by simpa using c27))
        clear c27
        exact (no_ HRT H).elim
       ·rw [if_neg c27] at H
        have c27b0 : (t536 != t538) = false := by simpa using c27
        (try (have c27b1 : decide (t536 = t538) = true := by simpa using c27))
        (try (have c27b2 : (t536 == t538) = true := by simpa using c27))
        clear c27
        by_cases c28 : t535.toList = t537.toList
        ·as_aux_lemma =>
         rw [if_pos c28] at H
         have c28b0 : (t535.toList == t537.toList) = true := beq_iff_eq.mpr c28
         have c28b1 : (t535.toList != t537.toList) = false := bne_eq_false_iff_eq.mpr c28
         clear c28
         replace H := Option.bind_eq_some_iff.mp H
         obtain ⟨t541, A290, H⟩ := H
         try dsimp only at H
         have A29 := Aside0.mk A290
         clear A290
         by_cases c30 : (t528 != t541) = true
         ·rw [if_pos c30] at H
          have c30b0 : (t528 != t541) = true := c30
          (try (have c30b1 : decide (t528 = t541) = false := by simpa using c30))
          (try (have c30b2 : (t528 == t541) = false := by simpa using c30))
          (try (have c30b3 : ¬ (t528 = t541) := by simpa using c30))
          clear c30
          exact (no_ HRT H).elim
         ·rw [if_neg c30] at H
          have c30b0 : (t528 != t541) = false := by simpa using c30
          (try (have c30b1 : decide (t528 = t541) = true := by simpa using c30))
          (try (have c30b2 : (t528 == t541) = true := by simpa using c30))
          clear c30
          by_cases c31 : (t536 != t528) = true
          ·rw [if_pos c31] at H
           have c31b0 : (t536 != t528) = true := c31
           (try (have c31b1 : decide (t536 = t528) = false := by simpa using c31))
           (try (have c31b2 : (t536 == t528) = false := by simpa using c31))
           (try (have c31b3 : ¬ (t536 = t528) := by simpa using c31))
           clear c31
           exact (no_ HRT H).elim
          ·as_aux_lemma =>
           rw [if_neg c31] at H
           have c31b0 : (t536 != t528) = false := by simpa using c31
           (try (have c31b1 : decide (t536 = t528) = true := by simpa using c31))
           (try (have c31b2 : (t536 == t528) = true := by simpa using c31))
           clear c31
           by_cases c32 : t520 = true
           ·subst c32
            rw [if_pos rfl] at H
            have H' := Aside0.mk H
            clear H
            obtain ⟨Ao33, co33, eo33⟩ := Kd.R_slice HO522.out
            subst eo33
            obtain ⟨Ao34, co34, eo34⟩ := Kd.R_slice HO526.out
            subst eo34
            go_wp2_with (first | (go_at_call 11; (with_reducible refine (laws_tRules.calls k _ _ t519 _ _ t523 true _ ?side1 ?side2 ?side3 ?side4 A22.out).mono ?_); (case side1 => repeat (first | exact (Kd.R_reads' HO522.out).2.2 | with_reducible first | refine Kd.C_alloc ?_ _ | refine Kd.C_drewN ?_ _ | refine Kd.C_drew ?_)); (case side2 => exact (Kd.R_reads' HO522.out).2.1); (case side3 => repeat (first | exact (Kd.R_reads' HO526.out).2.2 | with_reducible first | refine Kd.C_alloc ?_ _ | refine Kd.C_drewN ?_ _ | refine Kd.C_drew ?_)); (case side4 => exact (Kd.R_reads' HO526.out).2.1); rintro e w' ⟨rfl, ⟨nd, rfl⟩⟩; obtain ⟨Ao35, co35, eo35⟩ := Kd.R_slice HO530.out; subst eo35; obtain ⟨Ao36, co36, eo36⟩ := Kd.R_slice HO534.out; subst eo36) | (go_at_call 11; (with_reducible refine (laws_tRules.calls k _ _ t527 _ _ t531 true _ ?side1 ?side2 ?side3 ?side4 A25.out).mono ?_); (case side1 => repeat (first | exact (Kd.R_reads' HO530.out).2.2 | with_reducible first | refine Kd.C_alloc ?_ _ | refine Kd.C_drewN ?_ _ | refine Kd.C_drew ?_)); (case side2 => exact (Kd.R_reads' HO530.out).2.1); (case side3 => repeat (first | exact (Kd.R_reads' HO534.out).2.2 | with_reducible first | refine Kd.C_alloc ?_ _ | refine Kd.C_drewN ?_ _ | refine Kd.C_drew ?_)); (case side4 => exact (Kd.R_reads' HO534.out).2.1); rintro e w' ⟨rfl, ⟨nd, rfl⟩⟩) | (go_at_call 12; (with_reducible refine (impl_AreRules.calls _ _ t515 t541 _ ?side1 ?side2 A29.out).mono ?_); (case side1 => repeat (first | exact (Kd.R_reads' HO518.out).2.2 | with_reducible first | refine Kd.C_alloc ?_ _ | refine Kd.C_drewN ?_ _ | refine Kd.C_drew ?_)); (case side2 => exact (Kd.R_reads' HO518.out).2.1); rintro e w37 ⟨rfl, hb⟩; have n0_ := Aside0.mk (Kd.R_below (by (with_reducible repeat (first | apply Kd.R_alloc | apply Kd.R_drewN | apply Kd.R_drew)); exact HO518.out) hb); have n1_ := Aside0.mk (Kd.R_below (by (with_reducible repeat (first | apply Kd.R_alloc | apply Kd.R_drewN | apply Kd.R_drew)); exact HO522.out) hb); have n2_ := Aside0.mk (Kd.R_below (by (with_reducible repeat (first | apply Kd.R_alloc | apply Kd.R_drewN | apply Kd.R_drew)); exact HO526.out) hb); have n3_ := Aside0.mk (Kd.R_below (by (with_reducible repeat (first | apply Kd.R_alloc | apply Kd.R_drewN | apply Kd.R_drew)); exact HO530.out) hb); have n4_ := Aside0.mk (Kd.R_below (by (with_reducible repeat (first | apply Kd.R_alloc | apply Kd.R_drewN | apply Kd.R_drew)); exact HO534.out) hb); have n5_ := Aside0.mk (below_step (by repeat first | exact HB.out | apply below_alloc | apply pw_below_drewN | apply below_drew1) hb); clear HO518; clear HO522; clear HO526; clear HO530; clear HO534; clear HB; have HO518 := n0_; have HO522 := n1_; have HO526 := n2_; have HO530 := n3_; have HO534 := n4_; have HB := n5_; clear n0_ n1_ n2_ n3_ n4_ n5_))
            refine Met.intro ?_
            go_step
            (repeat with_reducible apply ex32_)
            (repeat apply Exists.intro)
            refine ⟨?rel, rfl⟩
            case rel => exact ⟨_, (!t528), (by first | rfl | (simp; done) | (simp [*]; done)), H', ⟨by first | omega | exact Nat.le_refl _⟩, ⟨by (with_reducible repeat (first | apply Kd.R_alloc | apply Kd.R_drewN | apply Kd.R_drew)); exact Kd.R_mono HO518.out (fun _ hk => ⟨hk.1.1.1.2, hk.1.2⟩)⟩, ⟨by (with_reducible repeat (first | apply Kd.R_alloc | apply Kd.R_drewN | apply Kd.R_drew)); exact Kd.R_mono HO522.out (fun _ hk => ⟨hk.1.1.1.2, hk.1.2⟩)⟩, ⟨by (with_reducible repeat (first | apply Kd.R_alloc | apply Kd.R_drewN | apply Kd.R_drew)); exact Kd.R_mono HO530.out (fun _ hk => ⟨hk.1.1.1.2, hk.1.1.2⟩)⟩, ⟨by repeat first | exact HB.out | apply below_alloc | apply pw_below_drewN | apply below_drew1⟩⟩
           ·replace c32 := Bool.eq_false_iff.mpr c32
            subst c32
            rw [if_neg (show ¬ (false = true) by decide)] at H
            have H' := Aside0.mk H
            clear H
            obtain ⟨Ao38, co38, eo38⟩ := Kd.R_slice HO522.out
            subst eo38
            obtain ⟨Ao39, co39, eo39⟩ := Kd.R_slice HO526.out
            subst eo39
            go_wp2_with (first | (go_at_call 11; (with_reducible refine (laws_tRules.calls k _ _ t519 _ _ t523 true _ ?side1 ?side2 ?side3 ?side4 A22.out).mono ?_); (case side1 => repeat (first | exact (Kd.R_reads' HO522.out).2.2 | with_reducible first | refine Kd.C_alloc ?_ _ | refine Kd.C_drewN ?_ _ | refine Kd.C_drew ?_)); (case side2 => exact (Kd.R_reads' HO522.out).2.1); (case side3 => repeat (first | exact (Kd.R_reads' HO526.out).2.2 | with_reducible first | refine Kd.C_alloc ?_ _ | refine Kd.C_drewN ?_ _ | refine Kd.C_drew ?_)); (case side4 => exact (Kd.R_reads' HO526.out).2.1); rintro e w' ⟨rfl, ⟨nd, rfl⟩⟩; obtain ⟨Ao40, co40, eo40⟩ := Kd.R_slice HO530.out; subst eo40; obtain ⟨Ao41, co41, eo41⟩ := Kd.R_slice HO534.out; subst eo41) | (go_at_call 11; (with_reducible refine (laws_tRules.calls k _ _ t527 _ _ t531 true _ ?side1 ?side2 ?side3 ?side4 A25.out).mono ?_); (case side1 => repeat (first | exact (Kd.R_reads' HO530.out).2.2 | with_reducible first | refine Kd.C_alloc ?_ _ | refine Kd.C_drewN ?_ _ | refine Kd.C_drew ?_)); (case side2 => exact (Kd.R_reads' HO530.out).2.1); (case side3 => repeat (first | exact (Kd.R_reads' HO534.out).2.2 | with_reducible first | refine Kd.C_alloc ?_ _ | refine Kd.C_drewN ?_ _ | refine Kd.C_drew ?_)); (case side4 => exact (Kd.R_reads' HO534.out).2.1); rintro e w' ⟨rfl, ⟨nd, rfl⟩⟩) | (go_at_call 12; (with_reducible refine (impl_AreRules.calls _ _ t515 t541 _ ?side1 ?side2 A29.out).mono ?_); (case side1 => repeat (first | exact (Kd.R_reads' HO518.out).2.2 | with_reducible first | refine Kd.C_alloc ?_ _ | refine Kd.C_drewN ?_ _ | refine Kd.C_drew ?_)); (case side2 => exact (Kd.R_reads' HO518.out).2.1); rintro e w42 ⟨rfl, hb⟩; have n0_ := Aside0.mk (Kd.R_below (by (with_reducible repeat (first | apply Kd.R_alloc | apply Kd.R_drewN | apply Kd.R_drew)); exact HO518.out) hb); have n1_ := Aside0.mk (Kd.R_below (by (with_reducible repeat (first | apply Kd.R_alloc | apply Kd.R_drewN | apply Kd.R_drew)); exact HO522.out) hb); have n2_ := Aside0.mk (Kd.R_below (by (with_reducible repeat (first | apply Kd.R_alloc | apply Kd.R_drewN | apply Kd.R_drew)); exact HO526.out) hb); have n3_ := Aside0.mk (Kd.R_below (by (with_reducible repeat (first | apply Kd.R_alloc | apply Kd.R_drewN | apply Kd.R_drew)); exact HO530.out) hb); have n4_ := Aside0.mk (Kd.R_below (by (with_reducible repeat (first | apply Kd.R_alloc | apply Kd.R_drewN | apply Kd.R_drew)); exact HO534.out) hb); have n5_ := Aside0.mk (below_step (by repeat first | exact HB.out | apply below_alloc | apply pw_below_drewN | apply below_drew1) hb); clear HO518; clear HO522; clear HO526; clear HO530; clear HO534; clear HB; have HO518 := n0_; have HO522 := n1_; have HO526 := n2_; have HO530 := n3_; have HO534 := n4_; have HB := n5_; clear n0_ n1_ n2_ n3_ n4_ n5_))
            refine Met.intro ?_
            go_step
            (repeat with_reducible apply ex32_)
            (repeat apply Exists.intro)
            refine ⟨?rel, rfl⟩
            case rel => exact ⟨_, (false), (by first | rfl | (simp; done) | (simp [*]; done)), H', ⟨by first | omega | exact Nat.le_refl _⟩, ⟨by (with_reducible repeat (first | apply Kd.R_alloc | apply Kd.R_drewN | apply Kd.R_drew)); exact Kd.R_mono HO518.out (fun _ hk => ⟨hk.1.1.1.2, hk.1.2⟩)⟩, ⟨by (with_reducible repeat (first | apply Kd.R_alloc | apply Kd.R_drewN | apply Kd.R_drew)); exact Kd.R_mono HO522.out (fun _ hk => ⟨hk.1.1.1.2, hk.1.2⟩)⟩, ⟨by (with_reducible repeat (first | apply Kd.R_alloc | apply Kd.R_drewN | apply Kd.R_drew)); exact Kd.R_mono HO530.out (fun _ hk => ⟨hk.1.1.1.2, hk.1.1.2⟩)⟩, ⟨by repeat first | exact HB.out | apply below_alloc | apply pw_below_drewN | apply below_drew1⟩⟩
        ·rw [if_neg c28] at H
         have c28b0 : (t535.toList == t537.toList) = false := beq_eq_false_iff_ne.mpr c28
         have c28b1 : (t535.toList != t537.toList) = true := bne_iff_ne.mpr c28
         exact (no_ HRT H).elim
      ·replace c26 := Bool.eq_false_iff.mpr c26
       subst c26
       rw [if_neg (show ¬ (false = true) by decide)] at H
       exact (no_ HRT H).elim
    ·replace c23 := Bool.eq_false_iff.mpr c23
     subst c23
     rw [if_neg (show ¬ (false = true) by decide)] at H
     exact (no_ HRT H).elim
  case rest => as_aux_lemma =>
   clear HC12
   obtain ⟨kq, x155_11, rfl, HA, HJ11, HO_5, HO_7, HO_11, HB⟩ := hcut
   cases kq with
   | zero => exact absurd HA.out (by simp [laws_FnSievesMoved.j0])
   | succ kj11 =>
    have H := HA.out
    clear HA
    simp only [laws_FnSievesMoved.j0] at H
    by_cases c43 : x155_11 = true
    ·subst c43
     rw [if_pos rfl] at H
     exact (no_ HRT H).elim
    ·replace c43 := Bool.eq_false_iff.mpr c43
     subst c43
     rw [if_neg (show ¬ (false = true) by decide)] at H
     have HC44 := Aside0.mk H
     clear H
     as_aux_lemma =>
     go_upto_if 156 with (fail)
     go_cut [] from 144 to 156 (fun wc => ∃ (kq : Nat), Aside0 (laws_FnSievesMoved.j3 kq l1 = some r) ∧ Aside0 (kq ≤ kj11) ∧ Aside0 (Below w.heap.size w wc))
     case first => as_aux_lemma =>
      have H := HC44.out
      clear HC44
      by_cases c45 : t528 = true
      ·subst c45
       rw [if_pos rfl] at H
       replace H := Option.bind_eq_some_iff.mp H
       obtain ⟨⟨t542, t543⟩, A460, H⟩ := H
       try dsimp only at H
       have A46 := Aside0.mk A460
       clear A460
       replace H := Option.bind_eq_some_iff.mp H
       obtain ⟨⟨t546, t547⟩, A470, H⟩ := H
       try dsimp only at H
       have A47 := Aside0.mk A470
       clear A470
       by_cases c48 : t543 = true
       ·subst c48
        rw [if_pos rfl] at H
        as_aux_lemma =>
        replace H := Option.bind_eq_some_iff.mp H
        obtain ⟨t550, A490, H⟩ := H
        try dsimp only at H
        have A49 := Aside0.mk A490
        clear A490
        by_cases c50 : t550 = true
        ·subst c50
         rw [if_pos rfl] at H
         by_cases c51 : t547 = true
         ·subst c51
          rw [if_pos rfl] at H
          replace H := Option.bind_eq_some_iff.mp H
          obtain ⟨t551, A520, H⟩ := H
          try dsimp only at H
          have A52 := Aside0.mk A520
          clear A520
          by_cases c53 : t551 = true
          ·subst c53
           rw [if_pos rfl] at H
           have H' := Aside0.mk H
           clear H
           obtain ⟨Ao54, co54, eo54⟩ := Kd.R_slice HO_11.out
           subst eo54
           go_wp2_with (first | ((with_reducible refine gate_callee (f := 7) rfl ?_); refine goesL_ (some 159) rfl rfl Tryz.func7 (by kernel_rfl) rfl #[.slice Ao54 t527.length co54] rfl (by (try simp only [List.map_toArray, List.map_cons, List.map_nil]); first | done | rfl) ?_; (with_reducible refine (impl_MirrorRules.calls kj11 _ _ t527 t542 true _ ?side1 ?side2 A46.out).mono ?_); (case side1 => repeat (first | exact (Kd.R_reads' HO_11.out).2.2 | with_reducible first | refine Kd.C_alloc ?_ _ | refine Kd.C_drewN ?_ _ | refine Kd.C_drew ?_)); (case side2 => exact (Kd.R_reads' HO_11.out).2.1); rintro e w55 ⟨v544, rfl, ho0, hb⟩; refine ⟨_, rfl, ?_⟩; have n0_ := Aside0.mk (Kd.R_elder' (by (with_reducible repeat (first | apply Kd.R_alloc | apply Kd.R_drewN | apply Kd.R_drew)); exact HO_5.out) (Kd.R_base ho0) hb); have n1_ := Aside0.mk (Kd.R_elder' (by (with_reducible repeat (first | apply Kd.R_alloc | apply Kd.R_drewN | apply Kd.R_drew)); exact HO_7.out) (Kd.R_base ho0) hb); have n2_ := Aside0.mk (Kd.R_elder' (by (with_reducible repeat (first | apply Kd.R_alloc | apply Kd.R_drewN | apply Kd.R_drew)); exact HO_11.out) (Kd.R_base ho0) hb); have n3_ := Aside0.mk (Kd.R_lower (Kd.R_new' (Kd.R_new' (Kd.R_new' ho0 (Kd.R_lt (by (with_reducible repeat (first | apply Kd.R_alloc | apply Kd.R_drewN | apply Kd.R_drew)); exact HO_5.out))) (Kd.R_lt (by (with_reducible repeat (first | apply Kd.R_alloc | apply Kd.R_drewN | apply Kd.R_drew)); exact HO_7.out))) (Kd.R_lt (by (with_reducible repeat (first | apply Kd.R_alloc | apply Kd.R_drewN | apply Kd.R_drew)); exact HO_11.out))) (below_size (by repeat first | exact HB.out | apply below_alloc | apply pw_below_drewN | apply below_drew1))); have n4_ := Aside0.mk (below_step (by repeat first | exact HB.out | apply below_alloc | apply pw_below_drewN | apply below_drew1) hb); clear HO_5; clear HO_7; clear HO_11; clear HB; have HO_5 := n0_; have HO_7 := n1_; have HO_11 := n2_; have HO545 := n3_; have HB := n4_; clear n0_ n1_ n2_ n3_ n4_) | ((with_reducible refine gate_callee (f := 13) rfl ?_); refine goesL_ (some 164) rfl rfl Tryz.func13 (by kernel_rfl) rfl #[.string t535] rfl (by (try simp only [List.map_toArray, List.map_cons, List.map_nil]); first | done | rfl) ?_; (with_reducible refine (impl_ParseRules.calls kj11 t535 t546 true _ ?glob_ A47.out).mono ?_); (case glob_ => exact GlobP.at_ HG.out (by repeat first | exact HB.out | apply below_alloc | apply pw_below_drewN | apply below_drew1)); rintro e w56 ⟨v548, rfl, ho0, hb⟩; refine ⟨_, rfl, ?_⟩; have n0_ := Aside0.mk (Kd.R_elder' (by (with_reducible repeat (first | apply Kd.R_alloc | apply Kd.R_drewN | apply Kd.R_drew)); exact HO_5.out) (Kd.R_base ho0) hb); have n1_ := Aside0.mk (Kd.R_elder' (by (with_reducible repeat (first | apply Kd.R_alloc | apply Kd.R_drewN | apply Kd.R_drew)); exact HO_7.out) (Kd.R_base ho0) hb); have n2_ := Aside0.mk (Kd.R_elder' (by (with_reducible repeat (first | apply Kd.R_alloc | apply Kd.R_drewN | apply Kd.R_drew)); exact HO_11.out) (Kd.R_base ho0) hb); have n3_ := Aside0.mk (Kd.R_elder' (by (with_reducible repeat (first | apply Kd.R_alloc | apply Kd.R_drewN | apply Kd.R_drew)); exact HO545.out) (Kd.R_base ho0) hb); have n4_ := Aside0.mk (Kd.R_lower (Kd.R_new' (Kd.R_new' (Kd.R_new' (Kd.R_new' ho0 (Kd.R_lt (by (with_reducible repeat (first | apply Kd.R_alloc | apply Kd.R_drewN | apply Kd.R_drew)); exact HO_5.out))) (Kd.R_lt (by (with_reducible repeat (first | apply Kd.R_alloc | apply Kd.R_drewN | apply Kd.R_drew)); exact HO_7.out))) (Kd.R_lt (by (with_reducible repeat (first | apply Kd.R_alloc | apply Kd.R_drewN | apply Kd.R_drew)); exact HO_11.out))) (Kd.R_lt (by (with_reducible repeat (first | apply Kd.R_alloc | apply Kd.R_drewN | apply Kd.R_drew)); exact HO545.out))) (below_size (by repeat first | exact HB.out | apply below_alloc | apply pw_below_drewN | apply below_drew1))); have n5_ := Aside0.mk (below_step (by repeat first | exact HB.out | apply below_alloc | apply pw_below_drewN | apply below_drew1) hb); clear HO_5; clear HO_7; clear HO_11; clear HO545; clear HB; have HO_5 := n0_; have HO_7 := n1_; have HO_11 := n2_; have HO545 := n3_; have HO549 := n4_; have HB := n5_; clear n0_ n1_ n2_ n3_ n4_ n5_; obtain ⟨Ao57, co57, eo57⟩ := Kd.R_slice HO545.out; subst eo57) | (go_at_call 11; (with_reducible refine (laws_tRules.calls kj11 _ _ t542 _ _ t515 true _ ?side1 ?side2 ?side3 ?side4 A49.out).mono ?_); (case side1 => repeat (first | exact (Kd.R_reads' HO545.out).2.2 | with_reducible first | refine Kd.C_alloc ?_ _ | refine Kd.C_drewN ?_ _ | refine Kd.C_drew ?_)); (case side2 => exact (Kd.R_reads' HO545.out).2.1); (case side3 => repeat (first | exact (Kd.R_reads' HO_5.out).2.2 | with_reducible first | refine Kd.C_alloc ?_ _ | refine Kd.C_drewN ?_ _ | refine Kd.C_drew ?_)); (case side4 => exact (Kd.R_reads' HO_5.out).2.1); rintro e w' ⟨rfl, ⟨nd, rfl⟩⟩; obtain ⟨Ao58, co58, eo58⟩ := Kd.R_slice HO549.out; subst eo58) | (go_at_call 11; (with_reducible refine (laws_tRules.calls kj11 _ _ t546 _ _ t515 true _ ?side1 ?side2 ?side3 ?side4 A52.out).mono ?_); (case side1 => repeat (first | exact (Kd.R_reads' HO549.out).2.2 | with_reducible first | refine Kd.C_alloc ?_ _ | refine Kd.C_drewN ?_ _ | refine Kd.C_drew ?_)); (case side2 => exact (Kd.R_reads' HO549.out).2.1); (case side3 => repeat (first | exact (Kd.R_reads' HO_5.out).2.2 | with_reducible first | refine Kd.C_alloc ?_ _ | refine Kd.C_drewN ?_ _ | refine Kd.C_drew ?_)); (case side4 => exact (Kd.R_reads' HO_5.out).2.1); rintro e w' ⟨rfl, ⟨nd, rfl⟩⟩))
           as_aux_lemma =>
           go_loopg [23] kj11 (fun kq v23 w' => ∃ (x23_2 : Int), v23 = .int .i64 x23_2 ∧ Aside0 (laws_FnSievesMoved.l0 kq l1 t515 t516 t519 t520 t527 x23_2 = some r) ∧ Aside0 (kq ≤ kj11) ∧ Aside0 (Kd.R k41 41 w' w.heap.size (fun k_ => some k_ ≠ (v521 : Value).ownBlock ∧ some k_ ≠ ((.slice Ao54 t527.length co54) : Value).ownBlock) (.slice Ao14 t515.length co14) t515) ∧ Aside0 (Kd.R k41 41 w' w.heap.size (fun k_ => some k_ ≠ ((.slice Ao14 t515.length co14) : Value).ownBlock ∧ some k_ ≠ ((.slice Ao54 t527.length co54) : Value).ownBlock) v521 t519) ∧ Aside0 (Kd.R k41 41 w' w.heap.size (fun k_ => some k_ ≠ ((.slice Ao14 t515.length co14) : Value).ownBlock ∧ some k_ ≠ (v521 : Value).ownBlock) (.slice Ao54 t527.length co54) t527) ∧ Aside0 (Below w.heap.size w w'))
           case atStart => exact ⟨((-20)), (by first | rfl | (simp; done) | (simp [*]; done)), H', ⟨Nat.le_refl _⟩, ⟨by (with_reducible repeat (first | apply Kd.R_alloc | apply Kd.R_drewN | apply Kd.R_drew)); exact Kd.R_mono HO_5.out (fun _ hk => ⟨hk.1.1.1, hk.1.1.2⟩)⟩, ⟨by (with_reducible repeat (first | apply Kd.R_alloc | apply Kd.R_drewN | apply Kd.R_drew)); exact Kd.R_mono HO_7.out (fun _ hk => ⟨hk.1.1.1, hk.1.1.2⟩)⟩, ⟨by (with_reducible repeat (first | apply Kd.R_alloc | apply Kd.R_drewN | apply Kd.R_drew)); exact Kd.R_mono HO_11.out (fun _ hk => ⟨hk.1.1.1, hk.1.1.2⟩)⟩, ⟨by repeat first | exact HB.out | apply below_alloc | apply pw_below_drewN | apply below_drew1⟩⟩
           case round => as_aux_lemma =>
            clear H'
            obtain ⟨x23_2, rfl, HA, HK2, HO_5, HO_7, HO_11, HB⟩ := hrel
            cases gk with
            | zero => exact absurd HA.out (by simp [laws_FnSievesMoved.l0])
            | succ k2 =>
             have H := HA.out
             clear HA
             simp only [laws_FnSievesMoved.l0] at H
             by_cases c59 : x23_2 ≤ 20
             ·rw [if_pos c59] at H
              have c59b0 : decide (x23_2 ≤ 20) = true := decide_eq_true c59
              clear c59
              (first | rw [c59b0] | (simp only [i64_w, i32_w]; rw [c59b0]) | skip)
              replace H := Option.bind_eq_some_iff.mp H
              obtain ⟨⟨t552, t553⟩, A600, H⟩ := H
              try dsimp only at H
              have A60 := Aside0.mk A600
              clear A600
              replace H := Option.bind_eq_some_iff.mp H
              obtain ⟨⟨t554, t555⟩, A610, H⟩ := H
              try dsimp only at H
              have A61 := Aside0.mk A610
              clear A610
              by_cases c62 : t553 = true
              ·as_aux_lemma =>
               subst c62
               rw [if_pos rfl] at H
               by_cases c63 : t555 = true
               ·subst c63
                rw [if_pos rfl] at H
                by_cases c64 : (t552 != t554) = true
                ·rw [if_pos c64] at H
                 have c64b0 : (t552 != t554) = true := c64
                 (try (have c64b1 : decide (t552 = t554) = false := by simpa using c64))
                 (try (have c64b2 : (t552 == t554) = false := by simpa using c64))
                 (try (have c64b3 : ¬ (t552 = t554) := by simpa using c64))
                 clear c64
                 exact (no_ HRT H).elim
                ·rw [if_neg c64] at H
                 have c64b0 : (t552 != t554) = false := by simpa using c64
                 (try (have c64b1 : decide (t552 = t554) = true := by simpa using c64))
                 (try (have c64b2 : (t552 == t554) = true := by simpa using c64))
                 clear c64
                 have HC65 := Aside0.mk H
                 clear H
                 as_aux_lemma =>
                 go_upto_region 24 with (first | ((with_reducible refine gate_callee (f := 14) rfl ?_); refine goesL_ (some 192) rfl rfl Tryz.func14 (by kernel_rfl) rfl #[.slice Ao14 t515.length co14, .int .i64 x23_2] rfl (by (try simp only [List.map_toArray, List.map_cons, List.map_nil]); first | done | rfl) ?_; (with_reducible refine (impl_IsLeft.calls _ _ t515 x23_2 t552 true _ ?side1 ?side2 A60.out).mono ?_); (case side1 => repeat (first | exact (Kd.R_reads' HO_5.out).2.2 | with_reducible first | refine Kd.C_alloc ?_ _ | refine Kd.C_drewN ?_ _ | refine Kd.C_drew ?_)); (case side2 => exact (Kd.R_reads' HO_5.out).2.1); rintro e w66 ⟨rfl, hb⟩; refine ⟨_, rfl, ?_⟩; have n0_ := Aside0.mk (Kd.R_below (by (with_reducible repeat (first | apply Kd.R_alloc | apply Kd.R_drewN | apply Kd.R_drew)); exact HO_5.out) hb); have n1_ := Aside0.mk (Kd.R_below (by (with_reducible repeat (first | apply Kd.R_alloc | apply Kd.R_drewN | apply Kd.R_drew)); exact HO_7.out) hb); have n2_ := Aside0.mk (Kd.R_below (by (with_reducible repeat (first | apply Kd.R_alloc | apply Kd.R_drewN | apply Kd.R_drew)); exact HO_11.out) hb); have n3_ := Aside0.mk (below_step (by repeat first | exact HB.out | apply below_alloc | apply pw_below_drewN | apply below_drew1) hb); clear HO_5; clear HO_7; clear HO_11; clear HB; have HO_5 := n0_; have HO_7 := n1_; have HO_11 := n2_; have HB := n3_; clear n0_ n1_ n2_ n3_) | ((with_reducible refine gate_callee (f := 14) rfl ?_); refine goesL_ (some 199) rfl rfl Tryz.func14 (by kernel_rfl) rfl #[.slice Ao54 t527.length co54, .int .i64 (wrap64 (-x23_2))] rfl (by (try simp only [List.map_toArray, List.map_cons, List.map_nil]); first | done | rfl) ?_; (with_reducible refine (impl_IsLeft.calls _ _ t527 (wrap64 (-x23_2)) t554 true _ ?side1 ?side2 A61.out).mono ?_); (case side1 => repeat (first | exact (Kd.R_reads' HO_11.out).2.2 | with_reducible first | refine Kd.C_alloc ?_ _ | refine Kd.C_drewN ?_ _ | refine Kd.C_drew ?_)); (case side2 => exact (Kd.R_reads' HO_11.out).2.1); rintro e w67 ⟨rfl, hb⟩; refine ⟨_, rfl, ?_⟩; have n0_ := Aside0.mk (Kd.R_below (by (with_reducible repeat (first | apply Kd.R_alloc | apply Kd.R_drewN | apply Kd.R_drew)); exact HO_5.out) hb); have n1_ := Aside0.mk (Kd.R_below (by (with_reducible repeat (first | apply Kd.R_alloc | apply Kd.R_drewN | apply Kd.R_drew)); exact HO_7.out) hb); have n2_ := Aside0.mk (Kd.R_below (by (with_reducible repeat (first | apply Kd.R_alloc | apply Kd.R_drewN | apply Kd.R_drew)); exact HO_11.out) hb); have n3_ := Aside0.mk (below_step (by repeat first | exact HB.out | apply below_alloc | apply pw_below_drewN | apply below_drew1) hb); clear HO_5; clear HO_7; clear HO_11; clear HB; have HO_5 := n0_; have HO_7 := n1_; have HO_11 := n2_; have HB := n3_; clear n0_ n1_ n2_ n3_))
                 (try simp only [Act.put, List.setIfInBounds_toArray, List.set_cons_zero, List.set_cons_succ])
                 go_cut [225] from 213 to 225 (fun v225 wc => ∃ (kq : Nat) (x225_64 : Bool), v225 = .bool x225_64 ∧ Aside0 (laws_FnSievesMoved.j2 kq l1 t515 t516 t519 t520 t527 x23_2 t552 x225_64 = some r) ∧ Aside0 (kq ≤ k2) ∧ Aside0 (Kd.R k41 41 wc w.heap.size (fun k_ => some k_ ≠ (v521 : Value).ownBlock ∧ some k_ ≠ ((.slice Ao54 t527.length co54) : Value).ownBlock) (.slice Ao14 t515.length co14) t515) ∧ Aside0 (Kd.R k41 41 wc w.heap.size (fun k_ => some k_ ≠ ((.slice Ao14 t515.length co14) : Value).ownBlock ∧ some k_ ≠ ((.slice Ao54 t527.length co54) : Value).ownBlock) v521 t519) ∧ Aside0 (Kd.R k41 41 wc w.heap.size (fun k_ => some k_ ≠ ((.slice Ao14 t515.length co14) : Value).ownBlock ∧ some k_ ≠ (v521 : Value).ownBlock) (.slice Ao54 t527.length co54) t527) ∧ Aside0 (Below w.heap.size w wc))
                 case first => as_aux_lemma =>
                  have H := HC65.out
                  clear HC65
                  by_cases c68 : t520 = true
                  ·subst c68
                   rw [if_pos rfl] at H
                   by_cases c69 : (wrap64 (x23_2 + t516)) ≥ (-600)
                   ·rw [if_pos c69] at H
                    have c69b0 : decide ((-600) ≤ (wrap64 (x23_2 + t516))) = true := decide_eq_true c69
                    clear c69
                    (first | rw [c69b0] | (simp only [i64_w, i32_w]; rw [c69b0]) | skip)
                    have H' := Aside0.mk H
                    clear H
                    go_wp2
                    refine Met.intro ?_
                    go_step
                    (repeat with_reducible apply ex32_)
                    (repeat apply Exists.intro)
                    refine ⟨?rel, rfl⟩
                    case rel => exact ⟨_, (decide ((wrap64 (x23_2 + t516)) ≤ 600)), (by first | rfl | (simp; done) | (simp [*]; done)), H', ⟨by have := HJ11.out; have := HK2.out; first | omega | exact Nat.le_refl _⟩, ⟨by (with_reducible repeat (first | apply Kd.R_alloc | apply Kd.R_drewN | apply Kd.R_drew)); exact HO_5.out⟩, ⟨by (with_reducible repeat (first | apply Kd.R_alloc | apply Kd.R_drewN | apply Kd.R_drew)); exact HO_7.out⟩, ⟨by (with_reducible repeat (first | apply Kd.R_alloc | apply Kd.R_drewN | apply Kd.R_drew)); exact HO_11.out⟩, ⟨by repeat first | exact HB.out | apply below_alloc | apply pw_below_drewN | apply below_drew1⟩⟩
                   ·rw [if_neg c69] at H
                    have c69b0 : decide ((-600) ≤ (wrap64 (x23_2 + t516))) = false := decide_eq_false c69
                    clear c69
                    (first | rw [c69b0] | (simp only [i64_w, i32_w]; rw [c69b0]) | skip)
                    have H' := Aside0.mk H
                    clear H
                    go_wp2
                    refine Met.intro ?_
                    go_step
                    (repeat with_reducible apply ex32_)
                    (repeat apply Exists.intro)
                    refine ⟨?rel, rfl⟩
                    case rel => exact ⟨_, (false), (by first | rfl | (simp; done) | (simp [*]; done)), H', ⟨by have := HJ11.out; have := HK2.out; first | omega | exact Nat.le_refl _⟩, ⟨by (with_reducible repeat (first | apply Kd.R_alloc | apply Kd.R_drewN | apply Kd.R_drew)); exact HO_5.out⟩, ⟨by (with_reducible repeat (first | apply Kd.R_alloc | apply Kd.R_drewN | apply Kd.R_drew)); exact HO_7.out⟩, ⟨by (with_reducible repeat (first | apply Kd.R_alloc | apply Kd.R_drewN | apply Kd.R_drew)); exact HO_11.out⟩, ⟨by repeat first | exact HB.out | apply below_alloc | apply pw_below_drewN | apply below_drew1⟩⟩
                  ·as_aux_lemma =>
                   replace c68 := Bool.eq_false_iff.mpr c68
                   subst c68
                   rw [if_neg (show ¬ (false = true) by decide)] at H
                   have H' := Aside0.mk H
                   clear H
                   go_wp2
                   refine Met.intro ?_
                   go_step
                   (repeat with_reducible apply ex32_)
                   (repeat apply Exists.intro)
                   refine ⟨?rel, rfl⟩
                   case rel => exact ⟨_, (false), (by first | rfl | (simp; done) | (simp [*]; done)), H', ⟨by have := HJ11.out; have := HK2.out; first | omega | exact Nat.le_refl _⟩, ⟨by (with_reducible repeat (first | apply Kd.R_alloc | apply Kd.R_drewN | apply Kd.R_drew)); exact HO_5.out⟩, ⟨by (with_reducible repeat (first | apply Kd.R_alloc | apply Kd.R_drewN | apply Kd.R_drew)); exact HO_7.out⟩, ⟨by (with_reducible repeat (first | apply Kd.R_alloc | apply Kd.R_drewN | apply Kd.R_drew)); exact HO_11.out⟩, ⟨by repeat first | exact HB.out | apply below_alloc | apply pw_below_drewN | apply below_drew1⟩⟩
                 case rest => as_aux_lemma =>
                  clear HC65
                  obtain ⟨kq, x225_64, rfl, HA, HJ64, HO_5, HO_7, HO_11, HB⟩ := hcut
                  cases kq with
                  | zero => exact absurd HA.out (by simp [laws_FnSievesMoved.j2])
                  | succ kj64 =>
                   have H := HA.out
                   clear HA
                   simp only [laws_FnSievesMoved.j2] at H
                   by_cases c70 : x225_64 = true
                   ·subst c70
                    rw [if_pos rfl] at H
                    replace H := Option.bind_eq_some_iff.mp H
                    obtain ⟨⟨t556, t557⟩, A710, H⟩ := H
                    try dsimp only at H
                    have A71 := Aside0.mk A710
                    clear A710
                    by_cases c72 : t557 = true
                    ·subst c72
                     rw [if_pos rfl] at H
                     by_cases c73 : (t556 != t552) = true
                     ·rw [if_pos c73] at H
                      have c73b0 : (t556 != t552) = true := c73
                      (try (have c73b1 : decide (t556 = t552) = false := by simpa using c73))
                      (try (have c73b2 : (t556 == t552) = false := by simpa using c73))
                      (try (have c73b3 : ¬ (t556 = t552) := by simpa using c73))
                      clear c73
                      exact (no_ HRT H).elim
                     ·as_aux_lemma =>
                      rw [if_neg c73] at H
                      have c73b0 : (t556 != t552) = false := by simpa using c73
                      (try (have c73b1 : decide (t556 = t552) = true := by simpa using c73))
                      (try (have c73b2 : (t556 == t552) = true := by simpa using c73))
                      clear c73
                      have H' := Aside0.mk H
                      clear H
                      obtain ⟨Ao74, co74, eo74⟩ := Kd.R_slice HO_7.out
                      subst eo74
                      go_wp2_with (first | ((with_reducible refine gate_callee (f := 14) rfl ?_); refine goesL_ (some 231) rfl rfl Tryz.func14 (by kernel_rfl) rfl #[.slice Ao74 t519.length co74, .int .i64 (wrap64 (x23_2 + t516))] rfl (by (try simp only [List.map_toArray, List.map_cons, List.map_nil]); first | done | rfl) ?_; (with_reducible refine (impl_IsLeft.calls _ _ t519 (wrap64 (x23_2 + t516)) t556 true _ ?side1 ?side2 A71.out).mono ?_); (case side1 => repeat (first | exact (Kd.R_reads' HO_7.out).2.2 | with_reducible first | refine Kd.C_alloc ?_ _ | refine Kd.C_drewN ?_ _ | refine Kd.C_drew ?_)); (case side2 => exact (Kd.R_reads' HO_7.out).2.1); rintro e w75 ⟨rfl, hb⟩; refine ⟨_, rfl, ?_⟩; have n0_ := Aside0.mk (Kd.R_below (by (with_reducible repeat (first | apply Kd.R_alloc | apply Kd.R_drewN | apply Kd.R_drew)); exact HO_5.out) hb); have n1_ := Aside0.mk (Kd.R_below (by (with_reducible repeat (first | apply Kd.R_alloc | apply Kd.R_drewN | apply Kd.R_drew)); exact HO_7.out) hb); have n2_ := Aside0.mk (Kd.R_below (by (with_reducible repeat (first | apply Kd.R_alloc | apply Kd.R_drewN | apply Kd.R_drew)); exact HO_11.out) hb); have n3_ := Aside0.mk (below_step (by repeat first | exact HB.out | apply below_alloc | apply pw_below_drewN | apply below_drew1) hb); clear HO_5; clear HO_7; clear HO_11; clear HB; have HO_5 := n0_; have HO_7 := n1_; have HO_11 := n2_; have HB := n3_; clear n0_ n1_ n2_ n3_))
                      refine Handed.intro kj64 ?measure ?_
                      rotate_left
                      go_step
                      (repeat with_reducible apply ex32_)
                      (repeat apply Exists.intro)
                      refine ⟨?rel, rfl⟩
                      case measure => have := HJ11.out; have := HK2.out; have := HJ64.out; omega
                      case rel => exact ⟨(wrap64 (x23_2 + 1)), (by first | rfl | (simp; done) | (simp [*]; done)), H', ⟨by have := HJ11.out; have := HK2.out; have := HJ64.out; omega⟩, ⟨by (with_reducible repeat (first | apply Kd.R_alloc | apply Kd.R_drewN | apply Kd.R_drew)); exact HO_5.out⟩, ⟨by (with_reducible repeat (first | apply Kd.R_alloc | apply Kd.R_drewN | apply Kd.R_drew)); exact HO_7.out⟩, ⟨by (with_reducible repeat (first | apply Kd.R_alloc | apply Kd.R_drewN | apply Kd.R_drew)); exact HO_11.out⟩, ⟨by repeat first | exact HB.out | apply below_alloc | apply pw_below_drewN | apply below_drew1⟩⟩
                    ·replace c72 := Bool.eq_false_iff.mpr c72
                     subst c72
                     rw [if_neg (show ¬ (false = true) by decide)] at H
                     exact (no_ HRT H).elim
                   ·as_aux_lemma =>
                    replace c70 := Bool.eq_false_iff.mpr c70
                    subst c70
                    rw [if_neg (show ¬ (false = true) by decide)] at H
                    have H' := Aside0.mk H
                    clear H
                    go_wp2
                    refine Handed.intro kj64 ?measure ?_
                    rotate_left
                    go_step
                    (repeat with_reducible apply ex32_)
                    (repeat apply Exists.intro)
                    refine ⟨?rel, rfl⟩
                    case measure => have := HJ11.out; have := HK2.out; have := HJ64.out; omega
                    case rel => exact ⟨(wrap64 (x23_2 + 1)), (by first | rfl | (simp; done) | (simp [*]; done)), H', ⟨by have := HJ11.out; have := HK2.out; have := HJ64.out; omega⟩, ⟨by (with_reducible repeat (first | apply Kd.R_alloc | apply Kd.R_drewN | apply Kd.R_drew)); exact HO_5.out⟩, ⟨by (with_reducible repeat (first | apply Kd.R_alloc | apply Kd.R_drewN | apply Kd.R_drew)); exact HO_7.out⟩, ⟨by (with_reducible repeat (first | apply Kd.R_alloc | apply Kd.R_drewN | apply Kd.R_drew)); exact HO_11.out⟩, ⟨by repeat first | exact HB.out | apply below_alloc | apply pw_below_drewN | apply below_drew1⟩⟩
               ·replace c63 := Bool.eq_false_iff.mpr c63
                subst c63
                rw [if_neg (show ¬ (false = true) by decide)] at H
                exact (no_ HRT H).elim
              ·replace c62 := Bool.eq_false_iff.mpr c62
               subst c62
               rw [if_neg (show ¬ (false = true) by decide)] at H
               exact (no_ HRT H).elim
             ·rw [if_neg c59] at H
              have c59b0 : decide (x23_2 ≤ 20) = false := decide_eq_false c59
              clear c59
              (first | rw [c59b0] | (simp only [i64_w, i32_w]; rw [c59b0]) | skip)
              have H' := Aside0.mk H
              clear H
              go_wp2
              refine Met.intro ?_
              go_step
              (repeat with_reducible apply ex32_)
              (repeat apply Exists.intro)
              refine ⟨?rel, rfl⟩
              case rel => exact ⟨_, H', ⟨by have := HJ11.out; have := HK2.out; first | omega | exact Nat.le_refl _⟩, ⟨by repeat first | exact HB.out | apply below_alloc | apply pw_below_drewN | apply below_drew1⟩⟩
          ·replace c53 := Bool.eq_false_iff.mpr c53
           subst c53
           rw [if_neg (show ¬ (false = true) by decide)] at H
           exact (no_ HRT H).elim
         ·replace c51 := Bool.eq_false_iff.mpr c51
          subst c51
          rw [if_neg (show ¬ (false = true) by decide)] at H
          exact (no_ HRT H).elim
        ·replace c50 := Bool.eq_false_iff.mpr c50
         subst c50
         rw [if_neg (show ¬ (false = true) by decide)] at H
         exact (no_ HRT H).elim
       ·replace c48 := Bool.eq_false_iff.mpr c48
        subst c48
        rw [if_neg (show ¬ (false = true) by decide)] at H
        exact (no_ HRT H).elim
      ·as_aux_lemma =>
       replace c45 := Bool.eq_false_iff.mpr c45
       subst c45
       rw [if_neg (show ¬ (false = true) by decide)] at H
       have H' := Aside0.mk H
       clear H
       go_wp2
       refine Met.intro ?_
       go_step
       (repeat with_reducible apply ex32_)
       (repeat apply Exists.intro)
       refine ⟨?rel, rfl⟩
       case rel => exact ⟨_, H', ⟨by have := HJ11.out; first | omega | exact Nat.le_refl _⟩, ⟨by repeat first | exact HB.out | apply below_alloc | apply pw_below_drewN | apply below_drew1⟩⟩
     case rest => as_aux_lemma =>
      clear HC44
      obtain ⟨kq, HA, HJ43, HB⟩ := hcut
      cases kq with
      | zero => exact absurd HA.out (by simp [laws_FnSievesMoved.j3])
      | succ kj43 =>
       have H := HA.out
       clear HA
       simp only [laws_FnSievesMoved.j3] at H
       replace H := Option.bind_eq_some_iff.mp H
       obtain ⟨t558, A760, H⟩ := H
       try dsimp only at H
       have A76 := Aside0.mk A760
       clear A760
       replace H := Option.bind_eq_some_iff.mp H
       obtain ⟨⟨t561, t562⟩, A770, H⟩ := H
       try dsimp only at H
       have A77 := Aside0.mk A770
       clear A770
       replace H := Option.bind_eq_some_iff.mp H
       obtain ⟨⟨t565, t566⟩, A780, H⟩ := H
       try dsimp only at H
       have A78 := Aside0.mk A780
       clear A780
       replace H := Option.bind_eq_some_iff.mp H
       obtain ⟨⟨t569, t570⟩, A790, H⟩ := H
       try dsimp only at H
       have A79 := Aside0.mk A790
       clear A790
       as_aux_lemma =>
       replace H := Option.bind_eq_some_iff.mp H
       obtain ⟨⟨t573, t574⟩, A800, H⟩ := H
       try dsimp only at H
       have A80 := Aside0.mk A800
       clear A800
       replace H := Option.bind_eq_some_iff.mp H
       obtain ⟨⟨t577, t578⟩, A810, H⟩ := H
       try dsimp only at H
       have A81 := Aside0.mk A810
       clear A810
       replace H := Option.bind_eq_some_iff.mp H
       obtain ⟨⟨t579, t580⟩, A820, H⟩ := H
       try dsimp only at H
       have A82 := Aside0.mk A820
       clear A820
       replace H := Option.bind_eq_some_iff.mp H
       obtain ⟨⟨t581, t582⟩, A830, H⟩ := H
       try dsimp only at H
       have A83 := Aside0.mk A830
       clear A830
       replace H := Option.bind_eq_some_iff.mp H
       obtain ⟨⟨t583, t584⟩, A840, H⟩ := H
       try dsimp only at H
       have A84 := Aside0.mk A840
       clear A840
       by_cases c85 : (t562 != t566) = true
       ·rw [if_pos c85] at H
        have c85b0 : (t562 != t566) = true := c85
        (try (have c85b1 : decide (t562 = t566) = false := by simpa using c85))
        (try (have c85b2 : (t562 == t566) = false := by simpa using c85))
        (try (have c85b3 : ¬ (t562 = t566) := by simpa using c85))
        clear c85
        exact (no_ HRT H).elim
       ·as_aux_lemma =>
        rw [if_neg c85] at H
        have c85b0 : (t562 != t566) = false := by simpa using c85
        (try (have c85b1 : decide (t562 = t566) = true := by simpa using c85))
        (try (have c85b2 : (t562 == t566) = true := by simpa using c85))
        clear c85
        replace H := Option.bind_eq_some_iff.mp H
        obtain ⟨t585, A860, H⟩ := H
        try dsimp only at H
        have A86 := Aside0.mk A860
        clear A860
        by_cases c87 : t585 = true
        ·subst c87
         rw [if_pos rfl] at H
         by_cases c88 : (t570 != t574) = true
         ·rw [if_pos c88] at H
          have c88b0 : (t570 != t574) = true := c88
          (try (have c88b1 : decide (t570 = t574) = false := by simpa using c88))
          (try (have c88b2 : (t570 == t574) = false := by simpa using c88))
          (try (have c88b3 : ¬ (t570 = t574) := by simpa using c88))
          clear c88
          exact (no_ HRT H).elim
         ·rw [if_neg c88] at H
          have c88b0 : (t570 != t574) = false := by simpa using c88
          (try (have c88b1 : decide (t570 = t574) = true := by simpa using c88))
          (try (have c88b2 : (t570 == t574) = true := by simpa using c88))
          clear c88
          as_aux_lemma =>
          replace H := Option.bind_eq_some_iff.mp H
          obtain ⟨t586, A890, H⟩ := H
          try dsimp only at H
          have A89 := Aside0.mk A890
          clear A890
          by_cases c90 : t586 = true
          ·subst c90
           rw [if_pos rfl] at H
           by_cases c91 : (t578 != t580) = true
           ·rw [if_pos c91] at H
            have c91b0 : (t578 != t580) = true := c91
            (try (have c91b1 : decide (t578 = t580) = false := by simpa using c91))
            (try (have c91b2 : (t578 == t580) = false := by simpa using c91))
            (try (have c91b3 : ¬ (t578 = t580) := by simpa using c91))
            clear c91
            exact (no_ HRT H).elim
           ·rw [if_neg c91] at H
            have c91b0 : (t578 != t580) = false := by simpa using c91
            (try (have c91b1 : decide (t578 = t580) = true := by simpa using c91))
            (try (have c91b2 : (t578 == t580) = true := by simpa using c91))
            clear c91
            by_cases c92 : t577 = t579
            ·as_aux_lemma =>
             rw [if_pos c92] at H
             have c92b0 : (t577 == t579) = true := beq_iff_eq.mpr c92
             have c92b1 : (t577 != t579) = false := bne_eq_false_iff_eq.mpr c92
             clear c92
             by_cases c93 : (t582 != t584) = true
             ·rw [if_pos c93] at H
              have c93b0 : (t582 != t584) = true := c93
              (try (have c93b1 : decide (t582 = t584) = false := by simpa using c93))
              (try (have c93b2 : (t582 == t584) = false := by simpa using c93))
              (try (have c93b3 : ¬ (t582 = t584) := by simpa using c93))
              clear c93
              exact (no_ HRT H).elim
             ·rw [if_neg c93] at H
              have c93b0 : (t582 != t584) = false := by simpa using c93
              (try (have c93b1 : decide (t582 = t584) = true := by simpa using c93))
              (try (have c93b2 : (t582 == t584) = true := by simpa using c93))
              clear c93
              by_cases c94 : t581 = t583
              ·rw [if_pos c94] at H
               have c94b0 : (t581 == t583) = true := beq_iff_eq.mpr c94
               have c94b1 : (t581 != t583) = false := bne_eq_false_iff_eq.mpr c94
               clear c94
               by_cases c95 : (t562 != t578) = true
               ·rw [if_pos c95] at H
                have c95b0 : (t562 != t578) = true := c95
                (try (have c95b1 : decide (t562 = t578) = false := by simpa using c95))
                (try (have c95b2 : (t562 == t578) = false := by simpa using c95))
                (try (have c95b3 : ¬ (t562 = t578) := by simpa using c95))
                clear c95
                exact (no_ HRT H).elim
               ·as_aux_lemma =>
                rw [if_neg c95] at H
                have c95b0 : (t562 != t578) = false := by simpa using c95
                (try (have c95b1 : decide (t562 = t578) = true := by simpa using c95))
                (try (have c95b2 : (t562 == t578) = true := by simpa using c95))
                clear c95
                by_cases c96 : (t570 != t578) = true
                ·rw [if_pos c96] at H
                 have c96b0 : (t570 != t578) = true := c96
                 (try (have c96b1 : decide (t570 = t578) = false := by simpa using c96))
                 (try (have c96b2 : (t570 == t578) = false := by simpa using c96))
                 (try (have c96b3 : ¬ (t570 = t578) := by simpa using c96))
                 clear c96
                 exact (no_ HRT H).elim
                ·rw [if_neg c96] at H
                 have c96b0 : (t570 != t578) = false := by simpa using c96
                 (try (have c96b1 : decide (t570 = t578) = true := by simpa using c96))
                 (try (have c96b2 : (t570 == t578) = true := by simpa using c96))
                 clear c96
                 by_cases c97 : (t582 != t578) = true
                 ·rw [if_pos c97] at H
                  have c97b0 : (t582 != t578) = true := c97
                  (try (have c97b1 : decide (t582 = t578) = false := by simpa using c97))
                  (try (have c97b2 : (t582 == t578) = false := by simpa using c97))
                  (try (have c97b3 : ¬ (t582 = t578) := by simpa using c97))
                  clear c97
                  exact (no_ HRT H).elim
                 ·as_aux_lemma =>
                  rw [if_neg c97] at H
                  have c97b0 : (t582 != t578) = false := by simpa using c97
                  (try (have c97b1 : decide (t582 = t578) = true := by simpa using c97))
                  (try (have c97b2 : (t582 == t578) = true := by simpa using c97))
                  clear c97
                  have HC98 := Aside0.mk H
                  clear H
                  as_aux_lemma =>
                  go_upto_region 31 with (first | ((with_reducible refine gate_callee (f := 30) rfl ?_); refine goesL_ (some 242) rfl rfl Tryz.func30 (by kernel_rfl) rfl #[.slice A1 l1.length c1] rfl (by (try simp only [List.map_toArray, List.map_cons, List.map_nil]); first | done | rfl) ?_; (with_reducible refine (spec_DrawDropNeedless.calls kj43 _ _ l1 t558 _ ?side1 ?side2 A76.out).mono ?_); (case side1 => repeat (first | exact (Kd.C_below HR1.out HB.out) | with_reducible first | refine Kd.C_alloc ?_ _ | refine Kd.C_drewN ?_ _ | refine Kd.C_drew ?_)); (case side2 => exact HC1.out); rintro e w99 ⟨v559, rfl, ho0, hb⟩; refine ⟨_, rfl, ?_⟩; have n0_ := Aside0.mk (Kd.R_lower ho0 (below_size (by repeat first | exact HB.out | apply below_alloc | apply pw_below_drewN | apply below_drew1))); have n1_ := Aside0.mk (below_step (by repeat first | exact HB.out | apply below_alloc | apply pw_below_drewN | apply below_drew1) hb); clear HB; have HO560 := n0_; have HB := n1_; clear n0_ n1_; obtain ⟨Ao100, co100, eo100⟩ := Kd.R_slice HO560.out; subst eo100) | ((with_reducible refine gate_callee (f := 15) rfl ?_); refine goesL_ (some 245) rfl rfl Tryz.func15 (by kernel_rfl) rfl #[.slice Ao100 t558.length co100] rfl (by (try simp only [List.map_toArray, List.map_cons, List.map_nil]); first | done | rfl) ?_; (with_reducible refine (impl_DropNeedless.calls kj43 _ _ t558 t561 t562 _ ?side1 ?side2 A77.out).mono ?_); (case side1 => repeat (first | exact (Kd.R_reads' HO560.out).2.2 | with_reducible first | refine Kd.C_alloc ?_ _ | refine Kd.C_drewN ?_ _ | refine Kd.C_drew ?_)); (case side2 => exact (Kd.R_reads' HO560.out).2.1); rintro e w101 ⟨v563, rfl, ho0, hb⟩; refine ⟨_, rfl, ?_⟩; have n0_ := Aside0.mk (Kd.R_elder' (by (with_reducible repeat (first | apply Kd.R_alloc | apply Kd.R_drewN | apply Kd.R_drew)); exact HO560.out) (Kd.R_base ho0) hb); have n1_ := Aside0.mk (Kd.R_lower (Kd.R_new' ho0 (Kd.R_lt (by (with_reducible repeat (first | apply Kd.R_alloc | apply Kd.R_drewN | apply Kd.R_drew)); exact HO560.out))) (below_size (by repeat first | exact HB.out | apply below_alloc | apply pw_below_drewN | apply below_drew1))); have n2_ := Aside0.mk (below_step (by repeat first | exact HB.out | apply below_alloc | apply pw_below_drewN | apply below_drew1) hb); clear HO560; clear HB; have HO560 := n0_; have HO564 := n1_; have HB := n2_; clear n0_ n1_ n2_) | ((with_reducible refine gate_callee (f := 16) rfl ?_); refine goesL_ (some 250) rfl rfl Tryz.func16 (by kernel_rfl) rfl #[.slice Ao100 t558.length co100] rfl (by (try simp only [List.map_toArray, List.map_cons, List.map_nil]); first | done | rfl) ?_; (with_reducible refine (spec_DropNeedless.calls kj43 _ _ t558 t565 t566 _ ?side1 ?side2 A78.out).mono ?_); (case side1 => repeat (first | exact (Kd.R_reads' HO560.out).2.2 | with_reducible first | refine Kd.C_alloc ?_ _ | refine Kd.C_drewN ?_ _ | refine Kd.C_drew ?_)); (case side2 => exact (Kd.R_reads' HO560.out).2.1); rintro e w102 ⟨v567, rfl, ho0, hb⟩; refine ⟨_, rfl, ?_⟩; have n0_ := Aside0.mk (Kd.R_elder' (by (with_reducible repeat (first | apply Kd.R_alloc | apply Kd.R_drewN | apply Kd.R_drew)); exact HO560.out) (Kd.R_base ho0) hb); have n1_ := Aside0.mk (Kd.R_elder' (by (with_reducible repeat (first | apply Kd.R_alloc | apply Kd.R_drewN | apply Kd.R_drew)); exact HO564.out) (Kd.R_base ho0) hb); have n2_ := Aside0.mk (Kd.R_lower (Kd.R_new' (Kd.R_new' ho0 (Kd.R_lt (by (with_reducible repeat (first | apply Kd.R_alloc | apply Kd.R_drewN | apply Kd.R_drew)); exact HO560.out))) (Kd.R_lt (by (with_reducible repeat (first | apply Kd.R_alloc | apply Kd.R_drewN | apply Kd.R_drew)); exact HO564.out))) (below_size (by repeat first | exact HB.out | apply below_alloc | apply pw_below_drewN | apply below_drew1))); have n3_ := Aside0.mk (below_step (by repeat first | exact HB.out | apply below_alloc | apply pw_below_drewN | apply below_drew1) hb); clear HO560; clear HO564; clear HB; have HO560 := n0_; have HO564 := n1_; have HO568 := n2_; have HB := n3_; clear n0_ n1_ n2_ n3_))
                  (try simp only [Act.put, List.setIfInBounds_toArray, List.set_cons_zero, List.set_cons_succ])
                  as_aux_lemma =>
                  go_upto_region 34 with (first | ((with_reducible refine gate_callee (f := 17) rfl ?_); refine goesL_ (some 255) rfl rfl Tryz.func17 (by kernel_rfl) rfl #[.slice Ao100 t558.length co100] rfl (by (try simp only [List.map_toArray, List.map_cons, List.map_nil]); first | done | rfl) ?_; (with_reducible refine (impl_NeedlessRules.calls kj43 _ _ t558 t569 t570 _ ?side1 ?side2 A79.out).mono ?_); (case side1 => repeat (first | exact (Kd.R_reads' HO560.out).2.2 | with_reducible first | refine Kd.C_alloc ?_ _ | refine Kd.C_drewN ?_ _ | refine Kd.C_drew ?_)); (case side2 => exact (Kd.R_reads' HO560.out).2.1); rintro e w103 ⟨v571, rfl, ho0, hb⟩; refine ⟨_, rfl, ?_⟩; have n0_ := Aside0.mk (Kd.R_below (by (with_reducible repeat (first | apply Kd.R_alloc | apply Kd.R_drewN | apply Kd.R_drew)); exact HO560.out) hb); have n1_ := Aside0.mk (Kd.R_below (by (with_reducible repeat (first | apply Kd.R_alloc | apply Kd.R_drewN | apply Kd.R_drew)); exact HO564.out) hb); have n2_ := Aside0.mk (Kd.R_below (by (with_reducible repeat (first | apply Kd.R_alloc | apply Kd.R_drewN | apply Kd.R_drew)); exact HO568.out) hb); have n3_ := Aside0.mk (Kd.R_lower ho0 (below_size (by repeat first | exact HB.out | apply below_alloc | apply pw_below_drewN | apply below_drew1))); have n4_ := Aside0.mk (below_step (by repeat first | exact HB.out | apply below_alloc | apply pw_below_drewN | apply below_drew1) hb); clear HO560; clear HO564; clear HO568; clear HB; have HO560 := n0_; have HO564 := n1_; have HO568 := n2_; have HO572 := n3_; have HB := n4_; clear n0_ n1_ n2_ n3_ n4_) | ((with_reducible refine gate_callee (f := 18) rfl ?_); refine goesL_ (some 260) rfl rfl Tryz.func18 (by kernel_rfl) rfl #[.slice Ao100 t558.length co100] rfl (by (try simp only [List.map_toArray, List.map_cons, List.map_nil]); first | done | rfl) ?_; (with_reducible refine (spec_NeedlessRules.calls kj43 _ _ t558 t573 t574 _ ?side1 ?side2 A80.out).mono ?_); (case side1 => repeat (first | exact (Kd.R_reads' HO560.out).2.2 | with_reducible first | refine Kd.C_alloc ?_ _ | refine Kd.C_drewN ?_ _ | refine Kd.C_drew ?_)); (case side2 => exact (Kd.R_reads' HO560.out).2.1); rintro e w104 ⟨v575, rfl, ho0, hb⟩; refine ⟨_, rfl, ?_⟩; have n0_ := Aside0.mk (Kd.R_below (by (with_reducible repeat (first | apply Kd.R_alloc | apply Kd.R_drewN | apply Kd.R_drew)); exact HO560.out) hb); have n1_ := Aside0.mk (Kd.R_below (by (with_reducible repeat (first | apply Kd.R_alloc | apply Kd.R_drewN | apply Kd.R_drew)); exact HO564.out) hb); have n2_ := Aside0.mk (Kd.R_below (by (with_reducible repeat (first | apply Kd.R_alloc | apply Kd.R_drewN | apply Kd.R_drew)); exact HO568.out) hb); have n3_ := Aside0.mk (Kd.R_elder' (by (with_reducible repeat (first | apply Kd.R_alloc | apply Kd.R_drewN | apply Kd.R_drew)); exact HO572.out) (Kd.R_base ho0) hb); have n4_ := Aside0.mk (Kd.R_lower (Kd.R_new' ho0 (Kd.R_lt (by (with_reducible repeat (first | apply Kd.R_alloc | apply Kd.R_drewN | apply Kd.R_drew)); exact HO572.out))) (below_size (by repeat first | exact HB.out | apply below_alloc | apply pw_below_drewN | apply below_drew1))); have n5_ := Aside0.mk (below_step (by repeat first | exact HB.out | apply below_alloc | apply pw_below_drewN | apply below_drew1) hb); clear HO560; clear HO564; clear HO568; clear HO572; clear HB; have HO560 := n0_; have HO564 := n1_; have HO568 := n2_; have HO572 := n3_; have HO576 := n4_; have HB := n5_; clear n0_ n1_ n2_ n3_ n4_ n5_) | ((with_reducible refine gate_callee (f := 19) rfl ?_); refine goesL_ (some 265) rfl rfl Tryz.func19 (by kernel_rfl) rfl #[.slice Ao100 t558.length co100] rfl (by (try simp only [List.map_toArray, List.map_cons, List.map_nil]); first | done | rfl) ?_; (with_reducible refine (impl_PeriodOfRules.calls kj43 _ _ t558 t577 t578 _ ?side1 ?side2 A81.out).mono ?_); (case side1 => repeat (first | exact (Kd.R_reads' HO560.out).2.2 | with_reducible first | refine Kd.C_alloc ?_ _ | refine Kd.C_drewN ?_ _ | refine Kd.C_drew ?_)); (case side2 => exact (Kd.R_reads' HO560.out).2.1); rintro e w105 ⟨rfl, hb⟩; refine ⟨_, rfl, ?_⟩; have n0_ := Aside0.mk (Kd.R_below (by (with_reducible repeat (first | apply Kd.R_alloc | apply Kd.R_drewN | apply Kd.R_drew)); exact HO560.out) hb); have n1_ := Aside0.mk (Kd.R_below (by (with_reducible repeat (first | apply Kd.R_alloc | apply Kd.R_drewN | apply Kd.R_drew)); exact HO564.out) hb); have n2_ := Aside0.mk (Kd.R_below (by (with_reducible repeat (first | apply Kd.R_alloc | apply Kd.R_drewN | apply Kd.R_drew)); exact HO568.out) hb); have n3_ := Aside0.mk (Kd.R_below (by (with_reducible repeat (first | apply Kd.R_alloc | apply Kd.R_drewN | apply Kd.R_drew)); exact HO572.out) hb); have n4_ := Aside0.mk (Kd.R_below (by (with_reducible repeat (first | apply Kd.R_alloc | apply Kd.R_drewN | apply Kd.R_drew)); exact HO576.out) hb); have n5_ := Aside0.mk (below_step (by repeat first | exact HB.out | apply below_alloc | apply pw_below_drewN | apply below_drew1) hb); clear HO560; clear HO564; clear HO568; clear HO572; clear HO576; clear HB; have HO560 := n0_; have HO564 := n1_; have HO568 := n2_; have HO572 := n3_; have HO576 := n4_; have HB := n5_; clear n0_ n1_ n2_ n3_ n4_ n5_))
                  (try simp only [Act.put, List.setIfInBounds_toArray, List.set_cons_zero, List.set_cons_succ])
                  as_aux_lemma =>
                  go_upto_region 37 with (first | ((with_reducible refine gate_callee (f := 20) rfl ?_); refine goesL_ (some 270) rfl rfl Tryz.func20 (by kernel_rfl) rfl #[.slice Ao100 t558.length co100] rfl (by (try simp only [List.map_toArray, List.map_cons, List.map_nil]); first | done | rfl) ?_; (with_reducible refine (spec_PeriodOfRules.calls kj43 _ _ t558 t579 t580 _ ?side1 ?side2 A82.out).mono ?_); (case side1 => repeat (first | exact (Kd.R_reads' HO560.out).2.2 | with_reducible first | refine Kd.C_alloc ?_ _ | refine Kd.C_drewN ?_ _ | refine Kd.C_drew ?_)); (case side2 => exact (Kd.R_reads' HO560.out).2.1); rintro e w106 ⟨rfl, hb⟩; refine ⟨_, rfl, ?_⟩; have n0_ := Aside0.mk (Kd.R_below (by (with_reducible repeat (first | apply Kd.R_alloc | apply Kd.R_drewN | apply Kd.R_drew)); exact HO560.out) hb); have n1_ := Aside0.mk (Kd.R_below (by (with_reducible repeat (first | apply Kd.R_alloc | apply Kd.R_drewN | apply Kd.R_drew)); exact HO564.out) hb); have n2_ := Aside0.mk (Kd.R_below (by (with_reducible repeat (first | apply Kd.R_alloc | apply Kd.R_drewN | apply Kd.R_drew)); exact HO568.out) hb); have n3_ := Aside0.mk (Kd.R_below (by (with_reducible repeat (first | apply Kd.R_alloc | apply Kd.R_drewN | apply Kd.R_drew)); exact HO572.out) hb); have n4_ := Aside0.mk (Kd.R_below (by (with_reducible repeat (first | apply Kd.R_alloc | apply Kd.R_drewN | apply Kd.R_drew)); exact HO576.out) hb); have n5_ := Aside0.mk (below_step (by repeat first | exact HB.out | apply below_alloc | apply pw_below_drewN | apply below_drew1) hb); clear HO560; clear HO564; clear HO568; clear HO572; clear HO576; clear HB; have HO560 := n0_; have HO564 := n1_; have HO568 := n2_; have HO572 := n3_; have HO576 := n4_; have HB := n5_; clear n0_ n1_ n2_ n3_ n4_ n5_) | ((with_reducible refine gate_callee (f := 21) rfl ?_); refine goesL_ (some 275) rfl rfl Tryz.func21 (by kernel_rfl) rfl #[.slice Ao100 t558.length co100] rfl (by (try simp only [List.map_toArray, List.map_cons, List.map_nil]); first | done | rfl) ?_; (with_reducible refine (impl_LeftInPeriod.calls kj43 _ _ t558 t581 t582 _ ?side1 ?side2 A83.out).mono ?_); (case side1 => repeat (first | exact (Kd.R_reads' HO560.out).2.2 | with_reducible first | refine Kd.C_alloc ?_ _ | refine Kd.C_drewN ?_ _ | refine Kd.C_drew ?_)); (case side2 => exact (Kd.R_reads' HO560.out).2.1); rintro e w107 ⟨rfl, hb⟩; refine ⟨_, rfl, ?_⟩; have n0_ := Aside0.mk (Kd.R_below (by (with_reducible repeat (first | apply Kd.R_alloc | apply Kd.R_drewN | apply Kd.R_drew)); exact HO560.out) hb); have n1_ := Aside0.mk (Kd.R_below (by (with_reducible repeat (first | apply Kd.R_alloc | apply Kd.R_drewN | apply Kd.R_drew)); exact HO564.out) hb); have n2_ := Aside0.mk (Kd.R_below (by (with_reducible repeat (first | apply Kd.R_alloc | apply Kd.R_drewN | apply Kd.R_drew)); exact HO568.out) hb); have n3_ := Aside0.mk (Kd.R_below (by (with_reducible repeat (first | apply Kd.R_alloc | apply Kd.R_drewN | apply Kd.R_drew)); exact HO572.out) hb); have n4_ := Aside0.mk (Kd.R_below (by (with_reducible repeat (first | apply Kd.R_alloc | apply Kd.R_drewN | apply Kd.R_drew)); exact HO576.out) hb); have n5_ := Aside0.mk (below_step (by repeat first | exact HB.out | apply below_alloc | apply pw_below_drewN | apply below_drew1) hb); clear HO560; clear HO564; clear HO568; clear HO572; clear HO576; clear HB; have HO560 := n0_; have HO564 := n1_; have HO568 := n2_; have HO572 := n3_; have HO576 := n4_; have HB := n5_; clear n0_ n1_ n2_ n3_ n4_ n5_) | ((with_reducible refine gate_callee (f := 22) rfl ?_); refine goesL_ (some 280) rfl rfl Tryz.func22 (by kernel_rfl) rfl #[.slice Ao100 t558.length co100] rfl (by (try simp only [List.map_toArray, List.map_cons, List.map_nil]); first | done | rfl) ?_; (with_reducible refine (spec_LeftInPeriod.calls kj43 _ _ t558 t583 t584 _ ?side1 ?side2 A84.out).mono ?_); (case side1 => repeat (first | exact (Kd.R_reads' HO560.out).2.2 | with_reducible first | refine Kd.C_alloc ?_ _ | refine Kd.C_drewN ?_ _ | refine Kd.C_drew ?_)); (case side2 => exact (Kd.R_reads' HO560.out).2.1); rintro e w108 ⟨rfl, hb⟩; refine ⟨_, rfl, ?_⟩; have n0_ := Aside0.mk (Kd.R_below (by (with_reducible repeat (first | apply Kd.R_alloc | apply Kd.R_drewN | apply Kd.R_drew)); exact HO560.out) hb); have n1_ := Aside0.mk (Kd.R_below (by (with_reducible repeat (first | apply Kd.R_alloc | apply Kd.R_drewN | apply Kd.R_drew)); exact HO564.out) hb); have n2_ := Aside0.mk (Kd.R_below (by (with_reducible repeat (first | apply Kd.R_alloc | apply Kd.R_drewN | apply Kd.R_drew)); exact HO568.out) hb); have n3_ := Aside0.mk (Kd.R_below (by (with_reducible repeat (first | apply Kd.R_alloc | apply Kd.R_drewN | apply Kd.R_drew)); exact HO572.out) hb); have n4_ := Aside0.mk (Kd.R_below (by (with_reducible repeat (first | apply Kd.R_alloc | apply Kd.R_drewN | apply Kd.R_drew)); exact HO576.out) hb); have n5_ := Aside0.mk (below_step (by repeat first | exact HB.out | apply below_alloc | apply pw_below_drewN | apply below_drew1) hb); clear HO560; clear HO564; clear HO568; clear HO572; clear HO576; clear HB; have HO560 := n0_; have HO564 := n1_; have HO568 := n2_; have HO572 := n3_; have HO576 := n4_; have HB := n5_; clear n0_ n1_ n2_ n3_ n4_ n5_; obtain ⟨Ao109, co109, eo109⟩ := Kd.R_slice HO564.out; subst eo109; obtain ⟨Ao110, co110, eo110⟩ := Kd.R_slice HO568.out; subst eo110))
                  (try simp only [Act.put, List.setIfInBounds_toArray, List.set_cons_zero, List.set_cons_succ])
                  as_aux_lemma =>
                  go_upto_if 338 with (first | (go_at_call 11; (with_reducible refine (laws_tRules.calls kj43 _ _ t561 _ _ t565 true _ ?side1 ?side2 ?side3 ?side4 A86.out).mono ?_); (case side1 => repeat (first | exact (Kd.R_reads' HO564.out).2.2 | with_reducible first | refine Kd.C_alloc ?_ _ | refine Kd.C_drewN ?_ _ | refine Kd.C_drew ?_)); (case side2 => exact (Kd.R_reads' HO564.out).2.1); (case side3 => repeat (first | exact (Kd.R_reads' HO568.out).2.2 | with_reducible first | refine Kd.C_alloc ?_ _ | refine Kd.C_drewN ?_ _ | refine Kd.C_drew ?_)); (case side4 => exact (Kd.R_reads' HO568.out).2.1); rintro e w' ⟨rfl, ⟨nd, rfl⟩⟩; obtain ⟨Ao111, co111, eo111⟩ := Kd.R_slice HO572.out; subst eo111; obtain ⟨Ao112, co112, eo112⟩ := Kd.R_slice HO576.out; subst eo112) | (go_at_call 23; (with_reducible refine (laws_tSame.calls kj43 _ _ t569 _ _ t573 true _ ?side1 ?side2 ?side3 ?side4 A89.out).mono ?_); (case side1 => repeat (first | exact (Kd.R_reads' HO572.out).2.2 | with_reducible first | refine Kd.C_alloc ?_ _ | refine Kd.C_drewN ?_ _ | refine Kd.C_drew ?_)); (case side2 => exact (Kd.R_reads' HO572.out).2.1); (case side3 => repeat (first | exact (Kd.R_reads' HO576.out).2.2 | with_reducible first | refine Kd.C_alloc ?_ _ | refine Kd.C_drewN ?_ _ | refine Kd.C_drew ?_)); (case side4 => exact (Kd.R_reads' HO576.out).2.1); rintro e w' ⟨rfl, ⟨nd, rfl⟩⟩))
                  (try simp only [Act.put, List.setIfInBounds_toArray, List.set_cons_zero, List.set_cons_succ])
                  go_cut [] from 326 to 338 (fun wc => ∃ (kq : Nat), Aside0 (laws_FnSievesMoved.j5 kq l1 = some r) ∧ Aside0 (kq ≤ kj43) ∧ Aside0 (Below w.heap.size w wc))
                  case first => as_aux_lemma =>
                   have H := HC98.out
                   clear HC98
                   by_cases c113 : t578 = true
                   ·subst c113
                    rw [if_pos rfl] at H
                    replace H := Option.bind_eq_some_iff.mp H
                    obtain ⟨⟨t587, t588⟩, A1140, H⟩ := H
                    try dsimp only at H
                    have A114 := Aside0.mk A1140
                    clear A1140
                    replace H := Option.bind_eq_some_iff.mp H
                    obtain ⟨⟨t589, t590⟩, A1150, H⟩ := H
                    try dsimp only at H
                    have A115 := Aside0.mk A1150
                    clear A1150
                    by_cases c116 : t588 = true
                    ·subst c116
                     rw [if_pos rfl] at H
                     by_cases c117 : t587 = true
                     ·as_aux_lemma =>
                      subst c117
                      rw [if_pos rfl] at H
                      by_cases c118 : t590 = true
                      ·subst c118
                       rw [if_pos rfl] at H
                       by_cases c119 : (t589.length : Int) = 0
                       ·rw [if_pos c119] at H
                        have c119b0 : ((t589.length : Int) == 0) = true := beq_iff_eq.mpr c119
                        have c119b1 : ((t589.length : Int) != 0) = false := bne_eq_false_iff_eq.mpr c119
                        clear c119
                        (first | rw [c119b0] | (simp only [i64_w, i32_w]; rw [c119b0]) | skip)
                        by_cases c120 : (((t569.length : Int) == 0) != ((t561.length : Int) == (t558.length : Int))) = true
                        ·rw [if_pos c120] at H
                         have c120b0 : (((t569.length : Int) == 0) != ((t561.length : Int) == (t558.length : Int))) = true := c120
                         (try (have c120b1 : decide (((t569.length : Int) == 0) = ((t561.length : Int) == (t558.length : Int))) = false := by simpa using c120))
                         (try (have c120b2 : (((t569.length : Int) == 0) == ((t561.length : Int) == (t558.length : Int))) = false := by simpa using c120))
                         (try (have c120b3 : ¬ (((t569.length : Int) == 0) = ((t561.length : Int) == (t558.length : Int))) := by simpa using c120))
                         clear c120
                         exact (no_ HRT H).elim
                        ·as_aux_lemma =>
                         rw [if_neg c120] at H
                         have c120b0 : (((t569.length : Int) == 0) != ((t561.length : Int) == (t558.length : Int))) = false := by simpa using c120
                         (try (have c120b1 : decide (((t569.length : Int) == 0) = ((t561.length : Int) == (t558.length : Int))) = true := by simpa using c120))
                         (try (have c120b2 : (((t569.length : Int) == 0) == ((t561.length : Int) == (t558.length : Int))) = true := by simpa using c120))
                         clear c120
                         by_cases c121 : t581 < 0
                         ·rw [if_pos c121] at H
                          have c121b0 : decide (t581 < 0) = true := decide_eq_true c121
                          clear c121
                          exact (no_ HRT H).elim
                         ·rw [if_neg c121] at H
                          have c121b0 : decide (t581 < 0) = false := decide_eq_false c121
                          clear c121
                          by_cases c122 : t581 > t577
                          ·rw [if_pos c122] at H
                           have c122b0 : decide (t577 < t581) = true := decide_eq_true c122
                           clear c122
                           exact (no_ HRT H).elim
                          ·rw [if_neg c122] at H
                           have c122b0 : decide (t577 < t581) = false := decide_eq_false c122
                           clear c122
                           have H' := Aside0.mk H
                           clear H
                           go_wp2_with (first | ((with_reducible refine gate_callee (f := 24) rfl ?_); refine goesL_ (some 342) rfl rfl Tryz.func24 (by kernel_rfl) rfl #[.slice Ao100 t558.length co100, .slice Ao109 t561.length co109] rfl (by (try simp only [List.map_toArray, List.map_cons, List.map_nil]); first | done | rfl) ?_; (with_reducible refine (impl_AreSameSieve.calls kj43 _ _ t558 _ _ t561 true true _ ?side1 ?side2 ?side3 ?side4 A114.out).mono ?_); (case side1 => repeat (first | exact (Kd.R_reads' HO560.out).2.2 | with_reducible first | refine Kd.C_alloc ?_ _ | refine Kd.C_drewN ?_ _ | refine Kd.C_drew ?_)); (case side2 => exact (Kd.R_reads' HO560.out).2.1); (case side3 => repeat (first | exact (Kd.R_reads' HO564.out).2.2 | with_reducible first | refine Kd.C_alloc ?_ _ | refine Kd.C_drewN ?_ _ | refine Kd.C_drew ?_)); (case side4 => exact (Kd.R_reads' HO564.out).2.1); rintro e w123 ⟨rfl, hb⟩; refine ⟨_, rfl, ?_⟩; have n0_ := Aside0.mk (Kd.R_below (by (with_reducible repeat (first | apply Kd.R_alloc | apply Kd.R_drewN | apply Kd.R_drew)); exact HO560.out) hb); have n1_ := Aside0.mk (Kd.R_below (by (with_reducible repeat (first | apply Kd.R_alloc | apply Kd.R_drewN | apply Kd.R_drew)); exact HO564.out) hb); have n2_ := Aside0.mk (Kd.R_below (by (with_reducible repeat (first | apply Kd.R_alloc | apply Kd.R_drewN | apply Kd.R_drew)); exact HO568.out) hb); have n3_ := Aside0.mk (Kd.R_below (by (with_reducible repeat (first | apply Kd.R_alloc | apply Kd.R_drewN | apply Kd.R_drew)); exact HO572.out) hb); have n4_ := Aside0.mk (Kd.R_below (by (with_reducible repeat (first | apply Kd.R_alloc | apply Kd.R_drewN | apply Kd.R_drew)); exact HO576.out) hb); have n5_ := Aside0.mk (below_step (by repeat first | exact HB.out | apply below_alloc | apply pw_below_drewN | apply below_drew1) hb); clear HO560; clear HO564; clear HO568; clear HO572; clear HO576; clear HB; have HO560 := n0_; have HO564 := n1_; have HO568 := n2_; have HO572 := n3_; have HO576 := n4_; have HB := n5_; clear n0_ n1_ n2_ n3_ n4_ n5_) | ((with_reducible refine gate_callee (f := 17) rfl ?_); refine goesL_ (some 347) rfl rfl Tryz.func17 (by kernel_rfl) rfl #[.slice Ao109 t561.length co109] rfl (by (try simp only [List.map_toArray, List.map_cons, List.map_nil]); first | done | rfl) ?_; (with_reducible refine (impl_NeedlessRules.calls kj43 _ _ t561 t589 true _ ?side1 ?side2 A115.out).mono ?_); (case side1 => repeat (first | exact (Kd.R_reads' HO564.out).2.2 | with_reducible first | refine Kd.C_alloc ?_ _ | refine Kd.C_drewN ?_ _ | refine Kd.C_drew ?_)); (case side2 => exact (Kd.R_reads' HO564.out).2.1); rintro e w124 ⟨v591, rfl, ho0, hb⟩; refine ⟨_, rfl, ?_⟩; have n0_ := Aside0.mk (Kd.R_below (by (with_reducible repeat (first | apply Kd.R_alloc | apply Kd.R_drewN | apply Kd.R_drew)); exact HO560.out) hb); have n1_ := Aside0.mk (Kd.R_below (by (with_reducible repeat (first | apply Kd.R_alloc | apply Kd.R_drewN | apply Kd.R_drew)); exact HO564.out) hb); have n2_ := Aside0.mk (Kd.R_below (by (with_reducible repeat (first | apply Kd.R_alloc | apply Kd.R_drewN | apply Kd.R_drew)); exact HO568.out) hb); have n3_ := Aside0.mk (Kd.R_elder' (by (with_reducible repeat (first | apply Kd.R_alloc | apply Kd.R_drewN | apply Kd.R_drew)); exact HO572.out) (Kd.R_base ho0) hb); have n4_ := Aside0.mk (Kd.R_elder' (by (with_reducible repeat (first | apply Kd.R_alloc | apply Kd.R_drewN | apply Kd.R_drew)); exact HO576.out) (Kd.R_base ho0) hb); have n5_ := Aside0.mk (Kd.R_lower (Kd.R_new' (Kd.R_new' ho0 (Kd.R_lt (by (with_reducible repeat (first | apply Kd.R_alloc | apply Kd.R_drewN | apply Kd.R_drew)); exact HO572.out))) (Kd.R_lt (by (with_reducible repeat (first | apply Kd.R_alloc | apply Kd.R_drewN | apply Kd.R_drew)); exact HO576.out))) (below_size (by repeat first | exact HB.out | apply below_alloc | apply pw_below_drewN | apply below_drew1))); have n6_ := Aside0.mk (below_step (by repeat first | exact HB.out | apply below_alloc | apply pw_below_drewN | apply below_drew1) hb); clear HO560; clear HO564; clear HO568; clear HO572; clear HO576; clear HB; have HO560 := n0_; have HO564 := n1_; have HO568 := n2_; have HO572 := n3_; have HO576 := n4_; have HO592 := n5_; have HB := n6_; clear n0_ n1_ n2_ n3_ n4_ n5_ n6_; obtain ⟨Ao125, co125, eo125⟩ := Kd.R_slice HO592.out; subst eo125))
                           as_aux_lemma =>
                           go_loopg [387] kj43 (fun kq v387 w' => ∃ (x387_3 : Int), v387 = .int .i64 x387_3 ∧ Aside0 (laws_FnSievesMoved.l1 kq l1 t558 t577 t581 t558 (t558.length : Int) x387_3 = some r) ∧ Aside0 (kq ≤ kj43) ∧ Aside0 (Kd.R k41 41 w' w.heap.size (fun _ => True) (.slice Ao100 t558.length co100) t558) ∧ Aside0 (Kd.R k41 41 w' w.heap.size (fun _ => True) (.slice Ao100 t558.length co100) t558) ∧ Aside0 (Below w.heap.size w w'))
                           case atStart => exact ⟨(0), (by first | rfl | (simp; done) | (simp [*]; done)), H', ⟨Nat.le_refl _⟩, ⟨by (with_reducible repeat (first | apply Kd.R_alloc | apply Kd.R_drewN | apply Kd.R_drew)); exact Kd.R_mono HO560.out (fun _ hk => trivial)⟩, ⟨by (with_reducible repeat (first | apply Kd.R_alloc | apply Kd.R_drewN | apply Kd.R_drew)); exact Kd.R_mono HO560.out (fun _ hk => trivial)⟩, ⟨by repeat first | exact HB.out | apply below_alloc | apply pw_below_drewN | apply below_drew1⟩⟩
                           case round => as_aux_lemma =>
                            clear H'
                            obtain ⟨x387_3, rfl, HA, HK3, HO_30, HO_385, HB⟩ := hrel
                            cases gk with
                            | zero => exact absurd HA.out (by simp [laws_FnSievesMoved.l1])
                            | succ k3 =>
                             have H := HA.out
                             clear HA
                             simp only [laws_FnSievesMoved.l1] at H
                             by_cases c126 : x387_3 < (t558.length : Int)
                             ·rw [if_pos c126] at H
                              have c126b0 : decide (x387_3 < (t558.length : Int)) = true := decide_eq_true c126
                              clear c126
                              by_cases c127 : 0 ≤ x387_3
                              ·rw [if_pos c127] at H
                               have c127b0 : decide (0 ≤ x387_3) = true := decide_eq_true c127
                               clear c127
                               by_cases c128 : x387_3 < (t558.length : Int)
                               ·rw [if_pos c128] at H
                                have c128b0 : decide (x387_3 < (t558.length : Int)) = true := decide_eq_true c128
                                clear c128
                                by_cases c129 : ((rd_T41 t558 x387_3).f0) = 0
                                ·rw [if_pos c129] at H
                                 exact absurd H (by simp)
                                ·rw [if_neg c129] at H
                                 have c129b0 : (((rd_T41 t558 x387_3).f0) == 0) = false := beq_eq_false_iff_ne.mpr c129
                                 have c129b1 : (((rd_T41 t558 x387_3).f0) != 0) = true := bne_iff_ne.mpr c129
                                 by_cases c130 : (Int.tmod t577 ((rd_T41 t558 x387_3).f0)) = 0
                                 ·as_aux_lemma =>
                                  rw [if_pos c130] at H
                                  have c130b0 : ((Int.tmod t577 ((rd_T41 t558 x387_3).f0)) == 0) = true := beq_iff_eq.mpr c130
                                  have c130b1 : ((Int.tmod t577 ((rd_T41 t558 x387_3).f0)) != 0) = false := bne_eq_false_iff_eq.mpr c130
                                  clear c130
                                  have H' := Aside0.mk H
                                  clear H
                                  have p593 : 0 ≤ (x387_3 : Int) := of_decide_eq_true (by assumption)
                                  have q593 : x387_3 < (t558.length : Int) := of_decide_eq_true (by assumption)
                                  obtain ⟨ad593, e593, hx593_0, hx593_1⟩ := at_T41 (Kd.R_reads' HO_385.out).2.2 x387_3 p593 q593
                                  cases e593
                                  replace p593 := eq_true p593
                                  replace q593 := eq_true q593
                                  go_wp2_with (first | ((with_reducible refine gate_dst (N := 52) rfl ?_); (try (refine gate_guard (by rfl) ?_; dsimp only)); refine box_event ?hg (N := 52) ?hd (cs := #[.int .i64 0, .int .i64 0]) (t := 41) ?hr ?_; (case hd => rfl); (case hg => rfl); (case hr => generalize Act.mk _ _ = a_; as_aux_lemma => kernel_rfl); intro gb594 hg w131 hbox hb; have n0_ := Aside0.mk (Kd.R_below (Kd.R_elderB (by (with_reducible repeat (first | apply Kd.R_alloc | apply Kd.R_drewN | apply Kd.R_drew)); exact HO_30.out) gb594 (Nat.le_of_eq hg.symm)) hb); have n1_ := Aside0.mk (Kd.R_below (Kd.R_elderB (by (with_reducible repeat (first | apply Kd.R_alloc | apply Kd.R_drewN | apply Kd.R_drew)); exact HO_385.out) gb594 (Nat.le_of_eq hg.symm)) hb); have n2_ := Aside0.mk (below_step (by repeat first | exact HB.out | apply below_alloc | apply pw_below_drewN | apply below_drew1) hb); have n3_ := Aside0.mk (hbox); have n4_ := Aside0.mk ((by rw [hg]; exact (below_size (by repeat first | exact HB.out | apply below_alloc | apply pw_below_drewN | apply below_drew1)) : w.heap.size ≤ gb594)); have n5_ := Aside0.mk ((by rw [hg]; exact (below_size (by repeat first | exact HB.out | apply below_alloc | apply pw_below_drewN | apply below_drew1)) : w.heap.size ≤ gb594)); clear HO_30; clear HO_385; clear HB; have HO_30 := n0_; have HO_385 := n1_; have HB := n2_; have BK594 := n3_; have GW594 := n4_; have GE594 := n5_; clear n0_ n1_ n2_ n3_ n4_ n5_; clear hb hbox hg; have hcz132_0 : w131.cell? ⟨gb594, 0, none⟩ = some (.int .i64 0) := (blk_cell BK594.out 0).trans rfl; have hcz132_1 : w131.cell? ⟨gb594, 1, none⟩ = some (.int .i64 0) := (blk_cell BK594.out 1).trans rfl; have hfz132_0 := blk_frozen BK594.out 0; have hfz132_1 := blk_frozen BK594.out 1))
                                  refine Handed.intro k3 ?measure ?_
                                  rotate_left
                                  go_step
                                  (repeat with_reducible apply ex32_)
                                  (repeat apply Exists.intro)
                                  refine ⟨?rel, rfl⟩
                                  case measure => have := HJ11.out; have := HJ43.out; have := HK3.out; omega
                                  case rel => exact ⟨(wrap64 (x387_3 + 1)), (by first | rfl | (simp; done) | (simp [*]; done)), H', ⟨by have := HJ11.out; have := HJ43.out; have := HK3.out; omega⟩, ⟨by (with_reducible repeat (first | apply Kd.R_alloc | apply Kd.R_drewN | apply Kd.R_drew)); exact Kd.R_mono (Kd.R_far (p := ⟨gb594, 1, none⟩) (Kd.R_far (p := ⟨gb594, 0, none⟩) (Kd.R_mono HO_30.out (fun k_ hk => (⟨hk, hk.2⟩ : _ ∧ k_ ≠ gb594))) (fun _ hk => hk.2) (.int .i64 ((rd_T41 t558 x387_3).f0))) (fun _ hk => hk.2) (.int .i64 ((rd_T41 t558 x387_3).f1))) (fun _ hk => trivial)⟩, ⟨by (with_reducible repeat (first | apply Kd.R_alloc | apply Kd.R_drewN | apply Kd.R_drew)); exact Kd.R_mono (Kd.R_far (p := ⟨gb594, 1, none⟩) (Kd.R_far (p := ⟨gb594, 0, none⟩) (Kd.R_mono HO_385.out (fun k_ hk => (⟨hk, hk.2⟩ : _ ∧ k_ ≠ gb594))) (fun _ hk => hk.2) (.int .i64 ((rd_T41 t558 x387_3).f0))) (fun _ hk => hk.2) (.int .i64 ((rd_T41 t558 x387_3).f1))) (fun _ hk => trivial)⟩, ⟨by repeat (first | (with_reducible first | exact HB.out | apply below_alloc | apply pw_below_drewN | apply below_drew1 | refine below_set ?_ GE594.out) | exact HB.out)⟩⟩
                                 ·rw [if_neg c130] at H
                                  have c130b0 : ((Int.tmod t577 ((rd_T41 t558 x387_3).f0)) == 0) = false := beq_eq_false_iff_ne.mpr c130
                                  have c130b1 : ((Int.tmod t577 ((rd_T41 t558 x387_3).f0)) != 0) = true := bne_iff_ne.mpr c130
                                  exact (no_ HRT H).elim
                               ·rw [if_neg c128] at H
                                exact absurd H (by simp)
                              ·rw [if_neg c127] at H
                               exact absurd H (by simp)
                             ·as_aux_lemma =>
                              rw [if_neg c126] at H
                              have c126b0 : decide (x387_3 < (t558.length : Int)) = false := decide_eq_false c126
                              clear c126
                              by_cases c133 : t577 ≤ 600
                              ·rw [if_pos c133] at H
                               have c133b0 : decide (t577 ≤ 600) = true := decide_eq_true c133
                               clear c133
                               replace H := Option.bind_eq_some_iff.mp H
                               obtain ⟨⟨t595, t596⟩, A1340, H⟩ := H
                               try dsimp only at H
                               have A134 := Aside0.mk A1340
                               clear A1340
                               by_cases c135 : t596 = true
                               ·subst c135
                                rw [if_pos rfl] at H
                                by_cases c136 : t595 = t581
                                ·rw [if_pos c136] at H
                                 have c136b0 : (t595 == t581) = true := beq_iff_eq.mpr c136
                                 have c136b1 : (t595 != t581) = false := bne_eq_false_iff_eq.mpr c136
                                 clear c136
                                 have H' := Aside0.mk H
                                 clear H
                                 go_wp2_with (first | ((with_reducible refine gate_callee (f := 25) rfl ?_); refine goesL_ (some 402) rfl rfl Tryz.func25 (by kernel_rfl) rfl #[.slice Ao100 t558.length co100, .int .i64 t577] rfl (by (try simp only [List.map_toArray, List.map_cons, List.map_nil]); first | done | rfl) ?_; (with_reducible refine (impl_CountLeft.calls k3 _ _ t558 t577 t595 true _ ?side1 ?side2 A134.out).mono ?_); (case side1 => repeat (first | exact (Kd.R_reads' HO_30.out).2.2 | with_reducible first | refine Kd.C_alloc ?_ _ | refine Kd.C_drewN ?_ _ | refine Kd.C_drew ?_)); (case side2 => exact (Kd.R_reads' HO_30.out).2.1); rintro e w137 ⟨rfl, hb⟩; refine ⟨_, rfl, ?_⟩; have n0_ := Aside0.mk (Kd.R_below (by (with_reducible repeat (first | apply Kd.R_alloc | apply Kd.R_drewN | apply Kd.R_drew)); exact HO_30.out) hb); have n1_ := Aside0.mk (Kd.R_below (by (with_reducible repeat (first | apply Kd.R_alloc | apply Kd.R_drewN | apply Kd.R_drew)); exact HO_385.out) hb); have n2_ := Aside0.mk (below_step (by repeat first | exact HB.out | apply below_alloc | apply pw_below_drewN | apply below_drew1) hb); clear HO_30; clear HO_385; clear HB; have HO_30 := n0_; have HO_385 := n1_; have HB := n2_; clear n0_ n1_ n2_))
                                 refine Met.intro ?_
                                 go_step
                                 (repeat with_reducible apply ex32_)
                                 (repeat apply Exists.intro)
                                 refine ⟨?rel, rfl⟩
                                 case rel => exact ⟨_, H', ⟨by have := HJ11.out; have := HJ43.out; have := HK3.out; first | omega | exact Nat.le_refl _⟩, ⟨by repeat first | exact HB.out | apply below_alloc | apply pw_below_drewN | apply below_drew1⟩⟩
                                ·rw [if_neg c136] at H
                                 have c136b0 : (t595 == t581) = false := beq_eq_false_iff_ne.mpr c136
                                 have c136b1 : (t595 != t581) = true := bne_iff_ne.mpr c136
                                 exact (no_ HRT H).elim
                               ·replace c135 := Bool.eq_false_iff.mpr c135
                                subst c135
                                rw [if_neg (show ¬ (false = true) by decide)] at H
                                exact (no_ HRT H).elim
                              ·rw [if_neg c133] at H
                               have c133b0 : decide (t577 ≤ 600) = false := decide_eq_false c133
                               clear c133
                               have H' := Aside0.mk H
                               clear H
                               go_wp2
                               refine Met.intro ?_
                               go_step
                               (repeat with_reducible apply ex32_)
                               (repeat apply Exists.intro)
                               refine ⟨?rel, rfl⟩
                               case rel => exact ⟨_, H', ⟨by have := HJ11.out; have := HJ43.out; have := HK3.out; first | omega | exact Nat.le_refl _⟩, ⟨by repeat first | exact HB.out | apply below_alloc | apply pw_below_drewN | apply below_drew1⟩⟩
                       ·rw [if_neg c119] at H
                        have c119b0 : ((t589.length : Int) == 0) = false := beq_eq_false_iff_ne.mpr c119
                        have c119b1 : ((t589.length : Int) != 0) = true := bne_iff_ne.mpr c119
                        have c119b2 : ¬ (t589 = []) := fun h_ => c119 (by rw [h_]; rfl)
                        (first | rw [c119b0] | (simp only [i64_w, i32_w]; rw [c119b0]) | skip)
                        exact (no_ HRT H).elim
                      ·replace c118 := Bool.eq_false_iff.mpr c118
                       subst c118
                       rw [if_neg (show ¬ (false = true) by decide)] at H
                       exact (no_ HRT H).elim
                     ·replace c117 := Bool.eq_false_iff.mpr c117
                      subst c117
                      rw [if_neg (show ¬ (false = true) by decide)] at H
                      exact (no_ HRT H).elim
                    ·replace c116 := Bool.eq_false_iff.mpr c116
                     subst c116
                     rw [if_neg (show ¬ (false = true) by decide)] at H
                     exact (no_ HRT H).elim
                   ·as_aux_lemma =>
                    replace c113 := Bool.eq_false_iff.mpr c113
                    subst c113
                    rw [if_neg (show ¬ (false = true) by decide)] at H
                    have H' := Aside0.mk H
                    clear H
                    go_wp2
                    refine Met.intro ?_
                    go_step
                    (repeat with_reducible apply ex32_)
                    (repeat apply Exists.intro)
                    refine ⟨?rel, rfl⟩
                    case rel => exact ⟨_, H', ⟨by have := HJ11.out; have := HJ43.out; first | omega | exact Nat.le_refl _⟩, ⟨by repeat first | exact HB.out | apply below_alloc | apply pw_below_drewN | apply below_drew1⟩⟩
                  case rest => as_aux_lemma =>
                   clear HC98
                   obtain ⟨kq, HA, HJ97, HB⟩ := hcut
                   cases kq with
                   | zero => exact absurd HA.out (by simp [laws_FnSievesMoved.j5])
                   | succ kj97 =>
                    have H := HA.out
                    clear HA
                    simp only [laws_FnSievesMoved.j5] at H
                    replace H := Option.bind_eq_some_iff.mp H
                    obtain ⟨⟨t597, t598⟩, A1380, H⟩ := H
                    try dsimp only at H
                    have A138 := Aside0.mk A1380
                    clear A1380
                    replace H := Option.bind_eq_some_iff.mp H
                    obtain ⟨⟨t603, t604⟩, A1390, H⟩ := H
                    try dsimp only at H
                    have A139 := Aside0.mk A1390
                    clear A1390
                    replace H := Option.bind_eq_some_iff.mp H
                    obtain ⟨⟨t605, t606⟩, A1400, H⟩ := H
                    try dsimp only at H
                    have A140 := Aside0.mk A1400
                    clear A1400
                    replace H := Option.bind_eq_some_iff.mp H
                    obtain ⟨t607, A1410, H⟩ := H
                    try dsimp only at H
                    have A141 := Aside0.mk A1410
                    clear A1410
                    as_aux_lemma =>
                    replace H := Option.bind_eq_some_iff.mp H
                    obtain ⟨⟨t608, t609⟩, A1420, H⟩ := H
                    try dsimp only at H
                    have A142 := Aside0.mk A1420
                    clear A1420
                    replace H := Option.bind_eq_some_iff.mp H
                    obtain ⟨⟨t612, t613⟩, A1430, H⟩ := H
                    try dsimp only at H
                    have A143 := Aside0.mk A1430
                    clear A1430
                    by_cases c144 : (t604 != t606) = true
                    ·rw [if_pos c144] at H
                     have c144b0 : (t604 != t606) = true := c144
                     (try (have c144b1 : decide (t604 = t606) = false := by simpa using c144))
                     (try (have c144b2 : (t604 == t606) = false := by simpa using c144))
                     (try (have c144b3 : ¬ (t604 = t606) := by simpa using c144))
                     clear c144
                     exact (no_ HRT H).elim
                    ·rw [if_neg c144] at H
                     have c144b0 : (t604 != t606) = false := by simpa using c144
                     (try (have c144b1 : decide (t604 = t606) = true := by simpa using c144))
                     (try (have c144b2 : (t604 == t606) = true := by simpa using c144))
                     clear c144
                     by_cases c145 : (t603 != t605) = true
                     ·rw [if_pos c145] at H
                      have c145b0 : (t603 != t605) = true := c145
                      (try (have c145b1 : decide (t603 = t605) = false := by simpa using c145))
                      (try (have c145b2 : (t603 == t605) = false := by simpa using c145))
                      (try (have c145b3 : ¬ (t603 = t605) := by simpa using c145))
                      clear c145
                      exact (no_ HRT H).elim
                     ·as_aux_lemma =>
                      rw [if_neg c145] at H
                      have c145b0 : (t603 != t605) = false := by simpa using c145
                      (try (have c145b1 : decide (t603 = t605) = true := by simpa using c145))
                      (try (have c145b2 : (t603 == t605) = true := by simpa using c145))
                      clear c145
                      by_cases c146 : (t609 != t613) = true
                      ·rw [if_pos c146] at H
                       have c146b0 : (t609 != t613) = true := c146
                       (try (have c146b1 : decide (t609 = t613) = false := by simpa using c146))
                       (try (have c146b2 : (t609 == t613) = false := by simpa using c146))
                       (try (have c146b3 : ¬ (t609 = t613) := by simpa using c146))
                       clear c146
                       exact (no_ HRT H).elim
                      ·rw [if_neg c146] at H
                       have c146b0 : (t609 != t613) = false := by simpa using c146
                       (try (have c146b1 : decide (t609 = t613) = true := by simpa using c146))
                       (try (have c146b2 : (t609 == t613) = true := by simpa using c146))
                       clear c146
                       replace H := Option.bind_eq_some_iff.mp H
                       obtain ⟨t616, A1470, H⟩ := H
                       try dsimp only at H
                       have A147 := Aside0.mk A1470
                       clear A1470
                       by_cases c148 : t616 = true
                       ·subst c148
                        rw [if_pos rfl] at H
                        by_cases c149 : t609 = true
                        ·as_aux_lemma =>
                         subst c149
                         rw [if_pos rfl] at H
                         replace H := Option.bind_eq_some_iff.mp H
                         obtain ⟨⟨t617, t618⟩, A1500, H⟩ := H
                         try dsimp only at H
                         have A150 := Aside0.mk A1500
                         clear A1500
                         by_cases c151 : t618 = true
                         ·subst c151
                          rw [if_pos rfl] at H
                          obtain rfl := Option.some.inj H
                          go_wp2_with (first | ((with_reducible refine gate_callee (f := 31) rfl ?_); refine goesL_ (some 414) rfl rfl Tryz.func31 (by kernel_rfl) rfl #[.slice A1 l1.length c1] rfl (by (try simp only [List.map_toArray, List.map_cons, List.map_nil]); first | done | rfl) ?_; (with_reducible refine (spec_DrawAreSameSieve.calls kj97 _ _ l1 t597 t598 _ ?side1 ?side2 A138.out).mono ?_); (case side1 => repeat (first | exact (Kd.C_below HR1.out HB.out) | with_reducible first | refine Kd.C_alloc ?_ _ | refine Kd.C_drewN ?_ _ | refine Kd.C_drew ?_)); (case side2 => exact HC1.out); rintro e w152 ⟨v599, v601, rfl, ho0, ho1, hb⟩; refine ⟨_, rfl, ?_⟩; have n0_ := Aside0.mk (Kd.R_lower ho0 (below_size (by repeat first | exact HB.out | apply below_alloc | apply pw_below_drewN | apply below_drew1))); have n1_ := Aside0.mk (Kd.R_lower ho1 (below_size (by repeat first | exact HB.out | apply below_alloc | apply pw_below_drewN | apply below_drew1))); have n2_ := Aside0.mk (below_step (by repeat first | exact HB.out | apply below_alloc | apply pw_below_drewN | apply below_drew1) hb); clear HB; have HO600 := n0_; have HO602 := n1_; have HB := n2_; clear n0_ n1_ n2_; obtain ⟨Ao153, co153, eo153⟩ := Kd.R_slice HO600.out; subst eo153; obtain ⟨Ao154, co154, eo154⟩ := Kd.R_slice HO602.out; subst eo154) | ((with_reducible refine gate_callee (f := 24) rfl ?_); refine goesL_ (some 420) rfl rfl Tryz.func24 (by kernel_rfl) rfl #[.slice Ao153 t597.length co153, .slice Ao154 t598.length co154] rfl (by (try simp only [List.map_toArray, List.map_cons, List.map_nil]); first | done | rfl) ?_; (with_reducible refine (impl_AreSameSieve.calls kj97 _ _ t597 _ _ t598 t603 t604 _ ?side1 ?side2 ?side3 ?side4 A139.out).mono ?_); (case side1 => repeat (first | exact (Kd.R_reads' HO600.out).2.2 | with_reducible first | refine Kd.C_alloc ?_ _ | refine Kd.C_drewN ?_ _ | refine Kd.C_drew ?_)); (case side2 => exact (Kd.R_reads' HO600.out).2.1); (case side3 => repeat (first | exact (Kd.R_reads' HO602.out).2.2 | with_reducible first | refine Kd.C_alloc ?_ _ | refine Kd.C_drewN ?_ _ | refine Kd.C_drew ?_)); (case side4 => exact (Kd.R_reads' HO602.out).2.1); rintro e w155 ⟨rfl, hb⟩; refine ⟨_, rfl, ?_⟩; have n0_ := Aside0.mk (Kd.R_below (by (with_reducible repeat (first | apply Kd.R_alloc | apply Kd.R_drewN | apply Kd.R_drew)); exact HO600.out) hb); have n1_ := Aside0.mk (Kd.R_below (by (with_reducible repeat (first | apply Kd.R_alloc | apply Kd.R_drewN | apply Kd.R_drew)); exact HO602.out) hb); have n2_ := Aside0.mk (below_step (by repeat first | exact HB.out | apply below_alloc | apply pw_below_drewN | apply below_drew1) hb); clear HO600; clear HO602; clear HB; have HO600 := n0_; have HO602 := n1_; have HB := n2_; clear n0_ n1_ n2_) | ((with_reducible refine gate_callee (f := 26) rfl ?_); refine goesL_ (some 426) rfl rfl Tryz.func26 (by kernel_rfl) rfl #[.slice Ao153 t597.length co153, .slice Ao154 t598.length co154] rfl (by (try simp only [List.map_toArray, List.map_cons, List.map_nil]); first | done | rfl) ?_; (with_reducible refine (spec_AreSameSieve.calls kj97 _ _ t597 _ _ t598 t605 t606 _ ?side1 ?side2 ?side3 ?side4 A140.out).mono ?_); (case side1 => repeat (first | exact (Kd.R_reads' HO600.out).2.2 | with_reducible first | refine Kd.C_alloc ?_ _ | refine Kd.C_drewN ?_ _ | refine Kd.C_drew ?_)); (case side2 => exact (Kd.R_reads' HO600.out).2.1); (case side3 => repeat (first | exact (Kd.R_reads' HO602.out).2.2 | with_reducible first | refine Kd.C_alloc ?_ _ | refine Kd.C_drewN ?_ _ | refine Kd.C_drew ?_)); (case side4 => exact (Kd.R_reads' HO602.out).2.1); rintro e w156 ⟨rfl, hb⟩; refine ⟨_, rfl, ?_⟩; have n0_ := Aside0.mk (Kd.R_below (by (with_reducible repeat (first | apply Kd.R_alloc | apply Kd.R_drewN | apply Kd.R_drew)); exact HO600.out) hb); have n1_ := Aside0.mk (Kd.R_below (by (with_reducible repeat (first | apply Kd.R_alloc | apply Kd.R_drewN | apply Kd.R_drew)); exact HO602.out) hb); have n2_ := Aside0.mk (below_step (by repeat first | exact HB.out | apply below_alloc | apply pw_below_drewN | apply below_drew1) hb); clear HO600; clear HO602; clear HB; have HO600 := n0_; have HO602 := n1_; have HB := n2_; clear n0_ n1_ n2_) | ((with_reducible refine gate_callee (f := 32) rfl ?_); refine goesL_ (some 430) rfl rfl Tryz.func32 (by kernel_rfl) rfl #[.slice A1 l1.length c1] rfl (by (try simp only [List.map_toArray, List.map_cons, List.map_nil]); first | done | rfl) ?_; (with_reducible refine (spec_DrawParseRules.calls kj97 _ _ l1 t607 _ ?side1 ?side2 A141.out).mono ?_); (case side1 => repeat (first | exact (Kd.C_below HR1.out HB.out) | with_reducible first | refine Kd.C_alloc ?_ _ | refine Kd.C_drewN ?_ _ | refine Kd.C_drew ?_)); (case side2 => exact HC1.out); rintro e w157 ⟨rfl, hb⟩; refine ⟨_, rfl, ?_⟩; have n0_ := Aside0.mk (Kd.R_below (by (with_reducible repeat (first | apply Kd.R_alloc | apply Kd.R_drewN | apply Kd.R_drew)); exact HO600.out) hb); have n1_ := Aside0.mk (Kd.R_below (by (with_reducible repeat (first | apply Kd.R_alloc | apply Kd.R_drewN | apply Kd.R_drew)); exact HO602.out) hb); have n2_ := Aside0.mk (below_step (by repeat first | exact HB.out | apply below_alloc | apply pw_below_drewN | apply below_drew1) hb); clear HO600; clear HO602; clear HB; have HO600 := n0_; have HO602 := n1_; have HB := n2_; clear n0_ n1_ n2_) | ((with_reducible refine gate_callee (f := 13) rfl ?_); refine goesL_ (some 433) rfl rfl Tryz.func13 (by kernel_rfl) rfl #[.string t607] rfl (by (try simp only [List.map_toArray, List.map_cons, List.map_nil]); first | done | rfl) ?_; (with_reducible refine (impl_ParseRules.calls kj97 t607 t608 true _ ?glob_ A142.out).mono ?_); (case glob_ => exact GlobP.at_ HG.out (by repeat first | exact HB.out | apply below_alloc | apply pw_below_drewN | apply below_drew1)); rintro e w158 ⟨v610, rfl, ho0, hb⟩; refine ⟨_, rfl, ?_⟩; have n0_ := Aside0.mk (Kd.R_elder' (by (with_reducible repeat (first | apply Kd.R_alloc | apply Kd.R_drewN | apply Kd.R_drew)); exact HO600.out) (Kd.R_base ho0) hb); have n1_ := Aside0.mk (Kd.R_elder' (by (with_reducible repeat (first | apply Kd.R_alloc | apply Kd.R_drewN | apply Kd.R_drew)); exact HO602.out) (Kd.R_base ho0) hb); have n2_ := Aside0.mk (Kd.R_lower (Kd.R_new' (Kd.R_new' ho0 (Kd.R_lt (by (with_reducible repeat (first | apply Kd.R_alloc | apply Kd.R_drewN | apply Kd.R_drew)); exact HO600.out))) (Kd.R_lt (by (with_reducible repeat (first | apply Kd.R_alloc | apply Kd.R_drewN | apply Kd.R_drew)); exact HO602.out))) (below_size (by repeat first | exact HB.out | apply below_alloc | apply pw_below_drewN | apply below_drew1))); have n3_ := Aside0.mk (below_step (by repeat first | exact HB.out | apply below_alloc | apply pw_below_drewN | apply below_drew1) hb); clear HO600; clear HO602; clear HB; have HO600 := n0_; have HO602 := n1_; have HO611 := n2_; have HB := n3_; clear n0_ n1_ n2_ n3_) | ((with_reducible refine gate_callee (f := 27) rfl ?_); refine goesL_ (some 438) rfl rfl Tryz.func27 (by kernel_rfl) rfl #[.string t607] rfl (by (try simp only [List.map_toArray, List.map_cons, List.map_nil]); first | done | rfl) ?_; (with_reducible refine (spec_ParseRules.calls kj97 t607 t612 t613 _ A143.out).mono ?_); rintro e w159 ⟨v614, rfl, ho0, hb⟩; refine ⟨_, rfl, ?_⟩; have n0_ := Aside0.mk (Kd.R_elder' (by (with_reducible repeat (first | apply Kd.R_alloc | apply Kd.R_drewN | apply Kd.R_drew)); exact HO600.out) (Kd.R_base ho0) hb); have n1_ := Aside0.mk (Kd.R_elder' (by (with_reducible repeat (first | apply Kd.R_alloc | apply Kd.R_drewN | apply Kd.R_drew)); exact HO602.out) (Kd.R_base ho0) hb); have n2_ := Aside0.mk (Kd.R_elder' (by (with_reducible repeat (first | apply Kd.R_alloc | apply Kd.R_drewN | apply Kd.R_drew)); exact HO611.out) (Kd.R_base ho0) hb); have n3_ := Aside0.mk (Kd.R_lower (Kd.R_new' (Kd.R_new' (Kd.R_new' ho0 (Kd.R_lt (by (with_reducible repeat (first | apply Kd.R_alloc | apply Kd.R_drewN | apply Kd.R_drew)); exact HO600.out))) (Kd.R_lt (by (with_reducible repeat (first | apply Kd.R_alloc | apply Kd.R_drewN | apply Kd.R_drew)); exact HO602.out))) (Kd.R_lt (by (with_reducible repeat (first | apply Kd.R_alloc | apply Kd.R_drewN | apply Kd.R_drew)); exact HO611.out))) (below_size (by repeat first | exact HB.out | apply below_alloc | apply pw_below_drewN | apply below_drew1))); have n4_ := Aside0.mk (below_step (by repeat first | exact HB.out | apply below_alloc | apply pw_below_drewN | apply below_drew1) hb); clear HO600; clear HO602; clear HO611; clear HB; have HO600 := n0_; have HO602 := n1_; have HO611 := n2_; have HO615 := n3_; have HB := n4_; clear n0_ n1_ n2_ n3_ n4_; obtain ⟨Ao160, co160, eo160⟩ := Kd.R_slice HO611.out; subst eo160; obtain ⟨Ao161, co161, eo161⟩ := Kd.R_slice HO615.out; subst eo161) | (go_at_call 11; (with_reducible refine (laws_tRules.calls kj97 _ _ t608 _ _ t612 true _ ?side1 ?side2 ?side3 ?side4 A147.out).mono ?_); (case side1 => repeat (first | exact (Kd.R_reads' HO611.out).2.2 | with_reducible first | refine Kd.C_alloc ?_ _ | refine Kd.C_drewN ?_ _ | refine Kd.C_drew ?_)); (case side2 => exact (Kd.R_reads' HO611.out).2.1); (case side3 => repeat (first | exact (Kd.R_reads' HO615.out).2.2 | with_reducible first | refine Kd.C_alloc ?_ _ | refine Kd.C_drewN ?_ _ | refine Kd.C_drew ?_)); (case side4 => exact (Kd.R_reads' HO615.out).2.1); rintro e w' ⟨rfl, ⟨nd, rfl⟩⟩) | ((with_reducible refine gate_callee (f := 9) rfl ?_); refine goesL_ (some 463) rfl rfl Tryz.func9 (by kernel_rfl) rfl #[.slice Ao160 t608.length co160] rfl (by (try simp only [List.map_toArray, List.map_cons, List.map_nil]); first | done | rfl) ?_; (with_reducible refine (impl_RulesText.calls kj97 _ _ t608 t617 true _ ?side1 ?side2 A150.out).mono ?_); (case side1 => repeat (first | exact (Kd.R_reads' HO611.out).2.2 | with_reducible first | refine Kd.C_alloc ?_ _ | refine Kd.C_drewN ?_ _ | refine Kd.C_drew ?_)); (case side2 => exact (Kd.R_reads' HO611.out).2.1); rintro e w162 ⟨rfl, hb⟩; refine ⟨_, rfl, ?_⟩; have n0_ := Aside0.mk (Kd.R_below (by (with_reducible repeat (first | apply Kd.R_alloc | apply Kd.R_drewN | apply Kd.R_drew)); exact HO600.out) hb); have n1_ := Aside0.mk (Kd.R_below (by (with_reducible repeat (first | apply Kd.R_alloc | apply Kd.R_drewN | apply Kd.R_drew)); exact HO602.out) hb); have n2_ := Aside0.mk (Kd.R_below (by (with_reducible repeat (first | apply Kd.R_alloc | apply Kd.R_drewN | apply Kd.R_drew)); exact HO611.out) hb); have n3_ := Aside0.mk (Kd.R_below (by (with_reducible repeat (first | apply Kd.R_alloc | apply Kd.R_drewN | apply Kd.R_drew)); exact HO615.out) hb); have n4_ := Aside0.mk (below_step (by repeat first | exact HB.out | apply below_alloc | apply pw_below_drewN | apply below_drew1) hb); clear HO600; clear HO602; clear HO611; clear HO615; clear HB; have HO600 := n0_; have HO602 := n1_; have HO611 := n2_; have HO615 := n3_; have HB := n4_; clear n0_ n1_ n2_ n3_ n4_))
                          go_ret
                          exact ⟨by first | rfl | (simp [errW_none, errW_some] <;> rfl) | (simp [*, errW_none, errW_some] <;> rfl), by repeat first | exact HB.out | apply below_alloc | apply pw_below_drewN | apply below_drew1⟩
                         ·replace c151 := Bool.eq_false_iff.mpr c151
                          subst c151
                          rw [if_neg (show ¬ (false = true) by decide)] at H
                          exact (no_ HRT H).elim
                        ·replace c149 := Bool.eq_false_iff.mpr c149
                         subst c149
                         rw [if_neg (show ¬ (false = true) by decide)] at H
                         obtain rfl := Option.some.inj H
                         go_wp2_with (first | ((with_reducible refine gate_callee (f := 31) rfl ?_); refine goesL_ (some 414) rfl rfl Tryz.func31 (by kernel_rfl) rfl #[.slice A1 l1.length c1] rfl (by (try simp only [List.map_toArray, List.map_cons, List.map_nil]); first | done | rfl) ?_; (with_reducible refine (spec_DrawAreSameSieve.calls kj97 _ _ l1 t597 t598 _ ?side1 ?side2 A138.out).mono ?_); (case side1 => repeat (first | exact (Kd.C_below HR1.out HB.out) | with_reducible first | refine Kd.C_alloc ?_ _ | refine Kd.C_drewN ?_ _ | refine Kd.C_drew ?_)); (case side2 => exact HC1.out); rintro e w163 ⟨v599, v601, rfl, ho0, ho1, hb⟩; refine ⟨_, rfl, ?_⟩; have n0_ := Aside0.mk (Kd.R_lower ho0 (below_size (by repeat first | exact HB.out | apply below_alloc | apply pw_below_drewN | apply below_drew1))); have n1_ := Aside0.mk (Kd.R_lower ho1 (below_size (by repeat first | exact HB.out | apply below_alloc | apply pw_below_drewN | apply below_drew1))); have n2_ := Aside0.mk (below_step (by repeat first | exact HB.out | apply below_alloc | apply pw_below_drewN | apply below_drew1) hb); clear HB; have HO600 := n0_; have HO602 := n1_; have HB := n2_; clear n0_ n1_ n2_; obtain ⟨Ao164, co164, eo164⟩ := Kd.R_slice HO600.out; subst eo164; obtain ⟨Ao165, co165, eo165⟩ := Kd.R_slice HO602.out; subst eo165) | ((with_reducible refine gate_callee (f := 24) rfl ?_); refine goesL_ (some 420) rfl rfl Tryz.func24 (by kernel_rfl) rfl #[.slice Ao164 t597.length co164, .slice Ao165 t598.length co165] rfl (by (try simp only [List.map_toArray, List.map_cons, List.map_nil]); first | done | rfl) ?_; (with_reducible refine (impl_AreSameSieve.calls kj97 _ _ t597 _ _ t598 t603 t604 _ ?side1 ?side2 ?side3 ?side4 A139.out).mono ?_); (case side1 => repeat (first | exact (Kd.R_reads' HO600.out).2.2 | with_reducible first | refine Kd.C_alloc ?_ _ | refine Kd.C_drewN ?_ _ | refine Kd.C_drew ?_)); (case side2 => exact (Kd.R_reads' HO600.out).2.1); (case side3 => repeat (first | exact (Kd.R_reads' HO602.out).2.2 | with_reducible first | refine Kd.C_alloc ?_ _ | refine Kd.C_drewN ?_ _ | refine Kd.C_drew ?_)); (case side4 => exact (Kd.R_reads' HO602.out).2.1); rintro e w166 ⟨rfl, hb⟩; refine ⟨_, rfl, ?_⟩; have n0_ := Aside0.mk (Kd.R_below (by (with_reducible repeat (first | apply Kd.R_alloc | apply Kd.R_drewN | apply Kd.R_drew)); exact HO600.out) hb); have n1_ := Aside0.mk (Kd.R_below (by (with_reducible repeat (first | apply Kd.R_alloc | apply Kd.R_drewN | apply Kd.R_drew)); exact HO602.out) hb); have n2_ := Aside0.mk (below_step (by repeat first | exact HB.out | apply below_alloc | apply pw_below_drewN | apply below_drew1) hb); clear HO600; clear HO602; clear HB; have HO600 := n0_; have HO602 := n1_; have HB := n2_; clear n0_ n1_ n2_) | ((with_reducible refine gate_callee (f := 26) rfl ?_); refine goesL_ (some 426) rfl rfl Tryz.func26 (by kernel_rfl) rfl #[.slice Ao164 t597.length co164, .slice Ao165 t598.length co165] rfl (by (try simp only [List.map_toArray, List.map_cons, List.map_nil]); first | done | rfl) ?_; (with_reducible refine (spec_AreSameSieve.calls kj97 _ _ t597 _ _ t598 t605 t606 _ ?side1 ?side2 ?side3 ?side4 A140.out).mono ?_); (case side1 => repeat (first | exact (Kd.R_reads' HO600.out).2.2 | with_reducible first | refine Kd.C_alloc ?_ _ | refine Kd.C_drewN ?_ _ | refine Kd.C_drew ?_)); (case side2 => exact (Kd.R_reads' HO600.out).2.1); (case side3 => repeat (first | exact (Kd.R_reads' HO602.out).2.2 | with_reducible first | refine Kd.C_alloc ?_ _ | refine Kd.C_drewN ?_ _ | refine Kd.C_drew ?_)); (case side4 => exact (Kd.R_reads' HO602.out).2.1); rintro e w167 ⟨rfl, hb⟩; refine ⟨_, rfl, ?_⟩; have n0_ := Aside0.mk (Kd.R_below (by (with_reducible repeat (first | apply Kd.R_alloc | apply Kd.R_drewN | apply Kd.R_drew)); exact HO600.out) hb); have n1_ := Aside0.mk (Kd.R_below (by (with_reducible repeat (first | apply Kd.R_alloc | apply Kd.R_drewN | apply Kd.R_drew)); exact HO602.out) hb); have n2_ := Aside0.mk (below_step (by repeat first | exact HB.out | apply below_alloc | apply pw_below_drewN | apply below_drew1) hb); clear HO600; clear HO602; clear HB; have HO600 := n0_; have HO602 := n1_; have HB := n2_; clear n0_ n1_ n2_) | ((with_reducible refine gate_callee (f := 32) rfl ?_); refine goesL_ (some 430) rfl rfl Tryz.func32 (by kernel_rfl) rfl #[.slice A1 l1.length c1] rfl (by (try simp only [List.map_toArray, List.map_cons, List.map_nil]); first | done | rfl) ?_; (with_reducible refine (spec_DrawParseRules.calls kj97 _ _ l1 t607 _ ?side1 ?side2 A141.out).mono ?_); (case side1 => repeat (first | exact (Kd.C_below HR1.out HB.out) | with_reducible first | refine Kd.C_alloc ?_ _ | refine Kd.C_drewN ?_ _ | refine Kd.C_drew ?_)); (case side2 => exact HC1.out); rintro e w168 ⟨rfl, hb⟩; refine ⟨_, rfl, ?_⟩; have n0_ := Aside0.mk (Kd.R_below (by (with_reducible repeat (first | apply Kd.R_alloc | apply Kd.R_drewN | apply Kd.R_drew)); exact HO600.out) hb); have n1_ := Aside0.mk (Kd.R_below (by (with_reducible repeat (first | apply Kd.R_alloc | apply Kd.R_drewN | apply Kd.R_drew)); exact HO602.out) hb); have n2_ := Aside0.mk (below_step (by repeat first | exact HB.out | apply below_alloc | apply pw_below_drewN | apply below_drew1) hb); clear HO600; clear HO602; clear HB; have HO600 := n0_; have HO602 := n1_; have HB := n2_; clear n0_ n1_ n2_) | ((with_reducible refine gate_callee (f := 13) rfl ?_); refine goesL_ (some 433) rfl rfl Tryz.func13 (by kernel_rfl) rfl #[.string t607] rfl (by (try simp only [List.map_toArray, List.map_cons, List.map_nil]); first | done | rfl) ?_; (with_reducible refine (impl_ParseRules.calls kj97 t607 t608 false _ ?glob_ A142.out).mono ?_); (case glob_ => exact GlobP.at_ HG.out (by repeat first | exact HB.out | apply below_alloc | apply pw_below_drewN | apply below_drew1)); rintro e w169 ⟨v610, rfl, ho0, hb⟩; refine ⟨_, rfl, ?_⟩; have n0_ := Aside0.mk (Kd.R_elder' (by (with_reducible repeat (first | apply Kd.R_alloc | apply Kd.R_drewN | apply Kd.R_drew)); exact HO600.out) (Kd.R_base ho0) hb); have n1_ := Aside0.mk (Kd.R_elder' (by (with_reducible repeat (first | apply Kd.R_alloc | apply Kd.R_drewN | apply Kd.R_drew)); exact HO602.out) (Kd.R_base ho0) hb); have n2_ := Aside0.mk (Kd.R_lower (Kd.R_new' (Kd.R_new' ho0 (Kd.R_lt (by (with_reducible repeat (first | apply Kd.R_alloc | apply Kd.R_drewN | apply Kd.R_drew)); exact HO600.out))) (Kd.R_lt (by (with_reducible repeat (first | apply Kd.R_alloc | apply Kd.R_drewN | apply Kd.R_drew)); exact HO602.out))) (below_size (by repeat first | exact HB.out | apply below_alloc | apply pw_below_drewN | apply below_drew1))); have n3_ := Aside0.mk (below_step (by repeat first | exact HB.out | apply below_alloc | apply pw_below_drewN | apply below_drew1) hb); clear HO600; clear HO602; clear HB; have HO600 := n0_; have HO602 := n1_; have HO611 := n2_; have HB := n3_; clear n0_ n1_ n2_ n3_) | ((with_reducible refine gate_callee (f := 27) rfl ?_); refine goesL_ (some 438) rfl rfl Tryz.func27 (by kernel_rfl) rfl #[.string t607] rfl (by (try simp only [List.map_toArray, List.map_cons, List.map_nil]); first | done | rfl) ?_; (with_reducible refine (spec_ParseRules.calls kj97 t607 t612 t613 _ A143.out).mono ?_); rintro e w170 ⟨v614, rfl, ho0, hb⟩; refine ⟨_, rfl, ?_⟩; have n0_ := Aside0.mk (Kd.R_elder' (by (with_reducible repeat (first | apply Kd.R_alloc | apply Kd.R_drewN | apply Kd.R_drew)); exact HO600.out) (Kd.R_base ho0) hb); have n1_ := Aside0.mk (Kd.R_elder' (by (with_reducible repeat (first | apply Kd.R_alloc | apply Kd.R_drewN | apply Kd.R_drew)); exact HO602.out) (Kd.R_base ho0) hb); have n2_ := Aside0.mk (Kd.R_elder' (by (with_reducible repeat (first | apply Kd.R_alloc | apply Kd.R_drewN | apply Kd.R_drew)); exact HO611.out) (Kd.R_base ho0) hb); have n3_ := Aside0.mk (Kd.R_lower (Kd.R_new' (Kd.R_new' (Kd.R_new' ho0 (Kd.R_lt (by (with_reducible repeat (first | apply Kd.R_alloc | apply Kd.R_drewN | apply Kd.R_drew)); exact HO600.out))) (Kd.R_lt (by (with_reducible repeat (first | apply Kd.R_alloc | apply Kd.R_drewN | apply Kd.R_drew)); exact HO602.out))) (Kd.R_lt (by (with_reducible repeat (first | apply Kd.R_alloc | apply Kd.R_drewN | apply Kd.R_drew)); exact HO611.out))) (below_size (by repeat first | exact HB.out | apply below_alloc | apply pw_below_drewN | apply below_drew1))); have n4_ := Aside0.mk (below_step (by repeat first | exact HB.out | apply below_alloc | apply pw_below_drewN | apply below_drew1) hb); clear HO600; clear HO602; clear HO611; clear HB; have HO600 := n0_; have HO602 := n1_; have HO611 := n2_; have HO615 := n3_; have HB := n4_; clear n0_ n1_ n2_ n3_ n4_; obtain ⟨Ao171, co171, eo171⟩ := Kd.R_slice HO611.out; subst eo171; obtain ⟨Ao172, co172, eo172⟩ := Kd.R_slice HO615.out; subst eo172) | (go_at_call 11; (with_reducible refine (laws_tRules.calls kj97 _ _ t608 _ _ t612 true _ ?side1 ?side2 ?side3 ?side4 A147.out).mono ?_); (case side1 => repeat (first | exact (Kd.R_reads' HO611.out).2.2 | with_reducible first | refine Kd.C_alloc ?_ _ | refine Kd.C_drewN ?_ _ | refine Kd.C_drew ?_)); (case side2 => exact (Kd.R_reads' HO611.out).2.1); (case side3 => repeat (first | exact (Kd.R_reads' HO615.out).2.2 | with_reducible first | refine Kd.C_alloc ?_ _ | refine Kd.C_drewN ?_ _ | refine Kd.C_drew ?_)); (case side4 => exact (Kd.R_reads' HO615.out).2.1); rintro e w' ⟨rfl, ⟨nd, rfl⟩⟩))
                         go_ret
                         exact ⟨by first | rfl | (simp [errW_none, errW_some] <;> rfl) | (simp [*, errW_none, errW_some] <;> rfl), by repeat first | exact HB.out | apply below_alloc | apply pw_below_drewN | apply below_drew1⟩
                       ·replace c148 := Bool.eq_false_iff.mpr c148
                        subst c148
                        rw [if_neg (show ¬ (false = true) by decide)] at H
                        exact (no_ HRT H).elim
              ·rw [if_neg c94] at H
               have c94b0 : (t581 == t583) = false := beq_eq_false_iff_ne.mpr c94
               have c94b1 : (t581 != t583) = true := bne_iff_ne.mpr c94
               exact (no_ HRT H).elim
            ·rw [if_neg c92] at H
             have c92b0 : (t577 == t579) = false := beq_eq_false_iff_ne.mpr c92
             have c92b1 : (t577 != t579) = true := bne_iff_ne.mpr c92
             exact (no_ HRT H).elim
          ·replace c90 := Bool.eq_false_iff.mpr c90
           subst c90
           rw [if_neg (show ¬ (false = true) by decide)] at H
           exact (no_ HRT H).elim
        ·replace c87 := Bool.eq_false_iff.mpr c87
         subst c87
         rw [if_neg (show ¬ (false = true) by decide)] at H
         exact (no_ HRT H).elim

/-- THE ONE PURE STATEMENT of laws_FnSievesMoved: yours. -/
theorem laws_FnSievesMoved.walk (P : laws_FnSievesMoved.Pure) (a0 : Option Addr) (len0 cap0 : Nat) (z0 : List Int) (a1 : Option Addr) (len1 cap1 : Nat) (z1 : List Int) (w : World) (hG : GlobP w) (w0 : (a0 = none ∧ len0 = 0 ∧ cap0 = 0 ∧ z0 = []) ∨ ∃ x, a0 = some x ∧ len0 ≤ cap0 ∧ cap0 ≤ maxLen ∧ z0.length = cap0 ∧ (∀ i, i < z0.length → w.cell? (x.add i) = some (.int .u8 (z0.getD i 0))) ∧ ∀ n ∈ z0, (Lit.int .u8 n).wf = true) (y0 : len0 * 1 ≤ 140737488351232) (w1 : (a1 = none ∧ len1 = 0 ∧ cap1 = 0 ∧ z1 = []) ∨ ∃ x, a1 = some x ∧ len1 ≤ cap1 ∧ cap1 ≤ maxLen ∧ z1.length = cap1 ∧ (∀ i, i < z1.length → w.cell? (x.add i) = some (.int .u8 (z1.getD i 0))) ∧ ∀ n ∈ z1, (Lit.int .u8 n).wf = true) (y1 : len1 * 1 ≤ 140737488351232) :
    Calls Tryz.prog 4 #[.slice a0 len0 cap0, .slice a1 len1 cap1] w fun e w' => e = .returned (.bool true) ∧ Below w.heap.size w w' := by
  obtain ⟨l0, rfl, hr0, hm0, hw0, hc0⟩ := ReadsInt.ofRowC w0
  obtain ⟨l1, rfl, hr1, hm1, hw1, hc1⟩ := ReadsInt.ofRowC w1
  obtain ⟨k, h⟩ := P l0 l1 hm0 y0 hw0 hm1 y1 hw1
  refine (laws_FnSievesMoved.calls k _ _ l0 _ _ l1 true w (Kd.C_of_reads (d := (0 : Int)) (h1 := fun _ => rfl) hr0) hc0 (Kd.C_of_reads (d := (0 : Int)) (h1 := fun _ => rfl) hr1) hc1 hG h rfl).mono ?_
  rintro e w' ⟨rfl, hd⟩
  exact ⟨rfl, hd⟩

end Go.Proofs.YtnfbdaffbpaagaaGreatDoor.PFnSievesMoved
