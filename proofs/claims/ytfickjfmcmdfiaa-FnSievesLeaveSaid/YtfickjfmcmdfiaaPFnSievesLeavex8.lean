-- Written by a turned copy of the printer, for this claim
import Derived.Test.YtfickjfmcmdfiaaPFnSievesLeavex7
namespace Go.Proofs.Ytfickjfmcmdfiaa.PFnSievesLeave
open Go.RowKit Go.Proofs.YtfickjfmcmdfiaaW.PrintWords Go.Proofs.YtfickjfmcmdfiaaW.PrintLast Go.Proofs.YtfickjfmcmdfiaaW.PrintMore
attribute [local go_sem] max2_int min2_int max_two min_two max_three min_three max_four min_four   -- for this text's walks alone
set_option linter.unusedVariables false
set_option linter.unusedSimpArgs false

/-- So many values at once. -/
theorem ex32_ {V : Type} {P : V → V → V → V → V → V → V → V → V → V → V → V → V → V → V → V → V → V → V → V → V → V → V → V → V → V → V → V → V → V → V → V → Prop} (a0 a1 a2 a3 a4 a5 a6 a7 a8 a9 a10 a11 a12 a13 a14 a15 a16 a17 a18 a19 a20 a21 a22 a23 a24 a25 a26 a27 a28 a29 a30 a31 : V) (h : P a0 a1 a2 a3 a4 a5 a6 a7 a8 a9 a10 a11 a12 a13 a14 a15 a16 a17 a18 a19 a20 a21 a22 a23 a24 a25 a26 a27 a28 a29 a30 a31) : ∃ a0 a1 a2 a3 a4 a5 a6 a7 a8 a9 a10 a11 a12 a13 a14 a15 a16 a17 a18 a19 a20 a21 a22 a23 a24 a25 a26 a27 a28 a29 a30 a31, P a0 a1 a2 a3 a4 a5 a6 a7 a8 a9 a10 a11 a12 a13 a14 a15 a16 a17 a18 a19 a20 a21 a22 a23 a24 a25 a26 a27 a28 a29 a30 a31 := ⟨a0, a1, a2, a3, a4, a5, a6, a7, a8, a9, a10, a11, a12, a13, a14, a15, a16, a17, a18, a19, a20, a21, a22, a23, a24, a25, a26, a27, a28, a29, a30, a31, h⟩

set_option maxHeartbeats 80000000 in
set_option maxRecDepth 100000 in
theorem laws_FnSievesLeave.calls (k : Nat) (A0 : Option Addr) (c0 : Nat) (l0 : List Int) (A1 : Option Addr) (c1 : Nat) (l1 : List Int) (r : Bool) (w : World) (hr0 : Kd.C (Kd.int .u8) w A0 l0.length l0) (hc0 : l0.length ≤ c0) (hr1 : Kd.C (Kd.int .u8) w A1 l1.length l1) (hc1 : l1.length ≤ c1) (h : laws_FnSievesLeave.f k l0 l1 = some r) (hr : r = true) :
  Calls Try.prog 14 #[.slice A0 l0.length c0, .slice A1 l1.length c1] w fun e w' => e = .returned (.bool r) ∧ Below w.heap.size w w' := by
 have HRT := Aside0.mk hr
 clear hr
 have HR0 := Aside0.mk hr0
 have HC0 := Aside0.mk hc0
 clear hr0 hc0
 have HR1 := Aside0.mk hr1
 have HC1 := Aside0.mk hc1
 clear hr1 hc1
 have HB := Aside0.mk (Below.refl w.heap.size w)
 have H : ((laws_big.f l0 l1).bind fun t400 => (if t400 = true then (some true) else ((spec_DrawLeftUpTo.f k l0).bind fun bt401 => ((impl_LeftUpTo.f k bt401.1 bt401.2).bind fun bt405 => ((spec_LeftUpTo.f k bt401.1 bt401.2).bind fun bt409 => ((impl_CountLeft.f k bt401.1 bt401.2).bind fun bt413 => ((spec_CountLeft.f k bt401.1 bt401.2).bind fun bt415 => (if (bt405.2 != bt409.2) = true then (some false) else ((laws_tSame.f k bt405.1 bt409.1).bind fun t417 => (if t417 = true then (if (bt413.2 != bt415.2) = true then (some false) else (if bt413.1 = bt415.1 then (if (bt413.2 != bt405.2) = true then (some false) else (if bt405.2 = true then ((impl_AreRules.f bt401.1).bind fun t418 => (if t418 = true then ((impl_AreRules.f bt401.1).bind fun t419 => ((spec_AreRules.f k bt401.1).bind fun t420 => (laws_FnSievesLeave.j0 k l1 bt401.1 bt401.2 bt405.1 bt405.2 bt413.1 (t419 != t420)))) else (some false))) else ((impl_AreRules.f bt401.1).bind fun t421 => ((spec_AreRules.f k bt401.1).bind fun t422 => (laws_FnSievesLeave.j0 k l1 bt401.1 bt401.2 bt405.1 bt405.2 bt413.1 (t421 != t422)))))) else (some false))) else (some false))))))))))) = some r := h
 clear h
 replace H := Option.bind_eq_some_iff.mp H
 obtain ⟨t400, A30, H⟩ := H
 replace H : (if t400 = true then (some true) else ((spec_DrawLeftUpTo.f k l0).bind fun bt401 => ((impl_LeftUpTo.f k bt401.1 bt401.2).bind fun bt405 => ((spec_LeftUpTo.f k bt401.1 bt401.2).bind fun bt409 => ((impl_CountLeft.f k bt401.1 bt401.2).bind fun bt413 => ((spec_CountLeft.f k bt401.1 bt401.2).bind fun bt415 => (if (bt405.2 != bt409.2) = true then (some false) else ((laws_tSame.f k bt405.1 bt409.1).bind fun t417 => (if t417 = true then (if (bt413.2 != bt415.2) = true then (some false) else (if bt413.1 = bt415.1 then (if (bt413.2 != bt405.2) = true then (some false) else (if bt405.2 = true then ((impl_AreRules.f bt401.1).bind fun t418 => (if t418 = true then ((impl_AreRules.f bt401.1).bind fun t419 => ((spec_AreRules.f k bt401.1).bind fun t420 => (laws_FnSievesLeave.j0 k l1 bt401.1 bt401.2 bt405.1 bt405.2 bt413.1 (t419 != t420)))) else (some false))) else ((impl_AreRules.f bt401.1).bind fun t421 => ((spec_AreRules.f k bt401.1).bind fun t422 => (laws_FnSievesLeave.j0 k l1 bt401.1 bt401.2 bt405.1 bt405.2 bt413.1 (t421 != t422)))))) else (some false))) else (some false)))))))))) = some r := H
 have A3 := Aside0.mk A30
 clear A30
 by_cases c4 : t400 = true
 ·subst c4
  have H1 : (some true) = some r := by rw [if_pos rfl] at H; exact H
  clear H
  have H := H1
  clear H1
  obtain rfl := Option.some.inj H
  as_aux_lemma =>
  go_enter Try.func14, Try.ntmps14
  go_wp2_with (first | ((with_reducible refine gate_callee (f := 45) rfl ?_); refine goesL_ (some 66) rfl rfl Try.func45 (by kernel_rfl) rfl #[.slice A0 l0.length c0, .slice A1 l1.length c1] rfl (by (try simp only [List.map_toArray, List.map_cons, List.map_nil]); first | done | rfl | (simp only [List.length_drop, List.length_take]; rfl)) ?_; (with_reducible refine (laws_big.calls _ _ l0 _ _ l1 true _ ?side1 ?side2 ?side3 ?side4 A3.out).mono ?_); (case side1 => repeat (first | exact HR0.out | (with_reducible refine Kd.C_alloc ?_ _) | (with_reducible refine Kd.C_drewN ?_ _) | (with_reducible refine Kd.C_drew ?_))); (case side2 => exact HC0.out); (case side3 => repeat (first | exact HR1.out | (with_reducible refine Kd.C_alloc ?_ _) | (with_reducible refine Kd.C_drewN ?_ _) | (with_reducible refine Kd.C_drew ?_))); (case side4 => exact HC1.out); rintro e w' ⟨rfl, ⟨nd, rfl⟩⟩; refine ⟨_, rfl, ?_⟩))
  go_ret
  exact ⟨by first | rfl | (simp [errW_none, errW_some] <;> rfl) | (simp [*, errW_none, errW_some] <;> rfl), by repeat (first | (with_reducible first | exact HB.out | apply below_alloc | apply pw_below_drewN | apply below_drew1) | exact HB.out)⟩
 ·as_aux_lemma =>
  replace c4 := Bool.eq_false_iff.mpr c4
  subst c4
  have H1 : ((spec_DrawLeftUpTo.f k l0).bind fun bt401 => ((impl_LeftUpTo.f k bt401.1 bt401.2).bind fun bt405 => ((spec_LeftUpTo.f k bt401.1 bt401.2).bind fun bt409 => ((impl_CountLeft.f k bt401.1 bt401.2).bind fun bt413 => ((spec_CountLeft.f k bt401.1 bt401.2).bind fun bt415 => (if (bt405.2 != bt409.2) = true then (some false) else ((laws_tSame.f k bt405.1 bt409.1).bind fun t417 => (if t417 = true then (if (bt413.2 != bt415.2) = true then (some false) else (if bt413.1 = bt415.1 then (if (bt413.2 != bt405.2) = true then (some false) else (if bt405.2 = true then ((impl_AreRules.f bt401.1).bind fun t418 => (if t418 = true then ((impl_AreRules.f bt401.1).bind fun t419 => ((spec_AreRules.f k bt401.1).bind fun t420 => (laws_FnSievesLeave.j0 k l1 bt401.1 bt401.2 bt405.1 bt405.2 bt413.1 (t419 != t420)))) else (some false))) else ((impl_AreRules.f bt401.1).bind fun t421 => ((spec_AreRules.f k bt401.1).bind fun t422 => (laws_FnSievesLeave.j0 k l1 bt401.1 bt401.2 bt405.1 bt405.2 bt413.1 (t421 != t422)))))) else (some false))) else (some false))))))))) = some r := by rw [if_neg (show ¬ (false = true) by decide)] at H; exact H
  clear H
  have H := H1
  clear H1
  replace H := Option.bind_eq_some_iff.mp H
  obtain ⟨⟨t401, t402⟩, A50, H⟩ := H
  replace H : ((impl_LeftUpTo.f k t401 t402).bind fun bt405 => ((spec_LeftUpTo.f k t401 t402).bind fun bt409 => ((impl_CountLeft.f k t401 t402).bind fun bt413 => ((spec_CountLeft.f k t401 t402).bind fun bt415 => (if (bt405.2 != bt409.2) = true then (some false) else ((laws_tSame.f k bt405.1 bt409.1).bind fun t417 => (if t417 = true then (if (bt413.2 != bt415.2) = true then (some false) else (if bt413.1 = bt415.1 then (if (bt413.2 != bt405.2) = true then (some false) else (if bt405.2 = true then ((impl_AreRules.f t401).bind fun t418 => (if t418 = true then ((impl_AreRules.f t401).bind fun t419 => ((spec_AreRules.f k t401).bind fun t420 => (laws_FnSievesLeave.j0 k l1 t401 t402 bt405.1 bt405.2 bt413.1 (t419 != t420)))) else (some false))) else ((impl_AreRules.f t401).bind fun t421 => ((spec_AreRules.f k t401).bind fun t422 => (laws_FnSievesLeave.j0 k l1 t401 t402 bt405.1 bt405.2 bt413.1 (t421 != t422)))))) else (some false))) else (some false)))))))) = some r := H
  have A5 := Aside0.mk A50
  clear A50
  replace H := Option.bind_eq_some_iff.mp H
  obtain ⟨⟨t405, t406⟩, A60, H⟩ := H
  replace H : ((spec_LeftUpTo.f k t401 t402).bind fun bt409 => ((impl_CountLeft.f k t401 t402).bind fun bt413 => ((spec_CountLeft.f k t401 t402).bind fun bt415 => (if (t406 != bt409.2) = true then (some false) else ((laws_tSame.f k t405 bt409.1).bind fun t417 => (if t417 = true then (if (bt413.2 != bt415.2) = true then (some false) else (if bt413.1 = bt415.1 then (if (bt413.2 != t406) = true then (some false) else (if t406 = true then ((impl_AreRules.f t401).bind fun t418 => (if t418 = true then ((impl_AreRules.f t401).bind fun t419 => ((spec_AreRules.f k t401).bind fun t420 => (laws_FnSievesLeave.j0 k l1 t401 t402 t405 t406 bt413.1 (t419 != t420)))) else (some false))) else ((impl_AreRules.f t401).bind fun t421 => ((spec_AreRules.f k t401).bind fun t422 => (laws_FnSievesLeave.j0 k l1 t401 t402 t405 t406 bt413.1 (t421 != t422)))))) else (some false))) else (some false))))))) = some r := H
  have A6 := Aside0.mk A60
  clear A60
  replace H := Option.bind_eq_some_iff.mp H
  obtain ⟨⟨t409, t410⟩, A70, H⟩ := H
  replace H : ((impl_CountLeft.f k t401 t402).bind fun bt413 => ((spec_CountLeft.f k t401 t402).bind fun bt415 => (if (t406 != t410) = true then (some false) else ((laws_tSame.f k t405 t409).bind fun t417 => (if t417 = true then (if (bt413.2 != bt415.2) = true then (some false) else (if bt413.1 = bt415.1 then (if (bt413.2 != t406) = true then (some false) else (if t406 = true then ((impl_AreRules.f t401).bind fun t418 => (if t418 = true then ((impl_AreRules.f t401).bind fun t419 => ((spec_AreRules.f k t401).bind fun t420 => (laws_FnSievesLeave.j0 k l1 t401 t402 t405 t406 bt413.1 (t419 != t420)))) else (some false))) else ((impl_AreRules.f t401).bind fun t421 => ((spec_AreRules.f k t401).bind fun t422 => (laws_FnSievesLeave.j0 k l1 t401 t402 t405 t406 bt413.1 (t421 != t422)))))) else (some false))) else (some false)))))) = some r := H
  have A7 := Aside0.mk A70
  clear A70
  replace H := Option.bind_eq_some_iff.mp H
  obtain ⟨⟨t413, t414⟩, A80, H⟩ := H
  replace H : ((spec_CountLeft.f k t401 t402).bind fun bt415 => (if (t406 != t410) = true then (some false) else ((laws_tSame.f k t405 t409).bind fun t417 => (if t417 = true then (if (t414 != bt415.2) = true then (some false) else (if t413 = bt415.1 then (if (t414 != t406) = true then (some false) else (if t406 = true then ((impl_AreRules.f t401).bind fun t418 => (if t418 = true then ((impl_AreRules.f t401).bind fun t419 => ((spec_AreRules.f k t401).bind fun t420 => (laws_FnSievesLeave.j0 k l1 t401 t402 t405 t406 t413 (t419 != t420)))) else (some false))) else ((impl_AreRules.f t401).bind fun t421 => ((spec_AreRules.f k t401).bind fun t422 => (laws_FnSievesLeave.j0 k l1 t401 t402 t405 t406 t413 (t421 != t422)))))) else (some false))) else (some false))))) = some r := H
  have A8 := Aside0.mk A80
  clear A80
  as_aux_lemma =>
  replace H := Option.bind_eq_some_iff.mp H
  obtain ⟨⟨t415, t416⟩, A90, H⟩ := H
  replace H : (if (t406 != t410) = true then (some false) else ((laws_tSame.f k t405 t409).bind fun t417 => (if t417 = true then (if (t414 != t416) = true then (some false) else (if t413 = t415 then (if (t414 != t406) = true then (some false) else (if t406 = true then ((impl_AreRules.f t401).bind fun t418 => (if t418 = true then ((impl_AreRules.f t401).bind fun t419 => ((spec_AreRules.f k t401).bind fun t420 => (laws_FnSievesLeave.j0 k l1 t401 t402 t405 t406 t413 (t419 != t420)))) else (some false))) else ((impl_AreRules.f t401).bind fun t421 => ((spec_AreRules.f k t401).bind fun t422 => (laws_FnSievesLeave.j0 k l1 t401 t402 t405 t406 t413 (t421 != t422)))))) else (some false))) else (some false)))) = some r := H
  have A9 := Aside0.mk A90
  clear A90
  have HC10 := Aside0.mk H
  clear H
  as_aux_lemma =>
  go_enter Try.func14, Try.ntmps14
  go_upto_region 5 with (first | ((with_reducible refine gate_callee (f := 45) rfl ?_); refine goesL_ (some 66) rfl rfl Try.func45 (by kernel_rfl) rfl #[.slice A0 l0.length c0, .slice A1 l1.length c1] rfl (by (try simp only [List.map_toArray, List.map_cons, List.map_nil]); first | done | rfl | (simp only [List.length_drop, List.length_take]; rfl)) ?_; (with_reducible refine (laws_big.calls _ _ l0 _ _ l1 false _ ?side1 ?side2 ?side3 ?side4 A3.out).mono ?_); (case side1 => repeat (first | exact HR0.out | (with_reducible refine Kd.C_alloc ?_ _) | (with_reducible refine Kd.C_drewN ?_ _) | (with_reducible refine Kd.C_drew ?_))); (case side2 => exact HC0.out); (case side3 => repeat (first | exact HR1.out | (with_reducible refine Kd.C_alloc ?_ _) | (with_reducible refine Kd.C_drewN ?_ _) | (with_reducible refine Kd.C_drew ?_))); (case side4 => exact HC1.out); rintro e w' ⟨rfl, ⟨nd, rfl⟩⟩; refine ⟨_, rfl, ?_⟩) | ((with_reducible refine gate_callee (f := 46) rfl ?_); refine goesL_ (some 69) rfl rfl Try.func46 (by kernel_rfl) rfl #[.slice A0 l0.length c0] rfl (by (try simp only [List.map_toArray, List.map_cons, List.map_nil]); first | done | rfl | (simp only [List.length_drop, List.length_take]; rfl)) ?_; (with_reducible refine (spec_DrawLeftUpTo.calls k _ _ l0 t401 t402 _ ?side1 ?side2 A5.out).mono ?_); (case side1 => repeat (first | exact HR0.out | (with_reducible refine Kd.C_alloc ?_ _) | (with_reducible refine Kd.C_drewN ?_ _) | (with_reducible refine Kd.C_drew ?_))); (case side2 => exact HC0.out); rintro e w11 ⟨v403, rfl, ho0, hb⟩; refine ⟨_, rfl, ?_⟩; have n0_ := Aside0.mk (Kd.R_lower ho0 (below_size (by repeat (first | (with_reducible first | exact HB.out | apply below_alloc | apply pw_below_drewN | apply below_drew1) | exact HB.out)))); have n1_ := Aside0.mk (below_step (by repeat (first | (with_reducible first | exact HB.out | apply below_alloc | apply pw_below_drewN | apply below_drew1) | exact HB.out)) hb); clear HB; have HO404 := n0_; have HB := n1_; clear n0_ n1_; (try clear hb); (try clear hb2); (try clear hk); (try clear hi); (try clear ho0); obtain ⟨Ao12, co12, eo12⟩ := Kd.R_slice HO404.out; subst eo12) | ((with_reducible refine gate_callee (f := 44) rfl ?_); refine goesL_ (some 75) rfl rfl Try.func44 (by kernel_rfl) rfl #[.slice Ao12 t401.length co12, .int .i64 t402] rfl (by (try simp only [List.map_toArray, List.map_cons, List.map_nil]); first | done | rfl | (simp only [List.length_drop, List.length_take]; rfl)) ?_; (with_reducible refine (impl_LeftUpTo.calls k _ _ t401 t402 t405 t406 _ ?side1 ?side2 A6.out).mono ?_); (case side1 => repeat (first | exact (Kd.R_reads' HO404.out).2.2 | (with_reducible refine Kd.C_alloc ?_ _) | (with_reducible refine Kd.C_drewN ?_ _) | (with_reducible refine Kd.C_drew ?_))); (case side2 => exact (Kd.R_reads' HO404.out).2.1); rintro e w13 ⟨v407, rfl, ho0, hb⟩; refine ⟨_, rfl, ?_⟩; have n0_ := Aside0.mk (Kd.R_below (by (with_reducible repeat (first | apply Kd.R_alloc | apply Kd.R_drewN | apply Kd.R_drew)); exact HO404.out) hb); have n1_ := Aside0.mk (Kd.R_lower ho0 (below_size (by repeat (first | (with_reducible first | exact HB.out | apply below_alloc | apply pw_below_drewN | apply below_drew1) | exact HB.out)))); have n2_ := Aside0.mk (below_step (by repeat (first | (with_reducible first | exact HB.out | apply below_alloc | apply pw_below_drewN | apply below_drew1) | exact HB.out)) hb); clear HO404; clear HB; have HO404 := n0_; have HO408 := n1_; have HB := n2_; clear n0_ n1_ n2_; (try clear hb); (try clear hb2); (try clear hk); (try clear hi); (try clear ho0)))
  (try simp only [Act.put, List.setIfInBounds_toArray, List.set_cons_zero, List.set_cons_succ])
  as_aux_lemma =>
  go_upto_region 8 with (first | ((with_reducible refine gate_callee (f := 43) rfl ?_); refine goesL_ (some 81) rfl rfl Try.func43 (by kernel_rfl) rfl #[.slice Ao12 t401.length co12, .int .i64 t402] rfl (by (try simp only [List.map_toArray, List.map_cons, List.map_nil]); first | done | rfl | (simp only [List.length_drop, List.length_take]; rfl)) ?_; (with_reducible refine (spec_LeftUpTo.calls k _ _ t401 t402 t409 t410 _ ?side1 ?side2 A7.out).mono ?_); (case side1 => repeat (first | exact (Kd.R_reads' HO404.out).2.2 | (with_reducible refine Kd.C_alloc ?_ _) | (with_reducible refine Kd.C_drewN ?_ _) | (with_reducible refine Kd.C_drew ?_))); (case side2 => exact (Kd.R_reads' HO404.out).2.1); rintro e w14 ⟨v411, rfl, ho0, hb⟩; refine ⟨_, rfl, ?_⟩; have n0_ := Aside0.mk (Kd.R_below (by (with_reducible repeat (first | apply Kd.R_alloc | apply Kd.R_drewN | apply Kd.R_drew)); exact HO404.out) hb); have n1_ := Aside0.mk (Kd.R_elder' (by (with_reducible repeat (first | apply Kd.R_alloc | apply Kd.R_drewN | apply Kd.R_drew)); exact HO408.out) (Kd.R_base ho0) hb); have n2_ := Aside0.mk (Kd.R_lower (Kd.R_new' ho0 (Kd.R_lt (by (with_reducible repeat (first | apply Kd.R_alloc | apply Kd.R_drewN | apply Kd.R_drew)); exact HO408.out))) (below_size (by repeat (first | (with_reducible first | exact HB.out | apply below_alloc | apply pw_below_drewN | apply below_drew1) | exact HB.out)))); have n3_ := Aside0.mk (below_step (by repeat (first | (with_reducible first | exact HB.out | apply below_alloc | apply pw_below_drewN | apply below_drew1) | exact HB.out)) hb); clear HO404; clear HO408; clear HB; have HO404 := n0_; have HO408 := n1_; have HO412 := n2_; have HB := n3_; clear n0_ n1_ n2_ n3_; (try clear hb); (try clear hb2); (try clear hk); (try clear hi); (try clear ho0)) | ((with_reducible refine gate_callee (f := 35) rfl ?_); refine goesL_ (some 87) rfl rfl Try.func35 (by kernel_rfl) rfl #[.slice Ao12 t401.length co12, .int .i64 t402] rfl (by (try simp only [List.map_toArray, List.map_cons, List.map_nil]); first | done | rfl | (simp only [List.length_drop, List.length_take]; rfl)) ?_; (with_reducible refine (impl_CountLeft.calls k _ _ t401 t402 t413 t414 _ ?side1 ?side2 A8.out).mono ?_); (case side1 => repeat (first | exact (Kd.R_reads' HO404.out).2.2 | (with_reducible refine Kd.C_alloc ?_ _) | (with_reducible refine Kd.C_drewN ?_ _) | (with_reducible refine Kd.C_drew ?_))); (case side2 => exact (Kd.R_reads' HO404.out).2.1); rintro e w15 ⟨rfl, hb⟩; refine ⟨_, rfl, ?_⟩; have n0_ := Aside0.mk (Kd.R_below (by (with_reducible repeat (first | apply Kd.R_alloc | apply Kd.R_drewN | apply Kd.R_drew)); exact HO404.out) hb); have n1_ := Aside0.mk (Kd.R_below (by (with_reducible repeat (first | apply Kd.R_alloc | apply Kd.R_drewN | apply Kd.R_drew)); exact HO408.out) hb); have n2_ := Aside0.mk (Kd.R_below (by (with_reducible repeat (first | apply Kd.R_alloc | apply Kd.R_drewN | apply Kd.R_drew)); exact HO412.out) hb); have n3_ := Aside0.mk (below_step (by repeat (first | (with_reducible first | exact HB.out | apply below_alloc | apply pw_below_drewN | apply below_drew1) | exact HB.out)) hb); clear HO404; clear HO408; clear HO412; clear HB; have HO404 := n0_; have HO408 := n1_; have HO412 := n2_; have HB := n3_; clear n0_ n1_ n2_ n3_; (try clear hb); (try clear hb2); (try clear hk); (try clear hi)) | ((with_reducible refine gate_callee (f := 34) rfl ?_); refine goesL_ (some 93) rfl rfl Try.func34 (by kernel_rfl) rfl #[.slice Ao12 t401.length co12, .int .i64 t402] rfl (by (try simp only [List.map_toArray, List.map_cons, List.map_nil]); first | done | rfl | (simp only [List.length_drop, List.length_take]; rfl)) ?_; (with_reducible refine (spec_CountLeft.calls k _ _ t401 t402 t415 t416 _ ?side1 ?side2 A9.out).mono ?_); (case side1 => repeat (first | exact (Kd.R_reads' HO404.out).2.2 | (with_reducible refine Kd.C_alloc ?_ _) | (with_reducible refine Kd.C_drewN ?_ _) | (with_reducible refine Kd.C_drew ?_))); (case side2 => exact (Kd.R_reads' HO404.out).2.1); rintro e w16 ⟨rfl, hb⟩; refine ⟨_, rfl, ?_⟩; have n0_ := Aside0.mk (Kd.R_below (by (with_reducible repeat (first | apply Kd.R_alloc | apply Kd.R_drewN | apply Kd.R_drew)); exact HO404.out) hb); have n1_ := Aside0.mk (Kd.R_below (by (with_reducible repeat (first | apply Kd.R_alloc | apply Kd.R_drewN | apply Kd.R_drew)); exact HO408.out) hb); have n2_ := Aside0.mk (Kd.R_below (by (with_reducible repeat (first | apply Kd.R_alloc | apply Kd.R_drewN | apply Kd.R_drew)); exact HO412.out) hb); have n3_ := Aside0.mk (below_step (by repeat (first | (with_reducible first | exact HB.out | apply below_alloc | apply pw_below_drewN | apply below_drew1) | exact HB.out)) hb); clear HO404; clear HO408; clear HO412; clear HB; have HO404 := n0_; have HO408 := n1_; have HO412 := n2_; have HB := n3_; clear n0_ n1_ n2_ n3_; (try clear hb); (try clear hb2); (try clear hk); (try clear hi)))
  (try simp only [Act.put, List.setIfInBounds_toArray, List.set_cons_zero, List.set_cons_succ])
  go_cut [134] from 455 to 455 (fun v134 wc => ∃ (kq : Nat) (x134_9 : Bool), v134 = .bool x134_9 ∧ Aside0 (laws_FnSievesLeave.j0 kq l1 t401 t402 t405 t406 t413 x134_9 = some r) ∧ Aside0 (kq ≤ k) ∧ Aside0 (Kd.R k53 53 wc w.heap.size (fun _ => True) (.slice Ao12 t401.length co12) t401) ∧ Aside0 (Kd.R (Kd.int .i64) 3 wc w.heap.size (fun _ => True) v407 t405) ∧ Aside0 (Below w.heap.size w wc))
  case first => as_aux_lemma =>
   have H := HC10.out
   clear HC10
   by_cases c17 : (t406 != t410) = true
   ·rw [if_pos c17] at H
    have c17b0 : (t406 != t410) = true := c17
    (try (have c17b1 : decide (t406 = t410) = false := by simpa using c17))
    (try (have c17b2 : (t406 == t410) = false := by simpa using c17))
    (try (have c17b3 : ¬ (t406 = t410) := by simpa using c17))
    clear c17
    (first | rw [c17b0] | (simp only [i64_w, i32_w]; rw [c17b0]) | skip)
    exact absurd (Option.some.inj H) (by rw [HRT.out]; decide)
   ·rw [if_neg c17] at H
    have c17b0 : (t406 != t410) = false := by simpa using c17
    (try (have c17b1 : decide (t406 = t410) = true := by simpa using c17))
    (try (have c17b2 : (t406 == t410) = true := by simpa using c17))
    clear c17
    (first | rw [c17b0] | (simp only [i64_w, i32_w]; rw [c17b0]) | skip)
    replace H := Option.bind_eq_some_iff.mp H
    obtain ⟨t417, A180, H⟩ := H
    replace H : (if t417 = true then (if (t414 != t416) = true then (some false) else (if t413 = t415 then (if (t414 != t406) = true then (some false) else (if t406 = true then ((impl_AreRules.f t401).bind fun t418 => (if t418 = true then ((impl_AreRules.f t401).bind fun t419 => ((spec_AreRules.f k t401).bind fun t420 => (laws_FnSievesLeave.j0 k l1 t401 t402 t405 t406 t413 (t419 != t420)))) else (some false))) else ((impl_AreRules.f t401).bind fun t421 => ((spec_AreRules.f k t401).bind fun t422 => (laws_FnSievesLeave.j0 k l1 t401 t402 t405 t406 t413 (t421 != t422)))))) else (some false))) else (some false)) = some r := H
    have A18 := Aside0.mk A180
    clear A180
    by_cases c19 : t417 = true
    ·subst c19
     have H1 : (if (t414 != t416) = true then (some false) else (if t413 = t415 then (if (t414 != t406) = true then (some false) else (if t406 = true then ((impl_AreRules.f t401).bind fun t418 => (if t418 = true then ((impl_AreRules.f t401).bind fun t419 => ((spec_AreRules.f k t401).bind fun t420 => (laws_FnSievesLeave.j0 k l1 t401 t402 t405 t406 t413 (t419 != t420)))) else (some false))) else ((impl_AreRules.f t401).bind fun t421 => ((spec_AreRules.f k t401).bind fun t422 => (laws_FnSievesLeave.j0 k l1 t401 t402 t405 t406 t413 (t421 != t422)))))) else (some false))) = some r := by rw [if_pos rfl] at H; exact H
     clear H
     have H := H1
     clear H1
     by_cases c20 : (t414 != t416) = true
     ·rw [if_pos c20] at H
      have c20b0 : (t414 != t416) = true := c20
      (try (have c20b1 : decide (t414 = t416) = false := by simpa using c20))
      (try (have c20b2 : (t414 == t416) = false := by simpa using c20))
      (try (have c20b3 : ¬ (t414 = t416) := by simpa using c20))
      clear c20
      exact absurd (Option.some.inj H) (by rw [HRT.out]; decide)
     ·as_aux_lemma =>
      rw [if_neg c20] at H
      have c20b0 : (t414 != t416) = false := by simpa using c20
      (try (have c20b1 : decide (t414 = t416) = true := by simpa using c20))
      (try (have c20b2 : (t414 == t416) = true := by simpa using c20))
      clear c20
      by_cases c21 : t413 = t415
      ·rw [if_pos c21] at H
       have c21b0 : (t413 == t415) = true := beq_iff_eq.mpr c21
       have c21b1 : (t413 != t415) = false := bne_eq_false_iff_eq.mpr c21
       clear c21
       by_cases c22 : (t414 != t406) = true
       ·rw [if_pos c22] at H
        have c22b0 : (t414 != t406) = true := c22
        (try (have c22b1 : decide (t414 = t406) = false := by simpa using c22))
        (try (have c22b2 : (t414 == t406) = false := by simpa using c22))
        (try (have c22b3 : ¬ (t414 = t406) := by simpa using c22))
        clear c22
        exact absurd (Option.some.inj H) (by rw [HRT.out]; decide)
       ·rw [if_neg c22] at H
        have c22b0 : (t414 != t406) = false := by simpa using c22
        (try (have c22b1 : decide (t414 = t406) = true := by simpa using c22))
        (try (have c22b2 : (t414 == t406) = true := by simpa using c22))
        clear c22
        by_cases c23 : t406 = true
        ·subst c23
         have H1 : ((impl_AreRules.f t401).bind fun t418 => (if t418 = true then ((impl_AreRules.f t401).bind fun t419 => ((spec_AreRules.f k t401).bind fun t420 => (laws_FnSievesLeave.j0 k l1 t401 t402 t405 true t413 (t419 != t420)))) else (some false))) = some r := by rw [if_pos rfl] at H; exact H
         clear H
         have H := H1
         clear H1
         as_aux_lemma =>
         replace H := Option.bind_eq_some_iff.mp H
         obtain ⟨t418, A240, H⟩ := H
         replace H : (if t418 = true then ((impl_AreRules.f t401).bind fun t419 => ((spec_AreRules.f k t401).bind fun t420 => (laws_FnSievesLeave.j0 k l1 t401 t402 t405 true t413 (t419 != t420)))) else (some false)) = some r := H
         have A24 := Aside0.mk A240
         clear A240
         by_cases c25 : t418 = true
         ·subst c25
          have H1 : ((impl_AreRules.f t401).bind fun t419 => ((spec_AreRules.f k t401).bind fun t420 => (laws_FnSievesLeave.j0 k l1 t401 t402 t405 true t413 (t419 != t420)))) = some r := by rw [if_pos rfl] at H; exact H
          clear H
          have H := H1
          clear H1
          replace H := Option.bind_eq_some_iff.mp H
          obtain ⟨t419, A260, H⟩ := H
          replace H : ((spec_AreRules.f k t401).bind fun t420 => (laws_FnSievesLeave.j0 k l1 t401 t402 t405 true t413 (t419 != t420))) = some r := H
          have A26 := Aside0.mk A260
          clear A260
          have e_ := Option.some.inj (A26.out.symm.trans A24.out)
          subst e_
          replace H := Option.bind_eq_some_iff.mp H
          obtain ⟨t420, A270, H⟩ := H
          replace H : (laws_FnSievesLeave.j0 k l1 t401 t402 t405 true t413 (true != t420)) = some r := H
          have A27 := Aside0.mk A270
          clear A270
          have H' := Aside0.mk H
          clear H
          obtain ⟨Ao28, co28, eo28⟩ := Kd.R_slice HO408.out
          subst eo28
          obtain ⟨Ao29, co29, eo29⟩ := Kd.R_slice HO412.out
          subst eo29
          go_wp2_with (first | (go_at_call 47; (with_reducible refine (laws_tSame.calls k _ _ t405 _ _ t409 true _ ?side1 ?side2 ?side3 ?side4 A18.out).mono ?_); (case side1 => repeat (first | exact (Kd.R_reads' HO408.out).2.2 | (with_reducible refine Kd.C_alloc ?_ _) | (with_reducible refine Kd.C_drewN ?_ _) | (with_reducible refine Kd.C_drew ?_))); (case side2 => exact (Kd.R_reads' HO408.out).2.1); (case side3 => repeat (first | exact (Kd.R_reads' HO412.out).2.2 | (with_reducible refine Kd.C_alloc ?_ _) | (with_reducible refine Kd.C_drewN ?_ _) | (with_reducible refine Kd.C_drew ?_))); (case side4 => exact (Kd.R_reads' HO412.out).2.1); rintro e w' ⟨rfl, ⟨nd, rfl⟩⟩) | (go_at_call 18; (with_reducible refine (impl_AreRules.calls _ _ t401 true _ ?side1 ?side2 A24.out).mono ?_); (case side1 => repeat (first | exact (Kd.R_reads' HO404.out).2.2 | (with_reducible refine Kd.C_alloc ?_ _) | (with_reducible refine Kd.C_drewN ?_ _) | (with_reducible refine Kd.C_drew ?_))); (case side2 => exact (Kd.R_reads' HO404.out).2.1); rintro e w30 ⟨rfl, hb⟩; have n0_ := Aside0.mk (Kd.R_below (by (with_reducible repeat (first | apply Kd.R_alloc | apply Kd.R_drewN | apply Kd.R_drew)); exact HO404.out) hb); have n1_ := Aside0.mk (Kd.R_below (by (with_reducible repeat (first | apply Kd.R_alloc | apply Kd.R_drewN | apply Kd.R_drew)); exact HO408.out) hb); have n2_ := Aside0.mk (Kd.R_below (by (with_reducible repeat (first | apply Kd.R_alloc | apply Kd.R_drewN | apply Kd.R_drew)); exact HO412.out) hb); have n3_ := Aside0.mk (below_step (by repeat (first | (with_reducible first | exact HB.out | apply below_alloc | apply pw_below_drewN | apply below_drew1) | exact HB.out)) hb); clear HO404; clear HO408; clear HO412; clear HB; have HO404 := n0_; have HO408 := n1_; have HO412 := n2_; have HB := n3_; clear n0_ n1_ n2_ n3_; (try clear hb); (try clear hb2); (try clear hk); (try clear hi)) | (go_at_call 18; (with_reducible refine (impl_AreRules.calls _ _ t401 true _ ?side1 ?side2 A26.out).mono ?_); (case side1 => repeat (first | exact (Kd.R_reads' HO404.out).2.2 | (with_reducible refine Kd.C_alloc ?_ _) | (with_reducible refine Kd.C_drewN ?_ _) | (with_reducible refine Kd.C_drew ?_))); (case side2 => exact (Kd.R_reads' HO404.out).2.1); rintro e w31 ⟨rfl, hb⟩; have n0_ := Aside0.mk (Kd.R_below (by (with_reducible repeat (first | apply Kd.R_alloc | apply Kd.R_drewN | apply Kd.R_drew)); exact HO404.out) hb); have n1_ := Aside0.mk (Kd.R_below (by (with_reducible repeat (first | apply Kd.R_alloc | apply Kd.R_drewN | apply Kd.R_drew)); exact HO408.out) hb); have n2_ := Aside0.mk (Kd.R_below (by (with_reducible repeat (first | apply Kd.R_alloc | apply Kd.R_drewN | apply Kd.R_drew)); exact HO412.out) hb); have n3_ := Aside0.mk (below_step (by repeat (first | (with_reducible first | exact HB.out | apply below_alloc | apply pw_below_drewN | apply below_drew1) | exact HB.out)) hb); clear HO404; clear HO408; clear HO412; clear HB; have HO404 := n0_; have HO408 := n1_; have HO412 := n2_; have HB := n3_; clear n0_ n1_ n2_ n3_; (try clear hb); (try clear hb2); (try clear hk); (try clear hi)) | (go_at_call 16; (with_reducible refine (spec_AreRules.calls k _ _ t401 t420 _ ?side1 ?side2 A27.out).mono ?_); (case side1 => repeat (first | exact (Kd.R_reads' HO404.out).2.2 | (with_reducible refine Kd.C_alloc ?_ _) | (with_reducible refine Kd.C_drewN ?_ _) | (with_reducible refine Kd.C_drew ?_))); (case side2 => exact (Kd.R_reads' HO404.out).2.1); rintro e w32 ⟨rfl, hb⟩; have n0_ := Aside0.mk (Kd.R_below (by (with_reducible repeat (first | apply Kd.R_alloc | apply Kd.R_drewN | apply Kd.R_drew)); exact HO404.out) hb); have n1_ := Aside0.mk (Kd.R_below (by (with_reducible repeat (first | apply Kd.R_alloc | apply Kd.R_drewN | apply Kd.R_drew)); exact HO408.out) hb); have n2_ := Aside0.mk (Kd.R_below (by (with_reducible repeat (first | apply Kd.R_alloc | apply Kd.R_drewN | apply Kd.R_drew)); exact HO412.out) hb); have n3_ := Aside0.mk (below_step (by repeat (first | (with_reducible first | exact HB.out | apply below_alloc | apply pw_below_drewN | apply below_drew1) | exact HB.out)) hb); clear HO404; clear HO408; clear HO412; clear HB; have HO404 := n0_; have HO408 := n1_; have HO412 := n2_; have HB := n3_; clear n0_ n1_ n2_ n3_; (try clear hb); (try clear hb2); (try clear hk); (try clear hi)))
          refine Met.intro ?_
          go_step
          (repeat with_reducible apply ex32_)
          (repeat apply Exists.intro)
          refine ⟨?rel, rfl⟩
          case rel => exact ⟨_, ((true != t420)), (by first | rfl | (simp; done) | (simp [*]; done)), H', ⟨by first | omega | exact Nat.le_refl _⟩, ⟨by (with_reducible repeat (first | apply Kd.R_alloc | apply Kd.R_drewN | apply Kd.R_drew)); exact HO404.out⟩, ⟨by (with_reducible repeat (first | apply Kd.R_alloc | apply Kd.R_drewN | apply Kd.R_drew)); exact Kd.R_mono HO408.out (fun _ hk => trivial)⟩, ⟨by repeat (first | (with_reducible first | exact HB.out | apply below_alloc | apply pw_below_drewN | apply below_drew1) | exact HB.out)⟩⟩
         ·replace c25 := Bool.eq_false_iff.mpr c25
          subst c25
          have H1 : (some false) = some r := by rw [if_neg (show ¬ (false = true) by decide)] at H; exact H
          clear H
          have H := H1
          clear H1
          exact absurd (Option.some.inj H) (by rw [HRT.out]; decide)
        ·as_aux_lemma =>
         replace c23 := Bool.eq_false_iff.mpr c23
         subst c23
         have H1 : ((impl_AreRules.f t401).bind fun t421 => ((spec_AreRules.f k t401).bind fun t422 => (laws_FnSievesLeave.j0 k l1 t401 t402 t405 false t413 (t421 != t422)))) = some r := by rw [if_neg (show ¬ (false = true) by decide)] at H; exact H
         clear H
         have H := H1
         clear H1
         replace H := Option.bind_eq_some_iff.mp H
         obtain ⟨t421, A330, H⟩ := H
         replace H : ((spec_AreRules.f k t401).bind fun t422 => (laws_FnSievesLeave.j0 k l1 t401 t402 t405 false t413 (t421 != t422))) = some r := H
         have A33 := Aside0.mk A330
         clear A330
         replace H := Option.bind_eq_some_iff.mp H
         obtain ⟨t422, A340, H⟩ := H
         replace H : (laws_FnSievesLeave.j0 k l1 t401 t402 t405 false t413 (t421 != t422)) = some r := H
         have A34 := Aside0.mk A340
         clear A340
         have H' := Aside0.mk H
         clear H
         obtain ⟨Ao35, co35, eo35⟩ := Kd.R_slice HO408.out
         subst eo35
         obtain ⟨Ao36, co36, eo36⟩ := Kd.R_slice HO412.out
         subst eo36
         go_wp2_with (first | (go_at_call 47; (with_reducible refine (laws_tSame.calls k _ _ t405 _ _ t409 true _ ?side1 ?side2 ?side3 ?side4 A18.out).mono ?_); (case side1 => repeat (first | exact (Kd.R_reads' HO408.out).2.2 | (with_reducible refine Kd.C_alloc ?_ _) | (with_reducible refine Kd.C_drewN ?_ _) | (with_reducible refine Kd.C_drew ?_))); (case side2 => exact (Kd.R_reads' HO408.out).2.1); (case side3 => repeat (first | exact (Kd.R_reads' HO412.out).2.2 | (with_reducible refine Kd.C_alloc ?_ _) | (with_reducible refine Kd.C_drewN ?_ _) | (with_reducible refine Kd.C_drew ?_))); (case side4 => exact (Kd.R_reads' HO412.out).2.1); rintro e w' ⟨rfl, ⟨nd, rfl⟩⟩) | (go_at_call 18; (with_reducible refine (impl_AreRules.calls _ _ t401 t421 _ ?side1 ?side2 A33.out).mono ?_); (case side1 => repeat (first | exact (Kd.R_reads' HO404.out).2.2 | (with_reducible refine Kd.C_alloc ?_ _) | (with_reducible refine Kd.C_drewN ?_ _) | (with_reducible refine Kd.C_drew ?_))); (case side2 => exact (Kd.R_reads' HO404.out).2.1); rintro e w37 ⟨rfl, hb⟩; have n0_ := Aside0.mk (Kd.R_below (by (with_reducible repeat (first | apply Kd.R_alloc | apply Kd.R_drewN | apply Kd.R_drew)); exact HO404.out) hb); have n1_ := Aside0.mk (Kd.R_below (by (with_reducible repeat (first | apply Kd.R_alloc | apply Kd.R_drewN | apply Kd.R_drew)); exact HO408.out) hb); have n2_ := Aside0.mk (Kd.R_below (by (with_reducible repeat (first | apply Kd.R_alloc | apply Kd.R_drewN | apply Kd.R_drew)); exact HO412.out) hb); have n3_ := Aside0.mk (below_step (by repeat (first | (with_reducible first | exact HB.out | apply below_alloc | apply pw_below_drewN | apply below_drew1) | exact HB.out)) hb); clear HO404; clear HO408; clear HO412; clear HB; have HO404 := n0_; have HO408 := n1_; have HO412 := n2_; have HB := n3_; clear n0_ n1_ n2_ n3_; (try clear hb); (try clear hb2); (try clear hk); (try clear hi)) | (go_at_call 16; (with_reducible refine (spec_AreRules.calls k _ _ t401 t422 _ ?side1 ?side2 A34.out).mono ?_); (case side1 => repeat (first | exact (Kd.R_reads' HO404.out).2.2 | (with_reducible refine Kd.C_alloc ?_ _) | (with_reducible refine Kd.C_drewN ?_ _) | (with_reducible refine Kd.C_drew ?_))); (case side2 => exact (Kd.R_reads' HO404.out).2.1); rintro e w38 ⟨rfl, hb⟩; have n0_ := Aside0.mk (Kd.R_below (by (with_reducible repeat (first | apply Kd.R_alloc | apply Kd.R_drewN | apply Kd.R_drew)); exact HO404.out) hb); have n1_ := Aside0.mk (Kd.R_below (by (with_reducible repeat (first | apply Kd.R_alloc | apply Kd.R_drewN | apply Kd.R_drew)); exact HO408.out) hb); have n2_ := Aside0.mk (Kd.R_below (by (with_reducible repeat (first | apply Kd.R_alloc | apply Kd.R_drewN | apply Kd.R_drew)); exact HO412.out) hb); have n3_ := Aside0.mk (below_step (by repeat (first | (with_reducible first | exact HB.out | apply below_alloc | apply pw_below_drewN | apply below_drew1) | exact HB.out)) hb); clear HO404; clear HO408; clear HO412; clear HB; have HO404 := n0_; have HO408 := n1_; have HO412 := n2_; have HB := n3_; clear n0_ n1_ n2_ n3_; (try clear hb); (try clear hb2); (try clear hk); (try clear hi)))
         refine Met.intro ?_
         go_step
         (repeat with_reducible apply ex32_)
         (repeat apply Exists.intro)
         refine ⟨?rel, rfl⟩
         case rel => exact ⟨_, ((t421 != t422)), (by first | rfl | (simp; done) | (simp [*]; done)), H', ⟨by first | omega | exact Nat.le_refl _⟩, ⟨by (with_reducible repeat (first | apply Kd.R_alloc | apply Kd.R_drewN | apply Kd.R_drew)); exact HO404.out⟩, ⟨by (with_reducible repeat (first | apply Kd.R_alloc | apply Kd.R_drewN | apply Kd.R_drew)); exact Kd.R_mono HO408.out (fun _ hk => trivial)⟩, ⟨by repeat (first | (with_reducible first | exact HB.out | apply below_alloc | apply pw_below_drewN | apply below_drew1) | exact HB.out)⟩⟩
      ·rw [if_neg c21] at H
       have c21b0 : (t413 == t415) = false := beq_eq_false_iff_ne.mpr c21
       have c21b1 : (t413 != t415) = true := bne_iff_ne.mpr c21
       exact absurd (Option.some.inj H) (by rw [HRT.out]; decide)
    ·replace c19 := Bool.eq_false_iff.mpr c19
     subst c19
     have H1 : (some false) = some r := by rw [if_neg (show ¬ (false = true) by decide)] at H; exact H
     clear H
     have H := H1
     clear H1
     exact absurd (Option.some.inj H) (by rw [HRT.out]; decide)
  case rest => as_aux_lemma =>
   clear HC10
   obtain ⟨kq, x134_9, rfl, HA, HJ9, HO_5, HO_7, HB⟩ := hcut
   cases kq with
   | zero => exact absurd HA.out (by simp [laws_FnSievesLeave.j0])
   | succ kj9 =>
    have H := HA.out
    clear HA
    simp only [laws_FnSievesLeave.j0] at H
    by_cases c39 : x134_9 = true
    ·subst c39
     have H1 : (some false) = some r := by rw [if_pos rfl] at H; exact H
     clear H
     have H := H1
     clear H1
     exact absurd (Option.some.inj H) (by rw [HRT.out]; decide)
    ·replace c39 := Bool.eq_false_iff.mpr c39
     subst c39
     have H1 : (if t406 = true then (if (t405.length : Int) = t413 then ((laws_tRises.f kj9 t405 1 t402).bind fun t423 => (if t423 = true then (laws_FnSievesLeave.l0 kj9 l1 t401 t402 t405 t413 1) else (some false))) else (some false)) else (laws_FnSievesLeave.j4 kj9 l1)) = some r := by rw [if_neg (show ¬ (false = true) by decide)] at H; exact H
     clear H
     have H := H1
     clear H1
     have HC40 := Aside0.mk H
     clear H
     as_aux_lemma =>
     go_upto_if 135 with (fail)
     go_cut [] from 455 to 455 (fun wc => ∃ (kq : Nat), Aside0 (laws_FnSievesLeave.j4 kq l1 = some r) ∧ Aside0 (kq ≤ kj9) ∧ Aside0 (Below w.heap.size w wc))
     case first => as_aux_lemma =>
      have H := HC40.out
      clear HC40
      by_cases c41 : t406 = true
      ·subst c41
       have H1 : (if (t405.length : Int) = t413 then ((laws_tRises.f kj9 t405 1 t402).bind fun t423 => (if t423 = true then (laws_FnSievesLeave.l0 kj9 l1 t401 t402 t405 t413 1) else (some false))) else (some false)) = some r := by rw [if_pos rfl] at H; exact H
       clear H
       have H := H1
       clear H1
       by_cases c42 : (t405.length : Int) = t413
       ·rw [if_pos c42] at H
        have c42b0 : ((t405.length : Int) == t413) = true := beq_iff_eq.mpr c42
        have c42b1 : ((t405.length : Int) != t413) = false := bne_eq_false_iff_eq.mpr c42
        clear c42
        (first | rw [c42b0] | (simp only [i64_w, i32_w]; rw [c42b0]) | skip)
        replace H := Option.bind_eq_some_iff.mp H
        obtain ⟨t423, A430, H⟩ := H
        replace H : (if t423 = true then (laws_FnSievesLeave.l0 kj9 l1 t401 t402 t405 t413 1) else (some false)) = some r := H
        have A43 := Aside0.mk A430
        clear A430
        by_cases c44 : t423 = true
        ·subst c44
         have H1 : (laws_FnSievesLeave.l0 kj9 l1 t401 t402 t405 t413 1) = some r := by rw [if_pos rfl] at H; exact H
         clear H
         have H := H1
         clear H1
         have H' := Aside0.mk H
         clear H
         obtain ⟨Ao45, co45, eo45⟩ := Kd.R_slice HO_7.out
         subst eo45
         go_wp2_with (first | (go_at_call 48; (with_reducible refine (laws_tRises.calls kj9 _ _ t405 1 t402 true _ ?side1 ?side2 A43.out).mono ?_); (case side1 => repeat (first | exact (Kd.R_reads' HO_7.out).2.2 | (with_reducible refine Kd.C_alloc ?_ _) | (with_reducible refine Kd.C_drewN ?_ _) | (with_reducible refine Kd.C_drew ?_))); (case side2 => exact (Kd.R_reads' HO_7.out).2.1); rintro e w' ⟨rfl, ⟨nd, rfl⟩⟩))
         as_aux_lemma =>
         go_loopg [15] kj9 (fun kq v15 w' => ∃ (x15_2 : Int), v15 = .int .i64 x15_2 ∧ Aside0 (laws_FnSievesLeave.l0 kq l1 t401 t402 t405 t413 x15_2 = some r) ∧ Aside0 (kq ≤ kj9) ∧ Aside0 (Kd.R k53 53 w' w.heap.size (fun _ => True) (.slice Ao12 t401.length co12) t401) ∧ Aside0 (Kd.R (Kd.int .i64) 3 w' w.heap.size (fun _ => True) (.slice Ao45 t405.length co45) t405) ∧ Aside0 (Below w.heap.size w w'))
         case atStart => exact ⟨(1), (by first | rfl | (simp; done) | (simp [*]; done)), H', ⟨Nat.le_refl _⟩, ⟨by (with_reducible repeat (first | apply Kd.R_alloc | apply Kd.R_drewN | apply Kd.R_drew)); exact HO_5.out⟩, ⟨by (with_reducible repeat (first | apply Kd.R_alloc | apply Kd.R_drewN | apply Kd.R_drew)); exact HO_7.out⟩, ⟨by repeat (first | (with_reducible first | exact HB.out | apply below_alloc | apply pw_below_drewN | apply below_drew1) | exact HB.out)⟩⟩
         case round => as_aux_lemma =>
          clear H'
          obtain ⟨x15_2, rfl, HA, HK2, HO_5, HO_7, HB⟩ := hrel
          cases gk with
          | zero => exact absurd HA.out (by simp [laws_FnSievesLeave.l0])
          | succ k2 =>
           have H := HA.out
           clear HA
           simp only [laws_FnSievesLeave.l0] at H
           by_cases c46 : x15_2 ≤ t402
           ·rw [if_pos c46] at H
            have c46b0 : decide (x15_2 ≤ t402) = true := decide_eq_true c46
            clear c46
            replace H := Option.bind_eq_some_iff.mp H
            obtain ⟨⟨t424, t425⟩, A470, H⟩ := H
            replace H : ((impl_FirstRule.f t401 x15_2).bind fun bt426 => (if t425 = true then ((laws_tHas.f k2 t405 x15_2).bind fun t428 => (if (t424 != t428) = true then (some false) else (if (bt426.2 == t424) = true then (some false) else (if bt426.2 = true then (if bt426.1 < 0 then (some false) else (if bt426.1 ≥ (t401.length : Int) then (some false) else (if 0 ≤ bt426.1 then (if bt426.1 < (t401.length : Int) then (if ((rd_T53 t401 bt426.1).f0) = 0 then (none) else (if (Int.tmod x15_2 ((rd_T53 t401 bt426.1).f0)) = ((rd_T53 t401 bt426.1).f1) then (laws_FnSievesLeave.l0 k2 l1 t401 t402 t405 t413 (wrap64 (x15_2 + 1))) else (some false))) else (none)) else (none)))) else (laws_FnSievesLeave.l0 k2 l1 t401 t402 t405 t413 (wrap64 (x15_2 + 1))))))) else (some false))) = some r := H
            have A47 := Aside0.mk A470
            clear A470
            replace H := Option.bind_eq_some_iff.mp H
            obtain ⟨⟨t426, t427⟩, A480, H⟩ := H
            replace H : (if t425 = true then ((laws_tHas.f k2 t405 x15_2).bind fun t428 => (if (t424 != t428) = true then (some false) else (if (t427 == t424) = true then (some false) else (if t427 = true then (if t426 < 0 then (some false) else (if t426 ≥ (t401.length : Int) then (some false) else (if 0 ≤ t426 then (if t426 < (t401.length : Int) then (if ((rd_T53 t401 t426).f0) = 0 then (none) else (if (Int.tmod x15_2 ((rd_T53 t401 t426).f0)) = ((rd_T53 t401 t426).f1) then (laws_FnSievesLeave.l0 k2 l1 t401 t402 t405 t413 (wrap64 (x15_2 + 1))) else (some false))) else (none)) else (none)))) else (laws_FnSievesLeave.l0 k2 l1 t401 t402 t405 t413 (wrap64 (x15_2 + 1))))))) else (some false)) = some r := H
            have A48 := Aside0.mk A480
            clear A480
            by_cases c49 : t425 = true
            ·subst c49
             have H1 : ((laws_tHas.f k2 t405 x15_2).bind fun t428 => (if (t424 != t428) = true then (some false) else (if (t427 == t424) = true then (some false) else (if t427 = true then (if t426 < 0 then (some false) else (if t426 ≥ (t401.length : Int) then (some false) else (if 0 ≤ t426 then (if t426 < (t401.length : Int) then (if ((rd_T53 t401 t426).f0) = 0 then (none) else (if (Int.tmod x15_2 ((rd_T53 t401 t426).f0)) = ((rd_T53 t401 t426).f1) then (laws_FnSievesLeave.l0 k2 l1 t401 t402 t405 t413 (wrap64 (x15_2 + 1))) else (some false))) else (none)) else (none)))) else (laws_FnSievesLeave.l0 k2 l1 t401 t402 t405 t413 (wrap64 (x15_2 + 1))))))) = some r := by rw [if_pos rfl] at H; exact H
             clear H
             have H := H1
             clear H1
             as_aux_lemma =>
             replace H := Option.bind_eq_some_iff.mp H
             obtain ⟨t428, A500, H⟩ := H
             replace H : (if (t424 != t428) = true then (some false) else (if (t427 == t424) = true then (some false) else (if t427 = true then (if t426 < 0 then (some false) else (if t426 ≥ (t401.length : Int) then (some false) else (if 0 ≤ t426 then (if t426 < (t401.length : Int) then (if ((rd_T53 t401 t426).f0) = 0 then (none) else (if (Int.tmod x15_2 ((rd_T53 t401 t426).f0)) = ((rd_T53 t401 t426).f1) then (laws_FnSievesLeave.l0 k2 l1 t401 t402 t405 t413 (wrap64 (x15_2 + 1))) else (some false))) else (none)) else (none)))) else (laws_FnSievesLeave.l0 k2 l1 t401 t402 t405 t413 (wrap64 (x15_2 + 1)))))) = some r := H
             have A50 := Aside0.mk A500
             clear A500
             by_cases c51 : (t424 != t428) = true
             ·rw [if_pos c51] at H
              have c51b0 : (t424 != t428) = true := c51
              (try (have c51b1 : decide (t424 = t428) = false := by simpa using c51))
              (try (have c51b2 : (t424 == t428) = false := by simpa using c51))
              (try (have c51b3 : ¬ (t424 = t428) := by simpa using c51))
              clear c51
              exact absurd (Option.some.inj H) (by rw [HRT.out]; decide)
             ·rw [if_neg c51] at H
              have c51b0 : (t424 != t428) = false := by simpa using c51
              (try (have c51b1 : decide (t424 = t428) = true := by simpa using c51))
              (try (have c51b2 : (t424 == t428) = true := by simpa using c51))
              clear c51
              by_cases c52 : (t427 == t424) = true
              ·rw [if_pos c52] at H
               have c52b0 : (t427 == t424) = true := c52
               (try (have c52b1 : decide (t427 = t424) = true := by simpa using c52))
               (try (have c52b2 : (t427 == t424) = true := by simpa using c52))
               clear c52
               exact absurd (Option.some.inj H) (by rw [HRT.out]; decide)
              ·as_aux_lemma =>
               rw [if_neg c52] at H
               have c52b0 : (t427 == t424) = false := by simpa using c52
               (try (have c52b1 : decide (t427 = t424) = false := by simpa using c52))
               (try (have c52b2 : (t427 == t424) = false := by simpa using c52))
               (try (have c52b3 : ¬ (t427 = t424) := by simpa using c52))
               clear c52
               by_cases c53 : t427 = true
               ·subst c53
                have H1 : (if t426 < 0 then (some false) else (if t426 ≥ (t401.length : Int) then (some false) else (if 0 ≤ t426 then (if t426 < (t401.length : Int) then (if ((rd_T53 t401 t426).f0) = 0 then (none) else (if (Int.tmod x15_2 ((rd_T53 t401 t426).f0)) = ((rd_T53 t401 t426).f1) then (laws_FnSievesLeave.l0 k2 l1 t401 t402 t405 t413 (wrap64 (x15_2 + 1))) else (some false))) else (none)) else (none)))) = some r := by rw [if_pos rfl] at H; exact H
                clear H
                have H := H1
                clear H1
                by_cases c54 : t426 < 0
                ·rw [if_pos c54] at H
                 have c54b0 : decide (t426 < 0) = true := decide_eq_true c54
                 clear c54
                 exact absurd (Option.some.inj H) (by rw [HRT.out]; decide)
                ·rw [if_neg c54] at H
                 have c54b0 : decide (t426 < 0) = false := decide_eq_false c54
                 clear c54
                 by_cases c55 : t426 ≥ (t401.length : Int)
                 ·rw [if_pos c55] at H
                  have c55b0 : decide ((t401.length : Int) ≤ t426) = true := decide_eq_true c55
                  clear c55
                  exact absurd (Option.some.inj H) (by rw [HRT.out]; decide)
                 ·as_aux_lemma =>
                  rw [if_neg c55] at H
                  have c55b0 : decide ((t401.length : Int) ≤ t426) = false := decide_eq_false c55
                  clear c55
                  by_cases c56 : 0 ≤ t426
                  ·rw [if_pos c56] at H
                   have c56b0 : decide (0 ≤ t426) = true := decide_eq_true c56
                   clear c56
                   by_cases c57 : t426 < (t401.length : Int)
                   ·rw [if_pos c57] at H
                    have c57b0 : decide (t426 < (t401.length : Int)) = true := decide_eq_true c57
                    clear c57
                    by_cases c58 : ((rd_T53 t401 t426).f0) = 0
                    ·rw [if_pos c58] at H
                     exact absurd H (by simp)
                    ·rw [if_neg c58] at H
                     have c58b0 : (((rd_T53 t401 t426).f0) == 0) = false := beq_eq_false_iff_ne.mpr c58
                     have c58b1 : (((rd_T53 t401 t426).f0) != 0) = true := bne_iff_ne.mpr c58
                     by_cases c59 : (Int.tmod x15_2 ((rd_T53 t401 t426).f0)) = ((rd_T53 t401 t426).f1)
                     ·rw [if_pos c59] at H
                      have c59b0 : ((Int.tmod x15_2 ((rd_T53 t401 t426).f0)) == ((rd_T53 t401 t426).f1)) = true := beq_iff_eq.mpr c59
                      have c59b1 : ((Int.tmod x15_2 ((rd_T53 t401 t426).f0)) != ((rd_T53 t401 t426).f1)) = false := bne_eq_false_iff_eq.mpr c59
                      clear c59
                      have H' := Aside0.mk H
                      clear H
                      try go_wp2_with (first | ((with_reducible refine gate_callee (f := 23) rfl ?_); refine goesL_ (some 154) rfl rfl Try.func23 (by kernel_rfl) rfl #[.slice Ao12 t401.length co12, .int .i64 x15_2] rfl (by (try simp only [List.map_toArray, List.map_cons, List.map_nil]); first | done | rfl | (simp only [List.length_drop, List.length_take]; rfl)) ?_; (with_reducible refine (impl_IsLeft.calls _ _ t401 x15_2 t424 true _ ?side1 ?side2 A47.out).mono ?_); (case side1 => repeat (first | exact (Kd.R_reads' HO_5.out).2.2 | (with_reducible refine Kd.C_alloc ?_ _) | (with_reducible refine Kd.C_drewN ?_ _) | (with_reducible refine Kd.C_drew ?_))); (case side2 => exact (Kd.R_reads' HO_5.out).2.1); rintro e w60 ⟨rfl, hb⟩; refine ⟨_, rfl, ?_⟩; have n0_ := Aside0.mk (Kd.R_below (by (with_reducible repeat (first | apply Kd.R_alloc | apply Kd.R_drewN | apply Kd.R_drew)); exact HO_5.out) hb); have n1_ := Aside0.mk (Kd.R_below (by (with_reducible repeat (first | apply Kd.R_alloc | apply Kd.R_drewN | apply Kd.R_drew)); exact HO_7.out) hb); have n2_ := Aside0.mk (below_step (by repeat (first | (with_reducible first | exact HB.out | apply below_alloc | apply pw_below_drewN | apply below_drew1) | exact HB.out)) hb); clear HO_5; clear HO_7; clear HB; have HO_5 := n0_; have HO_7 := n1_; have HB := n2_; clear n0_ n1_ n2_; (try clear hb); (try clear hb2); (try clear hk); (try clear hi)) | ((with_reducible refine gate_callee (f := 21) rfl ?_); refine goesL_ (some 160) rfl rfl Try.func21 (by kernel_rfl) rfl #[.slice Ao12 t401.length co12, .int .i64 x15_2] rfl (by (try simp only [List.map_toArray, List.map_cons, List.map_nil]); first | done | rfl | (simp only [List.length_drop, List.length_take]; rfl)) ?_; (with_reducible refine (impl_FirstRule.calls _ _ t401 x15_2 t426 true _ ?side1 ?side2 A48.out).mono ?_); (case side1 => repeat (first | exact (Kd.R_reads' HO_5.out).2.2 | (with_reducible refine Kd.C_alloc ?_ _) | (with_reducible refine Kd.C_drewN ?_ _) | (with_reducible refine Kd.C_drew ?_))); (case side2 => exact (Kd.R_reads' HO_5.out).2.1); rintro e w61 ⟨rfl, hb⟩; refine ⟨_, rfl, ?_⟩; have n0_ := Aside0.mk (Kd.R_below (by (with_reducible repeat (first | apply Kd.R_alloc | apply Kd.R_drewN | apply Kd.R_drew)); exact HO_5.out) hb); have n1_ := Aside0.mk (Kd.R_below (by (with_reducible repeat (first | apply Kd.R_alloc | apply Kd.R_drewN | apply Kd.R_drew)); exact HO_7.out) hb); have n2_ := Aside0.mk (below_step (by repeat (first | (with_reducible first | exact HB.out | apply below_alloc | apply pw_below_drewN | apply below_drew1) | exact HB.out)) hb); clear HO_5; clear HO_7; clear HB; have HO_5 := n0_; have HO_7 := n1_; have HB := n2_; clear n0_ n1_ n2_; (try clear hb); (try clear hb2); (try clear hk); (try clear hi)))
                      have n0_ := Aside0.mk (Kd.R_drew HO_5.out)
                      have n1_ := Aside0.mk (Kd.R_drew HO_7.out)
                      have n2_ := Aside0.mk (below_drew1 HB.out)
                      clear HO_5
                      clear HO_7
                      clear HB
                      have HO_5 := n0_
                      have HO_7 := n1_
                      have HB := n2_
                      clear n0_ n1_ n2_
                      have p429 : 0 ≤ (t426 : Int) := of_decide_eq_true (by first | (with_reducible assumption) | assumption)
                      have q429 : t426 < (t401.length : Int) := of_decide_eq_true (by first | (with_reducible assumption) | assumption)
                      obtain ⟨ad429, e429, hx429_0, hx429_1⟩ := at_T53 (Kd.R_reads' HO_5.out).2.2 t426 p429 q429
                      cases e429
                      replace p429 := eq_true p429
                      replace q429 := eq_true q429
                      have p430 : 0 ≤ (t426 : Int) := of_decide_eq_true (by first | (with_reducible assumption) | assumption)
                      have q430 : t426 < (t401.length : Int) := of_decide_eq_true (by first | (with_reducible assumption) | assumption)
                      obtain ⟨ad430, e430, hx430_0, hx430_1⟩ := at_T53 (Kd.R_reads' HO_5.out).2.2 t426 p430 q430
                      obtain rfl : ad429 = ad430 := (by injection e430)
                      replace p430 := eq_true p430
                      replace q430 := eq_true q430
                      refine start_ (n := 42) (S := fun w' => w'.cell? (ad429.add ((t426).toNat * 2)) = some (.int .i64 ((rd_T53 t401 t426).f0)) ∧ w'.cell? ⟨(ad429.add ((t426).toNat * 2)).block, (ad429.add ((t426).toNat * 2)).off + 1, none⟩ = some (.int .i64 ((rd_T53 t401 t426).f1)) ∧ w'.cell? (ad429.add ((t426).toNat * 2)) = some (.int .i64 ((rd_T53 t401 t426).f0)) ∧ w'.cell? ⟨(ad429.add ((t426).toNat * 2)).block, (ad429.add ((t426).toNat * 2)).off + 1, none⟩ = some (.int .i64 ((rd_T53 t401 t426).f1))) (ds := []) #[false, false, false, false, false, false, false, false, false, false, false, false, false, false, false, false, false, false, false, false, false, false, false, false, false, false, false, false, false, false, false, false, false, false, false, false, false, false, false, false, false, false] (by kernel_rfl) rfl rfl ⟨hx429_0, hx429_1, hx430_0, hx430_1⟩ (fun hHeld => ?_); refine with_tabW laws_FnSievesLeave.tab18 laws_FnSievesLeave.bits18 (fun HT_ HW_ => ?_)
                      generalize w61.drew = w62 at HO_5 HO_7 HB hx429_0 hx429_1 hx430_0 hx430_1 hHeld ⊢
                      refine pure_ (i := 0) (N := some 163) (v := ?_) (a' := ?_) #[true, false, false, false, false, false, false, false, false, false, false, false, false, false, false, false, false, false, false, false, false, false, false, false, false, false, false, false, false, false, false, false, false, false, false, false, false, false, false, false, false, false] rfl rfl (any_of HT_.out (by kernel_rfl)) (fun _ _ _ h => h) (Or.inl ⟨by rfl, ?_⟩) ?_ ?_
                      rotate_left
                      ·intro w'
                       go_simp
                       with_reducible rfl
                      rotate_left
                      ·simp only [Act.put, List.setIfInBounds_toArray, List.set_cons_zero, List.set_cons_succ, i64_w, i32_w]
                       rfl
                      refine pure_ (i := 1) (N := some 164) (v := ?_) (a' := ?_) #[true, true, false, false, false, false, false, false, false, false, false, false, false, false, false, false, false, false, false, false, false, false, false, false, false, false, false, false, false, false, false, false, false, false, false, false, false, false, false, false, false, false] rfl rfl (any_of HT_.out (by kernel_rfl)) (fun _ _ _ h => h) (Or.inl ⟨by rfl, ?_⟩) ?_ ?_
                      rotate_left
                      ·intro w'
                       go_simp
                       with_reducible rfl
                      rotate_left
                      ·simp only [Act.put, List.setIfInBounds_toArray, List.set_cons_zero, List.set_cons_succ, i64_w, i32_w]
                       rfl
                      refine pure_ (i := 2) (N := some 165) (v := ?_) (a' := ?_) #[true, true, true, false, false, false, false, false, false, false, false, false, false, false, false, false, false, false, false, false, false, false, false, false, false, false, false, false, false, false, false, false, false, false, false, false, false, false, false, false, false, false] rfl rfl (any_of HT_.out (by kernel_rfl)) (fun _ _ _ h => h) (Or.inl ⟨by rfl, ?_⟩) ?_ ?_
                      rotate_left
                      ·intro w'
                       go_simp
                       with_reducible rfl
                      rotate_left
                      ·simp only [Act.put, List.setIfInBounds_toArray, List.set_cons_zero, List.set_cons_succ, i64_w, i32_w]
                       rfl
                      refine pure_ (i := 3) (N := some 166) (v := ?_) (a' := ?_) #[true, true, true, true, false, false, false, false, false, false, false, false, false, false, false, false, false, false, false, false, false, false, false, false, false, false, false, false, false, false, false, false, false, false, false, false, false, false, false, false, false, false] rfl rfl (any_of HT_.out (by kernel_rfl)) (fun _ _ _ h => h) (Or.inl ⟨by rfl, ?_⟩) ?_ ?_
                      rotate_left
                      ·intro w'
                       go_simp
                       with_reducible rfl
                      rotate_left
                      ·simp only [Act.put, List.setIfInBounds_toArray, List.set_cons_zero, List.set_cons_succ, i64_w, i32_w]
                       rfl
                      refine pure_ (i := 4) (N := some 167) (v := ?_) (a' := ?_) #[true, true, true, true, true, false, false, false, false, false, false, false, false, false, false, false, false, false, false, false, false, false, false, false, false, false, false, false, false, false, false, false, false, false, false, false, false, false, false, false, false, false] rfl rfl (any_of HT_.out (by kernel_rfl)) (fun _ _ _ h => h) (Or.inl ⟨by rfl, ?_⟩) ?_ ?_
                      rotate_left
                      ·intro w'
                       go_simp
                       with_reducible rfl
                      rotate_left
                      ·simp only [Act.put, List.setIfInBounds_toArray, List.set_cons_zero, List.set_cons_succ, i64_w, i32_w]
                       rfl
                      refine pure_ (i := 5) (N := some 168) (v := ?_) (a' := ?_) #[true, true, true, true, true, true, false, false, false, false, false, false, false, false, false, false, false, false, false, false, false, false, false, false, false, false, false, false, false, false, false, false, false, false, false, false, false, false, false, false, false, false] rfl rfl (any_of HT_.out (by kernel_rfl)) (fun _ _ _ h => h) (Or.inl ⟨by rfl, ?_⟩) ?_ ?_
                      rotate_left
                      ·intro w'
                       go_simp
                       with_reducible rfl
                      rotate_left
                      ·simp only [Act.put, List.setIfInBounds_toArray, List.set_cons_zero, List.set_cons_succ, i64_w, i32_w]
                       rfl
                      refine one_ (i := 6) (N := some 169) #[true, true, true, true, true, true, true, false, false, false, false, false, false, false, false, false, false, false, false, false, false, false, false, false, false, false, false, false, false, false, false, false, false, false, false, false, false, false, false, false, false, false] rfl rfl (one_of HT_.out (by kernel_rfl)) (by decide) (fun K hK => ?_)
                      refine goes_ Try.func49 (by kernel_rfl) rfl #[.slice Ao45 t405.length co45, .int .i64 x15_2] (by rfl) rfl rfl (by (try simp only [List.map_toArray, List.map_cons, List.map_nil]); first | done | rfl | (simp only [List.length_drop, List.length_take]; rfl)) ?_
                      with_reducible refine (laws_tHas.calls k2 _ _ t405 x15_2 t428 _ ?side1 ?side2 A50.out).mono ?_
                      (case side1 => repeat (first | exact (Kd.R_reads' HO_7.out).2.2 | (with_reducible refine Kd.C_alloc ?_ _) | (with_reducible refine Kd.C_drewN ?_ _) | (with_reducible refine Kd.C_drew ?_)))
                      (case side2 => exact (Kd.R_reads' HO_7.out).2.1)
                      rintro e w' ⟨rfl, ⟨nd, rfl⟩⟩
                      refine ⟨_, rfl, ?_⟩
                      refine hK.out _ _ ⟨hHeld.1, hHeld.2.1, hHeld.2.2.1, hHeld.2.2.2⟩ (fun hHeld => ?_)
                      clear hK K
                      refine norm_ (a' := ?_) ?_ ?_
                      rotate_left
                      ·show Act.put _ (some 169) _ = _
                       simp only [Act.put, List.setIfInBounds_toArray, List.set_cons_zero, List.set_cons_succ, i64_w, i32_w]
                       rfl
                      refine pure_ (i := 7) (N := some 170) (v := ?_) (a' := ?_) #[true, true, true, true, true, true, true, true, false, false, false, false, false, false, false, false, false, false, false, false, false, false, false, false, false, false, false, false, false, false, false, false, false, false, false, false, false, false, false, false, false, false] rfl rfl (any_of HT_.out (by kernel_rfl)) (fun _ _ _ h => h) (Or.inl ⟨by rfl, ?_⟩) ?_ ?_
                      rotate_left
                      ·intro w'
                       go_simp
                       with_reducible rfl
                      rotate_left
                      ·simp only [Act.put, List.setIfInBounds_toArray, List.set_cons_zero, List.set_cons_succ, i64_w, i32_w]
                       rfl
                      refine pure_ (i := 8) (N := some 171) (v := ?_) (a' := ?_) #[true, true, true, true, true, true, true, true, true, false, false, false, false, false, false, false, false, false, false, false, false, false, false, false, false, false, false, false, false, false, false, false, false, false, false, false, false, false, false, false, false, false] rfl rfl (any_of HT_.out (by kernel_rfl)) (fun _ _ _ h => h) (Or.inl ⟨by rfl, ?_⟩) ?_ ?_
                      rotate_left
                      ·intro w'
                       go_simp
                       with_reducible rfl
                      rotate_left
                      ·simp only [Act.put, List.setIfInBounds_toArray, List.set_cons_zero, List.set_cons_succ, i64_w, i32_w]
                       rfl
                      refine pure_ (i := 9) (N := some 172) (v := ?_) (a' := ?_) #[true, true, true, true, true, true, true, true, true, true, false, false, false, false, false, false, false, false, false, false, false, false, false, false, false, false, false, false, false, false, false, false, false, false, false, false, false, false, false, false, false, false] rfl rfl (any_of HT_.out (by kernel_rfl)) (fun _ _ _ h => h) (Or.inl ⟨by rfl, ?_⟩) ?_ ?_
                      rotate_left
                      ·intro w'
                       go_simp
                       with_reducible rfl
                      rotate_left
                      ·simp only [Act.put, List.setIfInBounds_toArray, List.set_cons_zero, List.set_cons_succ, i64_w, i32_w]
                       rfl
                      refine pure_ (i := 10) (N := some 173) (v := ?_) (a' := ?_) #[true, true, true, true, true, true, true, true, true, true, true, false, false, false, false, false, false, false, false, false, false, false, false, false, false, false, false, false, false, false, false, false, false, false, false, false, false, false, false, false, false, false] rfl rfl (any_of HT_.out (by kernel_rfl)) (fun _ _ _ h => h) (Or.inl ⟨by rfl, ?_⟩) ?_ ?_
                      rotate_left
                      ·intro w'
                       go_simp
                       with_reducible rfl
                      rotate_left
                      ·simp only [Act.put, List.setIfInBounds_toArray, List.set_cons_zero, List.set_cons_succ, i64_w, i32_w]
                       rfl
                      refine pure_ (i := 11) (N := some 174) (v := ?_) (a' := ?_) #[true, true, true, true, true, true, true, true, true, true, true, true, false, false, false, false, false, false, false, false, false, false, false, false, false, false, false, false, false, false, false, false, false, false, false, false, false, false, false, false, false, false] rfl rfl (any_of HT_.out (by kernel_rfl)) (fun _ _ _ h => h) (Or.inl ⟨by rfl, ?_⟩) ?_ ?_
                      rotate_left
                      ·intro w'
                       go_simp
                       with_reducible rfl
                      rotate_left
                      ·simp only [Act.put, List.setIfInBounds_toArray, List.set_cons_zero, List.set_cons_succ, i64_w, i32_w]
                       rfl
                      refine pure_ (i := 12) (N := some 175) (v := ?_) (a' := ?_) #[true, true, true, true, true, true, true, true, true, true, true, true, true, false, false, false, false, false, false, false, false, false, false, false, false, false, false, false, false, false, false, false, false, false, false, false, false, false, false, false, false, false] rfl rfl (any_of HT_.out (by kernel_rfl)) (fun _ _ _ h => h) (Or.inl ⟨by rfl, ?_⟩) ?_ ?_
                      rotate_left
                      ·intro w'
                       go_simp
                       with_reducible rfl
                      rotate_left
                      ·simp only [Act.put, List.setIfInBounds_toArray, List.set_cons_zero, List.set_cons_succ, i64_w, i32_w]
                       rfl
                      refine pure_ (i := 13) (N := some 176) (v := ?_) (a' := ?_) #[true, true, true, true, true, true, true, true, true, true, true, true, true, true, false, false, false, false, false, false, false, false, false, false, false, false, false, false, false, false, false, false, false, false, false, false, false, false, false, false, false, false] rfl rfl (any_of HT_.out (by kernel_rfl)) (fun _ _ _ h => h) (Or.inl ⟨by rfl, ?_⟩) ?_ ?_
                      rotate_left
                      ·intro w'
                       go_simp
                       with_reducible rfl
                      rotate_left
                      ·simp only [Act.put, List.setIfInBounds_toArray, List.set_cons_zero, List.set_cons_succ, i64_w, i32_w]
                       rfl
                      refine pure_ (i := 14) (N := some 177) (v := ?_) (a' := ?_) #[true, true, true, true, true, true, true, true, true, true, true, true, true, true, true, false, false, false, false, false, false, false, false, false, false, false, false, false, false, false, false, false, false, false, false, false, false, false, false, false, false, false] rfl rfl (any_of HT_.out (by kernel_rfl)) (fun _ _ _ h => h) (Or.inl ⟨by rfl, ?_⟩) ?_ ?_
                      rotate_left
                      ·intro w'
                       go_simp
                       with_reducible rfl
                      rotate_left
                      ·simp only [Act.put, List.setIfInBounds_toArray, List.set_cons_zero, List.set_cons_succ, i64_w, i32_w]
                       rfl
                      refine pure_ (i := 15) (N := some 178) (v := ?_) (a' := ?_) #[true, true, true, true, true, true, true, true, true, true, true, true, true, true, true, true, false, false, false, false, false, false, false, false, false, false, false, false, false, false, false, false, false, false, false, false, false, false, false, false, false, false] rfl rfl (any_of HT_.out (by kernel_rfl)) (fun _ _ _ h => h) (Or.inl ⟨by rfl, ?_⟩) ?_ ?_
                      rotate_left
                      ·intro w'
                       go_simp
                       with_reducible rfl
                      rotate_left
                      ·simp only [Act.put, List.setIfInBounds_toArray, List.set_cons_zero, List.set_cons_succ, i64_w, i32_w]
                       rfl
                      refine pure_ (i := 16) (N := some 179) (v := ?_) (a' := ?_) #[true, true, true, true, true, true, true, true, true, true, true, true, true, true, true, true, true, false, false, false, false, false, false, false, false, false, false, false, false, false, false, false, false, false, false, false, false, false, false, false, false, false] rfl rfl (any_of HT_.out (by kernel_rfl)) (fun _ _ _ h => h) (Or.inl ⟨by rfl, ?_⟩) ?_ ?_
                      rotate_left
                      ·intro w'
                       go_simp
                       with_reducible rfl
                      rotate_left
                      ·simp only [Act.put, List.setIfInBounds_toArray, List.set_cons_zero, List.set_cons_succ, i64_w, i32_w]
                       rfl
                      refine pure_ (i := 17) (N := some 180) (v := ?_) (a' := ?_) #[true, true, true, true, true, true, true, true, true, true, true, true, true, true, true, true, true, true, false, false, false, false, false, false, false, false, false, false, false, false, false, false, false, false, false, false, false, false, false, false, false, false] rfl rfl (any_of HT_.out (by kernel_rfl)) (fun _ _ _ h => h) (Or.inl ⟨by rfl, ?_⟩) ?_ ?_
                      rotate_left
                      ·intro w'
                       go_simp
                       with_reducible rfl
                      rotate_left
                      ·simp only [Act.put, List.setIfInBounds_toArray, List.set_cons_zero, List.set_cons_succ, i64_w, i32_w]
                       rfl
                      refine pure_ (i := 18) (N := some 181) (v := ?_) (a' := ?_) #[true, true, true, true, true, true, true, true, true, true, true, true, true, true, true, true, true, true, true, false, false, false, false, false, false, false, false, false, false, false, false, false, false, false, false, false, false, false, false, false, false, false] rfl rfl (any_of HT_.out (by kernel_rfl)) (fun _ _ _ h => h) (Or.inl ⟨by rfl, ?_⟩) ?_ ?_
                      rotate_left
                      ·intro w'
                       go_simp
                       with_reducible rfl
                      rotate_left
                      ·simp only [Act.put, List.setIfInBounds_toArray, List.set_cons_zero, List.set_cons_succ, i64_w, i32_w]
                       rfl
                      refine pure_ (i := 19) (N := some 182) (v := ?_) (a' := ?_) #[true, true, true, true, true, true, true, true, true, true, true, true, true, true, true, true, true, true, true, true, false, false, false, false, false, false, false, false, false, false, false, false, false, false, false, false, false, false, false, false, false, false] rfl rfl (any_of HT_.out (by kernel_rfl)) (fun _ _ _ h => h) (Or.inl ⟨by rfl, ?_⟩) ?_ ?_
                      rotate_left
                      ·intro w'
                       go_simp
                       with_reducible rfl
                      rotate_left
                      ·simp only [Act.put, List.setIfInBounds_toArray, List.set_cons_zero, List.set_cons_succ, i64_w, i32_w]
                       rfl
                      refine pure_ (i := 20) (N := some 183) (v := ?_) (a' := ?_) #[true, true, true, true, true, true, true, true, true, true, true, true, true, true, true, true, true, true, true, true, true, false, false, false, false, false, false, false, false, false, false, false, false, false, false, false, false, false, false, false, false, false] rfl rfl (any_of HT_.out (by kernel_rfl)) (fun _ _ _ h => h) (Or.inl ⟨by rfl, ?_⟩) ?_ ?_
                      rotate_left
                      ·intro w'
                       go_simp
                       with_reducible rfl
                      rotate_left
                      ·simp only [Act.put, List.setIfInBounds_toArray, List.set_cons_zero, List.set_cons_succ, i64_w, i32_w]
                       rfl
                      refine pure_ (i := 21) (N := some 184) (v := ?_) (a' := ?_) #[true, true, true, true, true, true, true, true, true, true, true, true, true, true, true, true, true, true, true, true, true, true, false, false, false, false, false, false, false, false, false, false, false, false, false, false, false, false, false, false, false, false] rfl rfl (any_of HT_.out (by kernel_rfl)) (fun _ _ _ h => h) (Or.inl ⟨by rfl, ?_⟩) ?_ ?_
                      rotate_left
                      ·intro w'
                       go_simp
                       with_reducible rfl
                      rotate_left
                      ·simp only [Act.put, List.setIfInBounds_toArray, List.set_cons_zero, List.set_cons_succ, i64_w, i32_w]
                       rfl
                      refine pure_ (i := 22) (N := some 185) (v := ?_) (a' := ?_) #[true, true, true, true, true, true, true, true, true, true, true, true, true, true, true, true, true, true, true, true, true, true, true, false, false, false, false, false, false, false, false, false, false, false, false, false, false, false, false, false, false, false] rfl rfl (any_of HT_.out (by kernel_rfl)) (fun _ _ _ h => h) (Or.inl ⟨by rfl, ?_⟩) ?_ ?_
                      rotate_left
                      ·intro w'
                       go_simp
                       with_reducible rfl
                      rotate_left
                      ·simp only [Act.put, List.setIfInBounds_toArray, List.set_cons_zero, List.set_cons_succ, i64_w, i32_w]
                       rfl
                      refine pure_ (i := 23) (N := some 186) (v := ?_) (a' := ?_) #[true, true, true, true, true, true, true, true, true, true, true, true, true, true, true, true, true, true, true, true, true, true, true, true, false, false, false, false, false, false, false, false, false, false, false, false, false, false, false, false, false, false] rfl rfl (any_of HT_.out (by kernel_rfl)) (fun _ _ _ h => h) (Or.inl ⟨by rfl, ?_⟩) ?_ ?_
                      rotate_left
                      ·intro w'
                       go_simp
                       with_reducible rfl
                      rotate_left
                      ·simp only [Act.put, List.setIfInBounds_toArray, List.set_cons_zero, List.set_cons_succ, i64_w, i32_w]
                       rfl
                      refine pure_ (i := 24) (N := some 187) (v := ?_) (a' := ?_) #[true, true, true, true, true, true, true, true, true, true, true, true, true, true, true, true, true, true, true, true, true, true, true, true, true, false, false, false, false, false, false, false, false, false, false, false, false, false, false, false, false, false] rfl rfl (any_of HT_.out (by kernel_rfl)) (fun _ _ _ h => h) (Or.inl ⟨by rfl, ?_⟩) ?_ ?_
                      rotate_left
                      ·intro w'
                       go_simp
                       with_reducible rfl
                      rotate_left
                      ·simp only [Act.put, List.setIfInBounds_toArray, List.set_cons_zero, List.set_cons_succ, i64_w, i32_w]
                       rfl
                      refine pure_ (i := 25) (N := some 188) (v := ?_) (a' := ?_) #[true, true, true, true, true, true, true, true, true, true, true, true, true, true, true, true, true, true, true, true, true, true, true, true, true, true, false, false, false, false, false, false, false, false, false, false, false, false, false, false, false, false] rfl rfl (any_of HT_.out (by kernel_rfl)) (fun _ _ _ h => h) (Or.inl ⟨by rfl, ?_⟩) ?_ ?_
                      rotate_left
                      ·intro w'
                       go_simp
                       with_reducible rfl
                      rotate_left
                      ·simp only [Act.put, List.setIfInBounds_toArray, List.set_cons_zero, List.set_cons_succ, i64_w, i32_w]
                       rfl
                      refine pure_ (i := 26) (N := some 189) (v := ?_) (a' := ?_) #[true, true, true, true, true, true, true, true, true, true, true, true, true, true, true, true, true, true, true, true, true, true, true, true, true, true, true, false, false, false, false, false, false, false, false, false, false, false, false, false, false, false] rfl rfl (any_of HT_.out (by kernel_rfl)) (fun _ _ _ h => h) (Or.inl ⟨by rfl, ?_⟩) ?_ ?_
                      rotate_left
                      ·intro w'
                       go_simp
                       with_reducible rfl
                      rotate_left
                      ·simp only [Act.put, List.setIfInBounds_toArray, List.set_cons_zero, List.set_cons_succ, i64_w, i32_w]
                       rfl
                      refine pure_ (i := 27) (N := some 190) (v := ?_) (a' := ?_) #[true, true, true, true, true, true, true, true, true, true, true, true, true, true, true, true, true, true, true, true, true, true, true, true, true, true, true, true, false, false, false, false, false, false, false, false, false, false, false, false, false, false] rfl rfl (any_of HT_.out (by kernel_rfl)) (fun _ _ _ h => h) (Or.inl ⟨by rfl, ?_⟩) ?_ ?_
                      rotate_left
                      ·intro w'
                       go_simp
                       with_reducible rfl
                      rotate_left
                      ·simp only [Act.put, List.setIfInBounds_toArray, List.set_cons_zero, List.set_cons_succ, i64_w, i32_w]
                       rfl
                      refine pure_ (i := 28) (N := some 191) (v := ?_) (a' := ?_) #[true, true, true, true, true, true, true, true, true, true, true, true, true, true, true, true, true, true, true, true, true, true, true, true, true, true, true, true, true, false, false, false, false, false, false, false, false, false, false, false, false, false] rfl rfl (any_of HT_.out (by kernel_rfl)) (fun _ _ _ h => h) (Or.inl ⟨by rfl, ?_⟩) ?_ ?_
                      rotate_left
                      ·intro w'
                       go_simp
                       with_reducible rfl
                      rotate_left
                      ·simp only [Act.put, List.setIfInBounds_toArray, List.set_cons_zero, List.set_cons_succ, i64_w, i32_w]
                       rfl
                      refine pure_ (i := 29) (N := some 192) (v := ?_) (a' := ?_) #[true, true, true, true, true, true, true, true, true, true, true, true, true, true, true, true, true, true, true, true, true, true, true, true, true, true, true, true, true, true, false, false, false, false, false, false, false, false, false, false, false, false] rfl rfl (any_of HT_.out (by kernel_rfl)) (fun _ _ _ h => h) (Or.inl ⟨by rfl, ?_⟩) ?_ ?_
                      rotate_left
                      ·intro w'
                       go_simp
                       with_reducible rfl
                      rotate_left
                      ·simp only [Act.put, List.setIfInBounds_toArray, List.set_cons_zero, List.set_cons_succ, i64_w, i32_w]
                       rfl
                      refine pure_ (i := 30) (N := some 193) (v := ?_) (a' := ?_) #[true, true, true, true, true, true, true, true, true, true, true, true, true, true, true, true, true, true, true, true, true, true, true, true, true, true, true, true, true, true, true, false, false, false, false, false, false, false, false, false, false, false] rfl rfl (any_of HT_.out (by kernel_rfl)) (fun _ _ _ h => h) (Or.inl ⟨by rfl, ?_⟩) ?_ ?_
                      rotate_left
                      ·intro w'
                       go_simp
                       with_reducible rfl
                      rotate_left
                      ·simp only [Act.put, List.setIfInBounds_toArray, List.set_cons_zero, List.set_cons_succ, i64_w, i32_w]
                       rfl
                      refine pure_ (i := 33) (N := some 196) (v := ?_) (a' := ?_) #[true, true, true, true, true, true, true, true, true, true, true, true, true, true, true, true, true, true, true, true, true, true, true, true, true, true, true, true, true, true, true, false, false, true, false, false, false, false, false, false, false, false] rfl rfl (any_of HT_.out (by kernel_rfl)) (fun _ _ _ h => h) (Or.inl ⟨by rfl, ?_⟩) ?_ ?_
                      rotate_left
                      ·intro w'
                       go_simp
                       with_reducible rfl
                      rotate_left
                      ·simp only [Act.put, List.setIfInBounds_toArray, List.set_cons_zero, List.set_cons_succ, i64_w, i32_w]
                       rfl
                      refine pure_ (i := 34) (N := some 197) (v := ?_) (a' := ?_) #[true, true, true, true, true, true, true, true, true, true, true, true, true, true, true, true, true, true, true, true, true, true, true, true, true, true, true, true, true, true, true, false, false, true, true, false, false, false, false, false, false, false] rfl rfl (any_of HT_.out (by kernel_rfl)) (fun _ _ _ h => h) (Or.inl ⟨by rfl, ?_⟩) ?_ ?_
                      rotate_left
                      ·intro w'
                       go_simp
                       with_reducible rfl
                      rotate_left
                      ·simp only [Act.put, List.setIfInBounds_toArray, List.set_cons_zero, List.set_cons_succ, i64_w, i32_w]
                       rfl
                      refine pure_ (i := 35) (N := some 198) (v := ?_) (a' := ?_) #[true, true, true, true, true, true, true, true, true, true, true, true, true, true, true, true, true, true, true, true, true, true, true, true, true, true, true, true, true, true, true, false, false, true, true, true, false, false, false, false, false, false] rfl rfl (any_of HT_.out (by kernel_rfl)) (fun _ _ _ h => h) (Or.inl ⟨by rfl, ?_⟩) ?_ ?_
                      rotate_left
                      ·intro w'
                       go_simp
                       with_reducible rfl
                      rotate_left
                      ·simp only [Act.put, List.setIfInBounds_toArray, List.set_cons_zero, List.set_cons_succ, i64_w, i32_w]
                       rfl
                      refine pure_ (i := 36) (N := some 199) (v := ?_) (a' := ?_) #[true, true, true, true, true, true, true, true, true, true, true, true, true, true, true, true, true, true, true, true, true, true, true, true, true, true, true, true, true, true, true, false, false, true, true, true, true, false, false, false, false, false] rfl rfl (any_of HT_.out (by kernel_rfl)) (fun _ _ _ h => h) (Or.inl ⟨by rfl, ?_⟩) ?_ ?_
                      rotate_left
                      ·intro w'
                       go_simp
                       with_reducible rfl
                      rotate_left
                      ·simp only [Act.put, List.setIfInBounds_toArray, List.set_cons_zero, List.set_cons_succ, i64_w, i32_w]
                       rfl
                      refine take_ (i := 31) (N := some 194) (v := ?_) (a' := ?_) #[true, true, true, true, true, true, true, true, true, true, true, true, true, true, true, true, true, true, true, true, true, true, true, true, true, true, true, true, true, true, true, true, false, true, true, true, true, false, false, false, false, false] rfl rfl (take_ofW HT_.out HW_.out (by kernel_rfl)) (fun _ _ _ h => h) (Or.inl ⟨by rfl, ?_⟩) hHeld ?_ ?_
                      rotate_left
                      ·rintro w' ⟨s0, s1, s2, s3⟩
                       go_simp
                       with_reducible rfl
                      rotate_left
                      ·simp only [Act.put, List.setIfInBounds_toArray, List.set_cons_zero, List.set_cons_succ, i64_w, i32_w]
                       rfl
                      refine pure_ (i := 32) (N := some 195) (v := ?_) (a' := ?_) #[true, true, true, true, true, true, true, true, true, true, true, true, true, true, true, true, true, true, true, true, true, true, true, true, true, true, true, true, true, true, true, true, true, true, true, true, true, false, false, false, false, false] rfl rfl (any_of HT_.out (by kernel_rfl)) (fun _ _ _ h => h) (Or.inl ⟨by rfl, ?_⟩) ?_ ?_
                      rotate_left
                      ·intro w'
                       go_simp
                       with_reducible rfl
                      rotate_left
                      ·simp only [Act.put, List.setIfInBounds_toArray, List.set_cons_zero, List.set_cons_succ, i64_w, i32_w]
                       rfl
                      refine take_ (i := 37) (N := some 200) (v := ?_) (a' := ?_) #[true, true, true, true, true, true, true, true, true, true, true, true, true, true, true, true, true, true, true, true, true, true, true, true, true, true, true, true, true, true, true, true, true, true, true, true, true, true, false, false, false, false] rfl rfl (take_ofW HT_.out HW_.out (by kernel_rfl)) (fun _ _ _ h => h) (Or.inl ⟨by rfl, ?_⟩) hHeld ?_ ?_
                      rotate_left
                      ·rintro w' ⟨s0, s1, s2, s3⟩
                       go_simp
                       with_reducible rfl
                      rotate_left
                      ·simp only [Act.put, List.setIfInBounds_toArray, List.set_cons_zero, List.set_cons_succ, i64_w, i32_w]
                       rfl
                      refine pure_ (i := 38) (N := some 201) (v := ?_) (a' := ?_) #[true, true, true, true, true, true, true, true, true, true, true, true, true, true, true, true, true, true, true, true, true, true, true, true, true, true, true, true, true, true, true, true, true, true, true, true, true, true, true, false, false, false] rfl rfl (any_of HT_.out (by kernel_rfl)) (fun _ _ _ h => h) (Or.inl ⟨by rfl, ?_⟩) ?_ ?_
                      rotate_left
                      ·intro w'
                       go_simp
                       with_reducible rfl
                      rotate_left
                      ·simp only [Act.put, List.setIfInBounds_toArray, List.set_cons_zero, List.set_cons_succ, i64_w, i32_w]
                       rfl
                      refine pure_ (i := 39) (N := some 202) (v := ?_) (a' := ?_) #[true, true, true, true, true, true, true, true, true, true, true, true, true, true, true, true, true, true, true, true, true, true, true, true, true, true, true, true, true, true, true, true, true, true, true, true, true, true, true, true, false, false] rfl rfl (any_of HT_.out (by kernel_rfl)) (fun _ _ _ h => h) (Or.inl ⟨by rfl, ?_⟩) ?_ ?_
                      rotate_left
                      ·intro w'
                       go_simp
                       with_reducible rfl
                      rotate_left
                      ·simp only [Act.put, List.setIfInBounds_toArray, List.set_cons_zero, List.set_cons_succ, i64_w, i32_w]
                       rfl
                      refine pure_ (i := 40) (N := some 203) (v := ?_) (a' := ?_) #[true, true, true, true, true, true, true, true, true, true, true, true, true, true, true, true, true, true, true, true, true, true, true, true, true, true, true, true, true, true, true, true, true, true, true, true, true, true, true, true, true, false] rfl rfl (any_of HT_.out (by kernel_rfl)) (fun _ _ _ h => h) (Or.inl ⟨by rfl, ?_⟩) ?_ ?_
                      rotate_left
                      ·intro w'
                       go_simp
                       with_reducible rfl
                      rotate_left
                      ·simp only [Act.put, List.setIfInBounds_toArray, List.set_cons_zero, List.set_cons_succ, i64_w, i32_w]
                       rfl
                      refine pure_ (i := 41) (N := some 204) (v := ?_) (a' := ?_) #[true, true, true, true, true, true, true, true, true, true, true, true, true, true, true, true, true, true, true, true, true, true, true, true, true, true, true, true, true, true, true, true, true, true, true, true, true, true, true, true, true, true] rfl rfl (any_of HT_.out (by kernel_rfl)) (fun _ _ _ h => h) (Or.inl ⟨by rfl, ?_⟩) ?_ ?_
                      rotate_left
                      ·intro w'
                       go_simp
                       with_reducible rfl
                      rotate_left
                      ·simp only [Act.put, List.setIfInBounds_toArray, List.set_cons_zero, List.set_cons_succ, i64_w, i32_w]
                       rfl
                      refine done_ (done_of HT_.out (by kernel_rfl)) ?_
                      try go_wp2
                      refine Handed.intro k2 ?measure ?_
                      rotate_left
                      go_step
                      (repeat with_reducible apply ex32_)
                      (repeat apply Exists.intro)
                      refine ⟨?rel, rfl⟩
                      case measure => have := HJ9.out; have := HK2.out; omega
                      case rel => exact ⟨(wrap64 (x15_2 + 1)), (by first | rfl | (simp; done) | (simp [*]; done)), H', ⟨by have := HJ9.out; have := HK2.out; omega⟩, ⟨by (with_reducible repeat (first | apply Kd.R_alloc | apply Kd.R_drewN | apply Kd.R_drew)); exact HO_5.out⟩, ⟨by (with_reducible repeat (first | apply Kd.R_alloc | apply Kd.R_drewN | apply Kd.R_drew)); exact HO_7.out⟩, ⟨by repeat (first | (with_reducible first | exact HB.out | apply below_alloc | apply pw_below_drewN | apply below_drew1) | exact HB.out)⟩⟩
                     ·rw [if_neg c59] at H
                      have c59b0 : ((Int.tmod x15_2 ((rd_T53 t401 t426).f0)) == ((rd_T53 t401 t426).f1)) = false := beq_eq_false_iff_ne.mpr c59
                      have c59b1 : ((Int.tmod x15_2 ((rd_T53 t401 t426).f0)) != ((rd_T53 t401 t426).f1)) = true := bne_iff_ne.mpr c59
                      exact absurd (Option.some.inj H) (by rw [HRT.out]; decide)
                   ·rw [if_neg c57] at H
                    exact absurd H (by simp)
                  ·rw [if_neg c56] at H
                   exact absurd H (by simp)
               ·as_aux_lemma =>
                replace c53 := Bool.eq_false_iff.mpr c53
                subst c53
                have H1 : (laws_FnSievesLeave.l0 k2 l1 t401 t402 t405 t413 (wrap64 (x15_2 + 1))) = some r := by rw [if_neg (show ¬ (false = true) by decide)] at H; exact H
                clear H
                have H := H1
                clear H1
                have H' := Aside0.mk H
                clear H
                try go_wp2_with (first | ((with_reducible refine gate_callee (f := 23) rfl ?_); refine goesL_ (some 154) rfl rfl Try.func23 (by kernel_rfl) rfl #[.slice Ao12 t401.length co12, .int .i64 x15_2] rfl (by (try simp only [List.map_toArray, List.map_cons, List.map_nil]); first | done | rfl | (simp only [List.length_drop, List.length_take]; rfl)) ?_; (with_reducible refine (impl_IsLeft.calls _ _ t401 x15_2 t424 true _ ?side1 ?side2 A47.out).mono ?_); (case side1 => repeat (first | exact (Kd.R_reads' HO_5.out).2.2 | (with_reducible refine Kd.C_alloc ?_ _) | (with_reducible refine Kd.C_drewN ?_ _) | (with_reducible refine Kd.C_drew ?_))); (case side2 => exact (Kd.R_reads' HO_5.out).2.1); rintro e w63 ⟨rfl, hb⟩; refine ⟨_, rfl, ?_⟩; have n0_ := Aside0.mk (Kd.R_below (by (with_reducible repeat (first | apply Kd.R_alloc | apply Kd.R_drewN | apply Kd.R_drew)); exact HO_5.out) hb); have n1_ := Aside0.mk (Kd.R_below (by (with_reducible repeat (first | apply Kd.R_alloc | apply Kd.R_drewN | apply Kd.R_drew)); exact HO_7.out) hb); have n2_ := Aside0.mk (below_step (by repeat (first | (with_reducible first | exact HB.out | apply below_alloc | apply pw_below_drewN | apply below_drew1) | exact HB.out)) hb); clear HO_5; clear HO_7; clear HB; have HO_5 := n0_; have HO_7 := n1_; have HB := n2_; clear n0_ n1_ n2_; (try clear hb); (try clear hb2); (try clear hk); (try clear hi)) | ((with_reducible refine gate_callee (f := 21) rfl ?_); refine goesL_ (some 160) rfl rfl Try.func21 (by kernel_rfl) rfl #[.slice Ao12 t401.length co12, .int .i64 x15_2] rfl (by (try simp only [List.map_toArray, List.map_cons, List.map_nil]); first | done | rfl | (simp only [List.length_drop, List.length_take]; rfl)) ?_; (with_reducible refine (impl_FirstRule.calls _ _ t401 x15_2 t426 false _ ?side1 ?side2 A48.out).mono ?_); (case side1 => repeat (first | exact (Kd.R_reads' HO_5.out).2.2 | (with_reducible refine Kd.C_alloc ?_ _) | (with_reducible refine Kd.C_drewN ?_ _) | (with_reducible refine Kd.C_drew ?_))); (case side2 => exact (Kd.R_reads' HO_5.out).2.1); rintro e w64 ⟨rfl, hb⟩; refine ⟨_, rfl, ?_⟩; have n0_ := Aside0.mk (Kd.R_below (by (with_reducible repeat (first | apply Kd.R_alloc | apply Kd.R_drewN | apply Kd.R_drew)); exact HO_5.out) hb); have n1_ := Aside0.mk (Kd.R_below (by (with_reducible repeat (first | apply Kd.R_alloc | apply Kd.R_drewN | apply Kd.R_drew)); exact HO_7.out) hb); have n2_ := Aside0.mk (below_step (by repeat (first | (with_reducible first | exact HB.out | apply below_alloc | apply pw_below_drewN | apply below_drew1) | exact HB.out)) hb); clear HO_5; clear HO_7; clear HB; have HO_5 := n0_; have HO_7 := n1_; have HB := n2_; clear n0_ n1_ n2_; (try clear hb); (try clear hb2); (try clear hk); (try clear hi)))
                have n0_ := Aside0.mk (Kd.R_drew HO_5.out)
                have n1_ := Aside0.mk (Kd.R_drew HO_7.out)
                have n2_ := Aside0.mk (below_drew1 HB.out)
                clear HO_5
                clear HO_7
                clear HB
                have HO_5 := n0_
                have HO_7 := n1_
                have HB := n2_
                clear n0_ n1_ n2_
                refine start_ (n := 42) (S := fun w' => True) (ds := []) #[false, false, false, false, false, false, false, false, false, false, false, false, false, false, false, false, false, false, false, false, false, false, false, false, false, false, false, false, false, false, false, false, false, false, false, false, false, false, false, false, false, false] (by kernel_rfl) rfl rfl trivial (fun hHeld => ?_); refine with_tabW laws_FnSievesLeave.tab18 laws_FnSievesLeave.bits18 (fun HT_ HW_ => ?_)
                generalize w64.drew = w65 at HO_5 HO_7 HB hHeld ⊢
                refine pure_ (i := 0) (N := some 163) (v := ?_) (a' := ?_) #[true, false, false, false, false, false, false, false, false, false, false, false, false, false, false, false, false, false, false, false, false, false, false, false, false, false, false, false, false, false, false, false, false, false, false, false, false, false, false, false, false, false] rfl rfl (any_of HT_.out (by kernel_rfl)) (fun _ _ _ h => h) (Or.inl ⟨by rfl, ?_⟩) ?_ ?_
                rotate_left
                ·intro w'
                 go_simp
                 with_reducible rfl
                rotate_left
                ·simp only [Act.put, List.setIfInBounds_toArray, List.set_cons_zero, List.set_cons_succ, i64_w, i32_w]
                 rfl
                refine pure_ (i := 1) (N := some 164) (v := ?_) (a' := ?_) #[true, true, false, false, false, false, false, false, false, false, false, false, false, false, false, false, false, false, false, false, false, false, false, false, false, false, false, false, false, false, false, false, false, false, false, false, false, false, false, false, false, false] rfl rfl (any_of HT_.out (by kernel_rfl)) (fun _ _ _ h => h) (Or.inl ⟨by rfl, ?_⟩) ?_ ?_
                rotate_left
                ·intro w'
                 go_simp
                 with_reducible rfl
                rotate_left
                ·simp only [Act.put, List.setIfInBounds_toArray, List.set_cons_zero, List.set_cons_succ, i64_w, i32_w]
                 rfl
                refine pure_ (i := 2) (N := some 165) (v := ?_) (a' := ?_) #[true, true, true, false, false, false, false, false, false, false, false, false, false, false, false, false, false, false, false, false, false, false, false, false, false, false, false, false, false, false, false, false, false, false, false, false, false, false, false, false, false, false] rfl rfl (any_of HT_.out (by kernel_rfl)) (fun _ _ _ h => h) (Or.inl ⟨by rfl, ?_⟩) ?_ ?_
                rotate_left
                ·intro w'
                 go_simp
                 with_reducible rfl
                rotate_left
                ·simp only [Act.put, List.setIfInBounds_toArray, List.set_cons_zero, List.set_cons_succ, i64_w, i32_w]
                 rfl
                refine pure_ (i := 3) (N := some 166) (v := ?_) (a' := ?_) #[true, true, true, true, false, false, false, false, false, false, false, false, false, false, false, false, false, false, false, false, false, false, false, false, false, false, false, false, false, false, false, false, false, false, false, false, false, false, false, false, false, false] rfl rfl (any_of HT_.out (by kernel_rfl)) (fun _ _ _ h => h) (Or.inl ⟨by rfl, ?_⟩) ?_ ?_
                rotate_left
                ·intro w'
                 go_simp
                 with_reducible rfl
                rotate_left
                ·simp only [Act.put, List.setIfInBounds_toArray, List.set_cons_zero, List.set_cons_succ, i64_w, i32_w]
                 rfl
                refine pure_ (i := 4) (N := some 167) (v := ?_) (a' := ?_) #[true, true, true, true, true, false, false, false, false, false, false, false, false, false, false, false, false, false, false, false, false, false, false, false, false, false, false, false, false, false, false, false, false, false, false, false, false, false, false, false, false, false] rfl rfl (any_of HT_.out (by kernel_rfl)) (fun _ _ _ h => h) (Or.inl ⟨by rfl, ?_⟩) ?_ ?_
                rotate_left
                ·intro w'
                 go_simp
                 with_reducible rfl
                rotate_left
                ·simp only [Act.put, List.setIfInBounds_toArray, List.set_cons_zero, List.set_cons_succ, i64_w, i32_w]
                 rfl
                refine pure_ (i := 5) (N := some 168) (v := ?_) (a' := ?_) #[true, true, true, true, true, true, false, false, false, false, false, false, false, false, false, false, false, false, false, false, false, false, false, false, false, false, false, false, false, false, false, false, false, false, false, false, false, false, false, false, false, false] rfl rfl (any_of HT_.out (by kernel_rfl)) (fun _ _ _ h => h) (Or.inl ⟨by rfl, ?_⟩) ?_ ?_
                rotate_left
                ·intro w'
                 go_simp
                 with_reducible rfl
                rotate_left
                ·simp only [Act.put, List.setIfInBounds_toArray, List.set_cons_zero, List.set_cons_succ, i64_w, i32_w]
                 rfl
                refine one_ (i := 6) (N := some 169) #[true, true, true, true, true, true, true, false, false, false, false, false, false, false, false, false, false, false, false, false, false, false, false, false, false, false, false, false, false, false, false, false, false, false, false, false, false, false, false, false, false, false] rfl rfl (one_of HT_.out (by kernel_rfl)) (by decide) (fun K hK => ?_)
                refine goes_ Try.func49 (by kernel_rfl) rfl #[.slice Ao45 t405.length co45, .int .i64 x15_2] (by rfl) rfl rfl (by (try simp only [List.map_toArray, List.map_cons, List.map_nil]); first | done | rfl | (simp only [List.length_drop, List.length_take]; rfl)) ?_
                with_reducible refine (laws_tHas.calls k2 _ _ t405 x15_2 t428 _ ?side1 ?side2 A50.out).mono ?_
                (case side1 => repeat (first | exact (Kd.R_reads' HO_7.out).2.2 | (with_reducible refine Kd.C_alloc ?_ _) | (with_reducible refine Kd.C_drewN ?_ _) | (with_reducible refine Kd.C_drew ?_)))
                (case side2 => exact (Kd.R_reads' HO_7.out).2.1)
                rintro e w' ⟨rfl, ⟨nd, rfl⟩⟩
                refine ⟨_, rfl, ?_⟩
                refine hK.out _ _ trivial (fun hHeld => ?_)
                clear hK K
                refine norm_ (a' := ?_) ?_ ?_
                rotate_left
                ·show Act.put _ (some 169) _ = _
                 simp only [Act.put, List.setIfInBounds_toArray, List.set_cons_zero, List.set_cons_succ, i64_w, i32_w]
                 rfl
                refine pure_ (i := 7) (N := some 170) (v := ?_) (a' := ?_) #[true, true, true, true, true, true, true, true, false, false, false, false, false, false, false, false, false, false, false, false, false, false, false, false, false, false, false, false, false, false, false, false, false, false, false, false, false, false, false, false, false, false] rfl rfl (any_of HT_.out (by kernel_rfl)) (fun _ _ _ h => h) (Or.inl ⟨by rfl, ?_⟩) ?_ ?_
                rotate_left
                ·intro w'
                 go_simp
                 with_reducible rfl
                rotate_left
                ·simp only [Act.put, List.setIfInBounds_toArray, List.set_cons_zero, List.set_cons_succ, i64_w, i32_w]
                 rfl
                refine pure_ (i := 8) (N := some 171) (v := ?_) (a' := ?_) #[true, true, true, true, true, true, true, true, true, false, false, false, false, false, false, false, false, false, false, false, false, false, false, false, false, false, false, false, false, false, false, false, false, false, false, false, false, false, false, false, false, false] rfl rfl (any_of HT_.out (by kernel_rfl)) (fun _ _ _ h => h) (Or.inl ⟨by rfl, ?_⟩) ?_ ?_
                rotate_left
                ·intro w'
                 go_simp
                 with_reducible rfl
                rotate_left
                ·simp only [Act.put, List.setIfInBounds_toArray, List.set_cons_zero, List.set_cons_succ, i64_w, i32_w]
                 rfl
                refine pure_ (i := 9) (N := some 172) (v := ?_) (a' := ?_) #[true, true, true, true, true, true, true, true, true, true, false, false, false, false, false, false, false, false, false, false, false, false, false, false, false, false, false, false, false, false, false, false, false, false, false, false, false, false, false, false, false, false] rfl rfl (any_of HT_.out (by kernel_rfl)) (fun _ _ _ h => h) (Or.inl ⟨by rfl, ?_⟩) ?_ ?_
                rotate_left
                ·intro w'
                 go_simp
                 with_reducible rfl
                rotate_left
                ·simp only [Act.put, List.setIfInBounds_toArray, List.set_cons_zero, List.set_cons_succ, i64_w, i32_w]
                 rfl
                refine pure_ (i := 10) (N := some 173) (v := ?_) (a' := ?_) #[true, true, true, true, true, true, true, true, true, true, true, false, false, false, false, false, false, false, false, false, false, false, false, false, false, false, false, false, false, false, false, false, false, false, false, false, false, false, false, false, false, false] rfl rfl (any_of HT_.out (by kernel_rfl)) (fun _ _ _ h => h) (Or.inl ⟨by rfl, ?_⟩) ?_ ?_
                rotate_left
                ·intro w'
                 go_simp
                 with_reducible rfl
                rotate_left
                ·simp only [Act.put, List.setIfInBounds_toArray, List.set_cons_zero, List.set_cons_succ, i64_w, i32_w]
                 rfl
                refine pure_ (i := 11) (N := some 174) (v := ?_) (a' := ?_) #[true, true, true, true, true, true, true, true, true, true, true, true, false, false, false, false, false, false, false, false, false, false, false, false, false, false, false, false, false, false, false, false, false, false, false, false, false, false, false, false, false, false] rfl rfl (any_of HT_.out (by kernel_rfl)) (fun _ _ _ h => h) (Or.inl ⟨by rfl, ?_⟩) ?_ ?_
                rotate_left
                ·intro w'
                 go_simp
                 with_reducible rfl
                rotate_left
                ·simp only [Act.put, List.setIfInBounds_toArray, List.set_cons_zero, List.set_cons_succ, i64_w, i32_w]
                 rfl
                refine pure_ (i := 12) (N := some 175) (v := ?_) (a' := ?_) #[true, true, true, true, true, true, true, true, true, true, true, true, true, false, false, false, false, false, false, false, false, false, false, false, false, false, false, false, false, false, false, false, false, false, false, false, false, false, false, false, false, false] rfl rfl (any_of HT_.out (by kernel_rfl)) (fun _ _ _ h => h) (Or.inl ⟨by rfl, ?_⟩) ?_ ?_
                rotate_left
                ·intro w'
                 go_simp
                 with_reducible rfl
                rotate_left
                ·simp only [Act.put, List.setIfInBounds_toArray, List.set_cons_zero, List.set_cons_succ, i64_w, i32_w]
                 rfl
                refine pure_ (i := 13) (N := some 176) (v := ?_) (a' := ?_) #[true, true, true, true, true, true, true, true, true, true, true, true, true, true, false, false, false, false, false, false, false, false, false, false, false, false, false, false, false, false, false, false, false, false, false, false, false, false, false, false, false, false] rfl rfl (any_of HT_.out (by kernel_rfl)) (fun _ _ _ h => h) (Or.inl ⟨by rfl, ?_⟩) ?_ ?_
                rotate_left
                ·intro w'
                 go_simp
                 with_reducible rfl
                rotate_left
                ·simp only [Act.put, List.setIfInBounds_toArray, List.set_cons_zero, List.set_cons_succ, i64_w, i32_w]
                 rfl
                refine pure_ (i := 14) (N := some 177) (v := ?_) (a' := ?_) #[true, true, true, true, true, true, true, true, true, true, true, true, true, true, true, false, false, false, false, false, false, false, false, false, false, false, false, false, false, false, false, false, false, false, false, false, false, false, false, false, false, false] rfl rfl (any_of HT_.out (by kernel_rfl)) (fun _ _ _ h => h) (Or.inl ⟨by rfl, ?_⟩) ?_ ?_
                rotate_left
                ·intro w'
                 go_simp
                 with_reducible rfl
                rotate_left
                ·simp only [Act.put, List.setIfInBounds_toArray, List.set_cons_zero, List.set_cons_succ, i64_w, i32_w]
                 rfl
                refine pure_ (i := 15) (N := some 178) (v := ?_) (a' := ?_) #[true, true, true, true, true, true, true, true, true, true, true, true, true, true, true, true, false, false, false, false, false, false, false, false, false, false, false, false, false, false, false, false, false, false, false, false, false, false, false, false, false, false] rfl rfl (any_of HT_.out (by kernel_rfl)) (fun _ _ _ h => h) (Or.inl ⟨by rfl, ?_⟩) ?_ ?_
                rotate_left
                ·intro w'
                 go_simp
                 with_reducible rfl
                rotate_left
                ·simp only [Act.put, List.setIfInBounds_toArray, List.set_cons_zero, List.set_cons_succ, i64_w, i32_w]
                 rfl
                refine pure_ (i := 16) (N := some 179) (v := ?_) (a' := ?_) #[true, true, true, true, true, true, true, true, true, true, true, true, true, true, true, true, true, false, false, false, false, false, false, false, false, false, false, false, false, false, false, false, false, false, false, false, false, false, false, false, false, false] rfl rfl (any_of HT_.out (by kernel_rfl)) (fun _ _ _ h => h) (Or.inl ⟨by rfl, ?_⟩) ?_ ?_
                rotate_left
                ·intro w'
                 go_simp
                 with_reducible rfl
                rotate_left
                ·simp only [Act.put, List.setIfInBounds_toArray, List.set_cons_zero, List.set_cons_succ, i64_w, i32_w]
                 rfl
                refine pure_ (i := 17) (N := some 180) (v := undef) (a' := ?_) #[true, true, true, true, true, true, true, true, true, true, true, true, true, true, true, true, true, true, false, false, false, false, false, false, false, false, false, false, false, false, false, false, false, false, false, false, false, false, false, false, false, false] rfl rfl (any_of HT_.out (by kernel_rfl)) (fun _ _ _ h => h) (Or.inr ⟨by rfl, rfl⟩) ?_ ?_
                rotate_left
                ·simp only [Act.put, List.setIfInBounds_toArray, List.set_cons_zero, List.set_cons_succ, i64_w, i32_w]
                 rfl
                refine pure_ (i := 18) (N := some 181) (v := undef) (a' := ?_) #[true, true, true, true, true, true, true, true, true, true, true, true, true, true, true, true, true, true, true, false, false, false, false, false, false, false, false, false, false, false, false, false, false, false, false, false, false, false, false, false, false, false] rfl rfl (any_of HT_.out (by kernel_rfl)) (fun _ _ _ h => h) (Or.inr ⟨by rfl, rfl⟩) ?_ ?_
                rotate_left
                ·simp only [Act.put, List.setIfInBounds_toArray, List.set_cons_zero, List.set_cons_succ, i64_w, i32_w]
                 rfl
                refine pure_ (i := 19) (N := some 182) (v := undef) (a' := ?_) #[true, true, true, true, true, true, true, true, true, true, true, true, true, true, true, true, true, true, true, true, false, false, false, false, false, false, false, false, false, false, false, false, false, false, false, false, false, false, false, false, false, false] rfl rfl (any_of HT_.out (by kernel_rfl)) (fun _ _ _ h => h) (Or.inr ⟨by rfl, rfl⟩) ?_ ?_
                rotate_left
                ·simp only [Act.put, List.setIfInBounds_toArray, List.set_cons_zero, List.set_cons_succ, i64_w, i32_w]
                 rfl
                refine pure_ (i := 20) (N := some 183) (v := undef) (a' := ?_) #[true, true, true, true, true, true, true, true, true, true, true, true, true, true, true, true, true, true, true, true, true, false, false, false, false, false, false, false, false, false, false, false, false, false, false, false, false, false, false, false, false, false] rfl rfl (any_of HT_.out (by kernel_rfl)) (fun _ _ _ h => h) (Or.inr ⟨by rfl, rfl⟩) ?_ ?_
                rotate_left
                ·simp only [Act.put, List.setIfInBounds_toArray, List.set_cons_zero, List.set_cons_succ, i64_w, i32_w]
                 rfl
                refine pure_ (i := 21) (N := some 184) (v := undef) (a' := ?_) #[true, true, true, true, true, true, true, true, true, true, true, true, true, true, true, true, true, true, true, true, true, true, false, false, false, false, false, false, false, false, false, false, false, false, false, false, false, false, false, false, false, false] rfl rfl (any_of HT_.out (by kernel_rfl)) (fun _ _ _ h => h) (Or.inr ⟨by rfl, rfl⟩) ?_ ?_
                rotate_left
                ·simp only [Act.put, List.setIfInBounds_toArray, List.set_cons_zero, List.set_cons_succ, i64_w, i32_w]
                 rfl
                refine pure_ (i := 22) (N := some 185) (v := undef) (a' := ?_) #[true, true, true, true, true, true, true, true, true, true, true, true, true, true, true, true, true, true, true, true, true, true, true, false, false, false, false, false, false, false, false, false, false, false, false, false, false, false, false, false, false, false] rfl rfl (any_of HT_.out (by kernel_rfl)) (fun _ _ _ h => h) (Or.inr ⟨by rfl, rfl⟩) ?_ ?_
                rotate_left
                ·simp only [Act.put, List.setIfInBounds_toArray, List.set_cons_zero, List.set_cons_succ, i64_w, i32_w]
                 rfl
                refine pure_ (i := 23) (N := some 186) (v := undef) (a' := ?_) #[true, true, true, true, true, true, true, true, true, true, true, true, true, true, true, true, true, true, true, true, true, true, true, true, false, false, false, false, false, false, false, false, false, false, false, false, false, false, false, false, false, false] rfl rfl (any_of HT_.out (by kernel_rfl)) (fun _ _ _ h => h) (Or.inr ⟨by rfl, rfl⟩) ?_ ?_
                rotate_left
                ·simp only [Act.put, List.setIfInBounds_toArray, List.set_cons_zero, List.set_cons_succ, i64_w, i32_w]
                 rfl
                refine pure_ (i := 24) (N := some 187) (v := undef) (a' := ?_) #[true, true, true, true, true, true, true, true, true, true, true, true, true, true, true, true, true, true, true, true, true, true, true, true, true, false, false, false, false, false, false, false, false, false, false, false, false, false, false, false, false, false] rfl rfl (any_of HT_.out (by kernel_rfl)) (fun _ _ _ h => h) (Or.inr ⟨by rfl, rfl⟩) ?_ ?_
                rotate_left
                ·simp only [Act.put, List.setIfInBounds_toArray, List.set_cons_zero, List.set_cons_succ, i64_w, i32_w]
                 rfl
                refine pure_ (i := 25) (N := some 188) (v := undef) (a' := ?_) #[true, true, true, true, true, true, true, true, true, true, true, true, true, true, true, true, true, true, true, true, true, true, true, true, true, true, false, false, false, false, false, false, false, false, false, false, false, false, false, false, false, false] rfl rfl (any_of HT_.out (by kernel_rfl)) (fun _ _ _ h => h) (Or.inr ⟨by rfl, rfl⟩) ?_ ?_
                rotate_left
                ·simp only [Act.put, List.setIfInBounds_toArray, List.set_cons_zero, List.set_cons_succ, i64_w, i32_w]
                 rfl
                refine pure_ (i := 26) (N := some 189) (v := undef) (a' := ?_) #[true, true, true, true, true, true, true, true, true, true, true, true, true, true, true, true, true, true, true, true, true, true, true, true, true, true, true, false, false, false, false, false, false, false, false, false, false, false, false, false, false, false] rfl rfl (any_of HT_.out (by kernel_rfl)) (fun _ _ _ h => h) (Or.inr ⟨by rfl, rfl⟩) ?_ ?_
                rotate_left
                ·simp only [Act.put, List.setIfInBounds_toArray, List.set_cons_zero, List.set_cons_succ, i64_w, i32_w]
                 rfl
                refine pure_ (i := 27) (N := some 190) (v := undef) (a' := ?_) #[true, true, true, true, true, true, true, true, true, true, true, true, true, true, true, true, true, true, true, true, true, true, true, true, true, true, true, true, false, false, false, false, false, false, false, false, false, false, false, false, false, false] rfl rfl (any_of HT_.out (by kernel_rfl)) (fun _ _ _ h => h) (Or.inr ⟨by rfl, rfl⟩) ?_ ?_
                rotate_left
                ·simp only [Act.put, List.setIfInBounds_toArray, List.set_cons_zero, List.set_cons_succ, i64_w, i32_w]
                 rfl
                refine pure_ (i := 28) (N := some 191) (v := undef) (a' := ?_) #[true, true, true, true, true, true, true, true, true, true, true, true, true, true, true, true, true, true, true, true, true, true, true, true, true, true, true, true, true, false, false, false, false, false, false, false, false, false, false, false, false, false] rfl rfl (any_of HT_.out (by kernel_rfl)) (fun _ _ _ h => h) (Or.inr ⟨by rfl, rfl⟩) ?_ ?_
                rotate_left
                ·simp only [Act.put, List.setIfInBounds_toArray, List.set_cons_zero, List.set_cons_succ, i64_w, i32_w]
                 rfl
                refine pure_ (i := 29) (N := some 192) (v := undef) (a' := ?_) #[true, true, true, true, true, true, true, true, true, true, true, true, true, true, true, true, true, true, true, true, true, true, true, true, true, true, true, true, true, true, false, false, false, false, false, false, false, false, false, false, false, false] rfl rfl (any_of HT_.out (by kernel_rfl)) (fun _ _ _ h => h) (Or.inr ⟨by rfl, rfl⟩) ?_ ?_
                rotate_left
                ·simp only [Act.put, List.setIfInBounds_toArray, List.set_cons_zero, List.set_cons_succ, i64_w, i32_w]
                 rfl
                refine pure_ (i := 30) (N := some 193) (v := undef) (a' := ?_) #[true, true, true, true, true, true, true, true, true, true, true, true, true, true, true, true, true, true, true, true, true, true, true, true, true, true, true, true, true, true, true, false, false, false, false, false, false, false, false, false, false, false] rfl rfl (any_of HT_.out (by kernel_rfl)) (fun _ _ _ h => h) (Or.inr ⟨by rfl, rfl⟩) ?_ ?_
                rotate_left
                ·simp only [Act.put, List.setIfInBounds_toArray, List.set_cons_zero, List.set_cons_succ, i64_w, i32_w]
                 rfl
                refine pure_ (i := 31) (N := some 194) (v := undef) (a' := ?_) #[true, true, true, true, true, true, true, true, true, true, true, true, true, true, true, true, true, true, true, true, true, true, true, true, true, true, true, true, true, true, true, true, false, false, false, false, false, false, false, false, false, false] rfl rfl (any_of HT_.out (by kernel_rfl)) (fun _ _ _ h => h) (Or.inr ⟨by rfl, rfl⟩) ?_ ?_
                rotate_left
                ·simp only [Act.put, List.setIfInBounds_toArray, List.set_cons_zero, List.set_cons_succ, i64_w, i32_w]
                 rfl
                refine pure_ (i := 32) (N := some 195) (v := undef) (a' := ?_) #[true, true, true, true, true, true, true, true, true, true, true, true, true, true, true, true, true, true, true, true, true, true, true, true, true, true, true, true, true, true, true, true, true, false, false, false, false, false, false, false, false, false] rfl rfl (any_of HT_.out (by kernel_rfl)) (fun _ _ _ h => h) (Or.inr ⟨by rfl, rfl⟩) ?_ ?_
                rotate_left
                ·simp only [Act.put, List.setIfInBounds_toArray, List.set_cons_zero, List.set_cons_succ, i64_w, i32_w]
                 rfl
                refine pure_ (i := 33) (N := some 196) (v := undef) (a' := ?_) #[true, true, true, true, true, true, true, true, true, true, true, true, true, true, true, true, true, true, true, true, true, true, true, true, true, true, true, true, true, true, true, true, true, true, false, false, false, false, false, false, false, false] rfl rfl (any_of HT_.out (by kernel_rfl)) (fun _ _ _ h => h) (Or.inr ⟨by rfl, rfl⟩) ?_ ?_
                rotate_left
                ·simp only [Act.put, List.setIfInBounds_toArray, List.set_cons_zero, List.set_cons_succ, i64_w, i32_w]
                 rfl
                refine pure_ (i := 34) (N := some 197) (v := undef) (a' := ?_) #[true, true, true, true, true, true, true, true, true, true, true, true, true, true, true, true, true, true, true, true, true, true, true, true, true, true, true, true, true, true, true, true, true, true, true, false, false, false, false, false, false, false] rfl rfl (any_of HT_.out (by kernel_rfl)) (fun _ _ _ h => h) (Or.inr ⟨by rfl, rfl⟩) ?_ ?_
                rotate_left
                ·simp only [Act.put, List.setIfInBounds_toArray, List.set_cons_zero, List.set_cons_succ, i64_w, i32_w]
                 rfl
                refine pure_ (i := 35) (N := some 198) (v := undef) (a' := ?_) #[true, true, true, true, true, true, true, true, true, true, true, true, true, true, true, true, true, true, true, true, true, true, true, true, true, true, true, true, true, true, true, true, true, true, true, true, false, false, false, false, false, false] rfl rfl (any_of HT_.out (by kernel_rfl)) (fun _ _ _ h => h) (Or.inr ⟨by rfl, rfl⟩) ?_ ?_
                rotate_left
                ·simp only [Act.put, List.setIfInBounds_toArray, List.set_cons_zero, List.set_cons_succ, i64_w, i32_w]
                 rfl
                refine pure_ (i := 36) (N := some 199) (v := undef) (a' := ?_) #[true, true, true, true, true, true, true, true, true, true, true, true, true, true, true, true, true, true, true, true, true, true, true, true, true, true, true, true, true, true, true, true, true, true, true, true, true, false, false, false, false, false] rfl rfl (any_of HT_.out (by kernel_rfl)) (fun _ _ _ h => h) (Or.inr ⟨by rfl, rfl⟩) ?_ ?_
                rotate_left
                ·simp only [Act.put, List.setIfInBounds_toArray, List.set_cons_zero, List.set_cons_succ, i64_w, i32_w]
                 rfl
                refine pure_ (i := 37) (N := some 200) (v := undef) (a' := ?_) #[true, true, true, true, true, true, true, true, true, true, true, true, true, true, true, true, true, true, true, true, true, true, true, true, true, true, true, true, true, true, true, true, true, true, true, true, true, true, false, false, false, false] rfl rfl (any_of HT_.out (by kernel_rfl)) (fun _ _ _ h => h) (Or.inr ⟨by rfl, rfl⟩) ?_ ?_
                rotate_left
                ·simp only [Act.put, List.setIfInBounds_toArray, List.set_cons_zero, List.set_cons_succ, i64_w, i32_w]
                 rfl
                refine pure_ (i := 38) (N := some 201) (v := undef) (a' := ?_) #[true, true, true, true, true, true, true, true, true, true, true, true, true, true, true, true, true, true, true, true, true, true, true, true, true, true, true, true, true, true, true, true, true, true, true, true, true, true, true, false, false, false] rfl rfl (any_of HT_.out (by kernel_rfl)) (fun _ _ _ h => h) (Or.inr ⟨by rfl, rfl⟩) ?_ ?_
                rotate_left
                ·simp only [Act.put, List.setIfInBounds_toArray, List.set_cons_zero, List.set_cons_succ, i64_w, i32_w]
                 rfl
                refine pure_ (i := 39) (N := some 202) (v := undef) (a' := ?_) #[true, true, true, true, true, true, true, true, true, true, true, true, true, true, true, true, true, true, true, true, true, true, true, true, true, true, true, true, true, true, true, true, true, true, true, true, true, true, true, true, false, false] rfl rfl (any_of HT_.out (by kernel_rfl)) (fun _ _ _ h => h) (Or.inr ⟨by rfl, rfl⟩) ?_ ?_
                rotate_left
                ·simp only [Act.put, List.setIfInBounds_toArray, List.set_cons_zero, List.set_cons_succ, i64_w, i32_w]
                 rfl
                refine pure_ (i := 40) (N := some 203) (v := ?_) (a' := ?_) #[true, true, true, true, true, true, true, true, true, true, true, true, true, true, true, true, true, true, true, true, true, true, true, true, true, true, true, true, true, true, true, true, true, true, true, true, true, true, true, true, true, false] rfl rfl (any_of HT_.out (by kernel_rfl)) (fun _ _ _ h => h) (Or.inl ⟨by rfl, ?_⟩) ?_ ?_
                rotate_left
                ·intro w'
                 go_simp
                 with_reducible rfl
                rotate_left
                ·simp only [Act.put, List.setIfInBounds_toArray, List.set_cons_zero, List.set_cons_succ, i64_w, i32_w]
                 rfl
                refine pure_ (i := 41) (N := some 204) (v := ?_) (a' := ?_) #[true, true, true, true, true, true, true, true, true, true, true, true, true, true, true, true, true, true, true, true, true, true, true, true, true, true, true, true, true, true, true, true, true, true, true, true, true, true, true, true, true, true] rfl rfl (any_of HT_.out (by kernel_rfl)) (fun _ _ _ h => h) (Or.inl ⟨by rfl, ?_⟩) ?_ ?_
                rotate_left
                ·intro w'
                 go_simp
                 with_reducible rfl
                rotate_left
                ·simp only [Act.put, List.setIfInBounds_toArray, List.set_cons_zero, List.set_cons_succ, i64_w, i32_w]
                 rfl
                refine done_ (done_of HT_.out (by kernel_rfl)) ?_
                try go_wp2
                refine Handed.intro k2 ?measure ?_
                rotate_left
                go_step
                (repeat with_reducible apply ex32_)
                (repeat apply Exists.intro)
                refine ⟨?rel, rfl⟩
                case measure => have := HJ9.out; have := HK2.out; omega
                case rel => exact ⟨(wrap64 (x15_2 + 1)), (by first | rfl | (simp; done) | (simp [*]; done)), H', ⟨by have := HJ9.out; have := HK2.out; omega⟩, ⟨by (with_reducible repeat (first | apply Kd.R_alloc | apply Kd.R_drewN | apply Kd.R_drew)); exact HO_5.out⟩, ⟨by (with_reducible repeat (first | apply Kd.R_alloc | apply Kd.R_drewN | apply Kd.R_drew)); exact HO_7.out⟩, ⟨by repeat (first | (with_reducible first | exact HB.out | apply below_alloc | apply pw_below_drewN | apply below_drew1) | exact HB.out)⟩⟩
            ·replace c49 := Bool.eq_false_iff.mpr c49
             subst c49
             have H1 : (some false) = some r := by rw [if_neg (show ¬ (false = true) by decide)] at H; exact H
             clear H
             have H := H1
             clear H1
             exact absurd (Option.some.inj H) (by rw [HRT.out]; decide)
           ·as_aux_lemma =>
            rw [if_neg c46] at H
            have c46b0 : decide (x15_2 ≤ t402) = false := decide_eq_false c46
            clear c46
            have H' := Aside0.mk H
            clear H
            go_wp2
            as_aux_lemma =>
            go_loopg [207] k2 (fun kq v207 w' => ∃ (x207_3 : Int), v207 = .int .i64 x207_3 ∧ Aside0 (laws_FnSievesLeave.l1 kq l1 t401 t402 t405 t413 t405 (t405.length : Int) x207_3 = some r) ∧ Aside0 (kq ≤ k2) ∧ Aside0 (Kd.R k53 53 w' w.heap.size (fun _ => True) (.slice Ao12 t401.length co12) t401) ∧ Aside0 (Kd.R (Kd.int .i64) 3 w' w.heap.size (fun _ => True) (.slice Ao45 t405.length co45) t405) ∧ Aside0 (Kd.R (Kd.int .i64) 3 w' w.heap.size (fun _ => True) (.slice Ao45 t405.length co45) t405) ∧ Aside0 (Below w.heap.size w w'))
            case atStart => exact ⟨(0), (by first | rfl | (simp; done) | (simp [*]; done)), H', ⟨Nat.le_refl _⟩, ⟨by (with_reducible repeat (first | apply Kd.R_alloc | apply Kd.R_drewN | apply Kd.R_drew)); exact HO_5.out⟩, ⟨by (with_reducible repeat (first | apply Kd.R_alloc | apply Kd.R_drewN | apply Kd.R_drew)); exact HO_7.out⟩, ⟨by (with_reducible repeat (first | apply Kd.R_alloc | apply Kd.R_drewN | apply Kd.R_drew)); exact HO_7.out⟩, ⟨by repeat (first | (with_reducible first | exact HB.out | apply below_alloc | apply pw_below_drewN | apply below_drew1) | exact HB.out)⟩⟩
            case round => as_aux_lemma =>
             clear H'
             obtain ⟨x207_3, rfl, HA, HK3, HO_5, HO_7, HO_205, HB⟩ := hrel
             cases gk with
             | zero => exact absurd HA.out (by simp [laws_FnSievesLeave.l1])
             | succ k3 =>
              have H := HA.out
              clear HA
              simp only [laws_FnSievesLeave.l1] at H
              by_cases c66 : x207_3 < (t405.length : Int)
              ·rw [if_pos c66] at H
               have c66b0 : decide (x207_3 < (t405.length : Int)) = true := decide_eq_true c66
               clear c66
               by_cases c67 : 0 ≤ x207_3
               ·rw [if_pos c67] at H
                have c67b0 : decide (0 ≤ x207_3) = true := decide_eq_true c67
                clear c67
                by_cases c68 : x207_3 < (t405.length : Int)
                ·rw [if_pos c68] at H
                 have c68b0 : decide (x207_3 < (t405.length : Int)) = true := decide_eq_true c68
                 clear c68
                 replace H := Option.bind_eq_some_iff.mp H
                 obtain ⟨⟨t432, t433⟩, A690, H⟩ := H
                 replace H : (if t433 = true then (if t432 = (rd t405 x207_3) then (if (wrap64 (x207_3 + 1)) < (t405.length : Int) then ((impl_NextLeft.f k3 t401 (rd t405 x207_3)).bind fun bt434 => (if bt434.2 = true then (if 0 ≤ (wrap64 (x207_3 + 1)) then (if bt434.1 = (rd t405 (wrap64 (x207_3 + 1))) then (laws_FnSievesLeave.l1 k3 l1 t401 t402 t405 t413 t405 (t405.length : Int) (wrap64 (x207_3 + 1))) else (some false)) else (none)) else (some false))) else (laws_FnSievesLeave.l1 k3 l1 t401 t402 t405 t413 t405 (t405.length : Int) (wrap64 (x207_3 + 1)))) else (some false)) else (some false)) = some r := H
                 have A69 := Aside0.mk A690
                 clear A690
                 by_cases c70 : t433 = true
                 ·as_aux_lemma =>
                  subst c70
                  have H1 : (if t432 = (rd t405 x207_3) then (if (wrap64 (x207_3 + 1)) < (t405.length : Int) then ((impl_NextLeft.f k3 t401 (rd t405 x207_3)).bind fun bt434 => (if bt434.2 = true then (if 0 ≤ (wrap64 (x207_3 + 1)) then (if bt434.1 = (rd t405 (wrap64 (x207_3 + 1))) then (laws_FnSievesLeave.l1 k3 l1 t401 t402 t405 t413 t405 (t405.length : Int) (wrap64 (x207_3 + 1))) else (some false)) else (none)) else (some false))) else (laws_FnSievesLeave.l1 k3 l1 t401 t402 t405 t413 t405 (t405.length : Int) (wrap64 (x207_3 + 1)))) else (some false)) = some r := by rw [if_pos rfl] at H; exact H
                  clear H
                  have H := H1
                  clear H1
                  by_cases c71 : t432 = (rd t405 x207_3)
                  ·rw [if_pos c71] at H
                   have c71b0 : (t432 == (rd t405 x207_3)) = true := beq_iff_eq.mpr c71
                   have c71b1 : (t432 != (rd t405 x207_3)) = false := bne_eq_false_iff_eq.mpr c71
                   clear c71
                   by_cases c72 : (wrap64 (x207_3 + 1)) < (t405.length : Int)
                   ·rw [if_pos c72] at H
                    have c72b0 : decide ((wrap64 (x207_3 + 1)) < (t405.length : Int)) = true := decide_eq_true c72
                    clear c72
                    replace H := Option.bind_eq_some_iff.mp H
                    obtain ⟨⟨t434, t435⟩, A730, H⟩ := H
                    replace H : (if t435 = true then (if 0 ≤ (wrap64 (x207_3 + 1)) then (if t434 = (rd t405 (wrap64 (x207_3 + 1))) then (laws_FnSievesLeave.l1 k3 l1 t401 t402 t405 t413 t405 (t405.length : Int) (wrap64 (x207_3 + 1))) else (some false)) else (none)) else (some false)) = some r := H
                    have A73 := Aside0.mk A730
                    clear A730
                    by_cases c74 : t435 = true
                    ·subst c74
                     have H1 : (if 0 ≤ (wrap64 (x207_3 + 1)) then (if t434 = (rd t405 (wrap64 (x207_3 + 1))) then (laws_FnSievesLeave.l1 k3 l1 t401 t402 t405 t413 t405 (t405.length : Int) (wrap64 (x207_3 + 1))) else (some false)) else (none)) = some r := by rw [if_pos rfl] at H; exact H
                     clear H
                     have H := H1
                     clear H1
                     obtain ⟨ji75, hji75⟩ : ∃ j_ : Int, (wrap64 (x207_3 + 1)) = j_ := ⟨_, rfl⟩
                     replace H : (if 0 ≤ (ji75) then (if t434 = (rd t405 (ji75)) then (laws_FnSievesLeave.l1 k3 l1 t401 t402 t405 t413 t405 (t405.length : Int) ji75) else (some false)) else (none)) = some r := by first | (rw [hji75] at H; exact H) | (simp only [hji75] at H ⊢; exact H)
                     (try rw [hji75] at c72b0)
                     (try rw [hji75] at A69)
                     (try rw [hji75] at A73)
                     have hji75w : (IntKind.i64.wrap (x207_3 + 1)) = ji75 := (i64_w _).trans hji75
                     by_cases c76 : 0 ≤ (ji75)
                     ·as_aux_lemma =>
                      rw [if_pos c76] at H
                      have c76b0 : decide (0 ≤ (ji75)) = true := decide_eq_true c76
                      clear c76
                      by_cases c77 : t434 = (rd t405 (ji75))
                      ·rw [if_pos c77] at H
                       have c77b0 : (t434 == (rd t405 (ji75))) = true := beq_iff_eq.mpr c77
                       have c77b1 : (t434 != (rd t405 (ji75))) = false := bne_eq_false_iff_eq.mpr c77
                       clear c77
                       have H' := Aside0.mk H
                       clear H
                       have p431 : 0 ≤ (x207_3 : Int) := of_decide_eq_true (by first | (with_reducible assumption) | assumption)
                       have q431 : x207_3 < (t405.length : Int) := of_decide_eq_true (by first | (with_reducible assumption) | assumption)
                       obtain ⟨ad431, e431, hx431_0⟩ := Kd.at_int (Kd.R_reads' HO_205.out).2.2 x207_3 p431 q431
                       cases e431
                       replace p431 := eq_true p431
                       replace q431 := eq_true q431
                       go_wp2_with (first | ((with_reducible refine gate_callee (f := 37) rfl ?_); refine goesL_ (some 215) rfl rfl Try.func37 (by kernel_rfl) rfl #[.slice Ao12 t401.length co12, .int .i64 x207_3] rfl (by (try simp only [List.map_toArray, List.map_cons, List.map_nil]); first | done | rfl | (simp only [List.length_drop, List.length_take]; rfl)) ?_; (with_reducible refine (impl_LeftOfRank.calls k3 _ _ t401 x207_3 t432 true _ ?side1 ?side2 A69.out).mono ?_); (case side1 => repeat (first | exact (Kd.R_reads' HO_5.out).2.2 | (with_reducible refine Kd.C_alloc ?_ _) | (with_reducible refine Kd.C_drewN ?_ _) | (with_reducible refine Kd.C_drew ?_))); (case side2 => exact (Kd.R_reads' HO_5.out).2.1); rintro e w78 ⟨rfl, hb⟩; refine ⟨_, rfl, ?_⟩; have n0_ := Aside0.mk (Kd.R_below (by (with_reducible repeat (first | apply Kd.R_alloc | apply Kd.R_drewN | apply Kd.R_drew)); exact HO_5.out) hb); have n1_ := Aside0.mk (Kd.R_below (by (with_reducible repeat (first | apply Kd.R_alloc | apply Kd.R_drewN | apply Kd.R_drew)); exact HO_7.out) hb); have n2_ := Aside0.mk (Kd.R_below (by (with_reducible repeat (first | apply Kd.R_alloc | apply Kd.R_drewN | apply Kd.R_drew)); exact HO_205.out) hb); have n3_ := Aside0.mk (below_step (by repeat (first | (with_reducible first | exact HB.out | apply below_alloc | apply pw_below_drewN | apply below_drew1) | exact HB.out)) hb); clear HO_5; clear HO_7; clear HO_205; clear HB; have HO_5 := n0_; have HO_7 := n1_; have HO_205 := n2_; have HB := n3_; clear n0_ n1_ n2_ n3_; (try clear hb); (try clear hb2); (try clear hk); (try clear hi)) | ((with_reducible refine gate_callee (f := 25) rfl ?_); refine goesL_ (some 233) rfl rfl Try.func25 (by kernel_rfl) rfl #[.slice Ao12 t401.length co12, .int .i64 (rd t405 x207_3)] rfl (by (try simp only [List.map_toArray, List.map_cons, List.map_nil]); first | done | rfl | (simp only [List.length_drop, List.length_take]; rfl)) ?_; (with_reducible refine (impl_NextLeft.calls k3 _ _ t401 (rd t405 x207_3) t434 true _ ?side1 ?side2 A73.out).mono ?_); (case side1 => repeat (first | exact (Kd.R_reads' HO_5.out).2.2 | (with_reducible refine Kd.C_alloc ?_ _) | (with_reducible refine Kd.C_drewN ?_ _) | (with_reducible refine Kd.C_drew ?_))); (case side2 => exact (Kd.R_reads' HO_5.out).2.1); rintro e w79 ⟨rfl, hb⟩; refine ⟨_, rfl, ?_⟩; have n0_ := Aside0.mk (Kd.R_below (by (with_reducible repeat (first | apply Kd.R_alloc | apply Kd.R_drewN | apply Kd.R_drew)); exact HO_5.out) hb); have n1_ := Aside0.mk (Kd.R_below (by (with_reducible repeat (first | apply Kd.R_alloc | apply Kd.R_drewN | apply Kd.R_drew)); exact HO_7.out) hb); have n2_ := Aside0.mk (Kd.R_below (by (with_reducible repeat (first | apply Kd.R_alloc | apply Kd.R_drewN | apply Kd.R_drew)); exact HO_205.out) hb); have n3_ := Aside0.mk (below_step (by repeat (first | (with_reducible first | exact HB.out | apply below_alloc | apply pw_below_drewN | apply below_drew1) | exact HB.out)) hb); clear HO_5; clear HO_7; clear HO_205; clear HB; have HO_5 := n0_; have HO_7 := n1_; have HO_205 := n2_; have HB := n3_; clear n0_ n1_ n2_ n3_; (try clear hb); (try clear hb2); (try clear hk); (try clear hi); have p436 : 0 ≤ ((ji75) : Int) := of_decide_eq_true (by first | (with_reducible assumption) | assumption); have q436 : (ji75) < (t405.length : Int) := of_decide_eq_true (by first | (with_reducible assumption) | assumption); obtain ⟨ad436, e436, hx436_0⟩ := Kd.at_int (Kd.R_reads' HO_7.out).2.2 (ji75) p436 q436; obtain rfl : ad431 = ad436 := (by injection e436); replace p436 := eq_true p436; replace q436 := eq_true q436))
                       refine Handed.intro k3 ?measure ?_
                       rotate_left
                       go_step
                       (repeat with_reducible apply ex32_)
                       (repeat apply Exists.intro)
                       refine ⟨?rel, rfl⟩
                       case measure => have := HJ9.out; have := HK2.out; have := HK3.out; omega
                       case rel => exact ⟨(ji75), (by first | rfl | (simp; done) | (simp only [← hji75] <;> (first | rfl | simp)) | (simp [*]; done)), H', ⟨by have := HJ9.out; have := HK2.out; have := HK3.out; omega⟩, ⟨by (with_reducible repeat (first | apply Kd.R_alloc | apply Kd.R_drewN | apply Kd.R_drew)); exact HO_5.out⟩, ⟨by (with_reducible repeat (first | apply Kd.R_alloc | apply Kd.R_drewN | apply Kd.R_drew)); exact HO_7.out⟩, ⟨by (with_reducible repeat (first | apply Kd.R_alloc | apply Kd.R_drewN | apply Kd.R_drew)); exact HO_205.out⟩, ⟨by repeat (first | (with_reducible first | exact HB.out | apply below_alloc | apply pw_below_drewN | apply below_drew1) | exact HB.out)⟩⟩
                      ·rw [if_neg c77] at H
                       have c77b0 : (t434 == (rd t405 (ji75))) = false := beq_eq_false_iff_ne.mpr c77
                       have c77b1 : (t434 != (rd t405 (ji75))) = true := bne_iff_ne.mpr c77
                       exact absurd (Option.some.inj H) (by rw [HRT.out]; decide)
                     ·rw [if_neg c76] at H
                      exact absurd H (by simp)
                    ·replace c74 := Bool.eq_false_iff.mpr c74
                     subst c74
                     have H1 : (some false) = some r := by rw [if_neg (show ¬ (false = true) by decide)] at H; exact H
                     clear H
                     have H := H1
                     clear H1
                     exact absurd (Option.some.inj H) (by rw [HRT.out]; decide)
                   ·as_aux_lemma =>
                    rw [if_neg c72] at H
                    have c72b0 : decide ((wrap64 (x207_3 + 1)) < (t405.length : Int)) = false := decide_eq_false c72
                    clear c72
                    have H' := Aside0.mk H
                    clear H
                    have p431 : 0 ≤ (x207_3 : Int) := of_decide_eq_true (by first | (with_reducible assumption) | assumption)
                    have q431 : x207_3 < (t405.length : Int) := of_decide_eq_true (by first | (with_reducible assumption) | assumption)
                    obtain ⟨ad431, e431, hx431_0⟩ := Kd.at_int (Kd.R_reads' HO_205.out).2.2 x207_3 p431 q431
                    cases e431
                    replace p431 := eq_true p431
                    replace q431 := eq_true q431
                    go_wp2_with (first | ((with_reducible refine gate_callee (f := 37) rfl ?_); refine goesL_ (some 215) rfl rfl Try.func37 (by kernel_rfl) rfl #[.slice Ao12 t401.length co12, .int .i64 x207_3] rfl (by (try simp only [List.map_toArray, List.map_cons, List.map_nil]); first | done | rfl | (simp only [List.length_drop, List.length_take]; rfl)) ?_; (with_reducible refine (impl_LeftOfRank.calls k3 _ _ t401 x207_3 t432 true _ ?side1 ?side2 A69.out).mono ?_); (case side1 => repeat (first | exact (Kd.R_reads' HO_5.out).2.2 | (with_reducible refine Kd.C_alloc ?_ _) | (with_reducible refine Kd.C_drewN ?_ _) | (with_reducible refine Kd.C_drew ?_))); (case side2 => exact (Kd.R_reads' HO_5.out).2.1); rintro e w80 ⟨rfl, hb⟩; refine ⟨_, rfl, ?_⟩; have n0_ := Aside0.mk (Kd.R_below (by (with_reducible repeat (first | apply Kd.R_alloc | apply Kd.R_drewN | apply Kd.R_drew)); exact HO_5.out) hb); have n1_ := Aside0.mk (Kd.R_below (by (with_reducible repeat (first | apply Kd.R_alloc | apply Kd.R_drewN | apply Kd.R_drew)); exact HO_7.out) hb); have n2_ := Aside0.mk (Kd.R_below (by (with_reducible repeat (first | apply Kd.R_alloc | apply Kd.R_drewN | apply Kd.R_drew)); exact HO_205.out) hb); have n3_ := Aside0.mk (below_step (by repeat (first | (with_reducible first | exact HB.out | apply below_alloc | apply pw_below_drewN | apply below_drew1) | exact HB.out)) hb); clear HO_5; clear HO_7; clear HO_205; clear HB; have HO_5 := n0_; have HO_7 := n1_; have HO_205 := n2_; have HB := n3_; clear n0_ n1_ n2_ n3_; (try clear hb); (try clear hb2); (try clear hk); (try clear hi)))
                    refine Handed.intro k3 ?measure ?_
                    rotate_left
                    go_step
                    (repeat with_reducible apply ex32_)
                    (repeat apply Exists.intro)
                    refine ⟨?rel, rfl⟩
                    case measure => have := HJ9.out; have := HK2.out; have := HK3.out; omega
                    case rel => exact ⟨(wrap64 (x207_3 + 1)), (by first | rfl | (simp; done) | (simp [*]; done)), H', ⟨by have := HJ9.out; have := HK2.out; have := HK3.out; omega⟩, ⟨by (with_reducible repeat (first | apply Kd.R_alloc | apply Kd.R_drewN | apply Kd.R_drew)); exact HO_5.out⟩, ⟨by (with_reducible repeat (first | apply Kd.R_alloc | apply Kd.R_drewN | apply Kd.R_drew)); exact HO_7.out⟩, ⟨by (with_reducible repeat (first | apply Kd.R_alloc | apply Kd.R_drewN | apply Kd.R_drew)); exact HO_205.out⟩, ⟨by repeat (first | (with_reducible first | exact HB.out | apply below_alloc | apply pw_below_drewN | apply below_drew1) | exact HB.out)⟩⟩
                  ·rw [if_neg c71] at H
                   have c71b0 : (t432 == (rd t405 x207_3)) = false := beq_eq_false_iff_ne.mpr c71
                   have c71b1 : (t432 != (rd t405 x207_3)) = true := bne_iff_ne.mpr c71
                   exact absurd (Option.some.inj H) (by rw [HRT.out]; decide)
                 ·replace c70 := Bool.eq_false_iff.mpr c70
                  subst c70
                  have H1 : (some false) = some r := by rw [if_neg (show ¬ (false = true) by decide)] at H; exact H
                  clear H
                  have H := H1
                  clear H1
                  exact absurd (Option.some.inj H) (by rw [HRT.out]; decide)
                ·rw [if_neg c68] at H
                 exact absurd H (by simp)
               ·rw [if_neg c67] at H
                exact absurd H (by simp)
              ·as_aux_lemma =>
               rw [if_neg c66] at H
               have c66b0 : decide (x207_3 < (t405.length : Int)) = false := decide_eq_false c66
               clear c66
               have H' := Aside0.mk H
               clear H
               go_wp2
               as_aux_lemma =>
               go_loopg [26, 250] k3 (fun kq v26 v250 w' => ∃ (x26_4 : Int) (x250_4 : Int), v26 = .int .i64 x26_4 ∧ v250 = .int .i64 x250_4 ∧ Aside0 (laws_FnSievesLeave.l2 kq l1 t401 t402 t413 x26_4 (t401.length : Int) x250_4 = some r) ∧ Aside0 (kq ≤ k3) ∧ Aside0 (Kd.R k53 53 w' w.heap.size (fun _ => True) (.slice Ao12 t401.length co12) t401) ∧ Aside0 (Below w.heap.size w w'))
               case atStart => exact ⟨(0), (0), (by first | rfl | (simp; done) | (simp [*]; done)), (by first | rfl | (simp; done) | (simp [*]; done)), H', ⟨Nat.le_refl _⟩, ⟨by (with_reducible repeat (first | apply Kd.R_alloc | apply Kd.R_drewN | apply Kd.R_drew)); exact HO_5.out⟩, ⟨by repeat (first | (with_reducible first | exact HB.out | apply below_alloc | apply pw_below_drewN | apply below_drew1) | exact HB.out)⟩⟩
               case round => as_aux_lemma =>
                clear H'
                obtain ⟨x26_4, x250_4, rfl, rfl, HA, HK4, HO_5, HB⟩ := hrel
                cases gk with
                | zero => exact absurd HA.out (by simp [laws_FnSievesLeave.l2])
                | succ k4 =>
                 have H := HA.out
                 clear HA
                 simp only [laws_FnSievesLeave.l2] at H
                 by_cases c81 : x250_4 < (t401.length : Int)
                 ·rw [if_pos c81] at H
                  have c81b0 : decide (x250_4 < (t401.length : Int)) = true := decide_eq_true c81
                  clear c81
                  replace H := Option.bind_eq_some_iff.mp H
                  obtain ⟨⟨t437, t438⟩, A820, H⟩ := H
                  replace H : (if t438 = true then ((laws_tRises.f k4 t437 1 t402).bind fun t441 => (if t441 = true then (laws_FnSievesLeave.l2 k4 l1 t401 t402 t413 (wrap64 (x26_4 + (t437.length : Int))) (t401.length : Int) (wrap64 (x250_4 + 1))) else (some false))) else (some false)) = some r := H
                  have A82 := Aside0.mk A820
                  clear A820
                  by_cases c83 : t438 = true
                  ·subst c83
                   have H1 : ((laws_tRises.f k4 t437 1 t402).bind fun t441 => (if t441 = true then (laws_FnSievesLeave.l2 k4 l1 t401 t402 t413 (wrap64 (x26_4 + (t437.length : Int))) (t401.length : Int) (wrap64 (x250_4 + 1))) else (some false))) = some r := by rw [if_pos rfl] at H; exact H
                   clear H
                   have H := H1
                   clear H1
                   replace H := Option.bind_eq_some_iff.mp H
                   obtain ⟨t441, A840, H⟩ := H
                   replace H : (if t441 = true then (laws_FnSievesLeave.l2 k4 l1 t401 t402 t413 (wrap64 (x26_4 + (t437.length : Int))) (t401.length : Int) (wrap64 (x250_4 + 1))) else (some false)) = some r := H
                   have A84 := Aside0.mk A840
                   clear A840
                   by_cases c85 : t441 = true
                   ·as_aux_lemma =>
                    subst c85
                    have H1 : (laws_FnSievesLeave.l2 k4 l1 t401 t402 t413 (wrap64 (x26_4 + (t437.length : Int))) (t401.length : Int) (wrap64 (x250_4 + 1))) = some r := by rw [if_pos rfl] at H; exact H
                    clear H
                    have H := H1
                    clear H1
                    have H' := Aside0.mk H
                    clear H
                    go_wp2_with (first | ((with_reducible refine gate_callee (f := 39) rfl ?_); refine goesL_ (some 257) rfl rfl Try.func39 (by kernel_rfl) rfl #[.slice Ao12 t401.length co12, .int .i64 x250_4, .int .i64 t402] rfl (by (try simp only [List.map_toArray, List.map_cons, List.map_nil]); first | done | rfl | (simp only [List.length_drop, List.length_take]; rfl)) ?_; (with_reducible refine (impl_CrossedBy.calls k4 _ _ t401 x250_4 t402 t437 true _ ?side1 ?side2 A82.out).mono ?_); (case side1 => repeat (first | exact (Kd.R_reads' HO_5.out).2.2 | (with_reducible refine Kd.C_alloc ?_ _) | (with_reducible refine Kd.C_drewN ?_ _) | (with_reducible refine Kd.C_drew ?_))); (case side2 => exact (Kd.R_reads' HO_5.out).2.1); rintro e w86 ⟨v439, rfl, ho0, hb⟩; refine ⟨_, rfl, ?_⟩; have n0_ := Aside0.mk (Kd.R_below (by (with_reducible repeat (first | apply Kd.R_alloc | apply Kd.R_drewN | apply Kd.R_drew)); exact HO_5.out) hb); have n1_ := Aside0.mk (Kd.R_lower ho0 (below_size (by repeat (first | (with_reducible first | exact HB.out | apply below_alloc | apply pw_below_drewN | apply below_drew1) | exact HB.out)))); have n2_ := Aside0.mk (below_step (by repeat (first | (with_reducible first | exact HB.out | apply below_alloc | apply pw_below_drewN | apply below_drew1) | exact HB.out)) hb); clear HO_5; clear HB; have HO_5 := n0_; have HO440 := n1_; have HB := n2_; clear n0_ n1_ n2_; (try clear hb); (try clear hb2); (try clear hk); (try clear hi); (try clear ho0); obtain ⟨Ao87, co87, eo87⟩ := Kd.R_slice HO440.out; subst eo87) | (go_at_call 48; (with_reducible refine (laws_tRises.calls k4 _ _ t437 1 t402 true _ ?side1 ?side2 A84.out).mono ?_); (case side1 => repeat (first | exact (Kd.R_reads' HO440.out).2.2 | (with_reducible refine Kd.C_alloc ?_ _) | (with_reducible refine Kd.C_drewN ?_ _) | (with_reducible refine Kd.C_drew ?_))); (case side2 => exact (Kd.R_reads' HO440.out).2.1); rintro e w' ⟨rfl, ⟨nd, rfl⟩⟩))
                    refine Handed.intro k4 ?measure ?_
                    rotate_left
                    go_step
                    (repeat with_reducible apply ex32_)
                    (repeat apply Exists.intro)
                    refine ⟨?rel, rfl⟩
                    case measure => have := HJ9.out; have := HK2.out; have := HK3.out; have := HK4.out; omega
                    case rel => exact ⟨(wrap64 (x26_4 + (t437.length : Int))), (wrap64 (x250_4 + 1)), (by first | rfl | (simp; done) | (simp [*]; done)), (by first | rfl | (simp; done) | (simp [*]; done)), H', ⟨by have := HJ9.out; have := HK2.out; have := HK3.out; have := HK4.out; omega⟩, ⟨by (with_reducible repeat (first | apply Kd.R_alloc | apply Kd.R_drewN | apply Kd.R_drew)); exact HO_5.out⟩, ⟨by repeat (first | (with_reducible first | exact HB.out | apply below_alloc | apply pw_below_drewN | apply below_drew1) | exact HB.out)⟩⟩
                   ·replace c85 := Bool.eq_false_iff.mpr c85
                    subst c85
                    have H1 : (some false) = some r := by rw [if_neg (show ¬ (false = true) by decide)] at H; exact H
                    clear H
                    have H := H1
                    clear H1
                    exact absurd (Option.some.inj H) (by rw [HRT.out]; decide)
                  ·replace c83 := Bool.eq_false_iff.mpr c83
                   subst c83
                   have H1 : (some false) = some r := by rw [if_neg (show ¬ (false = true) by decide)] at H; exact H
                   clear H
                   have H := H1
                   clear H1
                   exact absurd (Option.some.inj H) (by rw [HRT.out]; decide)
                 ·as_aux_lemma =>
                  rw [if_neg c81] at H
                  have c81b0 : decide (x250_4 < (t401.length : Int)) = false := decide_eq_false c81
                  clear c81
                  by_cases c88 : (wrap64 (x26_4 + t413)) = t402
                  ·rw [if_pos c88] at H
                   have c88b0 : ((wrap64 (x26_4 + t413)) == t402) = true := beq_iff_eq.mpr c88
                   have c88b1 : ((wrap64 (x26_4 + t413)) != t402) = false := bne_eq_false_iff_eq.mpr c88
                   clear c88
                   have H' := Aside0.mk H
                   clear H
                   go_wp2
                   refine Met.intro ?_
                   go_step
                   (repeat with_reducible apply ex32_)
                   (repeat apply Exists.intro)
                   refine ⟨?rel, rfl⟩
                   case rel => exact ⟨_, H', ⟨by have := HJ9.out; have := HK2.out; have := HK3.out; have := HK4.out; first | omega | exact Nat.le_refl _⟩, ⟨by repeat (first | (with_reducible first | exact HB.out | apply below_alloc | apply pw_below_drewN | apply below_drew1) | exact HB.out)⟩⟩
                  ·rw [if_neg c88] at H
                   have c88b0 : ((wrap64 (x26_4 + t413)) == t402) = false := beq_eq_false_iff_ne.mpr c88
                   have c88b1 : ((wrap64 (x26_4 + t413)) != t402) = true := bne_iff_ne.mpr c88
                   exact absurd (Option.some.inj H) (by rw [HRT.out]; decide)
        ·replace c44 := Bool.eq_false_iff.mpr c44
         subst c44
         have H1 : (some false) = some r := by rw [if_neg (show ¬ (false = true) by decide)] at H; exact H
         clear H
         have H := H1
         clear H1
         exact absurd (Option.some.inj H) (by rw [HRT.out]; decide)
       ·rw [if_neg c42] at H
        have c42b0 : ((t405.length : Int) == t413) = false := beq_eq_false_iff_ne.mpr c42
        have c42b1 : ((t405.length : Int) != t413) = true := bne_iff_ne.mpr c42
        (first | rw [c42b0] | (simp only [i64_w, i32_w]; rw [c42b0]) | skip)
        exact absurd (Option.some.inj H) (by rw [HRT.out]; decide)
      ·as_aux_lemma =>
       replace c41 := Bool.eq_false_iff.mpr c41
       subst c41
       have H1 : (laws_FnSievesLeave.j4 kj9 l1) = some r := by rw [if_neg (show ¬ (false = true) by decide)] at H; exact H
       clear H
       have H := H1
       clear H1
       have H' := Aside0.mk H
       clear H
       go_wp2
       refine Met.intro ?_
       go_step
       (repeat with_reducible apply ex32_)
       (repeat apply Exists.intro)
       refine ⟨?rel, rfl⟩
       case rel => exact ⟨_, H', ⟨by have := HJ9.out; first | omega | exact Nat.le_refl _⟩, ⟨by repeat (first | (with_reducible first | exact HB.out | apply below_alloc | apply pw_below_drewN | apply below_drew1) | exact HB.out)⟩⟩
     case rest => as_aux_lemma =>
      clear HC40
      obtain ⟨kq, HA, HJ39, HB⟩ := hcut
      cases kq with
      | zero => exact absurd HA.out (by simp [laws_FnSievesLeave.j4])
      | succ kj39 =>
       have H := HA.out
       clear HA
       simp only [laws_FnSievesLeave.j4] at H
       replace H := Option.bind_eq_some_iff.mp H
       obtain ⟨⟨t442, t443, t444⟩, A890, H⟩ := H
       replace H : ((impl_CountBetween.f kj39 t442 t443 t444).bind fun bt447 => ((spec_CountBetween.f kj39 t442 t443 t444).bind fun bt449 => ((spec_DrawLeftOfRank.f kj39 l1).bind fun bt451 => ((impl_LeftOfRank.f kj39 bt451.1 bt451.2).bind fun bt455 => ((spec_LeftOfRank.f kj39 bt451.1 bt451.2).bind fun bt457 => ((spec_DrawNextLeft.f kj39 l1).bind fun bt459 => ((impl_NextLeft.f kj39 bt459.1 bt459.2).bind fun bt463 => ((spec_NextLeft.f kj39 bt459.1 bt459.2).bind fun bt465 => ((impl_FirstRule.f bt459.1 bt459.2).bind fun bt467 => ((spec_FirstRule.f kj39 bt459.1 bt459.2).bind fun bt469 => ((spec_DrawCrossedBy.f kj39 l1).bind fun bt471 => ((impl_CrossedBy.f kj39 bt471.1 bt471.2.1 bt471.2.2).bind fun bt476 => ((spec_CrossedBy.f kj39 bt471.1 bt471.2.1 bt471.2.2).bind fun bt480 => (if (bt447.2 != bt449.2) = true then (some false) else (if bt447.1 = bt449.1 then (if (bt455.2 != bt457.2) = true then (some false) else (if bt455.1 = bt457.1 then (if (bt463.2 != bt465.2) = true then (some false) else (if bt463.1 = bt465.1 then (if (bt467.2 != bt469.2) = true then (some false) else (if bt467.1 = bt469.1 then (if (bt476.2 != bt480.2) = true then (some false) else ((laws_tSame.f kj39 bt476.1 bt480.1).bind fun t484 => (if t484 = true then ((spec_DrawIsRule.f l1).bind fun bt485 => ((impl_IsRule.f bt485.1 bt485.2).bind fun t487 => ((spec_DrawIsRule.f l1).bind fun bt488 => ((spec_IsRule.f bt488.1 bt488.2).bind fun t490 => (if (t487 != t490) = true then (some false) else (if bt447.2 = true then (if t443 ≥ 1 then (laws_FnSievesLeave.j5 kj39 t442 t443 t444 bt447.1 (decide (t444 ≥ t443))) else (laws_FnSievesLeave.j5 kj39 t442 t443 t444 bt447.1 false)) else (laws_FnSievesLeave.j5 kj39 t442 t443 t444 bt447.1 false))))))) else (some false)))) else (some false))) else (some false))) else (some false))) else (some false)))))))))))))))) = some r := H
       have A89 := Aside0.mk A890
       clear A890
       replace H := Option.bind_eq_some_iff.mp H
       obtain ⟨⟨t447, t448⟩, A900, H⟩ := H
       replace H : ((spec_CountBetween.f kj39 t442 t443 t444).bind fun bt449 => ((spec_DrawLeftOfRank.f kj39 l1).bind fun bt451 => ((impl_LeftOfRank.f kj39 bt451.1 bt451.2).bind fun bt455 => ((spec_LeftOfRank.f kj39 bt451.1 bt451.2).bind fun bt457 => ((spec_DrawNextLeft.f kj39 l1).bind fun bt459 => ((impl_NextLeft.f kj39 bt459.1 bt459.2).bind fun bt463 => ((spec_NextLeft.f kj39 bt459.1 bt459.2).bind fun bt465 => ((impl_FirstRule.f bt459.1 bt459.2).bind fun bt467 => ((spec_FirstRule.f kj39 bt459.1 bt459.2).bind fun bt469 => ((spec_DrawCrossedBy.f kj39 l1).bind fun bt471 => ((impl_CrossedBy.f kj39 bt471.1 bt471.2.1 bt471.2.2).bind fun bt476 => ((spec_CrossedBy.f kj39 bt471.1 bt471.2.1 bt471.2.2).bind fun bt480 => (if (t448 != bt449.2) = true then (some false) else (if t447 = bt449.1 then (if (bt455.2 != bt457.2) = true then (some false) else (if bt455.1 = bt457.1 then (if (bt463.2 != bt465.2) = true then (some false) else (if bt463.1 = bt465.1 then (if (bt467.2 != bt469.2) = true then (some false) else (if bt467.1 = bt469.1 then (if (bt476.2 != bt480.2) = true then (some false) else ((laws_tSame.f kj39 bt476.1 bt480.1).bind fun t484 => (if t484 = true then ((spec_DrawIsRule.f l1).bind fun bt485 => ((impl_IsRule.f bt485.1 bt485.2).bind fun t487 => ((spec_DrawIsRule.f l1).bind fun bt488 => ((spec_IsRule.f bt488.1 bt488.2).bind fun t490 => (if (t487 != t490) = true then (some false) else (if t448 = true then (if t443 ≥ 1 then (laws_FnSievesLeave.j5 kj39 t442 t443 t444 t447 (decide (t444 ≥ t443))) else (laws_FnSievesLeave.j5 kj39 t442 t443 t444 t447 false)) else (laws_FnSievesLeave.j5 kj39 t442 t443 t444 t447 false))))))) else (some false)))) else (some false))) else (some false))) else (some false))) else (some false))))))))))))))) = some r := H
       have A90 := Aside0.mk A900
       clear A900
       replace H := Option.bind_eq_some_iff.mp H
       obtain ⟨⟨t449, t450⟩, A910, H⟩ := H
       replace H : ((spec_DrawLeftOfRank.f kj39 l1).bind fun bt451 => ((impl_LeftOfRank.f kj39 bt451.1 bt451.2).bind fun bt455 => ((spec_LeftOfRank.f kj39 bt451.1 bt451.2).bind fun bt457 => ((spec_DrawNextLeft.f kj39 l1).bind fun bt459 => ((impl_NextLeft.f kj39 bt459.1 bt459.2).bind fun bt463 => ((spec_NextLeft.f kj39 bt459.1 bt459.2).bind fun bt465 => ((impl_FirstRule.f bt459.1 bt459.2).bind fun bt467 => ((spec_FirstRule.f kj39 bt459.1 bt459.2).bind fun bt469 => ((spec_DrawCrossedBy.f kj39 l1).bind fun bt471 => ((impl_CrossedBy.f kj39 bt471.1 bt471.2.1 bt471.2.2).bind fun bt476 => ((spec_CrossedBy.f kj39 bt471.1 bt471.2.1 bt471.2.2).bind fun bt480 => (if (t448 != t450) = true then (some false) else (if t447 = t449 then (if (bt455.2 != bt457.2) = true then (some false) else (if bt455.1 = bt457.1 then (if (bt463.2 != bt465.2) = true then (some false) else (if bt463.1 = bt465.1 then (if (bt467.2 != bt469.2) = true then (some false) else (if bt467.1 = bt469.1 then (if (bt476.2 != bt480.2) = true then (some false) else ((laws_tSame.f kj39 bt476.1 bt480.1).bind fun t484 => (if t484 = true then ((spec_DrawIsRule.f l1).bind fun bt485 => ((impl_IsRule.f bt485.1 bt485.2).bind fun t487 => ((spec_DrawIsRule.f l1).bind fun bt488 => ((spec_IsRule.f bt488.1 bt488.2).bind fun t490 => (if (t487 != t490) = true then (some false) else (if t448 = true then (if t443 ≥ 1 then (laws_FnSievesLeave.j5 kj39 t442 t443 t444 t447 (decide (t444 ≥ t443))) else (laws_FnSievesLeave.j5 kj39 t442 t443 t444 t447 false)) else (laws_FnSievesLeave.j5 kj39 t442 t443 t444 t447 false))))))) else (some false)))) else (some false))) else (some false))) else (some false))) else (some false)))))))))))))) = some r := H
       have A91 := Aside0.mk A910
       clear A910
       replace H := Option.bind_eq_some_iff.mp H
       obtain ⟨⟨t451, t452⟩, A920, H⟩ := H
       replace H : ((impl_LeftOfRank.f kj39 t451 t452).bind fun bt455 => ((spec_LeftOfRank.f kj39 t451 t452).bind fun bt457 => ((spec_DrawNextLeft.f kj39 l1).bind fun bt459 => ((impl_NextLeft.f kj39 bt459.1 bt459.2).bind fun bt463 => ((spec_NextLeft.f kj39 bt459.1 bt459.2).bind fun bt465 => ((impl_FirstRule.f bt459.1 bt459.2).bind fun bt467 => ((spec_FirstRule.f kj39 bt459.1 bt459.2).bind fun bt469 => ((spec_DrawCrossedBy.f kj39 l1).bind fun bt471 => ((impl_CrossedBy.f kj39 bt471.1 bt471.2.1 bt471.2.2).bind fun bt476 => ((spec_CrossedBy.f kj39 bt471.1 bt471.2.1 bt471.2.2).bind fun bt480 => (if (t448 != t450) = true then (some false) else (if t447 = t449 then (if (bt455.2 != bt457.2) = true then (some false) else (if bt455.1 = bt457.1 then (if (bt463.2 != bt465.2) = true then (some false) else (if bt463.1 = bt465.1 then (if (bt467.2 != bt469.2) = true then (some false) else (if bt467.1 = bt469.1 then (if (bt476.2 != bt480.2) = true then (some false) else ((laws_tSame.f kj39 bt476.1 bt480.1).bind fun t484 => (if t484 = true then ((spec_DrawIsRule.f l1).bind fun bt485 => ((impl_IsRule.f bt485.1 bt485.2).bind fun t487 => ((spec_DrawIsRule.f l1).bind fun bt488 => ((spec_IsRule.f bt488.1 bt488.2).bind fun t490 => (if (t487 != t490) = true then (some false) else (if t448 = true then (if t443 ≥ 1 then (laws_FnSievesLeave.j5 kj39 t442 t443 t444 t447 (decide (t444 ≥ t443))) else (laws_FnSievesLeave.j5 kj39 t442 t443 t444 t447 false)) else (laws_FnSievesLeave.j5 kj39 t442 t443 t444 t447 false))))))) else (some false)))) else (some false))) else (some false))) else (some false))) else (some false))))))))))))) = some r := H
       have A92 := Aside0.mk A920
       clear A920
       as_aux_lemma =>
       replace H := Option.bind_eq_some_iff.mp H
       obtain ⟨⟨t455, t456⟩, A930, H⟩ := H
       replace H : ((spec_LeftOfRank.f kj39 t451 t452).bind fun bt457 => ((spec_DrawNextLeft.f kj39 l1).bind fun bt459 => ((impl_NextLeft.f kj39 bt459.1 bt459.2).bind fun bt463 => ((spec_NextLeft.f kj39 bt459.1 bt459.2).bind fun bt465 => ((impl_FirstRule.f bt459.1 bt459.2).bind fun bt467 => ((spec_FirstRule.f kj39 bt459.1 bt459.2).bind fun bt469 => ((spec_DrawCrossedBy.f kj39 l1).bind fun bt471 => ((impl_CrossedBy.f kj39 bt471.1 bt471.2.1 bt471.2.2).bind fun bt476 => ((spec_CrossedBy.f kj39 bt471.1 bt471.2.1 bt471.2.2).bind fun bt480 => (if (t448 != t450) = true then (some false) else (if t447 = t449 then (if (t456 != bt457.2) = true then (some false) else (if t455 = bt457.1 then (if (bt463.2 != bt465.2) = true then (some false) else (if bt463.1 = bt465.1 then (if (bt467.2 != bt469.2) = true then (some false) else (if bt467.1 = bt469.1 then (if (bt476.2 != bt480.2) = true then (some false) else ((laws_tSame.f kj39 bt476.1 bt480.1).bind fun t484 => (if t484 = true then ((spec_DrawIsRule.f l1).bind fun bt485 => ((impl_IsRule.f bt485.1 bt485.2).bind fun t487 => ((spec_DrawIsRule.f l1).bind fun bt488 => ((spec_IsRule.f bt488.1 bt488.2).bind fun t490 => (if (t487 != t490) = true then (some false) else (if t448 = true then (if t443 ≥ 1 then (laws_FnSievesLeave.j5 kj39 t442 t443 t444 t447 (decide (t444 ≥ t443))) else (laws_FnSievesLeave.j5 kj39 t442 t443 t444 t447 false)) else (laws_FnSievesLeave.j5 kj39 t442 t443 t444 t447 false))))))) else (some false)))) else (some false))) else (some false))) else (some false))) else (some false)))))))))))) = some r := H
       have A93 := Aside0.mk A930
       clear A930
       replace H := Option.bind_eq_some_iff.mp H
       obtain ⟨⟨t457, t458⟩, A940, H⟩ := H
       replace H : ((spec_DrawNextLeft.f kj39 l1).bind fun bt459 => ((impl_NextLeft.f kj39 bt459.1 bt459.2).bind fun bt463 => ((spec_NextLeft.f kj39 bt459.1 bt459.2).bind fun bt465 => ((impl_FirstRule.f bt459.1 bt459.2).bind fun bt467 => ((spec_FirstRule.f kj39 bt459.1 bt459.2).bind fun bt469 => ((spec_DrawCrossedBy.f kj39 l1).bind fun bt471 => ((impl_CrossedBy.f kj39 bt471.1 bt471.2.1 bt471.2.2).bind fun bt476 => ((spec_CrossedBy.f kj39 bt471.1 bt471.2.1 bt471.2.2).bind fun bt480 => (if (t448 != t450) = true then (some false) else (if t447 = t449 then (if (t456 != t458) = true then (some false) else (if t455 = t457 then (if (bt463.2 != bt465.2) = true then (some false) else (if bt463.1 = bt465.1 then (if (bt467.2 != bt469.2) = true then (some false) else (if bt467.1 = bt469.1 then (if (bt476.2 != bt480.2) = true then (some false) else ((laws_tSame.f kj39 bt476.1 bt480.1).bind fun t484 => (if t484 = true then ((spec_DrawIsRule.f l1).bind fun bt485 => ((impl_IsRule.f bt485.1 bt485.2).bind fun t487 => ((spec_DrawIsRule.f l1).bind fun bt488 => ((spec_IsRule.f bt488.1 bt488.2).bind fun t490 => (if (t487 != t490) = true then (some false) else (if t448 = true then (if t443 ≥ 1 then (laws_FnSievesLeave.j5 kj39 t442 t443 t444 t447 (decide (t444 ≥ t443))) else (laws_FnSievesLeave.j5 kj39 t442 t443 t444 t447 false)) else (laws_FnSievesLeave.j5 kj39 t442 t443 t444 t447 false))))))) else (some false)))) else (some false))) else (some false))) else (some false))) else (some false))))))))))) = some r := H
       have A94 := Aside0.mk A940
       clear A940
       replace H := Option.bind_eq_some_iff.mp H
       obtain ⟨⟨t459, t460⟩, A950, H⟩ := H
       replace H : ((impl_NextLeft.f kj39 t459 t460).bind fun bt463 => ((spec_NextLeft.f kj39 t459 t460).bind fun bt465 => ((impl_FirstRule.f t459 t460).bind fun bt467 => ((spec_FirstRule.f kj39 t459 t460).bind fun bt469 => ((spec_DrawCrossedBy.f kj39 l1).bind fun bt471 => ((impl_CrossedBy.f kj39 bt471.1 bt471.2.1 bt471.2.2).bind fun bt476 => ((spec_CrossedBy.f kj39 bt471.1 bt471.2.1 bt471.2.2).bind fun bt480 => (if (t448 != t450) = true then (some false) else (if t447 = t449 then (if (t456 != t458) = true then (some false) else (if t455 = t457 then (if (bt463.2 != bt465.2) = true then (some false) else (if bt463.1 = bt465.1 then (if (bt467.2 != bt469.2) = true then (some false) else (if bt467.1 = bt469.1 then (if (bt476.2 != bt480.2) = true then (some false) else ((laws_tSame.f kj39 bt476.1 bt480.1).bind fun t484 => (if t484 = true then ((spec_DrawIsRule.f l1).bind fun bt485 => ((impl_IsRule.f bt485.1 bt485.2).bind fun t487 => ((spec_DrawIsRule.f l1).bind fun bt488 => ((spec_IsRule.f bt488.1 bt488.2).bind fun t490 => (if (t487 != t490) = true then (some false) else (if t448 = true then (if t443 ≥ 1 then (laws_FnSievesLeave.j5 kj39 t442 t443 t444 t447 (decide (t444 ≥ t443))) else (laws_FnSievesLeave.j5 kj39 t442 t443 t444 t447 false)) else (laws_FnSievesLeave.j5 kj39 t442 t443 t444 t447 false))))))) else (some false)))) else (some false))) else (some false))) else (some false))) else (some false)))))))))) = some r := H
       have A95 := Aside0.mk A950
       clear A950
       replace H := Option.bind_eq_some_iff.mp H
       obtain ⟨⟨t463, t464⟩, A960, H⟩ := H
       replace H : ((spec_NextLeft.f kj39 t459 t460).bind fun bt465 => ((impl_FirstRule.f t459 t460).bind fun bt467 => ((spec_FirstRule.f kj39 t459 t460).bind fun bt469 => ((spec_DrawCrossedBy.f kj39 l1).bind fun bt471 => ((impl_CrossedBy.f kj39 bt471.1 bt471.2.1 bt471.2.2).bind fun bt476 => ((spec_CrossedBy.f kj39 bt471.1 bt471.2.1 bt471.2.2).bind fun bt480 => (if (t448 != t450) = true then (some false) else (if t447 = t449 then (if (t456 != t458) = true then (some false) else (if t455 = t457 then (if (t464 != bt465.2) = true then (some false) else (if t463 = bt465.1 then (if (bt467.2 != bt469.2) = true then (some false) else (if bt467.1 = bt469.1 then (if (bt476.2 != bt480.2) = true then (some false) else ((laws_tSame.f kj39 bt476.1 bt480.1).bind fun t484 => (if t484 = true then ((spec_DrawIsRule.f l1).bind fun bt485 => ((impl_IsRule.f bt485.1 bt485.2).bind fun t487 => ((spec_DrawIsRule.f l1).bind fun bt488 => ((spec_IsRule.f bt488.1 bt488.2).bind fun t490 => (if (t487 != t490) = true then (some false) else (if t448 = true then (if t443 ≥ 1 then (laws_FnSievesLeave.j5 kj39 t442 t443 t444 t447 (decide (t444 ≥ t443))) else (laws_FnSievesLeave.j5 kj39 t442 t443 t444 t447 false)) else (laws_FnSievesLeave.j5 kj39 t442 t443 t444 t447 false))))))) else (some false)))) else (some false))) else (some false))) else (some false))) else (some false))))))))) = some r := H
       have A96 := Aside0.mk A960
       clear A960
       replace H := Option.bind_eq_some_iff.mp H
       obtain ⟨⟨t465, t466⟩, A970, H⟩ := H
       replace H : ((impl_FirstRule.f t459 t460).bind fun bt467 => ((spec_FirstRule.f kj39 t459 t460).bind fun bt469 => ((spec_DrawCrossedBy.f kj39 l1).bind fun bt471 => ((impl_CrossedBy.f kj39 bt471.1 bt471.2.1 bt471.2.2).bind fun bt476 => ((spec_CrossedBy.f kj39 bt471.1 bt471.2.1 bt471.2.2).bind fun bt480 => (if (t448 != t450) = true then (some false) else (if t447 = t449 then (if (t456 != t458) = true then (some false) else (if t455 = t457 then (if (t464 != t466) = true then (some false) else (if t463 = t465 then (if (bt467.2 != bt469.2) = true then (some false) else (if bt467.1 = bt469.1 then (if (bt476.2 != bt480.2) = true then (some false) else ((laws_tSame.f kj39 bt476.1 bt480.1).bind fun t484 => (if t484 = true then ((spec_DrawIsRule.f l1).bind fun bt485 => ((impl_IsRule.f bt485.1 bt485.2).bind fun t487 => ((spec_DrawIsRule.f l1).bind fun bt488 => ((spec_IsRule.f bt488.1 bt488.2).bind fun t490 => (if (t487 != t490) = true then (some false) else (if t448 = true then (if t443 ≥ 1 then (laws_FnSievesLeave.j5 kj39 t442 t443 t444 t447 (decide (t444 ≥ t443))) else (laws_FnSievesLeave.j5 kj39 t442 t443 t444 t447 false)) else (laws_FnSievesLeave.j5 kj39 t442 t443 t444 t447 false))))))) else (some false)))) else (some false))) else (some false))) else (some false))) else (some false)))))))) = some r := H
       have A97 := Aside0.mk A970
       clear A970
       as_aux_lemma =>
       replace H := Option.bind_eq_some_iff.mp H
       obtain ⟨⟨t467, t468⟩, A980, H⟩ := H
       replace H : ((spec_FirstRule.f kj39 t459 t460).bind fun bt469 => ((spec_DrawCrossedBy.f kj39 l1).bind fun bt471 => ((impl_CrossedBy.f kj39 bt471.1 bt471.2.1 bt471.2.2).bind fun bt476 => ((spec_CrossedBy.f kj39 bt471.1 bt471.2.1 bt471.2.2).bind fun bt480 => (if (t448 != t450) = true then (some false) else (if t447 = t449 then (if (t456 != t458) = true then (some false) else (if t455 = t457 then (if (t464 != t466) = true then (some false) else (if t463 = t465 then (if (t468 != bt469.2) = true then (some false) else (if t467 = bt469.1 then (if (bt476.2 != bt480.2) = true then (some false) else ((laws_tSame.f kj39 bt476.1 bt480.1).bind fun t484 => (if t484 = true then ((spec_DrawIsRule.f l1).bind fun bt485 => ((impl_IsRule.f bt485.1 bt485.2).bind fun t487 => ((spec_DrawIsRule.f l1).bind fun bt488 => ((spec_IsRule.f bt488.1 bt488.2).bind fun t490 => (if (t487 != t490) = true then (some false) else (if t448 = true then (if t443 ≥ 1 then (laws_FnSievesLeave.j5 kj39 t442 t443 t444 t447 (decide (t444 ≥ t443))) else (laws_FnSievesLeave.j5 kj39 t442 t443 t444 t447 false)) else (laws_FnSievesLeave.j5 kj39 t442 t443 t444 t447 false))))))) else (some false)))) else (some false))) else (some false))) else (some false))) else (some false))))))) = some r := H
       have A98 := Aside0.mk A980
       clear A980
       replace H := Option.bind_eq_some_iff.mp H
       obtain ⟨⟨t469, t470⟩, A990, H⟩ := H
       replace H : ((spec_DrawCrossedBy.f kj39 l1).bind fun bt471 => ((impl_CrossedBy.f kj39 bt471.1 bt471.2.1 bt471.2.2).bind fun bt476 => ((spec_CrossedBy.f kj39 bt471.1 bt471.2.1 bt471.2.2).bind fun bt480 => (if (t448 != t450) = true then (some false) else (if t447 = t449 then (if (t456 != t458) = true then (some false) else (if t455 = t457 then (if (t464 != t466) = true then (some false) else (if t463 = t465 then (if (t468 != t470) = true then (some false) else (if t467 = t469 then (if (bt476.2 != bt480.2) = true then (some false) else ((laws_tSame.f kj39 bt476.1 bt480.1).bind fun t484 => (if t484 = true then ((spec_DrawIsRule.f l1).bind fun bt485 => ((impl_IsRule.f bt485.1 bt485.2).bind fun t487 => ((spec_DrawIsRule.f l1).bind fun bt488 => ((spec_IsRule.f bt488.1 bt488.2).bind fun t490 => (if (t487 != t490) = true then (some false) else (if t448 = true then (if t443 ≥ 1 then (laws_FnSievesLeave.j5 kj39 t442 t443 t444 t447 (decide (t444 ≥ t443))) else (laws_FnSievesLeave.j5 kj39 t442 t443 t444 t447 false)) else (laws_FnSievesLeave.j5 kj39 t442 t443 t444 t447 false))))))) else (some false)))) else (some false))) else (some false))) else (some false))) else (some false)))))) = some r := H
       have A99 := Aside0.mk A990
       clear A990
       replace H := Option.bind_eq_some_iff.mp H
       obtain ⟨⟨t471, t472, t473⟩, A1000, H⟩ := H
       replace H : ((impl_CrossedBy.f kj39 t471 t472 t473).bind fun bt476 => ((spec_CrossedBy.f kj39 t471 t472 t473).bind fun bt480 => (if (t448 != t450) = true then (some false) else (if t447 = t449 then (if (t456 != t458) = true then (some false) else (if t455 = t457 then (if (t464 != t466) = true then (some false) else (if t463 = t465 then (if (t468 != t470) = true then (some false) else (if t467 = t469 then (if (bt476.2 != bt480.2) = true then (some false) else ((laws_tSame.f kj39 bt476.1 bt480.1).bind fun t484 => (if t484 = true then ((spec_DrawIsRule.f l1).bind fun bt485 => ((impl_IsRule.f bt485.1 bt485.2).bind fun t487 => ((spec_DrawIsRule.f l1).bind fun bt488 => ((spec_IsRule.f bt488.1 bt488.2).bind fun t490 => (if (t487 != t490) = true then (some false) else (if t448 = true then (if t443 ≥ 1 then (laws_FnSievesLeave.j5 kj39 t442 t443 t444 t447 (decide (t444 ≥ t443))) else (laws_FnSievesLeave.j5 kj39 t442 t443 t444 t447 false)) else (laws_FnSievesLeave.j5 kj39 t442 t443 t444 t447 false))))))) else (some false)))) else (some false))) else (some false))) else (some false))) else (some false))))) = some r := H
       have A100 := Aside0.mk A1000
       clear A1000
       replace H := Option.bind_eq_some_iff.mp H
       obtain ⟨⟨t476, t477⟩, A1010, H⟩ := H
       replace H : ((spec_CrossedBy.f kj39 t471 t472 t473).bind fun bt480 => (if (t448 != t450) = true then (some false) else (if t447 = t449 then (if (t456 != t458) = true then (some false) else (if t455 = t457 then (if (t464 != t466) = true then (some false) else (if t463 = t465 then (if (t468 != t470) = true then (some false) else (if t467 = t469 then (if (t477 != bt480.2) = true then (some false) else ((laws_tSame.f kj39 t476 bt480.1).bind fun t484 => (if t484 = true then ((spec_DrawIsRule.f l1).bind fun bt485 => ((impl_IsRule.f bt485.1 bt485.2).bind fun t487 => ((spec_DrawIsRule.f l1).bind fun bt488 => ((spec_IsRule.f bt488.1 bt488.2).bind fun t490 => (if (t487 != t490) = true then (some false) else (if t448 = true then (if t443 ≥ 1 then (laws_FnSievesLeave.j5 kj39 t442 t443 t444 t447 (decide (t444 ≥ t443))) else (laws_FnSievesLeave.j5 kj39 t442 t443 t444 t447 false)) else (laws_FnSievesLeave.j5 kj39 t442 t443 t444 t447 false))))))) else (some false)))) else (some false))) else (some false))) else (some false))) else (some false)))) = some r := H
       have A101 := Aside0.mk A1010
       clear A1010
       replace H := Option.bind_eq_some_iff.mp H
       obtain ⟨⟨t480, t481⟩, A1020, H⟩ := H
       replace H : (if (t448 != t450) = true then (some false) else (if t447 = t449 then (if (t456 != t458) = true then (some false) else (if t455 = t457 then (if (t464 != t466) = true then (some false) else (if t463 = t465 then (if (t468 != t470) = true then (some false) else (if t467 = t469 then (if (t477 != t481) = true then (some false) else ((laws_tSame.f kj39 t476 t480).bind fun t484 => (if t484 = true then ((spec_DrawIsRule.f l1).bind fun bt485 => ((impl_IsRule.f bt485.1 bt485.2).bind fun t487 => ((spec_DrawIsRule.f l1).bind fun bt488 => ((spec_IsRule.f bt488.1 bt488.2).bind fun t490 => (if (t487 != t490) = true then (some false) else (if t448 = true then (if t443 ≥ 1 then (laws_FnSievesLeave.j5 kj39 t442 t443 t444 t447 (decide (t444 ≥ t443))) else (laws_FnSievesLeave.j5 kj39 t442 t443 t444 t447 false)) else (laws_FnSievesLeave.j5 kj39 t442 t443 t444 t447 false))))))) else (some false)))) else (some false))) else (some false))) else (some false))) else (some false))) = some r := H
       have A102 := Aside0.mk A1020
       clear A1020
       by_cases c103 : (t448 != t450) = true
       ·rw [if_pos c103] at H
        have c103b0 : (t448 != t450) = true := c103
        (try (have c103b1 : decide (t448 = t450) = false := by simpa using c103))
        (try (have c103b2 : (t448 == t450) = false := by simpa using c103))
        (try (have c103b3 : ¬ (t448 = t450) := by simpa using c103))
        clear c103
        exact absurd (Option.some.inj H) (by rw [HRT.out]; decide)
       ·as_aux_lemma =>
        rw [if_neg c103] at H
        have c103b0 : (t448 != t450) = false := by simpa using c103
        (try (have c103b1 : decide (t448 = t450) = true := by simpa using c103))
        (try (have c103b2 : (t448 == t450) = true := by simpa using c103))
        clear c103
        by_cases c104 : t447 = t449
        ·rw [if_pos c104] at H
         have c104b0 : (t447 == t449) = true := beq_iff_eq.mpr c104
         have c104b1 : (t447 != t449) = false := bne_eq_false_iff_eq.mpr c104
         clear c104
         by_cases c105 : (t456 != t458) = true
         ·rw [if_pos c105] at H
          have c105b0 : (t456 != t458) = true := c105
          (try (have c105b1 : decide (t456 = t458) = false := by simpa using c105))
          (try (have c105b2 : (t456 == t458) = false := by simpa using c105))
          (try (have c105b3 : ¬ (t456 = t458) := by simpa using c105))
          clear c105
          exact absurd (Option.some.inj H) (by rw [HRT.out]; decide)
         ·rw [if_neg c105] at H
          have c105b0 : (t456 != t458) = false := by simpa using c105
          (try (have c105b1 : decide (t456 = t458) = true := by simpa using c105))
          (try (have c105b2 : (t456 == t458) = true := by simpa using c105))
          clear c105
          by_cases c106 : t455 = t457
          ·rw [if_pos c106] at H
           have c106b0 : (t455 == t457) = true := beq_iff_eq.mpr c106
           have c106b1 : (t455 != t457) = false := bne_eq_false_iff_eq.mpr c106
           clear c106
           by_cases c107 : (t464 != t466) = true
           ·rw [if_pos c107] at H
            have c107b0 : (t464 != t466) = true := c107
            (try (have c107b1 : decide (t464 = t466) = false := by simpa using c107))
            (try (have c107b2 : (t464 == t466) = false := by simpa using c107))
            (try (have c107b3 : ¬ (t464 = t466) := by simpa using c107))
            clear c107
            exact absurd (Option.some.inj H) (by rw [HRT.out]; decide)
           ·as_aux_lemma =>
            rw [if_neg c107] at H
            have c107b0 : (t464 != t466) = false := by simpa using c107
            (try (have c107b1 : decide (t464 = t466) = true := by simpa using c107))
            (try (have c107b2 : (t464 == t466) = true := by simpa using c107))
            clear c107
            by_cases c108 : t463 = t465
            ·rw [if_pos c108] at H
             have c108b0 : (t463 == t465) = true := beq_iff_eq.mpr c108
             have c108b1 : (t463 != t465) = false := bne_eq_false_iff_eq.mpr c108
             clear c108
             by_cases c109 : (t468 != t470) = true
             ·rw [if_pos c109] at H
              have c109b0 : (t468 != t470) = true := c109
              (try (have c109b1 : decide (t468 = t470) = false := by simpa using c109))
              (try (have c109b2 : (t468 == t470) = false := by simpa using c109))
              (try (have c109b3 : ¬ (t468 = t470) := by simpa using c109))
              clear c109
              exact absurd (Option.some.inj H) (by rw [HRT.out]; decide)
             ·rw [if_neg c109] at H
              have c109b0 : (t468 != t470) = false := by simpa using c109
              (try (have c109b1 : decide (t468 = t470) = true := by simpa using c109))
              (try (have c109b2 : (t468 == t470) = true := by simpa using c109))
              clear c109
              by_cases c110 : t467 = t469
              ·rw [if_pos c110] at H
               have c110b0 : (t467 == t469) = true := beq_iff_eq.mpr c110
               have c110b1 : (t467 != t469) = false := bne_eq_false_iff_eq.mpr c110
               clear c110
               by_cases c111 : (t477 != t481) = true
               ·rw [if_pos c111] at H
                have c111b0 : (t477 != t481) = true := c111
                (try (have c111b1 : decide (t477 = t481) = false := by simpa using c111))
                (try (have c111b2 : (t477 == t481) = false := by simpa using c111))
                (try (have c111b3 : ¬ (t477 = t481) := by simpa using c111))
                clear c111
                exact absurd (Option.some.inj H) (by rw [HRT.out]; decide)
               ·as_aux_lemma =>
                rw [if_neg c111] at H
                have c111b0 : (t477 != t481) = false := by simpa using c111
                (try (have c111b1 : decide (t477 = t481) = true := by simpa using c111))
                (try (have c111b2 : (t477 == t481) = true := by simpa using c111))
                clear c111
                replace H := Option.bind_eq_some_iff.mp H
                obtain ⟨t484, A1120, H⟩ := H
                replace H : (if t484 = true then ((spec_DrawIsRule.f l1).bind fun bt485 => ((impl_IsRule.f bt485.1 bt485.2).bind fun t487 => ((spec_DrawIsRule.f l1).bind fun bt488 => ((spec_IsRule.f bt488.1 bt488.2).bind fun t490 => (if (t487 != t490) = true then (some false) else (if t448 = true then (if t443 ≥ 1 then (laws_FnSievesLeave.j5 kj39 t442 t443 t444 t447 (decide (t444 ≥ t443))) else (laws_FnSievesLeave.j5 kj39 t442 t443 t444 t447 false)) else (laws_FnSievesLeave.j5 kj39 t442 t443 t444 t447 false))))))) else (some false)) = some r := H
                have A112 := Aside0.mk A1120
                clear A1120
                by_cases c113 : t484 = true
                ·subst c113
                 have H1 : ((spec_DrawIsRule.f l1).bind fun bt485 => ((impl_IsRule.f bt485.1 bt485.2).bind fun t487 => ((spec_DrawIsRule.f l1).bind fun bt488 => ((spec_IsRule.f bt488.1 bt488.2).bind fun t490 => (if (t487 != t490) = true then (some false) else (if t448 = true then (if t443 ≥ 1 then (laws_FnSievesLeave.j5 kj39 t442 t443 t444 t447 (decide (t444 ≥ t443))) else (laws_FnSievesLeave.j5 kj39 t442 t443 t444 t447 false)) else (laws_FnSievesLeave.j5 kj39 t442 t443 t444 t447 false))))))) = some r := by rw [if_pos rfl] at H; exact H
                 clear H
                 have H := H1
                 clear H1
                 replace H := Option.bind_eq_some_iff.mp H
                 obtain ⟨⟨t485, t486⟩, A1140, H⟩ := H
                 replace H : ((impl_IsRule.f t485 t486).bind fun t487 => ((spec_DrawIsRule.f l1).bind fun bt488 => ((spec_IsRule.f bt488.1 bt488.2).bind fun t490 => (if (t487 != t490) = true then (some false) else (if t448 = true then (if t443 ≥ 1 then (laws_FnSievesLeave.j5 kj39 t442 t443 t444 t447 (decide (t444 ≥ t443))) else (laws_FnSievesLeave.j5 kj39 t442 t443 t444 t447 false)) else (laws_FnSievesLeave.j5 kj39 t442 t443 t444 t447 false)))))) = some r := H
                 have A114 := Aside0.mk A1140
                 clear A1140
                 replace H := Option.bind_eq_some_iff.mp H
                 obtain ⟨t487, A1150, H⟩ := H
                 replace H : ((spec_DrawIsRule.f l1).bind fun bt488 => ((spec_IsRule.f bt488.1 bt488.2).bind fun t490 => (if (t487 != t490) = true then (some false) else (if t448 = true then (if t443 ≥ 1 then (laws_FnSievesLeave.j5 kj39 t442 t443 t444 t447 (decide (t444 ≥ t443))) else (laws_FnSievesLeave.j5 kj39 t442 t443 t444 t447 false)) else (laws_FnSievesLeave.j5 kj39 t442 t443 t444 t447 false))))) = some r := H
                 have A115 := Aside0.mk A1150
                 clear A1150
                 as_aux_lemma =>
                 replace H := Option.bind_eq_some_iff.mp H
                 obtain ⟨⟨t488, t489⟩, A1160, H⟩ := H
                 replace H : ((spec_IsRule.f t488 t489).bind fun t490 => (if (t487 != t490) = true then (some false) else (if t448 = true then (if t443 ≥ 1 then (laws_FnSievesLeave.j5 kj39 t442 t443 t444 t447 (decide (t444 ≥ t443))) else (laws_FnSievesLeave.j5 kj39 t442 t443 t444 t447 false)) else (laws_FnSievesLeave.j5 kj39 t442 t443 t444 t447 false)))) = some r := H
                 have A116 := Aside0.mk A1160
                 clear A1160
                 obtain ⟨e1_, e2_⟩ := Prod.mk.inj (Option.some.inj (A114.out.symm.trans A116.out))
                 subst e1_
                 subst e2_
                 replace H := Option.bind_eq_some_iff.mp H
                 obtain ⟨t490, A1170, H⟩ := H
                 replace H : (if (t487 != t490) = true then (some false) else (if t448 = true then (if t443 ≥ 1 then (laws_FnSievesLeave.j5 kj39 t442 t443 t444 t447 (decide (t444 ≥ t443))) else (laws_FnSievesLeave.j5 kj39 t442 t443 t444 t447 false)) else (laws_FnSievesLeave.j5 kj39 t442 t443 t444 t447 false))) = some r := H
                 have A117 := Aside0.mk A1170
                 clear A1170
                 by_cases c118 : (t487 != t490) = true
                 ·rw [if_pos c118] at H
                  have c118b0 : (t487 != t490) = true := c118
                  (try (have c118b1 : decide (t487 = t490) = false := by simpa using c118))
                  (try (have c118b2 : (t487 == t490) = false := by simpa using c118))
                  (try (have c118b3 : ¬ (t487 = t490) := by simpa using c118))
                  clear c118
                  exact absurd (Option.some.inj H) (by rw [HRT.out]; decide)
                 ·rw [if_neg c118] at H
                  have c118b0 : (t487 != t490) = false := by simpa using c118
                  (try (have c118b1 : decide (t487 = t490) = true := by simpa using c118))
                  (try (have c118b2 : (t487 == t490) = true := by simpa using c118))
                  clear c118
                  have HC119 := Aside0.mk H
                  clear H
                  as_aux_lemma =>
                  go_upto_region 45 with (first | ((with_reducible refine gate_callee (f := 50) rfl ?_); refine goesL_ (some 280) rfl rfl Try.func50 (by kernel_rfl) rfl #[.slice A1 l1.length c1] rfl (by (try simp only [List.map_toArray, List.map_cons, List.map_nil]); first | done | rfl | (simp only [List.length_drop, List.length_take]; rfl)) ?_; (with_reducible refine (spec_DrawCountBetween.calls kj39 _ _ l1 t442 t443 t444 _ ?side1 ?side2 A89.out).mono ?_); (case side1 => repeat (first | exact (Kd.C_below HR1.out HB.out) | (with_reducible refine Kd.C_alloc ?_ _) | (with_reducible refine Kd.C_drewN ?_ _) | (with_reducible refine Kd.C_drew ?_))); (case side2 => exact HC1.out); rintro e w120 ⟨v445, rfl, ho0, hb⟩; refine ⟨_, rfl, ?_⟩; have n0_ := Aside0.mk (Kd.R_lower ho0 (below_size (by repeat (first | (with_reducible first | exact HB.out | apply below_alloc | apply pw_below_drewN | apply below_drew1) | exact HB.out)))); have n1_ := Aside0.mk (below_step (by repeat (first | (with_reducible first | exact HB.out | apply below_alloc | apply pw_below_drewN | apply below_drew1) | exact HB.out)) hb); clear HB; have HO446 := n0_; have HB := n1_; clear n0_ n1_; (try clear hb); (try clear hb2); (try clear hk); (try clear hi); (try clear ho0); obtain ⟨Ao121, co121, eo121⟩ := Kd.R_slice HO446.out; subst eo121) | ((with_reducible refine gate_callee (f := 33) rfl ?_); refine goesL_ (some 288) rfl rfl Try.func33 (by kernel_rfl) rfl #[.slice Ao121 t442.length co121, .int .i64 t443, .int .i64 t444] rfl (by (try simp only [List.map_toArray, List.map_cons, List.map_nil]); first | done | rfl | (simp only [List.length_drop, List.length_take]; rfl)) ?_; (with_reducible refine (impl_CountBetween.calls kj39 _ _ t442 t443 t444 t447 t448 _ ?side1 ?side2 A90.out).mono ?_); (case side1 => repeat (first | exact (Kd.R_reads' HO446.out).2.2 | (with_reducible refine Kd.C_alloc ?_ _) | (with_reducible refine Kd.C_drewN ?_ _) | (with_reducible refine Kd.C_drew ?_))); (case side2 => exact (Kd.R_reads' HO446.out).2.1); rintro e w122 ⟨rfl, hb⟩; refine ⟨_, rfl, ?_⟩; have n0_ := Aside0.mk (Kd.R_below (by (with_reducible repeat (first | apply Kd.R_alloc | apply Kd.R_drewN | apply Kd.R_drew)); exact HO446.out) hb); have n1_ := Aside0.mk (below_step (by repeat (first | (with_reducible first | exact HB.out | apply below_alloc | apply pw_below_drewN | apply below_drew1) | exact HB.out)) hb); clear HO446; clear HB; have HO446 := n0_; have HB := n1_; clear n0_ n1_; (try clear hb); (try clear hb2); (try clear hk); (try clear hi)) | ((with_reducible refine gate_callee (f := 32) rfl ?_); refine goesL_ (some 295) rfl rfl Try.func32 (by kernel_rfl) rfl #[.slice Ao121 t442.length co121, .int .i64 t443, .int .i64 t444] rfl (by (try simp only [List.map_toArray, List.map_cons, List.map_nil]); first | done | rfl | (simp only [List.length_drop, List.length_take]; rfl)) ?_; (with_reducible refine (spec_CountBetween.calls kj39 _ _ t442 t443 t444 t449 t450 _ ?side1 ?side2 A91.out).mono ?_); (case side1 => repeat (first | exact (Kd.R_reads' HO446.out).2.2 | (with_reducible refine Kd.C_alloc ?_ _) | (with_reducible refine Kd.C_drewN ?_ _) | (with_reducible refine Kd.C_drew ?_))); (case side2 => exact (Kd.R_reads' HO446.out).2.1); rintro e w123 ⟨rfl, hb⟩; refine ⟨_, rfl, ?_⟩; have n0_ := Aside0.mk (Kd.R_below (by (with_reducible repeat (first | apply Kd.R_alloc | apply Kd.R_drewN | apply Kd.R_drew)); exact HO446.out) hb); have n1_ := Aside0.mk (below_step (by repeat (first | (with_reducible first | exact HB.out | apply below_alloc | apply pw_below_drewN | apply below_drew1) | exact HB.out)) hb); clear HO446; clear HB; have HO446 := n0_; have HB := n1_; clear n0_ n1_; (try clear hb); (try clear hb2); (try clear hk); (try clear hi)))
                  (try simp only [Act.put, List.setIfInBounds_toArray, List.set_cons_zero, List.set_cons_succ])
                  as_aux_lemma =>
                  go_upto_region 48 with (first | ((with_reducible refine gate_callee (f := 51) rfl ?_); refine goesL_ (some 300) rfl rfl Try.func51 (by kernel_rfl) rfl #[.slice A1 l1.length c1] rfl (by (try simp only [List.map_toArray, List.map_cons, List.map_nil]); first | done | rfl | (simp only [List.length_drop, List.length_take]; rfl)) ?_; (with_reducible refine (spec_DrawLeftOfRank.calls kj39 _ _ l1 t451 t452 _ ?side1 ?side2 A92.out).mono ?_); (case side1 => repeat (first | exact (Kd.C_below HR1.out HB.out) | (with_reducible refine Kd.C_alloc ?_ _) | (with_reducible refine Kd.C_drewN ?_ _) | (with_reducible refine Kd.C_drew ?_))); (case side2 => exact HC1.out); rintro e w124 ⟨v453, rfl, ho0, hb⟩; refine ⟨_, rfl, ?_⟩; have n0_ := Aside0.mk (Kd.R_elder' (by (with_reducible repeat (first | apply Kd.R_alloc | apply Kd.R_drewN | apply Kd.R_drew)); exact HO446.out) (Kd.R_base ho0) hb); have n1_ := Aside0.mk (Kd.R_lower (Kd.R_new' ho0 (Kd.R_lt (by (with_reducible repeat (first | apply Kd.R_alloc | apply Kd.R_drewN | apply Kd.R_drew)); exact HO446.out))) (below_size (by repeat (first | (with_reducible first | exact HB.out | apply below_alloc | apply pw_below_drewN | apply below_drew1) | exact HB.out)))); have n2_ := Aside0.mk (below_step (by repeat (first | (with_reducible first | exact HB.out | apply below_alloc | apply pw_below_drewN | apply below_drew1) | exact HB.out)) hb); clear HO446; clear HB; have HO446 := n0_; have HO454 := n1_; have HB := n2_; clear n0_ n1_ n2_; (try clear hb); (try clear hb2); (try clear hk); (try clear hi); (try clear ho0); obtain ⟨Ao125, co125, eo125⟩ := Kd.R_slice HO454.out; subst eo125) | ((with_reducible refine gate_callee (f := 37) rfl ?_); refine goesL_ (some 306) rfl rfl Try.func37 (by kernel_rfl) rfl #[.slice Ao125 t451.length co125, .int .i64 t452] rfl (by (try simp only [List.map_toArray, List.map_cons, List.map_nil]); first | done | rfl | (simp only [List.length_drop, List.length_take]; rfl)) ?_; (with_reducible refine (impl_LeftOfRank.calls kj39 _ _ t451 t452 t455 t456 _ ?side1 ?side2 A93.out).mono ?_); (case side1 => repeat (first | exact (Kd.R_reads' HO454.out).2.2 | (with_reducible refine Kd.C_alloc ?_ _) | (with_reducible refine Kd.C_drewN ?_ _) | (with_reducible refine Kd.C_drew ?_))); (case side2 => exact (Kd.R_reads' HO454.out).2.1); rintro e w126 ⟨rfl, hb⟩; refine ⟨_, rfl, ?_⟩; have n0_ := Aside0.mk (Kd.R_below (by (with_reducible repeat (first | apply Kd.R_alloc | apply Kd.R_drewN | apply Kd.R_drew)); exact HO446.out) hb); have n1_ := Aside0.mk (Kd.R_below (by (with_reducible repeat (first | apply Kd.R_alloc | apply Kd.R_drewN | apply Kd.R_drew)); exact HO454.out) hb); have n2_ := Aside0.mk (below_step (by repeat (first | (with_reducible first | exact HB.out | apply below_alloc | apply pw_below_drewN | apply below_drew1) | exact HB.out)) hb); clear HO446; clear HO454; clear HB; have HO446 := n0_; have HO454 := n1_; have HB := n2_; clear n0_ n1_ n2_; (try clear hb); (try clear hb2); (try clear hk); (try clear hi)) | ((with_reducible refine gate_callee (f := 36) rfl ?_); refine goesL_ (some 312) rfl rfl Try.func36 (by kernel_rfl) rfl #[.slice Ao125 t451.length co125, .int .i64 t452] rfl (by (try simp only [List.map_toArray, List.map_cons, List.map_nil]); first | done | rfl | (simp only [List.length_drop, List.length_take]; rfl)) ?_; (with_reducible refine (spec_LeftOfRank.calls kj39 _ _ t451 t452 t457 t458 _ ?side1 ?side2 A94.out).mono ?_); (case side1 => repeat (first | exact (Kd.R_reads' HO454.out).2.2 | (with_reducible refine Kd.C_alloc ?_ _) | (with_reducible refine Kd.C_drewN ?_ _) | (with_reducible refine Kd.C_drew ?_))); (case side2 => exact (Kd.R_reads' HO454.out).2.1); rintro e w127 ⟨rfl, hb⟩; refine ⟨_, rfl, ?_⟩; have n0_ := Aside0.mk (Kd.R_below (by (with_reducible repeat (first | apply Kd.R_alloc | apply Kd.R_drewN | apply Kd.R_drew)); exact HO446.out) hb); have n1_ := Aside0.mk (Kd.R_below (by (with_reducible repeat (first | apply Kd.R_alloc | apply Kd.R_drewN | apply Kd.R_drew)); exact HO454.out) hb); have n2_ := Aside0.mk (below_step (by repeat (first | (with_reducible first | exact HB.out | apply below_alloc | apply pw_below_drewN | apply below_drew1) | exact HB.out)) hb); clear HO446; clear HO454; clear HB; have HO446 := n0_; have HO454 := n1_; have HB := n2_; clear n0_ n1_ n2_; (try clear hb); (try clear hb2); (try clear hk); (try clear hi)))
                  (try simp only [Act.put, List.setIfInBounds_toArray, List.set_cons_zero, List.set_cons_succ])
                  as_aux_lemma =>
                  go_upto_region 51 with (first | ((with_reducible refine gate_callee (f := 52) rfl ?_); refine goesL_ (some 317) rfl rfl Try.func52 (by kernel_rfl) rfl #[.slice A1 l1.length c1] rfl (by (try simp only [List.map_toArray, List.map_cons, List.map_nil]); first | done | rfl | (simp only [List.length_drop, List.length_take]; rfl)) ?_; (with_reducible refine (spec_DrawNextLeft.calls kj39 _ _ l1 t459 t460 _ ?side1 ?side2 A95.out).mono ?_); (case side1 => repeat (first | exact (Kd.C_below HR1.out HB.out) | (with_reducible refine Kd.C_alloc ?_ _) | (with_reducible refine Kd.C_drewN ?_ _) | (with_reducible refine Kd.C_drew ?_))); (case side2 => exact HC1.out); rintro e w128 ⟨v461, rfl, ho0, hb⟩; refine ⟨_, rfl, ?_⟩; have n0_ := Aside0.mk (Kd.R_elder' (by (with_reducible repeat (first | apply Kd.R_alloc | apply Kd.R_drewN | apply Kd.R_drew)); exact HO446.out) (Kd.R_base ho0) hb); have n1_ := Aside0.mk (Kd.R_elder' (by (with_reducible repeat (first | apply Kd.R_alloc | apply Kd.R_drewN | apply Kd.R_drew)); exact HO454.out) (Kd.R_base ho0) hb); have n2_ := Aside0.mk (Kd.R_lower (Kd.R_new' (Kd.R_new' ho0 (Kd.R_lt (by (with_reducible repeat (first | apply Kd.R_alloc | apply Kd.R_drewN | apply Kd.R_drew)); exact HO446.out))) (Kd.R_lt (by (with_reducible repeat (first | apply Kd.R_alloc | apply Kd.R_drewN | apply Kd.R_drew)); exact HO454.out))) (below_size (by repeat (first | (with_reducible first | exact HB.out | apply below_alloc | apply pw_below_drewN | apply below_drew1) | exact HB.out)))); have n3_ := Aside0.mk (below_step (by repeat (first | (with_reducible first | exact HB.out | apply below_alloc | apply pw_below_drewN | apply below_drew1) | exact HB.out)) hb); clear HO446; clear HO454; clear HB; have HO446 := n0_; have HO454 := n1_; have HO462 := n2_; have HB := n3_; clear n0_ n1_ n2_ n3_; (try clear hb); (try clear hb2); (try clear hk); (try clear hi); (try clear ho0); obtain ⟨Ao129, co129, eo129⟩ := Kd.R_slice HO462.out; subst eo129) | ((with_reducible refine gate_callee (f := 25) rfl ?_); refine goesL_ (some 323) rfl rfl Try.func25 (by kernel_rfl) rfl #[.slice Ao129 t459.length co129, .int .i64 t460] rfl (by (try simp only [List.map_toArray, List.map_cons, List.map_nil]); first | done | rfl | (simp only [List.length_drop, List.length_take]; rfl)) ?_; (with_reducible refine (impl_NextLeft.calls kj39 _ _ t459 t460 t463 t464 _ ?side1 ?side2 A96.out).mono ?_); (case side1 => repeat (first | exact (Kd.R_reads' HO462.out).2.2 | (with_reducible refine Kd.C_alloc ?_ _) | (with_reducible refine Kd.C_drewN ?_ _) | (with_reducible refine Kd.C_drew ?_))); (case side2 => exact (Kd.R_reads' HO462.out).2.1); rintro e w130 ⟨rfl, hb⟩; refine ⟨_, rfl, ?_⟩; have n0_ := Aside0.mk (Kd.R_below (by (with_reducible repeat (first | apply Kd.R_alloc | apply Kd.R_drewN | apply Kd.R_drew)); exact HO446.out) hb); have n1_ := Aside0.mk (Kd.R_below (by (with_reducible repeat (first | apply Kd.R_alloc | apply Kd.R_drewN | apply Kd.R_drew)); exact HO454.out) hb); have n2_ := Aside0.mk (Kd.R_below (by (with_reducible repeat (first | apply Kd.R_alloc | apply Kd.R_drewN | apply Kd.R_drew)); exact HO462.out) hb); have n3_ := Aside0.mk (below_step (by repeat (first | (with_reducible first | exact HB.out | apply below_alloc | apply pw_below_drewN | apply below_drew1) | exact HB.out)) hb); clear HO446; clear HO454; clear HO462; clear HB; have HO446 := n0_; have HO454 := n1_; have HO462 := n2_; have HB := n3_; clear n0_ n1_ n2_ n3_; (try clear hb); (try clear hb2); (try clear hk); (try clear hi)) | ((with_reducible refine gate_callee (f := 24) rfl ?_); refine goesL_ (some 329) rfl rfl Try.func24 (by kernel_rfl) rfl #[.slice Ao129 t459.length co129, .int .i64 t460] rfl (by (try simp only [List.map_toArray, List.map_cons, List.map_nil]); first | done | rfl | (simp only [List.length_drop, List.length_take]; rfl)) ?_; (with_reducible refine (spec_NextLeft.calls kj39 _ _ t459 t460 t465 t466 _ ?side1 ?side2 A97.out).mono ?_); (case side1 => repeat (first | exact (Kd.R_reads' HO462.out).2.2 | (with_reducible refine Kd.C_alloc ?_ _) | (with_reducible refine Kd.C_drewN ?_ _) | (with_reducible refine Kd.C_drew ?_))); (case side2 => exact (Kd.R_reads' HO462.out).2.1); rintro e w131 ⟨rfl, hb⟩; refine ⟨_, rfl, ?_⟩; have n0_ := Aside0.mk (Kd.R_below (by (with_reducible repeat (first | apply Kd.R_alloc | apply Kd.R_drewN | apply Kd.R_drew)); exact HO446.out) hb); have n1_ := Aside0.mk (Kd.R_below (by (with_reducible repeat (first | apply Kd.R_alloc | apply Kd.R_drewN | apply Kd.R_drew)); exact HO454.out) hb); have n2_ := Aside0.mk (Kd.R_below (by (with_reducible repeat (first | apply Kd.R_alloc | apply Kd.R_drewN | apply Kd.R_drew)); exact HO462.out) hb); have n3_ := Aside0.mk (below_step (by repeat (first | (with_reducible first | exact HB.out | apply below_alloc | apply pw_below_drewN | apply below_drew1) | exact HB.out)) hb); clear HO446; clear HO454; clear HO462; clear HB; have HO446 := n0_; have HO454 := n1_; have HO462 := n2_; have HB := n3_; clear n0_ n1_ n2_ n3_; (try clear hb); (try clear hb2); (try clear hk); (try clear hi)))
                  (try simp only [Act.put, List.setIfInBounds_toArray, List.set_cons_zero, List.set_cons_succ])
                  as_aux_lemma =>
                  go_upto_region 54 with (first | ((with_reducible refine gate_callee (f := 21) rfl ?_); refine goesL_ (some 335) rfl rfl Try.func21 (by kernel_rfl) rfl #[.slice Ao129 t459.length co129, .int .i64 t460] rfl (by (try simp only [List.map_toArray, List.map_cons, List.map_nil]); first | done | rfl | (simp only [List.length_drop, List.length_take]; rfl)) ?_; (with_reducible refine (impl_FirstRule.calls _ _ t459 t460 t467 t468 _ ?side1 ?side2 A98.out).mono ?_); (case side1 => repeat (first | exact (Kd.R_reads' HO462.out).2.2 | (with_reducible refine Kd.C_alloc ?_ _) | (with_reducible refine Kd.C_drewN ?_ _) | (with_reducible refine Kd.C_drew ?_))); (case side2 => exact (Kd.R_reads' HO462.out).2.1); rintro e w132 ⟨rfl, hb⟩; refine ⟨_, rfl, ?_⟩; have n0_ := Aside0.mk (Kd.R_below (by (with_reducible repeat (first | apply Kd.R_alloc | apply Kd.R_drewN | apply Kd.R_drew)); exact HO446.out) hb); have n1_ := Aside0.mk (Kd.R_below (by (with_reducible repeat (first | apply Kd.R_alloc | apply Kd.R_drewN | apply Kd.R_drew)); exact HO454.out) hb); have n2_ := Aside0.mk (Kd.R_below (by (with_reducible repeat (first | apply Kd.R_alloc | apply Kd.R_drewN | apply Kd.R_drew)); exact HO462.out) hb); have n3_ := Aside0.mk (below_step (by repeat (first | (with_reducible first | exact HB.out | apply below_alloc | apply pw_below_drewN | apply below_drew1) | exact HB.out)) hb); clear HO446; clear HO454; clear HO462; clear HB; have HO446 := n0_; have HO454 := n1_; have HO462 := n2_; have HB := n3_; clear n0_ n1_ n2_ n3_; (try clear hb); (try clear hb2); (try clear hk); (try clear hi)) | ((with_reducible refine gate_callee (f := 20) rfl ?_); refine goesL_ (some 341) rfl rfl Try.func20 (by kernel_rfl) rfl #[.slice Ao129 t459.length co129, .int .i64 t460] rfl (by (try simp only [List.map_toArray, List.map_cons, List.map_nil]); first | done | rfl | (simp only [List.length_drop, List.length_take]; rfl)) ?_; (with_reducible refine (spec_FirstRule.calls kj39 _ _ t459 t460 t469 t470 _ ?side1 ?side2 A99.out).mono ?_); (case side1 => repeat (first | exact (Kd.R_reads' HO462.out).2.2 | (with_reducible refine Kd.C_alloc ?_ _) | (with_reducible refine Kd.C_drewN ?_ _) | (with_reducible refine Kd.C_drew ?_))); (case side2 => exact (Kd.R_reads' HO462.out).2.1); rintro e w133 ⟨rfl, hb⟩; refine ⟨_, rfl, ?_⟩; have n0_ := Aside0.mk (Kd.R_below (by (with_reducible repeat (first | apply Kd.R_alloc | apply Kd.R_drewN | apply Kd.R_drew)); exact HO446.out) hb); have n1_ := Aside0.mk (Kd.R_below (by (with_reducible repeat (first | apply Kd.R_alloc | apply Kd.R_drewN | apply Kd.R_drew)); exact HO454.out) hb); have n2_ := Aside0.mk (Kd.R_below (by (with_reducible repeat (first | apply Kd.R_alloc | apply Kd.R_drewN | apply Kd.R_drew)); exact HO462.out) hb); have n3_ := Aside0.mk (below_step (by repeat (first | (with_reducible first | exact HB.out | apply below_alloc | apply pw_below_drewN | apply below_drew1) | exact HB.out)) hb); clear HO446; clear HO454; clear HO462; clear HB; have HO446 := n0_; have HO454 := n1_; have HO462 := n2_; have HB := n3_; clear n0_ n1_ n2_ n3_; (try clear hb); (try clear hb2); (try clear hk); (try clear hi)) | ((with_reducible refine gate_callee (f := 53) rfl ?_); refine goesL_ (some 346) rfl rfl Try.func53 (by kernel_rfl) rfl #[.slice A1 l1.length c1] rfl (by (try simp only [List.map_toArray, List.map_cons, List.map_nil]); first | done | rfl | (simp only [List.length_drop, List.length_take]; rfl)) ?_; (with_reducible refine (spec_DrawCrossedBy.calls kj39 _ _ l1 t471 t472 t473 _ ?side1 ?side2 A100.out).mono ?_); (case side1 => repeat (first | exact (Kd.C_below HR1.out HB.out) | (with_reducible refine Kd.C_alloc ?_ _) | (with_reducible refine Kd.C_drewN ?_ _) | (with_reducible refine Kd.C_drew ?_))); (case side2 => exact HC1.out); rintro e w134 ⟨v474, rfl, ho0, hb⟩; refine ⟨_, rfl, ?_⟩; have n0_ := Aside0.mk (Kd.R_elder' (by (with_reducible repeat (first | apply Kd.R_alloc | apply Kd.R_drewN | apply Kd.R_drew)); exact HO446.out) (Kd.R_base ho0) hb); have n1_ := Aside0.mk (Kd.R_elder' (by (with_reducible repeat (first | apply Kd.R_alloc | apply Kd.R_drewN | apply Kd.R_drew)); exact HO454.out) (Kd.R_base ho0) hb); have n2_ := Aside0.mk (Kd.R_elder' (by (with_reducible repeat (first | apply Kd.R_alloc | apply Kd.R_drewN | apply Kd.R_drew)); exact HO462.out) (Kd.R_base ho0) hb); have n3_ := Aside0.mk (Kd.R_lower (Kd.R_new' (Kd.R_new' (Kd.R_new' ho0 (Kd.R_lt (by (with_reducible repeat (first | apply Kd.R_alloc | apply Kd.R_drewN | apply Kd.R_drew)); exact HO446.out))) (Kd.R_lt (by (with_reducible repeat (first | apply Kd.R_alloc | apply Kd.R_drewN | apply Kd.R_drew)); exact HO454.out))) (Kd.R_lt (by (with_reducible repeat (first | apply Kd.R_alloc | apply Kd.R_drewN | apply Kd.R_drew)); exact HO462.out))) (below_size (by repeat (first | (with_reducible first | exact HB.out | apply below_alloc | apply pw_below_drewN | apply below_drew1) | exact HB.out)))); have n4_ := Aside0.mk (below_step (by repeat (first | (with_reducible first | exact HB.out | apply below_alloc | apply pw_below_drewN | apply below_drew1) | exact HB.out)) hb); clear HO446; clear HO454; clear HO462; clear HB; have HO446 := n0_; have HO454 := n1_; have HO462 := n2_; have HO475 := n3_; have HB := n4_; clear n0_ n1_ n2_ n3_ n4_; (try clear hb); (try clear hb2); (try clear hk); (try clear hi); (try clear ho0); obtain ⟨Ao135, co135, eo135⟩ := Kd.R_slice HO475.out; subst eo135))
                  (try simp only [Act.put, List.setIfInBounds_toArray, List.set_cons_zero, List.set_cons_succ])
                  as_aux_lemma =>
                  go_upto_region 58 with (first | ((with_reducible refine gate_callee (f := 39) rfl ?_); refine goesL_ (some 354) rfl rfl Try.func39 (by kernel_rfl) rfl #[.slice Ao135 t471.length co135, .int .i64 t472, .int .i64 t473] rfl (by (try simp only [List.map_toArray, List.map_cons, List.map_nil]); first | done | rfl | (simp only [List.length_drop, List.length_take]; rfl)) ?_; (with_reducible refine (impl_CrossedBy.calls kj39 _ _ t471 t472 t473 t476 t477 _ ?side1 ?side2 A101.out).mono ?_); (case side1 => repeat (first | exact (Kd.R_reads' HO475.out).2.2 | (with_reducible refine Kd.C_alloc ?_ _) | (with_reducible refine Kd.C_drewN ?_ _) | (with_reducible refine Kd.C_drew ?_))); (case side2 => exact (Kd.R_reads' HO475.out).2.1); rintro e w136 ⟨v478, rfl, ho0, hb⟩; refine ⟨_, rfl, ?_⟩; have n0_ := Aside0.mk (Kd.R_below (by (with_reducible repeat (first | apply Kd.R_alloc | apply Kd.R_drewN | apply Kd.R_drew)); exact HO446.out) hb); have n1_ := Aside0.mk (Kd.R_below (by (with_reducible repeat (first | apply Kd.R_alloc | apply Kd.R_drewN | apply Kd.R_drew)); exact HO454.out) hb); have n2_ := Aside0.mk (Kd.R_below (by (with_reducible repeat (first | apply Kd.R_alloc | apply Kd.R_drewN | apply Kd.R_drew)); exact HO462.out) hb); have n3_ := Aside0.mk (Kd.R_below (by (with_reducible repeat (first | apply Kd.R_alloc | apply Kd.R_drewN | apply Kd.R_drew)); exact HO475.out) hb); have n4_ := Aside0.mk (Kd.R_lower ho0 (below_size (by repeat (first | (with_reducible first | exact HB.out | apply below_alloc | apply pw_below_drewN | apply below_drew1) | exact HB.out)))); have n5_ := Aside0.mk (below_step (by repeat (first | (with_reducible first | exact HB.out | apply below_alloc | apply pw_below_drewN | apply below_drew1) | exact HB.out)) hb); clear HO446; clear HO454; clear HO462; clear HO475; clear HB; have HO446 := n0_; have HO454 := n1_; have HO462 := n2_; have HO475 := n3_; have HO479 := n4_; have HB := n5_; clear n0_ n1_ n2_ n3_ n4_ n5_; (try clear hb); (try clear hb2); (try clear hk); (try clear hi); (try clear ho0)) | ((with_reducible refine gate_callee (f := 38) rfl ?_); refine goesL_ (some 361) rfl rfl Try.func38 (by kernel_rfl) rfl #[.slice Ao135 t471.length co135, .int .i64 t472, .int .i64 t473] rfl (by (try simp only [List.map_toArray, List.map_cons, List.map_nil]); first | done | rfl | (simp only [List.length_drop, List.length_take]; rfl)) ?_; (with_reducible refine (spec_CrossedBy.calls kj39 _ _ t471 t472 t473 t480 t481 _ ?side1 ?side2 A102.out).mono ?_); (case side1 => repeat (first | exact (Kd.R_reads' HO475.out).2.2 | (with_reducible refine Kd.C_alloc ?_ _) | (with_reducible refine Kd.C_drewN ?_ _) | (with_reducible refine Kd.C_drew ?_))); (case side2 => exact (Kd.R_reads' HO475.out).2.1); rintro e w137 ⟨v482, rfl, ho0, hb⟩; refine ⟨_, rfl, ?_⟩; have n0_ := Aside0.mk (Kd.R_below (by (with_reducible repeat (first | apply Kd.R_alloc | apply Kd.R_drewN | apply Kd.R_drew)); exact HO446.out) hb); have n1_ := Aside0.mk (Kd.R_below (by (with_reducible repeat (first | apply Kd.R_alloc | apply Kd.R_drewN | apply Kd.R_drew)); exact HO454.out) hb); have n2_ := Aside0.mk (Kd.R_below (by (with_reducible repeat (first | apply Kd.R_alloc | apply Kd.R_drewN | apply Kd.R_drew)); exact HO462.out) hb); have n3_ := Aside0.mk (Kd.R_below (by (with_reducible repeat (first | apply Kd.R_alloc | apply Kd.R_drewN | apply Kd.R_drew)); exact HO475.out) hb); have n4_ := Aside0.mk (Kd.R_elder' (by (with_reducible repeat (first | apply Kd.R_alloc | apply Kd.R_drewN | apply Kd.R_drew)); exact HO479.out) (Kd.R_base ho0) hb); have n5_ := Aside0.mk (Kd.R_lower (Kd.R_new' ho0 (Kd.R_lt (by (with_reducible repeat (first | apply Kd.R_alloc | apply Kd.R_drewN | apply Kd.R_drew)); exact HO479.out))) (below_size (by repeat (first | (with_reducible first | exact HB.out | apply below_alloc | apply pw_below_drewN | apply below_drew1) | exact HB.out)))); have n6_ := Aside0.mk (below_step (by repeat (first | (with_reducible first | exact HB.out | apply below_alloc | apply pw_below_drewN | apply below_drew1) | exact HB.out)) hb); clear HO446; clear HO454; clear HO462; clear HO475; clear HO479; clear HB; have HO446 := n0_; have HO454 := n1_; have HO462 := n2_; have HO475 := n3_; have HO479 := n4_; have HO483 := n5_; have HB := n6_; clear n0_ n1_ n2_ n3_ n4_ n5_ n6_; (try clear hb); (try clear hb2); (try clear hk); (try clear hi); (try clear ho0); obtain ⟨Ao138, co138, eo138⟩ := Kd.R_slice HO479.out; subst eo138; obtain ⟨Ao139, co139, eo139⟩ := Kd.R_slice HO483.out; subst eo139) | (go_at_call 47; (with_reducible refine (laws_tSame.calls kj39 _ _ t476 _ _ t480 true _ ?side1 ?side2 ?side3 ?side4 A112.out).mono ?_); (case side1 => repeat (first | exact (Kd.R_reads' HO479.out).2.2 | (with_reducible refine Kd.C_alloc ?_ _) | (with_reducible refine Kd.C_drewN ?_ _) | (with_reducible refine Kd.C_drew ?_))); (case side2 => exact (Kd.R_reads' HO479.out).2.1); (case side3 => repeat (first | exact (Kd.R_reads' HO483.out).2.2 | (with_reducible refine Kd.C_alloc ?_ _) | (with_reducible refine Kd.C_drewN ?_ _) | (with_reducible refine Kd.C_drew ?_))); (case side4 => exact (Kd.R_reads' HO483.out).2.1); rintro e w' ⟨rfl, ⟨nd, rfl⟩⟩) | (go_at_call 55; (with_reducible refine (spec_DrawIsRule.calls _ _ l1 t485 t486 _ ?side1 ?side2 A114.out).mono ?_); (case side1 => repeat (first | exact (Kd.C_below HR1.out (by repeat (first | (with_reducible first | exact HB.out | apply below_alloc | apply pw_below_drewN | apply below_drew1) | exact HB.out))) | (with_reducible refine Kd.C_alloc ?_ _) | (with_reducible refine Kd.C_drewN ?_ _) | (with_reducible refine Kd.C_drew ?_))); (case side2 => exact HC1.out); rintro e w140 ⟨rfl, hb⟩; have n0_ := Aside0.mk (Kd.R_below (by (with_reducible repeat (first | apply Kd.R_alloc | apply Kd.R_drewN | apply Kd.R_drew)); exact HO446.out) hb); have n1_ := Aside0.mk (Kd.R_below (by (with_reducible repeat (first | apply Kd.R_alloc | apply Kd.R_drewN | apply Kd.R_drew)); exact HO454.out) hb); have n2_ := Aside0.mk (Kd.R_below (by (with_reducible repeat (first | apply Kd.R_alloc | apply Kd.R_drewN | apply Kd.R_drew)); exact HO462.out) hb); have n3_ := Aside0.mk (Kd.R_below (by (with_reducible repeat (first | apply Kd.R_alloc | apply Kd.R_drewN | apply Kd.R_drew)); exact HO475.out) hb); have n4_ := Aside0.mk (Kd.R_below (by (with_reducible repeat (first | apply Kd.R_alloc | apply Kd.R_drewN | apply Kd.R_drew)); exact HO479.out) hb); have n5_ := Aside0.mk (Kd.R_below (by (with_reducible repeat (first | apply Kd.R_alloc | apply Kd.R_drewN | apply Kd.R_drew)); exact HO483.out) hb); have n6_ := Aside0.mk (below_step (by repeat (first | (with_reducible first | exact HB.out | apply below_alloc | apply pw_below_drewN | apply below_drew1) | exact HB.out)) hb); clear HO446; clear HO454; clear HO462; clear HO475; clear HO479; clear HO483; clear HB; have HO446 := n0_; have HO454 := n1_; have HO462 := n2_; have HO475 := n3_; have HO479 := n4_; have HO483 := n5_; have HB := n6_; clear n0_ n1_ n2_ n3_ n4_ n5_ n6_; (try clear hb); (try clear hb2); (try clear hk); (try clear hi)) | (go_at_call 54; (with_reducible refine (impl_IsRule.calls t485 t486 t487 _ A115.out).mono ?_); rintro e w141 ⟨rfl, hb⟩; have n0_ := Aside0.mk (Kd.R_below (by (with_reducible repeat (first | apply Kd.R_alloc | apply Kd.R_drewN | apply Kd.R_drew)); exact HO446.out) hb); have n1_ := Aside0.mk (Kd.R_below (by (with_reducible repeat (first | apply Kd.R_alloc | apply Kd.R_drewN | apply Kd.R_drew)); exact HO454.out) hb); have n2_ := Aside0.mk (Kd.R_below (by (with_reducible repeat (first | apply Kd.R_alloc | apply Kd.R_drewN | apply Kd.R_drew)); exact HO462.out) hb); have n3_ := Aside0.mk (Kd.R_below (by (with_reducible repeat (first | apply Kd.R_alloc | apply Kd.R_drewN | apply Kd.R_drew)); exact HO475.out) hb); have n4_ := Aside0.mk (Kd.R_below (by (with_reducible repeat (first | apply Kd.R_alloc | apply Kd.R_drewN | apply Kd.R_drew)); exact HO479.out) hb); have n5_ := Aside0.mk (Kd.R_below (by (with_reducible repeat (first | apply Kd.R_alloc | apply Kd.R_drewN | apply Kd.R_drew)); exact HO483.out) hb); have n6_ := Aside0.mk (below_step (by repeat (first | (with_reducible first | exact HB.out | apply below_alloc | apply pw_below_drewN | apply below_drew1) | exact HB.out)) hb); clear HO446; clear HO454; clear HO462; clear HO475; clear HO479; clear HO483; clear HB; have HO446 := n0_; have HO454 := n1_; have HO462 := n2_; have HO475 := n3_; have HO479 := n4_; have HO483 := n5_; have HB := n6_; clear n0_ n1_ n2_ n3_ n4_ n5_ n6_; (try clear hb); (try clear hb2); (try clear hk); (try clear hi)) | (go_at_call 55; (with_reducible refine (spec_DrawIsRule.calls _ _ l1 t485 t486 _ ?side1 ?side2 A116.out).mono ?_); (case side1 => repeat (first | exact (Kd.C_below HR1.out HB.out) | (with_reducible refine Kd.C_alloc ?_ _) | (with_reducible refine Kd.C_drewN ?_ _) | (with_reducible refine Kd.C_drew ?_))); (case side2 => exact HC1.out); rintro e w142 ⟨rfl, hb⟩; have n0_ := Aside0.mk (Kd.R_below (by (with_reducible repeat (first | apply Kd.R_alloc | apply Kd.R_drewN | apply Kd.R_drew)); exact HO446.out) hb); have n1_ := Aside0.mk (Kd.R_below (by (with_reducible repeat (first | apply Kd.R_alloc | apply Kd.R_drewN | apply Kd.R_drew)); exact HO454.out) hb); have n2_ := Aside0.mk (Kd.R_below (by (with_reducible repeat (first | apply Kd.R_alloc | apply Kd.R_drewN | apply Kd.R_drew)); exact HO462.out) hb); have n3_ := Aside0.mk (Kd.R_below (by (with_reducible repeat (first | apply Kd.R_alloc | apply Kd.R_drewN | apply Kd.R_drew)); exact HO475.out) hb); have n4_ := Aside0.mk (Kd.R_below (by (with_reducible repeat (first | apply Kd.R_alloc | apply Kd.R_drewN | apply Kd.R_drew)); exact HO479.out) hb); have n5_ := Aside0.mk (Kd.R_below (by (with_reducible repeat (first | apply Kd.R_alloc | apply Kd.R_drewN | apply Kd.R_drew)); exact HO483.out) hb); have n6_ := Aside0.mk (below_step (by repeat (first | (with_reducible first | exact HB.out | apply below_alloc | apply pw_below_drewN | apply below_drew1) | exact HB.out)) hb); clear HO446; clear HO454; clear HO462; clear HO475; clear HO479; clear HO483; clear HB; have HO446 := n0_; have HO454 := n1_; have HO462 := n2_; have HO475 := n3_; have HO479 := n4_; have HO483 := n5_; have HB := n6_; clear n0_ n1_ n2_ n3_ n4_ n5_ n6_; (try clear hb); (try clear hb2); (try clear hk); (try clear hi)) | (go_at_call 56; (with_reducible refine (spec_IsRule.calls t485 t486 t490 _ A117.out).mono ?_); rintro e w143 ⟨rfl, hb⟩; have n0_ := Aside0.mk (Kd.R_below (by (with_reducible repeat (first | apply Kd.R_alloc | apply Kd.R_drewN | apply Kd.R_drew)); exact HO446.out) hb); have n1_ := Aside0.mk (Kd.R_below (by (with_reducible repeat (first | apply Kd.R_alloc | apply Kd.R_drewN | apply Kd.R_drew)); exact HO454.out) hb); have n2_ := Aside0.mk (Kd.R_below (by (with_reducible repeat (first | apply Kd.R_alloc | apply Kd.R_drewN | apply Kd.R_drew)); exact HO462.out) hb); have n3_ := Aside0.mk (Kd.R_below (by (with_reducible repeat (first | apply Kd.R_alloc | apply Kd.R_drewN | apply Kd.R_drew)); exact HO475.out) hb); have n4_ := Aside0.mk (Kd.R_below (by (with_reducible repeat (first | apply Kd.R_alloc | apply Kd.R_drewN | apply Kd.R_drew)); exact HO479.out) hb); have n5_ := Aside0.mk (Kd.R_below (by (with_reducible repeat (first | apply Kd.R_alloc | apply Kd.R_drewN | apply Kd.R_drew)); exact HO483.out) hb); have n6_ := Aside0.mk (below_step (by repeat (first | (with_reducible first | exact HB.out | apply below_alloc | apply pw_below_drewN | apply below_drew1) | exact HB.out)) hb); clear HO446; clear HO454; clear HO462; clear HO475; clear HO479; clear HO483; clear HB; have HO446 := n0_; have HO454 := n1_; have HO462 := n2_; have HO475 := n3_; have HO479 := n4_; have HO483 := n5_; have HB := n6_; clear n0_ n1_ n2_ n3_ n4_ n5_ n6_; (try clear hb); (try clear hb2); (try clear hk); (try clear hi)))
                  (try simp only [Act.put, List.setIfInBounds_toArray, List.set_cons_zero, List.set_cons_succ])
                  go_cut [431] from 455 to 455 (fun v431 wc => ∃ (kq : Nat) (x431_118 : Bool), v431 = .bool x431_118 ∧ Aside0 (laws_FnSievesLeave.j5 kq t442 t443 t444 t447 x431_118 = some r) ∧ Aside0 (kq ≤ kj39) ∧ Aside0 (Kd.R k53 53 wc w.heap.size (fun _ => True) (.slice Ao121 t442.length co121) t442) ∧ Aside0 (Below w.heap.size w wc))
                  case first => as_aux_lemma =>
                   have H := HC119.out
                   clear HC119
                   by_cases c144 : t448 = true
                   ·subst c144
                    have H1 : (if t443 ≥ 1 then (laws_FnSievesLeave.j5 kj39 t442 t443 t444 t447 (decide (t444 ≥ t443))) else (laws_FnSievesLeave.j5 kj39 t442 t443 t444 t447 false)) = some r := by rw [if_pos rfl] at H; exact H
                    clear H
                    have H := H1
                    clear H1
                    by_cases c145 : t443 ≥ 1
                    ·rw [if_pos c145] at H
                     have c145b0 : decide (1 ≤ t443) = true := decide_eq_true c145
                     clear c145
                     (first | rw [c145b0] | (simp only [i64_w, i32_w]; rw [c145b0]) | skip)
                     have H' := Aside0.mk H
                     clear H
                     go_wp2
                     refine Met.intro ?_
                     go_step
                     (repeat with_reducible apply ex32_)
                     (repeat apply Exists.intro)
                     refine ⟨?rel, rfl⟩
                     case rel => exact ⟨_, (decide (t444 ≥ t443)), (by first | rfl | (simp; done) | (simp [*]; done)), H', ⟨by have := HJ9.out; have := HJ39.out; first | omega | exact Nat.le_refl _⟩, ⟨by (with_reducible repeat (first | apply Kd.R_alloc | apply Kd.R_drewN | apply Kd.R_drew)); exact Kd.R_mono HO446.out (fun _ hk => trivial)⟩, ⟨by repeat (first | (with_reducible first | exact HB.out | apply below_alloc | apply pw_below_drewN | apply below_drew1) | exact HB.out)⟩⟩
                    ·rw [if_neg c145] at H
                     have c145b0 : decide (1 ≤ t443) = false := decide_eq_false c145
                     clear c145
                     (first | rw [c145b0] | (simp only [i64_w, i32_w]; rw [c145b0]) | skip)
                     have H' := Aside0.mk H
                     clear H
                     go_wp2
                     refine Met.intro ?_
                     go_step
                     (repeat with_reducible apply ex32_)
                     (repeat apply Exists.intro)
                     refine ⟨?rel, rfl⟩
                     case rel => exact ⟨_, (false), (by first | rfl | (simp; done) | (simp [*]; done)), H', ⟨by have := HJ9.out; have := HJ39.out; first | omega | exact Nat.le_refl _⟩, ⟨by (with_reducible repeat (first | apply Kd.R_alloc | apply Kd.R_drewN | apply Kd.R_drew)); exact Kd.R_mono HO446.out (fun _ hk => trivial)⟩, ⟨by repeat (first | (with_reducible first | exact HB.out | apply below_alloc | apply pw_below_drewN | apply below_drew1) | exact HB.out)⟩⟩
                   ·as_aux_lemma =>
                    replace c144 := Bool.eq_false_iff.mpr c144
                    subst c144
                    have H1 : (laws_FnSievesLeave.j5 kj39 t442 t443 t444 t447 false) = some r := by rw [if_neg (show ¬ (false = true) by decide)] at H; exact H
                    clear H
                    have H := H1
                    clear H1
                    have H' := Aside0.mk H
                    clear H
                    go_wp2
                    refine Met.intro ?_
                    go_step
                    (repeat with_reducible apply ex32_)
                    (repeat apply Exists.intro)
                    refine ⟨?rel, rfl⟩
                    case rel => exact ⟨_, (false), (by first | rfl | (simp; done) | (simp [*]; done)), H', ⟨by have := HJ9.out; have := HJ39.out; first | omega | exact Nat.le_refl _⟩, ⟨by (with_reducible repeat (first | apply Kd.R_alloc | apply Kd.R_drewN | apply Kd.R_drew)); exact Kd.R_mono HO446.out (fun _ hk => trivial)⟩, ⟨by repeat (first | (with_reducible first | exact HB.out | apply below_alloc | apply pw_below_drewN | apply below_drew1) | exact HB.out)⟩⟩
                  case rest => as_aux_lemma =>
                   clear HC119
                   obtain ⟨kq, x431_118, rfl, HA, HJ118, HO_30, HB⟩ := hcut
                   cases kq with
                   | zero => exact absurd HA.out (by simp [laws_FnSievesLeave.j5])
                   | succ kj118 =>
                    have H := HA.out
                    clear HA
                    simp only [laws_FnSievesLeave.j5] at H
                    by_cases c146 : x431_118 = true
                    ·subst c146
                     have H1 : ((impl_CountLeft.f kj118 t442 t444).bind fun bt491 => ((impl_CountLeft.f kj118 t442 (wrap64 (t443 - 1))).bind fun bt493 => (if bt491.2 = true then (if bt493.2 = true then (some (t447 == (wrap64 (bt491.1 - bt493.1)))) else (some false)) else (some false)))) = some r := by rw [if_pos rfl] at H; exact H
                     clear H
                     have H := H1
                     clear H1
                     replace H := Option.bind_eq_some_iff.mp H
                     obtain ⟨⟨t491, t492⟩, A1470, H⟩ := H
                     replace H : ((impl_CountLeft.f kj118 t442 (wrap64 (t443 - 1))).bind fun bt493 => (if t492 = true then (if bt493.2 = true then (some (t447 == (wrap64 (t491 - bt493.1)))) else (some false)) else (some false))) = some r := H
                     have A147 := Aside0.mk A1470
                     clear A1470
                     replace H := Option.bind_eq_some_iff.mp H
                     obtain ⟨⟨t493, t494⟩, A1480, H⟩ := H
                     replace H : (if t492 = true then (if t494 = true then (some (t447 == (wrap64 (t491 - t493)))) else (some false)) else (some false)) = some r := H
                     have A148 := Aside0.mk A1480
                     clear A1480
                     by_cases c149 : t492 = true
                     ·as_aux_lemma =>
                      subst c149
                      have H1 : (if t494 = true then (some (t447 == (wrap64 (t491 - t493)))) else (some false)) = some r := by rw [if_pos rfl] at H; exact H
                      clear H
                      have H := H1
                      clear H1
                      by_cases c150 : t494 = true
                      ·subst c150
                       have H1 : (some (t447 == (wrap64 (t491 - t493)))) = some r := by rw [if_pos rfl] at H; exact H
                       clear H
                       have H := H1
                       clear H1
                       obtain rfl := Option.some.inj H
                       go_wp2_with (first | ((with_reducible refine gate_callee (f := 35) rfl ?_); refine goesL_ (some 435) rfl rfl Try.func35 (by kernel_rfl) rfl #[.slice Ao121 t442.length co121, .int .i64 t444] rfl (by (try simp only [List.map_toArray, List.map_cons, List.map_nil]); first | done | rfl | (simp only [List.length_drop, List.length_take]; rfl)) ?_; (with_reducible refine (impl_CountLeft.calls kj118 _ _ t442 t444 t491 true _ ?side1 ?side2 A147.out).mono ?_); (case side1 => repeat (first | exact (Kd.R_reads' HO_30.out).2.2 | (with_reducible refine Kd.C_alloc ?_ _) | (with_reducible refine Kd.C_drewN ?_ _) | (with_reducible refine Kd.C_drew ?_))); (case side2 => exact (Kd.R_reads' HO_30.out).2.1); rintro e w151 ⟨rfl, hb⟩; refine ⟨_, rfl, ?_⟩; have n0_ := Aside0.mk (Kd.R_below (by (with_reducible repeat (first | apply Kd.R_alloc | apply Kd.R_drewN | apply Kd.R_drew)); exact HO_30.out) hb); have n1_ := Aside0.mk (below_step (by repeat (first | (with_reducible first | exact HB.out | apply below_alloc | apply pw_below_drewN | apply below_drew1) | exact HB.out)) hb); clear HO_30; clear HB; have HO_30 := n0_; have HB := n1_; clear n0_ n1_; (try clear hb); (try clear hb2); (try clear hk); (try clear hi)) | ((with_reducible refine gate_callee (f := 35) rfl ?_); refine goesL_ (some 442) rfl rfl Try.func35 (by kernel_rfl) rfl #[.slice Ao121 t442.length co121, .int .i64 (wrap64 (t443 - 1))] rfl (by (try simp only [List.map_toArray, List.map_cons, List.map_nil]); first | done | rfl | (simp only [List.length_drop, List.length_take]; rfl)) ?_; (with_reducible refine (impl_CountLeft.calls kj118 _ _ t442 (wrap64 (t443 - 1)) t493 true _ ?side1 ?side2 A148.out).mono ?_); (case side1 => repeat (first | exact (Kd.R_reads' HO_30.out).2.2 | (with_reducible refine Kd.C_alloc ?_ _) | (with_reducible refine Kd.C_drewN ?_ _) | (with_reducible refine Kd.C_drew ?_))); (case side2 => exact (Kd.R_reads' HO_30.out).2.1); rintro e w152 ⟨rfl, hb⟩; refine ⟨_, rfl, ?_⟩; have n0_ := Aside0.mk (Kd.R_below (by (with_reducible repeat (first | apply Kd.R_alloc | apply Kd.R_drewN | apply Kd.R_drew)); exact HO_30.out) hb); have n1_ := Aside0.mk (below_step (by repeat (first | (with_reducible first | exact HB.out | apply below_alloc | apply pw_below_drewN | apply below_drew1) | exact HB.out)) hb); clear HO_30; clear HB; have HO_30 := n0_; have HB := n1_; clear n0_ n1_; (try clear hb); (try clear hb2); (try clear hk); (try clear hi)))
                       go_ret
                       exact ⟨by first | rfl | (simp [errW_none, errW_some] <;> rfl) | (simp [*, errW_none, errW_some] <;> rfl), by repeat (first | (with_reducible first | exact HB.out | apply below_alloc | apply pw_below_drewN | apply below_drew1) | exact HB.out)⟩
                      ·replace c150 := Bool.eq_false_iff.mpr c150
                       subst c150
                       have H1 : (some false) = some r := by rw [if_neg (show ¬ (false = true) by decide)] at H; exact H
                       clear H
                       have H := H1
                       clear H1
                       exact absurd (Option.some.inj H) (by rw [HRT.out]; decide)
                     ·replace c149 := Bool.eq_false_iff.mpr c149
                      subst c149
                      have H1 : (some false) = some r := by rw [if_neg (show ¬ (false = true) by decide)] at H; exact H
                      clear H
                      have H := H1
                      clear H1
                      exact absurd (Option.some.inj H) (by rw [HRT.out]; decide)
                    ·replace c146 := Bool.eq_false_iff.mpr c146
                     subst c146
                     have H1 : (some true) = some r := by rw [if_neg (show ¬ (false = true) by decide)] at H; exact H
                     clear H
                     have H := H1
                     clear H1
                     obtain rfl := Option.some.inj H
                     go_wp2
                     go_ret
                     exact ⟨by first | rfl | (simp [errW_none, errW_some] <;> rfl) | (simp [*, errW_none, errW_some] <;> rfl), by repeat (first | (with_reducible first | exact HB.out | apply below_alloc | apply pw_below_drewN | apply below_drew1) | exact HB.out)⟩
                ·replace c113 := Bool.eq_false_iff.mpr c113
                 subst c113
                 have H1 : (some false) = some r := by rw [if_neg (show ¬ (false = true) by decide)] at H; exact H
                 clear H
                 have H := H1
                 clear H1
                 exact absurd (Option.some.inj H) (by rw [HRT.out]; decide)
              ·rw [if_neg c110] at H
               have c110b0 : (t467 == t469) = false := beq_eq_false_iff_ne.mpr c110
               have c110b1 : (t467 != t469) = true := bne_iff_ne.mpr c110
               exact absurd (Option.some.inj H) (by rw [HRT.out]; decide)
            ·rw [if_neg c108] at H
             have c108b0 : (t463 == t465) = false := beq_eq_false_iff_ne.mpr c108
             have c108b1 : (t463 != t465) = true := bne_iff_ne.mpr c108
             exact absurd (Option.some.inj H) (by rw [HRT.out]; decide)
          ·rw [if_neg c106] at H
           have c106b0 : (t455 == t457) = false := beq_eq_false_iff_ne.mpr c106
           have c106b1 : (t455 != t457) = true := bne_iff_ne.mpr c106
           exact absurd (Option.some.inj H) (by rw [HRT.out]; decide)
        ·rw [if_neg c104] at H
         have c104b0 : (t447 == t449) = false := beq_eq_false_iff_ne.mpr c104
         have c104b1 : (t447 != t449) = true := bne_iff_ne.mpr c104
         exact absurd (Option.some.inj H) (by rw [HRT.out]; decide)

/-- THE ONE PURE STATEMENT of laws_FnSievesLeave: yours. -/
theorem laws_FnSievesLeave.walk (P : laws_FnSievesLeave.Pure) (a0 : Option Addr) (len0 cap0 : Nat) (z0 : List Int) (a1 : Option Addr) (len1 cap1 : Nat) (z1 : List Int) (w : World) (w0 : (a0 = none ∧ len0 = 0 ∧ cap0 = 0 ∧ z0 = []) ∨ ∃ x, a0 = some x ∧ len0 ≤ cap0 ∧ cap0 ≤ maxLen ∧ z0.length = cap0 ∧ (∀ i, i < z0.length → w.cell? (x.add i) = some (.int .u8 (z0.getD i 0))) ∧ ∀ n ∈ z0, (Lit.int .u8 n).wf = true) (y0 : len0 * 1 ≤ 140737488351232) (w1 : (a1 = none ∧ len1 = 0 ∧ cap1 = 0 ∧ z1 = []) ∨ ∃ x, a1 = some x ∧ len1 ≤ cap1 ∧ cap1 ≤ maxLen ∧ z1.length = cap1 ∧ (∀ i, i < z1.length → w.cell? (x.add i) = some (.int .u8 (z1.getD i 0))) ∧ ∀ n ∈ z1, (Lit.int .u8 n).wf = true) (y1 : len1 * 1 ≤ 140737488351232) :
    Calls Try.prog 14 #[.slice a0 len0 cap0, .slice a1 len1 cap1] w fun e w' => e = .returned (.bool true) ∧ Below w.heap.size w w' := by
  obtain ⟨l0, rfl, hr0, hm0, hw0, hc0⟩ := ReadsInt.ofRowC w0
  obtain ⟨l1, rfl, hr1, hm1, hw1, hc1⟩ := ReadsInt.ofRowC w1
  obtain ⟨k, h⟩ := P l0 l1 hm0 y0 hw0 hm1 y1 hw1
  refine (laws_FnSievesLeave.calls k _ _ l0 _ _ l1 true w (Kd.C_of_reads (d := (0 : Int)) (h1 := fun _ => rfl) hr0) hc0 (Kd.C_of_reads (d := (0 : Int)) (h1 := fun _ => rfl) hr1) hc1 h rfl).mono ?_
  rintro e w' ⟨rfl, hd⟩
  exact ⟨rfl, hd⟩

end Go.Proofs.Ytfickjfmcmdfiaa.PFnSievesLeave
