-- Written by a turned copy of the printer, for this claim
import Derived.Test.YtnhlhfkpkpbekaaPFnLuckyNumbersx0
import Derived.Test.YtnhlhfkpkpbekaaPFnLuckyNumbersx1
import Derived.Test.YtnhlhfkpkpbekaaPFnLuckyNumbersx2
import Derived.Test.YtnhlhfkpkpbekaaPFnLuckyNumbersx3
namespace Go.Proofs.Ytnhlhfkpkpbekaa.PFnLuckyNumbers
open Go.RowKit Go.Proofs.YtnhlhfkpkpbekaaW.PrintWords Go.Proofs.YtnhlhfkpkpbekaaW.PrintLast Go.Proofs.YtnhlhfkpkpbekaaW.PrintMore
attribute [local go_sem] max2_int min2_int max_two min_two max_three min_three max_four min_four   -- for this text's walks alone
set_option linter.unusedVariables false
set_option linter.unusedSimpArgs false

/-! ### impl_IsLucky: function 33 -/
def impl_IsLucky.j0 : Nat → Int → Bool → Option (Bool × Bool)
  | 0, _, _ => none
  | k + 1, x0, x11 => if x11 = true then (some (false, false)) else ((impl_lucky.f k x0).bind fun bt254 => ((slices_Contains_int_int.f k bt254.1 x0).bind fun t260 => (some (t260, true))))
def impl_IsLucky.f (k : Nat) (a0 : Int) : Option (Bool × Bool) := if a0 < 1 then (impl_IsLucky.j0 k a0 true) else (impl_IsLucky.j0 k a0 (decide (a0 > 400)))
theorem impl_IsLucky.mono_l : ∀ k, (∀ y0 y1, LeO (impl_IsLucky.j0 k y0 y1) (impl_IsLucky.j0 (k + 1) y0 y1))
  | 0 => fun _ _ r h => by simp [impl_IsLucky.j0] at h
  | k + 1 => by
    have ih0 := impl_IsLucky.mono_l k
    · intro y0 y1
      unfold impl_IsLucky.j0
      repeat' first
      | (with_reducible exact ih0 _ _)
      | (with_reducible exact impl_lucky.mono _ _)
      | (with_reducible exact slices_Contains_int_int.mono _ _ _)
      | (with_reducible exact LeO.refl _)
      | (with_reducible exact LeO.none _)
      | (with_reducible refine LeO.ite ?_ ?_)
      | (with_reducible refine LeO.bind ?_ (fun _ => ?_))
      | exact ih0 _ _
      | exact impl_lucky.mono _ _
      | exact slices_Contains_int_int.mono _ _ _
      | exact LeO.none _
      | refine LeO.ite ?_ ?_
      | refine LeO.bind ?_ (fun _ => ?_)
theorem impl_IsLucky.mono : ∀ a0 k, LeO (impl_IsLucky.f k a0) (impl_IsLucky.f (k + 1) a0) := by
  intro a0 k
  have ih0 := impl_IsLucky.mono_l k
  unfold impl_IsLucky.f
  repeat' first
      | (with_reducible exact ih0 _ _)
      | (with_reducible exact impl_lucky.mono _ _)
      | (with_reducible exact slices_Contains_int_int.mono _ _ _)
      | (with_reducible exact LeO.refl _)
      | (with_reducible exact LeO.none _)
      | (with_reducible refine LeO.ite ?_ ?_)
      | (with_reducible refine LeO.bind ?_ (fun _ => ?_))
      | exact ih0 _ _
      | exact impl_lucky.mono _ _
      | exact slices_Contains_int_int.mono _ _ _
      | exact LeO.none _
      | refine LeO.ite ?_ ?_
      | refine LeO.bind ?_ (fun _ => ?_)
set_option maxHeartbeats 8000000 in
set_option maxRecDepth 100000 in
theorem impl_IsLucky.calls (k : Nat) (a0 : Int) (r1 : Bool) (r2 : Bool) (w : World) (h : impl_IsLucky.f k a0 = some (r1, r2)) :
    Calls Try.prog 33 #[.int .i64 a0] w fun e w' => e = .returned (.tuple #[.bool r1, .bool r2]) ∧ Below w.heap.size w w' := by
  have HB := Aside0.mk (Below.refl w.heap.size w)
  have H : (if a0 < 1 then (impl_IsLucky.j0 k a0 true) else (impl_IsLucky.j0 k a0 (decide (a0 > 400)))) = some (r1, r2) := h
  clear h
  have HC2 := Aside0.mk H
  clear H
  go_enter Try.func33, Try.ntmps33
  go_upto_region 1 with (fail)
  go_cut [11] (fun v11 wc => ∃ (kq : Nat) (x11_1 : Bool), v11 = .bool x11_1 ∧ Aside0 (impl_IsLucky.j0 kq a0 x11_1 = some (r1, r2)) ∧ Aside0 (kq ≤ k) ∧ Aside0 (Below w.heap.size w wc))
  case first =>
    have H := HC2.out
    clear HC2
    by_cases c3 : a0 < 1
    · rw [if_pos c3] at H
      have c3b0 : decide (a0 < 1) = true := decide_eq_true c3
      clear c3
      (first | rw [c3b0] | (simp only [i64_w, i32_w]; rw [c3b0]) | skip)
      have H' := Aside0.mk H
      clear H
      go_wp2
      go_meet
      case rel => exact ⟨_, (true), (by first | rfl | (simp; done) | (simp [*]; done)), H', ⟨by first | omega | exact Nat.le_refl _⟩, ⟨by repeat (first | (with_reducible first | exact HB.out | apply below_alloc | apply pw_below_drewN | apply below_drew1) | exact HB.out)⟩⟩
    · rw [if_neg c3] at H
      have c3b0 : decide (a0 < 1) = false := decide_eq_false c3
      clear c3
      (first | rw [c3b0] | (simp only [i64_w, i32_w]; rw [c3b0]) | skip)
      have H' := Aside0.mk H
      clear H
      go_wp2
      go_meet
      case rel => exact ⟨_, (decide (a0 > 400)), (by first | rfl | (simp; done) | (simp [*]; done)), H', ⟨by first | omega | exact Nat.le_refl _⟩, ⟨by repeat (first | (with_reducible first | exact HB.out | apply below_alloc | apply pw_below_drewN | apply below_drew1) | exact HB.out)⟩⟩
  case rest =>
    clear HC2
    try clear p2
    try clear c3
    try clear c3b0
    obtain ⟨kq, x11_1, rfl, HA, HJ1, HB⟩ := hcut
    cases kq with
    | zero => exact absurd HA.out (by simp [impl_IsLucky.j0])
    | succ kj1 =>
      have H := HA.out
      clear HA
      simp only [impl_IsLucky.j0] at H
      by_cases c4 : x11_1 = true
      · subst c4
        have H1 : (some (false, false)) = some (r1, r2) := by rw [if_pos rfl] at H; exact H
        clear H
        have H := H1
        clear H1
        simp only [Option.some.injEq, Prod.mk.injEq] at H
        obtain ⟨rfl, rfl⟩ := H
        go_wp2
        go_ret2
        exact ⟨by first | rfl | (simp [errW_none, errW_some] <;> rfl) | (simp [*, errW_none, errW_some] <;> rfl), by repeat (first | (with_reducible first | exact HB.out | apply below_alloc | apply pw_below_drewN | apply below_drew1) | exact HB.out)⟩
      · replace c4 := Bool.eq_false_iff.mpr c4
        subst c4
        have H1 : ((impl_lucky.f kj1 a0).bind fun bt254 => ((slices_Contains_int_int.f kj1 bt254.1 a0).bind fun t260 => (some (t260, true)))) = some (r1, r2) := by rw [if_neg (show ¬ (false = true) by decide)] at H; exact H
        clear H
        have H := H1
        clear H1
        replace H := Option.bind_eq_some_iff.mp H
        obtain ⟨⟨t254, t255⟩, A50, H⟩ := H
        replace H : ((slices_Contains_int_int.f kj1 t254 a0).bind fun t260 => (some (t260, true))) = some (r1, r2) := H
        have A5 := Aside0.mk A50
        clear A50
        replace H := Option.bind_eq_some_iff.mp H
        obtain ⟨t260, A60, H⟩ := H
        replace H : (some (t260, true)) = some (r1, r2) := H
        have A6 := Aside0.mk A60
        clear A60
        simp only [Option.some.injEq, Prod.mk.injEq] at H
        obtain ⟨rfl, rfl⟩ := H
        go_wp2_with (first | ((with_reducible refine gate_callee (f := 53) rfl ?_); refine goesL_ (some 14) rfl rfl Try.func53 (by kernel_rfl) rfl #[.int .i64 a0] rfl (by (try simp only [List.map_toArray, List.map_cons, List.map_nil]); first | done | rfl | (simp only [List.length_drop, List.length_take]; rfl)) ?_; (with_reducible refine (impl_lucky.calls kj1 a0 t254 t255 _ A5.out).mono ?_); rintro e w7 ⟨v256, v258, rfl, ho0, ho1, hb⟩; refine ⟨_, rfl, ?_⟩; have n0_ := Aside0.mk (Kd.R_lower ho0 (below_size (by repeat (first | (with_reducible first | exact HB.out | apply below_alloc | apply pw_below_drewN | apply below_drew1) | exact HB.out)))); have n1_ := Aside0.mk (Kd.R_lower ho1 (below_size (by repeat (first | (with_reducible first | exact HB.out | apply below_alloc | apply pw_below_drewN | apply below_drew1) | exact HB.out)))); have n2_ := Aside0.mk (below_step (by repeat (first | (with_reducible first | exact HB.out | apply below_alloc | apply pw_below_drewN | apply below_drew1) | exact HB.out)) hb); clear HB; have HO257 := n0_; have HO259 := n1_; have HB := n2_; clear n0_ n1_ n2_; (try clear hb); (try clear hb2); (try clear hk); (try clear hi); (try clear ho0); (try clear ho1); obtain ⟨Ao8, co8, eo8⟩ := Kd.R_slice HO257.out; subst eo8) | ((with_reducible refine gate_callee (f := 65) rfl ?_); refine goesL_ (some 19) rfl rfl Try.func65 (by kernel_rfl) rfl #[.slice Ao8 t254.length co8, .int .i64 a0] rfl (by (try simp only [List.map_toArray, List.map_cons, List.map_nil]); first | done | rfl | (simp only [List.length_drop, List.length_take]; rfl)) ?_; (with_reducible refine (slices_Contains_int_int.calls kj1 _ _ t254 a0 t260 _ ?side1 ?side2 A6.out).mono ?_); (case side1 => repeat (first | exact (Kd.R_reads' HO257.out).2.2 | (with_reducible refine Kd.C_alloc ?_ _) | (with_reducible refine Kd.C_drewN ?_ _) | (with_reducible refine Kd.C_drew ?_))); (case side2 => exact (Kd.R_reads' HO257.out).2.1); rintro e w' ⟨rfl, ⟨nd, rfl⟩⟩; refine ⟨_, rfl, ?_⟩))
        go_ret2
        exact ⟨by first | rfl | (simp [errW_none, errW_some] <;> rfl) | (simp [*, errW_none, errW_some] <;> rfl), by repeat (first | (with_reducible first | exact HB.out | apply below_alloc | apply pw_below_drewN | apply below_drew1) | exact HB.out)⟩

/-! ### impl_RisingOfRank: function 34 -/
mutual
def impl_RisingOfRank.j0 : Nat → Int → Bool → Option (Int × Bool)
  | 0, _, _ => none
  | k + 1, x0, x11 => if x11 = true then (some (0, false)) else (impl_RisingOfRank.l0 k (wrap64 (x0 + 1)) (wrap64 (x0 + 1)))
def impl_RisingOfRank.l0 : Nat → Int → Int → Option (Int × Bool)
  | 0, _, _ => none
  | k + 1, x4, x5 => if x5 ≥ 2 then (if (wrap64 (x5 - 1)) = 0 then (none) else (impl_RisingOfRank.l0 k (wrap64 (x4 + (wrap64 (Int.tdiv (wrap64 (x4 - 1)) (wrap64 (x5 - 1)))))) (wrap64 (x5 - 1)))) else (some (x4, true))
end
def impl_RisingOfRank.f (k : Nat) (a0 : Int) : Option (Int × Bool) := if a0 < 0 then (impl_RisingOfRank.j0 k a0 true) else (impl_RisingOfRank.j0 k a0 (decide (a0 > 30)))
theorem impl_RisingOfRank.mono_l : ∀ k, (∀ y0 y1, LeO (impl_RisingOfRank.j0 k y0 y1) (impl_RisingOfRank.j0 (k + 1) y0 y1)) ∧ (∀ y0 y1, LeO (impl_RisingOfRank.l0 k y0 y1) (impl_RisingOfRank.l0 (k + 1) y0 y1))
  | 0 => ⟨fun _ _ r h => by simp [impl_RisingOfRank.j0] at h, fun _ _ r h => by simp [impl_RisingOfRank.l0] at h⟩
  | k + 1 => by
    obtain ⟨ih0, ih1⟩ := impl_RisingOfRank.mono_l k
    refine ⟨?_, ?_⟩
    · intro y0 y1
      unfold impl_RisingOfRank.j0
      repeat' first
      | (with_reducible exact ih0 _ _)
      | (with_reducible exact ih1 _ _)
      | (with_reducible exact LeO.refl _)
      | (with_reducible exact LeO.none _)
      | (with_reducible refine LeO.ite ?_ ?_)
      | (with_reducible refine LeO.bind ?_ (fun _ => ?_))
      | exact ih0 _ _
      | exact ih1 _ _
      | exact LeO.none _
      | refine LeO.ite ?_ ?_
      | refine LeO.bind ?_ (fun _ => ?_)
    · intro y0 y1
      unfold impl_RisingOfRank.l0
      repeat' first
      | (with_reducible exact ih0 _ _)
      | (with_reducible exact ih1 _ _)
      | (with_reducible exact LeO.refl _)
      | (with_reducible exact LeO.none _)
      | (with_reducible refine LeO.ite ?_ ?_)
      | (with_reducible refine LeO.bind ?_ (fun _ => ?_))
      | exact ih0 _ _
      | exact ih1 _ _
      | exact LeO.none _
      | refine LeO.ite ?_ ?_
      | refine LeO.bind ?_ (fun _ => ?_)
theorem impl_RisingOfRank.mono : ∀ a0 k, LeO (impl_RisingOfRank.f k a0) (impl_RisingOfRank.f (k + 1) a0) := by
  intro a0 k
  obtain ⟨ih0, ih1⟩ := impl_RisingOfRank.mono_l k
  unfold impl_RisingOfRank.f
  repeat' first
      | (with_reducible exact ih0 _ _)
      | (with_reducible exact ih1 _ _)
      | (with_reducible exact LeO.refl _)
      | (with_reducible exact LeO.none _)
      | (with_reducible refine LeO.ite ?_ ?_)
      | (with_reducible refine LeO.bind ?_ (fun _ => ?_))
      | exact ih0 _ _
      | exact ih1 _ _
      | exact LeO.none _
      | refine LeO.ite ?_ ?_
      | refine LeO.bind ?_ (fun _ => ?_)
set_option maxHeartbeats 8000000 in
set_option maxRecDepth 100000 in
theorem impl_RisingOfRank.calls (k : Nat) (a0 : Int) (r1 : Int) (r2 : Bool) (w : World) (h : impl_RisingOfRank.f k a0 = some (r1, r2)) :
    Calls Try.prog 34 #[.int .i64 a0] w fun e w' => e = .returned (.tuple #[.int .i64 r1, .bool r2]) ∧ Drawn0 w w' := by
  have H : (if a0 < 0 then (impl_RisingOfRank.j0 k a0 true) else (impl_RisingOfRank.j0 k a0 (decide (a0 > 30)))) = some (r1, r2) := h
  clear h
  have HC2 := Aside0.mk H
  clear H
  go_enter Try.func34, Try.ntmps34
  go_upto_region 1 with (fail)
  go_cut [11] (fun v11 wc => ∃ (kq : Nat) (x11_1 : Bool), v11 = .bool x11_1 ∧ Aside0 (impl_RisingOfRank.j0 kq a0 x11_1 = some (r1, r2)) ∧ Aside0 (kq ≤ k) ∧ Drawn0 w wc)
  case first =>
    have H := HC2.out
    clear HC2
    by_cases c3 : a0 < 0
    · rw [if_pos c3] at H
      have c3b0 : decide (a0 < 0) = true := decide_eq_true c3
      clear c3
      (first | rw [c3b0] | (simp only [i64_w, i32_w]; rw [c3b0]) | skip)
      have H' := Aside0.mk H
      clear H
      go_wp2
      go_meet
      case rel => exact ⟨_, (true), (by first | rfl | (simp; done) | (simp [*]; done)), H', ⟨by first | omega | exact Nat.le_refl _⟩, by repeat (first | exact Drawn0.refl _ | apply Drawn0.step)⟩
    · rw [if_neg c3] at H
      have c3b0 : decide (a0 < 0) = false := decide_eq_false c3
      clear c3
      (first | rw [c3b0] | (simp only [i64_w, i32_w]; rw [c3b0]) | skip)
      have H' := Aside0.mk H
      clear H
      go_wp2
      go_meet
      case rel => exact ⟨_, (decide (a0 > 30)), (by first | rfl | (simp; done) | (simp [*]; done)), H', ⟨by first | omega | exact Nat.le_refl _⟩, by repeat (first | exact Drawn0.refl _ | apply Drawn0.step)⟩
  case rest =>
    clear HC2
    try clear p2
    try clear c3
    try clear c3b0
    obtain ⟨kq, x11_1, rfl, HA, HJ1, ⟨mc1, rfl⟩⟩ := hcut
    cases kq with
    | zero => exact absurd HA.out (by simp [impl_RisingOfRank.j0])
    | succ kj1 =>
      have H := HA.out
      clear HA
      simp only [impl_RisingOfRank.j0] at H
      by_cases c4 : x11_1 = true
      · subst c4
        have H1 : (some (0, false)) = some (r1, r2) := by rw [if_pos rfl] at H; exact H
        clear H
        have H := H1
        clear H1
        simp only [Option.some.injEq, Prod.mk.injEq] at H
        obtain ⟨rfl, rfl⟩ := H
        go_wp2
        go_ret2
        exact ⟨by first | rfl | (simp; done) | (simp [*]; done), by repeat (first | exact Drawn0.refl _ | apply Drawn0.step)⟩
      · replace c4 := Bool.eq_false_iff.mpr c4
        subst c4
        have H1 : (impl_RisingOfRank.l0 kj1 (wrap64 (a0 + 1)) (wrap64 (a0 + 1))) = some (r1, r2) := by rw [if_neg (show ¬ (false = true) by decide)] at H; exact H
        clear H
        have H := H1
        clear H1
        have H' := Aside0.mk H
        clear H
        go_wp2
        go_loopg [4, 5] kj1 (fun kq v4 v5 w' => ∃ (x4_2 : Int) (x5_2 : Int), v4 = .int .i64 x4_2 ∧ v5 = .int .i64 x5_2 ∧ Aside0 (impl_RisingOfRank.l0 kq x4_2 x5_2 = some (r1, r2)) ∧ Aside0 (kq ≤ kj1) ∧ Drawn0 w w')
        case atStart => exact ⟨(wrap64 (a0 + 1)), (wrap64 (a0 + 1)), (by first | rfl | (simp; done) | (simp [*]; done)), (by first | rfl | (simp; done) | (simp [*]; done)), H', ⟨Nat.le_refl _⟩, by repeat (first | exact Drawn0.refl _ | apply Drawn0.step)⟩
        case round =>
          clear H'
          try clear c1
          try clear p2
          try clear c3
          try clear c3b0
          try clear c4
          try clear p2
          obtain ⟨x4_2, x5_2, rfl, rfl, HA, HK2, ⟨m2, rfl⟩⟩ := hrel
          cases gk with
          | zero => exact absurd HA.out (by simp [impl_RisingOfRank.l0])
          | succ k2 =>
            have H := HA.out
            clear HA
            simp only [impl_RisingOfRank.l0] at H
            by_cases c5 : x5_2 ≥ 2
            · rw [if_pos c5] at H
              have c5b0 : decide (2 ≤ x5_2) = true := decide_eq_true c5
              clear c5
              by_cases c6 : (wrap64 (x5_2 - 1)) = 0
              · rw [if_pos c6] at H
                exact absurd H (by simp)
              · rw [if_neg c6] at H
                have c6b0 : ((wrap64 (x5_2 - 1)) == 0) = false := beq_eq_false_iff_ne.mpr c6
                have c6b1 : ((wrap64 (x5_2 - 1)) != 0) = true := bne_iff_ne.mpr c6
                have H' := Aside0.mk H
                clear H
                go_wp2
                go_roundg k2
                case measure => have := HJ1.out; have := HK2.out; omega
                case rel => exact ⟨(wrap64 (x4_2 + (wrap64 (Int.tdiv (wrap64 (x4_2 - 1)) (wrap64 (x5_2 - 1)))))), (wrap64 (x5_2 - 1)), (by first | rfl | (simp; done) | (simp [*]; done)), (by first | rfl | (simp; done) | (simp [*]; done)), H', ⟨by have := HJ1.out; have := HK2.out; omega⟩, by repeat (first | exact Drawn0.refl _ | apply Drawn0.step)⟩
            · rw [if_neg c5] at H
              have c5b0 : decide (2 ≤ x5_2) = false := decide_eq_false c5
              clear c5
              simp only [Option.some.injEq, Prod.mk.injEq] at H
              obtain ⟨rfl, rfl⟩ := H
              go_wp2
              go_ret2
              exact ⟨by first | rfl | (simp; done) | (simp [*]; done), by repeat (first | exact Drawn0.refl _ | apply Drawn0.step)⟩

/-! ### spec_l1Has: function 66 -/
def spec_l1Has.l0 : Nat → Int → List Int → Int → Int → Option (Bool)
  | 0, _, _, _, _ => none
  | k + 1, x1, x7, x8, x9 => if x9 < x8 then (if 0 ≤ x9 then (if x9 < (x7.length : Int) then (if (rd x7 x9) = x1 then (some true) else (spec_l1Has.l0 k x1 x7 x8 (wrap64 (x9 + 1)))) else (none)) else (none)) else (some false)
def spec_l1Has.f (k : Nat) (l0 : List Int) (a1 : Int) : Option (Bool) := spec_l1Has.l0 k a1 l0 (l0.length : Int) 0
theorem spec_l1Has.mono_l : ∀ k, (∀ y0 y1 y2 y3, LeO (spec_l1Has.l0 k y0 y1 y2 y3) (spec_l1Has.l0 (k + 1) y0 y1 y2 y3))
  | 0 => fun _ _ _ _ r h => by simp [spec_l1Has.l0] at h
  | k + 1 => by
    have ih0 := spec_l1Has.mono_l k
    · intro y0 y1 y2 y3
      unfold spec_l1Has.l0
      repeat' first
      | (with_reducible exact ih0 _ _ _ _)
      | (with_reducible exact LeO.refl _)
      | (with_reducible exact LeO.none _)
      | (with_reducible refine LeO.ite ?_ ?_)
      | (with_reducible refine LeO.bind ?_ (fun _ => ?_))
      | exact ih0 _ _ _ _
      | exact LeO.none _
      | refine LeO.ite ?_ ?_
      | refine LeO.bind ?_ (fun _ => ?_)
theorem spec_l1Has.mono : ∀ a0 a1 k, LeO (spec_l1Has.f k a0 a1) (spec_l1Has.f (k + 1) a0 a1) := by
  intro a0 a1 k
  have ih0 := spec_l1Has.mono_l k
  unfold spec_l1Has.f
  repeat' first
      | (with_reducible exact ih0 _ _ _ _)
      | (with_reducible exact LeO.refl _)
      | (with_reducible exact LeO.none _)
      | (with_reducible refine LeO.ite ?_ ?_)
      | (with_reducible refine LeO.bind ?_ (fun _ => ?_))
      | exact ih0 _ _ _ _
      | exact LeO.none _
      | refine LeO.ite ?_ ?_
      | refine LeO.bind ?_ (fun _ => ?_)
set_option maxHeartbeats 8000000 in
set_option maxRecDepth 100000 in
theorem spec_l1Has.calls (k : Nat) (A0 : Option Addr) (c0 : Nat) (l0 : List Int) (a1 : Int) (r : Bool) (w : World) (hr0 : Kd.C (Kd.int .i64) w A0 l0.length l0) (hc0 : l0.length ≤ c0) (h : spec_l1Has.f k l0 a1 = some r) :
    Calls Try.prog 66 #[.slice A0 l0.length c0, .int .i64 a1] w fun e w' => e = .returned (.bool r) ∧ Drawn0 w w' := by
  have HR0 := Aside0.mk hr0
  have HC0 := Aside0.mk hc0
  clear hr0 hc0
  have H : (spec_l1Has.l0 k a1 l0 (l0.length : Int) 0) = some r := h
  clear h
  have H' := Aside0.mk H
  clear H
  go_enter Try.func66, Try.ntmps66
  go_wp2
  go_loopg [9] k (fun kq v9 w' => ∃ (x9_1 : Int), v9 = .int .i64 x9_1 ∧ Aside0 (spec_l1Has.l0 kq a1 l0 (l0.length : Int) x9_1 = some r) ∧ Aside0 (kq ≤ k) ∧ Drawn0 w w')
  case atStart => exact ⟨(0), (by first | rfl | (simp; done) | (simp [*]; done)), H', ⟨Nat.le_refl _⟩, by repeat (first | exact Drawn0.refl _ | apply Drawn0.step)⟩
  case round =>
    clear H'
    try clear p2
    obtain ⟨x9_1, rfl, HA, HK1, ⟨m1, rfl⟩⟩ := hrel
    cases gk with
    | zero => exact absurd HA.out (by simp [spec_l1Has.l0])
    | succ k1 =>
      have H := HA.out
      clear HA
      simp only [spec_l1Has.l0] at H
      by_cases c3 : x9_1 < (l0.length : Int)
      · rw [if_pos c3] at H
        have c3b0 : decide (x9_1 < (l0.length : Int)) = true := decide_eq_true c3
        clear c3
        by_cases c4 : 0 ≤ x9_1
        · rw [if_pos c4] at H
          have c4b0 : decide (0 ≤ x9_1) = true := decide_eq_true c4
          clear c4
          by_cases c5 : x9_1 < (l0.length : Int)
          · rw [if_pos c5] at H
            have c5b0 : decide (x9_1 < (l0.length : Int)) = true := decide_eq_true c5
            clear c5
            by_cases c6 : (rd l0 x9_1) = a1
            · rw [if_pos c6] at H
              have c6b0 : ((rd l0 x9_1) == a1) = true := beq_iff_eq.mpr c6
              have c6b1 : ((rd l0 x9_1) != a1) = false := bne_eq_false_iff_eq.mpr c6
              clear c6
              obtain rfl := Option.some.inj H
              have p261 : 0 ≤ (x9_1 : Int) := of_decide_eq_true (by first | (with_reducible assumption) | assumption)
              have q261 : x9_1 < (l0.length : Int) := of_decide_eq_true (by first | (with_reducible assumption) | assumption)
              obtain ⟨ad261, e261, hx261_0⟩ := Kd.at_int HR0.out x9_1 p261 q261
              cases e261
              replace p261 := eq_true p261
              replace q261 := eq_true q261
              go_wp2
              go_ret
              exact ⟨by first | rfl | (simp; done) | (simp [*]; done), by repeat (first | exact Drawn0.refl _ | apply Drawn0.step)⟩
            · rw [if_neg c6] at H
              have c6b0 : ((rd l0 x9_1) == a1) = false := beq_eq_false_iff_ne.mpr c6
              have c6b1 : ((rd l0 x9_1) != a1) = true := bne_iff_ne.mpr c6
              have H' := Aside0.mk H
              clear H
              have p261 : 0 ≤ (x9_1 : Int) := of_decide_eq_true (by first | (with_reducible assumption) | assumption)
              have q261 : x9_1 < (l0.length : Int) := of_decide_eq_true (by first | (with_reducible assumption) | assumption)
              obtain ⟨ad261, e261, hx261_0⟩ := Kd.at_int HR0.out x9_1 p261 q261
              cases e261
              replace p261 := eq_true p261
              replace q261 := eq_true q261
              go_wp2
              go_roundg k1
              case measure => have := HK1.out; omega
              case rel => exact ⟨(wrap64 (x9_1 + 1)), (by first | rfl | (simp; done) | (simp [*]; done)), H', ⟨by have := HK1.out; omega⟩, by repeat (first | exact Drawn0.refl _ | apply Drawn0.step)⟩
          · rw [if_neg c5] at H
            exact absurd H (by simp)
        · rw [if_neg c4] at H
          exact absurd H (by simp)
      · rw [if_neg c3] at H
        have c3b0 : decide (x9_1 < (l0.length : Int)) = false := decide_eq_false c3
        clear c3
        obtain rfl := Option.some.inj H
        go_wp2
        go_ret
        exact ⟨by first | rfl | (simp; done) | (simp [*]; done), by repeat (first | exact Drawn0.refl _ | apply Drawn0.step)⟩

/-! ### spec_IsLucky: function 35 -/
def spec_IsLucky.f (k : Nat) (a0 : Int) : Option (Bool × Bool) := (spec_l1In.f a0 1 400).bind fun t262 => (if t262 = true then ((spec_cnUp.f k 1 2 a0).bind fun t263 => ((spec_cnOwn.f k t263 1).bind fun bt266 => ((spec_l1Has.f k bt266.1 a0).bind fun t272 => (some (t272, true))))) else (some (false, false)))
theorem spec_IsLucky.mono : ∀ a0 k, LeO (spec_IsLucky.f k a0) (spec_IsLucky.f (k + 1) a0) := by
  intro a0 k
  unfold spec_IsLucky.f
  repeat' first
      | (with_reducible exact spec_cnOwn.mono _ _ _)
      | (with_reducible exact spec_cnUp.mono _ _ _ _)
      | (with_reducible exact spec_l1Has.mono _ _ _)
      | (with_reducible exact LeO.refl _)
      | (with_reducible exact LeO.none _)
      | (with_reducible refine LeO.ite ?_ ?_)
      | (with_reducible refine LeO.bind ?_ (fun _ => ?_))
      | exact spec_cnOwn.mono _ _ _
      | exact spec_cnUp.mono _ _ _ _
      | exact spec_l1Has.mono _ _ _
      | exact LeO.none _
      | refine LeO.ite ?_ ?_
      | refine LeO.bind ?_ (fun _ => ?_)
set_option maxHeartbeats 8000000 in
set_option maxRecDepth 100000 in
theorem spec_IsLucky.calls (k : Nat) (a0 : Int) (r1 : Bool) (r2 : Bool) (w : World) (h : spec_IsLucky.f k a0 = some (r1, r2)) :
    Calls Try.prog 35 #[.int .i64 a0] w fun e w' => e = .returned (.tuple #[.bool r1, .bool r2]) ∧ Below w.heap.size w w' := by
  have HB := Aside0.mk (Below.refl w.heap.size w)
  have H : ((spec_l1In.f a0 1 400).bind fun t262 => (if t262 = true then ((spec_cnUp.f k 1 2 a0).bind fun t263 => ((spec_cnOwn.f k t263 1).bind fun bt266 => ((spec_l1Has.f k bt266.1 a0).bind fun t272 => (some (t272, true))))) else (some (false, false)))) = some (r1, r2) := h
  clear h
  replace H := Option.bind_eq_some_iff.mp H
  obtain ⟨t262, A20, H⟩ := H
  replace H : (if t262 = true then ((spec_cnUp.f k 1 2 a0).bind fun t263 => ((spec_cnOwn.f k t263 1).bind fun bt266 => ((spec_l1Has.f k bt266.1 a0).bind fun t272 => (some (t272, true))))) else (some (false, false))) = some (r1, r2) := H
  have A2 := Aside0.mk A20
  clear A20
  by_cases c3 : t262 = true
  · subst c3
    have H1 : ((spec_cnUp.f k 1 2 a0).bind fun t263 => ((spec_cnOwn.f k t263 1).bind fun bt266 => ((spec_l1Has.f k bt266.1 a0).bind fun t272 => (some (t272, true))))) = some (r1, r2) := by rw [if_pos rfl] at H; exact H
    clear H
    have H := H1
    clear H1
    replace H := Option.bind_eq_some_iff.mp H
    obtain ⟨t263, A40, H⟩ := H
    replace H : ((spec_cnOwn.f k t263 1).bind fun bt266 => ((spec_l1Has.f k bt266.1 a0).bind fun t272 => (some (t272, true)))) = some (r1, r2) := H
    have A4 := Aside0.mk A40
    clear A40
    replace H := Option.bind_eq_some_iff.mp H
    obtain ⟨⟨t266, t269⟩, A50, H⟩ := H
    replace H : ((spec_l1Has.f k t266 a0).bind fun t272 => (some (t272, true))) = some (r1, r2) := H
    have A5 := Aside0.mk A50
    clear A50
    replace H := Option.bind_eq_some_iff.mp H
    obtain ⟨t272, A60, H⟩ := H
    replace H : (some (t272, true)) = some (r1, r2) := H
    have A6 := Aside0.mk A60
    clear A60
    simp only [Option.some.injEq, Prod.mk.injEq] at H
    obtain ⟨rfl, rfl⟩ := H
    go_enter Try.func35, Try.ntmps35
    go_wp2_with (first | ((with_reducible refine gate_callee (f := 61) rfl ?_); refine goesL_ (some 7) rfl rfl Try.func61 (by kernel_rfl) rfl #[.int .i64 a0, .int .i64 1, .int .i64 400] rfl (by (try simp only [List.map_toArray, List.map_cons, List.map_nil]); first | done | rfl | (simp only [List.length_drop, List.length_take]; rfl)) ?_; (with_reducible refine (spec_l1In.calls a0 1 400 true _ A2.out).mono ?_); rintro e w' ⟨rfl, ⟨nd, rfl⟩⟩; refine ⟨_, rfl, ?_⟩) | ((with_reducible refine gate_callee (f := 51) rfl ?_); refine goesL_ (some 11) rfl rfl Try.func51 (by kernel_rfl) rfl #[.int .i64 1, .int .i64 2, .int .i64 a0] rfl (by (try simp only [List.map_toArray, List.map_cons, List.map_nil]); first | done | rfl | (simp only [List.length_drop, List.length_take]; rfl)) ?_; (with_reducible refine (spec_cnUp.calls k 1 2 a0 t263 _ A4.out).mono ?_); rintro e w7 ⟨v264, rfl, ho0, hb⟩; refine ⟨_, rfl, ?_⟩; have n0_ := Aside0.mk (Kd.R_lower ho0 (below_size (by repeat (first | (with_reducible first | exact HB.out | apply below_alloc | apply pw_below_drewN | apply below_drew1) | exact HB.out)))); have n1_ := Aside0.mk (below_step (by repeat (first | (with_reducible first | exact HB.out | apply below_alloc | apply pw_below_drewN | apply below_drew1) | exact HB.out)) hb); clear HB; have HO265 := n0_; have HB := n1_; clear n0_ n1_; (try clear hb); (try clear hb2); (try clear hk); (try clear hi); (try clear ho0); obtain ⟨Ao8, co8, eo8⟩ := Kd.R_slice HO265.out; subst eo8) | ((with_reducible refine gate_callee (f := 50) rfl ?_); refine goesL_ (some 12) rfl rfl Try.func50 (by kernel_rfl) rfl #[.slice Ao8 t263.length co8, .int .i64 1] rfl (by (try simp only [List.map_toArray, List.map_cons, List.map_nil]); first | done | rfl | (simp only [List.length_drop, List.length_take]; rfl)) ?_; (with_reducible refine (spec_cnOwn.calls k (fun k_ => some k_ = (.slice Ao8 t263.length co8 : Value).ownBlock) (.slice Ao8 t263.length co8) t263 1 t266 t269 w _ ?side1 ?side2 A5.out).mono ?_); (case side1 => repeat (first | (with_reducible first | exact HB.out | apply below_alloc | apply pw_below_drewN | apply below_drew1) | exact HB.out)); (case side2 => exact Kd.R_tight rfl HO265.out); rintro e w9 ⟨v267, v270, rfl, ho0, ho1, hb, hkp⟩; refine ⟨_, rfl, ?_⟩; have n0_ := Aside0.mk (Kd.R_mono (ok' := fun k_ => some k_ ≠ (v270 : Value).ownBlock) ho0 (fun k_ hk_ => hk_.2)); have n1_ := Aside0.mk (Kd.R_mono (ok' := fun k_ => some k_ ≠ (v267 : Value).ownBlock) ho1 (fun k_ hk_ => hk_.2)); have n2_ := Aside0.mk (hb); clear HB; clear HO265; have HO268 := n0_; have HO271 := n1_; have HB := n2_; clear n0_ n1_ n2_; (try clear hb); (try clear hkp); (try clear ho0); (try clear ho1); obtain ⟨Ao10, co10, eo10⟩ := Kd.R_slice HO268.out; subst eo10) | ((with_reducible refine gate_callee (f := 66) rfl ?_); refine goesL_ (some 17) rfl rfl Try.func66 (by kernel_rfl) rfl #[.slice Ao10 t266.length co10, .int .i64 a0] rfl (by (try simp only [List.map_toArray, List.map_cons, List.map_nil]); first | done | rfl | (simp only [List.length_drop, List.length_take]; rfl)) ?_; (with_reducible refine (spec_l1Has.calls k _ _ t266 a0 t272 _ ?side1 ?side2 A6.out).mono ?_); (case side1 => repeat (first | exact (Kd.R_reads' HO268.out).2.2 | (with_reducible refine Kd.C_alloc ?_ _) | (with_reducible refine Kd.C_drewN ?_ _) | (with_reducible refine Kd.C_drew ?_))); (case side2 => exact (Kd.R_reads' HO268.out).2.1); rintro e w' ⟨rfl, ⟨nd, rfl⟩⟩; refine ⟨_, rfl, ?_⟩))
    go_ret2
    exact ⟨by first | rfl | (simp [errW_none, errW_some] <;> rfl) | (simp [*, errW_none, errW_some] <;> rfl), by repeat (first | (with_reducible first | exact HB.out | apply below_alloc | apply pw_below_drewN | apply below_drew1) | exact HB.out)⟩
  · replace c3 := Bool.eq_false_iff.mpr c3
    subst c3
    have H1 : (some (false, false)) = some (r1, r2) := by rw [if_neg (show ¬ (false = true) by decide)] at H; exact H
    clear H
    have H := H1
    clear H1
    simp only [Option.some.injEq, Prod.mk.injEq] at H
    obtain ⟨rfl, rfl⟩ := H
    go_enter Try.func35, Try.ntmps35
    go_wp2_with (first | ((with_reducible refine gate_callee (f := 61) rfl ?_); refine goesL_ (some 7) rfl rfl Try.func61 (by kernel_rfl) rfl #[.int .i64 a0, .int .i64 1, .int .i64 400] rfl (by (try simp only [List.map_toArray, List.map_cons, List.map_nil]); first | done | rfl | (simp only [List.length_drop, List.length_take]; rfl)) ?_; (with_reducible refine (spec_l1In.calls a0 1 400 false _ A2.out).mono ?_); rintro e w' ⟨rfl, ⟨nd, rfl⟩⟩; refine ⟨_, rfl, ?_⟩))
    go_ret2
    exact ⟨by first | rfl | (simp [errW_none, errW_some] <;> rfl) | (simp [*, errW_none, errW_some] <;> rfl), by repeat (first | (with_reducible first | exact HB.out | apply below_alloc | apply pw_below_drewN | apply below_drew1) | exact HB.out)⟩

/-! ### spec_RisingOfRank: function 36 -/
def spec_RisingOfRank.l0 : Nat → Int → Int → Option (Int × Bool)
  | 0, _, _ => none
  | k + 1, x4, x5 => if x5 ≥ 2 then (if (wrap64 (x5 - 1)) = 0 then (none) else (spec_RisingOfRank.l0 k (wrap64 (x4 + (wrap64 (Int.tdiv (wrap64 (x4 - 1)) (wrap64 (x5 - 1)))))) (wrap64 (x5 - 1)))) else (some (x4, true))
def spec_RisingOfRank.f (k : Nat) (a0 : Int) : Option (Int × Bool) := (spec_l1In.f a0 0 30).bind fun t273 => (if t273 = true then (spec_RisingOfRank.l0 k (wrap64 (a0 + 1)) (wrap64 (a0 + 2))) else (some (0, false)))
theorem spec_RisingOfRank.mono_l : ∀ k, (∀ y0 y1, LeO (spec_RisingOfRank.l0 k y0 y1) (spec_RisingOfRank.l0 (k + 1) y0 y1))
  | 0 => fun _ _ r h => by simp [spec_RisingOfRank.l0] at h
  | k + 1 => by
    have ih0 := spec_RisingOfRank.mono_l k
    · intro y0 y1
      unfold spec_RisingOfRank.l0
      repeat' first
      | (with_reducible exact ih0 _ _)
      | (with_reducible exact LeO.refl _)
      | (with_reducible exact LeO.none _)
      | (with_reducible refine LeO.ite ?_ ?_)
      | (with_reducible refine LeO.bind ?_ (fun _ => ?_))
      | exact ih0 _ _
      | exact LeO.none _
      | refine LeO.ite ?_ ?_
      | refine LeO.bind ?_ (fun _ => ?_)
theorem spec_RisingOfRank.mono : ∀ a0 k, LeO (spec_RisingOfRank.f k a0) (spec_RisingOfRank.f (k + 1) a0) := by
  intro a0 k
  have ih0 := spec_RisingOfRank.mono_l k
  unfold spec_RisingOfRank.f
  repeat' first
      | (with_reducible exact ih0 _ _)
      | (with_reducible exact LeO.refl _)
      | (with_reducible exact LeO.none _)
      | (with_reducible refine LeO.ite ?_ ?_)
      | (with_reducible refine LeO.bind ?_ (fun _ => ?_))
      | exact ih0 _ _
      | exact LeO.none _
      | refine LeO.ite ?_ ?_
      | refine LeO.bind ?_ (fun _ => ?_)
set_option maxHeartbeats 8000000 in
set_option maxRecDepth 100000 in
theorem spec_RisingOfRank.calls (k : Nat) (a0 : Int) (r1 : Int) (r2 : Bool) (w : World) (h : spec_RisingOfRank.f k a0 = some (r1, r2)) :
    Calls Try.prog 36 #[.int .i64 a0] w fun e w' => e = .returned (.tuple #[.int .i64 r1, .bool r2]) ∧ Drawn0 w w' := by
  have H : ((spec_l1In.f a0 0 30).bind fun t273 => (if t273 = true then (spec_RisingOfRank.l0 k (wrap64 (a0 + 1)) (wrap64 (a0 + 2))) else (some (0, false)))) = some (r1, r2) := h
  clear h
  replace H := Option.bind_eq_some_iff.mp H
  obtain ⟨t273, A20, H⟩ := H
  replace H : (if t273 = true then (spec_RisingOfRank.l0 k (wrap64 (a0 + 1)) (wrap64 (a0 + 2))) else (some (0, false))) = some (r1, r2) := H
  have A2 := Aside0.mk A20
  clear A20
  by_cases c3 : t273 = true
  · subst c3
    have H1 : (spec_RisingOfRank.l0 k (wrap64 (a0 + 1)) (wrap64 (a0 + 2))) = some (r1, r2) := by rw [if_pos rfl] at H; exact H
    clear H
    have H := H1
    clear H1
    have H' := Aside0.mk H
    clear H
    go_enter Try.func36, Try.ntmps36
    go_wp2_with (first | ((with_reducible refine gate_callee (f := 61) rfl ?_); refine goesL_ (some 7) rfl rfl Try.func61 (by kernel_rfl) rfl #[.int .i64 a0, .int .i64 0, .int .i64 30] rfl (by (try simp only [List.map_toArray, List.map_cons, List.map_nil]); first | done | rfl | (simp only [List.length_drop, List.length_take]; rfl)) ?_; (with_reducible refine (spec_l1In.calls a0 0 30 true _ A2.out).mono ?_); rintro e w' ⟨rfl, ⟨nd, rfl⟩⟩; refine ⟨_, rfl, ?_⟩))
    go_loopg [4, 5] k (fun kq v4 v5 w' => ∃ (x4_1 : Int) (x5_1 : Int), v4 = .int .i64 x4_1 ∧ v5 = .int .i64 x5_1 ∧ Aside0 (spec_RisingOfRank.l0 kq x4_1 x5_1 = some (r1, r2)) ∧ Aside0 (kq ≤ k) ∧ Drawn0 w w')
    case atStart => exact ⟨(wrap64 (a0 + 1)), (wrap64 (a0 + 2)), (by first | rfl | (simp; done) | (simp [*]; done)), (by first | rfl | (simp; done) | (simp [*]; done)), H', ⟨Nat.le_refl _⟩, by repeat (first | exact Drawn0.refl _ | apply Drawn0.step)⟩
    case round =>
      clear H'
      try clear p2
      try clear c3
      obtain ⟨x4_1, x5_1, rfl, rfl, HA, HK1, ⟨m1, rfl⟩⟩ := hrel
      cases gk with
      | zero => exact absurd HA.out (by simp [spec_RisingOfRank.l0])
      | succ k1 =>
        have H := HA.out
        clear HA
        simp only [spec_RisingOfRank.l0] at H
        by_cases c4 : x5_1 ≥ 2
        · rw [if_pos c4] at H
          have c4b0 : decide (2 ≤ x5_1) = true := decide_eq_true c4
          clear c4
          by_cases c5 : (wrap64 (x5_1 - 1)) = 0
          · rw [if_pos c5] at H
            exact absurd H (by simp)
          · rw [if_neg c5] at H
            have c5b0 : ((wrap64 (x5_1 - 1)) == 0) = false := beq_eq_false_iff_ne.mpr c5
            have c5b1 : ((wrap64 (x5_1 - 1)) != 0) = true := bne_iff_ne.mpr c5
            have H' := Aside0.mk H
            clear H
            go_wp2
            go_roundg k1
            case measure => have := HK1.out; omega
            case rel => exact ⟨(wrap64 (x4_1 + (wrap64 (Int.tdiv (wrap64 (x4_1 - 1)) (wrap64 (x5_1 - 1)))))), (wrap64 (x5_1 - 1)), (by first | rfl | (simp; done) | (simp [*]; done)), (by first | rfl | (simp; done) | (simp [*]; done)), H', ⟨by have := HK1.out; omega⟩, by repeat (first | exact Drawn0.refl _ | apply Drawn0.step)⟩
        · rw [if_neg c4] at H
          have c4b0 : decide (2 ≤ x5_1) = false := decide_eq_false c4
          clear c4
          simp only [Option.some.injEq, Prod.mk.injEq] at H
          obtain ⟨rfl, rfl⟩ := H
          go_wp2
          go_ret2
          exact ⟨by first | rfl | (simp; done) | (simp [*]; done), by repeat (first | exact Drawn0.refl _ | apply Drawn0.step)⟩
  · replace c3 := Bool.eq_false_iff.mpr c3
    subst c3
    have H1 : (some (0, false)) = some (r1, r2) := by rw [if_neg (show ¬ (false = true) by decide)] at H; exact H
    clear H
    have H := H1
    clear H1
    simp only [Option.some.injEq, Prod.mk.injEq] at H
    obtain ⟨rfl, rfl⟩ := H
    go_enter Try.func36, Try.ntmps36
    go_wp2_with (first | ((with_reducible refine gate_callee (f := 61) rfl ?_); refine goesL_ (some 7) rfl rfl Try.func61 (by kernel_rfl) rfl #[.int .i64 a0, .int .i64 0, .int .i64 30] rfl (by (try simp only [List.map_toArray, List.map_cons, List.map_nil]); first | done | rfl | (simp only [List.length_drop, List.length_take]; rfl)) ?_; (with_reducible refine (spec_l1In.calls a0 0 30 false _ A2.out).mono ?_); rintro e w' ⟨rfl, ⟨nd, rfl⟩⟩; refine ⟨_, rfl, ?_⟩))
    go_ret2
    exact ⟨by first | rfl | (simp; done) | (simp [*]; done), by repeat (first | exact Drawn0.refl _ | apply Drawn0.step)⟩

/-! ### impl_OwnSteps: function 37 -/
/-- A new row without elements. -/
theorem impl_OwnSteps.row_new (W : World) (base : Nat) (h : base ≤ W.heap.size) : Kd.R (Kd.int .i64) 3 (W.alloc (.cells #[] 3)).drew base (fun _ => True) (.slice (some ⟨W.heap.size, 0, none⟩) 0 0) ([] : List Int) := by
  refine Kd.R_drew ⟨fun _ _ => trivial, [], ⟨rfl, .inr ⟨W.heap.size, 0, #[], rfl, h, ?_, Nat.le_refl _, Nat.zero_le _, rfl, rfl⟩⟩, Reps.none _ _⟩
  exact heap_alloc_new W _
def impl_OwnSteps.l0 : Nat → List Int → Int → Option (List Int × Bool)
  | 0, _, _ => none
  | k + 1, x6, x7 => if x7 < (x6.length : Int) then (if 0 ≤ x7 then ((impl_withoutEach.f k (x6.drop (x7.toNat + 1)) (rd x6 x7)).bind fun t => (if (x6.take (x7.toNat + 1)).length + t.length < 17592186044416 then (impl_OwnSteps.l0 k (x6.take (x7.toNat + 1) ++ t) (x7 + 1)) else none)) else none) else some (x6, true)
def impl_OwnSteps.j0 : Nat → Int → Int → Bool → Option (List Int × Bool)
  | 0, _, _, _ => none
  | k + 1, x0, x1, b => if b = true then some ([], false) else ((impl_upTo.f k x0 x1 1).bind fun t => impl_OwnSteps.l0 k t 0)
def impl_OwnSteps.f (k : Nat) (a0 : Int) (a1 : Int) : Option (List Int × Bool) := if a0 < 2 then impl_OwnSteps.j0 k a0 a1 true else (if a0 > 20 then impl_OwnSteps.j0 k a0 a1 true else ((impl_isAnew.f a1).bind fun t => impl_OwnSteps.j0 k a0 a1 (!t)))
theorem impl_OwnSteps.mono_l : ∀ k, (∀ y0 y1, LeO (impl_OwnSteps.l0 k y0 y1) (impl_OwnSteps.l0 (k + 1) y0 y1)) ∧ (∀ y0 y1 y2, LeO (impl_OwnSteps.j0 k y0 y1 y2) (impl_OwnSteps.j0 (k + 1) y0 y1 y2))
  | 0 => ⟨fun _ _ r h => by simp [impl_OwnSteps.l0] at h, fun _ _ _ r h => by simp [impl_OwnSteps.j0] at h⟩
  | k + 1 => by
    obtain ⟨ih0, ih1⟩ := impl_OwnSteps.mono_l k
    refine ⟨?_, ?_⟩
    · intro y0 y1
      unfold impl_OwnSteps.l0
      repeat' first
      | (with_reducible exact ih0 _ _)
      | (with_reducible exact impl_upTo.mono _ _ _ _)
      | (with_reducible exact impl_withoutEach.mono _ _ _)
      | (with_reducible exact LeO.refl _)
      | (with_reducible exact LeO.none _)
      | (with_reducible refine LeO.ite ?_ ?_)
      | (with_reducible refine LeO.bind ?_ (fun _ => ?_))
      | exact ih0 _ _
      | exact impl_upTo.mono _ _ _ _
      | exact impl_withoutEach.mono _ _ _
      | exact LeO.none _
      | refine LeO.ite ?_ ?_
      | refine LeO.bind ?_ (fun _ => ?_)
    · intro y0 y1 y2
      unfold impl_OwnSteps.j0
      repeat' first
      | (with_reducible exact ih0 _ _)
      | (with_reducible exact impl_upTo.mono _ _ _ _)
      | (with_reducible exact impl_withoutEach.mono _ _ _)
      | (with_reducible exact LeO.refl _)
      | (with_reducible exact LeO.none _)
      | (with_reducible refine LeO.ite ?_ ?_)
      | (with_reducible refine LeO.bind ?_ (fun _ => ?_))
      | exact ih0 _ _
      | exact impl_upTo.mono _ _ _ _
      | exact impl_withoutEach.mono _ _ _
      | exact LeO.none _
      | refine LeO.ite ?_ ?_
      | refine LeO.bind ?_ (fun _ => ?_)
theorem impl_OwnSteps.mono : ∀ a0 a1 k, LeO (impl_OwnSteps.f k a0 a1) (impl_OwnSteps.f (k + 1) a0 a1) := by
  intro a0 a1 k
  obtain ⟨ih0, ih1⟩ := impl_OwnSteps.mono_l k
  unfold impl_OwnSteps.f
  repeat' first
      | (with_reducible exact ih0 _ _)
      | (with_reducible exact ih1 _ _ _)
      | (with_reducible exact impl_upTo.mono _ _ _ _)
      | (with_reducible exact impl_withoutEach.mono _ _ _)
      | (with_reducible exact LeO.refl _)
      | (with_reducible exact LeO.none _)
      | (with_reducible refine LeO.ite ?_ ?_)
      | (with_reducible refine LeO.bind ?_ (fun _ => ?_))
      | exact ih0 _ _
      | exact ih1 _ _ _
      | exact impl_upTo.mono _ _ _ _
      | exact impl_withoutEach.mono _ _ _
      | exact LeO.none _
      | refine LeO.ite ?_ ?_
      | refine LeO.bind ?_ (fun _ => ?_)
set_option maxHeartbeats 8000000 in
set_option maxRecDepth 100000 in
theorem impl_OwnSteps.loop (k : Nat) (a0 a1 : Int) (r1 : List Int) (r2 : Bool) (w : World) (t : List Int) (H' : impl_OwnSteps.l0 k t 0 = some (r1, r2)) (h2 : ¬ a0 < 2) (h3 : ¬ a0 > 20) (hA : impl_isAnew.f a1 = some true) (hU : impl_upTo.f k a0 a1 1 = some t) :
    Calls Try.prog 37 #[.int .i64 a0, .int .i64 a1] w fun e w' => ∃ v0_ : Value, e = .returned (.tuple #[v0_, .bool r2]) ∧ Kd.R (Kd.int .i64) 3 w' w.heap.size (fun _ => True) v0_ r1 ∧ Below w.heap.size w w' := by
  have HB := Aside0.mk (Below.refl w.heap.size w)
  replace H' := Aside0.mk H'
  replace hA := Aside0.mk hA
  replace hU := Aside0.mk hU
  have c1 : decide (a0 < 2) = false := decide_eq_false h2
  have c2 : decide (20 < a0) = false := decide_eq_false h3
  go_enter Try.func37, Try.ntmps37
  go_wp2_with fail
  refine (impl_isAnew.calls a1 true _ hA.out).mono ?_
  rintro e w' ⟨rfl, ⟨nd, rfl⟩⟩
  go_wp2_with fail
  refine (impl_upTo.calls k a0 a1 1 t _ hU.out).mono ?_
  rintro e w5 ⟨v138, rfl, ho0, hb⟩
  have HO6 := Aside0.mk (Kd.R_lower ho0 (show w.heap.size ≤ (w.drewN nd).heap.size from Nat.le_refl _))
  have HB1 := Aside0.mk (below_step (pw_below_drewN HB.out nd) hb)
  clear ho0 hb HB
  go_wp2_with fail
  go_loopg [6, 7] k (fun kq v6 v7 w' => ∃ (L : List Int) (i : Nat), v7 = .int .i64 (i : Int) ∧ Aside0 (impl_OwnSteps.l0 kq L i = some (r1, r2)) ∧ Aside0 (kq ≤ k) ∧ Aside0 (Kd.R (Kd.int .i64) 3 w' w.heap.size (fun _ => True) v6 L) ∧ Aside0 (Below w.heap.size w w'))
  case atStart => exact ⟨t, 0, rfl, H', ⟨Nat.le_refl _⟩, HO6, HB1⟩
  case round =>
    clear H' HO6 HB1 hU hA
    obtain ⟨L, i, rfl, HA, HK1, HO_6, HB⟩ := hrel
    cases gk with
    | zero => exact absurd HA.out (by simp [impl_OwnSteps.l0])
    | succ k1 =>
      have H := HA.out
      clear HA
      simp only [impl_OwnSteps.l0] at H
      by_cases c6 : (i : Int) < (L.length : Int)
      · rw [if_pos c6, if_pos (by omega)] at H
        replace H := Option.bind_eq_some_iff.mp H
        obtain ⟨q, A70, H⟩ := H
        rw [Int.toNat_natCast] at H A70
        by_cases c7 : (L.take (i + 1)).length + q.length < 17592186044416
        · rw [if_pos c7] at H
          replace H := Aside0.mk H
          replace A7 := Aside0.mk A70
          replace c7 := Aside0.mk c7
          clear A70
          obtain ⟨g, c, rfl, hbg, hgl, _⟩ := Kd.R_form HO_6.out (by omega)
          have hrd := Kd.R_reads' HO_6.out
          have hcm := Kd.C_max hrd.2.2
          have hx : wr.cell? ⟨g, i, none⟩ = some (.int .i64 (rd L (i : Int))) := (Kd.R_cell (d := (0 : Int)) HO_6.out (i : Int) (by omega) (by omega)).1
          have hcc : c ≤ 9223372036854775807 := by
            obtain ⟨_, inner, ⟨_, h⟩, _⟩ := HO_6.out
            rcases h with ⟨h, _⟩ | ⟨g', cap', cur, h, _, _, _, h2, _⟩
            · cases h
            · injection h with _ _ hc
              subst hc
              exact h2
          have hnc := hrd.2.1
          have HC := Aside0.mk hrd.2.2
          have c6b0 : decide ((i : Int) < (L.length : Int)) = true := decide_eq_true c6
          have q0 : (0 : Int) ≤ (i : Int) + 1 := by omega
          have q1 : (i : Int) + 1 ≤ (L.length : Int) := by omega
          have q2 : (i : Int) + 1 ≤ (c : Int) := by omega
          have q3 : i + 1 ≤ c := by omega
          have q4 : i < L.length := by omega
          have hwr : IntKind.i64.wrap ((i : Int) + 1) = (i : Int) + 1 := by rw [IntKind.wrap_i64]; omega
          have hn1 : ((i : Int) + 1).toNat = i + 1 := by omega
          clear hrd hcm
          go_wp2_with fail
          go_region_law (first
            | (refine Kd.R_append_rows_step (Kd.int .i64) (w0 := w) w.heap.size (by simp [Region.wanted]) (.tmp 28) (.tmp 32) 22 3 (.int .i64 0) 8 rfl Try.underlying22 info3 rfl (by decide) (by omega) (.slice (some ⟨wr.heap.size, 0, none⟩) 0 0) ([] : List Int) (L.take (i + 1)) _ _ _ (fun _ => True) (fun _ => False) rfl rfl ?aO ?aR (fun _ _ h => h) (fun _ h => h.elim) ?aF ?aB ?aS ?aL ?_
               (case aO => exact impl_OwnSteps.row_new wr w.heap.size (below_size HB.out))
               (case aR =>
                 have e_ : (L.take (i + 1)).length = i + 1 := by rw [List.length_take]; omega
                 have := Kd.C_drew (Kd.C_alloc (Kd.C_take (m := i + 1) HC.out (by omega)) (.cells #[] 3))
                 rw [e_] at this
                 exact this)
               (case aF => exact fun _ _ => trivial)
               (case aB => exact below_drew (below_alloc HB.out _))
               (case aS => exact below_size (below_drew (below_alloc HB.out (.cells #[] 3))))
               (case aL => have e_ : (L.take (i + 1)).length = i + 1 := by rw [List.length_take]; omega
                           have := c7.out; simp only [List.length_nil]; omega)
               intro v33 w1 ho33 hb1 hg1 hat1
               have hx1 : w1.cell? ⟨g, i, none⟩ = some (.int .i64 (rd L (i : Int))) := cell_grown hg1 (show ((wr.alloc (.cells #[] 3)).drew).cell? ⟨g, i, none⟩ = _ from by exact pw_cell_below (below_drew (below_alloc (Below.refl _ _) _)) hx) (by simp [Value.ownBlock]; omega)
               have HL1 := Aside0.mk (Kd.R_grown (Kd.R_tight rfl (Kd.R_drew (Kd.R_alloc HO_6.out (.cells #[] 3)))) hg1 (fun k_ hk_ => by rw [hk_]; simp [Value.ownBlock]; omega))
               have HO33 := Aside0.mk ho33
               have HB1_ := Aside0.mk hb1
               clear ho33 hb1 hg1 hat1)
            | (refine goes_ Try.func63 (by kernel_rfl) rfl #[.slice (if c = i + 1 then some ⟨g, 0, none⟩ else some ⟨g, i + 1, none⟩) (L.length - (i + 1)) (c - (i + 1)), .int .i64 (rd L (i : Int))] (by simp [Region.wanted]) rfl rfl (by simp only [List.map_toArray, List.map_cons, List.map_nil]; congr) ?_
               have HD1 : Kd.C (Kd.int .i64) w1 (if c = i + 1 then some ⟨g, 0, none⟩ else some ⟨g, i + 1, none⟩) (L.drop (i + 1)).length (L.drop (i + 1)) := by
                 have e_ : (some (⟨g, 0, none⟩ : Addr)).map (·.add ((i + 1) * (Kd.int .i64).sz)) = some ⟨g, i + 1, none⟩ := by show some (Addr.add _ ((i + 1) * 1)) = _; simp [Addr.add]
                 have := Kd.C_drop (m := i + 1) (c := c) (Kd.R_reads' HL1.out).2.2 (by omega) hnc
                 rw [e_] at this
                 exact this
               have e_ : L.length - (i + 1) = (L.drop (i + 1)).length := by rw [List.length_drop]
               rw [e_]
               clear e_
               refine (impl_withoutEach.calls k1 _ _ _ _ q w1 HD1 (by rw [List.length_drop]; omega) A7.out).mono ?_
               rintro e2 w2 ⟨v42, rfl, ho42, hb42⟩
               refine ⟨_, rfl, ?_⟩
               have HO33b := Aside0.mk (Kd.R_below HO33.out hb42)
               obtain ⟨A42, c42, rfl, hl42, hR42⟩ := Kd.R_reads ho42
               have HR42 := Aside0.mk hR42
               have HB2_ := Aside0.mk (below_step HB1_.out hb42)
               clear ho42 hb42 hl42 hR42 HD1)
            | (refine Kd.R_append_rows_step (Kd.int .i64) (w0 := w) w.heap.size (by simp [Region.wanted]) (.tmp 33) (.tmp 42) 22 3 (.int .i64 0) 8 rfl Try.underlying22 info3 rfl (by decide) (by omega) v33 (L.take (i + 1)) q _ _ _ (fun _ => True) (fun _ => False) rfl rfl ?aO ?aR (fun _ _ h => h) (fun _ h => h.elim) ?aF ?aB ?aS ?aL ?_
               (case aO => exact HO33b.out)
               (case aR => exact HR42.out)
               (case aF => exact fun _ _ => trivial)
               (case aB => exact HB2_.out)
               (case aS => exact below_size HB2_.out)
               (case aL => have := c7.out; omega)
               intro v43 w3 ho43 hb43 hg43 hat43
               have HO43 := Aside0.mk ho43
               have HB3_ := Aside0.mk hb43
               clear ho43 hb43 hg43 hat43)
            )
          all_goals go_wp2_with fail
          all_goals (
            go_roundg k1
            case measure => have := HK1.out; omega
            case rel => exact ⟨L.take (i + 1) ++ q, i + 1, (by simp [*]), ⟨by rw [show ((i + 1 : Nat) : Int) = (i : Int) + 1 from by omega]; exact H.out⟩, ⟨by have := HK1.out; omega⟩, HO43, HB3_⟩)
        · rw [if_neg c7] at H; cases H
      · rw [if_neg c6] at H
        have c6b0 : decide ((i : Int) < (L.length : Int)) = false := decide_eq_false c6
        have c6b1 : decide (i < L.length) = false := decide_eq_false (by omega)
        clear c6
        simp only [Option.some.injEq, Prod.mk.injEq] at H
        obtain ⟨rfl, rfl⟩ := H
        obtain ⟨Ao10, co10, eo10⟩ := Kd.R_slice HO_6.out
        subst eo10
        go_wp2
        go_ret2
        exact ⟨_, rfl, HO_6.out, HB.out⟩
set_option maxHeartbeats 8000000 in
set_option maxRecDepth 100000 in
theorem impl_OwnSteps.bad (k : Nat) (a0 a1 : Int) (w : World) (h : a0 < 2 ∨ a0 > 20 ∨ impl_isAnew.f a1 = some false) :
    Calls Try.prog 37 #[.int .i64 a0, .int .i64 a1] w fun e w' => ∃ v0_ : Value, e = .returned (.tuple #[v0_, .bool false]) ∧ Kd.R (Kd.int .i64) 3 w' w.heap.size (fun _ => True) v0_ [] ∧ Below w.heap.size w w' := by
  have HB := Aside0.mk (Below.refl w.heap.size w)
  by_cases h2 : a0 < 2
  · have c1 : decide (a0 < 2) = true := decide_eq_true h2
    clear h
    go_enter Try.func37, Try.ntmps37
    go_wp2
    go_ret2
    exact ⟨_, rfl, Kd.R_nil _ _ _ _ _, by repeat (first | (with_reducible first | exact HB.out | apply below_alloc | apply pw_below_drewN | apply below_drew1) | exact HB.out)⟩
  · have c1 : decide (a0 < 2) = false := decide_eq_false h2
    by_cases h3 : a0 > 20
    · have c2 : decide (20 < a0) = true := decide_eq_true h3
      clear h
      go_enter Try.func37, Try.ntmps37
      go_wp2
      go_ret2
      exact ⟨_, rfl, Kd.R_nil _ _ _ _ _, by repeat (first | (with_reducible first | exact HB.out | apply below_alloc | apply pw_below_drewN | apply below_drew1) | exact HB.out)⟩
    · have c2 : decide (20 < a0) = false := decide_eq_false h3
      have hA := Aside0.mk (show impl_isAnew.f a1 = some false from by rcases h with h | h | h; exact absurd h h2; exact absurd h h3; exact h)
      clear h
      go_enter Try.func37, Try.ntmps37
      go_wp2_with fail
      refine (impl_isAnew.calls a1 false _ hA.out).mono ?_
      rintro e w' ⟨rfl, ⟨nd, rfl⟩⟩
      go_wp2
      go_ret2
      exact ⟨_, rfl, Kd.R_nil _ _ _ _ _, by repeat (first | (with_reducible first | exact HB.out | apply below_alloc | apply pw_below_drewN | apply below_drew1) | exact HB.out)⟩
theorem impl_OwnSteps.calls (k : Nat) (a0 : Int) (a1 : Int) (r1 : List Int) (r2 : Bool) (w : World) (h : impl_OwnSteps.f k a0 a1 = some (r1, r2)) :
    Calls Try.prog 37 #[.int .i64 a0, .int .i64 a1] w fun e w' => ∃ v0_ : Value, e = .returned (.tuple #[v0_, .bool r2]) ∧ Kd.R (Kd.int .i64) 3 w' w.heap.size (fun _ => True) v0_ r1 ∧ Below w.heap.size w w' := by
  unfold impl_OwnSteps.f at h
  have hb : ∀ b, b = true → impl_OwnSteps.j0 k a0 a1 b = some (r1, r2) → r1 = [] ∧ r2 = false := by
    intro b hb h
    cases k with
    | zero => simp [impl_OwnSteps.j0] at h
    | succ k => simp [impl_OwnSteps.j0, hb] at h; first | exact h | exact ⟨h.1.symm, h.2.symm⟩
  by_cases h2 : a0 < 2
  · rw [if_pos h2] at h
    obtain ⟨rfl, rfl⟩ := hb _ rfl h
    exact impl_OwnSteps.bad k a0 a1 w (.inl h2)
  · rw [if_neg h2] at h
    by_cases h3 : a0 > 20
    · rw [if_pos h3] at h
      obtain ⟨rfl, rfl⟩ := hb _ rfl h
      exact impl_OwnSteps.bad k a0 a1 w (.inr (.inl h3))
    · rw [if_neg h3] at h
      obtain ⟨t, hA, h⟩ := Option.bind_eq_some_iff.mp h
      cases t with
      | false =>
        obtain ⟨rfl, rfl⟩ := hb _ rfl h
        exact impl_OwnSteps.bad k a0 a1 w (.inr (.inr hA))
      | true =>
        cases k with
        | zero => simp [impl_OwnSteps.j0] at h
        | succ k =>
          simp only [impl_OwnSteps.j0, Bool.not_true, Bool.false_eq_true, if_false] at h
          obtain ⟨t, hU, h⟩ := Option.bind_eq_some_iff.mp h
          exact impl_OwnSteps.loop k a0 a1 r1 r2 w t h h2 h3 hA hU

/-! ### spec_l1Own: function 68 -/
def spec_l1Own.f (l0 : List Int) : Option (List Int) := (some (([] : List Int) : List Int)).bind fun y274 => (if y274.length + l0.length < 17592186044416 then (some (y274 ++ l0)) else (none))
set_option maxHeartbeats 8000000 in
set_option maxRecDepth 100000 in
theorem spec_l1Own.calls (A0 : Option Addr) (c0 : Nat) (l0 : List Int) (r : List Int) (w : World) (hr0 : Kd.C (Kd.int .i64) w A0 l0.length l0) (hc0 : l0.length ≤ c0) (h : spec_l1Own.f l0 = some r) :
    Calls Try.prog 68 #[.slice A0 l0.length c0] w fun e w' => ∃ v0_ : Value, e = .returned (v0_) ∧ Kd.R (Kd.int .i64) 3 w' w.heap.size (fun _ => True) v0_ r ∧ Below w.heap.size w w' := by
  have HR0 := Aside0.mk hr0
  have HC0 := Aside0.mk hc0
  clear hr0 hc0
  have HB := Aside0.mk (Below.refl w.heap.size w)
  have H : ((some (([] : List Int) : List Int)).bind fun y274 => (if y274.length + l0.length < 17592186044416 then (some (y274 ++ l0)) else (none))) = some r := h
  clear h
  obtain ⟨y274, hy274⟩ : ∃ y_ : List Int, y_ = (([] : List Int)) := ⟨_, rfl⟩
  replace H : (if y274.length + l0.length < 17592186044416 then (some (y274 ++ l0)) else (none)) = some r := by first | (rw [hy274]; with_reducible exact H) | (have H2_ := (Option.bind_some _ _).symm.trans H; rw [hy274]; with_reducible exact H2_) | (have H2_ := (Option.bind_some _ _).symm.trans H; with_reducible exact H2_) | with_reducible exact H | (rw [hy274]; exact H) | exact H
  have Ny274 := Aside0.mk hy274
  clear hy274
  by_cases c2 : y274.length + l0.length < 17592186044416
  · rw [if_pos c2] at H
    have LMc2 := Aside0.mk c2
    clear c2
    obtain ⟨y277, hy277⟩ : ∃ y_ : List Int, y_ = (y274 ++ l0) := ⟨_, rfl⟩
    replace H : (some y277) = some r := by first | (rw [hy277]; with_reducible exact H) | (have H2_ := (Option.bind_some _ _).symm.trans H; rw [hy277]; with_reducible exact H2_) | (have H2_ := (Option.bind_some _ _).symm.trans H; with_reducible exact H2_) | with_reducible exact H | (rw [hy277]; exact H) | exact H
    have Ny277 := Aside0.mk hy277
    clear hy277
    obtain rfl := Option.some.inj H
    go_enter Try.func68, Try.ntmps68
    go_wp2_with (first | ((with_reducible refine gate_dst (N := 3) rfl ?_); refine Kd.R_lit (Kd.int .i64) _ 3 ?hg (N := 3) ?hd (xs := ([] : List Int)) (inner := []) (ok := fun _ => True) (okp := fun _ => True) ?hr ?hp (fun _ hk => hk) trivial (Below.refl _ _) (Nat.le_refl _) (by simp) ?_; (case hd => rfl); (case hg => rfl); (case hr => first | (go_simp; done) | (go_simp; rfl)); (case hp => exact (Reps.none _ _)); intro v275 w3 ho4 hb hg_ hnew_; clear hg_ hnew_; (first | rw [← Ny274.out] at ho4 | (simp only [Int.reduceToNat] at ho4; rw [← Ny274.out] at ho4)); have n0_ := Aside0.mk (Kd.R_lower ho4 (below_size (by repeat (first | (with_reducible first | exact HB.out | apply below_alloc | apply pw_below_drewN | apply below_drew1) | exact HB.out)))); have n1_ := Aside0.mk (below_step (by repeat (first | (with_reducible first | exact HB.out | apply below_alloc | apply pw_below_drewN | apply below_drew1) | exact HB.out)) hb); clear HB; have HO276 := n0_; have HB := n1_; clear n0_ n1_; clear hb ho4) | ((with_reducible refine gate_builtin (b := .append) (xs := #[.tmp 3, .tmp 4]) rfl ?_); at_builtin; refine Kd.R_append_rows (Kd.int .i64) (w0 := w) w.heap.size rfl (.tmp 3) (.tmp 4) 22 3 (.int .i64 0) 8 rfl Try.underlying22 info3 rfl (by decide) (by omega) v275 y274 l0 _ _ _ (fun _ => True) (fun _ => False) rfl rfl ?aO ?aR (fun _ _ h => h) (fun _ h => h.elim) ?aF ?aB ?aS ?aL ?_; (case aR => repeat (first | exact (Kd.C_below HR0.out HB.out) | (with_reducible refine Kd.C_alloc ?_ _) | (with_reducible refine Kd.C_drewN ?_ _) | (with_reducible refine Kd.C_drew ?_))); (case aB => exact (by repeat (first | (with_reducible first | exact HB.out | apply below_alloc | apply pw_below_drewN | apply below_drew1) | exact HB.out))); (case aF => exact (fun _ _ => trivial)); (case aO => exact (by (with_reducible repeat (first | apply Kd.R_alloc | apply Kd.R_drewN | apply Kd.R_drew)); exact HO276.out)); (case aS => exact (below_size (by repeat (first | (with_reducible first | exact HB.out | apply below_alloc | apply pw_below_drewN | apply below_drew1) | exact HB.out)))); (case aL => have := LMc2.out; omega); intro v278 w5 ho hb hg hat; rw [← Ny277.out] at ho; have n0_ := Aside0.mk (hb); have n1_ := Aside0.mk (ho); clear HB; clear HO276; have HB := n0_; have HO279 := n1_; clear n0_ n1_; clear ho hb hg hat))
    go_ret
    exact ⟨_, by first | rfl | (simp [errW_none, errW_some] <;> rfl) | (simp [*, errW_none, errW_some] <;> rfl), by (with_reducible repeat (first | apply Kd.R_alloc | apply Kd.R_drewN | apply Kd.R_drew)); exact HO279.out, by repeat (first | (with_reducible first | exact HB.out | apply below_alloc | apply pw_below_drewN | apply below_drew1) | exact HB.out)⟩
  · rw [if_neg c2] at H
    exact absurd H (by simp)

end Go.Proofs.Ytnhlhfkpkpbekaa.PFnLuckyNumbers
