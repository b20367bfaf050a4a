-- Written by a turned copy of the printer, for this claim
import Derived.Test.YtapcnidappknnaaPFnExactOwnStepsx0
import Derived.Test.YtapcnidappknnaaPFnExactOwnStepsx1
import Derived.Test.YtapcnidappknnaaPFnExactOwnStepsx2
namespace Go.Proofs.Ytapcnidappknnaa.PFnExactOwnSteps
open Go.RowKit Go.Proofs.YtapcnidappknnaaW.PrintWords Go.Proofs.YtapcnidappknnaaW.PrintLast Go.Proofs.YtapcnidappknnaaW.PrintMore
attribute [local go_sem] max2_int min2_int max_two min_two max_three min_three max_four min_four   -- for this text's walks alone
set_option linter.unusedVariables false
set_option linter.unusedSimpArgs false

/-! ### impl_OwnSteps: function 34 -/
/-- A new row without elements. -/
theorem impl_OwnSteps.row_new (W : World) (base : Nat) (h : base ≤ W.heap.size) : Kd.R (Kd.int .i64) 3 (W.alloc (.cells #[] 3)).drew base (fun _ => True) (.slice (some ⟨W.heap.size, 0, none⟩) 0 0) ([] : List Int) := by
  refine Kd.R_drew ⟨fun _ _ => trivial, [], ⟨rfl, .inr ⟨W.heap.size, 0, #[], rfl, h, ?_, Nat.le_refl _, Nat.zero_le _, rfl, rfl⟩⟩, Reps.none _ _⟩
  exact heap_alloc_new W _
def impl_OwnSteps.l0 : Nat → List Int → Int → Option (List Int × Bool)
  | 0, _, _ => none
  | k + 1, x6, x7 => if x7 < (x6.length : Int) then (if 0 ≤ x7 then ((impl_withoutEach.f k (x6.drop (x7.toNat + 1)) (rd x6 x7)).bind fun t => (if (x6.take (x7.toNat + 1)).length + t.length < 17592186044416 then (impl_OwnSteps.l0 k (x6.take (x7.toNat + 1) ++ t) (x7 + 1)) else none)) else none) else some (x6, true)
def impl_OwnSteps.j0 : Nat → Int → Int → Bool → Option (List Int × Bool)
  | 0, _, _, _ => none
  | k + 1, x0, x1, b => if b = true then some ([], false) else ((impl_upTo.f k x0 x1 1).bind fun t => impl_OwnSteps.l0 k t 0)
def impl_OwnSteps.f (k : Nat) (a0 : Int) (a1 : Int) : Option (List Int × Bool) := if a0 < 2 then impl_OwnSteps.j0 k a0 a1 true else (if a0 > 20 then impl_OwnSteps.j0 k a0 a1 true else ((impl_isAnew.f a1).bind fun t => impl_OwnSteps.j0 k a0 a1 (!t)))
theorem impl_OwnSteps.mono_l : ∀ k, (∀ y0 y1, LeO (impl_OwnSteps.l0 k y0 y1) (impl_OwnSteps.l0 (k + 1) y0 y1)) ∧ (∀ y0 y1 y2, LeO (impl_OwnSteps.j0 k y0 y1 y2) (impl_OwnSteps.j0 (k + 1) y0 y1 y2))
  | 0 => ⟨fun _ _ r h => by simp [impl_OwnSteps.l0] at h, fun _ _ _ r h => by simp [impl_OwnSteps.j0] at h⟩
  | k + 1 => by
    obtain ⟨ih0, ih1⟩ := impl_OwnSteps.mono_l k
    refine ⟨?_, ?_⟩
    · intro y0 y1
      unfold impl_OwnSteps.l0
      repeat' first
      | (with_reducible exact ih0 _ _)
      | (with_reducible exact impl_upTo.mono _ _ _ _)
      | (with_reducible exact impl_withoutEach.mono _ _ _)
      | (with_reducible exact LeO.refl _)
      | (with_reducible exact LeO.none _)
      | (with_reducible refine LeO.ite ?_ ?_)
      | (with_reducible refine LeO.bind ?_ (fun _ => ?_))
      | exact ih0 _ _
      | exact impl_upTo.mono _ _ _ _
      | exact impl_withoutEach.mono _ _ _
      | exact LeO.none _
      | refine LeO.ite ?_ ?_
      | refine LeO.bind ?_ (fun _ => ?_)
    · intro y0 y1 y2
      unfold impl_OwnSteps.j0
      repeat' first
      | (with_reducible exact ih0 _ _)
      | (with_reducible exact impl_upTo.mono _ _ _ _)
      | (with_reducible exact impl_withoutEach.mono _ _ _)
      | (with_reducible exact LeO.refl _)
      | (with_reducible exact LeO.none _)
      | (with_reducible refine LeO.ite ?_ ?_)
      | (with_reducible refine LeO.bind ?_ (fun _ => ?_))
      | exact ih0 _ _
      | exact impl_upTo.mono _ _ _ _
      | exact impl_withoutEach.mono _ _ _
      | exact LeO.none _
      | refine LeO.ite ?_ ?_
      | refine LeO.bind ?_ (fun _ => ?_)
theorem impl_OwnSteps.mono : ∀ a0 a1 k, LeO (impl_OwnSteps.f k a0 a1) (impl_OwnSteps.f (k + 1) a0 a1) := by
  intro a0 a1 k
  obtain ⟨ih0, ih1⟩ := impl_OwnSteps.mono_l k
  unfold impl_OwnSteps.f
  repeat' first
      | (with_reducible exact ih0 _ _)
      | (with_reducible exact ih1 _ _ _)
      | (with_reducible exact impl_upTo.mono _ _ _ _)
      | (with_reducible exact impl_withoutEach.mono _ _ _)
      | (with_reducible exact LeO.refl _)
      | (with_reducible exact LeO.none _)
      | (with_reducible refine LeO.ite ?_ ?_)
      | (with_reducible refine LeO.bind ?_ (fun _ => ?_))
      | exact ih0 _ _
      | exact ih1 _ _ _
      | exact impl_upTo.mono _ _ _ _
      | exact impl_withoutEach.mono _ _ _
      | exact LeO.none _
      | refine LeO.ite ?_ ?_
      | refine LeO.bind ?_ (fun _ => ?_)
set_option maxHeartbeats 8000000 in
set_option maxRecDepth 100000 in
theorem impl_OwnSteps.loop (k : Nat) (a0 a1 : Int) (r1 : List Int) (r2 : Bool) (w : World) (t : List Int) (H' : impl_OwnSteps.l0 k t 0 = some (r1, r2)) (h2 : ¬ a0 < 2) (h3 : ¬ a0 > 20) (hA : impl_isAnew.f a1 = some true) (hU : impl_upTo.f k a0 a1 1 = some t) :
    Calls Try.prog 34 #[.int .i64 a0, .int .i64 a1] w fun e w' => ∃ v0_ : Value, e = .returned (.tuple #[v0_, .bool r2]) ∧ Kd.R (Kd.int .i64) 3 w' w.heap.size (fun _ => True) v0_ r1 ∧ Below w.heap.size w w' := by
  have HB := Aside0.mk (Below.refl w.heap.size w)
  replace H' := Aside0.mk H'
  replace hA := Aside0.mk hA
  replace hU := Aside0.mk hU
  have c1 : decide (a0 < 2) = false := decide_eq_false h2
  have c2 : decide (20 < a0) = false := decide_eq_false h3
  go_enter Try.func34, Try.ntmps34
  go_wp2_with fail
  refine (impl_isAnew.calls a1 true _ hA.out).mono ?_
  rintro e w' ⟨rfl, ⟨nd, rfl⟩⟩
  go_wp2_with fail
  refine (impl_upTo.calls k a0 a1 1 t _ hU.out).mono ?_
  rintro e w5 ⟨v138, rfl, ho0, hb⟩
  have HO6 := Aside0.mk (Kd.R_lower ho0 (show w.heap.size ≤ (w.drewN nd).heap.size from Nat.le_refl _))
  have HB1 := Aside0.mk (below_step (pw_below_drewN HB.out nd) hb)
  clear ho0 hb HB
  go_wp2_with fail
  go_loopg [6, 7] k (fun kq v6 v7 w' => ∃ (L : List Int) (i : Nat), v7 = .int .i64 (i : Int) ∧ Aside0 (impl_OwnSteps.l0 kq L i = some (r1, r2)) ∧ Aside0 (kq ≤ k) ∧ Aside0 (Kd.R (Kd.int .i64) 3 w' w.heap.size (fun _ => True) v6 L) ∧ Aside0 (Below w.heap.size w w'))
  case atStart => exact ⟨t, 0, rfl, H', ⟨Nat.le_refl _⟩, HO6, HB1⟩
  case round =>
    clear H' HO6 HB1 hU hA
    obtain ⟨L, i, rfl, HA, HK1, HO_6, HB⟩ := hrel
    cases gk with
    | zero => exact absurd HA.out (by simp [impl_OwnSteps.l0])
    | succ k1 =>
      have H := HA.out
      clear HA
      simp only [impl_OwnSteps.l0] at H
      by_cases c6 : (i : Int) < (L.length : Int)
      · rw [if_pos c6, if_pos (by omega)] at H
        replace H := Option.bind_eq_some_iff.mp H
        obtain ⟨q, A70, H⟩ := H
        rw [Int.toNat_natCast] at H A70
        by_cases c7 : (L.take (i + 1)).length + q.length < 17592186044416
        · rw [if_pos c7] at H
          replace H := Aside0.mk H
          replace A7 := Aside0.mk A70
          replace c7 := Aside0.mk c7
          clear A70
          obtain ⟨g, c, rfl, hbg, hgl, _⟩ := Kd.R_form HO_6.out (by omega)
          have hrd := Kd.R_reads' HO_6.out
          have hcm := Kd.C_max hrd.2.2
          have hx : wr.cell? ⟨g, i, none⟩ = some (.int .i64 (rd L (i : Int))) := (Kd.R_cell (d := (0 : Int)) HO_6.out (i : Int) (by omega) (by omega)).1
          have hcc : c ≤ 9223372036854775807 := by
            obtain ⟨_, inner, ⟨_, h⟩, _⟩ := HO_6.out
            rcases h with ⟨h, _⟩ | ⟨g', cap', cur, h, _, _, _, h2, _⟩
            · cases h
            · injection h with _ _ hc
              subst hc
              exact h2
          have hnc := hrd.2.1
          have HC := Aside0.mk hrd.2.2
          have c6b0 : decide ((i : Int) < (L.length : Int)) = true := decide_eq_true c6
          have q0 : (0 : Int) ≤ (i : Int) + 1 := by omega
          have q1 : (i : Int) + 1 ≤ (L.length : Int) := by omega
          have q2 : (i : Int) + 1 ≤ (c : Int) := by omega
          have q3 : i + 1 ≤ c := by omega
          have q4 : i < L.length := by omega
          have hwr : IntKind.i64.wrap ((i : Int) + 1) = (i : Int) + 1 := by rw [IntKind.wrap_i64]; omega
          have hn1 : ((i : Int) + 1).toNat = i + 1 := by omega
          clear hrd hcm
          go_wp2_with fail
          go_region_law (first
            | (refine Kd.R_append_rows_step (Kd.int .i64) (w0 := w) w.heap.size (by simp [Region.wanted]) (.tmp 28) (.tmp 32) 22 3 (.int .i64 0) 8 rfl Try.underlying22 info3 rfl (by decide) (by omega) (.slice (some ⟨wr.heap.size, 0, none⟩) 0 0) ([] : List Int) (L.take (i + 1)) _ _ _ (fun _ => True) (fun _ => False) rfl rfl ?aO ?aR (fun _ _ h => h) (fun _ h => h.elim) ?aF ?aB ?aS ?aL ?_
               (case aO => exact impl_OwnSteps.row_new wr w.heap.size (below_size HB.out))
               (case aR =>
                 have e_ : (L.take (i + 1)).length = i + 1 := by rw [List.length_take]; omega
                 have := Kd.C_drew (Kd.C_alloc (Kd.C_take (m := i + 1) HC.out (by omega)) (.cells #[] 3))
                 rw [e_] at this
                 exact this)
               (case aF => exact fun _ _ => trivial)
               (case aB => exact below_drew (below_alloc HB.out _))
               (case aS => exact below_size (below_drew (below_alloc HB.out (.cells #[] 3))))
               (case aL => have e_ : (L.take (i + 1)).length = i + 1 := by rw [List.length_take]; omega
                           have := c7.out; simp only [List.length_nil]; omega)
               intro v33 w1 ho33 hb1 hg1 hat1
               have hx1 : w1.cell? ⟨g, i, none⟩ = some (.int .i64 (rd L (i : Int))) := cell_grown hg1 (show ((wr.alloc (.cells #[] 3)).drew).cell? ⟨g, i, none⟩ = _ from by exact pw_cell_below (below_drew (below_alloc (Below.refl _ _) _)) hx) (by simp [Value.ownBlock]; omega)
               have HL1 := Aside0.mk (Kd.R_grown (Kd.R_tight rfl (Kd.R_drew (Kd.R_alloc HO_6.out (.cells #[] 3)))) hg1 (fun k_ hk_ => by rw [hk_]; simp [Value.ownBlock]; omega))
               have HO33 := Aside0.mk ho33
               have HB1_ := Aside0.mk hb1
               clear ho33 hb1 hg1 hat1)
            | (refine goes_ Try.func57 (by kernel_rfl) rfl #[.slice (if c = i + 1 then some ⟨g, 0, none⟩ else some ⟨g, i + 1, none⟩) (L.length - (i + 1)) (c - (i + 1)), .int .i64 (rd L (i : Int))] (by simp [Region.wanted]) rfl rfl (by simp only [List.map_toArray, List.map_cons, List.map_nil]; congr) ?_
               have HD1 : Kd.C (Kd.int .i64) w1 (if c = i + 1 then some ⟨g, 0, none⟩ else some ⟨g, i + 1, none⟩) (L.drop (i + 1)).length (L.drop (i + 1)) := by
                 have e_ : (some (⟨g, 0, none⟩ : Addr)).map (·.add ((i + 1) * (Kd.int .i64).sz)) = some ⟨g, i + 1, none⟩ := by show some (Addr.add _ ((i + 1) * 1)) = _; simp [Addr.add]
                 have := Kd.C_drop (m := i + 1) (c := c) (Kd.R_reads' HL1.out).2.2 (by omega) hnc
                 rw [e_] at this
                 exact this
               have e_ : L.length - (i + 1) = (L.drop (i + 1)).length := by rw [List.length_drop]
               rw [e_]
               clear e_
               refine (impl_withoutEach.calls k1 _ _ _ _ q w1 HD1 (by rw [List.length_drop]; omega) A7.out).mono ?_
               rintro e2 w2 ⟨v42, rfl, ho42, hb42⟩
               refine ⟨_, rfl, ?_⟩
               have HO33b := Aside0.mk (Kd.R_below HO33.out hb42)
               obtain ⟨A42, c42, rfl, hl42, hR42⟩ := Kd.R_reads ho42
               have HR42 := Aside0.mk hR42
               have HB2_ := Aside0.mk (below_step HB1_.out hb42)
               clear ho42 hb42 hl42 hR42 HD1)
            | (refine Kd.R_append_rows_step (Kd.int .i64) (w0 := w) w.heap.size (by simp [Region.wanted]) (.tmp 33) (.tmp 42) 22 3 (.int .i64 0) 8 rfl Try.underlying22 info3 rfl (by decide) (by omega) v33 (L.take (i + 1)) q _ _ _ (fun _ => True) (fun _ => False) rfl rfl ?aO ?aR (fun _ _ h => h) (fun _ h => h.elim) ?aF ?aB ?aS ?aL ?_
               (case aO => exact HO33b.out)
               (case aR => exact HR42.out)
               (case aF => exact fun _ _ => trivial)
               (case aB => exact HB2_.out)
               (case aS => exact below_size HB2_.out)
               (case aL => have := c7.out; omega)
               intro v43 w3 ho43 hb43 hg43 hat43
               have HO43 := Aside0.mk ho43
               have HB3_ := Aside0.mk hb43
               clear ho43 hb43 hg43 hat43)
            )
          all_goals go_wp2_with fail
          all_goals (
            go_roundg k1
            case measure => have := HK1.out; omega
            case rel => exact ⟨L.take (i + 1) ++ q, i + 1, (by simp [*]), ⟨by rw [show ((i + 1 : Nat) : Int) = (i : Int) + 1 from by omega]; exact H.out⟩, ⟨by have := HK1.out; omega⟩, HO43, HB3_⟩)
        · rw [if_neg c7] at H; cases H
      · rw [if_neg c6] at H
        have c6b0 : decide ((i : Int) < (L.length : Int)) = false := decide_eq_false c6
        have c6b1 : decide (i < L.length) = false := decide_eq_false (by omega)
        clear c6
        simp only [Option.some.injEq, Prod.mk.injEq] at H
        obtain ⟨rfl, rfl⟩ := H
        obtain ⟨Ao10, co10, eo10⟩ := Kd.R_slice HO_6.out
        subst eo10
        go_wp2
        go_ret2
        exact ⟨_, rfl, HO_6.out, HB.out⟩
set_option maxHeartbeats 8000000 in
set_option maxRecDepth 100000 in
theorem impl_OwnSteps.bad (k : Nat) (a0 a1 : Int) (w : World) (h : a0 < 2 ∨ a0 > 20 ∨ impl_isAnew.f a1 = some false) :
    Calls Try.prog 34 #[.int .i64 a0, .int .i64 a1] w fun e w' => ∃ v0_ : Value, e = .returned (.tuple #[v0_, .bool false]) ∧ Kd.R (Kd.int .i64) 3 w' w.heap.size (fun _ => True) v0_ [] ∧ Below w.heap.size w w' := by
  have HB := Aside0.mk (Below.refl w.heap.size w)
  by_cases h2 : a0 < 2
  · have c1 : decide (a0 < 2) = true := decide_eq_true h2
    clear h
    go_enter Try.func34, Try.ntmps34
    go_wp2
    go_ret2
    exact ⟨_, rfl, Kd.R_nil _ _ _ _ _, by repeat (first | (with_reducible first | exact HB.out | apply below_alloc | apply pw_below_drewN | apply below_drew1) | exact HB.out)⟩
  · have c1 : decide (a0 < 2) = false := decide_eq_false h2
    by_cases h3 : a0 > 20
    · have c2 : decide (20 < a0) = true := decide_eq_true h3
      clear h
      go_enter Try.func34, Try.ntmps34
      go_wp2
      go_ret2
      exact ⟨_, rfl, Kd.R_nil _ _ _ _ _, by repeat (first | (with_reducible first | exact HB.out | apply below_alloc | apply pw_below_drewN | apply below_drew1) | exact HB.out)⟩
    · have c2 : decide (20 < a0) = false := decide_eq_false h3
      have hA := Aside0.mk (show impl_isAnew.f a1 = some false from by rcases h with h | h | h; exact absurd h h2; exact absurd h h3; exact h)
      clear h
      go_enter Try.func34, Try.ntmps34
      go_wp2_with fail
      refine (impl_isAnew.calls a1 false _ hA.out).mono ?_
      rintro e w' ⟨rfl, ⟨nd, rfl⟩⟩
      go_wp2
      go_ret2
      exact ⟨_, rfl, Kd.R_nil _ _ _ _ _, by repeat (first | (with_reducible first | exact HB.out | apply below_alloc | apply pw_below_drewN | apply below_drew1) | exact HB.out)⟩
theorem impl_OwnSteps.calls (k : Nat) (a0 : Int) (a1 : Int) (r1 : List Int) (r2 : Bool) (w : World) (h : impl_OwnSteps.f k a0 a1 = some (r1, r2)) :
    Calls Try.prog 34 #[.int .i64 a0, .int .i64 a1] w fun e w' => ∃ v0_ : Value, e = .returned (.tuple #[v0_, .bool r2]) ∧ Kd.R (Kd.int .i64) 3 w' w.heap.size (fun _ => True) v0_ r1 ∧ Below w.heap.size w w' := by
  unfold impl_OwnSteps.f at h
  have hb : ∀ b, b = true → impl_OwnSteps.j0 k a0 a1 b = some (r1, r2) → r1 = [] ∧ r2 = false := by
    intro b hb h
    cases k with
    | zero => simp [impl_OwnSteps.j0] at h
    | succ k => simp [impl_OwnSteps.j0, hb] at h; first | exact h | exact ⟨h.1.symm, h.2.symm⟩
  by_cases h2 : a0 < 2
  · rw [if_pos h2] at h
    obtain ⟨rfl, rfl⟩ := hb _ rfl h
    exact impl_OwnSteps.bad k a0 a1 w (.inl h2)
  · rw [if_neg h2] at h
    by_cases h3 : a0 > 20
    · rw [if_pos h3] at h
      obtain ⟨rfl, rfl⟩ := hb _ rfl h
      exact impl_OwnSteps.bad k a0 a1 w (.inr (.inl h3))
    · rw [if_neg h3] at h
      obtain ⟨t, hA, h⟩ := Option.bind_eq_some_iff.mp h
      cases t with
      | false =>
        obtain ⟨rfl, rfl⟩ := hb _ rfl h
        exact impl_OwnSteps.bad k a0 a1 w (.inr (.inr hA))
      | true =>
        cases k with
        | zero => simp [impl_OwnSteps.j0] at h
        | succ k =>
          simp only [impl_OwnSteps.j0, Bool.not_true, Bool.false_eq_true, if_false] at h
          obtain ⟨t, hU, h⟩ := Option.bind_eq_some_iff.mp h
          exact impl_OwnSteps.loop k a0 a1 r1 r2 w t h h2 h3 hA hU

/-! ### laws_FnExactOwnSteps: function 10 -/
mutual
def laws_FnExactOwnSteps.j0 : Nat → Int → Int → List Int → Bool → List Int → Bool → Option (Bool)
  | 0, _, _, _, _, _, _ => none
  | k + 1, x0, x1, x5, x6, x7, x33 => if x33 = true then (some false) else ((laws_markIntS.f k x7 1).bind fun bt164 => ((laws_heldIntS.f k bt164.2 1).bind fun t166 => (if t166 < 0 then (some false) else (if t166 = bt164.1 then ((impl_OwnSteps.f k x0 x1).bind fun bt167 => ((laws_eqIntS.f k bt167.1 x5).bind fun t171 => (if t171 = true then (laws_FnExactOwnSteps.j1 k bt164.2 bt164.1 (bt167.2 != x6)) else (laws_FnExactOwnSteps.j1 k bt164.2 bt164.1 true)))) else (some false)))))
def laws_FnExactOwnSteps.j1 : Nat → List Int → Int → Bool → Option (Bool)
  | 0, _, _, _ => none
  | k + 1, x7, x9, x59 => if x59 = true then (some false) else ((laws_heldIntS.f k x7 1).bind fun t172 => (if t172 < 0 then (some false) else (if t172 = x9 then (some true) else (some false))))
end
def laws_FnExactOwnSteps.f (k : Nat) (a0 : Int) (a1 : Int) : Option (Bool) := (spec_OwnSteps.f k a0 a1).bind fun bt155 => ((impl_OwnSteps.f k a0 a1).bind fun bt159 => ((laws_eqIntS.f k bt159.1 bt155.1).bind fun t163 => (if t163 = true then (laws_FnExactOwnSteps.j0 k a0 a1 bt155.1 bt155.2 bt159.1 (bt159.2 != bt155.2)) else (laws_FnExactOwnSteps.j0 k a0 a1 bt155.1 bt155.2 bt159.1 true))))
theorem laws_FnExactOwnSteps.mono_l : ∀ k, (∀ y0 y1 y2 y3 y4 y5, LeO (laws_FnExactOwnSteps.j0 k y0 y1 y2 y3 y4 y5) (laws_FnExactOwnSteps.j0 (k + 1) y0 y1 y2 y3 y4 y5)) ∧ (∀ y0 y1 y2, LeO (laws_FnExactOwnSteps.j1 k y0 y1 y2) (laws_FnExactOwnSteps.j1 (k + 1) y0 y1 y2))
  | 0 => ⟨fun _ _ _ _ _ _ r h => by simp [laws_FnExactOwnSteps.j0] at h, fun _ _ _ r h => by simp [laws_FnExactOwnSteps.j1] at h⟩
  | k + 1 => by
    obtain ⟨ih0, ih1⟩ := laws_FnExactOwnSteps.mono_l k
    refine ⟨?_, ?_⟩
    · intro y0 y1 y2 y3 y4 y5
      unfold laws_FnExactOwnSteps.j0
      repeat' first
      | (with_reducible exact ih0 _ _ _ _ _ _)
      | (with_reducible exact ih1 _ _ _)
      | (with_reducible exact impl_OwnSteps.mono _ _ _)
      | (with_reducible exact laws_eqIntS.mono _ _ _)
      | (with_reducible exact laws_heldIntS.mono _ _ _)
      | (with_reducible exact laws_markIntS.mono _ _ _)
      | (with_reducible exact spec_OwnSteps.mono _ _ _)
      | (with_reducible exact LeO.refl _)
      | (with_reducible exact LeO.none _)
      | (with_reducible refine LeO.ite ?_ ?_)
      | (with_reducible refine LeO.bind ?_ (fun _ => ?_))
      | exact ih0 _ _ _ _ _ _
      | exact ih1 _ _ _
      | exact impl_OwnSteps.mono _ _ _
      | exact laws_eqIntS.mono _ _ _
      | exact laws_heldIntS.mono _ _ _
      | exact laws_markIntS.mono _ _ _
      | exact spec_OwnSteps.mono _ _ _
      | exact LeO.none _
      | refine LeO.ite ?_ ?_
      | refine LeO.bind ?_ (fun _ => ?_)
    · intro y0 y1 y2
      unfold laws_FnExactOwnSteps.j1
      repeat' first
      | (with_reducible exact ih0 _ _ _ _ _ _)
      | (with_reducible exact ih1 _ _ _)
      | (with_reducible exact impl_OwnSteps.mono _ _ _)
      | (with_reducible exact laws_eqIntS.mono _ _ _)
      | (with_reducible exact laws_heldIntS.mono _ _ _)
      | (with_reducible exact laws_markIntS.mono _ _ _)
      | (with_reducible exact spec_OwnSteps.mono _ _ _)
      | (with_reducible exact LeO.refl _)
      | (with_reducible exact LeO.none _)
      | (with_reducible refine LeO.ite ?_ ?_)
      | (with_reducible refine LeO.bind ?_ (fun _ => ?_))
      | exact ih0 _ _ _ _ _ _
      | exact ih1 _ _ _
      | exact impl_OwnSteps.mono _ _ _
      | exact laws_eqIntS.mono _ _ _
      | exact laws_heldIntS.mono _ _ _
      | exact laws_markIntS.mono _ _ _
      | exact spec_OwnSteps.mono _ _ _
      | exact LeO.none _
      | refine LeO.ite ?_ ?_
      | refine LeO.bind ?_ (fun _ => ?_)
theorem laws_FnExactOwnSteps.mono : ∀ a0 a1 k, LeO (laws_FnExactOwnSteps.f k a0 a1) (laws_FnExactOwnSteps.f (k + 1) a0 a1) := by
  intro a0 a1 k
  obtain ⟨ih0, ih1⟩ := laws_FnExactOwnSteps.mono_l k
  unfold laws_FnExactOwnSteps.f
  repeat' first
      | (with_reducible exact ih0 _ _ _ _ _ _)
      | (with_reducible exact ih1 _ _ _)
      | (with_reducible exact impl_OwnSteps.mono _ _ _)
      | (with_reducible exact laws_eqIntS.mono _ _ _)
      | (with_reducible exact laws_heldIntS.mono _ _ _)
      | (with_reducible exact laws_markIntS.mono _ _ _)
      | (with_reducible exact spec_OwnSteps.mono _ _ _)
      | (with_reducible exact LeO.refl _)
      | (with_reducible exact LeO.none _)
      | (with_reducible refine LeO.ite ?_ ?_)
      | (with_reducible refine LeO.bind ?_ (fun _ => ?_))
      | exact ih0 _ _ _ _ _ _
      | exact ih1 _ _ _
      | exact impl_OwnSteps.mono _ _ _
      | exact laws_eqIntS.mono _ _ _
      | exact laws_heldIntS.mono _ _ _
      | exact laws_markIntS.mono _ _ _
      | exact spec_OwnSteps.mono _ _ _
      | exact LeO.none _
      | refine LeO.ite ?_ ?_
      | refine LeO.bind ?_ (fun _ => ?_)
set_option maxHeartbeats 8000000 in
set_option maxRecDepth 100000 in
theorem laws_FnExactOwnSteps.calls (k : Nat) (a0 : Int) (a1 : Int) (r : Bool) (w : World) (h : laws_FnExactOwnSteps.f k a0 a1 = some r) :
    Calls Try.prog 10 #[.int .i64 a0, .int .i64 a1] w fun e w' => e = .returned (.bool r) ∧ Below w.heap.size w w' := by
  have HB := Aside0.mk (Below.refl w.heap.size w)
  have H : ((spec_OwnSteps.f k a0 a1).bind fun bt155 => ((impl_OwnSteps.f k a0 a1).bind fun bt159 => ((laws_eqIntS.f k bt159.1 bt155.1).bind fun t163 => (if t163 = true then (laws_FnExactOwnSteps.j0 k a0 a1 bt155.1 bt155.2 bt159.1 (bt159.2 != bt155.2)) else (laws_FnExactOwnSteps.j0 k a0 a1 bt155.1 bt155.2 bt159.1 true))))) = some r := h
  clear h
  replace H := Option.bind_eq_some_iff.mp H
  obtain ⟨⟨t155, t156⟩, A30, H⟩ := H
  replace H : ((impl_OwnSteps.f k a0 a1).bind fun bt159 => ((laws_eqIntS.f k bt159.1 t155).bind fun t163 => (if t163 = true then (laws_FnExactOwnSteps.j0 k a0 a1 t155 t156 bt159.1 (bt159.2 != t156)) else (laws_FnExactOwnSteps.j0 k a0 a1 t155 t156 bt159.1 true)))) = some r := H
  have A3 := Aside0.mk A30
  clear A30
  replace H := Option.bind_eq_some_iff.mp H
  obtain ⟨⟨t159, t160⟩, A40, H⟩ := H
  replace H : ((laws_eqIntS.f k t159 t155).bind fun t163 => (if t163 = true then (laws_FnExactOwnSteps.j0 k a0 a1 t155 t156 t159 (t160 != t156)) else (laws_FnExactOwnSteps.j0 k a0 a1 t155 t156 t159 true))) = some r := H
  have A4 := Aside0.mk A40
  clear A40
  have HC5 := Aside0.mk H
  clear H
  go_enter Try.func10, Try.ntmps10
  go_upto_region 3 with (first | ((with_reducible refine gate_callee (f := 33) rfl ?_); refine goesL_ (some 16) rfl rfl Try.func33 (by kernel_rfl) rfl #[.int .i64 a0, .int .i64 a1] rfl (by (try simp only [List.map_toArray, List.map_cons, List.map_nil]); first | done | rfl | (simp only [List.length_drop, List.length_take]; rfl)) ?_; (with_reducible refine (spec_OwnSteps.calls k a0 a1 t155 t156 _ A3.out).mono ?_); rintro e w6 ⟨v157, rfl, ho0, hb⟩; refine ⟨_, rfl, ?_⟩; have n0_ := Aside0.mk (Kd.R_lower ho0 (below_size (by repeat (first | (with_reducible first | exact HB.out | apply below_alloc | apply pw_below_drewN | apply below_drew1) | exact HB.out)))); have n1_ := Aside0.mk (below_step (by repeat (first | (with_reducible first | exact HB.out | apply below_alloc | apply pw_below_drewN | apply below_drew1) | exact HB.out)) hb); clear HB; have HO158 := n0_; have HB := n1_; clear n0_ n1_; (try clear hb); (try clear hb2); (try clear hk); (try clear hi); (try clear ho0)) | ((with_reducible refine gate_callee (f := 34) rfl ?_); refine goesL_ (some 22) rfl rfl Try.func34 (by kernel_rfl) rfl #[.int .i64 a0, .int .i64 a1] rfl (by (try simp only [List.map_toArray, List.map_cons, List.map_nil]); first | done | rfl | (simp only [List.length_drop, List.length_take]; rfl)) ?_; (with_reducible refine (impl_OwnSteps.calls k a0 a1 t159 t160 _ A4.out).mono ?_); rintro e w7 ⟨v161, rfl, ho0, hb⟩; refine ⟨_, rfl, ?_⟩; have n0_ := Aside0.mk (Kd.R_elder' (by (with_reducible repeat (first | apply Kd.R_alloc | apply Kd.R_drewN | apply Kd.R_drew)); exact HO158.out) (Kd.R_base ho0) hb); have n1_ := Aside0.mk (Kd.R_lower (Kd.R_new' ho0 (Kd.R_lt (by (with_reducible repeat (first | apply Kd.R_alloc | apply Kd.R_drewN | apply Kd.R_drew)); exact HO158.out))) (below_size (by repeat (first | (with_reducible first | exact HB.out | apply below_alloc | apply pw_below_drewN | apply below_drew1) | exact HB.out)))); have n2_ := Aside0.mk (below_step (by repeat (first | (with_reducible first | exact HB.out | apply below_alloc | apply pw_below_drewN | apply below_drew1) | exact HB.out)) hb); clear HO158; clear HB; have HO158 := n0_; have HO162 := n1_; have HB := n2_; clear n0_ n1_ n2_; (try clear hb); (try clear hb2); (try clear hk); (try clear hi); (try clear ho0)))
  (try simp only [Act.put, List.setIfInBounds_toArray, List.set_cons_zero, List.set_cons_succ])
  go_cut [33] (fun v33 wc => ∃ (kq : Nat) (x33_4 : Bool), v33 = .bool x33_4 ∧ Aside0 (laws_FnExactOwnSteps.j0 kq a0 a1 t155 t156 t159 x33_4 = some r) ∧ Aside0 (kq ≤ k) ∧ Aside0 (Kd.R (Kd.int .i64) 3 wc w.heap.size (fun k_ => some k_ ≠ (v161 : Value).ownBlock) v157 t155) ∧ Aside0 (Kd.R (Kd.int .i64) 3 wc w.heap.size (fun k_ => some k_ ≠ (v157 : Value).ownBlock) v161 t159) ∧ Aside0 (Below w.heap.size w wc))
  case first =>
    have H := HC5.out
    clear HC5
    replace H := Option.bind_eq_some_iff.mp H
    obtain ⟨t163, A80, H⟩ := H
    replace H : (if t163 = true then (laws_FnExactOwnSteps.j0 k a0 a1 t155 t156 t159 (t160 != t156)) else (laws_FnExactOwnSteps.j0 k a0 a1 t155 t156 t159 true)) = some r := H
    have A8 := Aside0.mk A80
    clear A80
    by_cases c9 : t163 = true
    · subst c9
      have H1 : (laws_FnExactOwnSteps.j0 k a0 a1 t155 t156 t159 (t160 != t156)) = some r := by rw [if_pos rfl] at H; exact H
      clear H
      have H := H1
      clear H1
      have H' := Aside0.mk H
      clear H
      obtain ⟨Ao10, co10, eo10⟩ := Kd.R_slice HO162.out
      subst eo10
      obtain ⟨Ao11, co11, eo11⟩ := Kd.R_slice HO158.out
      subst eo11
      go_wp2_with (first | ((with_reducible refine gate_callee (f := 18) rfl ?_); refine goesL_ (some 27) rfl rfl Try.func18 (by kernel_rfl) rfl #[.slice Ao10 t159.length co10, .slice Ao11 t155.length co11] rfl (by (try simp only [List.map_toArray, List.map_cons, List.map_nil]); first | done | rfl | (simp only [List.length_drop, List.length_take]; rfl)) ?_; (with_reducible refine (laws_eqIntS.calls k _ _ t159 _ _ t155 true _ ?side1 ?side2 ?side3 ?side4 A8.out).mono ?_); (case side1 => repeat (first | exact (Kd.R_reads' HO162.out).2.2 | (with_reducible refine Kd.C_alloc ?_ _) | (with_reducible refine Kd.C_drewN ?_ _) | (with_reducible refine Kd.C_drew ?_))); (case side2 => exact (Kd.R_reads' HO162.out).2.1); (case side3 => repeat (first | exact (Kd.R_reads' HO158.out).2.2 | (with_reducible refine Kd.C_alloc ?_ _) | (with_reducible refine Kd.C_drewN ?_ _) | (with_reducible refine Kd.C_drew ?_))); (case side4 => exact (Kd.R_reads' HO158.out).2.1); rintro e w' ⟨rfl, ⟨nd, rfl⟩⟩; refine ⟨_, rfl, ?_⟩))
      go_meet
      case rel => exact ⟨_, ((t160 != t156)), (by first | rfl | (simp; done) | (simp [*]; done)), H', ⟨by first | omega | exact Nat.le_refl _⟩, ⟨by (with_reducible repeat (first | apply Kd.R_alloc | apply Kd.R_drewN | apply Kd.R_drew)); exact Kd.R_mono HO158.out (fun _ hk => hk.2)⟩, ⟨by (with_reducible repeat (first | apply Kd.R_alloc | apply Kd.R_drewN | apply Kd.R_drew)); exact Kd.R_mono HO162.out (fun _ hk => hk.2)⟩, ⟨by repeat (first | (with_reducible first | exact HB.out | apply below_alloc | apply pw_below_drewN | apply below_drew1) | exact HB.out)⟩⟩
    · replace c9 := Bool.eq_false_iff.mpr c9
      subst c9
      have H1 : (laws_FnExactOwnSteps.j0 k a0 a1 t155 t156 t159 true) = some r := by rw [if_neg (show ¬ (false = true) by decide)] at H; exact H
      clear H
      have H := H1
      clear H1
      have H' := Aside0.mk H
      clear H
      obtain ⟨Ao12, co12, eo12⟩ := Kd.R_slice HO162.out
      subst eo12
      obtain ⟨Ao13, co13, eo13⟩ := Kd.R_slice HO158.out
      subst eo13
      go_wp2_with (first | ((with_reducible refine gate_callee (f := 18) rfl ?_); refine goesL_ (some 27) rfl rfl Try.func18 (by kernel_rfl) rfl #[.slice Ao12 t159.length co12, .slice Ao13 t155.length co13] rfl (by (try simp only [List.map_toArray, List.map_cons, List.map_nil]); first | done | rfl | (simp only [List.length_drop, List.length_take]; rfl)) ?_; (with_reducible refine (laws_eqIntS.calls k _ _ t159 _ _ t155 false _ ?side1 ?side2 ?side3 ?side4 A8.out).mono ?_); (case side1 => repeat (first | exact (Kd.R_reads' HO162.out).2.2 | (with_reducible refine Kd.C_alloc ?_ _) | (with_reducible refine Kd.C_drewN ?_ _) | (with_reducible refine Kd.C_drew ?_))); (case side2 => exact (Kd.R_reads' HO162.out).2.1); (case side3 => repeat (first | exact (Kd.R_reads' HO158.out).2.2 | (with_reducible refine Kd.C_alloc ?_ _) | (with_reducible refine Kd.C_drewN ?_ _) | (with_reducible refine Kd.C_drew ?_))); (case side4 => exact (Kd.R_reads' HO158.out).2.1); rintro e w' ⟨rfl, ⟨nd, rfl⟩⟩; refine ⟨_, rfl, ?_⟩))
      go_meet
      case rel => exact ⟨_, (true), (by first | rfl | (simp; done) | (simp [*]; done)), H', ⟨by first | omega | exact Nat.le_refl _⟩, ⟨by (with_reducible repeat (first | apply Kd.R_alloc | apply Kd.R_drewN | apply Kd.R_drew)); exact Kd.R_mono HO158.out (fun _ hk => hk.2)⟩, ⟨by (with_reducible repeat (first | apply Kd.R_alloc | apply Kd.R_drewN | apply Kd.R_drew)); exact Kd.R_mono HO162.out (fun _ hk => hk.2)⟩, ⟨by repeat (first | (with_reducible first | exact HB.out | apply below_alloc | apply pw_below_drewN | apply below_drew1) | exact HB.out)⟩⟩
  case rest =>
    clear HC5
    try clear c1
    try clear p2
    try clear c3
    try clear c9
    try clear c10
    obtain ⟨kq, x33_4, rfl, HA, HJ4, HO_5, HO_7, HB⟩ := hcut
    cases kq with
    | zero => exact absurd HA.out (by simp [laws_FnExactOwnSteps.j0])
    | succ kj4 =>
      have H := HA.out
      clear HA
      simp only [laws_FnExactOwnSteps.j0] at H
      by_cases c14 : x33_4 = true
      · subst c14
        have H1 : (some false) = some r := by rw [if_pos rfl] at H; exact H
        clear H
        have H := H1
        clear H1
        obtain rfl := Option.some.inj H
        go_wp2
        go_ret
        exact ⟨by first | rfl | (simp [errW_none, errW_some] <;> rfl) | (simp [*, errW_none, errW_some] <;> rfl), by repeat (first | (with_reducible first | exact HB.out | apply below_alloc | apply pw_below_drewN | apply below_drew1) | exact HB.out)⟩
      · replace c14 := Bool.eq_false_iff.mpr c14
        subst c14
        have H1 : ((laws_markIntS.f kj4 t159 1).bind fun bt164 => ((laws_heldIntS.f kj4 bt164.2 1).bind fun t166 => (if t166 < 0 then (some false) else (if t166 = bt164.1 then ((impl_OwnSteps.f kj4 a0 a1).bind fun bt167 => ((laws_eqIntS.f kj4 bt167.1 t155).bind fun t171 => (if t171 = true then (laws_FnExactOwnSteps.j1 kj4 bt164.2 bt164.1 (bt167.2 != t156)) else (laws_FnExactOwnSteps.j1 kj4 bt164.2 bt164.1 true)))) else (some false))))) = some r := by rw [if_neg (show ¬ (false = true) by decide)] at H; exact H
        clear H
        have H := H1
        clear H1
        replace H := Option.bind_eq_some_iff.mp H
        obtain ⟨⟨t164, t165⟩, A150, H⟩ := H
        replace H : ((laws_heldIntS.f kj4 t165 1).bind fun t166 => (if t166 < 0 then (some false) else (if t166 = t164 then ((impl_OwnSteps.f kj4 a0 a1).bind fun bt167 => ((laws_eqIntS.f kj4 bt167.1 t155).bind fun t171 => (if t171 = true then (laws_FnExactOwnSteps.j1 kj4 t165 t164 (bt167.2 != t156)) else (laws_FnExactOwnSteps.j1 kj4 t165 t164 true)))) else (some false)))) = some r := H
        have A15 := Aside0.mk A150
        clear A150
        replace H := Option.bind_eq_some_iff.mp H
        obtain ⟨t166, A160, H⟩ := H
        replace H : (if t166 < 0 then (some false) else (if t166 = t164 then ((impl_OwnSteps.f kj4 a0 a1).bind fun bt167 => ((laws_eqIntS.f kj4 bt167.1 t155).bind fun t171 => (if t171 = true then (laws_FnExactOwnSteps.j1 kj4 t165 t164 (bt167.2 != t156)) else (laws_FnExactOwnSteps.j1 kj4 t165 t164 true)))) else (some false))) = some r := H
        have A16 := Aside0.mk A160
        clear A160
        by_cases c17 : t166 < 0
        · rw [if_pos c17] at H
          have c17b0 : decide (t166 < 0) = true := decide_eq_true c17
          clear c17
          obtain rfl := Option.some.inj H
          obtain ⟨Ao18, co18, eo18⟩ := Kd.R_slice HO_7.out
          subst eo18
          go_wp2_with (first | ((with_reducible refine gate_callee (f := 29) rfl ?_); refine goesL_ (some 36) rfl rfl Try.func29 (by kernel_rfl) rfl #[.slice Ao18 t159.length co18, .int .i64 1] rfl (by (try simp only [List.map_toArray, List.map_cons, List.map_nil]); first | done | rfl | (simp only [List.length_drop, List.length_take]; rfl)) ?_; (with_reducible refine (laws_markIntS.calls kj4 (fun k_ => some k_ = (.slice Ao18 t159.length co18 : Value).ownBlock) (.slice Ao18 t159.length co18) t159 1 t164 t165 w _ ?side1 ?side2 A15.out).mono ?_); (case side1 => repeat (first | (with_reducible first | exact HB.out | apply below_alloc | apply pw_below_drewN | apply below_drew1) | exact HB.out)); (case side2 => exact Kd.R_tight rfl HO_7.out); rintro e w19 ⟨rfl, hy0, hb, hkp⟩; refine ⟨_, rfl, ?_⟩; have n0_ := Aside0.mk (Kd.R_mono (ok' := fun k_ => some k_ ≠ (.slice Ao18 t159.length co18 : Value).ownBlock) (Kd.R_keptB (HO_5.out) hkp (fun k_ hk_ hs_ => (hk_) hs_)) (fun k_ hk_ => hk_.1)); have n1_ := Aside0.mk (Kd.R_reok rfl hy0 (fun k_ e_ => HO_7.out.1 k_ e_)); have n2_ := Aside0.mk (hb); clear HO_5; clear HO_7; clear HB; have HO_5 := n0_; have HO_7 := n1_; have HB := n2_; clear n0_ n1_ n2_; (try clear hb); (try clear hkp); (try clear hy0)) | ((with_reducible refine gate_callee (f := 30) rfl ?_); refine goesL_ (some 39) rfl rfl Try.func30 (by kernel_rfl) rfl #[.slice Ao18 t165.length co18, .int .i64 1] rfl (by (try simp only [List.map_toArray, List.map_cons, List.map_nil]); first | done | (rw [show t165.length = t159.length from (Kd.R_reads' HO_7.out).1.symm] <;> rfl) | rfl | (simp only [List.length_drop, List.length_take]; rfl)) ?_; (with_reducible refine (laws_heldIntS.calls kj4 _ _ t165 1 t166 _ ?side1 ?side2 A16.out).mono ?_); (case side1 => repeat (first | exact (Kd.R_reads' HO_7.out).2.2 | (with_reducible refine Kd.C_alloc ?_ _) | (with_reducible refine Kd.C_drewN ?_ _) | (with_reducible refine Kd.C_drew ?_))); (case side2 => rw [show t165.length = t159.length from (Kd.R_reads' HO_7.out).1.symm]; exact (Kd.R_reads' HO_7.out).2.1); rintro e w' ⟨rfl, ⟨nd, rfl⟩⟩; refine ⟨_, rfl, ?_⟩))
          go_ret
          exact ⟨by first | rfl | (simp [errW_none, errW_some] <;> rfl) | (simp [*, errW_none, errW_some] <;> rfl), by repeat (first | (with_reducible first | exact HB.out | apply below_alloc | apply pw_below_drewN | apply below_drew1) | exact HB.out)⟩
        · rw [if_neg c17] at H
          have c17b0 : decide (t166 < 0) = false := decide_eq_false c17
          clear c17
          by_cases c20 : t166 = t164
          · rw [if_pos c20] at H
            have c20b0 : (t166 == t164) = true := beq_iff_eq.mpr c20
            have c20b1 : (t166 != t164) = false := bne_eq_false_iff_eq.mpr c20
            clear c20
            replace H := Option.bind_eq_some_iff.mp H
            obtain ⟨⟨t167, t168⟩, A210, H⟩ := H
            replace H : ((laws_eqIntS.f kj4 t167 t155).bind fun t171 => (if t171 = true then (laws_FnExactOwnSteps.j1 kj4 t165 t164 (t168 != t156)) else (laws_FnExactOwnSteps.j1 kj4 t165 t164 true))) = some r := H
            have A21 := Aside0.mk A210
            clear A210
            have HC22 := Aside0.mk H
            clear H
            obtain ⟨Ao23, co23, eo23⟩ := Kd.R_slice HO_7.out
            subst eo23
            go_upto_region 14 with (first | ((with_reducible refine gate_callee (f := 29) rfl ?_); refine goesL_ (some 36) rfl rfl Try.func29 (by kernel_rfl) rfl #[.slice Ao23 t159.length co23, .int .i64 1] rfl (by (try simp only [List.map_toArray, List.map_cons, List.map_nil]); first | done | rfl | (simp only [List.length_drop, List.length_take]; rfl)) ?_; (with_reducible refine (laws_markIntS.calls kj4 (fun k_ => some k_ = (.slice Ao23 t159.length co23 : Value).ownBlock) (.slice Ao23 t159.length co23) t159 1 t164 t165 w _ ?side1 ?side2 A15.out).mono ?_); (case side1 => repeat (first | (with_reducible first | exact HB.out | apply below_alloc | apply pw_below_drewN | apply below_drew1) | exact HB.out)); (case side2 => exact Kd.R_tight rfl HO_7.out); rintro e w24 ⟨rfl, hy0, hb, hkp⟩; refine ⟨_, rfl, ?_⟩; have n0_ := Aside0.mk (Kd.R_mono (ok' := fun k_ => some k_ ≠ (.slice Ao23 t159.length co23 : Value).ownBlock) (Kd.R_keptB (HO_5.out) hkp (fun k_ hk_ hs_ => (hk_) hs_)) (fun k_ hk_ => hk_.1)); have n1_ := Aside0.mk (Kd.R_reok rfl hy0 (fun k_ e_ => HO_7.out.1 k_ e_)); have n2_ := Aside0.mk (hb); clear HO_5; clear HO_7; clear HB; have HO_5 := n0_; have HO_7 := n1_; have HB := n2_; clear n0_ n1_ n2_; (try clear hb); (try clear hkp); (try clear hy0)) | ((with_reducible refine gate_callee (f := 30) rfl ?_); refine goesL_ (some 39) rfl rfl Try.func30 (by kernel_rfl) rfl #[.slice Ao23 t165.length co23, .int .i64 1] rfl (by (try simp only [List.map_toArray, List.map_cons, List.map_nil]); first | done | (rw [show t165.length = t159.length from (Kd.R_reads' HO_7.out).1.symm] <;> rfl) | rfl | (simp only [List.length_drop, List.length_take]; rfl)) ?_; (with_reducible refine (laws_heldIntS.calls kj4 _ _ t165 1 t166 _ ?side1 ?side2 A16.out).mono ?_); (case side1 => repeat (first | exact (Kd.R_reads' HO_7.out).2.2 | (with_reducible refine Kd.C_alloc ?_ _) | (with_reducible refine Kd.C_drewN ?_ _) | (with_reducible refine Kd.C_drew ?_))); (case side2 => rw [show t165.length = t159.length from (Kd.R_reads' HO_7.out).1.symm]; exact (Kd.R_reads' HO_7.out).2.1); rintro e w' ⟨rfl, ⟨nd, rfl⟩⟩; refine ⟨_, rfl, ?_⟩) | ((with_reducible refine gate_callee (f := 34) rfl ?_); refine goesL_ (some 48) rfl rfl Try.func34 (by kernel_rfl) rfl #[.int .i64 a0, .int .i64 a1] rfl (by (try simp only [List.map_toArray, List.map_cons, List.map_nil]); first | done | rfl | (simp only [List.length_drop, List.length_take]; rfl)) ?_; (with_reducible refine (impl_OwnSteps.calls kj4 a0 a1 t167 t168 _ A21.out).mono ?_); rintro e w25 ⟨v169, rfl, ho0, hb⟩; refine ⟨_, rfl, ?_⟩; have n0_ := Aside0.mk (Kd.R_elder' (by (with_reducible repeat (first | apply Kd.R_alloc | apply Kd.R_drewN | apply Kd.R_drew)); exact HO_5.out) (Kd.R_base ho0) hb); have n1_ := Aside0.mk (Kd.R_elder' (by (with_reducible repeat (first | apply Kd.R_alloc | apply Kd.R_drewN | apply Kd.R_drew)); exact HO_7.out) (Kd.R_base ho0) hb); have n2_ := Aside0.mk (Kd.R_lower (Kd.R_new' (Kd.R_new' ho0 (Kd.R_lt (by (with_reducible repeat (first | apply Kd.R_alloc | apply Kd.R_drewN | apply Kd.R_drew)); exact HO_5.out))) (Kd.R_lt (by (with_reducible repeat (first | apply Kd.R_alloc | apply Kd.R_drewN | apply Kd.R_drew)); exact HO_7.out))) (below_size (by repeat (first | (with_reducible first | exact HB.out | apply below_alloc | apply pw_below_drewN | apply below_drew1) | exact HB.out)))); have n3_ := Aside0.mk (below_step (by repeat (first | (with_reducible first | exact HB.out | apply below_alloc | apply pw_below_drewN | apply below_drew1) | exact HB.out)) hb); clear HO_5; clear HO_7; clear HB; have HO_5 := n0_; have HO_7 := n1_; have HO170 := n2_; have HB := n3_; clear n0_ n1_ n2_ n3_; (try clear hb); (try clear hb2); (try clear hk); (try clear hi); (try clear ho0)))
            (try simp only [Act.put, List.setIfInBounds_toArray, List.set_cons_zero, List.set_cons_succ])
            go_cut [59] (fun v59 wc => ∃ (kq : Nat) (x59_21 : Bool), v59 = .bool x59_21 ∧ Aside0 (laws_FnExactOwnSteps.j1 kq t165 t164 x59_21 = some r) ∧ Aside0 (kq ≤ kj4) ∧ Aside0 (Kd.R (Kd.int .i64) 3 wc w.heap.size (fun _ => True) (.slice Ao23 t159.length co23) t165) ∧ Aside0 (Below w.heap.size w wc))
            case first =>
              have H := HC22.out
              clear HC22
              replace H := Option.bind_eq_some_iff.mp H
              obtain ⟨t171, A260, H⟩ := H
              replace H : (if t171 = true then (laws_FnExactOwnSteps.j1 kj4 t165 t164 (t168 != t156)) else (laws_FnExactOwnSteps.j1 kj4 t165 t164 true)) = some r := H
              have A26 := Aside0.mk A260
              clear A260
              by_cases c27 : t171 = true
              · subst c27
                have H1 : (laws_FnExactOwnSteps.j1 kj4 t165 t164 (t168 != t156)) = some r := by rw [if_pos rfl] at H; exact H
                clear H
                have H := H1
                clear H1
                have H' := Aside0.mk H
                clear H
                obtain ⟨Ao28, co28, eo28⟩ := Kd.R_slice HO170.out
                subst eo28
                obtain ⟨Ao29, co29, eo29⟩ := Kd.R_slice HO_5.out
                subst eo29
                go_wp2_with (first | ((with_reducible refine gate_callee (f := 18) rfl ?_); refine goesL_ (some 53) rfl rfl Try.func18 (by kernel_rfl) rfl #[.slice Ao28 t167.length co28, .slice Ao29 t155.length co29] rfl (by (try simp only [List.map_toArray, List.map_cons, List.map_nil]); first | done | rfl | (simp only [List.length_drop, List.length_take]; rfl)) ?_; (with_reducible refine (laws_eqIntS.calls kj4 _ _ t167 _ _ t155 true _ ?side1 ?side2 ?side3 ?side4 A26.out).mono ?_); (case side1 => repeat (first | exact (Kd.R_reads' HO170.out).2.2 | (with_reducible refine Kd.C_alloc ?_ _) | (with_reducible refine Kd.C_drewN ?_ _) | (with_reducible refine Kd.C_drew ?_))); (case side2 => exact (Kd.R_reads' HO170.out).2.1); (case side3 => repeat (first | exact (Kd.R_reads' HO_5.out).2.2 | (with_reducible refine Kd.C_alloc ?_ _) | (with_reducible refine Kd.C_drewN ?_ _) | (with_reducible refine Kd.C_drew ?_))); (case side4 => exact (Kd.R_reads' HO_5.out).2.1); rintro e w' ⟨rfl, ⟨nd, rfl⟩⟩; refine ⟨_, rfl, ?_⟩))
                go_meet
                case rel => exact ⟨_, ((t168 != t156)), (by first | rfl | (simp; done) | (simp [*]; done)), H', ⟨by have := HJ4.out; first | omega | exact Nat.le_refl _⟩, ⟨by (with_reducible repeat (first | apply Kd.R_alloc | apply Kd.R_drewN | apply Kd.R_drew)); exact Kd.R_mono HO_7.out (fun _ hk => trivial)⟩, ⟨by repeat (first | (with_reducible first | exact HB.out | apply below_alloc | apply pw_below_drewN | apply below_drew1) | exact HB.out)⟩⟩
              · replace c27 := Bool.eq_false_iff.mpr c27
                subst c27
                have H1 : (laws_FnExactOwnSteps.j1 kj4 t165 t164 true) = some r := by rw [if_neg (show ¬ (false = true) by decide)] at H; exact H
                clear H
                have H := H1
                clear H1
                have H' := Aside0.mk H
                clear H
                obtain ⟨Ao30, co30, eo30⟩ := Kd.R_slice HO170.out
                subst eo30
                obtain ⟨Ao31, co31, eo31⟩ := Kd.R_slice HO_5.out
                subst eo31
                go_wp2_with (first | ((with_reducible refine gate_callee (f := 18) rfl ?_); refine goesL_ (some 53) rfl rfl Try.func18 (by kernel_rfl) rfl #[.slice Ao30 t167.length co30, .slice Ao31 t155.length co31] rfl (by (try simp only [List.map_toArray, List.map_cons, List.map_nil]); first | done | rfl | (simp only [List.length_drop, List.length_take]; rfl)) ?_; (with_reducible refine (laws_eqIntS.calls kj4 _ _ t167 _ _ t155 false _ ?side1 ?side2 ?side3 ?side4 A26.out).mono ?_); (case side1 => repeat (first | exact (Kd.R_reads' HO170.out).2.2 | (with_reducible refine Kd.C_alloc ?_ _) | (with_reducible refine Kd.C_drewN ?_ _) | (with_reducible refine Kd.C_drew ?_))); (case side2 => exact (Kd.R_reads' HO170.out).2.1); (case side3 => repeat (first | exact (Kd.R_reads' HO_5.out).2.2 | (with_reducible refine Kd.C_alloc ?_ _) | (with_reducible refine Kd.C_drewN ?_ _) | (with_reducible refine Kd.C_drew ?_))); (case side4 => exact (Kd.R_reads' HO_5.out).2.1); rintro e w' ⟨rfl, ⟨nd, rfl⟩⟩; refine ⟨_, rfl, ?_⟩))
                go_meet
                case rel => exact ⟨_, (true), (by first | rfl | (simp; done) | (simp [*]; done)), H', ⟨by have := HJ4.out; first | omega | exact Nat.le_refl _⟩, ⟨by (with_reducible repeat (first | apply Kd.R_alloc | apply Kd.R_drewN | apply Kd.R_drew)); exact Kd.R_mono HO_7.out (fun _ hk => trivial)⟩, ⟨by repeat (first | (with_reducible first | exact HB.out | apply below_alloc | apply pw_below_drewN | apply below_drew1) | exact HB.out)⟩⟩
            case rest =>
              clear HC22
              try clear c1
              try clear c2
              try clear p2
              try clear c3
              try clear c9
              try clear c10
              try clear c14
              try clear c17
              try clear c17b0
              try clear c18
              try clear c20
              try clear c20b0
              try clear c20b1
              try clear c27
              try clear c29
              try clear c30
              try clear p2
              obtain ⟨kq, x59_21, rfl, HA, HJ21, HO_7, HB⟩ := hcut
              have hl7_21 := (Kd.R_reads' HO_7.out).1
              rw [hl7_21] at HO_7
              (try simp only [hl7_21])
              cases kq with
              | zero => exact absurd HA.out (by simp [laws_FnExactOwnSteps.j1])
              | succ kj21 =>
                have H := HA.out
                clear HA
                simp only [laws_FnExactOwnSteps.j1] at H
                by_cases c32 : x59_21 = true
                · subst c32
                  have H1 : (some false) = some r := by rw [if_pos rfl] at H; exact H
                  clear H
                  have H := H1
                  clear H1
                  obtain rfl := Option.some.inj H
                  go_wp2
                  go_ret
                  exact ⟨by first | rfl | (simp [errW_none, errW_some] <;> rfl) | (simp [*, errW_none, errW_some] <;> rfl), by repeat (first | (with_reducible first | exact HB.out | apply below_alloc | apply pw_below_drewN | apply below_drew1) | exact HB.out)⟩
                · replace c32 := Bool.eq_false_iff.mpr c32
                  subst c32
                  have H1 : ((laws_heldIntS.f kj21 t165 1).bind fun t172 => (if t172 < 0 then (some false) else (if t172 = t164 then (some true) else (some false)))) = some r := by rw [if_neg (show ¬ (false = true) by decide)] at H; exact H
                  clear H
                  have H := H1
                  clear H1
                  replace H := Option.bind_eq_some_iff.mp H
                  obtain ⟨t172, A330, H⟩ := H
                  replace H : (if t172 < 0 then (some false) else (if t172 = t164 then (some true) else (some false))) = some r := H
                  have A33 := Aside0.mk A330
                  clear A330
                  by_cases c34 : t172 < 0
                  · rw [if_pos c34] at H
                    have c34b0 : decide (t172 < 0) = true := decide_eq_true c34
                    clear c34
                    obtain rfl := Option.some.inj H
                    go_wp2_with (first | ((with_reducible refine gate_callee (f := 30) rfl ?_); refine goesL_ (some 62) rfl rfl Try.func30 (by kernel_rfl) rfl #[.slice Ao23 t165.length co23, .int .i64 1] rfl (by (try simp only [List.map_toArray, List.map_cons, List.map_nil]); first | done | rfl | (simp only [List.length_drop, List.length_take]; rfl)) ?_; (with_reducible refine (laws_heldIntS.calls kj21 _ _ t165 1 t172 _ ?side1 ?side2 A33.out).mono ?_); (case side1 => repeat (first | exact (Kd.R_reads' HO_7.out).2.2 | (with_reducible refine Kd.C_alloc ?_ _) | (with_reducible refine Kd.C_drewN ?_ _) | (with_reducible refine Kd.C_drew ?_))); (case side2 => exact (Kd.R_reads' HO_7.out).2.1); rintro e w' ⟨rfl, ⟨nd, rfl⟩⟩; refine ⟨_, rfl, ?_⟩))
                    go_ret
                    exact ⟨by first | rfl | (simp [errW_none, errW_some] <;> rfl) | (simp [*, errW_none, errW_some] <;> rfl), by repeat (first | (with_reducible first | exact HB.out | apply below_alloc | apply pw_below_drewN | apply below_drew1) | exact HB.out)⟩
                  · rw [if_neg c34] at H
                    have c34b0 : decide (t172 < 0) = false := decide_eq_false c34
                    clear c34
                    by_cases c35 : t172 = t164
                    · rw [if_pos c35] at H
                      have c35b0 : (t172 == t164) = true := beq_iff_eq.mpr c35
                      have c35b1 : (t172 != t164) = false := bne_eq_false_iff_eq.mpr c35
                      clear c35
                      obtain rfl := Option.some.inj H
                      go_wp2_with (first | ((with_reducible refine gate_callee (f := 30) rfl ?_); refine goesL_ (some 62) rfl rfl Try.func30 (by kernel_rfl) rfl #[.slice Ao23 t165.length co23, .int .i64 1] rfl (by (try simp only [List.map_toArray, List.map_cons, List.map_nil]); first | done | rfl | (simp only [List.length_drop, List.length_take]; rfl)) ?_; (with_reducible refine (laws_heldIntS.calls kj21 _ _ t165 1 t172 _ ?side1 ?side2 A33.out).mono ?_); (case side1 => repeat (first | exact (Kd.R_reads' HO_7.out).2.2 | (with_reducible refine Kd.C_alloc ?_ _) | (with_reducible refine Kd.C_drewN ?_ _) | (with_reducible refine Kd.C_drew ?_))); (case side2 => exact (Kd.R_reads' HO_7.out).2.1); rintro e w' ⟨rfl, ⟨nd, rfl⟩⟩; refine ⟨_, rfl, ?_⟩))
                      go_ret
                      exact ⟨by first | rfl | (simp [errW_none, errW_some] <;> rfl) | (simp [*, errW_none, errW_some] <;> rfl), by repeat (first | (with_reducible first | exact HB.out | apply below_alloc | apply pw_below_drewN | apply below_drew1) | exact HB.out)⟩
                    · rw [if_neg c35] at H
                      have c35b0 : (t172 == t164) = false := beq_eq_false_iff_ne.mpr c35
                      have c35b1 : (t172 != t164) = true := bne_iff_ne.mpr c35
                      obtain rfl := Option.some.inj H
                      go_wp2_with (first | ((with_reducible refine gate_callee (f := 30) rfl ?_); refine goesL_ (some 62) rfl rfl Try.func30 (by kernel_rfl) rfl #[.slice Ao23 t165.length co23, .int .i64 1] rfl (by (try simp only [List.map_toArray, List.map_cons, List.map_nil]); first | done | rfl | (simp only [List.length_drop, List.length_take]; rfl)) ?_; (with_reducible refine (laws_heldIntS.calls kj21 _ _ t165 1 t172 _ ?side1 ?side2 A33.out).mono ?_); (case side1 => repeat (first | exact (Kd.R_reads' HO_7.out).2.2 | (with_reducible refine Kd.C_alloc ?_ _) | (with_reducible refine Kd.C_drewN ?_ _) | (with_reducible refine Kd.C_drew ?_))); (case side2 => exact (Kd.R_reads' HO_7.out).2.1); rintro e w' ⟨rfl, ⟨nd, rfl⟩⟩; refine ⟨_, rfl, ?_⟩))
                      go_ret
                      exact ⟨by first | rfl | (simp [errW_none, errW_some] <;> rfl) | (simp [*, errW_none, errW_some] <;> rfl), by repeat (first | (with_reducible first | exact HB.out | apply below_alloc | apply pw_below_drewN | apply below_drew1) | exact HB.out)⟩
          · rw [if_neg c20] at H
            have c20b0 : (t166 == t164) = false := beq_eq_false_iff_ne.mpr c20
            have c20b1 : (t166 != t164) = true := bne_iff_ne.mpr c20
            obtain rfl := Option.some.inj H
            obtain ⟨Ao36, co36, eo36⟩ := Kd.R_slice HO_7.out
            subst eo36
            go_wp2_with (first | ((with_reducible refine gate_callee (f := 29) rfl ?_); refine goesL_ (some 36) rfl rfl Try.func29 (by kernel_rfl) rfl #[.slice Ao36 t159.length co36, .int .i64 1] rfl (by (try simp only [List.map_toArray, List.map_cons, List.map_nil]); first | done | rfl | (simp only [List.length_drop, List.length_take]; rfl)) ?_; (with_reducible refine (laws_markIntS.calls kj4 (fun k_ => some k_ = (.slice Ao36 t159.length co36 : Value).ownBlock) (.slice Ao36 t159.length co36) t159 1 t164 t165 w _ ?side1 ?side2 A15.out).mono ?_); (case side1 => repeat (first | (with_reducible first | exact HB.out | apply below_alloc | apply pw_below_drewN | apply below_drew1) | exact HB.out)); (case side2 => exact Kd.R_tight rfl HO_7.out); rintro e w37 ⟨rfl, hy0, hb, hkp⟩; refine ⟨_, rfl, ?_⟩; have n0_ := Aside0.mk (Kd.R_mono (ok' := fun k_ => some k_ ≠ (.slice Ao36 t159.length co36 : Value).ownBlock) (Kd.R_keptB (HO_5.out) hkp (fun k_ hk_ hs_ => (hk_) hs_)) (fun k_ hk_ => hk_.1)); have n1_ := Aside0.mk (Kd.R_reok rfl hy0 (fun k_ e_ => HO_7.out.1 k_ e_)); have n2_ := Aside0.mk (hb); clear HO_5; clear HO_7; clear HB; have HO_5 := n0_; have HO_7 := n1_; have HB := n2_; clear n0_ n1_ n2_; (try clear hb); (try clear hkp); (try clear hy0)) | ((with_reducible refine gate_callee (f := 30) rfl ?_); refine goesL_ (some 39) rfl rfl Try.func30 (by kernel_rfl) rfl #[.slice Ao36 t165.length co36, .int .i64 1] rfl (by (try simp only [List.map_toArray, List.map_cons, List.map_nil]); first | done | (rw [show t165.length = t159.length from (Kd.R_reads' HO_7.out).1.symm] <;> rfl) | rfl | (simp only [List.length_drop, List.length_take]; rfl)) ?_; (with_reducible refine (laws_heldIntS.calls kj4 _ _ t165 1 t166 _ ?side1 ?side2 A16.out).mono ?_); (case side1 => repeat (first | exact (Kd.R_reads' HO_7.out).2.2 | (with_reducible refine Kd.C_alloc ?_ _) | (with_reducible refine Kd.C_drewN ?_ _) | (with_reducible refine Kd.C_drew ?_))); (case side2 => rw [show t165.length = t159.length from (Kd.R_reads' HO_7.out).1.symm]; exact (Kd.R_reads' HO_7.out).2.1); rintro e w' ⟨rfl, ⟨nd, rfl⟩⟩; refine ⟨_, rfl, ?_⟩))
            go_ret
            exact ⟨by first | rfl | (simp [errW_none, errW_some] <;> rfl) | (simp [*, errW_none, errW_some] <;> rfl), by repeat (first | (with_reducible first | exact HB.out | apply below_alloc | apply pw_below_drewN | apply below_drew1) | exact HB.out)⟩

/-- THE ONE PURE STATEMENT of laws_FnExactOwnSteps: yours. -/
def laws_FnExactOwnSteps.Pure : Prop := ∀ (a0 : Int) (a1 : Int), (Lit.int .i64 a0).wf = true → (Lit.int .i64 a1).wf = true → ∃ k, laws_FnExactOwnSteps.f k a0 a1 = some true
theorem laws_FnExactOwnSteps.walk (P : laws_FnExactOwnSteps.Pure) (a0 : Int) (a1 : Int) (w : World) (w0 : (Lit.int .i64 a0).wf = true) (w1 : (Lit.int .i64 a1).wf = true) :
    Calls Try.prog 10 #[.int .i64 a0, .int .i64 a1] w fun e w' => e = .returned (.bool true) ∧ Below w.heap.size w w' := by
  obtain ⟨k, h⟩ := P a0 a1 w0 w1
  refine (laws_FnExactOwnSteps.calls k a0 a1 true w h).mono ?_
  rintro e w' ⟨rfl, hd⟩
  exact ⟨rfl, hd⟩

end Go.Proofs.Ytapcnidappknnaa.PFnExactOwnSteps
