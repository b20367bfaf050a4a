/- MoveRules of the program and of the reference answer alike at all rules and numbers, and hand back memory of their own: no condition. -/
import Derived.Test.YtfickjfmcmdfiaaPFnExactMoveRulesx4
namespace Go.Proofs.Ytfickjfmcmdfiaa.Pure
open Go.RowKit Go.Proofs.Ytfickjfmcmdfiaa.PFnExactMoveRules Go.Proofs.YtfickjfmcmdfiaaW.PrintWords Go.Proofs.YtfickjfmcmdfiaaW.PrintLast Go.Proofs.YtfickjfmcmdfiaaW.PrintMore
set_option linter.unusedVariables false
set_option linter.unusedSimpArgs false
namespace OwnFnExactMoveRules
theorem w64 {x : Int} (h0 : -9223372036854775808 ≤ x) (h1 : x ≤ 9223372036854775807) : wrap64 x = x := by unfold wrap64; omega
theorem l1In_at (n a b : Int) : spec_l1In.f n a b = some (decide (a ≤ n ∧ n ≤ b)) := by
  unfold spec_l1In.f
  by_cases h : a ≤ n
  · rw [if_pos (by omega)]; simp [h]
  · rw [if_neg (by omega)]; simp [h]
/-- What a rule is. -/
def ruleB (e r : Int) : Bool := decide (2 ≤ e ∧ e ≤ 60 ∧ 0 ≤ r ∧ r < e)
theorem isRule_at (e r : Int) : impl_isRule.f e r = some (ruleB e r) := by
  unfold impl_isRule.f ruleB
  by_cases h1 : e ≥ 2
  · rw [if_pos h1]
    by_cases h2 : e ≤ 60
    · rw [if_pos h2]
      by_cases h3 : r ≥ 0
      · rw [if_pos h3]
        congr 1
        rw [decide_eq_decide]
        omega
      · rw [if_neg h3, decide_eq_false (by omega)]
    · rw [if_neg h2, decide_eq_false (by omega)]
  · rw [if_neg h1, decide_eq_false (by omega)]
theorem siRule_at (e r : Int) : spec_siRule.f e r = some (ruleB e r) := by
  unfold spec_siRule.f ruleB
  rw [l1In_at]
  simp only [Option.bind_some]
  by_cases h1 : 2 ≤ e ∧ e ≤ 60
  · rw [decide_eq_true h1, if_pos rfl, w64 (by omega) (by omega), l1In_at]
    simp only [Option.bind_some]
    congr 1
    rw [decide_eq_decide]
    omega
  · rw [decide_eq_false h1, if_neg (by simp), decide_eq_false (by omega)]
theorem drop_rdT (xs : List S53) (i : Nat) (h : i < xs.length) : xs.drop i = rd_T53 xs (i : Int) :: xs.drop (i + 1) := by
  rw [List.drop_eq_getElem_cons h]
  simp [rd_T53, List.getD, h]
def conv (x : S59) : S53 := ⟨x.f0, x.f1⟩
theorem take_set_succ {α : Type} (xs : List α) (i : Nat) (v : α) (h : i < xs.length) : (xs.set i v).take (i + 1) = xs.take i ++ [v] := by
  rw [List.take_succ_eq_append_getElem (by simpa using h)]
  simp [List.take_set_of_le]
theorem toRuleS_l0 (xs : List S59) (hx : xs.length ≤ 100000000) : ∀ (d i : Nat) (ys : List S53), i + d = xs.length → ys.length = xs.length → ys.take i = (xs.take i).map conv → ∀ K, d < K → laws_toRuleS.l0 K xs ys i = some (xs.map conv) := by
  intro d
  induction d with
  | zero =>
    intro i ys hi hl ht K hK
    obtain ⟨K, rfl⟩ : ∃ k, K = k + 1 := ⟨K - 1, by omega⟩
    simp only [laws_toRuleS.l0]
    rw [if_neg (by omega)]
    rw [List.take_of_length_le (by omega), List.take_of_length_le (by omega)] at ht
    rw [ht]
  | succ d ih =>
    intro i ys hi hl ht K hK
    obtain ⟨K, rfl⟩ : ∃ k, K = k + 1 := ⟨K - 1, by omega⟩
    simp only [laws_toRuleS.l0, laws_toRule.f, Option.bind_some]
    rw [if_pos (by omega), if_pos (by omega), if_pos (by omega), w64 (by omega) (by omega)]
    refine ih (i + 1) _ (by omega) (by simpa using hl) ?_ K (by omega)
    rw [Int.toNat_natCast, take_set_succ _ _ _ (by omega), ht, List.take_succ_eq_append_getElem (by omega)]
    have e : rd_T59 xs (i : Int) = xs[i]'(by omega) := by
      have hi' : i < xs.length := by omega
      simp [rd_T59, List.getD, hi']
    rw [e, List.map_append]
    rfl
theorem toRuleS_at (xs : List S59) (hx : xs.length ≤ 100000000) (K : Nat) (hK : 100000000 < K) : laws_toRuleS.f K xs = some (xs.map conv) := by
  unfold laws_toRuleS.f
  rw [if_pos (by omega), if_pos (by omega)]
  refine toRuleS_l0 xs hx xs.length 0 _ (by omega) (by simp) rfl K (by omega)
theorem szRuleS_at (xs : List S59) (hx : xs.length ≤ 100000000) : laws_szRuleS.f xs 1048576 = some (if xs.length ≤ 1048576 then (1048576 : Int) - (xs.length : Int) else (-1 : Int)) := by
  unfold laws_szRuleS.f
  rw [w64 (by omega) (by omega)]
  by_cases h : xs.length ≤ 1048576
  · rw [if_neg (by omega), if_pos h]
  · rw [if_pos (by omega), if_neg h]
theorem szRuleS_big (xs : List S59) (h1 : xs.length ≤ maxLen) (hx : ¬ xs.length ≤ 1048576) : laws_szRuleS.f xs 1048576 = some (-1) := by
  unfold maxLen at h1
  unfold laws_szRuleS.f
  rw [w64 (by omega) (by omega), if_pos (by omega)]
theorem eqRuleS_l0 (xs : List S53) (hx : xs.length ≤ 100000000) : ∀ (d i : Nat), i + d = xs.length → ∀ K, d < K → laws_eqRuleS.l0 K xs xs i = some true := by
  intro d
  induction d with
  | zero =>
    intro i hi K hK
    obtain ⟨K, rfl⟩ : ∃ k, K = k + 1 := ⟨K - 1, by omega⟩
    simp only [laws_eqRuleS.l0]
    rw [if_neg (by omega)]
  | succ d ih =>
    intro i hi K hK
    obtain ⟨K, rfl⟩ : ∃ k, K = k + 1 := ⟨K - 1, by omega⟩
    have hlt : (i : Int) < (xs.length : Int) := by omega
    simp only [laws_eqRuleS.l0, laws_eqRule.f]
    rw [if_pos hlt, if_pos (by omega), if_pos hlt, w64 (by omega) (by omega)]
    simp only [if_true, Option.bind_some]
    exact ih (i + 1) (by omega) K (by omega)
theorem eqRuleS_at (xs : List S53) (hx : xs.length ≤ 100000000) (K : Nat) (hK : 100000000 < K) : laws_eqRuleS.f K xs xs = some true := by
  unfold laws_eqRuleS.f
  rw [if_pos rfl]
  exact eqRuleS_l0 xs hx xs.length 0 (by omega) K (by omega)
/-- What a list of rules is. -/
def goodB (L : List S53) : Bool := decide (L.length ≤ 12) && L.all (fun x => ruleB x.f0 x.f1)
theorem areAny_at : ∀ L : List S53, impl_areRules.any L = some (!(L.all fun x => ruleB x.f0 x.f1))
  | [] => rfl
  | x :: xs => by
    simp only [impl_areRules.any, isRule_at, Option.bind_some, List.all_cons]
    rw [areAny_at xs]
    cases ruleB x.f0 x.f1 <;> simp
theorem areRules_at (L : List S53) : impl_areRules.f L = some (goodB L) := by
  unfold impl_areRules.f goodB
  rw [areAny_at]
  by_cases h : L.length ≤ 12
  · rw [if_pos (by omega)]; simp [h]
  · rw [if_neg (by omega)]; simp [h]
theorem siGood_l0 (L : List S53) (hL : L.length ≤ 12) : ∀ (d i : Nat), i + d = L.length → ∀ K, d < K → spec_siGood.l0 K L L.length i = some ((L.drop i).all fun x => ruleB x.f0 x.f1) := by
  intro d
  induction d with
  | zero =>
    intro i hi K hK
    obtain ⟨K, rfl⟩ : ∃ k, K = k + 1 := ⟨K - 1, by omega⟩
    simp only [spec_siGood.l0]
    rw [if_neg (by omega), List.drop_of_length_le (by omega)]
    rfl
  | succ d ih =>
    intro i hi K hK
    obtain ⟨K, rfl⟩ : ∃ k, K = k + 1 := ⟨K - 1, by omega⟩
    have hlt : (i : Int) < (L.length : Int) := by omega
    have h := ih (i + 1) (by omega) K (by omega)
    simp only [spec_siGood.l0]
    rw [if_pos hlt, if_pos (by omega), if_pos hlt, siRule_at, w64 (by omega) (by omega), drop_rdT L i (by omega)]
    simp only [Option.bind_some, List.all_cons]
    rw [show (i : Int) + 1 = ((i + 1 : Nat) : Int) from by omega, h]
    cases ruleB (rd_T53 L (i : Int)).f0 (rd_T53 L (i : Int)).f1 <;> simp
theorem siGood_at (L : List S53) (K : Nat) (hK : 100 < K) : spec_siGood.f K L = some (goodB L) := by
  unfold spec_siGood.f goodB
  by_cases h : L.length ≤ 12
  · have h0 := siGood_l0 L h L.length 0 (by omega) K (by omega)
    have h0' : spec_siGood.l0 K L L.length 0 = _ := h0
    rw [if_neg (by omega), h0']; simp [h]
  · rw [if_pos (by omega)]; simp [h]
theorem good_len {L : List S53} (h : goodB L = true) : L.length ≤ 12 := by
  unfold goodB at h
  simp at h
  exact h.1
theorem good_mem {L : List S53} (h : goodB L = true) (x : S53) (hx : x ∈ L) : 2 ≤ x.f0 ∧ x.f0 ≤ 60 ∧ 0 ≤ x.f1 ∧ x.f1 < x.f0 := by
  unfold goodB at h
  simp at h
  have := h.2 x hx
  unfold ruleB at this
  simpa using this
/-- The remainder, as both texts reckon it. -/
def modZ (n e : Int) : Int := Int.tmod (wrap64 (Int.tmod n e + e)) e
theorem mod_at (n e : Int) (h : e ≠ 0) : impl_mod.f n e = some (modZ n e) := by
  unfold impl_mod.f modZ; rw [if_neg h]
theorem siRest_at (n e : Int) (h : e ≠ 0) : spec_siRest.f n e = some (modZ n e) := by
  unfold spec_siRest.f modZ; rw [if_neg h]
theorem isNumber_at (n : Int) : impl_isNumber.f n = some (decide (-600 ≤ n ∧ n ≤ 600)) := by
  unfold impl_isNumber.f
  by_cases h : -600 ≤ n
  · rw [if_pos (by omega)]; simp [h]
  · rw [if_neg (by omega)]; simp [h]
theorem siNumber_at (n : Int) : spec_siNumber.f n = some (decide (-600 ≤ n ∧ n ≤ 600)) := by
  unfold spec_siNumber.f; rw [l1In_at]; rfl
theorem rdT_set (xs : List S53) (i : Nat) (v : S53) (h : i < xs.length) : rd_T53 (xs.set i v) (i : Int) = v := by
  simp [rd_T53, List.getD, h]
/-- Marked rules. -/
def upr : Nat → List S53
  | 0 => []
  | n + 1 => upr n ++ [⟨1 + 2 * n, 1 + 2 * n + 1⟩]
theorem upr_len : ∀ n, (upr n).length = n
  | 0 => rfl
  | n + 1 => by simp [upr, upr_len n]
theorem upr_get : ∀ (n i : Nat), i < n → (upr n)[i]? = some ⟨1 + 2 * i, 1 + 2 * i + 1⟩
  | n + 1, i, h => by
    unfold upr
    by_cases e : i = n
    · subst e
      rw [List.getElem?_append_right (by rw [upr_len]; exact Nat.le_refl _), upr_len]
      simp
    · rw [List.getElem?_append_left (by rw [upr_len]; omega)]
      exact upr_get n i (by omega)
theorem markRuleS_l0 : ∀ (d i : Nat) (xs : List S53), i + d = xs.length → xs.length ≤ 100000000 → xs.take i = upr i → ∀ K, d < K → laws_markRuleS.l0 K xs (1 + 2 * i) i = some (1 + 2 * (xs.length : Int), upr xs.length) := by
  intro d
  induction d with
  | zero =>
    intro i xs hi hx ht K hK
    obtain ⟨K, rfl⟩ : ∃ k, K = k + 1 := ⟨K - 1, by omega⟩
    simp only [laws_markRuleS.l0]
    rw [if_neg (by omega)]
    obtain rfl : i = xs.length := by omega
    rw [List.take_length] at ht
    rw [← ht]
  | succ d ih =>
    intro i xs hi hx ht K hK
    obtain ⟨K, rfl⟩ : ∃ k, K = k + 1 := ⟨K - 1, by omega⟩
    simp only [laws_markRuleS.l0, Option.bind_some, Int.toNat_natCast]
    rw [if_pos (by omega), if_pos (by omega), w64 (x := (i : Int) + 1) (by omega) (by omega), w64 (x := 1 + 2 * (i : Int) + 1) (by omega) (by omega), w64 (x := 1 + 2 * (i : Int) + 1 + 1) (by omega) (by omega), rdT_set xs i _ (by omega), List.set_set]
    have h := ih (i + 1) (xs.set i ⟨1 + 2 * i, 1 + 2 * i + 1⟩) (by simp; omega) (by simpa using hx) (by rw [take_set_succ _ _ _ (by omega), ht]; rfl) K (by omega)
    simp only [List.length_set] at h
    rw [show (1 : Int) + 2 * (i : Int) + 1 + 1 = 1 + 2 * ((i + 1 : Nat) : Int) from by omega, show (i : Int) + 1 = ((i + 1 : Nat) : Int) from by omega]
    exact h
theorem markRuleS_at (xs : List S53) (hx : xs.length ≤ 100000000) (K : Nat) (hK : 100000000 < K) : laws_markRuleS.f K xs 1 = some (1 + 2 * (xs.length : Int), upr xs.length) :=
  markRuleS_l0 xs.length 0 xs (by omega) hx rfl K (by omega)
theorem heldRuleS_l0 (n : Nat) (hn : n ≤ 100000000) : ∀ (d i : Nat), i + d = n → ∀ K, d < K → laws_heldRuleS.l0 K (upr n) (1 + 2 * i) i = some (1 + 2 * (n : Int)) := by
  intro d
  induction d with
  | zero =>
    intro i hi K hK
    obtain ⟨K, rfl⟩ : ∃ k, K = k + 1 := ⟨K - 1, by omega⟩
    simp only [laws_heldRuleS.l0, upr_len]
    rw [if_neg (by omega)]
    obtain rfl : i = n := by omega
    rfl
  | succ d ih =>
    intro i hi K hK
    obtain ⟨K, rfl⟩ : ∃ k, K = k + 1 := ⟨K - 1, by omega⟩
    simp only [laws_heldRuleS.l0, upr_len]
    have hr : rd_T53 (upr n) (i : Int) = ⟨1 + 2 * i, 1 + 2 * i + 1⟩ := by
      unfold rd_T53
      rw [List.getD_eq_getElem?_getD, Int.toNat_natCast, upr_get n i (by omega)]
      rfl
    rw [if_pos (by omega), if_pos (by omega), hr]
    simp only
    rw [if_pos trivial, w64 (x := 1 + 2 * (i : Int) + 1) (by omega) (by omega), if_pos rfl, w64 (x := 1 + 2 * (i : Int) + 1 + 1) (by omega) (by omega), w64 (x := (i : Int) + 1) (by omega) (by omega)]
    have h := ih (i + 1) (by omega) K (by omega)
    rw [show (1 : Int) + 2 * (i : Int) + 1 + 1 = 1 + 2 * ((i + 1 : Nat) : Int) from by omega, show (i : Int) + 1 = ((i + 1 : Nat) : Int) from by omega]
    exact h
theorem heldRuleS_at (n : Nat) (hn : n ≤ 100000000) (K : Nat) (hK : 100000000 < K) : laws_heldRuleS.f K (upr n) 1 = some (1 + 2 * (n : Int)) :=
  heldRuleS_l0 n hn n 0 (by omega) K (by omega)
def newR (by_ : Int) (x : S53) : S53 := ⟨x.f0, modZ (wrap64 (x.f1 + by_)) x.f0⟩
theorem map_l0 (by_ : Int) (L : List S53) (hg : goodB L = true) : ∀ (d i : Nat) (acc : List S53), i + d = L.length → acc.length ≤ i →
    ∀ K, d < K → spec_MoveRules.l0 K by_ acc L L.length i = some (acc ++ (L.drop i).map (newR by_), true) ∧ impl_MoveRules.l0 K by_ acc L L.length i = some (acc ++ (L.drop i).map (newR by_), true) := by
  have hl := good_len hg
  intro d
  induction d with
  | zero =>
    intro i acc hi ha K hK
    obtain ⟨K, rfl⟩ : ∃ k, K = k + 1 := ⟨K - 1, by omega⟩
    have hc : ¬ (i : Int) < (L.length : Int) := by omega
    simp only [spec_MoveRules.l0, impl_MoveRules.l0]
    rw [if_neg hc, if_neg hc, List.drop_of_length_le (by omega)]
    simp
  | succ d ih =>
    intro i acc hi ha K hK
    obtain ⟨K, rfl⟩ : ∃ k, K = k + 1 := ⟨K - 1, by omega⟩
    have hlt : (i : Int) < (L.length : Int) := by omega
    have hi0 : (0 : Int) ≤ (i : Int) := by omega
    have hd := drop_rdT L i (by omega)
    have hm : rd_T53 L (i : Int) ∈ L := List.mem_of_mem_drop (i := i) (by rw [hd]; simp)
    have h0 := good_mem hg _ hm
    have hne : (rd_T53 L (i : Int)).f0 ≠ 0 := by omega
    have h3 : acc.length < 8796093022208 := by omega
    have h4 := ih (i + 1) (acc ++ [newR by_ (rd_T53 L (i : Int))]) (by omega) (by simp; omega) K (by omega)
    rw [show ((i + 1 : Nat) : Int) = (i : Int) + 1 from by omega] at h4
    simp only [spec_MoveRules.l0, impl_MoveRules.l0]
    rw [if_pos hlt, if_pos hlt, if_pos hi0, if_pos hi0, if_pos hlt, if_pos hlt, siRest_at _ _ hne, mod_at _ _ hne, w64 (x := (i : Int) + 1) (by omega) (by omega), hd]
    simp only [Option.bind_some]
    rw [if_pos h3, if_pos h3]
    have h5 : (⟨(rd_T53 L (i : Int)).f0, modZ (wrap64 ((rd_T53 L (i : Int)).f1 + by_)) (rd_T53 L (i : Int)).f0⟩ : S53) = newR by_ (rd_T53 L (i : Int)) := rfl
    rw [h5, h4.1, h4.2]
    simp
theorem both (L : List S53) (by_ : Int) : ∃ (g : List S53) (ok : Bool), g.length ≤ 1000000 ∧ ∀ K, 100000000 < K → spec_MoveRules.f K L by_ = some (g, ok) ∧ impl_MoveRules.f K L by_ = some (g, ok) := by
  unfold spec_MoveRules.f impl_MoveRules.f
  by_cases hg : goodB L = true
  · have hl := good_len hg
    by_cases hn : -600 ≤ by_ ∧ by_ ≤ 600
    · refine ⟨L.map (newR by_), true, by simp; omega, fun K hK => ?_⟩
      obtain ⟨K, rfl⟩ : ∃ k, K = k + 1 := ⟨K - 1, by omega⟩
      have h := map_l0 by_ L hg L.length 0 [] (by omega) (by simp) K (by omega)
      rw [siGood_at L _ (by omega), areRules_at, siNumber_at, isNumber_at, hg, decide_eq_true hn]
      simp only [Option.bind_some, spec_MoveRules.j0, impl_MoveRules.j0]
      rw [if_pos trivial, if_pos trivial, if_neg (by simp), if_neg (by simp)]
      simpa using h
    · refine ⟨[], false, by simp, fun K hK => ?_⟩
      obtain ⟨K, rfl⟩ : ∃ k, K = k + 1 := ⟨K - 1, by omega⟩
      rw [siGood_at L _ (by omega), areRules_at, siNumber_at, isNumber_at, hg, decide_eq_false hn]
      simp only [Option.bind_some, spec_MoveRules.j0, impl_MoveRules.j0]
      exact ⟨by simp, by simp⟩
  · refine ⟨[], false, by simp, fun K hK => ?_⟩
    obtain ⟨K, rfl⟩ : ∃ k, K = k + 1 := ⟨K - 1, by omega⟩
    rw [siGood_at L _ (by omega), areRules_at]
    simp only [Option.bind_some, spec_MoveRules.j0, impl_MoveRules.j0]
    exact ⟨by simp [hg], by simp [hg]⟩

theorem done : laws_FnExactMoveRules.Pure := by
  intro l0 by_ hm hb hw _
  by_cases hl : l0.length ≤ 1048576
  · refine ⟨1000000000, ?_⟩
    obtain ⟨L, hL⟩ : ∃ L, L = l0.map conv := ⟨_, rfl⟩
    have hlen : L.length ≤ 100000000 := by rw [hL, List.length_map]; omega
    obtain ⟨g, ok, hg, hsi⟩ := both L by_
    have hs := fun K hK => (hsi K hK).1
    have hi := fun K hK => (hsi K hK).2
    have hT : ∀ K, 100000000 < K → laws_toRuleS.f K l0 = some L := fun K hK => by rw [hL]; exact toRuleS_at l0 (by omega) K hK
    have hE := eqRuleS_at L hlen
    have hM := markRuleS_at L hlen
    have hEg := eqRuleS_at g (by omega)
    have hMg := markRuleS_at g (by omega)
    have hHg := heldRuleS_at g.length (by omega)
    have n1 : ¬ ((1 : Int) + 2 * (L.length : Int) < 0) := by omega
    have n2 : ¬ (1 + 2 * (g.length : Int) < 0) := by omega
    have n3 : ¬ ((1048576 : Int) - (l0.length : Int) < 0) := by omega
    unfold laws_FnExactMoveRules.f
    rw [szRuleS_at l0 (by omega), if_pos hl]
    simp only [Option.bind_some]
    rw [if_neg n3, hT _ (by omega)]
    simp only [Option.bind_some]
    rw [hs _ (by omega)]
    simp only [Option.bind_some]
    rw [hi _ (by omega)]
    simp only [Option.bind_some]
    rw [hEg _ (by omega)]
    simp only [Option.bind_some]
    rw [if_pos trivial, bne_self_eq_false]
    simp only [laws_FnExactMoveRules.j0]
    rw [if_neg (by simp), hT _ (by omega)]
    simp only [Option.bind_some]
    rw [hE _ (by omega)]
    simp only [Option.bind_some]
    rw [if_pos trivial, hM _ (by omega)]
    simp only [Option.bind_some]
    rw [if_neg n1, hEg _ (by omega)]
    simp only [Option.bind_some]
    rw [if_pos trivial]
    simp only [laws_FnExactMoveRules.j1]
    rw [if_neg (by simp), hMg _ (by omega)]
    simp only [Option.bind_some]
    rw [hHg _ (by omega)]
    simp only [Option.bind_some]
    rw [if_neg n2, if_pos trivial, hT _ (by omega)]
    simp only [Option.bind_some]
    rw [hi _ (by omega)]
    simp only [Option.bind_some]
    rw [hEg _ (by omega)]
    simp only [Option.bind_some]
    rw [if_pos trivial, bne_self_eq_false]
    simp only [laws_FnExactMoveRules.j2]
    rw [if_neg (by simp), hHg _ (by omega)]
    simp only [Option.bind_some]
    rw [if_neg n2, if_pos trivial]
  · refine ⟨1, ?_⟩
    unfold laws_FnExactMoveRules.f
    rw [szRuleS_big l0 hm hl]
    rfl
end OwnFnExactMoveRules
theorem FnExactMoveRules : laws_FnExactMoveRules.Pure := OwnFnExactMoveRules.done
end Go.Proofs.Ytfickjfmcmdfiaa.Pure
