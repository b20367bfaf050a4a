/- CrossedBy of the program and of the reference answer alike at all rules and numbers, and hand back memory of their own: no condition. -/
import Derived.Test.YtfickjfmcmdfiaaPFnExactCrossedByx4
namespace Go.Proofs.Ytfickjfmcmdfiaa.Pure
open Go.RowKit Go.Proofs.Ytfickjfmcmdfiaa.PFnExactCrossedBy Go.Proofs.YtfickjfmcmdfiaaW.PrintWords Go.Proofs.YtfickjfmcmdfiaaW.PrintLast Go.Proofs.YtfickjfmcmdfiaaW.PrintMore
set_option linter.unusedVariables false
set_option linter.unusedSimpArgs false
namespace OwnFnExactCrossedBy
theorem w64 {x : Int} (h0 : -9223372036854775808 ≤ x) (h1 : x ≤ 9223372036854775807) : wrap64 x = x := by unfold wrap64; omega
theorem l1In_at (n a b : Int) : spec_l1In.f n a b = some (decide (a ≤ n ∧ n ≤ b)) := by
  unfold spec_l1In.f
  by_cases h : a ≤ n
  · rw [if_pos (by omega)]; simp [h]
  · rw [if_neg (by omega)]; simp [h]
/-- What a rule is. -/
def ruleB (e r : Int) : Bool := decide (2 ≤ e ∧ e ≤ 60 ∧ 0 ≤ r ∧ r < e)
theorem isRule_at (e r : Int) : impl_isRule.f e r = some (ruleB e r) := by
  unfold impl_isRule.f ruleB
  by_cases h1 : e ≥ 2
  · rw [if_pos h1]
    by_cases h2 : e ≤ 60
    · rw [if_pos h2]
      by_cases h3 : r ≥ 0
      · rw [if_pos h3]
        congr 1
        rw [decide_eq_decide]
        omega
      · rw [if_neg h3, decide_eq_false (by omega)]
    · rw [if_neg h2, decide_eq_false (by omega)]
  · rw [if_neg h1, decide_eq_false (by omega)]
theorem siRule_at (e r : Int) : spec_siRule.f e r = some (ruleB e r) := by
  unfold spec_siRule.f ruleB
  rw [l1In_at]
  simp only [Option.bind_some]
  by_cases h1 : 2 ≤ e ∧ e ≤ 60
  · rw [decide_eq_true h1, if_pos rfl, w64 (by omega) (by omega), l1In_at]
    simp only [Option.bind_some]
    congr 1
    rw [decide_eq_decide]
    omega
  · rw [decide_eq_false h1, if_neg (by simp), decide_eq_false (by omega)]
theorem drop_rdT (xs : List S53) (i : Nat) (h : i < xs.length) : xs.drop i = rd_T53 xs (i : Int) :: xs.drop (i + 1) := by
  rw [List.drop_eq_getElem_cons h]
  simp [rd_T53, List.getD, h]
def conv (x : S59) : S53 := ⟨x.f0, x.f1⟩
theorem take_set_succ {α : Type} (xs : List α) (i : Nat) (v : α) (h : i < xs.length) : (xs.set i v).take (i + 1) = xs.take i ++ [v] := by
  rw [List.take_succ_eq_append_getElem (by simpa using h)]
  simp [List.take_set_of_le]
theorem toRuleS_l0 (xs : List S59) (hx : xs.length ≤ 100000000) : ∀ (d i : Nat) (ys : List S53), i + d = xs.length → ys.length = xs.length → ys.take i = (xs.take i).map conv → ∀ K, d < K → laws_toRuleS.l0 K xs ys i = some (xs.map conv) := by
  intro d
  induction d with
  | zero =>
    intro i ys hi hl ht K hK
    obtain ⟨K, rfl⟩ : ∃ k, K = k + 1 := ⟨K - 1, by omega⟩
    simp only [laws_toRuleS.l0]
    rw [if_neg (by omega)]
    rw [List.take_of_length_le (by omega), List.take_of_length_le (by omega)] at ht
    rw [ht]
  | succ d ih =>
    intro i ys hi hl ht K hK
    obtain ⟨K, rfl⟩ : ∃ k, K = k + 1 := ⟨K - 1, by omega⟩
    simp only [laws_toRuleS.l0, laws_toRule.f, Option.bind_some]
    rw [if_pos (by omega), if_pos (by omega), if_pos (by omega), w64 (by omega) (by omega)]
    refine ih (i + 1) _ (by omega) (by simpa using hl) ?_ K (by omega)
    rw [Int.toNat_natCast, take_set_succ _ _ _ (by omega), ht, List.take_succ_eq_append_getElem (by omega)]
    have e : rd_T59 xs (i : Int) = xs[i]'(by omega) := by
      have hi' : i < xs.length := by omega
      simp [rd_T59, List.getD, hi']
    rw [e, List.map_append]
    rfl
theorem toRuleS_at (xs : List S59) (hx : xs.length ≤ 100000000) (K : Nat) (hK : 100000000 < K) : laws_toRuleS.f K xs = some (xs.map conv) := by
  unfold laws_toRuleS.f
  rw [if_pos (by omega), if_pos (by omega)]
  refine toRuleS_l0 xs hx xs.length 0 _ (by omega) (by simp) rfl K (by omega)
theorem szRuleS_at (xs : List S59) (hx : xs.length ≤ 100000000) : laws_szRuleS.f xs 1048576 = some (if xs.length ≤ 1048576 then (1048576 : Int) - (xs.length : Int) else (-1 : Int)) := by
  unfold laws_szRuleS.f
  rw [w64 (by omega) (by omega)]
  by_cases h : xs.length ≤ 1048576
  · rw [if_neg (by omega), if_pos h]
  · rw [if_pos (by omega), if_neg h]
theorem szRuleS_big (xs : List S59) (h1 : xs.length ≤ maxLen) (hx : ¬ xs.length ≤ 1048576) : laws_szRuleS.f xs 1048576 = some (-1) := by
  unfold maxLen at h1
  unfold laws_szRuleS.f
  rw [w64 (by omega) (by omega), if_pos (by omega)]
theorem eqRuleS_l0 (xs : List S53) (hx : xs.length ≤ 100000000) : ∀ (d i : Nat), i + d = xs.length → ∀ K, d < K → laws_eqRuleS.l0 K xs xs i = some true := by
  intro d
  induction d with
  | zero =>
    intro i hi K hK
    obtain ⟨K, rfl⟩ : ∃ k, K = k + 1 := ⟨K - 1, by omega⟩
    simp only [laws_eqRuleS.l0]
    rw [if_neg (by omega)]
  | succ d ih =>
    intro i hi K hK
    obtain ⟨K, rfl⟩ : ∃ k, K = k + 1 := ⟨K - 1, by omega⟩
    have hlt : (i : Int) < (xs.length : Int) := by omega
    simp only [laws_eqRuleS.l0, laws_eqRule.f]
    rw [if_pos hlt, if_pos (by omega), if_pos hlt, w64 (by omega) (by omega)]
    simp only [if_true, Option.bind_some]
    exact ih (i + 1) (by omega) K (by omega)
theorem eqRuleS_at (xs : List S53) (hx : xs.length ≤ 100000000) (K : Nat) (hK : 100000000 < K) : laws_eqRuleS.f K xs xs = some true := by
  unfold laws_eqRuleS.f
  rw [if_pos rfl]
  exact eqRuleS_l0 xs hx xs.length 0 (by omega) K (by omega)
/-- What a list of rules is. -/
def goodB (L : List S53) : Bool := decide (L.length ≤ 12) && L.all (fun x => ruleB x.f0 x.f1)
theorem areAny_at : ∀ L : List S53, impl_areRules.any L = some (!(L.all fun x => ruleB x.f0 x.f1))
  | [] => rfl
  | x :: xs => by
    simp only [impl_areRules.any, isRule_at, Option.bind_some, List.all_cons]
    rw [areAny_at xs]
    cases ruleB x.f0 x.f1 <;> simp
theorem areRules_at (L : List S53) : impl_areRules.f L = some (goodB L) := by
  unfold impl_areRules.f goodB
  rw [areAny_at]
  by_cases h : L.length ≤ 12
  · rw [if_pos (by omega)]; simp [h]
  · rw [if_neg (by omega)]; simp [h]
theorem siGood_l0 (L : List S53) (hL : L.length ≤ 12) : ∀ (d i : Nat), i + d = L.length → ∀ K, d < K → spec_siGood.l0 K L L.length i = some ((L.drop i).all fun x => ruleB x.f0 x.f1) := by
  intro d
  induction d with
  | zero =>
    intro i hi K hK
    obtain ⟨K, rfl⟩ : ∃ k, K = k + 1 := ⟨K - 1, by omega⟩
    simp only [spec_siGood.l0]
    rw [if_neg (by omega), List.drop_of_length_le (by omega)]
    rfl
  | succ d ih =>
    intro i hi K hK
    obtain ⟨K, rfl⟩ : ∃ k, K = k + 1 := ⟨K - 1, by omega⟩
    have hlt : (i : Int) < (L.length : Int) := by omega
    have h := ih (i + 1) (by omega) K (by omega)
    simp only [spec_siGood.l0]
    rw [if_pos hlt, if_pos (by omega), if_pos hlt, siRule_at, w64 (by omega) (by omega), drop_rdT L i (by omega)]
    simp only [Option.bind_some, List.all_cons]
    rw [show (i : Int) + 1 = ((i + 1 : Nat) : Int) from by omega, h]
    cases ruleB (rd_T53 L (i : Int)).f0 (rd_T53 L (i : Int)).f1 <;> simp
theorem siGood_at (L : List S53) (K : Nat) (hK : 100 < K) : spec_siGood.f K L = some (goodB L) := by
  unfold spec_siGood.f goodB
  by_cases h : L.length ≤ 12
  · have h0 := siGood_l0 L h L.length 0 (by omega) K (by omega)
    have h0' : spec_siGood.l0 K L L.length 0 = _ := h0
    rw [if_neg (by omega), h0']; simp [h]
  · rw [if_pos (by omega)]; simp [h]
theorem good_len {L : List S53} (h : goodB L = true) : L.length ≤ 12 := by
  unfold goodB at h
  simp at h
  exact h.1
theorem good_mem {L : List S53} (h : goodB L = true) (x : S53) (hx : x ∈ L) : 2 ≤ x.f0 ∧ x.f0 ≤ 60 ∧ 0 ≤ x.f1 ∧ x.f1 < x.f0 := by
  unfold goodB at h
  simp at h
  have := h.2 x hx
  unfold ruleB at this
  simpa using this
/-- The remainder, as both texts reckon it. -/
def modZ (n e : Int) : Int := Int.tmod (wrap64 (Int.tmod n e + e)) e
theorem mod_at (n e : Int) (h : e ≠ 0) : impl_mod.f n e = some (modZ n e) := by
  unfold impl_mod.f modZ; rw [if_neg h]
theorem siRest_at (n e : Int) (h : e ≠ 0) : spec_siRest.f n e = some (modZ n e) := by
  unfold spec_siRest.f modZ; rw [if_neg h]
/-- The first rule that crosses a number out, from index i on; -1 for none. -/
def firstZ (n : Int) : Int → List S53 → Int
  | _, [] => -1
  | i, x :: xs => if modZ n x.f0 = x.f1 then i else firstZ n (i + 1) xs
theorem firstRule_go (n : Int) : ∀ (L : List S53) (i : Int), (∀ x ∈ L, x.f0 ≠ 0) → impl_firstRule.go n i L = some (firstZ n i L)
  | [], _, _ => rfl
  | x :: xs, i, h => by
    simp only [impl_firstRule.go, firstZ]
    rw [mod_at n _ (h x (by simp)), firstRule_go n xs (i + 1) (fun y hy => h y (by simp [hy]))]
    simp only [Option.bind_some]
    split <;> rfl
theorem firstRule_at (n : Int) (L : List S53) (h : goodB L = true) : impl_firstRule.f L n = some (firstZ n 0 L) :=
  firstRule_go n L 0 (fun x hx => by have := good_mem h x hx; omega)
theorem siFirst_l0 (n : Int) (L : List S53) (hL : L.length ≤ 12) (h0 : ∀ x ∈ L, x.f0 ≠ 0) : ∀ (d i : Nat), i + d = L.length → ∀ K, d < K → spec_siFirst.l0 K n L L.length i = some (firstZ n i (L.drop i)) := by
  intro d
  induction d with
  | zero =>
    intro i hi K hK
    obtain ⟨K, rfl⟩ : ∃ k, K = k + 1 := ⟨K - 1, by omega⟩
    simp only [spec_siFirst.l0]
    rw [if_neg (by omega), List.drop_of_length_le (by omega)]
    rfl
  | succ d ih =>
    intro i hi K hK
    obtain ⟨K, rfl⟩ : ∃ k, K = k + 1 := ⟨K - 1, by omega⟩
    have hlt : (i : Int) < (L.length : Int) := by omega
    have h := ih (i + 1) (by omega) K (by omega)
    have hd := drop_rdT L i (by omega)
    have hm : rd_T53 L (i : Int) ∈ L := List.mem_of_mem_drop (i := i) (by rw [hd]; simp)
    simp only [spec_siFirst.l0]
    rw [if_pos hlt, if_pos (by omega), if_pos hlt, siRest_at _ _ (h0 _ hm), w64 (by omega) (by omega), hd]
    simp only [Option.bind_some, firstZ]
    rw [show (i : Int) + 1 = ((i + 1 : Nat) : Int) from by omega, h]
    split <;> rfl
theorem siFirst_at (n : Int) (L : List S53) (h : goodB L = true) (K : Nat) (hK : 100 < K) : spec_siFirst.f K L n = some (firstZ n 0 L) :=
  siFirst_l0 n L (good_len h) (fun x hx => by have := good_mem h x hx; omega) L.length 0 (by omega) K (by have := good_len h; omega)
theorem isMost_at (n : Int) : impl_isMost.f n = some (decide (0 ≤ n ∧ n ≤ 600)) := by
  unfold impl_isMost.f
  by_cases h : 0 ≤ n
  · rw [if_pos (by omega)]; simp [h]
  · rw [if_neg (by omega)]; simp [h]
theorem siMost_at (L : List S53) (n : Int) (K : Nat) (hK : 100 < K) : spec_siMost.f K L n = some (goodB L && decide (0 ≤ n ∧ n ≤ 600)) := by
  unfold spec_siMost.f
  rw [siGood_at L K hK, l1In_at]
  cases goodB L <;> simp
/-- Those of d numbers from n on that a test lets in. -/
def ff (p : Int → Bool) : Nat → Int → List Int
  | 0, _ => []
  | d + 1, n => if p n = true then n :: ff p d (n + 1) else ff p d (n + 1)
theorem ff_len (p : Int → Bool) : ∀ (d : Nat) (n : Int), (ff p d n).length ≤ d
  | 0, _ => Nat.le_refl _
  | d + 1, n => by
    unfold ff
    have := ff_len p d (n + 1)
    split
    · simp; omega
    · omega
theorem drop_rd (xs : List Int) (i : Nat) (h : i < xs.length) : xs.drop i = rd xs (i : Int) :: xs.drop (i + 1) := by
  rw [List.drop_eq_getElem_cons h]
  simp [rd, List.getD, h]
theorem eqIntS_l0 (xs : List Int) (hx : xs.length ≤ 1000000000000) : ∀ (d i : Nat), i + d = xs.length → ∀ K, d < K → laws_eqIntS.l0 K xs xs i = some true := by
  intro d
  induction d with
  | zero =>
    intro i hi K hK
    obtain ⟨K, rfl⟩ : ∃ k, K = k + 1 := ⟨K - 1, by omega⟩
    simp only [laws_eqIntS.l0]
    rw [if_neg (by omega)]
  | succ d ih =>
    intro i hi K hK
    obtain ⟨K, rfl⟩ : ∃ k, K = k + 1 := ⟨K - 1, by omega⟩
    have hlt : (i : Int) < (xs.length : Int) := by omega
    simp only [laws_eqIntS.l0]
    rw [if_pos hlt, if_pos (by omega), if_pos hlt, if_pos trivial, w64 (by omega) (by omega)]
    exact ih (i + 1) (by omega) K (by omega)
theorem eqIntS_at (xs : List Int) (hx : xs.length ≤ 100000000) (K : Nat) (hK : 100000000 < K) : laws_eqIntS.f K xs xs = some true := by
  unfold laws_eqIntS.f
  rw [if_pos rfl]
  exact eqIntS_l0 xs (by omega) xs.length 0 (by omega) K (by omega)
/-- So many numbers in a row, from v on. -/
def upw : Nat → Int → List Int
  | 0, _ => []
  | n + 1, v => upw n v ++ [v + n]
theorem upw_len : ∀ n v, (upw n v).length = n
  | 0, _ => rfl
  | n + 1, v => by simp [upw, upw_len n v]
theorem upw_get : ∀ (n : Nat) (v : Int) (i : Nat), i < n → (upw n v)[i]? = some (v + i)
  | n + 1, v, i, h => by
    unfold upw
    by_cases e : i = n
    · subst e
      rw [List.getElem?_append_right (by rw [upw_len]; exact Nat.le_refl _), upw_len]
      simp
    · rw [List.getElem?_append_left (by rw [upw_len]; omega)]
      exact upw_get n v i (by omega)
theorem markIntS_l0 : ∀ (d i : Nat) (xs : List Int), i + d = xs.length → xs.length ≤ 100000000 → xs.take i = upw i 1 → ∀ K, d < K → laws_markIntS.l0 K xs (1 + i) i = some (1 + (xs.length : Int), upw xs.length 1) := by
  intro d
  induction d with
  | zero =>
    intro i xs hi hx ht K hK
    obtain ⟨K, rfl⟩ : ∃ k, K = k + 1 := ⟨K - 1, by omega⟩
    simp only [laws_markIntS.l0]
    rw [if_neg (by omega)]
    obtain rfl : i = xs.length := by omega
    rw [List.take_length] at ht
    rw [← ht]
  | succ d ih =>
    intro i xs hi hx ht K hK
    obtain ⟨K, rfl⟩ : ∃ k, K = k + 1 := ⟨K - 1, by omega⟩
    simp only [laws_markIntS.l0]
    rw [if_pos (by omega), if_pos (by omega), w64 (by omega) (by omega), w64 (by omega) (by omega)]
    have h := ih (i + 1) (xs.set i (1 + i)) (by simp; omega) (by simpa using hx) (by rw [take_set_succ _ _ _ (by omega), ht]; rfl) K (by omega)
    simp only [List.length_set, Int.toNat_natCast] at h ⊢
    rw [show (1 : Int) + (i : Int) + 1 = 1 + ((i + 1 : Nat) : Int) from by omega, show (i : Int) + 1 = ((i + 1 : Nat) : Int) from by omega]
    exact h
theorem markIntS_at (xs : List Int) (hx : xs.length ≤ 100000000) (K : Nat) (hK : 100000000 < K) : laws_markIntS.f K xs 1 = some (1 + (xs.length : Int), upw xs.length 1) :=
  markIntS_l0 xs.length 0 xs (by omega) hx rfl K (by omega)
theorem heldIntS_l0 (n : Nat) (hn : n ≤ 100000000) : ∀ (d i : Nat), i + d = n → ∀ K, d < K → laws_heldIntS.l0 K (upw n 1) (1 + i) i = some (1 + (n : Int)) := by
  intro d
  induction d with
  | zero =>
    intro i hi K hK
    obtain ⟨K, rfl⟩ : ∃ k, K = k + 1 := ⟨K - 1, by omega⟩
    simp only [laws_heldIntS.l0, upw_len]
    rw [if_neg (by omega)]
    obtain rfl : i = n := by omega
    rfl
  | succ d ih =>
    intro i hi K hK
    obtain ⟨K, rfl⟩ : ∃ k, K = k + 1 := ⟨K - 1, by omega⟩
    simp only [laws_heldIntS.l0, upw_len]
    have hr : rd (upw n 1) (i : Int) = 1 + i := by
      unfold rd
      rw [List.getD_eq_getElem?_getD, Int.toNat_natCast, upw_get n 1 i (by omega)]
      rfl
    rw [if_pos (by omega), if_pos (by omega), if_pos hr, w64 (by omega) (by omega), w64 (by omega) (by omega)]
    have h := ih (i + 1) (by omega) K (by omega)
    rw [show (1 : Int) + (i : Int) + 1 = 1 + ((i + 1 : Nat) : Int) from by omega, show (i : Int) + 1 = ((i + 1 : Nat) : Int) from by omega]
    exact h
theorem heldIntS_at (n : Nat) (hn : n ≤ 100000000) (K : Nat) (hK : 100000000 < K) : laws_heldIntS.f K (upw n 1) 1 = some (1 + (n : Int)) :=
  heldIntS_l0 n hn n 0 (by omega) K (by omega)
theorem rdT_set (xs : List S53) (i : Nat) (v : S53) (h : i < xs.length) : rd_T53 (xs.set i v) (i : Int) = v := by
  simp [rd_T53, List.getD, h]
/-- Marked rules. -/
def upr : Nat → List S53
  | 0 => []
  | n + 1 => upr n ++ [⟨1 + 2 * n, 1 + 2 * n + 1⟩]
theorem upr_len : ∀ n, (upr n).length = n
  | 0 => rfl
  | n + 1 => by simp [upr, upr_len n]
theorem upr_get : ∀ (n i : Nat), i < n → (upr n)[i]? = some ⟨1 + 2 * i, 1 + 2 * i + 1⟩
  | n + 1, i, h => by
    unfold upr
    by_cases e : i = n
    · subst e
      rw [List.getElem?_append_right (by rw [upr_len]; exact Nat.le_refl _), upr_len]
      simp
    · rw [List.getElem?_append_left (by rw [upr_len]; omega)]
      exact upr_get n i (by omega)
theorem markRuleS_l0 : ∀ (d i : Nat) (xs : List S53), i + d = xs.length → xs.length ≤ 100000000 → xs.take i = upr i → ∀ K, d < K → laws_markRuleS.l0 K xs (1 + 2 * i) i = some (1 + 2 * (xs.length : Int), upr xs.length) := by
  intro d
  induction d with
  | zero =>
    intro i xs hi hx ht K hK
    obtain ⟨K, rfl⟩ : ∃ k, K = k + 1 := ⟨K - 1, by omega⟩
    simp only [laws_markRuleS.l0]
    rw [if_neg (by omega)]
    obtain rfl : i = xs.length := by omega
    rw [List.take_length] at ht
    rw [← ht]
  | succ d ih =>
    intro i xs hi hx ht K hK
    obtain ⟨K, rfl⟩ : ∃ k, K = k + 1 := ⟨K - 1, by omega⟩
    simp only [laws_markRuleS.l0, Option.bind_some, Int.toNat_natCast]
    rw [if_pos (by omega), if_pos (by omega), w64 (x := (i : Int) + 1) (by omega) (by omega), w64 (x := 1 + 2 * (i : Int) + 1) (by omega) (by omega), w64 (x := 1 + 2 * (i : Int) + 1 + 1) (by omega) (by omega), rdT_set xs i _ (by omega), List.set_set]
    have h := ih (i + 1) (xs.set i ⟨1 + 2 * i, 1 + 2 * i + 1⟩) (by simp; omega) (by simpa using hx) (by rw [take_set_succ _ _ _ (by omega), ht]; rfl) K (by omega)
    simp only [List.length_set] at h
    rw [show (1 : Int) + 2 * (i : Int) + 1 + 1 = 1 + 2 * ((i + 1 : Nat) : Int) from by omega, show (i : Int) + 1 = ((i + 1 : Nat) : Int) from by omega]
    exact h
theorem markRuleS_at (xs : List S53) (hx : xs.length ≤ 100000000) (K : Nat) (hK : 100000000 < K) : laws_markRuleS.f K xs 1 = some (1 + 2 * (xs.length : Int), upr xs.length) :=
  markRuleS_l0 xs.length 0 xs (by omega) hx rfl K (by omega)
theorem cross_l0 (L : List S53) (hg : goodB L = true) (k hi : Int) (hh : hi ≤ 600) : ∀ (d : Nat) (m : Int) (acc : List Int), 0 ≤ m → hi + 1 - m ≤ d → acc.length + d ≤ 100000 →
    ∀ K, 101 + d < K → spec_CrossedBy.l0 K L k hi acc m = some (acc ++ ff (fun n => decide (firstZ n 0 L = k)) (hi + 1 - m).toNat m, true) ∧ impl_CrossedBy.l0 K L k hi acc m = some (acc ++ ff (fun n => decide (firstZ n 0 L = k)) (hi + 1 - m).toNat m, true) := by
  intro d
  induction d with
  | zero =>
    intro m acc h0 h1 h2 K hK
    obtain ⟨K, rfl⟩ : ∃ k, K = k + 1 := ⟨K - 1, by omega⟩
    have hc : ¬ m ≤ hi := by omega
    simp only [spec_CrossedBy.l0, impl_CrossedBy.l0]
    rw [if_neg hc, if_neg hc, show (hi + 1 - m).toNat = 0 from by omega]
    simp [ff]
  | succ d ih =>
    intro m acc h0 h1 h2 K hK
    obtain ⟨K, rfl⟩ : ∃ k, K = k + 1 := ⟨K - 1, by omega⟩
    simp only [spec_CrossedBy.l0, impl_CrossedBy.l0]
    by_cases hc : m ≤ hi
    · rw [if_pos hc, if_pos hc, siFirst_at m L hg K (by omega), firstRule_at m L hg, w64 (x := m + 1) (by omega) (by omega)]
      simp only [Option.bind_some]
      rw [show (hi + 1 - m).toNat = (hi + 1 - (m + 1)).toNat + 1 from by omega]
      unfold ff
      by_cases hp : firstZ m 0 L = k
      · have h3 : acc.length < 17592186044416 := by omega
        have h4 := ih (m + 1) (acc ++ [m]) (by omega) (by omega) (by simp; omega) K (by omega)
        rw [if_pos hp, if_pos hp, if_pos h3, if_pos h3, h4.1, h4.2, if_pos (decide_eq_true hp)]
        simp
      · have h4 := ih (m + 1) acc (by omega) (by omega) (by omega) K (by omega)
        rw [if_neg hp, if_neg hp, h4.1, h4.2, if_neg (by simp [hp])]
        exact ⟨rfl, rfl⟩
    · rw [if_neg hc, if_neg hc, show (hi + 1 - m).toNat = 0 from by omega]
      simp [ff]
theorem both (L : List S53) (k hi : Int) : ∃ (g : List Int) (ok : Bool), g.length ≤ 1000000 ∧ ∀ K, 100000000 < K → spec_CrossedBy.f K L k hi = some (g, ok) ∧ impl_CrossedBy.f K L k hi = some (g, ok) := by
  unfold spec_CrossedBy.f impl_CrossedBy.f
  by_cases hg : goodB L = true
  · have hlen := good_len hg
    by_cases h2 : 0 ≤ hi ∧ hi ≤ 600
    · by_cases hk : 0 ≤ k ∧ k ≤ (L.length : Int) - 1
      · have hl := ff_len (fun n => decide (firstZ n 0 L = k)) hi.toNat 1
        refine ⟨ff (fun n => decide (firstZ n 0 L = k)) hi.toNat 1, true, by omega, fun K hK => ?_⟩
        obtain ⟨K, rfl⟩ : ∃ k, K = k + 1 := ⟨K - 1, by omega⟩
        have hb := cross_l0 L hg k hi h2.2 1000 1 [] (by omega) (by omega) (by simp) K (by omega)
        rw [show (hi + 1 - 1) = hi from by omega, List.nil_append] at hb
        rw [siMost_at L hi _ (by omega), areRules_at, isMost_at, l1In_at, w64 (by omega) (by omega), hg, decide_eq_true h2, decide_eq_true hk]
        simp only [Bool.and_self, Option.bind_some, spec_CrossedBy.j0, impl_CrossedBy.j0]
        rw [if_pos trivial, if_pos trivial, if_neg (by simp), if_neg (by omega), if_neg (by omega), if_neg (by simp)]
        exact hb
      · refine ⟨[], false, by simp, fun K hK => ?_⟩
        obtain ⟨K, rfl⟩ : ∃ k, K = k + 1 := ⟨K - 1, by omega⟩
        rw [siMost_at L hi _ (by omega), areRules_at, isMost_at, l1In_at, w64 (by omega) (by omega), hg, decide_eq_true h2, decide_eq_false hk]
        simp only [Bool.and_self, Option.bind_some, spec_CrossedBy.j0, impl_CrossedBy.j0]
        refine ⟨by simp, ?_⟩
        by_cases h3 : k < 0
        · simp [h3]
        · have h4 : k ≥ (L.length : Int) := by omega
          simp [h3, h4]
    · refine ⟨[], false, by simp, fun K hK => ?_⟩
      obtain ⟨K, rfl⟩ : ∃ k, K = k + 1 := ⟨K - 1, by omega⟩
      rw [siMost_at L hi _ (by omega), areRules_at, isMost_at, hg, decide_eq_false h2]
      simp only [Bool.and_false, Option.bind_some, spec_CrossedBy.j0, impl_CrossedBy.j0]
      refine ⟨by simp, ?_⟩
      by_cases h3 : k < 0
      · simp [h3]
      · by_cases h4 : k ≥ (L.length : Int)
        · simp [h3, h4]
        · simp [h3, h4]
  · refine ⟨[], false, by simp, fun K hK => ?_⟩
    obtain ⟨K, rfl⟩ : ∃ k, K = k + 1 := ⟨K - 1, by omega⟩
    rw [siMost_at L hi _ (by omega), areRules_at]
    simp only [Option.bind_some, spec_CrossedBy.j0, impl_CrossedBy.j0]
    exact ⟨by simp [hg], by simp [hg]⟩

theorem done : laws_FnExactCrossedBy.Pure := by
  intro l0 k hi hm hb hw _ _
  by_cases hl : l0.length ≤ 1048576
  · refine ⟨1000000000, ?_⟩
    obtain ⟨L, hL⟩ : ∃ L, L = l0.map conv := ⟨_, rfl⟩
    have hlen : L.length ≤ 100000000 := by rw [hL, List.length_map]; omega
    obtain ⟨g, ok, hg, hsi⟩ := both L k hi
    have hs := fun K hK => (hsi K hK).1
    have hi := fun K hK => (hsi K hK).2
    have hT : ∀ K, 100000000 < K → laws_toRuleS.f K l0 = some L := fun K hK => by rw [hL]; exact toRuleS_at l0 (by omega) K hK
    have hE := eqRuleS_at L hlen
    have hM := markRuleS_at L hlen
    have hEg := eqIntS_at g (by omega)
    have hMg := markIntS_at g (by omega)
    have hHg := heldIntS_at g.length (by omega)
    have n1 : ¬ ((1 : Int) + 2 * (L.length : Int) < 0) := by omega
    have n2 : ¬ (1 + (g.length : Int) < 0) := by omega
    have n3 : ¬ ((1048576 : Int) - (l0.length : Int) < 0) := by omega
    unfold laws_FnExactCrossedBy.f
    rw [szRuleS_at l0 (by omega), if_pos hl]
    simp only [Option.bind_some]
    rw [if_neg n3, hT _ (by omega)]
    simp only [Option.bind_some]
    rw [hs _ (by omega)]
    simp only [Option.bind_some]
    rw [hi _ (by omega)]
    simp only [Option.bind_some]
    rw [hEg _ (by omega)]
    simp only [Option.bind_some]
    rw [if_pos trivial, bne_self_eq_false]
    simp only [laws_FnExactCrossedBy.j0]
    rw [if_neg (by simp), hT _ (by omega)]
    simp only [Option.bind_some]
    rw [hE _ (by omega)]
    simp only [Option.bind_some]
    rw [if_pos trivial, hM _ (by omega)]
    simp only [Option.bind_some]
    rw [if_neg n1, hEg _ (by omega)]
    simp only [Option.bind_some]
    rw [if_pos trivial]
    simp only [laws_FnExactCrossedBy.j1]
    rw [if_neg (by simp), hMg _ (by omega)]
    simp only [Option.bind_some]
    rw [hHg _ (by omega)]
    simp only [Option.bind_some]
    rw [if_neg n2, if_pos trivial, hT _ (by omega)]
    simp only [Option.bind_some]
    rw [hi _ (by omega)]
    simp only [Option.bind_some]
    rw [hEg _ (by omega)]
    simp only [Option.bind_some]
    rw [if_pos trivial, bne_self_eq_false]
    simp only [laws_FnExactCrossedBy.j2]
    rw [if_neg (by simp), hHg _ (by omega)]
    simp only [Option.bind_some]
    rw [if_neg n2, if_pos trivial]
  · refine ⟨1, ?_⟩
    unfold laws_FnExactCrossedBy.f
    rw [szRuleS_big l0 hm hl]
    rfl
end OwnFnExactCrossedBy
theorem FnExactCrossedBy : laws_FnExactCrossedBy.Pure := OwnFnExactCrossedBy.done
end Go.Proofs.Ytfickjfmcmdfiaa.Pure
