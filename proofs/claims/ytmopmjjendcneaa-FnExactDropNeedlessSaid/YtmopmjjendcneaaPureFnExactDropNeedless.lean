/- DropNeedless of the program and of the reference answer alike at all rules, and hand back memory of their own: no condition. -/
import Derived.Test.YtmopmjjendcneaaPFnExactDropNeedlessx5
namespace Go.Proofs.Ytmopmjjendcneaa.Pure
open Go.RowKit Go.Proofs.Ytmopmjjendcneaa.PFnExactDropNeedless Go.Proofs.YtmopmjjendcneaaW.PrintWords Go.Proofs.YtmopmjjendcneaaW.PrintLast Go.Proofs.YtmopmjjendcneaaW.PrintMore
set_option linter.unusedVariables false
set_option linter.unusedSimpArgs false
namespace OwnFnExactDropNeedless
theorem w64 {x : Int} (h0 : -9223372036854775808 ≤ x) (h1 : x ≤ 9223372036854775807) : wrap64 x = x := by unfold wrap64; omega
theorem l1In_at (n a b : Int) : spec_l1In.f n a b = some (decide (a ≤ n ∧ n ≤ b)) := by
  unfold spec_l1In.f
  by_cases h : a ≤ n
  · rw [if_pos (by omega)]; simp [h]
  · rw [if_neg (by omega)]; simp [h]
/-- What a rule is. -/
def ruleB (e r : Int) : Bool := decide (2 ≤ e ∧ e ≤ 60 ∧ 0 ≤ r ∧ r < e)
theorem isRule_at (e r : Int) : impl_isRule.f e r = some (ruleB e r) := by
  unfold impl_isRule.f ruleB
  by_cases h1 : e ≥ 2
  · rw [if_pos h1]
    by_cases h2 : e ≤ 60
    · rw [if_pos h2]
      by_cases h3 : r ≥ 0
      · rw [if_pos h3]
        congr 1
        rw [decide_eq_decide]
        omega
      · rw [if_neg h3, decide_eq_false (by omega)]
    · rw [if_neg h2, decide_eq_false (by omega)]
  · rw [if_neg h1, decide_eq_false (by omega)]
theorem siRule_at (e r : Int) : spec_siRule.f e r = some (ruleB e r) := by
  unfold spec_siRule.f ruleB
  rw [l1In_at]
  simp only [Option.bind_some]
  by_cases h1 : 2 ≤ e ∧ e ≤ 60
  · rw [decide_eq_true h1, if_pos rfl, w64 (by omega) (by omega), l1In_at]
    simp only [Option.bind_some]
    congr 1
    rw [decide_eq_decide]
    omega
  · rw [decide_eq_false h1, if_neg (by simp), decide_eq_false (by omega)]
theorem drop_rdT (xs : List S44) (i : Nat) (h : i < xs.length) : xs.drop i = rd_T44 xs (i : Int) :: xs.drop (i + 1) := by
  rw [List.drop_eq_getElem_cons h]
  simp [rd_T44, List.getD, h]
def conv (x : S46) : S44 := ⟨x.f0, x.f1⟩
theorem take_set_succ {α : Type} (xs : List α) (i : Nat) (v : α) (h : i < xs.length) : (xs.set i v).take (i + 1) = xs.take i ++ [v] := by
  rw [List.take_succ_eq_append_getElem (by simpa using h)]
  simp [List.take_set_of_le]
theorem toRuleS_l0 (xs : List S46) (hx : xs.length ≤ 100000000) : ∀ (d i : Nat) (ys : List S44), i + d = xs.length → ys.length = xs.length → ys.take i = (xs.take i).map conv → ∀ K, d < K → laws_toRuleS.l0 K xs ys i = some (xs.map conv) := by
  intro d
  induction d with
  | zero =>
    intro i ys hi hl ht K hK
    obtain ⟨K, rfl⟩ : ∃ k, K = k + 1 := ⟨K - 1, by omega⟩
    simp only [laws_toRuleS.l0]
    rw [if_neg (by omega)]
    rw [List.take_of_length_le (by omega), List.take_of_length_le (by omega)] at ht
    rw [ht]
  | succ d ih =>
    intro i ys hi hl ht K hK
    obtain ⟨K, rfl⟩ : ∃ k, K = k + 1 := ⟨K - 1, by omega⟩
    simp only [laws_toRuleS.l0, laws_toRule.f, Option.bind_some]
    rw [if_pos (by omega), if_pos (by omega), if_pos (by omega), w64 (by omega) (by omega)]
    refine ih (i + 1) _ (by omega) (by simpa using hl) ?_ K (by omega)
    rw [Int.toNat_natCast, take_set_succ _ _ _ (by omega), ht, List.take_succ_eq_append_getElem (by omega)]
    have e : rd_T46 xs (i : Int) = xs[i]'(by omega) := by
      have hi' : i < xs.length := by omega
      simp [rd_T46, List.getD, hi']
    rw [e, List.map_append]
    rfl
theorem toRuleS_at (xs : List S46) (hx : xs.length ≤ 100000000) (K : Nat) (hK : 100000000 < K) : laws_toRuleS.f K xs = some (xs.map conv) := by
  unfold laws_toRuleS.f
  rw [if_pos (by omega), if_pos (by omega)]
  refine toRuleS_l0 xs hx xs.length 0 _ (by omega) (by simp) rfl K (by omega)
theorem szRuleS_at (xs : List S46) (hx : xs.length ≤ 100000000) : laws_szRuleS.f xs 1048576 = some (if xs.length ≤ 1048576 then (1048576 : Int) - (xs.length : Int) else (-1 : Int)) := by
  unfold laws_szRuleS.f
  rw [w64 (by omega) (by omega)]
  by_cases h : xs.length ≤ 1048576
  · rw [if_neg (by omega), if_pos h]
  · rw [if_pos (by omega), if_neg h]
theorem szRuleS_big (xs : List S46) (h1 : xs.length ≤ maxLen) (hx : ¬ xs.length ≤ 1048576) : laws_szRuleS.f xs 1048576 = some (-1) := by
  unfold maxLen at h1
  unfold laws_szRuleS.f
  rw [w64 (by omega) (by omega), if_pos (by omega)]
theorem eqRuleS_l0 (xs : List S44) (hx : xs.length ≤ 100000000) : ∀ (d i : Nat), i + d = xs.length → ∀ K, d < K → laws_eqRuleS.l0 K xs xs i = some true := by
  intro d
  induction d with
  | zero =>
    intro i hi K hK
    obtain ⟨K, rfl⟩ : ∃ k, K = k + 1 := ⟨K - 1, by omega⟩
    simp only [laws_eqRuleS.l0]
    rw [if_neg (by omega)]
  | succ d ih =>
    intro i hi K hK
    obtain ⟨K, rfl⟩ : ∃ k, K = k + 1 := ⟨K - 1, by omega⟩
    have hlt : (i : Int) < (xs.length : Int) := by omega
    simp only [laws_eqRuleS.l0, laws_eqRule.f]
    rw [if_pos hlt, if_pos (by omega), if_pos hlt, w64 (by omega) (by omega)]
    simp only [if_true, Option.bind_some]
    exact ih (i + 1) (by omega) K (by omega)
theorem eqRuleS_at (xs : List S44) (hx : xs.length ≤ 100000000) (K : Nat) (hK : 100000000 < K) : laws_eqRuleS.f K xs xs = some true := by
  unfold laws_eqRuleS.f
  rw [if_pos rfl]
  exact eqRuleS_l0 xs hx xs.length 0 (by omega) K (by omega)
/-- What a list of rules is. -/
def goodB (L : List S44) : Bool := decide (L.length ≤ 12) && L.all (fun x => ruleB x.f0 x.f1)
theorem areAny_at : ∀ L : List S44, impl_areRules.any L = some (!(L.all fun x => ruleB x.f0 x.f1))
  | [] => rfl
  | x :: xs => by
    simp only [impl_areRules.any, isRule_at, Option.bind_some, List.all_cons]
    rw [areAny_at xs]
    cases ruleB x.f0 x.f1 <;> simp
theorem areRules_at (L : List S44) : impl_areRules.f L = some (goodB L) := by
  unfold impl_areRules.f goodB
  rw [areAny_at]
  by_cases h : L.length ≤ 12
  · rw [if_pos (by omega)]; simp [h]
  · rw [if_neg (by omega)]; simp [h]
theorem siGood_l0 (L : List S44) (hL : L.length ≤ 12) : ∀ (d i : Nat), i + d = L.length → ∀ K, d < K → spec_siGood.l0 K L L.length i = some ((L.drop i).all fun x => ruleB x.f0 x.f1) := by
  intro d
  induction d with
  | zero =>
    intro i hi K hK
    obtain ⟨K, rfl⟩ : ∃ k, K = k + 1 := ⟨K - 1, by omega⟩
    simp only [spec_siGood.l0]
    rw [if_neg (by omega), List.drop_of_length_le (by omega)]
    rfl
  | succ d ih =>
    intro i hi K hK
    obtain ⟨K, rfl⟩ : ∃ k, K = k + 1 := ⟨K - 1, by omega⟩
    have hlt : (i : Int) < (L.length : Int) := by omega
    have h := ih (i + 1) (by omega) K (by omega)
    simp only [spec_siGood.l0]
    rw [if_pos hlt, if_pos (by omega), if_pos hlt, siRule_at, w64 (by omega) (by omega), drop_rdT L i (by omega)]
    simp only [Option.bind_some, List.all_cons]
    rw [show (i : Int) + 1 = ((i + 1 : Nat) : Int) from by omega, h]
    cases ruleB (rd_T44 L (i : Int)).f0 (rd_T44 L (i : Int)).f1 <;> simp
theorem siGood_at (L : List S44) (K : Nat) (hK : 100 < K) : spec_siGood.f K L = some (goodB L) := by
  unfold spec_siGood.f goodB
  by_cases h : L.length ≤ 12
  · have h0 := siGood_l0 L h L.length 0 (by omega) K (by omega)
    have h0' : spec_siGood.l0 K L L.length 0 = _ := h0
    rw [if_neg (by omega), h0']; simp [h]
  · rw [if_pos (by omega)]; simp [h]
theorem good_len {L : List S44} (h : goodB L = true) : L.length ≤ 12 := by
  unfold goodB at h
  simp at h
  exact h.1
theorem good_mem {L : List S44} (h : goodB L = true) (x : S44) (hx : x ∈ L) : 2 ≤ x.f0 ∧ x.f0 ≤ 60 ∧ 0 ≤ x.f1 ∧ x.f1 < x.f0 := by
  unfold goodB at h
  simp at h
  have := h.2 x hx
  unfold ruleB at this
  simpa using this
/-- The remainder, as both texts reckon it. -/
def modZ (n e : Int) : Int := Int.tmod (wrap64 (Int.tmod n e + e)) e
theorem mod_at (n e : Int) (h : e ≠ 0) : impl_mod.f n e = some (modZ n e) := by
  unfold impl_mod.f modZ; rw [if_neg h]
theorem siRest_at (n e : Int) (h : e ≠ 0) : spec_siRest.f n e = some (modZ n e) := by
  unfold spec_siRest.f modZ; rw [if_neg h]
/-- The first rule that crosses a number out, from index i on; -1 for none. -/
def firstZ (n : Int) : Int → List S44 → Int
  | _, [] => -1
  | i, x :: xs => if modZ n x.f0 = x.f1 then i else firstZ n (i + 1) xs
theorem firstRule_go (n : Int) : ∀ (L : List S44) (i : Int), (∀ x ∈ L, x.f0 ≠ 0) → impl_firstRule.go n i L = some (firstZ n i L)
  | [], _, _ => rfl
  | x :: xs, i, h => by
    simp only [impl_firstRule.go, firstZ]
    rw [mod_at n _ (h x (by simp)), firstRule_go n xs (i + 1) (fun y hy => h y (by simp [hy]))]
    simp only [Option.bind_some]
    split <;> rfl
theorem firstRule_at (n : Int) (L : List S44) (h : goodB L = true) : impl_firstRule.f L n = some (firstZ n 0 L) :=
  firstRule_go n L 0 (fun x hx => by have := good_mem h x hx; omega)
theorem siFirst_l0 (n : Int) (L : List S44) (hL : L.length ≤ 12) (h0 : ∀ x ∈ L, x.f0 ≠ 0) : ∀ (d i : Nat), i + d = L.length → ∀ K, d < K → spec_siFirst.l0 K n L L.length i = some (firstZ n i (L.drop i)) := by
  intro d
  induction d with
  | zero =>
    intro i hi K hK
    obtain ⟨K, rfl⟩ : ∃ k, K = k + 1 := ⟨K - 1, by omega⟩
    simp only [spec_siFirst.l0]
    rw [if_neg (by omega), List.drop_of_length_le (by omega)]
    rfl
  | succ d ih =>
    intro i hi K hK
    obtain ⟨K, rfl⟩ : ∃ k, K = k + 1 := ⟨K - 1, by omega⟩
    have hlt : (i : Int) < (L.length : Int) := by omega
    have h := ih (i + 1) (by omega) K (by omega)
    have hd := drop_rdT L i (by omega)
    have hm : rd_T44 L (i : Int) ∈ L := List.mem_of_mem_drop (i := i) (by rw [hd]; simp)
    simp only [spec_siFirst.l0]
    rw [if_pos hlt, if_pos (by omega), if_pos hlt, siRest_at _ _ (h0 _ hm), w64 (by omega) (by omega), hd]
    simp only [Option.bind_some, firstZ]
    rw [show (i : Int) + 1 = ((i + 1 : Nat) : Int) from by omega, h]
    split <;> rfl
theorem siFirst_at (n : Int) (L : List S44) (h : goodB L = true) (K : Nat) (hK : 100 < K) : spec_siFirst.f K L n = some (firstZ n 0 L) :=
  siFirst_l0 n L (good_len h) (fun x hx => by have := good_mem h x hx; omega) L.length 0 (by omega) K (by have := good_len h; omega)
/-- Is a number left? -/
def leftB (L : List S44) (n : Int) : Bool := decide (firstZ n 0 L < 0)
theorem isLeft_at (n : Int) (L : List S44) (h : goodB L = true) : impl_isLeft.f L n = some (leftB L n) := by
  unfold impl_isLeft.f; rw [firstRule_at n L h]; rfl
theorem siLeft_at (n : Int) (L : List S44) (h : goodB L = true) (K : Nat) (hK : 100 < K) : spec_siLeft.f K L n = some (leftB L n) := by
  unfold spec_siLeft.f; rw [siFirst_at n L h K hK]; rfl
theorem gcd_l0 : ∀ (b a : Nat) (K : Nat), b < K → impl_gcd.l0 K (a : Int) (b : Int) = some ((Nat.gcd a b : Nat) : Int) ∧ spec_siCommon.l0 K (a : Int) (b : Int) = some ((Nat.gcd a b : Nat) : Int) := by
  intro b
  induction b using Nat.strongRecOn with
  | _ b ih =>
    intro a K hK
    obtain ⟨K, rfl⟩ : ∃ k, K = k + 1 := ⟨K - 1, by omega⟩
    simp only [impl_gcd.l0, spec_siCommon.l0]
    by_cases hb : b = 0
    · subst hb
      have hc : ¬ ((0 : Nat) : Int) > 0 := by omega
      rw [if_neg hc, if_neg hc]
      simp
    · have hc : (b : Int) > 0 := by omega
      have hz : ¬ (b : Int) = 0 := by omega
      have h := ih (a % b) (Nat.mod_lt _ (by omega)) b K (by have := Nat.mod_lt a (by omega : b > 0); omega)
      rw [if_pos hc, if_pos hc, if_neg hz, if_neg hz, Int.tmod_eq_emod_of_nonneg (by omega), show (a : Int) % (b : Int) = ((a % b : Nat) : Int) from rfl, h.1, h.2]
      have e : Nat.gcd b (a % b) = Nat.gcd a b := by rw [Nat.gcd_comm a b, Nat.gcd_rec b a, Nat.gcd_comm]
      rw [e]
      exact ⟨rfl, rfl⟩
/-- The greatest common divisor of two numbers. -/
def gZ (a b : Int) : Int := ((Nat.gcd a.toNat b.toNat : Nat) : Int)
theorem gcd_at (a b : Int) (ha : 0 ≤ a) (hb : 0 ≤ b) (hb2 : b ≤ 60) (K : Nat) (hK : 100 < K) : impl_gcd.f K a b = some (gZ a b) ∧ spec_siCommon.f K a b = some (gZ a b) := by
  have h := gcd_l0 b.toNat a.toNat K (by omega)
  rw [show ((a.toNat : Nat) : Int) = a from by omega, show ((b.toNat : Nat) : Int) = b from by omega] at h
  exact h
theorem gZ_facts (a b : Int) (ha : 1 ≤ a) (hb : 1 ≤ b) : 1 ≤ gZ a b ∧ gZ a b ∣ a ∧ gZ a b ∣ b := by
  have h0 : 0 < Nat.gcd a.toNat b.toNat := Nat.gcd_pos_of_pos_left _ (by omega)
  refine ⟨by unfold gZ; omega, ?_, ?_⟩
  · have h := Int.ofNat_dvd.2 (Nat.gcd_dvd_left a.toNat b.toNat)
    rw [show ((a.toNat : Nat) : Int) = a from by omega] at h
    exact h
  · have h := Int.ofNat_dvd.2 (Nat.gcd_dvd_right a.toNat b.toNat)
    rw [show ((b.toNat : Nat) : Int) = b from by omega] at h
    exact h
/-- The period of rules, begun at p; 0 if it is too great. -/
def perZ : Int → List S44 → Int
  | p, [] => p
  | p, x :: xs => if p / gZ p x.f0 * x.f0 > 100000 then 0 else perZ (p / gZ p x.f0 * x.f0) xs
def Ev_ (L : List S44) : Prop := ∀ x ∈ L, 2 ≤ x.f0 ∧ x.f0 ≤ 60
theorem step_facts (p e : Int) (hp : 1 ≤ p) (h2 : p ≤ 100000) (he : 2 ≤ e) (he2 : e ≤ 60) : 1 ≤ p / gZ p e ∧ p / gZ p e ≤ p ∧ 1 ≤ p / gZ p e * e ∧ p / gZ p e * e ≤ 6000000 ∧ p ∣ p / gZ p e * e ∧ e ∣ p / gZ p e * e := by
  obtain ⟨h1, ⟨q, hq⟩, ⟨r, hr⟩⟩ := gZ_facts p e hp (by omega)
  obtain ⟨g, hg⟩ : ∃ g, g = gZ p e := ⟨_, rfl⟩
  rw [← hg] at h1 hq hr ⊢
  have e1 : p / g = q := by rw [hq]; exact Int.mul_ediv_cancel_left _ (by omega)
  have q1 : 1 ≤ q := by
    by_cases h : q ≤ 0
    · have := Int.mul_nonpos_of_nonneg_of_nonpos (by omega : 0 ≤ g) h
      omega
    · omega
  have qp : q ≤ p := by
    have := Int.mul_le_mul h1 (Int.le_refl q) (by omega) (by omega)
    omega
  rw [e1]
  refine ⟨q1, qp, ?_, ?_, ⟨r, ?_⟩, ⟨q, by rw [Int.mul_comm]⟩⟩
  · have := Int.mul_le_mul q1 (by omega : (1 : Int) ≤ e) (by omega) (by omega)
    omega
  · have := Int.mul_le_mul (by omega : q ≤ 100000) he2 (by omega) (by omega)
    omega
  · rw [hq]
    conv => lhs; rw [hr]
    rw [← Int.mul_assoc, Int.mul_comm q g]
theorem perZ_range : ∀ (L : List S44) (p : Int), 1 ≤ p → p ≤ 100000 → Ev_ L → 0 ≤ perZ p L ∧ perZ p L ≤ 100000
  | [], p, h1, h2, _ => ⟨by show 0 ≤ p; omega, h2⟩
  | x :: xs, p, h1, h2, h => by
    have hx := h x (by simp)
    have hs := step_facts p x.f0 h1 h2 hx.1 hx.2
    unfold perZ
    split
    · omega
    · exact perZ_range xs _ hs.2.2.1 (by omega) (fun y hy => h y (by simp [hy]))
theorem per_l0 (L : List S44) (hL : L.length ≤ 100) (hE : Ev_ L) : ∀ (d i : Nat) (p : Int), i + d = L.length → 1 ≤ p → p ≤ 100000 →
    ∀ K, 100 + d < K → spec_siPeriod.l0 K p L L.length i = some (perZ p (L.drop i)) ∧ impl_lcmOf.l0 K p L L.length i = some (if perZ p (L.drop i) = 0 then (0, false) else (perZ p (L.drop i), true)) := by
  intro d
  induction d with
  | zero =>
    intro i p hi hp hp2 K hK
    obtain ⟨K, rfl⟩ : ∃ k, K = k + 1 := ⟨K - 1, by omega⟩
    have hc : ¬ (i : Int) < (L.length : Int) := by omega
    simp only [spec_siPeriod.l0, impl_lcmOf.l0]
    rw [if_neg hc, if_neg hc, List.drop_of_length_le (by omega)]
    have h0 : ¬ p = 0 := by omega
    simp [perZ, h0]
  | succ d ih =>
    intro i p hi hp hp2 K hK
    obtain ⟨K, rfl⟩ : ∃ k, K = k + 1 := ⟨K - 1, by omega⟩
    have hlt : (i : Int) < (L.length : Int) := by omega
    have hi0 : (0 : Int) ≤ (i : Int) := by omega
    have hd := drop_rdT L i (by omega)
    have hm : rd_T44 L (i : Int) ∈ L := List.mem_of_mem_drop (i := i) (by rw [hd]; simp)
    have hx := hE _ hm
    have hs := step_facts p _ hp hp2 hx.1 hx.2
    have hg := gZ_facts p (rd_T44 L (i : Int)).f0 hp (by omega)
    have hga := gcd_at p (rd_T44 L (i : Int)).f0 (by omega) (by omega) hx.2 K (by omega)
    have hg0 : ¬ gZ p (rd_T44 L (i : Int)).f0 = 0 := by omega
    simp only [spec_siPeriod.l0, impl_lcmOf.l0]
    rw [if_pos hlt, if_pos hlt, if_pos hi0, if_pos hi0, if_pos hlt, if_pos hlt, hga.1, hga.2, hd]
    simp only [Option.bind_some]
    rw [if_neg hg0, if_neg hg0, Int.tdiv_eq_ediv_of_nonneg (by omega), w64 (x := p / gZ p (rd_T44 L (i : Int)).f0) (by omega) (by omega), w64 (x := p / gZ p (rd_T44 L (i : Int)).f0 * (rd_T44 L (i : Int)).f0) (by omega) (by omega), w64 (x := (i : Int) + 1) (by omega) (by omega)]
    unfold perZ
    by_cases hb : p / gZ p (rd_T44 L (i : Int)).f0 * (rd_T44 L (i : Int)).f0 > 100000
    · rw [if_pos hb, if_pos hb, if_pos hb]
      exact ⟨rfl, by simp⟩
    · have h := ih (i + 1) _ (by omega) hs.2.2.1 (by omega) K (by omega)
      rw [show ((i + 1 : Nat) : Int) = (i : Int) + 1 from by omega] at h
      rw [if_neg hb, if_neg hb, if_neg hb]
      exact h
theorem per_at (L : List S44) (hL : L.length ≤ 100) (hE : Ev_ L) (K : Nat) (hK : 1000 < K) : spec_siPeriod.f K L = some (perZ 1 L) ∧ impl_lcmOf.f K L = some (if perZ 1 L = 0 then (0, false) else (perZ 1 L, true)) :=
  per_l0 L hL hE L.length 0 1 (by omega) (by omega) (by omega) K (by omega)
theorem good_ev {L : List S44} (h : goodB L = true) : Ev_ L := fun x hx => by have := good_mem h x hx; omega
theorem periodOf_at (L : List S44) (K : Nat) (hK : 1000 < K) : impl_periodOf.f K L = some (if goodB L = true ∧ perZ 1 L ≠ 0 then (perZ 1 L, true) else (0, false)) := by
  unfold impl_periodOf.f
  rw [areRules_at]
  by_cases hg : goodB L = true
  · have hl := good_len hg
    rw [hg, (per_at L (by omega) (good_ev hg) K hK).2]
    by_cases h0 : perZ 1 L = 0
    · simp [h0]
    · simp [h0]
  · simp [hg]
/-- Is each number that a rule crosses out, from n on below P, crossed out by the rest? -/
def needZ (rest : List S44) (P e : Int) : Nat → Int → Bool
  | 0, _ => true
  | d + 1, n => if n < P then (if leftB rest n = true then false else needZ rest P e d (n + e)) else true
def needB (L : List S44) (i : Nat) (P : Int) : Bool := needZ (L.eraseIdx i) P (rd_T44 L (i : Int)).f0 (P.toNat + 1) (rd_T44 L (i : Int)).f1
theorem rdT_mem (L : List S44) (i : Nat) (h : i < L.length) : rd_T44 L (i : Int) ∈ L := by
  simp [rd_T44, List.getD, h]
theorem good_erase {L : List S44} (h : goodB L = true) (i : Nat) : goodB (L.eraseIdx i) = true := by
  have hl := good_len h
  have h1 := List.length_eraseIdx_le L i
  unfold goodB at h ⊢
  simp only [Bool.and_eq_true, decide_eq_true_eq, List.all_eq_true] at h ⊢
  exact ⟨by omega, fun x hx => h.2 x (List.mem_of_mem_eraseIdx hx)⟩
theorem need_l0 (L : List S44) (hg : goodB L = true) (i : Nat) (hi : i < L.length) (P : Int) (hP : P ≤ 100000) : ∀ (d : Nat) (n : Int), 0 ≤ n → P - n ≤ d →
    ∀ K, 101 + d < K → impl_isNeedless.l0 K L i P (L.eraseIdx i) n = some (needZ (L.eraseIdx i) P (rd_T44 L (i : Int)).f0 (d + 1) n) ∧ spec_siNeedless.l0 K L i P (L.eraseIdx i) n = some (needZ (L.eraseIdx i) P (rd_T44 L (i : Int)).f0 (d + 1) n) := by
  have hge := good_erase hg i
  have hm := good_mem hg _ (rdT_mem L i hi)
  have hi0 : (0 : Int) ≤ (i : Int) := by omega
  have hi1 : (i : Int) < (L.length : Int) := by omega
  intro d
  induction d with
  | zero =>
    intro n h0 h1 K hK
    obtain ⟨K, rfl⟩ : ∃ k, K = k + 1 := ⟨K - 1, by omega⟩
    have hc : ¬ n < P := by omega
    simp only [impl_isNeedless.l0, spec_siNeedless.l0, needZ]
    rw [if_neg hc, if_neg hc, if_neg hc]
    exact ⟨rfl, rfl⟩
  | succ d ih =>
    intro n h0 h1 K hK
    obtain ⟨K, rfl⟩ : ∃ k, K = k + 1 := ⟨K - 1, by omega⟩
    rw [needZ]
    simp only [impl_isNeedless.l0, spec_siNeedless.l0]
    by_cases hc : n < P
    · rw [if_pos hc, if_pos hc, if_pos hc, isLeft_at n _ hge, siLeft_at n _ hge K (by omega)]
      simp only [Option.bind_some]
      by_cases hl : leftB (L.eraseIdx i) n = true
      · rw [if_pos hl, if_pos hl, if_pos hl]
        exact ⟨rfl, rfl⟩
      · have h := ih (n + (rd_T44 L (i : Int)).f0) (by omega) (by omega) K (by omega)
        rw [if_neg hl, if_neg hl, if_neg hl, if_pos hi0, if_pos hi0, if_pos hi1, if_pos hi1, w64 (by omega) (by omega)]
        exact h
    · rw [if_neg hc, if_neg hc, if_neg hc]
      exact ⟨rfl, rfl⟩
theorem delete_at (L : List S44) (i : Nat) (hi : i < L.length) (hl : L.length ≤ 100) : impl_Rule.f L i (wrap64 ((i : Int) + 1)) = some (L.eraseIdx i) := by
  unfold impl_Rule.f
  rw [w64 (by omega) (by omega), if_pos (by omega), if_pos rfl, if_pos (by omega), Int.toNat_natCast]
theorem without_at (L : List S44) (i : Nat) (hi : i < L.length) (hl : L.length ≤ 100) : spec_siWithout.f L i = some (L.eraseIdx i) := by
  have hw : wrap64 ((i : Int) + 1) = ((i + 1 : Nat) : Int) := by rw [w64 (by omega) (by omega)]; omega
  have q1 : (0 : Int) ≤ (i : Int) := by omega
  have q2 : (i : Int) ≤ (L.length : Int) := by omega
  have q3 : (L.take i).length < 8796093022208 := by rw [List.length_take]; omega
  have q4 : (0 : Int) ≤ ((i + 1 : Nat) : Int) := by omega
  have q5 : ((i + 1 : Nat) : Int) ≤ (L.length : Int) := by omega
  have q6 : (L.take i).length + (L.drop (i + 1)).length < 8796093022208 := by rw [List.length_take, List.length_drop]; omega
  unfold spec_siWithout.f
  rw [hw]
  simp only [Option.bind_some, List.nil_append, List.length_nil, Nat.zero_add, Int.toNat_natCast]
  rw [if_pos q1, if_pos q2, if_pos q3, if_pos q4, if_pos q5, if_pos q6, List.eraseIdx_eq_take_drop_succ]
theorem need_at (L : List S44) (hg : goodB L = true) (i : Nat) (hi : i < L.length) (P : Int) (hP : P ≤ 100000) (K : Nat) (hK : 1000000 < K) : impl_isNeedless.f K L i P = some (needB L i P) ∧ spec_siNeedless.f K L i P = some (needB L i P) := by
  have hl := good_len hg
  have hm := good_mem hg _ (rdT_mem L i hi)
  have h := need_l0 L hg i hi P hP P.toNat (rd_T44 L (i : Int)).f1 hm.2.2.1 (by omega) K (by omega)
  have hi0 : (0 : Int) ≤ (i : Int) := by omega
  have hi1 : (i : Int) < (L.length : Int) := by omega
  unfold impl_isNeedless.f spec_siNeedless.f needB
  simp only [Option.bind_some, List.nil_append, List.length_nil, Nat.zero_add]
  refine ⟨?_, ?_⟩
  · rw [if_pos (by omega), delete_at L i hi (by omega)]
    simp only [Option.bind_some]
    rw [if_pos hi0, if_pos hi1]
    exact h.1
  · rw [without_at L i hi (by omega)]
    simp only [Option.bind_some]
    rw [if_pos hi0, if_pos hi1]
    exact h.2
/-- The rules without those that are needless, looked at from index i - 1 on downwards. -/
def dropZ (P : Int) : Nat → List S44 → List S44
  | 0, L => L
  | i + 1, L => if needB L i P = true then dropZ P i (L.eraseIdx i) else dropZ P i L
theorem dropZ_len (P : Int) : ∀ (i : Nat) (L : List S44), (dropZ P i L).length ≤ L.length
  | 0, L => Nat.le_refl _
  | i + 1, L => by
    unfold dropZ
    have h1 := List.length_eraseIdx_le L i
    have h2 := dropZ_len P i (L.eraseIdx i)
    have h3 := dropZ_len P i L
    split <;> omega
theorem drop_l0 (P : Int) (hP : P ≤ 100000) : ∀ (i : Nat) (L : List S44), goodB L = true → i ≤ L.length →
    ∀ K, 1000001 + i < K → impl_DropNeedless.l0 K P L ((i : Int) - 1) = some (dropZ P i L, true) ∧ spec_DropNeedless.l0 K P L ((i : Int) - 1) = some (dropZ P i L, true) := by
  intro i
  induction i with
  | zero =>
    intro L hg hi K hK
    obtain ⟨K, rfl⟩ : ∃ k, K = k + 1 := ⟨K - 1, by omega⟩
    have hc : ¬ (((0 : Nat) : Int) - 1 ≥ 0) := by omega
    simp only [impl_DropNeedless.l0, spec_DropNeedless.l0]
    rw [if_neg hc, if_neg hc]
    exact ⟨rfl, rfl⟩
  | succ i ih =>
    intro L hg hi K hK
    obtain ⟨K, rfl⟩ : ∃ k, K = k + 1 := ⟨K - 1, by omega⟩
    have hl := good_len hg
    have e0 : ((i + 1 : Nat) : Int) - 1 = (i : Int) := by omega
    have hc : (i : Int) ≥ 0 := by omega
    have hn := need_at L hg i (by omega) P hP K (by omega)
    simp only [impl_DropNeedless.l0, spec_DropNeedless.l0]
    rw [e0, if_pos hc, if_pos hc, hn.1, hn.2]
    simp only [Option.bind_some]
    unfold dropZ
    by_cases hb : needB L i P = true
    · have hle := List.length_eraseIdx_of_lt (show i < L.length by omega)
      have h := ih (L.eraseIdx i) (good_erase hg i) (by omega) K (by omega)
      rw [if_pos hb, if_pos hb, if_pos hb, delete_at L i (by omega) (by omega), without_at L i (by omega) (by omega), w64 (x := (i : Int) - 1) (by omega) (by omega)]
      exact h
    · have h := ih L hg (by omega) K (by omega)
      rw [if_neg hb, if_neg hb, if_neg hb, w64 (x := (i : Int) - 1) (by omega) (by omega)]
      exact h
theorem rdT_set (xs : List S44) (i : Nat) (v : S44) (h : i < xs.length) : rd_T44 (xs.set i v) (i : Int) = v := by
  simp [rd_T44, List.getD, h]
/-- Marked rules. -/
def upr : Nat → List S44
  | 0 => []
  | n + 1 => upr n ++ [⟨1 + 2 * n, 1 + 2 * n + 1⟩]
theorem upr_len : ∀ n, (upr n).length = n
  | 0 => rfl
  | n + 1 => by simp [upr, upr_len n]
theorem upr_get : ∀ (n i : Nat), i < n → (upr n)[i]? = some ⟨1 + 2 * i, 1 + 2 * i + 1⟩
  | n + 1, i, h => by
    unfold upr
    by_cases e : i = n
    · subst e
      rw [List.getElem?_append_right (by rw [upr_len]; exact Nat.le_refl _), upr_len]
      simp
    · rw [List.getElem?_append_left (by rw [upr_len]; omega)]
      exact upr_get n i (by omega)
theorem markRuleS_l0 : ∀ (d i : Nat) (xs : List S44), i + d = xs.length → xs.length ≤ 100000000 → xs.take i = upr i → ∀ K, d < K → laws_markRuleS.l0 K xs (1 + 2 * i) i = some (1 + 2 * (xs.length : Int), upr xs.length) := by
  intro d
  induction d with
  | zero =>
    intro i xs hi hx ht K hK
    obtain ⟨K, rfl⟩ : ∃ k, K = k + 1 := ⟨K - 1, by omega⟩
    simp only [laws_markRuleS.l0]
    rw [if_neg (by omega)]
    obtain rfl : i = xs.length := by omega
    rw [List.take_length] at ht
    rw [← ht]
  | succ d ih =>
    intro i xs hi hx ht K hK
    obtain ⟨K, rfl⟩ : ∃ k, K = k + 1 := ⟨K - 1, by omega⟩
    simp only [laws_markRuleS.l0, Option.bind_some, Int.toNat_natCast]
    rw [if_pos (by omega), if_pos (by omega), w64 (x := (i : Int) + 1) (by omega) (by omega), w64 (x := 1 + 2 * (i : Int) + 1) (by omega) (by omega), w64 (x := 1 + 2 * (i : Int) + 1 + 1) (by omega) (by omega), rdT_set xs i _ (by omega), List.set_set]
    have h := ih (i + 1) (xs.set i ⟨1 + 2 * i, 1 + 2 * i + 1⟩) (by simp; omega) (by simpa using hx) (by rw [take_set_succ _ _ _ (by omega), ht]; rfl) K (by omega)
    simp only [List.length_set] at h
    rw [show (1 : Int) + 2 * (i : Int) + 1 + 1 = 1 + 2 * ((i + 1 : Nat) : Int) from by omega, show (i : Int) + 1 = ((i + 1 : Nat) : Int) from by omega]
    exact h
theorem markRuleS_at (xs : List S44) (hx : xs.length ≤ 100000000) (K : Nat) (hK : 100000000 < K) : laws_markRuleS.f K xs 1 = some (1 + 2 * (xs.length : Int), upr xs.length) :=
  markRuleS_l0 xs.length 0 xs (by omega) hx rfl K (by omega)
theorem heldRuleS_l0 (n : Nat) (hn : n ≤ 100000000) : ∀ (d i : Nat), i + d = n → ∀ K, d < K → laws_heldRuleS.l0 K (upr n) (1 + 2 * i) i = some (1 + 2 * (n : Int)) := by
  intro d
  induction d with
  | zero =>
    intro i hi K hK
    obtain ⟨K, rfl⟩ : ∃ k, K = k + 1 := ⟨K - 1, by omega⟩
    simp only [laws_heldRuleS.l0, upr_len]
    rw [if_neg (by omega)]
    obtain rfl : i = n := by omega
    rfl
  | succ d ih =>
    intro i hi K hK
    obtain ⟨K, rfl⟩ : ∃ k, K = k + 1 := ⟨K - 1, by omega⟩
    simp only [laws_heldRuleS.l0, upr_len]
    have hr : rd_T44 (upr n) (i : Int) = ⟨1 + 2 * i, 1 + 2 * i + 1⟩ := by
      unfold rd_T44
      rw [List.getD_eq_getElem?_getD, Int.toNat_natCast, upr_get n i (by omega)]
      rfl
    rw [if_pos (by omega), if_pos (by omega), hr]
    simp only
    rw [if_pos trivial, w64 (x := 1 + 2 * (i : Int) + 1) (by omega) (by omega), if_pos rfl, w64 (x := 1 + 2 * (i : Int) + 1 + 1) (by omega) (by omega), w64 (x := (i : Int) + 1) (by omega) (by omega)]
    have h := ih (i + 1) (by omega) K (by omega)
    rw [show (1 : Int) + 2 * (i : Int) + 1 + 1 = 1 + 2 * ((i + 1 : Nat) : Int) from by omega, show (i : Int) + 1 = ((i + 1 : Nat) : Int) from by omega]
    exact h
theorem heldRuleS_at (n : Nat) (hn : n ≤ 100000000) (K : Nat) (hK : 100000000 < K) : laws_heldRuleS.f K (upr n) 1 = some (1 + 2 * (n : Int)) :=
  heldRuleS_l0 n hn n 0 (by omega) K (by omega)
theorem both (L : List S44) : ∃ (g : List S44) (ok : Bool), g.length ≤ 1000000 ∧ ∀ K, 100000000 < K → spec_DropNeedless.f K L = some (g, ok) ∧ impl_DropNeedless.f K L = some (g, ok) := by
  unfold spec_DropNeedless.f impl_DropNeedless.f
  by_cases hg : goodB L = true
  · have hl := good_len hg
    have hr := perZ_range L 1 (by omega) (by omega) (good_ev hg)
    by_cases h0 : perZ 1 L = 0
    · refine ⟨[], false, by simp, fun K hK => ?_⟩
      obtain ⟨K, rfl⟩ : ∃ k, K = k + 1 := ⟨K - 1, by omega⟩
      rw [siGood_at L _ (by omega), periodOf_at L _ (by omega), (per_at L (by omega) (good_ev hg) _ (by omega)).1]
      simp only [Option.bind_some, spec_DropNeedless.j0]
      exact ⟨by simp [hg, h0], by simp [hg, h0]⟩
    · have hfl := dropZ_len (perZ 1 L) L.length L
      refine ⟨dropZ (perZ 1 L) L.length L, true, by omega, fun K hK => ?_⟩
      obtain ⟨K, rfl⟩ : ∃ k, K = k + 1 := ⟨K - 1, by omega⟩
      have h1 := (drop_l0 (perZ 1 L) hr.2 L.length L hg (by omega) K (by omega)).2
      have h2 := (drop_l0 (perZ 1 L) hr.2 L.length L hg (by omega) (K + 1) (by omega)).1
      have hbe : (perZ 1 L == 0) = false := beq_eq_false_iff_ne.2 h0
      have h3 : L.length < 8796093022208 := by omega
      have hand : goodB L = true ∧ perZ 1 L ≠ 0 := ⟨hg, h0⟩
      rw [siGood_at L _ (by omega), periodOf_at L _ (by omega), (per_at L (by omega) (good_ev hg) _ (by omega)).1, if_pos hand]
      simp only [Option.bind_some, spec_DropNeedless.j0, List.nil_append, List.length_nil, Nat.zero_add]
      rw [if_pos hg, hbe, if_neg (show ¬ (false = true) by simp), (per_at L (by omega) (good_ev hg) _ (by omega)).1]
      simp only [Option.bind_some]
      rw [if_pos h3, if_pos trivial, if_pos h3, w64 (x := (L.length : Int) - 1) (by omega) (by omega)]
      exact ⟨h1, h2⟩
  · refine ⟨[], false, by simp, fun K hK => ?_⟩
    obtain ⟨K, rfl⟩ : ∃ k, K = k + 1 := ⟨K - 1, by omega⟩
    rw [siGood_at L _ (by omega), periodOf_at L _ (by omega)]
    simp only [Option.bind_some, spec_DropNeedless.j0]
    exact ⟨by simp [hg], by simp [hg]⟩

theorem done : laws_FnExactDropNeedless.Pure := by
  intro l0  hm hb hw
  by_cases hl : l0.length ≤ 1048576
  · refine ⟨1000000000, ?_⟩
    obtain ⟨L, hL⟩ : ∃ L, L = l0.map conv := ⟨_, rfl⟩
    have hlen : L.length ≤ 100000000 := by rw [hL, List.length_map]; omega
    obtain ⟨g, ok, hg, hsi⟩ := both L
    have hs := fun K hK => (hsi K hK).1
    have hi := fun K hK => (hsi K hK).2
    have hT : ∀ K, 100000000 < K → laws_toRuleS.f K l0 = some L := fun K hK => by rw [hL]; exact toRuleS_at l0 (by omega) K hK
    have hE := eqRuleS_at L hlen
    have hM := markRuleS_at L hlen
    have hEg := eqRuleS_at g (by omega)
    have hMg := markRuleS_at g (by omega)
    have hHg := heldRuleS_at g.length (by omega)
    have n1 : ¬ ((1 : Int) + 2 * (L.length : Int) < 0) := by omega
    have n2 : ¬ (1 + 2 * (g.length : Int) < 0) := by omega
    have n3 : ¬ ((1048576 : Int) - (l0.length : Int) < 0) := by omega
    unfold laws_FnExactDropNeedless.f
    rw [szRuleS_at l0 (by omega), if_pos hl]
    simp only [Option.bind_some]
    rw [if_neg n3, hT _ (by omega)]
    simp only [Option.bind_some]
    rw [hs _ (by omega)]
    simp only [Option.bind_some]
    rw [hi _ (by omega)]
    simp only [Option.bind_some]
    rw [hEg _ (by omega)]
    simp only [Option.bind_some]
    rw [if_pos trivial, bne_self_eq_false]
    simp only [laws_FnExactDropNeedless.j0]
    rw [if_neg (by simp), hT _ (by omega)]
    simp only [Option.bind_some]
    rw [hE _ (by omega)]
    simp only [Option.bind_some]
    rw [if_pos trivial, hM _ (by omega)]
    simp only [Option.bind_some]
    rw [if_neg n1, hEg _ (by omega)]
    simp only [Option.bind_some]
    rw [if_pos trivial]
    simp only [laws_FnExactDropNeedless.j1]
    rw [if_neg (by simp), hMg _ (by omega)]
    simp only [Option.bind_some]
    rw [hHg _ (by omega)]
    simp only [Option.bind_some]
    rw [if_neg n2, if_pos trivial, hT _ (by omega)]
    simp only [Option.bind_some]
    rw [hi _ (by omega)]
    simp only [Option.bind_some]
    rw [hEg _ (by omega)]
    simp only [Option.bind_some]
    rw [if_pos trivial, bne_self_eq_false]
    simp only [laws_FnExactDropNeedless.j2]
    rw [if_neg (by simp), hHg _ (by omega)]
    simp only [Option.bind_some]
    rw [if_neg n2, if_pos trivial]
  · refine ⟨1, ?_⟩
    unfold laws_FnExactDropNeedless.f
    rw [szRuleS_big l0 hm hl]
    rfl
end OwnFnExactDropNeedless
theorem FnExactDropNeedless : laws_FnExactDropNeedless.Pure := OwnFnExactDropNeedless.done
end Go.Proofs.Ytmopmjjendcneaa.Pure
