/- AreSameSieve of the program and of the reference answer alike at all rules: no condition. -/
import Derived.Test.YtmopmjjendcneaaPFnExactAreSameSievex3
namespace Go.Proofs.Ytmopmjjendcneaa.Pure
open Go.RowKit Go.Proofs.Ytmopmjjendcneaa.PFnExactAreSameSieve Go.Proofs.YtmopmjjendcneaaW.PrintWords Go.Proofs.YtmopmjjendcneaaW.PrintLast Go.Proofs.YtmopmjjendcneaaW.PrintMore
set_option linter.unusedVariables false
set_option linter.unusedSimpArgs false
namespace OwnFnExactAreSameSieve
theorem w64 {x : Int} (h0 : -9223372036854775808 ≤ x) (h1 : x ≤ 9223372036854775807) : wrap64 x = x := by unfold wrap64; omega
theorem l1In_at (n a b : Int) : spec_l1In.f n a b = some (decide (a ≤ n ∧ n ≤ b)) := by
  unfold spec_l1In.f
  by_cases h : a ≤ n
  · rw [if_pos (by omega)]; simp [h]
  · rw [if_neg (by omega)]; simp [h]
/-- What a rule is. -/
def ruleB (e r : Int) : Bool := decide (2 ≤ e ∧ e ≤ 60 ∧ 0 ≤ r ∧ r < e)
theorem isRule_at (e r : Int) : impl_isRule.f e r = some (ruleB e r) := by
  unfold impl_isRule.f ruleB
  by_cases h1 : e ≥ 2
  · rw [if_pos h1]
    by_cases h2 : e ≤ 60
    · rw [if_pos h2]
      by_cases h3 : r ≥ 0
      · rw [if_pos h3]
        congr 1
        rw [decide_eq_decide]
        omega
      · rw [if_neg h3, decide_eq_false (by omega)]
    · rw [if_neg h2, decide_eq_false (by omega)]
  · rw [if_neg h1, decide_eq_false (by omega)]
theorem siRule_at (e r : Int) : spec_siRule.f e r = some (ruleB e r) := by
  unfold spec_siRule.f ruleB
  rw [l1In_at]
  simp only [Option.bind_some]
  by_cases h1 : 2 ≤ e ∧ e ≤ 60
  · rw [decide_eq_true h1, if_pos rfl, w64 (by omega) (by omega), l1In_at]
    simp only [Option.bind_some]
    congr 1
    rw [decide_eq_decide]
    omega
  · rw [decide_eq_false h1, if_neg (by simp), decide_eq_false (by omega)]
theorem drop_rdT (xs : List S44) (i : Nat) (h : i < xs.length) : xs.drop i = rd_T44 xs (i : Int) :: xs.drop (i + 1) := by
  rw [List.drop_eq_getElem_cons h]
  simp [rd_T44, List.getD, h]
def conv (x : S46) : S44 := ⟨x.f0, x.f1⟩
theorem take_set_succ {α : Type} (xs : List α) (i : Nat) (v : α) (h : i < xs.length) : (xs.set i v).take (i + 1) = xs.take i ++ [v] := by
  rw [List.take_succ_eq_append_getElem (by simpa using h)]
  simp [List.take_set_of_le]
theorem toRuleS_l0 (xs : List S46) (hx : xs.length ≤ 100000000) : ∀ (d i : Nat) (ys : List S44), i + d = xs.length → ys.length = xs.length → ys.take i = (xs.take i).map conv → ∀ K, d < K → laws_toRuleS.l0 K xs ys i = some (xs.map conv) := by
  intro d
  induction d with
  | zero =>
    intro i ys hi hl ht K hK
    obtain ⟨K, rfl⟩ : ∃ k, K = k + 1 := ⟨K - 1, by omega⟩
    simp only [laws_toRuleS.l0]
    rw [if_neg (by omega)]
    rw [List.take_of_length_le (by omega), List.take_of_length_le (by omega)] at ht
    rw [ht]
  | succ d ih =>
    intro i ys hi hl ht K hK
    obtain ⟨K, rfl⟩ : ∃ k, K = k + 1 := ⟨K - 1, by omega⟩
    simp only [laws_toRuleS.l0, laws_toRule.f, Option.bind_some]
    rw [if_pos (by omega), if_pos (by omega), if_pos (by omega), w64 (by omega) (by omega)]
    refine ih (i + 1) _ (by omega) (by simpa using hl) ?_ K (by omega)
    rw [Int.toNat_natCast, take_set_succ _ _ _ (by omega), ht, List.take_succ_eq_append_getElem (by omega)]
    have e : rd_T46 xs (i : Int) = xs[i]'(by omega) := by
      have hi' : i < xs.length := by omega
      simp [rd_T46, List.getD, hi']
    rw [e, List.map_append]
    rfl
theorem toRuleS_at (xs : List S46) (hx : xs.length ≤ 100000000) (K : Nat) (hK : 100000000 < K) : laws_toRuleS.f K xs = some (xs.map conv) := by
  unfold laws_toRuleS.f
  rw [if_pos (by omega), if_pos (by omega)]
  refine toRuleS_l0 xs hx xs.length 0 _ (by omega) (by simp) rfl K (by omega)
theorem szRuleS_at (xs : List S46) (hx : xs.length ≤ 100000000) : laws_szRuleS.f xs 1048576 = some (if xs.length ≤ 1048576 then (1048576 : Int) - (xs.length : Int) else (-1 : Int)) := by
  unfold laws_szRuleS.f
  rw [w64 (by omega) (by omega)]
  by_cases h : xs.length ≤ 1048576
  · rw [if_neg (by omega), if_pos h]
  · rw [if_pos (by omega), if_neg h]
theorem szRuleS_big (xs : List S46) (h1 : xs.length ≤ maxLen) (hx : ¬ xs.length ≤ 1048576) : laws_szRuleS.f xs 1048576 = some (-1) := by
  unfold maxLen at h1
  unfold laws_szRuleS.f
  rw [w64 (by omega) (by omega), if_pos (by omega)]
theorem eqRuleS_l0 (xs : List S44) (hx : xs.length ≤ 100000000) : ∀ (d i : Nat), i + d = xs.length → ∀ K, d < K → laws_eqRuleS.l0 K xs xs i = some true := by
  intro d
  induction d with
  | zero =>
    intro i hi K hK
    obtain ⟨K, rfl⟩ : ∃ k, K = k + 1 := ⟨K - 1, by omega⟩
    simp only [laws_eqRuleS.l0]
    rw [if_neg (by omega)]
  | succ d ih =>
    intro i hi K hK
    obtain ⟨K, rfl⟩ : ∃ k, K = k + 1 := ⟨K - 1, by omega⟩
    have hlt : (i : Int) < (xs.length : Int) := by omega
    simp only [laws_eqRuleS.l0, laws_eqRule.f]
    rw [if_pos hlt, if_pos (by omega), if_pos hlt, w64 (by omega) (by omega)]
    simp only [if_true, Option.bind_some]
    exact ih (i + 1) (by omega) K (by omega)
theorem eqRuleS_at (xs : List S44) (hx : xs.length ≤ 100000000) (K : Nat) (hK : 100000000 < K) : laws_eqRuleS.f K xs xs = some true := by
  unfold laws_eqRuleS.f
  rw [if_pos rfl]
  exact eqRuleS_l0 xs hx xs.length 0 (by omega) K (by omega)
/-- What a list of rules is. -/
def goodB (L : List S44) : Bool := decide (L.length ≤ 12) && L.all (fun x => ruleB x.f0 x.f1)
theorem areAny_at : ∀ L : List S44, impl_areRules.any L = some (!(L.all fun x => ruleB x.f0 x.f1))
  | [] => rfl
  | x :: xs => by
    simp only [impl_areRules.any, isRule_at, Option.bind_some, List.all_cons]
    rw [areAny_at xs]
    cases ruleB x.f0 x.f1 <;> simp
theorem areRules_at (L : List S44) : impl_areRules.f L = some (goodB L) := by
  unfold impl_areRules.f goodB
  rw [areAny_at]
  by_cases h : L.length ≤ 12
  · rw [if_pos (by omega)]; simp [h]
  · rw [if_neg (by omega)]; simp [h]
theorem siGood_l0 (L : List S44) (hL : L.length ≤ 12) : ∀ (d i : Nat), i + d = L.length → ∀ K, d < K → spec_siGood.l0 K L L.length i = some ((L.drop i).all fun x => ruleB x.f0 x.f1) := by
  intro d
  induction d with
  | zero =>
    intro i hi K hK
    obtain ⟨K, rfl⟩ : ∃ k, K = k + 1 := ⟨K - 1, by omega⟩
    simp only [spec_siGood.l0]
    rw [if_neg (by omega), List.drop_of_length_le (by omega)]
    rfl
  | succ d ih =>
    intro i hi K hK
    obtain ⟨K, rfl⟩ : ∃ k, K = k + 1 := ⟨K - 1, by omega⟩
    have hlt : (i : Int) < (L.length : Int) := by omega
    have h := ih (i + 1) (by omega) K (by omega)
    simp only [spec_siGood.l0]
    rw [if_pos hlt, if_pos (by omega), if_pos hlt, siRule_at, w64 (by omega) (by omega), drop_rdT L i (by omega)]
    simp only [Option.bind_some, List.all_cons]
    rw [show (i : Int) + 1 = ((i + 1 : Nat) : Int) from by omega, h]
    cases ruleB (rd_T44 L (i : Int)).f0 (rd_T44 L (i : Int)).f1 <;> simp
theorem siGood_at (L : List S44) (K : Nat) (hK : 100 < K) : spec_siGood.f K L = some (goodB L) := by
  unfold spec_siGood.f goodB
  by_cases h : L.length ≤ 12
  · have h0 := siGood_l0 L h L.length 0 (by omega) K (by omega)
    have h0' : spec_siGood.l0 K L L.length 0 = _ := h0
    rw [if_neg (by omega), h0']; simp [h]
  · rw [if_pos (by omega)]; simp [h]
theorem good_len {L : List S44} (h : goodB L = true) : L.length ≤ 12 := by
  unfold goodB at h
  simp at h
  exact h.1
theorem good_mem {L : List S44} (h : goodB L = true) (x : S44) (hx : x ∈ L) : 2 ≤ x.f0 ∧ x.f0 ≤ 60 ∧ 0 ≤ x.f1 ∧ x.f1 < x.f0 := by
  unfold goodB at h
  simp at h
  have := h.2 x hx
  unfold ruleB at this
  simpa using this
/-- The remainder, as both texts reckon it. -/
def modZ (n e : Int) : Int := Int.tmod (wrap64 (Int.tmod n e + e)) e
theorem mod_at (n e : Int) (h : e ≠ 0) : impl_mod.f n e = some (modZ n e) := by
  unfold impl_mod.f modZ; rw [if_neg h]
theorem siRest_at (n e : Int) (h : e ≠ 0) : spec_siRest.f n e = some (modZ n e) := by
  unfold spec_siRest.f modZ; rw [if_neg h]
/-- The first rule that crosses a number out, from index i on; -1 for none. -/
def firstZ (n : Int) : Int → List S44 → Int
  | _, [] => -1
  | i, x :: xs => if modZ n x.f0 = x.f1 then i else firstZ n (i + 1) xs
theorem firstRule_go (n : Int) : ∀ (L : List S44) (i : Int), (∀ x ∈ L, x.f0 ≠ 0) → impl_firstRule.go n i L = some (firstZ n i L)
  | [], _, _ => rfl
  | x :: xs, i, h => by
    simp only [impl_firstRule.go, firstZ]
    rw [mod_at n _ (h x (by simp)), firstRule_go n xs (i + 1) (fun y hy => h y (by simp [hy]))]
    simp only [Option.bind_some]
    split <;> rfl
theorem firstRule_at (n : Int) (L : List S44) (h : goodB L = true) : impl_firstRule.f L n = some (firstZ n 0 L) :=
  firstRule_go n L 0 (fun x hx => by have := good_mem h x hx; omega)
theorem siFirst_l0 (n : Int) (L : List S44) (hL : L.length ≤ 12) (h0 : ∀ x ∈ L, x.f0 ≠ 0) : ∀ (d i : Nat), i + d = L.length → ∀ K, d < K → spec_siFirst.l0 K n L L.length i = some (firstZ n i (L.drop i)) := by
  intro d
  induction d with
  | zero =>
    intro i hi K hK
    obtain ⟨K, rfl⟩ : ∃ k, K = k + 1 := ⟨K - 1, by omega⟩
    simp only [spec_siFirst.l0]
    rw [if_neg (by omega), List.drop_of_length_le (by omega)]
    rfl
  | succ d ih =>
    intro i hi K hK
    obtain ⟨K, rfl⟩ : ∃ k, K = k + 1 := ⟨K - 1, by omega⟩
    have hlt : (i : Int) < (L.length : Int) := by omega
    have h := ih (i + 1) (by omega) K (by omega)
    have hd := drop_rdT L i (by omega)
    have hm : rd_T44 L (i : Int) ∈ L := List.mem_of_mem_drop (i := i) (by rw [hd]; simp)
    simp only [spec_siFirst.l0]
    rw [if_pos hlt, if_pos (by omega), if_pos hlt, siRest_at _ _ (h0 _ hm), w64 (by omega) (by omega), hd]
    simp only [Option.bind_some, firstZ]
    rw [show (i : Int) + 1 = ((i + 1 : Nat) : Int) from by omega, h]
    split <;> rfl
theorem siFirst_at (n : Int) (L : List S44) (h : goodB L = true) (K : Nat) (hK : 100 < K) : spec_siFirst.f K L n = some (firstZ n 0 L) :=
  siFirst_l0 n L (good_len h) (fun x hx => by have := good_mem h x hx; omega) L.length 0 (by omega) K (by have := good_len h; omega)
/-- Is a number left? -/
def leftB (L : List S44) (n : Int) : Bool := decide (firstZ n 0 L < 0)
theorem isLeft_at (n : Int) (L : List S44) (h : goodB L = true) : impl_isLeft.f L n = some (leftB L n) := by
  unfold impl_isLeft.f; rw [firstRule_at n L h]; rfl
theorem siLeft_at (n : Int) (L : List S44) (h : goodB L = true) (K : Nat) (hK : 100 < K) : spec_siLeft.f K L n = some (leftB L n) := by
  unfold spec_siLeft.f; rw [siFirst_at n L h K hK]; rfl
theorem gcd_l0 : ∀ (b a : Nat) (K : Nat), b < K → impl_gcd.l0 K (a : Int) (b : Int) = some ((Nat.gcd a b : Nat) : Int) ∧ spec_siCommon.l0 K (a : Int) (b : Int) = some ((Nat.gcd a b : Nat) : Int) := by
  intro b
  induction b using Nat.strongRecOn with
  | _ b ih =>
    intro a K hK
    obtain ⟨K, rfl⟩ : ∃ k, K = k + 1 := ⟨K - 1, by omega⟩
    simp only [impl_gcd.l0, spec_siCommon.l0]
    by_cases hb : b = 0
    · subst hb
      have hc : ¬ ((0 : Nat) : Int) > 0 := by omega
      rw [if_neg hc, if_neg hc]
      simp
    · have hc : (b : Int) > 0 := by omega
      have hz : ¬ (b : Int) = 0 := by omega
      have h := ih (a % b) (Nat.mod_lt _ (by omega)) b K (by have := Nat.mod_lt a (by omega : b > 0); omega)
      rw [if_pos hc, if_pos hc, if_neg hz, if_neg hz, Int.tmod_eq_emod_of_nonneg (by omega), show (a : Int) % (b : Int) = ((a % b : Nat) : Int) from rfl, h.1, h.2]
      have e : Nat.gcd b (a % b) = Nat.gcd a b := by rw [Nat.gcd_comm a b, Nat.gcd_rec b a, Nat.gcd_comm]
      rw [e]
      exact ⟨rfl, rfl⟩
/-- The greatest common divisor of two numbers. -/
def gZ (a b : Int) : Int := ((Nat.gcd a.toNat b.toNat : Nat) : Int)
theorem gcd_at (a b : Int) (ha : 0 ≤ a) (hb : 0 ≤ b) (hb2 : b ≤ 60) (K : Nat) (hK : 100 < K) : impl_gcd.f K a b = some (gZ a b) ∧ spec_siCommon.f K a b = some (gZ a b) := by
  have h := gcd_l0 b.toNat a.toNat K (by omega)
  rw [show ((a.toNat : Nat) : Int) = a from by omega, show ((b.toNat : Nat) : Int) = b from by omega] at h
  exact h
theorem gZ_facts (a b : Int) (ha : 1 ≤ a) (hb : 1 ≤ b) : 1 ≤ gZ a b ∧ gZ a b ∣ a ∧ gZ a b ∣ b := by
  have h0 : 0 < Nat.gcd a.toNat b.toNat := Nat.gcd_pos_of_pos_left _ (by omega)
  refine ⟨by unfold gZ; omega, ?_, ?_⟩
  · have h := Int.ofNat_dvd.2 (Nat.gcd_dvd_left a.toNat b.toNat)
    rw [show ((a.toNat : Nat) : Int) = a from by omega] at h
    exact h
  · have h := Int.ofNat_dvd.2 (Nat.gcd_dvd_right a.toNat b.toNat)
    rw [show ((b.toNat : Nat) : Int) = b from by omega] at h
    exact h
/-- The period of rules, begun at p; 0 if it is too great. -/
def perZ : Int → List S44 → Int
  | p, [] => p
  | p, x :: xs => if p / gZ p x.f0 * x.f0 > 100000 then 0 else perZ (p / gZ p x.f0 * x.f0) xs
def Ev_ (L : List S44) : Prop := ∀ x ∈ L, 2 ≤ x.f0 ∧ x.f0 ≤ 60
theorem step_facts (p e : Int) (hp : 1 ≤ p) (h2 : p ≤ 100000) (he : 2 ≤ e) (he2 : e ≤ 60) : 1 ≤ p / gZ p e ∧ p / gZ p e ≤ p ∧ 1 ≤ p / gZ p e * e ∧ p / gZ p e * e ≤ 6000000 ∧ p ∣ p / gZ p e * e ∧ e ∣ p / gZ p e * e := by
  obtain ⟨h1, ⟨q, hq⟩, ⟨r, hr⟩⟩ := gZ_facts p e hp (by omega)
  obtain ⟨g, hg⟩ : ∃ g, g = gZ p e := ⟨_, rfl⟩
  rw [← hg] at h1 hq hr ⊢
  have e1 : p / g = q := by rw [hq]; exact Int.mul_ediv_cancel_left _ (by omega)
  have q1 : 1 ≤ q := by
    by_cases h : q ≤ 0
    · have := Int.mul_nonpos_of_nonneg_of_nonpos (by omega : 0 ≤ g) h
      omega
    · omega
  have qp : q ≤ p := by
    have := Int.mul_le_mul h1 (Int.le_refl q) (by omega) (by omega)
    omega
  rw [e1]
  refine ⟨q1, qp, ?_, ?_, ⟨r, ?_⟩, ⟨q, by rw [Int.mul_comm]⟩⟩
  · have := Int.mul_le_mul q1 (by omega : (1 : Int) ≤ e) (by omega) (by omega)
    omega
  · have := Int.mul_le_mul (by omega : q ≤ 100000) he2 (by omega) (by omega)
    omega
  · rw [hq]
    conv => lhs; rw [hr]
    rw [← Int.mul_assoc, Int.mul_comm q g]
theorem perZ_range : ∀ (L : List S44) (p : Int), 1 ≤ p → p ≤ 100000 → Ev_ L → 0 ≤ perZ p L ∧ perZ p L ≤ 100000
  | [], p, h1, h2, _ => ⟨by show 0 ≤ p; omega, h2⟩
  | x :: xs, p, h1, h2, h => by
    have hx := h x (by simp)
    have hs := step_facts p x.f0 h1 h2 hx.1 hx.2
    unfold perZ
    split
    · omega
    · exact perZ_range xs _ hs.2.2.1 (by omega) (fun y hy => h y (by simp [hy]))
theorem per_l0 (L : List S44) (hL : L.length ≤ 100) (hE : Ev_ L) : ∀ (d i : Nat) (p : Int), i + d = L.length → 1 ≤ p → p ≤ 100000 →
    ∀ K, 100 + d < K → spec_siPeriod.l0 K p L L.length i = some (perZ p (L.drop i)) ∧ impl_lcmOf.l0 K p L L.length i = some (if perZ p (L.drop i) = 0 then (0, false) else (perZ p (L.drop i), true)) := by
  intro d
  induction d with
  | zero =>
    intro i p hi hp hp2 K hK
    obtain ⟨K, rfl⟩ : ∃ k, K = k + 1 := ⟨K - 1, by omega⟩
    have hc : ¬ (i : Int) < (L.length : Int) := by omega
    simp only [spec_siPeriod.l0, impl_lcmOf.l0]
    rw [if_neg hc, if_neg hc, List.drop_of_length_le (by omega)]
    have h0 : ¬ p = 0 := by omega
    simp [perZ, h0]
  | succ d ih =>
    intro i p hi hp hp2 K hK
    obtain ⟨K, rfl⟩ : ∃ k, K = k + 1 := ⟨K - 1, by omega⟩
    have hlt : (i : Int) < (L.length : Int) := by omega
    have hi0 : (0 : Int) ≤ (i : Int) := by omega
    have hd := drop_rdT L i (by omega)
    have hm : rd_T44 L (i : Int) ∈ L := List.mem_of_mem_drop (i := i) (by rw [hd]; simp)
    have hx := hE _ hm
    have hs := step_facts p _ hp hp2 hx.1 hx.2
    have hg := gZ_facts p (rd_T44 L (i : Int)).f0 hp (by omega)
    have hga := gcd_at p (rd_T44 L (i : Int)).f0 (by omega) (by omega) hx.2 K (by omega)
    have hg0 : ¬ gZ p (rd_T44 L (i : Int)).f0 = 0 := by omega
    simp only [spec_siPeriod.l0, impl_lcmOf.l0]
    rw [if_pos hlt, if_pos hlt, if_pos hi0, if_pos hi0, if_pos hlt, if_pos hlt, hga.1, hga.2, hd]
    simp only [Option.bind_some]
    rw [if_neg hg0, if_neg hg0, Int.tdiv_eq_ediv_of_nonneg (by omega), w64 (x := p / gZ p (rd_T44 L (i : Int)).f0) (by omega) (by omega), w64 (x := p / gZ p (rd_T44 L (i : Int)).f0 * (rd_T44 L (i : Int)).f0) (by omega) (by omega), w64 (x := (i : Int) + 1) (by omega) (by omega)]
    unfold perZ
    by_cases hb : p / gZ p (rd_T44 L (i : Int)).f0 * (rd_T44 L (i : Int)).f0 > 100000
    · rw [if_pos hb, if_pos hb, if_pos hb]
      exact ⟨rfl, by simp⟩
    · have h := ih (i + 1) _ (by omega) hs.2.2.1 (by omega) K (by omega)
      rw [show ((i + 1 : Nat) : Int) = (i : Int) + 1 from by omega] at h
      rw [if_neg hb, if_neg hb, if_neg hb]
      exact h
theorem per_at (L : List S44) (hL : L.length ≤ 100) (hE : Ev_ L) (K : Nat) (hK : 1000 < K) : spec_siPeriod.f K L = some (perZ 1 L) ∧ impl_lcmOf.f K L = some (if perZ 1 L = 0 then (0, false) else (perZ 1 L, true)) :=
  per_l0 L hL hE L.length 0 1 (by omega) (by omega) (by omega) K (by omega)
theorem good_ev {L : List S44} (h : goodB L = true) : Ev_ L := fun x hx => by have := good_mem h x hx; omega
theorem same_l0 (a b : List S44) (ha : goodB a = true) (hb : goodB b = true) (P : Int) (hP : perZ 1 (a ++ b) = P) (hP2 : P ≤ 100000) : ∀ (d : Nat) (m : Int), 0 ≤ m → P - m ≤ d →
    ∃ v, ∀ K, 1001 + d < K → spec_AreSameSieve.l0 K a b (a ++ b) m = some v ∧ impl_AreSameSieve.l0 K a b P m = some v := by
  have hla := good_len ha
  have hlb := good_len hb
  have hE : Ev_ (a ++ b) := fun x hx => by
    rcases List.mem_append.1 hx with h | h
    · exact good_ev ha x h
    · exact good_ev hb x h
  have hp := fun K hK => (per_at (a ++ b) (by simp; omega) hE K hK).1
  rw [hP] at hp
  intro d
  induction d with
  | zero =>
    intro m h0 h1
    refine ⟨(true, true), fun K hK => ?_⟩
    obtain ⟨K, rfl⟩ : ∃ k, K = k + 1 := ⟨K - 1, by omega⟩
    have hc : ¬ m < P := by omega
    simp only [spec_AreSameSieve.l0, impl_AreSameSieve.l0]
    rw [hp K (by omega)]
    simp only [Option.bind_some]
    rw [if_neg hc, if_neg hc]
    exact ⟨rfl, rfl⟩
  | succ d ih =>
    intro m h0 h1
    by_cases hc : m < P
    · by_cases hx : (leftB a m != leftB b m) = true
      · refine ⟨(false, true), fun K hK => ?_⟩
        obtain ⟨K, rfl⟩ : ∃ k, K = k + 1 := ⟨K - 1, by omega⟩
        simp only [spec_AreSameSieve.l0, impl_AreSameSieve.l0]
        rw [hp K (by omega)]
        simp only [Option.bind_some]
        rw [if_pos hc, if_pos hc, siLeft_at m a ha K (by omega), siLeft_at m b hb K (by omega), isLeft_at m a ha, isLeft_at m b hb]
        simp only [Option.bind_some]
        rw [if_pos hx, if_pos hx]
        exact ⟨rfl, rfl⟩
      · obtain ⟨v, hv⟩ := ih (m + 1) (by omega) (by omega)
        refine ⟨v, fun K hK => ?_⟩
        obtain ⟨K, rfl⟩ : ∃ k, K = k + 1 := ⟨K - 1, by omega⟩
        simp only [spec_AreSameSieve.l0, impl_AreSameSieve.l0]
        rw [hp K (by omega)]
        simp only [Option.bind_some]
        rw [if_pos hc, if_pos hc, siLeft_at m a ha K (by omega), siLeft_at m b hb K (by omega), isLeft_at m a ha, isLeft_at m b hb]
        simp only [Option.bind_some]
        rw [if_neg hx, if_neg hx, w64 (by omega) (by omega)]
        exact hv K (by omega)
    · refine ⟨(true, true), fun K hK => ?_⟩
      obtain ⟨K, rfl⟩ : ∃ k, K = k + 1 := ⟨K - 1, by omega⟩
      simp only [spec_AreSameSieve.l0, impl_AreSameSieve.l0]
      rw [hp K (by omega)]
      simp only [Option.bind_some]
      rw [if_neg hc, if_neg hc]
      exact ⟨rfl, rfl⟩
theorem both (a b : List S44) : ∃ v, spec_AreSameSieve.f 1000000000 a b = some v ∧ impl_AreSameSieve.f 1000000000 a b = some v := by
  unfold spec_AreSameSieve.f impl_AreSameSieve.f
  rw [siGood_at a _ (by omega), siGood_at b _ (by omega), areRules_at, areRules_at]
  simp only [Option.bind_some, spec_AreSameSieve.j0, impl_AreSameSieve.j0, List.nil_append, List.length_nil, Nat.zero_add]
  by_cases ha : goodB a = true
  · by_cases hb : goodB b = true
    · have hla := good_len ha
      have hlb := good_len hb
      have hE : Ev_ (a ++ b) := fun x hx => by
        rcases List.mem_append.1 hx with h | h
        · exact good_ev ha x h
        · exact good_ev hb x h
      have hp := per_at (a ++ b) (by simp; omega) hE 999999999 (by omega)
      have hr := perZ_range (a ++ b) 1 (by omega) (by omega) hE
      obtain ⟨v, hv⟩ := same_l0 a b ha hb _ rfl hr.2 100000 0 (by omega) (by omega)
      have h := hv 999999999 (by omega)
      have h1 : a.length < 8796093022208 := by omega
      have h2 : a.length + b.length < 8796093022208 := by omega
      have hn : ¬ ((!true) = true) := by simp
      rw [ha, hb, if_pos rfl, if_pos rfl, if_neg hn, if_neg hn, if_pos h1, if_pos h1, if_pos h2, if_pos h2, hp.1, hp.2]
      simp only [Option.bind_some]
      by_cases h0 : perZ 1 (a ++ b) = 0
      · exact ⟨(false, false), by rw [if_pos h0], by rw [if_pos h0]; rfl⟩
      · refine ⟨v, by rw [if_neg h0]; exact h.1, ?_⟩
        rw [if_neg h0, if_pos rfl]
        exact h.2
    · exact ⟨(false, false), by simp [ha, hb], by simp [ha, hb]⟩
  · exact ⟨(false, false), by simp [ha], by simp [ha]⟩
theorem sz_at (xs : List S46) (a : Int) (h1 : xs.length ≤ maxLen) (ha : 0 ≤ a) (ha2 : a ≤ 1048576) : laws_szRuleS.f xs a = some (if (xs.length : Int) ≤ a then a - (xs.length : Int) else (-1 : Int)) := by
  unfold maxLen at h1
  unfold laws_szRuleS.f
  rw [w64 (by omega) (by omega)]
  by_cases h : (xs.length : Int) ≤ a
  · rw [if_neg (by omega), if_pos h]
  · rw [if_pos (by omega), if_neg h]

theorem done : laws_FnExactAreSameSieve.Pure := by
  intro l0 l1 hm hb hw hm1 hb1 hw1
  by_cases hl : (l0.length : Int) ≤ 1048576
  · by_cases hl1 : (l1.length : Int) ≤ 1048576 - (l0.length : Int)
    · refine ⟨1000000000, ?_⟩
      obtain ⟨a, hA⟩ : ∃ L, L = l0.map conv := ⟨_, rfl⟩
      obtain ⟨b, hB⟩ : ∃ L, L = l1.map conv := ⟨_, rfl⟩
      have hlen : a.length ≤ 100000000 := by rw [hA, List.length_map]; omega
      have hlen1 : b.length ≤ 100000000 := by rw [hB, List.length_map]; omega
      obtain ⟨v, hs, hi⟩ := both a b
      have n3 : ¬ ((1048576 : Int) - (l0.length : Int) < 0) := by omega
      have n4 : ¬ ((1048576 : Int) - (l0.length : Int) - (l1.length : Int) < 0) := by omega
      have hT1 : laws_toRuleS.f 1000000000 l0 = some a := by rw [hA]; exact toRuleS_at l0 (by omega) _ (by omega)
      have hT2 : laws_toRuleS.f 999999999 l0 = some a := by rw [hA]; exact toRuleS_at l0 (by omega) _ (by omega)
      have hU1 : laws_toRuleS.f 1000000000 l1 = some b := by rw [hB]; exact toRuleS_at l1 (by omega) _ (by omega)
      have hU2 : laws_toRuleS.f 999999999 l1 = some b := by rw [hB]; exact toRuleS_at l1 (by omega) _ (by omega)
      have hE2 := eqRuleS_at a hlen 999999999 (by omega)
      have hE3 := eqRuleS_at b hlen1 999999999 (by omega)
      unfold laws_FnExactAreSameSieve.f
      rw [sz_at l0 _ hm (by omega) (by omega), if_pos hl]
      simp only [Option.bind_some]
      rw [if_neg n3, sz_at l1 _ hm1 (by omega) (by omega), if_pos hl1]
      simp only [Option.bind_some]
      rw [if_neg n4]
      simp only [Option.bind_some, hT1, hU1, hs, hi, laws_FnExactAreSameSieve.j0, hT2, hU2, hE2, hE3]
      simp
    · refine ⟨1, ?_⟩
      have n3 : ¬ ((1048576 : Int) - (l0.length : Int) < 0) := by omega
      unfold laws_FnExactAreSameSieve.f
      rw [sz_at l0 _ hm (by omega) (by omega), if_pos hl]
      simp only [Option.bind_some]
      rw [if_neg n3, sz_at l1 _ hm1 (by omega) (by omega), if_neg hl1]
      rfl
  · refine ⟨1, ?_⟩
    unfold laws_FnExactAreSameSieve.f
    rw [sz_at l0 _ hm (by omega) (by omega), if_neg hl]
    rfl
end OwnFnExactAreSameSieve
theorem FnExactAreSameSieve : laws_FnExactAreSameSieve.Pure := OwnFnExactAreSameSieve.done
end Go.Proofs.Ytmopmjjendcneaa.Pure
