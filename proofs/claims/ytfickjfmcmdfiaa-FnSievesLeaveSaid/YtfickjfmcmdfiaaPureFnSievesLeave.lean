/- What rules leave up to a number, ranks, next ones, first rules and what each rule crosses out agree, and as many are crossed out and left as there are, whatever is drawn: no condition. -/
import Derived.Test.YtfickjfmcmdfiaaPFnSievesLeavex7
namespace Go.Proofs.Ytfickjfmcmdfiaa.Pure
open Go.RowKit Go.Proofs.Ytfickjfmcmdfiaa.PFnSievesLeave Go.Proofs.YtfickjfmcmdfiaaW.PrintWords Go.Proofs.YtfickjfmcmdfiaaW.PrintLast Go.Proofs.YtfickjfmcmdfiaaW.PrintMore
set_option linter.unusedVariables false
set_option linter.unusedSimpArgs false
namespace OwnFnSievesLeave
theorem w64 {x : Int} (h0 : -9223372036854775808 ≤ x) (h1 : x ≤ 9223372036854775807) : wrap64 x = x := by unfold wrap64; omega
theorem l1In_at (n a b : Int) : spec_l1In.f n a b = some (decide (a ≤ n ∧ n ≤ b)) := by
  unfold spec_l1In.f
  by_cases h : a ≤ n
  · rw [if_pos (by omega)]; simp [h]
  · rw [if_neg (by omega)]; simp [h]
/-- What a rule is. -/
def ruleB (e r : Int) : Bool := decide (2 ≤ e ∧ e ≤ 60 ∧ 0 ≤ r ∧ r < e)
theorem isRule_at (e r : Int) : impl_isRule.f e r = some (ruleB e r) := by
  unfold impl_isRule.f ruleB
  by_cases h1 : e ≥ 2
  · rw [if_pos h1]
    by_cases h2 : e ≤ 60
    · rw [if_pos h2]
      by_cases h3 : r ≥ 0
      · rw [if_pos h3]
        congr 1
        rw [decide_eq_decide]
        omega
      · rw [if_neg h3, decide_eq_false (by omega)]
    · rw [if_neg h2, decide_eq_false (by omega)]
  · rw [if_neg h1, decide_eq_false (by omega)]
theorem siRule_at (e r : Int) : spec_siRule.f e r = some (ruleB e r) := by
  unfold spec_siRule.f ruleB
  rw [l1In_at]
  simp only [Option.bind_some]
  by_cases h1 : 2 ≤ e ∧ e ≤ 60
  · rw [decide_eq_true h1, if_pos rfl, w64 (by omega) (by omega), l1In_at]
    simp only [Option.bind_some]
    congr 1
    rw [decide_eq_decide]
    omega
  · rw [decide_eq_false h1, if_neg (by simp), decide_eq_false (by omega)]
theorem drop_rdT (xs : List S53) (i : Nat) (h : i < xs.length) : xs.drop i = rd_T53 xs (i : Int) :: xs.drop (i + 1) := by
  rw [List.drop_eq_getElem_cons h]
  simp [rd_T53, List.getD, h]
/-- What a list of rules is. -/
def goodB (L : List S53) : Bool := decide (L.length ≤ 12) && L.all (fun x => ruleB x.f0 x.f1)
theorem areAny_at : ∀ L : List S53, impl_areRules.any L = some (!(L.all fun x => ruleB x.f0 x.f1))
  | [] => rfl
  | x :: xs => by
    simp only [impl_areRules.any, isRule_at, Option.bind_some, List.all_cons]
    rw [areAny_at xs]
    cases ruleB x.f0 x.f1 <;> simp
theorem areRules_at (L : List S53) : impl_areRules.f L = some (goodB L) := by
  unfold impl_areRules.f goodB
  rw [areAny_at]
  by_cases h : L.length ≤ 12
  · rw [if_pos (by omega)]; simp [h]
  · rw [if_neg (by omega)]; simp [h]
theorem siGood_l0 (L : List S53) (hL : L.length ≤ 12) : ∀ (d i : Nat), i + d = L.length → ∀ K, d < K → spec_siGood.l0 K L L.length i = some ((L.drop i).all fun x => ruleB x.f0 x.f1) := by
  intro d
  induction d with
  | zero =>
    intro i hi K hK
    obtain ⟨K, rfl⟩ : ∃ k, K = k + 1 := ⟨K - 1, by omega⟩
    simp only [spec_siGood.l0]
    rw [if_neg (by omega), List.drop_of_length_le (by omega)]
    rfl
  | succ d ih =>
    intro i hi K hK
    obtain ⟨K, rfl⟩ : ∃ k, K = k + 1 := ⟨K - 1, by omega⟩
    have hlt : (i : Int) < (L.length : Int) := by omega
    have h := ih (i + 1) (by omega) K (by omega)
    simp only [spec_siGood.l0]
    rw [if_pos hlt, if_pos (by omega), if_pos hlt, siRule_at, w64 (by omega) (by omega), drop_rdT L i (by omega)]
    simp only [Option.bind_some, List.all_cons]
    rw [show (i : Int) + 1 = ((i + 1 : Nat) : Int) from by omega, h]
    cases ruleB (rd_T53 L (i : Int)).f0 (rd_T53 L (i : Int)).f1 <;> simp
theorem siGood_at (L : List S53) (K : Nat) (hK : 100 < K) : spec_siGood.f K L = some (goodB L) := by
  unfold spec_siGood.f goodB
  by_cases h : L.length ≤ 12
  · have h0 := siGood_l0 L h L.length 0 (by omega) K (by omega)
    have h0' : spec_siGood.l0 K L L.length 0 = _ := h0
    rw [if_neg (by omega), h0']; simp [h]
  · rw [if_pos (by omega)]; simp [h]
theorem good_len {L : List S53} (h : goodB L = true) : L.length ≤ 12 := by
  unfold goodB at h
  simp at h
  exact h.1
theorem good_mem {L : List S53} (h : goodB L = true) (x : S53) (hx : x ∈ L) : 2 ≤ x.f0 ∧ x.f0 ≤ 60 ∧ 0 ≤ x.f1 ∧ x.f1 < x.f0 := by
  unfold goodB at h
  simp at h
  have := h.2 x hx
  unfold ruleB at this
  simpa using this
/-- The remainder, as both texts reckon it. -/
def modZ (n e : Int) : Int := Int.tmod (wrap64 (Int.tmod n e + e)) e
theorem mod_at (n e : Int) (h : e ≠ 0) : impl_mod.f n e = some (modZ n e) := by
  unfold impl_mod.f modZ; rw [if_neg h]
theorem siRest_at (n e : Int) (h : e ≠ 0) : spec_siRest.f n e = some (modZ n e) := by
  unfold spec_siRest.f modZ; rw [if_neg h]
/-- The first rule that crosses a number out, from index i on; -1 for none. -/
def firstZ (n : Int) : Int → List S53 → Int
  | _, [] => -1
  | i, x :: xs => if modZ n x.f0 = x.f1 then i else firstZ n (i + 1) xs
theorem firstRule_go (n : Int) : ∀ (L : List S53) (i : Int), (∀ x ∈ L, x.f0 ≠ 0) → impl_firstRule.go n i L = some (firstZ n i L)
  | [], _, _ => rfl
  | x :: xs, i, h => by
    simp only [impl_firstRule.go, firstZ]
    rw [mod_at n _ (h x (by simp)), firstRule_go n xs (i + 1) (fun y hy => h y (by simp [hy]))]
    simp only [Option.bind_some]
    split <;> rfl
theorem firstRule_at (n : Int) (L : List S53) (h : goodB L = true) : impl_firstRule.f L n = some (firstZ n 0 L) :=
  firstRule_go n L 0 (fun x hx => by have := good_mem h x hx; omega)
theorem siFirst_l0 (n : Int) (L : List S53) (hL : L.length ≤ 12) (h0 : ∀ x ∈ L, x.f0 ≠ 0) : ∀ (d i : Nat), i + d = L.length → ∀ K, d < K → spec_siFirst.l0 K n L L.length i = some (firstZ n i (L.drop i)) := by
  intro d
  induction d with
  | zero =>
    intro i hi K hK
    obtain ⟨K, rfl⟩ : ∃ k, K = k + 1 := ⟨K - 1, by omega⟩
    simp only [spec_siFirst.l0]
    rw [if_neg (by omega), List.drop_of_length_le (by omega)]
    rfl
  | succ d ih =>
    intro i hi K hK
    obtain ⟨K, rfl⟩ : ∃ k, K = k + 1 := ⟨K - 1, by omega⟩
    have hlt : (i : Int) < (L.length : Int) := by omega
    have h := ih (i + 1) (by omega) K (by omega)
    have hd := drop_rdT L i (by omega)
    have hm : rd_T53 L (i : Int) ∈ L := List.mem_of_mem_drop (i := i) (by rw [hd]; simp)
    simp only [spec_siFirst.l0]
    rw [if_pos hlt, if_pos (by omega), if_pos hlt, siRest_at _ _ (h0 _ hm), w64 (by omega) (by omega), hd]
    simp only [Option.bind_some, firstZ]
    rw [show (i : Int) + 1 = ((i + 1 : Nat) : Int) from by omega, h]
    split <;> rfl
theorem siFirst_at (n : Int) (L : List S53) (h : goodB L = true) (K : Nat) (hK : 100 < K) : spec_siFirst.f K L n = some (firstZ n 0 L) :=
  siFirst_l0 n L (good_len h) (fun x hx => by have := good_mem h x hx; omega) L.length 0 (by omega) K (by have := good_len h; omega)
/-- Is a number left? -/
def leftB (L : List S53) (n : Int) : Bool := decide (firstZ n 0 L < 0)
theorem isLeft_at (n : Int) (L : List S53) (h : goodB L = true) : impl_isLeft.f L n = some (leftB L n) := by
  unfold impl_isLeft.f; rw [firstRule_at n L h]; rfl
theorem siLeft_at (n : Int) (L : List S53) (h : goodB L = true) (K : Nat) (hK : 100 < K) : spec_siLeft.f K L n = some (leftB L n) := by
  unfold spec_siLeft.f; rw [siFirst_at n L h K hK]; rfl
theorem isNumber_at (n : Int) : impl_isNumber.f n = some (decide (-600 ≤ n ∧ n ≤ 600)) := by
  unfold impl_isNumber.f
  by_cases h : -600 ≤ n
  · rw [if_pos (by omega)]; simp [h]
  · rw [if_neg (by omega)]; simp [h]
theorem siNumber_at (n : Int) : spec_siNumber.f n = some (decide (-600 ≤ n ∧ n ≤ 600)) := by
  unfold spec_siNumber.f; rw [l1In_at]; rfl
theorem isMost_at (n : Int) : impl_isMost.f n = some (decide (0 ≤ n ∧ n ≤ 600)) := by
  unfold impl_isMost.f
  by_cases h : 0 ≤ n
  · rw [if_pos (by omega)]; simp [h]
  · rw [if_neg (by omega)]; simp [h]
theorem siMost_at (L : List S53) (n : Int) (K : Nat) (hK : 100 < K) : spec_siMost.f K L n = some (goodB L && decide (0 ≤ n ∧ n ≤ 600)) := by
  unfold spec_siMost.f
  rw [siGood_at L K hK, l1In_at]
  cases goodB L <;> simp
/-- Those of d numbers from n on that a test lets in. -/
def ff (p : Int → Bool) : Nat → Int → List Int
  | 0, _ => []
  | d + 1, n => if p n = true then n :: ff p d (n + 1) else ff p d (n + 1)
theorem ff_len (p : Int → Bool) : ∀ (d : Nat) (n : Int), (ff p d n).length ≤ d
  | 0, _ => Nat.le_refl _
  | d + 1, n => by
    unfold ff
    have := ff_len p d (n + 1)
    split
    · simp; omega
    · omega
theorem leftBetween_l0 (L : List S53) (hL : goodB L = true) (hi : Int) (hh : hi ≤ 1000000) : ∀ (d : Nat) (n : Int) (acc : List Int), -1000000 ≤ n → hi + 1 - n ≤ d → acc.length + d ≤ 4000000 →
    ∀ K, d < K → impl_leftBetween.l0 K L hi acc n = some (acc ++ ff (leftB L) (hi + 1 - n).toNat n) := by
  intro d
  induction d with
  | zero =>
    intro n acc h0 h1 h3 K hK
    obtain ⟨K, rfl⟩ : ∃ k, K = k + 1 := ⟨K - 1, by omega⟩
    simp only [impl_leftBetween.l0]
    rw [if_neg (by omega), show (hi + 1 - n).toNat = 0 from by omega]
    simp [ff]
  | succ d ih =>
    intro n acc h0 h1 h3 K hK
    obtain ⟨K, rfl⟩ : ∃ k, K = k + 1 := ⟨K - 1, by omega⟩
    simp only [impl_leftBetween.l0]
    by_cases hc : n ≤ hi
    · rw [if_pos hc, isLeft_at n L hL, w64 (by omega) (by omega)]
      simp only [Option.bind_some]
      rw [show (hi + 1 - n).toNat = (hi + 1 - (n + 1)).toNat + 1 from by omega]
      unfold ff
      by_cases hp : leftB L n = true
      · rw [if_pos hp, if_pos hp, if_pos (by omega), ih (n + 1) (acc ++ [n]) (by omega) (by omega) (by simp; omega) K (by omega)]
        simp
      · rw [if_neg hp, if_neg hp, ih (n + 1) acc (by omega) (by omega) (by omega) K (by omega)]
    · rw [if_neg hc, show (hi + 1 - n).toNat = 0 from by omega]
      simp [ff]
theorem leftBetween_at (L : List S53) (hL : goodB L = true) (lo hi : Int) (h0 : 0 ≤ lo) (h1 : lo ≤ 1000) (hh : hi ≤ 200000) (K : Nat) (hK : 1000000 < K) : impl_leftBetween.f K L lo hi = some (ff (leftB L) (hi + 1 - lo).toNat lo) := by
  unfold impl_leftBetween.f
  rw [leftBetween_l0 L hL hi (by omega) 300000 lo [] (by omega) (by omega) (by simp) K (by omega)]
  simp
theorem siList_l0 (L : List S53) (hL : goodB L = true) (hi : Int) (hh : hi ≤ 1000000) : ∀ (d : Nat) (n : Int) (acc : List Int), -1000000 ≤ n → hi + 1 - n ≤ d → acc.length + d ≤ 4000000 →
    ∀ K, 100 + d < K → spec_siList.l0 K L hi acc n = some (acc ++ ff (leftB L) (hi + 1 - n).toNat n) := by
  intro d
  induction d with
  | zero =>
    intro n acc h0 h1 h3 K hK
    obtain ⟨K, rfl⟩ : ∃ k, K = k + 1 := ⟨K - 1, by omega⟩
    simp only [spec_siList.l0]
    rw [if_neg (by omega), show (hi + 1 - n).toNat = 0 from by omega]
    simp [ff]
  | succ d ih =>
    intro n acc h0 h1 h3 K hK
    obtain ⟨K, rfl⟩ : ∃ k, K = k + 1 := ⟨K - 1, by omega⟩
    simp only [spec_siList.l0]
    by_cases hc : n ≤ hi
    · rw [if_pos hc, siLeft_at n L hL K (by omega), w64 (by omega) (by omega)]
      simp only [Option.bind_some]
      rw [show (hi + 1 - n).toNat = (hi + 1 - (n + 1)).toNat + 1 from by omega]
      unfold ff
      by_cases hp : leftB L n = true
      · rw [if_pos hp, if_pos hp, if_pos (by omega), ih (n + 1) (acc ++ [n]) (by omega) (by omega) (by simp; omega) K (by omega)]
        simp
      · rw [if_neg hp, if_neg hp, ih (n + 1) acc (by omega) (by omega) (by omega) K (by omega)]
    · rw [if_neg hc, show (hi + 1 - n).toNat = 0 from by omega]
      simp [ff]
theorem siList_at (L : List S53) (hL : goodB L = true) (hi : Int) (hh : hi ≤ 1000) (K : Nat) (hK : 1000000 < K) : spec_siList.f K L hi = some (ff (leftB L) hi.toNat 1) := by
  unfold spec_siList.f
  rw [siList_l0 L hL hi (by omega) 300000 1 [] (by omega) (by omega) (by simp) K (by omega), show hi + 1 - 1 = hi from by omega]
  simp
theorem drop_rd (xs : List Int) (i : Nat) (h : i < xs.length) : xs.drop i = rd xs (i : Int) :: xs.drop (i + 1) := by
  rw [List.drop_eq_getElem_cons h]
  simp [rd, List.getD, h]
theorem rd_mem (xs : List Int) (i : Nat) (h : i < xs.length) : rd xs (i : Int) ∈ xs := by
  simp [rd, List.getD, h]
theorem modZ_eq (n e : Int) (h1 : 2 ≤ e) (h2 : e ≤ 60) (h3 : -1000000000000 ≤ n) (h4 : n ≤ 1000000000000) : modZ n e = n % e := by
  have r0 := Int.emod_nonneg n (by omega : e ≠ 0)
  have r1 := Int.emod_lt_of_pos n (by omega : 0 < e)
  have hk : ∀ x : Int, 0 ≤ x → x < 2 * e → (x = n % e ∨ x = n % e + e) → Int.tmod (wrap64 x) e = n % e := by
    intro x hx0 hx1 hx
    rw [w64 (by omega) (by omega), Int.tmod_eq_emod_of_nonneg hx0]
    rcases hx with rfl | rfl
    · exact Int.emod_emod_of_dvd _ (Int.dvd_refl e)
    · rw [Int.add_emod_right]; exact Int.emod_emod_of_dvd _ (Int.dvd_refl e)
  unfold modZ
  by_cases h : 0 ≤ n ∨ e ∣ n
  · have ht : Int.tmod n e = n % e := by rw [Int.tmod_eq_emod, if_pos h]; simp
    rw [ht]
    exact hk _ (by omega) (by omega) (.inr rfl)
  · have he : (e.natAbs : Int) = e := by omega
    have ht : Int.tmod n e = n % e - e := by rw [Int.tmod_eq_emod, if_neg h, he]
    rw [ht]
    exact hk _ (by omega) (by omega) (.inl (by omega))
theorem gcdS_l0 : ∀ (b a : Nat) (K : Nat), b < K → spec_siCommon.l0 K (a : Int) (b : Int) = some ((Nat.gcd a b : Nat) : Int) := by
  intro b
  induction b using Nat.strongRecOn with
  | _ b ih =>
    intro a K hK
    obtain ⟨K, rfl⟩ : ∃ k, K = k + 1 := ⟨K - 1, by omega⟩
    simp only [spec_siCommon.l0]
    by_cases hb : b = 0
    · subst hb
      have hc : ¬ ((0 : Nat) : Int) > 0 := by omega
      rw [if_neg hc]
      simp
    · have hc : (b : Int) > 0 := by omega
      have hz : ¬ (b : Int) = 0 := by omega
      have h := ih (a % b) (Nat.mod_lt _ (by omega)) b K (by have := Nat.mod_lt a (by omega : b > 0); omega)
      rw [if_pos hc, if_neg hz, Int.tmod_eq_emod_of_nonneg (by omega), show (a : Int) % (b : Int) = ((a % b : Nat) : Int) from rfl, h]
      have e : Nat.gcd b (a % b) = Nat.gcd a b := by rw [Nat.gcd_comm a b, Nat.gcd_rec b a, Nat.gcd_comm]
      rw [e]
/-- The greatest common divisor of two numbers. -/
def gZ (a b : Int) : Int := ((Nat.gcd a.toNat b.toNat : Nat) : Int)
theorem gcdS_at (a b : Int) (ha : 0 ≤ a) (hb : 0 ≤ b) (hb2 : b ≤ 60) (K : Nat) (hK : 100 < K) : spec_siCommon.f K a b = some (gZ a b) := by
  have h := gcdS_l0 b.toNat a.toNat K (by omega)
  rw [show ((a.toNat : Nat) : Int) = a from by omega, show ((b.toNat : Nat) : Int) = b from by omega] at h
  exact h
theorem gZ_facts (a b : Int) (ha : 1 ≤ a) (hb : 1 ≤ b) : 1 ≤ gZ a b ∧ gZ a b ∣ a ∧ gZ a b ∣ b := by
  have h0 : 0 < Nat.gcd a.toNat b.toNat := Nat.gcd_pos_of_pos_left _ (by omega)
  refine ⟨by unfold gZ; omega, ?_, ?_⟩
  · have h := Int.ofNat_dvd.2 (Nat.gcd_dvd_left a.toNat b.toNat)
    rw [show ((a.toNat : Nat) : Int) = a from by omega] at h
    exact h
  · have h := Int.ofNat_dvd.2 (Nat.gcd_dvd_right a.toNat b.toNat)
    rw [show ((b.toNat : Nat) : Int) = b from by omega] at h
    exact h
/-- The period of rules, begun at p; 0 if it is too great. -/
def perZ : Int → List S53 → Int
  | p, [] => p
  | p, x :: xs => if p / gZ p x.f0 * x.f0 > 100000 then 0 else perZ (p / gZ p x.f0 * x.f0) xs
def Ev_ (L : List S53) : Prop := ∀ x ∈ L, 2 ≤ x.f0 ∧ x.f0 ≤ 60
theorem step_facts (p e : Int) (hp : 1 ≤ p) (h2 : p ≤ 100000) (he : 2 ≤ e) (he2 : e ≤ 60) : 1 ≤ p / gZ p e ∧ p / gZ p e ≤ p ∧ 1 ≤ p / gZ p e * e ∧ p / gZ p e * e ≤ 6000000 ∧ p ∣ p / gZ p e * e ∧ e ∣ p / gZ p e * e := by
  obtain ⟨h1, ⟨q, hq⟩, ⟨r, hr⟩⟩ := gZ_facts p e hp (by omega)
  obtain ⟨g, hg⟩ : ∃ g, g = gZ p e := ⟨_, rfl⟩
  rw [← hg] at h1 hq hr ⊢
  have e1 : p / g = q := by rw [hq]; exact Int.mul_ediv_cancel_left _ (by omega)
  have q1 : 1 ≤ q := by
    by_cases h : q ≤ 0
    · have := Int.mul_nonpos_of_nonneg_of_nonpos (by omega : 0 ≤ g) h
      omega
    · omega
  have qp : q ≤ p := by
    have := Int.mul_le_mul h1 (Int.le_refl q) (by omega) (by omega)
    omega
  rw [e1]
  refine ⟨q1, qp, ?_, ?_, ⟨r, ?_⟩, ⟨q, by rw [Int.mul_comm]⟩⟩
  · have := Int.mul_le_mul q1 (by omega : (1 : Int) ≤ e) (by omega) (by omega)
    omega
  · have := Int.mul_le_mul (by omega : q ≤ 100000) he2 (by omega) (by omega)
    omega
  · rw [hq]
    conv => lhs; rw [hr]
    rw [← Int.mul_assoc, Int.mul_comm q g]
theorem perZ_range : ∀ (L : List S53) (p : Int), 1 ≤ p → p ≤ 100000 → Ev_ L → 0 ≤ perZ p L ∧ perZ p L ≤ 100000
  | [], p, h1, h2, _ => ⟨by show 0 ≤ p; omega, h2⟩
  | x :: xs, p, h1, h2, h => by
    have hx := h x (by simp)
    have hs := step_facts p x.f0 h1 h2 hx.1 hx.2
    unfold perZ
    split
    · omega
    · exact perZ_range xs _ hs.2.2.1 (by omega) (fun y hy => h y (by simp [hy]))
theorem perS_l0 (L : List S53) (hL : L.length ≤ 100) (hE : Ev_ L) : ∀ (d i : Nat) (p : Int), i + d = L.length → 1 ≤ p → p ≤ 100000 →
    ∀ K, 100 + d < K → spec_siPeriod.l0 K p L L.length i = some (perZ p (L.drop i)) := by
  intro d
  induction d with
  | zero =>
    intro i p hi hp hp2 K hK
    obtain ⟨K, rfl⟩ : ∃ k, K = k + 1 := ⟨K - 1, by omega⟩
    have hc : ¬ (i : Int) < (L.length : Int) := by omega
    simp only [spec_siPeriod.l0]
    rw [if_neg hc, List.drop_of_length_le (by omega)]
    simp [perZ]
  | succ d ih =>
    intro i p hi hp hp2 K hK
    obtain ⟨K, rfl⟩ : ∃ k, K = k + 1 := ⟨K - 1, by omega⟩
    have hlt : (i : Int) < (L.length : Int) := by omega
    have hi0 : (0 : Int) ≤ (i : Int) := by omega
    have hd := drop_rdT L i (by omega)
    have hm : rd_T53 L (i : Int) ∈ L := List.mem_of_mem_drop (i := i) (by rw [hd]; simp)
    have hx := hE _ hm
    have hs := step_facts p _ hp hp2 hx.1 hx.2
    have hg := gZ_facts p (rd_T53 L (i : Int)).f0 hp (by omega)
    have hga := gcdS_at p (rd_T53 L (i : Int)).f0 (by omega) (by omega) hx.2 K (by omega)
    have hg0 : ¬ gZ p (rd_T53 L (i : Int)).f0 = 0 := by omega
    simp only [spec_siPeriod.l0]
    rw [if_pos hlt, if_pos hi0, if_pos hlt, hga, hd]
    simp only [Option.bind_some]
    rw [if_neg hg0, Int.tdiv_eq_ediv_of_nonneg (by omega), w64 (x := p / gZ p (rd_T53 L (i : Int)).f0) (by omega) (by omega), w64 (x := p / gZ p (rd_T53 L (i : Int)).f0 * (rd_T53 L (i : Int)).f0) (by omega) (by omega), w64 (x := (i : Int) + 1) (by omega) (by omega)]
    unfold perZ
    by_cases hb : p / gZ p (rd_T53 L (i : Int)).f0 * (rd_T53 L (i : Int)).f0 > 100000
    · rw [if_pos hb, if_pos hb]
    · have h := ih (i + 1) _ (by omega) hs.2.2.1 (by omega) K (by omega)
      rw [show ((i + 1 : Nat) : Int) = (i : Int) + 1 from by omega] at h
      rw [if_neg hb, if_neg hb]
      exact h
theorem perS_at (L : List S53) (hL : L.length ≤ 100) (hE : Ev_ L) (K : Nat) (hK : 1000 < K) : spec_siPeriod.f K L = some (perZ 1 L) :=
  perS_l0 L hL hE L.length 0 1 (by omega) (by omega) (by omega) K (by omega)
theorem good_ev {L : List S53} (h : goodB L = true) : Ev_ L := fun x hx => by have := good_mem h x hx; omega
theorem rd_get (xs : List Int) (i : Nat) (h : i < xs.length) : rd xs (i : Int) = xs[i] := by simp [rd, List.getD, h]
theorem tSame_l0 (xs : List Int) (hx : xs.length ≤ 100000000) : ∀ (d i : Nat), i + d = xs.length → ∀ K, d < K → laws_tSame.l0 K xs xs xs.length i = some true := by
  intro d
  induction d with
  | zero =>
    intro i hi K hK
    obtain ⟨K, rfl⟩ : ∃ k, K = k + 1 := ⟨K - 1, by omega⟩
    simp only [laws_tSame.l0]
    rw [if_neg (by omega)]
  | succ d ih =>
    intro i hi K hK
    obtain ⟨K, rfl⟩ : ∃ k, K = k + 1 := ⟨K - 1, by omega⟩
    have h1 : (i : Int) < (xs.length : Int) := by omega
    have h0 : (0 : Int) ≤ (i : Int) := by omega
    simp only [laws_tSame.l0]
    rw [if_pos h1, if_pos h0, if_pos h1, if_pos h1, if_pos trivial, w64 (by omega) (by omega)]
    exact ih (i + 1) (by omega) K (by omega)
theorem tSame_at (xs : List Int) (hx : xs.length ≤ 10000) (K : Nat) (hK : 10000 < K) : laws_tSame.f K xs xs = some true := by
  unfold laws_tSame.f
  rw [if_pos rfl]
  exact tSame_l0 xs (by omega) xs.length 0 (by omega) K (by omega)
theorem tRises_l0 (xs : List Int) (a b : Int) (hx : xs.length ≤ 100000000) (hp : xs.Pairwise (· < ·)) (hm : ∀ x ∈ xs, a ≤ x ∧ x ≤ b) : ∀ (d i : Nat), i + d = xs.length → ∀ K, d < K → laws_tRises.l0 K xs a b xs xs.length i = some true := by
  intro d
  induction d with
  | zero =>
    intro i hi K hK
    obtain ⟨K, rfl⟩ : ∃ k, K = k + 1 := ⟨K - 1, by omega⟩
    simp only [laws_tRises.l0]
    rw [if_neg (by omega)]
  | succ d ih =>
    intro i hi K hK
    obtain ⟨K, rfl⟩ : ∃ k, K = k + 1 := ⟨K - 1, by omega⟩
    have h1 : (i : Int) < (xs.length : Int) := by omega
    have h0 : (0 : Int) ≤ (i : Int) := by omega
    have hi' : i < xs.length := by omega
    have hme := hm _ (rd_mem xs i hi')
    have n1 : ¬ (rd xs (i : Int) < a) := by omega
    have n2 : ¬ (rd xs (i : Int) > b) := by omega
    have h := ih (i + 1) (by omega) K (by omega)
    rw [show ((i + 1 : Nat) : Int) = (i : Int) + 1 from by omega] at h
    simp only [laws_tRises.l0]
    rw [if_pos h1, if_pos h0, if_pos h1, if_neg n1, if_neg n2, w64 (x := (i : Int) + 1) (by omega) (by omega)]
    cases i with
    | zero =>
      rw [if_neg (by omega)]
      exact h
    | succ j =>
      have e : ((j + 1 : Nat) : Int) - 1 = (j : Int) := by omega
      have hlt : rd xs (j : Int) < rd xs ((j + 1 : Nat) : Int) := by
        rw [rd_get xs j (by omega), rd_get xs (j + 1) hi']
        exact List.pairwise_iff_getElem.1 hp j (j + 1) (by omega) hi' (by omega)
      rw [if_pos (by omega), w64 (x := ((j + 1 : Nat) : Int) - 1) (by omega) (by omega), e, if_pos (by omega), if_pos (by omega), if_neg (by omega)]
      exact h
theorem tHas_l0 (xs : List Int) (n : Int) (hx : xs.length ≤ 100000000) : ∀ (d i : Nat), i + d = xs.length → ∀ K, d < K → laws_tHas.l0 K n xs xs.length i = some (decide (n ∈ xs.drop i)) := by
  intro d
  induction d with
  | zero =>
    intro i hi K hK
    obtain ⟨K, rfl⟩ : ∃ k, K = k + 1 := ⟨K - 1, by omega⟩
    simp only [laws_tHas.l0]
    rw [if_neg (by omega), List.drop_of_length_le (by omega)]
    simp
  | succ d ih =>
    intro i hi K hK
    obtain ⟨K, rfl⟩ : ∃ k, K = k + 1 := ⟨K - 1, by omega⟩
    have h1 : (i : Int) < (xs.length : Int) := by omega
    have h0 : (0 : Int) ≤ (i : Int) := by omega
    have h := ih (i + 1) (by omega) K (by omega)
    rw [show ((i + 1 : Nat) : Int) = (i : Int) + 1 from by omega] at h
    simp only [laws_tHas.l0]
    rw [if_pos h1, if_pos h0, if_pos h1, w64 (x := (i : Int) + 1) (by omega) (by omega), drop_rd xs i (by omega)]
    by_cases he : rd xs (i : Int) = n
    · rw [if_pos he]; simp [he]
    · rw [if_neg he, h]
      simp
      exact fun hh => absurd hh.symm he
theorem tHas_at (xs : List Int) (n : Int) (hx : xs.length ≤ 10000) (K : Nat) (hK : 10000 < K) : laws_tHas.f K xs n = some (decide (n ∈ xs)) :=
  tHas_l0 xs n (by omega) xs.length 0 (by omega) K (by omega)
def okB (l : List Int) : Prop := l.length ≤ 1048576 ∧ ∀ x ∈ l, 0 ≤ x ∧ x ≤ 255
theorem okB_of (l : List Int) (h : l.length ≤ 1048576) (hw : ∀ x ∈ l, (Lit.int .u8 x).wf = true) : okB l := by
  refine ⟨h, fun x hx => ?_⟩
  have := hw x hx
  simp [Lit.wf, IntKind.min, IntKind.max, IntKind.bits, IntKind.signed] at this
  omega
theorem and255 (x : Int) : 0 ≤ Go.bits .and .u64 x 255 ∧ Go.bits .and .u64 x 255 ≤ 255 := by
  unfold Go.bits
  have h : (BitVec.ofInt IntKind.u64.bits x &&& BitVec.ofInt IntKind.u64.bits 255).toNat ≤ 255 := by
    rw [BitVec.toNat_and]
    exact Nat.le_trans Nat.and_le_right (by decide)
  simp only []
  generalize (BitVec.ofInt IntKind.u64.bits x &&& BitVec.ofInt IntKind.u64.bits 255).toNat = n at h
  simp [IntKind.wrap, IntKind.bits, IntKind.signed]
  omega
theorem rd_in {l : List Int} {i : Int} (h0 : 0 ≤ i) (h1 : i < (l.length : Int)) : rd l i ∈ l := by
  obtain ⟨n, rfl⟩ : ∃ n : Nat, i = n := ⟨i.toNat, by omega⟩
  have hn : n < l.length := by omega
  simp [rd, List.getD, hn]
def curOk (a a' : Int) (n : Int) : Prop := 0 ≤ a' ∧ a' ≤ a + n
theorem next_ok {l : List Int} (hl : okB l) {a : Int} (s : Int) (h0 : 0 ≤ a) (h1 : a ≤ 1000000000000) : ∃ x a' s', spec_l1Cur_next.f l a s = some (x, a', s') ∧ (0 ≤ x ∧ x ≤ 255) ∧ curOk a a' 1 := by
  obtain ⟨h2, hb⟩ := hl
  have hw : wrap64 (a + 1) = a + 1 := w64 (by omega) (by omega)
  have hc : curOk a (wrap64 (a + 1)) 1 := by rw [hw]; exact ⟨by omega, by omega⟩
  unfold spec_l1Cur_next.f
  by_cases c1 : a < (l.length : Int)
  · have hr := hb _ (rd_in h0 c1)
    have hw1 : wrap64 (rd l a) = rd l a := w64 (by omega) (by omega)
    rw [if_pos c1, if_pos h0]
    by_cases c2 : wrap64 (a + 1) ≤ (l.length : Int)
    · rw [if_pos c2]
      exact ⟨_, _, _, rfl, by rw [hw1]; exact hr, hc⟩
    · rw [if_neg c2]
      refine ⟨_, _, _, rfl, ?_, hc⟩
      generalize hz : IntKind.u64.wrap _ / 1099511627776 = z
      have := and255 z
      rw [w64 (by omega) (by omega)]
      exact this
  · rw [if_neg c1]
    by_cases c2 : wrap64 (a + 1) ≤ (l.length : Int)
    · rw [if_pos c2]
      exact ⟨_, _, _, rfl, ⟨by omega, by omega⟩, hc⟩
    · rw [if_neg c2]
      refine ⟨_, _, _, rfl, ?_, hc⟩
      generalize hz : IntKind.u64.wrap _ / 1099511627776 = z
      have := and255 z
      rw [w64 (by omega) (by omega)]
      exact this
theorem pick_ok {l : List Int} (hl : okB l) {a : Int} (s n : Int) (h0 : 0 ≤ a) (h1 : a ≤ 1000000000) : ∃ x a' s', spec_l1Cur_pick.f l a s n = some (x, a', s') ∧ 0 ≤ x ∧ (1 ≤ n → x < n) ∧ curOk a a' 2 := by
  unfold spec_l1Cur_pick.f
  by_cases c1 : n ≤ 1
  · rw [if_pos c1]
    exact ⟨_, _, _, rfl, by omega, by omega, by omega, by omega⟩
  · have n0 : ¬ n = 0 := by omega
    have n1 : 0 < n := by omega
    obtain ⟨x, a1, s1, e1, ⟨hx0, hx1⟩, ha0, ha1⟩ := next_ok hl s h0 (by omega)
    rw [if_neg c1, e1]
    simp only [Option.bind_some]
    by_cases c2 : n > 200
    · obtain ⟨y, a2, s2, e2, ⟨hy0, hy1⟩, hb0, hb1⟩ := next_ok hl s1 ha0 (by omega)
      rw [if_pos c2, e2]
      simp only [Option.bind_some]
      rw [if_neg n0, w64 (x := x * 256) (by omega) (by omega), w64 (by omega) (by omega)]
      exact ⟨_, _, _, rfl, Int.tmod_nonneg _ (by omega), fun _ => Int.tmod_lt_of_pos _ n1, by omega, by omega⟩
    · rw [if_neg c2, if_neg n0]
      exact ⟨_, _, _, rfl, Int.tmod_nonneg _ hx0, fun _ => Int.tmod_lt_of_pos _ n1, by omega, by omega⟩
theorem one_ok {l : List Int} (hl : okB l) {a : Int} (s n : Int) (h0 : 0 ≤ a) (h1 : a ≤ 1000000000) : ∃ (b : Bool) (a' s' : Int), spec_l1Cur_one.f l a s n = some (b, a', s') ∧ curOk a a' 2 := by
  obtain ⟨x, a', s', e, _, _, hc⟩ := pick_ok hl s n h0 h1
  unfold spec_l1Cur_one.f
  rw [e]
  exact ⟨_, _, _, rfl, hc⟩
theorem among_ok {l : List Int} (hl : okB l) {a : Int} (s : Int) (L : List Int) (hL : 1 ≤ L.length) (h0 : 0 ≤ a) (h1 : a ≤ 1000000000) : ∃ x a' s', spec_l1Cur_among.f l a s L = some (x, a', s') ∧ x ∈ L ∧ curOk a a' 2 := by
  obtain ⟨x, a', s', e, h2, h3, hc⟩ := pick_ok hl s (L.length : Int) h0 h1
  have h4 := h3 (by omega)
  unfold spec_l1Cur_among.f
  rw [e]
  simp only [Option.bind_some]
  rw [if_pos h2, if_pos h4]
  exact ⟨_, _, _, rfl, rd_in h2 h4, hc⟩
theorem big_at (l0 l1 : List Int) (h1 : l1.length ≤ maxLen) : ∃ b, laws_big.f l0 l1 = some b ∧ (b = false → l0.length ≤ 1048576 ∧ l1.length ≤ 1048576) := by
  unfold laws_big.f
  by_cases h : (l0.length : Int) > 1048576
  · rw [if_pos h]; exact ⟨true, rfl, fun h => by cases h⟩
  · rw [if_neg h, w64 (by omega) (by omega)]
    refine ⟨_, rfl, fun h => ?_⟩
    have := of_decide_eq_false h
    omega
def ruleR (x : S53) : Prop := 2 ≤ x.f0 ∧ x.f0 ≤ 60 ∧ 0 ≤ x.f1 ∧ x.f1 < x.f0
theorem rule_ok {l : List Int} (hl : okB l) {a : Int} (s : Int) (h0 : 0 ≤ a) (h1 : a ≤ 100000000) : ∃ e r a' s', spec_l1Cur_rule.f l a s = some (e, r, a', s') ∧ ruleR ⟨e, r⟩ ∧ curOk a a' 4 := by
  unfold spec_l1Cur_rule.f
  obtain ⟨x, a1, s1, e1, hx, c1, d1⟩ := among_ok hl s [2, 3, 4, 5, 6, 7, 8, 9, 10, 12, 15] (by simp) h0 (by omega)
  have hx' : 2 ≤ x ∧ x ≤ 60 := by
    simp only [List.mem_cons, List.not_mem_nil, or_false] at hx
    omega
  obtain ⟨y, a2, s2, e2, hy0, hy1, c2, d2⟩ := pick_ok hl s1 x c1 (by omega)
  have hy2 := hy1 (by omega)
  rw [e1]
  simp only [Option.bind_some]
  rw [e2]
  exact ⟨x, y, a2, s2, rfl, ⟨hx'.1, hx'.2, hy0, hy2⟩, c2, by omega⟩
theorem sure_l0 {l : List Int} (hl : okB l) : ∀ (d : Nat) (n : Int) (L : List S53) (a s : Int), n ≤ d → L.length + d ≤ 100 → (∀ x ∈ L, ruleR x) → 0 ≤ a → a + 4 * d ≤ 10000000 →
    ∀ K, 1100 + d < K → ∃ L' a' s', spec_l1Cur_sureRules.l0 K L n l a s = some (L', a', s') ∧ (∀ x ∈ L', ruleR x) ∧ L'.length ≤ L.length + d ∧ 0 ≤ a' ∧ a' ≤ a + 4 * d := by
  intro d
  induction d with
  | zero =>
    intro n L a s hn hL hR h0 h1 K hK
    obtain ⟨K, rfl⟩ : ∃ k, K = k + 1 := ⟨K - 1, by omega⟩
    simp only [spec_l1Cur_sureRules.l0]
    rw [if_neg (by omega)]
    exact ⟨_, _, _, rfl, hR, by omega, by omega, by omega⟩
  | succ d ih =>
    intro n L a s hn hL hR h0 h1 K hK
    obtain ⟨K, rfl⟩ : ∃ k, K = k + 1 := ⟨K - 1, by omega⟩
    simp only [spec_l1Cur_sureRules.l0]
    by_cases hc : n > 0
    · obtain ⟨e, r, a1, s1, e1, hr, c1, d1⟩ := rule_ok hl s h0 (by omega)
      have q1 : L.length < 8796093022208 := by omega
      have hR2 : ∀ x ∈ L ++ [(⟨e, r⟩ : S53)], ruleR x := fun x hx => by
        rcases List.mem_append.1 hx with h | h
        · exact hR x h
        · rw [List.mem_singleton.1 h]; exact hr
      have hl2 : (L ++ [(⟨e, r⟩ : S53)]).length = L.length + 1 := by simp
      have hp := perS_at (L ++ [(⟨e, r⟩ : S53)]) (by omega) (fun x hx => ⟨(hR2 x hx).1, (hR2 x hx).2.1⟩) K (by omega)
      obtain ⟨L1, b1, t1, f1, g1, k1, m1, n1⟩ := ih (n - 1) (L ++ [(⟨e, r⟩ : S53)]) a1 s1 (by omega) (by omega) hR2 c1 (by omega) K (by omega)
      obtain ⟨L2, b2, t2, f2, g2, k2, m2, n2⟩ := ih (n - 1) L a1 s1 (by omega) (by omega) hR c1 (by omega) K (by omega)
      rw [if_pos hc]
      simp only [Option.bind_some, List.nil_append, List.length_nil, Nat.zero_add]
      rw [if_pos q1, e1]
      simp only [Option.bind_some]
      rw [if_pos q1, hp]
      simp only [Option.bind_some]
      rw [w64 (x := n - 1) (by omega) (by omega)]
      by_cases p1 : perZ 1 (L ++ [(⟨e, r⟩ : S53)]) > 0
      · rw [if_pos p1]
        by_cases p2 : perZ 1 (L ++ [(⟨e, r⟩ : S53)]) ≤ 3000
        · rw [if_pos p2]
          exact ⟨L1, b1, t1, f1, g1, by omega, m1, by omega⟩
        · rw [if_neg p2]
          exact ⟨L2, b2, t2, f2, g2, by omega, m2, by omega⟩
      · rw [if_neg p1]
        exact ⟨L2, b2, t2, f2, g2, by omega, m2, by omega⟩
    · rw [if_neg hc]
      exact ⟨_, _, _, rfl, hR, by omega, by omega, by omega⟩
theorem sure_ok {l : List Int} (hl : okB l) {a : Int} (s m : Int) (hm : 0 ≤ m) (hm2 : m ≤ 5) (h0 : 0 ≤ a) (h1 : a ≤ 1000000) (K : Nat) (hK : 2000 < K) :
    ∃ L' a' s', spec_l1Cur_sureRules.f K l a s m = some (L', a', s') ∧ (∀ x ∈ L', ruleR x) ∧ L'.length ≤ 6 ∧ curOk a a' 30 := by
  unfold spec_l1Cur_sureRules.f
  obtain ⟨x, a1, s1, e1, hx0, hx1, c1, d1⟩ := pick_ok hl s (wrap64 (m + 1)) h0 (by omega)
  have hw : wrap64 (m + 1) = m + 1 := w64 (by omega) (by omega)
  have hx2 := hx1 (by omega)
  obtain ⟨L', a2, s2, e2, hR, hL, c2, d2⟩ := sure_l0 hl 6 x [] a1 s1 (by omega) (by simp) (by simp) c1 (by omega) K (by omega)
  rw [e1]
  simp only [Option.bind_some]
  rw [e2]
  exact ⟨_, _, _, rfl, hR, by simpa using hL, c2, by omega⟩
theorem rules_l0 {l : List Int} (hl : okB l) : ∀ (d : Nat) (L : List S53) (a s : Int), 13 ≤ L.length + d → L.length ≤ 1000 → 0 ≤ a → a + 2 * (d + 1) ≤ 10000000 →
    ∀ K, d < K → ∃ L' a' s', spec_l1Cur_rules.l0 K L l a s = some (L', a', s') ∧ 0 ≤ a' ∧ a' ≤ a + 2 * (d + 1) := by
  intro d
  induction d with
  | zero =>
    intro L a s hd hL h0 h1 K hK
    obtain ⟨K, rfl⟩ : ∃ k, K = k + 1 := ⟨K - 1, by omega⟩
    obtain ⟨x, a1, s1, e1, hx0, hx1, c1, d1⟩ := pick_ok hl s 2 h0 (by omega)
    have hx2 := hx1 (by omega)
    simp only [spec_l1Cur_rules.l0]
    rw [e1]
    simp only [Option.bind_some]
    rw [w64 (x := 12 + x) (by omega) (by omega), if_neg (by omega)]
    exact ⟨_, _, _, rfl, c1, by omega⟩
  | succ d ih =>
    intro L a s hd hL h0 h1 K hK
    obtain ⟨K, rfl⟩ : ∃ k, K = k + 1 := ⟨K - 1, by omega⟩
    obtain ⟨x, a1, s1, e1, hx0, hx1, c1, d1⟩ := pick_ok hl s 2 h0 (by omega)
    have hx2 := hx1 (by omega)
    simp only [spec_l1Cur_rules.l0]
    rw [e1]
    simp only [Option.bind_some]
    rw [w64 (x := 12 + x) (by omega) (by omega)]
    by_cases hc : (L.length : Int) < 12 + x
    · obtain ⟨L1, b1, t1, f1, m1, n1⟩ := ih (L ++ [(⟨2, 0⟩ : S53)]) a1 s1 (by simp; omega) (by simp; omega) c1 (by omega) K (by omega)
      rw [if_pos hc, if_pos (by omega)]
      exact ⟨L1, b1, t1, f1, m1, by omega⟩
    · rw [if_neg hc]
      exact ⟨_, _, _, rfl, c1, by omega⟩
theorem rules_ok {l : List Int} (hl : okB l) {a : Int} (s : Int) (h0 : 0 ≤ a) (h1 : a ≤ 100000) (K : Nat) (hK : 3000 < K) :
    ∃ L' a' s', spec_l1Cur_rules.f K l a s = some (L', a', s') ∧ curOk a a' 100 := by
  unfold spec_l1Cur_rules.f
  obtain ⟨L, a1, s1, e1, hR, hL, c1, d1⟩ := sure_ok hl s 5 (by omega) (by omega) h0 (by omega) K (by omega)
  obtain ⟨x, a2, s2, e2, hx0, hx1, c2, d2⟩ := pick_ok hl s1 16 c1 (by omega)
  rw [e1]
  simp only [Option.bind_some]
  rw [e2]
  simp only [Option.bind_some]
  by_cases q0 : x = 0
  · obtain ⟨y, a3, s3, e3, _, c3, d3⟩ := among_ok hl s2 [0, 1, 60, 61, (-1)] (by simp) c2 (by omega)
    obtain ⟨z, a4, s4, e4, _, c4, d4⟩ := among_ok hl s3 [0, 1, (-1), 59, 60] (by simp) c3 (by omega)
    rw [if_pos q0, e3]
    simp only [Option.bind_some]
    rw [e4]
    simp only [Option.bind_some]
    rw [if_pos (by omega)]
    exact ⟨_, _, _, rfl, c4, by omega⟩
  · rw [if_neg q0]
    by_cases q1 : x = 1
    · rw [if_pos q1]
      obtain ⟨L1, b1, t1, f1, m1, n1⟩ := rules_l0 hl 13 L a2 s2 (by omega) (by omega) c2 (by omega) K (by omega)
      exact ⟨L1, b1, t1, f1, m1, by omega⟩
    · rw [if_neg q1]
      by_cases q2 : x = 2
      · rw [if_pos q2]
        exact ⟨_, _, _, rfl, c2, by omega⟩
      · rw [if_neg q2]
        exact ⟨_, _, _, rfl, c2, by omega⟩
theorem signed_ok {l : List Int} (hl : okB l) {a : Int} (s : Int) (h0 : 0 ≤ a) (h1 : a ≤ 1000000) : ∃ x a' s', spec_l1Cur_signed.f l a s = some (x, a', s') ∧ curOk a a' 4 := by
  unfold spec_l1Cur_signed.f
  obtain ⟨b, a1, s1, e1, c1, d1⟩ := one_ok hl s 12 h0 (by omega)
  rw [e1]
  simp only [Option.bind_some]
  cases b with
  | true =>
    obtain ⟨x, a2, s2, e2, _, c2, d2⟩ := among_ok hl s1 [(-601), (-600), 600, 601, 4611686018427387904] (by simp) c1 (by omega)
    rw [if_pos rfl, e2]
    exact ⟨x, a2, s2, rfl, c2, by omega⟩
  | false =>
    obtain ⟨x, a2, s2, e2, _, _, c2, d2⟩ := pick_ok hl s1 121 c1 (by omega)
    rw [if_neg (by simp), e2]
    exact ⟨wrap64 (x - 40), a2, s2, rfl, c2, by omega⟩
theorem drawIsLeft (l : List Int) (hl : okB l) (K : Nat) (hK : 3000 < K) : ∃ v, spec_DrawIsLeft.f K l = some v := by
  unfold spec_DrawIsLeft.f
  obtain ⟨L, a1, s1, e1, c1, d1⟩ := rules_ok hl 0 (Int.le_refl 0) (by omega) K hK
  obtain ⟨x, a2, s2, e2, _⟩ := signed_ok hl s1 c1 (by omega)
  rw [e1]
  simp only [Option.bind_some]
  rw [e2]
  exact ⟨_, rfl⟩
theorem upTo_ok {l : List Int} (hl : okB l) {a : Int} (s : Int) (h0 : 0 ≤ a) (h1 : a ≤ 1000000) : ∃ x a' s', spec_l1Cur_upTo.f l a s = some (x, a', s') ∧ curOk a a' 4 := by
  unfold spec_l1Cur_upTo.f
  obtain ⟨b, a1, s1, e1, c1, d1⟩ := one_ok hl s 12 h0 (by omega)
  rw [e1]
  simp only [Option.bind_some]
  cases b with
  | true =>
    obtain ⟨x, a2, s2, e2, _, c2, d2⟩ := among_ok hl s1 [(-1), 0, 600, 601, 4611686018427387904] (by simp) c1 (by omega)
    rw [if_pos rfl, e2]
    exact ⟨x, a2, s2, rfl, c2, by omega⟩
  | false =>
    obtain ⟨x, a2, s2, e2, _, _, c2, d2⟩ := pick_ok hl s1 120 c1 (by omega)
    rw [if_neg (by simp), e2]
    exact ⟨x, a2, s2, rfl, c2, by omega⟩
theorem drawLeftUpTo (l : List Int) (hl : okB l) (K : Nat) (hK : 3000 < K) : ∃ v, spec_DrawLeftUpTo.f K l = some v := by
  unfold spec_DrawLeftUpTo.f
  obtain ⟨L, a1, s1, e1, c1, d1⟩ := rules_ok hl 0 (Int.le_refl 0) (by omega) K hK
  obtain ⟨x, a2, s2, e2, _⟩ := upTo_ok hl s1 c1 (by omega)
  rw [e1]
  simp only [Option.bind_some]
  rw [e2]
  exact ⟨_, rfl⟩
theorem drawCountBetween (l : List Int) (hl : okB l) (K : Nat) (hK : 3000 < K) : ∃ v, spec_DrawCountBetween.f K l = some v := by
  unfold spec_DrawCountBetween.f
  obtain ⟨L, a1, s1, e1, c1, d1⟩ := rules_ok hl 0 (Int.le_refl 0) (by omega) K hK
  obtain ⟨x, a2, s2, e2, c2, d2⟩ := upTo_ok hl s1 c1 (by omega)
  obtain ⟨y, a3, s3, e3, _⟩ := upTo_ok hl s2 c2 (by omega)
  rw [e1]
  simp only [Option.bind_some]
  rw [e2]
  simp only [Option.bind_some]
  rw [e3]
  exact ⟨_, rfl⟩
theorem drawLeftOfRank (l : List Int) (hl : okB l) (K : Nat) (hK : 3000 < K) : ∃ v, spec_DrawLeftOfRank.f K l = some v := by
  unfold spec_DrawLeftOfRank.f
  obtain ⟨b, a1, s1, e1, c1, d1⟩ := one_ok hl 0 12 (Int.le_refl 0) (by omega)
  obtain ⟨L, a2, s2, e2, c2, d2⟩ := rules_ok hl s1 c1 (by omega) K hK
  rw [e1]
  simp only [Option.bind_some]
  cases b with
  | true =>
    obtain ⟨x, a3, s3, e3, _⟩ := among_ok hl s2 [(-1), 599, 600, 4611686018427387904] (by simp) c2 (by omega)
    rw [if_pos rfl, e2]
    simp only [Option.bind_some]
    rw [e3]
    exact ⟨_, rfl⟩
  | false =>
    obtain ⟨x, a3, s3, e3, _⟩ := pick_ok hl s2 60 c2 (by omega)
    rw [if_neg (by simp), e2]
    simp only [Option.bind_some]
    rw [e3]
    exact ⟨_, rfl⟩
theorem drawNextLeft (l : List Int) (hl : okB l) (K : Nat) (hK : 3000 < K) : ∃ v, spec_DrawNextLeft.f K l = some v := by
  unfold spec_DrawNextLeft.f
  obtain ⟨v, e⟩ := drawIsLeft l hl K hK
  rw [e]
  exact ⟨_, rfl⟩
theorem drawCrossedBy (l : List Int) (hl : okB l) (K : Nat) (hK : 3000 < K) : ∃ v, spec_DrawCrossedBy.f K l = some v := by
  unfold spec_DrawCrossedBy.f
  obtain ⟨L, a1, s1, e1, c1, d1⟩ := rules_ok hl 0 (Int.le_refl 0) (by omega) K hK
  obtain ⟨x, a2, s2, e2, _, _, c2, d2⟩ := pick_ok hl s1 5 c1 (by omega)
  obtain ⟨y, a3, s3, e3, _, _, c3, d3⟩ := pick_ok hl s2 9 c2 (by omega)
  obtain ⟨z, a4, s4, e4, _⟩ := upTo_ok hl s3 c3 (by omega)
  rw [e1]
  simp only [Option.bind_some]
  rw [e2]
  simp only [Option.bind_some]
  rw [e3]
  simp only [Option.bind_some]
  rw [e4]
  exact ⟨_, rfl⟩
theorem drawIsRule (l : List Int) (hl : okB l) : ∃ v, spec_DrawIsRule.f l = some v := by
  unfold spec_DrawIsRule.f
  obtain ⟨b, a1, s1, e1, c1, d1⟩ := one_ok hl 0 3 (Int.le_refl 0) (by omega)
  rw [e1]
  simp only [Option.bind_some]
  cases b with
  | true =>
    obtain ⟨x, a2, s2, e2, _, c2, d2⟩ := among_ok hl s1 [0, 1, 2, 60, 61] (by simp) c1 (by omega)
    obtain ⟨y, a3, s3, e3, _⟩ := among_ok hl s2 [(-1), 0, 1, 2, 59, 60] (by simp) c2 (by omega)
    rw [if_pos rfl, e2]
    simp only [Option.bind_some]
    rw [e3]
    exact ⟨_, rfl⟩
  | false =>
    obtain ⟨e, r, a2, s2, e2, _⟩ := rule_ok hl s1 c1 (by omega)
    rw [if_neg (by simp), e2]
    exact ⟨_, rfl⟩
theorem ff_app (p : Int → Bool) : ∀ (a b : Nat) (n : Int), ff p (a + b) n = ff p a n ++ ff p b (n + a)
  | 0, b, n => by simp [ff]
  | a + 1, b, n => by
    rw [show a + 1 + b = (a + b) + 1 from by omega, ff, ff_app p a b (n + 1), ff, show n + ((a + 1 : Nat) : Int) = n + 1 + (a : Int) from by omega]
    split <;> rfl
theorem ff_in (p : Int → Bool) : ∀ (d : Nat) (n x : Int), x ∈ ff p d n ↔ (n ≤ x ∧ x < n + d ∧ p x = true)
  | 0, n, x => by
    simp only [ff, List.not_mem_nil, false_iff]
    omega
  | d + 1, n, x => by
    have ih := ff_in p d (n + 1) x
    rw [ff]
    by_cases h : p n = true
    · rw [if_pos h, List.mem_cons, ih]
      constructor
      · rintro (rfl | ⟨a, b, c⟩)
        · exact ⟨by omega, by omega, h⟩
        · exact ⟨by omega, by omega, c⟩
      · rintro ⟨a, b, c⟩
        by_cases e : x = n
        · exact .inl e
        · exact .inr ⟨by omega, by omega, c⟩
    · rw [if_neg h, ih]
      constructor
      · rintro ⟨a, b, c⟩
        exact ⟨by omega, by omega, c⟩
      · rintro ⟨a, b, c⟩
        refine ⟨?_, by omega, c⟩
        by_cases e : x = n
        · subst e; exact absurd c h
        · omega
theorem ff_pair (p : Int → Bool) : ∀ (d : Nat) (n : Int), (ff p d n).Pairwise (· < ·)
  | 0, _ => List.Pairwise.nil
  | d + 1, n => by
    rw [ff]
    split
    · exact List.pairwise_cons.2 ⟨fun x hx => by have := (ff_in p d (n + 1) x).1 hx; omega, ff_pair p d (n + 1)⟩
    · exact ff_pair p d (n + 1)
theorem ff_two (p q r : Int → Bool) (h : ∀ x, r x = (p x || q x)) (h2 : ∀ x, p x = true → q x = true → False) : ∀ (d : Nat) (n : Int), (ff p d n).length + (ff q d n).length = (ff r d n).length
  | 0, _ => rfl
  | d + 1, n => by
    have ih := ff_two p q r h h2 d (n + 1)
    have hn := h n
    rw [ff, ff, ff]
    by_cases a : p n = true
    · by_cases b : q n = true
      · exact (h2 n a b).elim
      · have c : r n = true := by rw [hn, a]; rfl
        rw [if_pos a, if_neg b, if_pos c, List.length_cons, List.length_cons]; omega
    · by_cases b : q n = true
      · have c : r n = true := by rw [hn, b]; simp
        rw [if_neg a, if_pos b, if_pos c, List.length_cons, List.length_cons]; omega
      · have c : ¬ r n = true := by rw [hn]; simp [a, b]
        rw [if_neg a, if_neg b, if_neg c]; omega
theorem ff_all (p : Int → Bool) (h : ∀ x, p x = true) : ∀ (d : Nat) (n : Int), (ff p d n).length = d
  | 0, _ => rfl
  | d + 1, n => by rw [ff, if_pos (h n), List.length_cons, ff_all p h d (n + 1)]
theorem ff_congr (p q : Int → Bool) : ∀ (d : Nat) (n : Int), (∀ x, n ≤ x → x < n + d → p x = q x) → ff p d n = ff q d n
  | 0, _, _ => rfl
  | d + 1, n, h => by
    rw [ff, ff, h n (by omega) (by omega), ff_congr p q d (n + 1) (fun x h1 h2 => h x (by omega) (by omega))]
theorem firstZ_range (n : Int) : ∀ (L : List S53) (i : Int), 0 ≤ i → firstZ n i L = -1 ∨ (i ≤ firstZ n i L ∧ firstZ n i L < i + L.length ∧ ∃ x, L[(firstZ n i L - i).toNat]? = some x ∧ modZ n x.f0 = x.f1)
  | [], i, _ => .inl rfl
  | x :: xs, i, h => by
    unfold firstZ
    by_cases c : modZ n x.f0 = x.f1
    · rw [if_pos c]
      refine .inr ⟨by omega, by rw [List.length_cons]; omega, x, ?_, c⟩
      rw [show (i - i).toNat = 0 from by omega]
      rfl
    · rw [if_neg c]
      rcases firstZ_range n xs (i + 1) (by omega) with h1 | ⟨h1, h2, y, h3, h4⟩
      · exact .inl h1
      · refine .inr ⟨by omega, by rw [List.length_cons]; omega, y, ?_, h4⟩
        rw [show (firstZ n (i + 1) xs - i).toNat = (firstZ n (i + 1) xs - (i + 1)).toNat + 1 from by omega, List.getElem?_cons_succ]
        exact h3
def upV (L : List S53) (hi : Int) : List Int × Bool := if goodB L = true ∧ (0 ≤ hi ∧ hi ≤ 600) then (ff (leftB L) hi.toNat 1, true) else ([], false)
theorem upV_yes {L : List S53} {o : Int} (hg : goodB L = true) (h : 0 ≤ o ∧ o ≤ 600) : upV L o = (ff (leftB L) o.toNat 1, true) := by
  unfold upV; rw [if_pos ⟨hg, h⟩]
theorem upV_no {L : List S53} {o : Int} (h : ¬ (goodB L = true ∧ (0 ≤ o ∧ o ≤ 600))) : upV L o = ([], false) := by
  unfold upV; rw [if_neg h]
theorem leftUpTo_at (L : List S53) (hi : Int) (K : Nat) (hK : 2000000 < K) : spec_LeftUpTo.f K L hi = some (upV L hi) ∧ impl_LeftUpTo.f K L hi = some (upV L hi) := by
  unfold spec_LeftUpTo.f impl_LeftUpTo.f
  rw [siMost_at L hi _ (by omega), areRules_at, isMost_at]
  by_cases hg : goodB L = true
  · by_cases h2 : 0 ≤ hi ∧ hi ≤ 600
    · have hb := leftBetween_at L hg 1 hi (by omega) (by omega) (by omega) K (by omega)
      rw [upV_yes hg h2, siList_at L hg hi (by omega) _ (by omega), hb, show hi + 1 - 1 = hi from by omega, hg, decide_eq_true h2]
      exact ⟨rfl, rfl⟩
    · rw [upV_no (fun h => h2 h.2)]
      exact ⟨by simp [hg, h2], by simp [hg, h2]⟩
  · rw [upV_no (fun h => hg h.1)]
    exact ⟨by simp [hg], by simp [hg]⟩
def countV (L : List S53) (hi : Int) : Int × Bool := (((upV L hi).1.length : Int), (upV L hi).2)
theorem countLeft_at (L : List S53) (hi : Int) (K : Nat) (hK : 2000000 < K) : spec_CountLeft.f K L hi = some (countV L hi) ∧ impl_CountLeft.f K L hi = some (countV L hi) := by
  unfold spec_CountLeft.f impl_CountLeft.f countV
  rw [siMost_at L hi _ (by omega), areRules_at, isMost_at]
  by_cases hg : goodB L = true
  · by_cases h2 : 0 ≤ hi ∧ hi ≤ 600
    · have hb := leftBetween_at L hg 1 hi (by omega) (by omega) (by omega) K (by omega)
      rw [upV_yes hg h2, siList_at L hg hi (by omega) _ (by omega), hb, show hi + 1 - 1 = hi from by omega, hg, decide_eq_true h2]
      exact ⟨rfl, rfl⟩
    · rw [upV_no (fun h => h2 h.2)]
      exact ⟨by simp [hg, h2], by simp [hg, h2]⟩
  · rw [upV_no (fun h => hg h.1)]
    exact ⟨by simp [hg], by simp [hg]⟩
theorem areR_at (L : List S53) (K : Nat) (hK : 200 < K) : impl_AreRules.f L = some (goodB L) ∧ spec_AreRules.f K L = some (goodB L) := by
  refine ⟨?_, ?_⟩
  · unfold impl_AreRules.f; rw [areRules_at]; rfl
  · unfold spec_AreRules.f; rw [siGood_at L K (by omega)]; rfl
theorem isLeftV_at (L : List S53) (hg : goodB L = true) (n : Int) (h : -600 ≤ n ∧ n ≤ 600) : impl_IsLeft.f L n = some (leftB L n, true) := by
  unfold impl_IsLeft.f
  rw [areRules_at, isNumber_at, hg, decide_eq_true h, isLeft_at n L hg]
  rfl
def firstV (L : List S53) (n : Int) : Int × Bool := if goodB L = true ∧ (-600 ≤ n ∧ n ≤ 600) then (if firstZ n 0 L < 0 then (0, false) else (firstZ n 0 L, true)) else (0, false)
theorem firstV_yes {L : List S53} {n : Int} (hg : goodB L = true) (h : -600 ≤ n ∧ n ≤ 600) : firstV L n = (if firstZ n 0 L < 0 then (0, false) else (firstZ n 0 L, true)) := by
  unfold firstV; rw [if_pos ⟨hg, h⟩]
theorem firstV_no {L : List S53} {n : Int} (h : ¬ (goodB L = true ∧ (-600 ≤ n ∧ n ≤ 600))) : firstV L n = (0, false) := by
  unfold firstV; rw [if_neg h]
theorem firstR_at (L : List S53) (n : Int) (K : Nat) (hK : 200 < K) : spec_FirstRule.f K L n = some (firstV L n) ∧ impl_FirstRule.f L n = some (firstV L n) := by
  unfold spec_FirstRule.f impl_FirstRule.f
  rw [siGood_at L _ (by omega), areRules_at, siNumber_at, isNumber_at]
  by_cases hg : goodB L = true
  · rw [siLeft_at n L hg _ (by omega), siFirst_at n L hg _ (by omega), firstRule_at n L hg]
    by_cases hn : -600 ≤ n ∧ n ≤ 600
    · rw [firstV_yes hg hn]
      by_cases hf : firstZ n 0 L < 0
      · rw [if_pos hf]
        exact ⟨by simp [hg, hn, leftB, hf], by simp [hg, hn, mx, hf] <;> omega⟩
      · rw [if_neg hf]
        exact ⟨by simp [hg, hn, leftB, hf], by simp [hg, hn, mx, hf] <;> omega⟩
    · rw [firstV_no (fun h => hn h.2)]
      exact ⟨by simp [hg, hn], by simp [hg, hn]⟩
  · rw [firstV_no (fun h => hg h.1)]
    exact ⟨by simp [hg], by simp [hg]⟩
def rankV (L : List S53) (r : Int) : Int × Bool := if goodB L = true ∧ 0 ≤ r ∧ r < ((ff (leftB L) 600 1).length : Int) then (rd (ff (leftB L) 600 1) r, true) else (0, false)
theorem rankV_yes {L : List S53} {r : Int} (hg : goodB L = true) (h0 : 0 ≤ r) (h1 : r < ((ff (leftB L) 600 1).length : Int)) : rankV L r = (rd (ff (leftB L) 600 1) r, true) := by
  unfold rankV; rw [if_pos ⟨hg, h0, h1⟩]
theorem rankV_no {L : List S53} {r : Int} (h : ¬ (goodB L = true ∧ 0 ≤ r ∧ r < ((ff (leftB L) 600 1).length : Int))) : rankV L r = (0, false) := by
  unfold rankV; rw [if_neg h]
theorem rank_at (L : List S53) (r : Int) (K : Nat) (hK : 2000000 < K) : spec_LeftOfRank.f K L r = some (rankV L r) ∧ impl_LeftOfRank.f K L r = some (rankV L r) := by
  obtain ⟨K, rfl⟩ : ∃ k, K = k + 1 := ⟨K - 1, by omega⟩
  unfold spec_LeftOfRank.f impl_LeftOfRank.f
  rw [siGood_at L _ (by omega), areRules_at]
  simp only [Option.bind_some, spec_LeftOfRank.j0, impl_LeftOfRank.j0]
  by_cases hg : goodB L = true
  · have hb := leftBetween_at L hg 1 600 (by omega) (by omega) (by omega) K (by omega)
    have hs := siList_at L hg 600 (by omega) K (by omega)
    rw [show (600 + 1 - 1 : Int).toNat = 600 from rfl] at hb
    rw [show (600 : Int).toNat = 600 from rfl] at hs
    by_cases hr : r < 0
    · rw [rankV_no (fun h => by omega), hb, hs, hg, decide_eq_true hr]
      exact ⟨by simp [hr], by simp⟩
    · have hr0 : 0 ≤ r := by omega
      by_cases hx : r ≥ ((ff (leftB L) 600 1).length : Int)
      · rw [rankV_no (fun h => by omega), hb, hs, hg, decide_eq_false hr]
        exact ⟨by simp [hr, hx], by simp [hx]⟩
      · have hx' : r < ((ff (leftB L) 600 1).length : Int) := by omega
        rw [rankV_yes hg hr0 hx', hb, hs, hg, decide_eq_false hr]
        exact ⟨by simp [hr, hx, hr0, hx'], by simp [hx, hr0, hx']⟩
  · rw [rankV_no (fun h => hg h.1)]
    exact ⟨by simp [hg], by simp [hg]⟩
theorem next_l0 (L : List S53) (hg : goodB L = true) (n : Int) (hn : -600 ≤ n ∧ n ≤ 600) : ∀ (d : Nat) (m : Int), n < m → n + 1001 - m ≤ d → ∃ v : Int × Bool, (∀ K, 101 + d < K → spec_NextLeft.l0 K L n m = some v ∧ impl_NextLeft.l0 K L n m = some v) ∧
    ∀ z, m ≤ z → z ≤ n + 1000 → leftB L z = true → (∀ y, m ≤ y → y < z → leftB L y = false) → v = (z, true) := by
  intro d
  induction d with
  | zero =>
    intro m h1 h2
    refine ⟨(0, false), fun K hK => ?_, fun z h3 h4 => by omega⟩
    obtain ⟨K, rfl⟩ : ∃ k, K = k + 1 := ⟨K - 1, by omega⟩
    have hc : ¬ m ≤ n + 1000 := by omega
    simp only [spec_NextLeft.l0, impl_NextLeft.l0]
    rw [w64 (x := n + 1000) (by omega) (by omega), if_neg hc, if_neg hc]
    exact ⟨rfl, rfl⟩
  | succ d ih =>
    intro m h1 h2
    by_cases hc : m ≤ n + 1000
    · by_cases hp : leftB L m = true
      · refine ⟨(m, true), fun K hK => ?_, fun z h3 h4 h5 h6 => ?_⟩
        · obtain ⟨K, rfl⟩ : ∃ k, K = k + 1 := ⟨K - 1, by omega⟩
          simp only [spec_NextLeft.l0, impl_NextLeft.l0]
          rw [w64 (x := n + 1000) (by omega) (by omega), if_pos hc, if_pos hc, siLeft_at m L hg K (by omega), isLeft_at m L hg, hp]
          exact ⟨rfl, rfl⟩
        · by_cases e : z = m
          · rw [e]
          · have := h6 m (by omega) (by omega)
            rw [hp] at this
            cases this
      · obtain ⟨v, hv, hz⟩ := ih (m + 1) (by omega) (by omega)
        refine ⟨v, fun K hK => ?_, fun z h3 h4 h5 h6 => ?_⟩
        · obtain ⟨K, rfl⟩ : ∃ k, K = k + 1 := ⟨K - 1, by omega⟩
          simp only [spec_NextLeft.l0, impl_NextLeft.l0]
          rw [w64 (x := n + 1000) (by omega) (by omega), if_pos hc, if_pos hc, siLeft_at m L hg K (by omega), isLeft_at m L hg, w64 (x := m + 1) (by omega) (by omega)]
          simp only [Option.bind_some]
          rw [if_neg hp, if_neg hp]
          exact hv K (by omega)
        · have e : z ≠ m := fun e => hp (by rw [← e]; exact h5)
          exact hz z (by omega) h4 h5 (fun y h7 h8 => h6 y (by omega) h8)
    · refine ⟨(0, false), fun K hK => ?_, fun z h3 h4 => by omega⟩
      obtain ⟨K, rfl⟩ : ∃ k, K = k + 1 := ⟨K - 1, by omega⟩
      simp only [spec_NextLeft.l0, impl_NextLeft.l0]
      rw [w64 (x := n + 1000) (by omega) (by omega), if_neg hc, if_neg hc]
      exact ⟨rfl, rfl⟩
theorem next_at (L : List S53) (n : Int) : ∃ v : Int × Bool, (∀ K, 2000 < K → spec_NextLeft.f K L n = some v ∧ impl_NextLeft.f K L n = some v) ∧
    (goodB L = true → (-600 ≤ n ∧ n ≤ 600) → ∀ z, n < z → z ≤ n + 1000 → leftB L z = true → (∀ y, n < y → y < z → leftB L y = false) → v = (z, true)) := by
  unfold spec_NextLeft.f impl_NextLeft.f
  by_cases hg : goodB L = true
  · by_cases hn : -600 ≤ n ∧ n ≤ 600
    · obtain ⟨v, hv, hz⟩ := next_l0 L hg n hn 1001 (n + 1) (by omega) (by omega)
      refine ⟨v, fun K hK => ?_, fun _ _ z h1 h2 h3 h4 => hz z (by omega) h2 h3 (fun y h5 h6 => h4 y (by omega) h6)⟩
      obtain ⟨K, rfl⟩ : ∃ k, K = k + 1 := ⟨K - 1, by omega⟩
      have h := hv K (by omega)
      rw [siGood_at L _ (by omega), areRules_at, siNumber_at, isNumber_at]
      simp only [Option.bind_some, spec_NextLeft.j0, impl_NextLeft.j0]
      rw [hg, if_pos rfl, decide_eq_true hn, if_neg (by simp), w64 (x := n + 1) (by omega) (by omega), if_pos rfl, if_neg (by simp)]
      exact h
    · refine ⟨(0, false), fun K hK => ?_, fun _ h => absurd h hn⟩
      obtain ⟨K, rfl⟩ : ∃ k, K = k + 1 := ⟨K - 1, by omega⟩
      rw [siGood_at L _ (by omega), areRules_at, siNumber_at, isNumber_at]
      simp only [Option.bind_some, spec_NextLeft.j0, impl_NextLeft.j0]
      exact ⟨by simp [hg, hn], by simp [hg, hn]⟩
  · refine ⟨(0, false), fun K hK => ?_, fun h => absurd h hg⟩
    obtain ⟨K, rfl⟩ : ∃ k, K = k + 1 := ⟨K - 1, by omega⟩
    rw [siGood_at L _ (by omega), areRules_at, siNumber_at, isNumber_at]
    simp only [Option.bind_some, spec_NextLeft.j0, impl_NextLeft.j0]
    exact ⟨by simp [hg], by simp [hg]⟩
theorem cross_l0 (L : List S53) (hg : goodB L = true) (k hi : Int) (hh : hi ≤ 600) : ∀ (d : Nat) (m : Int) (acc : List Int), 0 ≤ m → hi + 1 - m ≤ d → acc.length + d ≤ 100000 →
    ∀ K, 101 + d < K → spec_CrossedBy.l0 K L k hi acc m = some (acc ++ ff (fun n => decide (firstZ n 0 L = k)) (hi + 1 - m).toNat m, true) ∧ impl_CrossedBy.l0 K L k hi acc m = some (acc ++ ff (fun n => decide (firstZ n 0 L = k)) (hi + 1 - m).toNat m, true) := by
  intro d
  induction d with
  | zero =>
    intro m acc h0 h1 h2 K hK
    obtain ⟨K, rfl⟩ : ∃ k, K = k + 1 := ⟨K - 1, by omega⟩
    have hc : ¬ m ≤ hi := by omega
    simp only [spec_CrossedBy.l0, impl_CrossedBy.l0]
    rw [if_neg hc, if_neg hc, show (hi + 1 - m).toNat = 0 from by omega]
    simp [ff]
  | succ d ih =>
    intro m acc h0 h1 h2 K hK
    obtain ⟨K, rfl⟩ : ∃ k, K = k + 1 := ⟨K - 1, by omega⟩
    simp only [spec_CrossedBy.l0, impl_CrossedBy.l0]
    by_cases hc : m ≤ hi
    · rw [if_pos hc, if_pos hc, siFirst_at m L hg K (by omega), firstRule_at m L hg, w64 (x := m + 1) (by omega) (by omega)]
      simp only [Option.bind_some]
      rw [show (hi + 1 - m).toNat = (hi + 1 - (m + 1)).toNat + 1 from by omega]
      unfold ff
      by_cases hp : firstZ m 0 L = k
      · have h3 : acc.length < 17592186044416 := by omega
        have h4 := ih (m + 1) (acc ++ [m]) (by omega) (by omega) (by simp; omega) K (by omega)
        rw [if_pos hp, if_pos hp, if_pos h3, if_pos h3, h4.1, h4.2, if_pos (decide_eq_true hp)]
        simp
      · have h4 := ih (m + 1) acc (by omega) (by omega) (by omega) K (by omega)
        rw [if_neg hp, if_neg hp, h4.1, h4.2, if_neg (by simp [hp])]
        exact ⟨rfl, rfl⟩
    · rw [if_neg hc, if_neg hc, show (hi + 1 - m).toNat = 0 from by omega]
      simp [ff]
def crossV (L : List S53) (k hi : Int) : List Int × Bool := if goodB L = true ∧ (0 ≤ hi ∧ hi ≤ 600) ∧ (0 ≤ k ∧ k ≤ (L.length : Int) - 1) then (ff (fun n => decide (firstZ n 0 L = k)) hi.toNat 1, true) else ([], false)
theorem crossV_yes {L : List S53} {k hi : Int} (hg : goodB L = true) (h2 : 0 ≤ hi ∧ hi ≤ 600) (hk : 0 ≤ k ∧ k ≤ (L.length : Int) - 1) : crossV L k hi = (ff (fun n => decide (firstZ n 0 L = k)) hi.toNat 1, true) := by
  unfold crossV; rw [if_pos ⟨hg, h2, hk⟩]
theorem crossV_no {L : List S53} {k hi : Int} (h : ¬ (goodB L = true ∧ (0 ≤ hi ∧ hi ≤ 600) ∧ (0 ≤ k ∧ k ≤ (L.length : Int) - 1))) : crossV L k hi = ([], false) := by
  unfold crossV; rw [if_neg h]
theorem cross_at (L : List S53) (k hi : Int) (K : Nat) (hK : 2000 < K) : spec_CrossedBy.f K L k hi = some (crossV L k hi) ∧ impl_CrossedBy.f K L k hi = some (crossV L k hi) := by
  obtain ⟨K, rfl⟩ : ∃ k, K = k + 1 := ⟨K - 1, by omega⟩
  unfold spec_CrossedBy.f impl_CrossedBy.f
  by_cases hg : goodB L = true
  · have hlen := good_len hg
    by_cases h2 : 0 ≤ hi ∧ hi ≤ 600
    · by_cases hk : 0 ≤ k ∧ k ≤ (L.length : Int) - 1
      · have hb := cross_l0 L hg k hi h2.2 1000 1 [] (by omega) (by omega) (by simp) K (by omega)
        rw [show (hi + 1 - 1) = hi from by omega, List.nil_append] at hb
        rw [crossV_yes hg h2 hk, siMost_at L hi _ (by omega), areRules_at, isMost_at, l1In_at, w64 (by omega) (by omega), hg, decide_eq_true h2, decide_eq_true hk]
        simp only [Bool.and_self, Option.bind_some, spec_CrossedBy.j0, impl_CrossedBy.j0]
        rw [if_pos trivial, if_pos trivial, if_neg (by simp), if_neg (by omega), if_neg (by omega), if_neg (by simp)]
        exact hb
      · rw [crossV_no (fun h => hk h.2.2), siMost_at L hi _ (by omega), areRules_at, isMost_at, l1In_at, w64 (by omega) (by omega), hg, decide_eq_true h2, decide_eq_false hk]
        simp only [Bool.and_self, Option.bind_some, spec_CrossedBy.j0, impl_CrossedBy.j0]
        refine ⟨by simp, ?_⟩
        by_cases h3 : k < 0
        · simp [h3]
        · have h4 : k ≥ (L.length : Int) := by omega
          simp [h3, h4]
    · rw [crossV_no (fun h => h2 h.2.1), siMost_at L hi _ (by omega), areRules_at, isMost_at, hg, decide_eq_false h2]
      simp only [Bool.and_false, Option.bind_some, spec_CrossedBy.j0, impl_CrossedBy.j0]
      refine ⟨by simp, ?_⟩
      by_cases h3 : k < 0
      · simp [h3]
      · by_cases h4 : k ≥ (L.length : Int)
        · simp [h3, h4]
        · simp [h3, h4]
  · rw [crossV_no (fun h => hg h.1), siMost_at L hi _ (by omega), areRules_at]
    simp only [Option.bind_some, spec_CrossedBy.j0, impl_CrossedBy.j0]
    exact ⟨by simp [hg], by simp [hg]⟩
theorem count_l0 (L : List S53) (hg : goodB L = true) (hi : Int) (hh : hi ≤ 600) : ∀ (d : Nat) (m c : Int), 0 ≤ m → hi + 1 - m ≤ d → 0 ≤ c → c + d ≤ 100000 → ∀ K, 101 + d < K → spec_CountBetween.l0 K L hi c m = some (c + (ff (leftB L) (hi + 1 - m).toNat m).length, true) := by
  intro d
  induction d with
  | zero =>
    intro m c h0 h1 h2 h3 K hK
    obtain ⟨K, rfl⟩ : ∃ k, K = k + 1 := ⟨K - 1, by omega⟩
    simp only [spec_CountBetween.l0]
    rw [if_neg (by omega), show (hi + 1 - m).toNat = 0 from by omega]
    simp [ff]
  | succ d ih =>
    intro m c h0 h1 h2 h3 K hK
    obtain ⟨K, rfl⟩ : ∃ k, K = k + 1 := ⟨K - 1, by omega⟩
    simp only [spec_CountBetween.l0]
    by_cases hc : m ≤ hi
    · rw [if_pos hc, siLeft_at m L hg K (by omega), w64 (x := m + 1) (by omega) (by omega), w64 (x := c + 1) (by omega) (by omega)]
      simp only [Option.bind_some]
      rw [show (hi + 1 - m).toNat = (hi + 1 - (m + 1)).toNat + 1 from by omega]
      unfold ff
      by_cases hp : leftB L m = true
      · rw [if_pos hp, if_pos hp, ih (m + 1) (c + 1) (by omega) (by omega) (by omega) (by omega) K (by omega)]
        simp; omega
      · rw [if_neg hp, if_neg hp, ih (m + 1) c (by omega) (by omega) (by omega) (by omega) K (by omega)]
    · rw [if_neg hc, show (hi + 1 - m).toNat = 0 from by omega]
      simp [ff]
def betwV (L : List S53) (lo hi : Int) : Int × Bool := if goodB L = true ∧ (0 ≤ lo ∧ lo ≤ 600) ∧ (0 ≤ hi ∧ hi ≤ 600) then (((ff (leftB L) (hi + 1 - lo).toNat lo).length : Int), true) else (0, false)
theorem betwV_yes {L : List S53} {lo hi : Int} (hg : goodB L = true) (h1 : 0 ≤ lo ∧ lo ≤ 600) (h2 : 0 ≤ hi ∧ hi ≤ 600) : betwV L lo hi = (((ff (leftB L) (hi + 1 - lo).toNat lo).length : Int), true) := by
  unfold betwV; rw [if_pos ⟨hg, h1, h2⟩]
theorem betwV_no {L : List S53} {lo hi : Int} (h : ¬ (goodB L = true ∧ (0 ≤ lo ∧ lo ≤ 600) ∧ (0 ≤ hi ∧ hi ≤ 600))) : betwV L lo hi = (0, false) := by
  unfold betwV; rw [if_neg h]
theorem betw_at (L : List S53) (lo hi : Int) (K : Nat) (hK : 2000000 < K) : spec_CountBetween.f K L lo hi = some (betwV L lo hi) ∧ impl_CountBetween.f K L lo hi = some (betwV L lo hi) := by
  obtain ⟨K, rfl⟩ : ∃ k, K = k + 1 := ⟨K - 1, by omega⟩
  unfold spec_CountBetween.f impl_CountBetween.f
  rw [siMost_at L lo _ (by omega), siMost_at L hi _ (by omega), areRules_at, isMost_at, isMost_at]
  simp only [Option.bind_some, spec_CountBetween.j0]
  by_cases hg : goodB L = true
  · by_cases h1 : 0 ≤ lo ∧ lo ≤ 600
    · by_cases h2 : 0 ≤ hi ∧ hi ≤ 600
      · have hb := leftBetween_at L hg lo hi h1.1 (by omega) (by omega) (K + 1) (by omega)
        have hc := count_l0 L hg hi h2.2 700 lo 0 h1.1 (by omega) (by omega) (by omega) K (by omega)
        rw [betwV_yes hg h1 h2]
        refine ⟨?_, ?_⟩
        · rw [hg, decide_eq_true h1, decide_eq_true h2]
          simp only [Bool.and_self, Bool.not_true]
          rw [if_pos trivial, if_neg (by simp), hc]
          simp
        · rw [hg, decide_eq_true h1, decide_eq_true h2, hb]
          rfl
      · rw [betwV_no (fun h => h2 h.2.2)]
        exact ⟨by simp [hg, h1, h2], by simp [hg, h1, h2]⟩
    · rw [betwV_no (fun h => h1 h.2.1)]
      exact ⟨by simp [hg, h1], by simp [hg, h1]⟩
  · rw [betwV_no (fun h => hg h.1)]
    exact ⟨by simp [hg], by simp [hg]⟩
theorem upV_len (L : List S53) (o : Int) : (upV L o).1.length ≤ 10000 := by
  by_cases h : goodB L = true ∧ (0 ≤ o ∧ o ≤ 600)
  · rw [upV_yes h.1 h.2]
    have := ff_len (leftB L) o.toNat 1
    show (ff (leftB L) o.toNat 1).length ≤ _
    omega
  · rw [upV_no h]; simp
theorem crossV_len (L : List S53) (k o : Int) : (crossV L k o).1.length ≤ 10000 := by
  unfold crossV
  split
  · rename_i h
    have := ff_len (fun n => decide (firstZ n 0 L = k)) o.toNat 1
    show (ff (fun n => decide (firstZ n 0 L = k)) o.toNat 1).length ≤ _
    omega
  · simp
theorem j5_at (L : List S53) (lo hi : Int) (b : Bool) (hb : b = true → 1 ≤ lo ∧ lo ≤ hi ∧ (betwV L lo hi).2 = true) (K : Nat) (hK : 3000000 < K) : laws_FnSievesLeave.j5 K L lo hi (betwV L lo hi).1 b = some true := by
  obtain ⟨K, rfl⟩ : ∃ k, K = k + 1 := ⟨K - 1, by omega⟩
  simp only [laws_FnSievesLeave.j5]
  cases b with
  | false => rw [if_neg (by simp)]
  | true =>
    obtain ⟨h1, h2, h3⟩ := hb rfl
    have hc : goodB L = true ∧ (0 ≤ lo ∧ lo ≤ 600) ∧ (0 ≤ hi ∧ hi ≤ 600) := by
      by_cases hc : goodB L = true ∧ (0 ≤ lo ∧ lo ≤ 600) ∧ (0 ≤ hi ∧ hi ≤ 600)
      · exact hc
      · unfold betwV at h3
        rw [if_neg hc] at h3
        cases h3
    obtain ⟨hg, hl, hh⟩ := hc
    have e1 : countV L hi = (((ff (leftB L) hi.toNat 1).length : Int), true) := by unfold countV; rw [upV_yes hg hh]
    have e2 : countV L (lo - 1) = (((ff (leftB L) (lo - 1).toNat 1).length : Int), true) := by unfold countV; rw [upV_yes hg (by omega)]
    have e3 : betwV L lo hi = (((ff (leftB L) (hi + 1 - lo).toNat lo).length : Int), true) := by unfold betwV; rw [if_pos ⟨hg, hl, hh⟩]
    have ea := ff_app (leftB L) (lo - 1).toNat (hi + 1 - lo).toNat 1
    rw [show (lo - 1).toNat + (hi + 1 - lo).toNat = hi.toNat from by omega, show (1 : Int) + ((lo - 1).toNat : Int) = lo from by omega] at ea
    have el := congrArg List.length ea
    rw [List.length_append] at el
    have hb1 := ff_len (leftB L) hi.toNat 1
    rw [if_pos rfl, w64 (x := lo - 1) (by omega) (by omega), (countLeft_at L hi K (by omega)).2, (countLeft_at L (lo - 1) K (by omega)).2, e1, e2, e3]
    simp only [Option.bind_some]
    rw [if_pos trivial, if_pos trivial, w64 (by omega) (by omega)]
    congr 1
    rw [beq_iff_eq]
    omega
theorem isR_at (e r : Int) : impl_IsRule.f e r = some (ruleB e r) ∧ spec_IsRule.f e r = some (ruleB e r) := by
  unfold impl_IsRule.f spec_IsRule.f
  rw [isRule_at, siRule_at]
  exact ⟨rfl, rfl⟩
theorem j4_at (l1 : List Int) (hl1 : okB l1) (K : Nat) (hK : 3000010 < K) : laws_FnSievesLeave.j4 K l1 = some true := by
  obtain ⟨K, rfl⟩ : ∃ k, K = k + 1 := ⟨K - 1, by omega⟩
  obtain ⟨⟨r, lo, hi⟩, d1⟩ := drawCountBetween l1 hl1 K (by omega)
  obtain ⟨⟨s, rank⟩, d2⟩ := drawLeftOfRank l1 hl1 K (by omega)
  obtain ⟨⟨t, n⟩, d3⟩ := drawNextLeft l1 hl1 K (by omega)
  obtain ⟨⟨u, k, hi2⟩, d4⟩ := drawCrossedBy l1 hl1 K (by omega)
  obtain ⟨⟨e, q⟩, d5⟩ := drawIsRule l1 hl1
  have b1 := betw_at r lo hi K (by omega)
  have b2 := rank_at s rank K (by omega)
  obtain ⟨v, b3, _⟩ := next_at t n
  have b3 := b3 K (by omega)
  have b4 := firstR_at t n K (by omega)
  have b5 := cross_at u k hi2 K (by omega)
  have b6 := isR_at e q
  have hT := tSame_at (crossV u k hi2).1 (crossV_len u k hi2) K (by omega)
  simp only [laws_FnSievesLeave.j4]
  simp only [d1, d2, d3, d4, d5, b1.1, b1.2, b2.1, b2.2, b3.1, b3.2, b4.1, b4.2, b5.1, b5.2, b6.1, b6.2, hT, Option.bind_some, bne_self_eq_false, Bool.false_eq_true, if_false, if_true]
  by_cases c1 : (betwV r lo hi).2 = true
  · rw [if_pos c1]
    by_cases c2 : lo ≥ 1
    · rw [if_pos c2]
      exact j5_at r lo hi _ (fun h => ⟨by omega, of_decide_eq_true h, c1⟩) K (by omega)
    · rw [if_neg c2]
      exact j5_at r lo hi _ (fun h => by cases h) K (by omega)
  · rw [if_neg c1]
    exact j5_at r lo hi _ (fun h => by cases h) K (by omega)
/-- How many numbers the first rules cross out. -/
def sumC (L : List S53) (o : Int) : Nat → Nat
  | 0 => 0
  | j + 1 => sumC L o j + (ff (fun n => decide (firstZ n 0 L = (j : Int))) o.toNat 1).length
theorem ff_none (p : Int → Bool) (h : ∀ x, p x = false) : ∀ (d : Nat) (n : Int), ff p d n = []
  | 0, _ => rfl
  | d + 1, n => by rw [ff, if_neg (by rw [h n]; simp), ff_none p h d (n + 1)]
theorem sumC_at (L : List S53) (o : Int) : ∀ i : Nat, sumC L o i = (ff (fun n => decide (0 ≤ firstZ n 0 L ∧ firstZ n 0 L < (i : Int))) o.toNat 1).length
  | 0 => by
    rw [ff_none _ (fun x => decide_eq_false (by omega))]
    rfl
  | i + 1 => by
    rw [sumC, sumC_at L o i]
    refine ff_two _ _ _ (fun x => ?_) (fun x h1 h2 => ?_) _ _
    · rw [← Bool.decide_or, decide_eq_decide]
      omega
    · have := of_decide_eq_true h1
      have := of_decide_eq_true h2
      omega
theorem sumC_all (L : List S53) (o : Int) : sumC L o L.length + (ff (leftB L) o.toNat 1).length = o.toNat := by
  rw [sumC_at, ff_two _ (leftB L) (fun _ => true) (fun x => ?_) (fun x h1 h2 => ?_), ff_all _ (fun _ => rfl)]
  · unfold leftB
    rw [← Bool.decide_or]
    rcases firstZ_range x L 0 (by omega) with h | ⟨h1, h2, _⟩
    · exact (decide_eq_true (by omega)).symm
    · exact (decide_eq_true (by omega)).symm
  · have := of_decide_eq_true h1
    unfold leftB at h2
    have := of_decide_eq_true h2
    omega
theorem rises_ff (p : Int → Bool) (o : Int) (h0 : 0 ≤ o) (ho : o ≤ 600) (K : Nat) (hK : 10000 < K) : laws_tRises.f K (ff p o.toNat 1) 1 o = some true := by
  have hl := ff_len p o.toNat 1
  exact tRises_l0 (ff p o.toNat 1) 1 o (by omega) (ff_pair p _ _) (fun x hx => by have := (ff_in p _ _ x).1 hx; omega) _ 0 (Nat.zero_add _) K (by omega)
theorem l2_at (l1 : List Int) (hl1 : okB l1) (L : List S53) (hg : goodB L = true) (o : Int) (h0 : 0 ≤ o) (ho : o ≤ 600) : ∀ (d i : Nat), i + d = L.length → ∀ K, 3000020 + d < K →
    laws_FnSievesLeave.l2 K l1 L o ((ff (leftB L) o.toNat 1).length : Int) (sumC L o i : Int) (L.length : Int) (i : Int) = some true := by
  have hl := good_len hg
  have hall := sumC_all L o
  intro d
  induction d with
  | zero =>
    intro i hi K hK
    obtain ⟨K, rfl⟩ : ∃ k, K = k + 1 := ⟨K - 1, by omega⟩
    obtain rfl : i = L.length := by omega
    have hc : ¬ (L.length : Int) < (L.length : Int) := by omega
    simp only [laws_FnSievesLeave.l2]
    rw [if_neg hc, w64 (by omega) (by omega), if_pos (by omega)]
    exact j4_at l1 hl1 K (by omega)
  | succ d ih =>
    intro i hi K hK
    obtain ⟨K, rfl⟩ : ∃ k, K = k + 1 := ⟨K - 1, by omega⟩
    have hc : (i : Int) < (L.length : Int) := by omega
    have hx : crossV L (i : Int) o = (ff (fun n => decide (firstZ n 0 L = (i : Int))) o.toNat 1, true) := by
      unfold crossV; rw [if_pos ⟨hg, ⟨h0, ho⟩, by omega, by omega⟩]
    have hs : (sumC L o i : Int) + ((ff (fun n => decide (firstZ n 0 L = (i : Int))) o.toNat 1).length : Int) = (sumC L o (i + 1) : Int) := by
      rw [sumC]; omega
    have hb : sumC L o (i + 1) ≤ 600 := by
      rw [sumC_at]
      have := ff_len (fun n => decide (0 ≤ firstZ n 0 L ∧ firstZ n 0 L < ((i + 1 : Nat) : Int))) o.toNat 1
      omega
    have h := ih (i + 1) (by omega) K (by omega)
    simp only [laws_FnSievesLeave.l2]
    rw [if_pos hc, (cross_at L (i : Int) o K (by omega)).2, hx]
    simp only [Option.bind_some]
    rw [if_pos trivial, rises_ff _ o h0 ho K (by omega)]
    simp only [Option.bind_some]
    rw [if_pos trivial, hs, w64 (by omega) (by omega), w64 (by omega) (by omega), show (i : Int) + 1 = ((i + 1 : Nat) : Int) from by omega]
    exact h
theorem rd_app (a b : List Int) (i : Nat) (h : i < a.length) : rd (a ++ b) (i : Int) = rd a (i : Int) := by
  have h2 : i < (a ++ b).length := by simp; omega
  rw [rd_get _ _ h2, rd_get _ _ h, List.getElem_append_left h]
theorem ff_gap (p : Int → Bool) (d : Nat) (n : Int) (i : Nat) (h : i + 1 < (ff p d n).length) : rd (ff p d n) (i : Int) < rd (ff p d n) ((i + 1 : Nat) : Int) ∧ ∀ y, rd (ff p d n) (i : Int) < y → y < rd (ff p d n) ((i + 1 : Nat) : Int) → p y = false := by
  have hp := List.pairwise_iff_getElem.1 (ff_pair p d n)
  have m1 := (ff_in p d n _).1 (rd_mem (ff p d n) i (by omega))
  have m2 := (ff_in p d n _).1 (rd_mem (ff p d n) (i + 1) h)
  rw [rd_get _ i (by omega)] at m1 ⊢
  rw [rd_get _ (i + 1) h] at m2 ⊢
  refine ⟨hp i (i + 1) (by omega) h (by omega), fun y h1 h2 => ?_⟩
  by_cases hy : p y = true
  · have hin : y ∈ ff p d n := (ff_in p d n y).2 ⟨by omega, by omega, hy⟩
    obtain ⟨j, hj, e⟩ := List.getElem_of_mem hin
    by_cases c : j ≤ i
    · by_cases c2 : j = i
      · subst c2; omega
      · have := hp j i hj (by omega) (by omega); omega
    · by_cases c2 : j = i + 1
      · subst c2; omega
      · have := hp (i + 1) j h hj (by omega); omega
  · simpa using hy
theorem l1_at (l1 : List Int) (hl1 : okB l1) (L : List S53) (hg : goodB L = true) (o : Int) (h0 : 0 ≤ o) (ho : o ≤ 600) : ∀ (d i : Nat), i + d = (ff (leftB L) o.toNat 1).length → ∀ K, 3001000 + d < K →
    laws_FnSievesLeave.l1 K l1 L o (ff (leftB L) o.toNat 1) ((ff (leftB L) o.toNat 1).length : Int) (ff (leftB L) o.toNat 1) ((ff (leftB L) o.toNat 1).length : Int) (i : Int) = some true := by
  have hl := good_len hg
  have hfl := ff_len (leftB L) o.toNat 1
  have hap := ff_app (leftB L) o.toNat (600 - o.toNat) 1
  rw [show o.toNat + (600 - o.toNat) = 600 from by omega] at hap
  intro d
  induction d with
  | zero =>
    intro i hi K hK
    obtain ⟨K, rfl⟩ : ∃ k, K = k + 1 := ⟨K - 1, by omega⟩
    have hc : ¬ (i : Int) < ((ff (leftB L) o.toNat 1).length : Int) := by omega
    simp only [laws_FnSievesLeave.l1]
    rw [if_neg hc]
    exact l2_at l1 hl1 L hg o h0 ho L.length 0 (Nat.zero_add _) K (by omega)
  | succ d ih =>
    intro i hi K hK
    obtain ⟨K, rfl⟩ : ∃ k, K = k + 1 := ⟨K - 1, by omega⟩
    have hc : (i : Int) < ((ff (leftB L) o.toNat 1).length : Int) := by omega
    have hc0 : (0 : Int) ≤ (i : Int) := by omega
    have hr : rankV L (i : Int) = (rd (ff (leftB L) o.toNat 1) (i : Int), true) := by
      have hlen : (i : Int) < ((ff (leftB L) 600 1).length : Int) := by rw [hap, List.length_append]; omega
      unfold rankV
      rw [if_pos ⟨hg, hc0, hlen⟩, hap, rd_app _ _ i (by omega)]
    have hin := (ff_in (leftB L) _ _ _).1 (rd_mem (ff (leftB L) o.toNat 1) i (by omega))
    have h := ih (i + 1) (by omega) K (by omega)
    have hw : wrap64 ((i : Int) + 1) = ((i + 1 : Nat) : Int) := by rw [w64 (by omega) (by omega)]; omega
    simp only [laws_FnSievesLeave.l1]
    rw [if_pos hc, if_pos hc0, if_pos hc, (rank_at L (i : Int) K (by omega)).2, hr]
    simp only [Option.bind_some]
    rw [if_pos trivial, if_pos trivial, hw]
    by_cases hn : ((i + 1 : Nat) : Int) < ((ff (leftB L) o.toNat 1).length : Int)
    · obtain ⟨g1, g2⟩ := ff_gap (leftB L) o.toNat 1 i (by omega)
      have hin2 := (ff_in (leftB L) _ _ _).1 (rd_mem (ff (leftB L) o.toNat 1) (i + 1) (by omega))
      obtain ⟨v, hv, hz⟩ := next_at L (rd (ff (leftB L) o.toNat 1) (i : Int))
      have hv2 := hz hg (by omega) (rd (ff (leftB L) o.toNat 1) ((i + 1 : Nat) : Int)) g1 (by omega) hin2.2.2 g2
      rw [if_pos hn, (hv K (by omega)).2, hv2]
      simp only [Option.bind_some]
      rw [if_pos trivial, if_pos (by omega), if_pos trivial]
      exact h
    · rw [if_neg hn]
      exact h
theorem l0_at (l1 : List Int) (hl1 : okB l1) (L : List S53) (hg : goodB L = true) (o : Int) (h0 : 0 ≤ o) (ho : o ≤ 600) : ∀ (d : Nat) (n : Int), 1 ≤ n → o + 1 - n ≤ d → ∀ K, 3002000 + d < K →
    laws_FnSievesLeave.l0 K l1 L o (ff (leftB L) o.toNat 1) ((ff (leftB L) o.toNat 1).length : Int) n = some true := by
  have hl := good_len hg
  have hfl := ff_len (leftB L) o.toNat 1
  have fin : ∀ (n : Int) (K : Nat), ¬ n ≤ o → 3001700 < K → laws_FnSievesLeave.l0 K l1 L o (ff (leftB L) o.toNat 1) ((ff (leftB L) o.toNat 1).length : Int) n = some true := by
    intro n K hc hK
    obtain ⟨K, rfl⟩ : ∃ k, K = k + 1 := ⟨K - 1, by omega⟩
    simp only [laws_FnSievesLeave.l0]
    rw [if_neg hc]
    exact l1_at l1 hl1 L hg o h0 ho _ 0 (Nat.zero_add _) K (by omega)
  intro d
  induction d with
  | zero => intro n h1 h2 K hK; exact fin n K (by omega) (by omega)
  | succ d ih =>
    intro n h1 h2 K hK
    by_cases hc : n ≤ o
    · obtain ⟨K, rfl⟩ : ∃ k, K = k + 1 := ⟨K - 1, by omega⟩
      have h := ih (n + 1) (by omega) (by omega) K (by omega)
      have hm : decide (n ∈ ff (leftB L) o.toNat 1) = leftB L n := by
        rw [Bool.eq_iff_iff, decide_eq_true_iff, ff_in]
        exact ⟨fun h => h.2.2, fun h => ⟨by omega, by omega, h⟩⟩
      have hnr : -600 ≤ n ∧ n ≤ 600 := by omega
      simp only [laws_FnSievesLeave.l0]
      rw [if_pos hc, isLeftV_at L hg n hnr, (firstR_at L n 1000 (by omega)).2]
      simp only [Option.bind_some]
      rw [if_pos trivial, tHas_at _ n (by omega) K (by omega), hm]
      simp only [Option.bind_some, bne_self_eq_false]
      rw [if_neg (by simp), w64 (x := n + 1) (by omega) (by omega)]
      rw [firstV_yes hg hnr]
      unfold leftB
      by_cases hz : firstZ n 0 L < 0
      · rw [if_pos hz, decide_eq_true hz]
        simp only []
        rw [if_neg (by simp), if_neg (by simp)]
        exact h
      · rcases firstZ_range n L 0 (by omega) with hx | ⟨hx1, hx2, x, hx3, hx4⟩
        · omega
        · have hlt : (firstZ n 0 L - 0).toNat < L.length := by omega
          have hmem := List.mem_of_getElem? hx3
          have hok := good_mem hg x hmem
          have hrd : rd_T53 L (firstZ n 0 L) = x := by
            rw [show (firstZ n 0 L) = (((firstZ n 0 L - 0).toNat : Nat) : Int) from by omega]
            unfold rd_T53
            rw [List.getD_eq_getElem?_getD, Int.toNat_natCast, hx3]
            rfl
          have hmz := modZ_eq n x.f0 hok.1 hok.2.1 (by omega) (by omega)
          rw [if_neg hz, decide_eq_false hz]
          simp only []
          rw [if_neg (by simp), if_pos trivial, if_neg hz, if_neg (by omega), if_pos (by omega), if_pos (by omega), hrd, if_neg (by omega), Int.tmod_eq_emod_of_nonneg (by omega), ← hmz, if_pos hx4]
          exact h
    · exact fin n K hc (by omega)
theorem f_at (l0 l1 : List Int) (m1 : l1.length ≤ maxLen) (wf0 : ∀ x ∈ l0, (Lit.int .u8 x).wf = true) (wf1 : ∀ x ∈ l1, (Lit.int .u8 x).wf = true) (K : Nat) (hK : 4000000 < K) : laws_FnSievesLeave.f K l0 l1 = some true := by
  obtain ⟨K, rfl⟩ : ∃ k, K = k + 1 := ⟨K - 1, by omega⟩
  unfold laws_FnSievesLeave.f
  obtain ⟨bb, hbb, hbs⟩ := big_at l0 l1 m1
  rw [hbb]
  simp only [Option.bind_some]
  cases bb with
  | true => rw [if_pos rfl]
  | false =>
  have hl0 := okB_of l0 (hbs rfl).1 wf0
  have hl1 := okB_of l1 (hbs rfl).2 wf1
  obtain ⟨⟨L, o⟩, d1⟩ := drawLeftUpTo l0 hl0 (K + 1) (by omega)
  have u := leftUpTo_at L o (K + 1) (by omega)
  have c := countLeft_at L o (K + 1) (by omega)
  have ar := areR_at L (K + 1) (by omega)
  have hT := tSame_at (upV L o).1 (upV_len L o) (K + 1) (by omega)
  have hcu : (countV L o).2 = (upV L o).2 := rfl
  rw [if_neg (by simp)]
  simp only [d1, u.1, u.2, c.1, c.2, ar.1, ar.2, hT, hcu, Option.bind_some, bne_self_eq_false, Bool.false_eq_true, if_false, if_true]
  by_cases h : goodB L = true ∧ (0 ≤ o ∧ o ≤ 600)
  · obtain ⟨hg, h0, ho⟩ := h
    have ecv : (countV L o).1 = ((ff (leftB L) o.toNat 1).length : Int) := by unfold countV; rw [upV_yes hg ⟨h0, ho⟩]
    rw [ecv, upV_yes hg ⟨h0, ho⟩]
    simp only []
    rw [if_pos trivial, if_pos hg]
    simp only [laws_FnSievesLeave.j0]
    rw [if_neg (by simp), if_pos trivial, if_pos trivial, rises_ff _ o h0 ho K (by omega)]
    simp only [Option.bind_some]
    rw [if_pos trivial]
    exact l0_at l1 hl1 L hg o h0 ho 601 1 (by omega) (by omega) K (by omega)
  · rw [upV_no h]
    simp only []
    rw [if_neg (by simp)]
    simp only [laws_FnSievesLeave.j0]
    rw [if_neg (by simp), if_neg (by simp)]
    exact j4_at l1 hl1 K (by omega)

theorem done : laws_FnSievesLeave.Pure := by
  intro l0 l1 h0 _ w0 h1 _ w1
  exact ⟨1000000000, f_at l0 l1 h1 w0 w1 1000000000 (by omega)⟩
end OwnFnSievesLeave
theorem FnSievesLeave : laws_FnSievesLeave.Pure := OwnFnSievesLeave.done
end Go.Proofs.Ytfickjfmcmdfiaa.Pure
