/- Moved, mirrored, told and read rules keep what they leave, and thinned rules leave the same with none needless, whatever is drawn: no condition. -/
import Derived.Test.YtnfbdaffbpaagaaGreatDoorPFnSievesMovedx14
namespace Go.Proofs.YtnfbdaffbpaagaaGreatDoor.Pure
open Go.RowKit Go.Proofs.YtnfbdaffbpaagaaGreatDoor.PFnSievesMoved Go.Proofs.YtnfbdaffbpaagaaGreatDoorW.PrintWords Go.Proofs.YtnfbdaffbpaagaaGreatDoorW.PrintLast Go.Proofs.YtnfbdaffbpaagaaGreatDoorW.PrintMore
set_option linter.unusedVariables false
set_option linter.unusedSimpArgs false
namespace OwnFnSievesMoved
theorem bs_ {α β : Type} (a : α) (f : α → Option β) : (some a).bind f = f a := rfl
theorem w64 {x : Int} (h0 : -9223372036854775808 ≤ x) (h1 : x ≤ 9223372036854775807) : wrap64 x = x := by unfold wrap64; omega
theorem l1In_at (n a b : Int) : spec_l1In.f n a b = some (decide (a ≤ n ∧ n ≤ b)) := by
 unfold spec_l1In.f
 by_cases h : a ≤ n
 ·rw [if_pos (by omega)]; simp [h]
 ·rw [if_neg (by omega)]; simp [h]
def ruleB (e r : Int) : Bool := decide (2 ≤ e ∧ e ≤ 60 ∧ 0 ≤ r ∧ r < e)
theorem isRule_at (e r : Int) : impl_isRule.f e r = some (ruleB e r) := by
 unfold impl_isRule.f ruleB
 by_cases h1 : e ≥ 2
 ·rw [if_pos h1]
  by_cases h2 : e ≤ 60
  ·rw [if_pos h2]
   by_cases h3 : r ≥ 0
   ·rw [if_pos h3]
    congr 1
    rw [decide_eq_decide]
    omega
   ·rw [if_neg h3, decide_eq_false (by omega)]
  ·rw [if_neg h2, decide_eq_false (by omega)]
 ·rw [if_neg h1, decide_eq_false (by omega)]
theorem siRule_at (e r : Int) : spec_siRule.f e r = some (ruleB e r) := by
 unfold spec_siRule.f ruleB
 rw [l1In_at]
 simp only [bs_]
 by_cases h1 : 2 ≤ e ∧ e ≤ 60
 ·rw [decide_eq_true h1, if_pos rfl, w64 (by omega) (by omega), l1In_at]
  simp only [bs_]
  congr 1
  rw [decide_eq_decide]
  omega
 ·rw [decide_eq_false h1, if_neg (by simp), decide_eq_false (by omega)]
theorem drop_rdT (xs : List S41) (i : Nat) (h : i < xs.length) : xs.drop i = rd_T41 xs (i : Int) :: xs.drop (i + 1) := by
 rw [List.drop_eq_getElem_cons h]
 simp [rd_T41, List.getD, h]
def goodB (L : List S41) : Bool := decide (L.length ≤ 12) && L.all (fun x => ruleB x.f0 x.f1)
theorem areAny_at : ∀ L : List S41, impl_areRules.any L = some (!(L.all fun x => ruleB x.f0 x.f1))
 | [] => rfl
 | x :: xs => by
  simp only [impl_areRules.any, isRule_at, bs_, List.all_cons]
  rw [areAny_at xs]
  cases ruleB x.f0 x.f1 <;> simp
theorem areRules_at (L : List S41) : impl_areRules.f L = some (goodB L) := by
 unfold impl_areRules.f goodB
 rw [areAny_at]
 by_cases h : L.length ≤ 12
 ·rw [if_pos (by omega)]; simp [h]
 ·rw [if_neg (by omega)]; simp [h]
theorem siGood_l0 (L : List S41) (hL : L.length ≤ 12) : ∀ (d i : Nat), i + d = L.length → ∀ K, d < K → spec_siGood.l0 K L L.length i = some ((L.drop i).all fun x => ruleB x.f0 x.f1) := by
 intro d
 induction d with
 | zero =>
  intro i hi K hK
  obtain ⟨K, rfl⟩ : ∃ k, K = k + 1 := ⟨K - 1, by omega⟩
  simp only [spec_siGood.l0]
  rw [if_neg (by omega), List.drop_of_length_le (by omega)]
  rfl
 | succ d ih =>
  intro i hi K hK
  obtain ⟨K, rfl⟩ : ∃ k, K = k + 1 := ⟨K - 1, by omega⟩
  have hlt : (i : Int) < (L.length : Int) := by omega
  have h := ih (i + 1) (by omega) K (by omega)
  simp only [spec_siGood.l0]
  rw [if_pos hlt, if_pos (by omega), if_pos hlt, siRule_at, w64 (by omega) (by omega), drop_rdT L i (by omega)]
  simp only [bs_, List.all_cons]
  rw [show (i : Int) + 1 = ((i + 1 : Nat) : Int) from by omega, h]
  cases ruleB (rd_T41 L (i : Int)).f0 (rd_T41 L (i : Int)).f1 <;> simp
theorem siGood_at (L : List S41) (K : Nat) (hK : 100 < K) : spec_siGood.f K L = some (goodB L) := by
 unfold spec_siGood.f goodB
 by_cases h : L.length ≤ 12
 ·have h0 := siGood_l0 L h L.length 0 (by omega) K (by omega)
  have h0' : spec_siGood.l0 K L L.length 0 = _ := h0
  rw [if_neg (by omega), h0']; simp [h]
 ·rw [if_pos (by omega)]; simp [h]
theorem good_len {L : List S41} (h : goodB L = true) : L.length ≤ 12 := by
 unfold goodB at h
 simp at h
 exact h.1
theorem good_mem {L : List S41} (h : goodB L = true) (x : S41) (hx : x ∈ L) : 2 ≤ x.f0 ∧ x.f0 ≤ 60 ∧ 0 ≤ x.f1 ∧ x.f1 < x.f0 := by
 unfold goodB at h
 simp at h
 have := h.2 x hx
 unfold ruleB at this
 simpa using this
def modZ (n e : Int) : Int := Int.tmod (wrap64 (Int.tmod n e + e)) e
theorem mod_at (n e : Int) (h : e ≠ 0) : impl_mod.f n e = some (modZ n e) := by
 unfold impl_mod.f modZ; rw [if_neg h]
theorem siRest_at (n e : Int) (h : e ≠ 0) : spec_siRest.f n e = some (modZ n e) := by
 unfold spec_siRest.f modZ; rw [if_neg h]
def firstZ (n : Int) : Int → List S41 → Int
  | _, [] => -1
  | i, x :: xs => if modZ n x.f0 = x.f1 then i else firstZ n (i + 1) xs
theorem firstRule_go (n : Int) : ∀ (L : List S41) (i : Int), (∀ x ∈ L, x.f0 ≠ 0) → impl_firstRule.go n i L = some (firstZ n i L)
 | [], _, _ => rfl
 | x :: xs, i, h => by
  simp only [impl_firstRule.go, firstZ]
  rw [mod_at n _ (h x (by simp)), firstRule_go n xs (i + 1) (fun y hy => h y (by simp [hy]))]
  simp only [bs_]
  split <;> rfl
theorem firstRule_at (n : Int) (L : List S41) (h : goodB L = true) : impl_firstRule.f L n = some (firstZ n 0 L) :=
 firstRule_go n L 0 (fun x hx => by have := good_mem h x hx; omega)
theorem siFirst_l0 (n : Int) (L : List S41) (hL : L.length ≤ 12) (h0 : ∀ x ∈ L, x.f0 ≠ 0) : ∀ (d i : Nat), i + d = L.length → ∀ K, d < K → spec_siFirst.l0 K n L L.length i = some (firstZ n i (L.drop i)) := by
 intro d
 induction d with
 | zero =>
  intro i hi K hK
  obtain ⟨K, rfl⟩ : ∃ k, K = k + 1 := ⟨K - 1, by omega⟩
  simp only [spec_siFirst.l0]
  rw [if_neg (by omega), List.drop_of_length_le (by omega)]
  rfl
 | succ d ih =>
  intro i hi K hK
  obtain ⟨K, rfl⟩ : ∃ k, K = k + 1 := ⟨K - 1, by omega⟩
  have hlt : (i : Int) < (L.length : Int) := by omega
  have h := ih (i + 1) (by omega) K (by omega)
  have hd := drop_rdT L i (by omega)
  have hm : rd_T41 L (i : Int) ∈ L := List.mem_of_mem_drop (i := i) (by rw [hd]; simp)
  simp only [spec_siFirst.l0]
  rw [if_pos hlt, if_pos (by omega), if_pos hlt, siRest_at _ _ (h0 _ hm), w64 (by omega) (by omega), hd]
  simp only [bs_, firstZ]
  rw [show (i : Int) + 1 = ((i + 1 : Nat) : Int) from by omega, h]
  split <;> rfl
theorem siFirst_at (n : Int) (L : List S41) (h : goodB L = true) (K : Nat) (hK : 100 < K) : spec_siFirst.f K L n = some (firstZ n 0 L) :=
 siFirst_l0 n L (good_len h) (fun x hx => by have := good_mem h x hx; omega) L.length 0 (by omega) K (by have := good_len h; omega)
def leftB (L : List S41) (n : Int) : Bool := decide (firstZ n 0 L < 0)
theorem isLeft_at (n : Int) (L : List S41) (h : goodB L = true) : impl_isLeft.f L n = some (leftB L n) := by
 unfold impl_isLeft.f; rw [firstRule_at n L h]; rfl
theorem siLeft_at (n : Int) (L : List S41) (h : goodB L = true) (K : Nat) (hK : 100 < K) : spec_siLeft.f K L n = some (leftB L n) := by
 unfold spec_siLeft.f; rw [siFirst_at n L h K hK]; rfl
theorem isNumber_at (n : Int) : impl_isNumber.f n = some (decide (-600 ≤ n ∧ n ≤ 600)) := by
 unfold impl_isNumber.f
 by_cases h : -600 ≤ n
 ·rw [if_pos (by omega)]; simp [h]
 ·rw [if_neg (by omega)]; simp [h]
theorem siNumber_at (n : Int) : spec_siNumber.f n = some (decide (-600 ≤ n ∧ n ≤ 600)) := by
 unfold spec_siNumber.f; rw [l1In_at]; rfl
theorem isMost_at (n : Int) : impl_isMost.f n = some (decide (0 ≤ n ∧ n ≤ 600)) := by
 unfold impl_isMost.f
 by_cases h : 0 ≤ n
 ·rw [if_pos (by omega)]; simp [h]
 ·rw [if_neg (by omega)]; simp [h]
theorem modZ_eq (n e : Int) (h1 : 2 ≤ e) (h2 : e ≤ 60) (h3 : -1000000000000 ≤ n) (h4 : n ≤ 1000000000000) : modZ n e = n % e := by
 have r0 := Int.emod_nonneg n (by omega : e ≠ 0)
 have r1 := Int.emod_lt_of_pos n (by omega : 0 < e)
 have hk : ∀ x : Int, 0 ≤ x → x < 2 * e → (x = n % e ∨ x = n % e + e) → Int.tmod (wrap64 x) e = n % e := by
  intro x hx0 hx1 hx
  rw [w64 (by omega) (by omega), Int.tmod_eq_emod_of_nonneg hx0]
  rcases hx with rfl | rfl
  ·exact Int.emod_emod_of_dvd _ (Int.dvd_refl e)
  ·rw [Int.add_emod_right]; exact Int.emod_emod_of_dvd _ (Int.dvd_refl e)
 unfold modZ
 by_cases h : 0 ≤ n ∨ e ∣ n
 ·have ht : Int.tmod n e = n % e := by rw [Int.tmod_eq_emod, if_pos h]; simp
  rw [ht]
  exact hk _ (by omega) (by omega) (.inr rfl)
 ·have he : (e.natAbs : Int) = e := by omega
  have ht : Int.tmod n e = n % e - e := by rw [Int.tmod_eq_emod, if_neg h, he]
  rw [ht]
  exact hk _ (by omega) (by omega) (.inl (by omega))
def ff (p : Int → Bool) : Nat → Int → List Int
  | 0, _ => []
  | d + 1, n => if p n = true then n :: ff p d (n + 1) else ff p d (n + 1)
theorem ff_len (p : Int → Bool) : ∀ (d : Nat) (n : Int), (ff p d n).length ≤ d
 | 0, _ => Nat.le_refl _
 | d + 1, n => by
  unfold ff
  have := ff_len p d (n + 1)
  split
  ·simp; omega
  ·omega
theorem leftBetween_l0 (L : List S41) (hL : goodB L = true) (hi : Int) (hh : hi ≤ 1000000) : ∀ (d : Nat) (n : Int) (acc : List Int), -1000000 ≤ n → hi + 1 - n ≤ d → acc.length + d ≤ 4000000 →
  ∀ K, d < K → impl_leftBetween.l0 K L hi acc n = some (acc ++ ff (leftB L) (hi + 1 - n).toNat n) := by
 intro d
 induction d with
 | zero =>
  intro n acc h0 h1 h3 K hK
  obtain ⟨K, rfl⟩ : ∃ k, K = k + 1 := ⟨K - 1, by omega⟩
  simp only [impl_leftBetween.l0]
  rw [if_neg (by omega), show (hi + 1 - n).toNat = 0 from by omega]
  simp [ff]
 | succ d ih =>
  intro n acc h0 h1 h3 K hK
  obtain ⟨K, rfl⟩ : ∃ k, K = k + 1 := ⟨K - 1, by omega⟩
  simp only [impl_leftBetween.l0]
  by_cases hc : n ≤ hi
  ·rw [if_pos hc, isLeft_at n L hL, w64 (by omega) (by omega)]
   simp only [bs_]
   rw [show (hi + 1 - n).toNat = (hi + 1 - (n + 1)).toNat + 1 from by omega]
   unfold ff
   by_cases hp : leftB L n = true
   ·rw [if_pos hp, if_pos hp, if_pos (by omega), ih (n + 1) (acc ++ [n]) (by omega) (by omega) (by simp; omega) K (by omega)]
    simp
   ·rw [if_neg hp, if_neg hp, ih (n + 1) acc (by omega) (by omega) (by omega) K (by omega)]
  ·rw [if_neg hc, show (hi + 1 - n).toNat = 0 from by omega]
   simp [ff]
theorem leftBetween_at (L : List S41) (hL : goodB L = true) (lo hi : Int) (h0 : 0 ≤ lo) (h1 : lo ≤ 1000) (hh : hi ≤ 200000) (K : Nat) (hK : 1000000 < K) : impl_leftBetween.f K L lo hi = some (ff (leftB L) (hi + 1 - lo).toNat lo) := by
 unfold impl_leftBetween.f
 rw [leftBetween_l0 L hL hi (by omega) 300000 lo [] (by omega) (by omega) (by simp) K (by omega)]
 simp
theorem gcd_l0 : ∀ (b a : Nat) (K : Nat), b < K → impl_gcd.l0 K (a : Int) (b : Int) = some ((Nat.gcd a b : Nat) : Int) ∧ spec_siCommon.l0 K (a : Int) (b : Int) = some ((Nat.gcd a b : Nat) : Int) := by
 intro b
 induction b using Nat.strongRecOn with
 | _ b ih =>
  intro a K hK
  obtain ⟨K, rfl⟩ : ∃ k, K = k + 1 := ⟨K - 1, by omega⟩
  simp only [impl_gcd.l0, spec_siCommon.l0]
  by_cases hb : b = 0
  ·subst hb
   have hc : ¬ ((0 : Nat) : Int) > 0 := by omega
   rw [if_neg hc, if_neg hc]
   simp
  ·have hc : (b : Int) > 0 := by omega
   have hz : ¬ (b : Int) = 0 := by omega
   have h := ih (a % b) (Nat.mod_lt _ (by omega)) b K (by have := Nat.mod_lt a (by omega : b > 0); omega)
   rw [if_pos hc, if_pos hc, if_neg hz, if_neg hz, Int.tmod_eq_emod_of_nonneg (by omega), show (a : Int) % (b : Int) = ((a % b : Nat) : Int) from rfl, h.1, h.2]
   have e : Nat.gcd b (a % b) = Nat.gcd a b := by rw [Nat.gcd_comm a b, Nat.gcd_rec b a, Nat.gcd_comm]
   rw [e]
   exact ⟨rfl, rfl⟩
def gZ (a b : Int) : Int := ((Nat.gcd a.toNat b.toNat : Nat) : Int)
theorem gcd_at (a b : Int) (ha : 0 ≤ a) (hb : 0 ≤ b) (hb2 : b ≤ 60) (K : Nat) (hK : 100 < K) : impl_gcd.f K a b = some (gZ a b) ∧ spec_siCommon.f K a b = some (gZ a b) := by
 have h := gcd_l0 b.toNat a.toNat K (by omega)
 rw [show ((a.toNat : Nat) : Int) = a from by omega, show ((b.toNat : Nat) : Int) = b from by omega] at h
 exact h
theorem gZ_facts (a b : Int) (ha : 1 ≤ a) (hb : 1 ≤ b) : 1 ≤ gZ a b ∧ gZ a b ∣ a ∧ gZ a b ∣ b := by
 have h0 : 0 < Nat.gcd a.toNat b.toNat := Nat.gcd_pos_of_pos_left _ (by omega)
 refine ⟨by unfold gZ; omega, ?_, ?_⟩
 ·have h := Int.ofNat_dvd.2 (Nat.gcd_dvd_left a.toNat b.toNat)
  rw [show ((a.toNat : Nat) : Int) = a from by omega] at h
  exact h
 ·have h := Int.ofNat_dvd.2 (Nat.gcd_dvd_right a.toNat b.toNat)
  rw [show ((b.toNat : Nat) : Int) = b from by omega] at h
  exact h
def perZ : Int → List S41 → Int
  | p, [] => p
  | p, x :: xs => if p / gZ p x.f0 * x.f0 > 100000 then 0 else perZ (p / gZ p x.f0 * x.f0) xs
def Ev_ (L : List S41) : Prop := ∀ x ∈ L, 2 ≤ x.f0 ∧ x.f0 ≤ 60
theorem step_facts (p e : Int) (hp : 1 ≤ p) (h2 : p ≤ 100000) (he : 2 ≤ e) (he2 : e ≤ 60) : 1 ≤ p / gZ p e ∧ p / gZ p e ≤ p ∧ 1 ≤ p / gZ p e * e ∧ p / gZ p e * e ≤ 6000000 ∧ p ∣ p / gZ p e * e ∧ e ∣ p / gZ p e * e := by
 obtain ⟨h1, ⟨q, hq⟩, ⟨r, hr⟩⟩ := gZ_facts p e hp (by omega)
 obtain ⟨g, hg⟩ : ∃ g, g = gZ p e := ⟨_, rfl⟩
 rw [← hg] at h1 hq hr ⊢
 have e1 : p / g = q := by rw [hq]; exact Int.mul_ediv_cancel_left _ (by omega)
 have q1 : 1 ≤ q := by
  by_cases h : q ≤ 0
  ·have := Int.mul_nonpos_of_nonneg_of_nonpos (by omega : 0 ≤ g) h
   omega
  ·omega
 have qp : q ≤ p := by
  have := Int.mul_le_mul h1 (Int.le_refl q) (by omega) (by omega)
  omega
 rw [e1]
 refine ⟨q1, qp, ?_, ?_, ⟨r, ?_⟩, ⟨q, by rw [Int.mul_comm]⟩⟩
 ·have := Int.mul_le_mul q1 (by omega : (1 : Int) ≤ e) (by omega) (by omega)
  omega
 ·have := Int.mul_le_mul (by omega : q ≤ 100000) he2 (by omega) (by omega)
  omega
 ·rw [hq]
  conv => lhs; rw [hr]
  rw [← Int.mul_assoc, Int.mul_comm q g]
theorem perZ_range : ∀ (L : List S41) (p : Int), 1 ≤ p → p ≤ 100000 → Ev_ L → 0 ≤ perZ p L ∧ perZ p L ≤ 100000
 | [], p, h1, h2, _ => ⟨by show 0 ≤ p; omega, h2⟩
 | x :: xs, p, h1, h2, h => by
  have hx := h x (by simp)
  have hs := step_facts p x.f0 h1 h2 hx.1 hx.2
  unfold perZ
  split
  ·omega
  ·exact perZ_range xs _ hs.2.2.1 (by omega) (fun y hy => h y (by simp [hy]))
theorem per_l0 (L : List S41) (hL : L.length ≤ 100) (hE : Ev_ L) : ∀ (d i : Nat) (p : Int), i + d = L.length → 1 ≤ p → p ≤ 100000 →
  ∀ K, 100 + d < K → spec_siPeriod.l0 K p L L.length i = some (perZ p (L.drop i)) ∧ impl_lcmOf.l0 K p L L.length i = some (if perZ p (L.drop i) = 0 then (0, false) else (perZ p (L.drop i), true)) := by
 intro d
 induction d with
 | zero =>
  intro i p hi hp hp2 K hK
  obtain ⟨K, rfl⟩ : ∃ k, K = k + 1 := ⟨K - 1, by omega⟩
  have hc : ¬ (i : Int) < (L.length : Int) := by omega
  simp only [spec_siPeriod.l0, impl_lcmOf.l0]
  rw [if_neg hc, if_neg hc, List.drop_of_length_le (by omega)]
  have h0 : ¬ p = 0 := by omega
  simp [perZ, h0]
 | succ d ih =>
  intro i p hi hp hp2 K hK
  obtain ⟨K, rfl⟩ : ∃ k, K = k + 1 := ⟨K - 1, by omega⟩
  have hlt : (i : Int) < (L.length : Int) := by omega
  have hi0 : (0 : Int) ≤ (i : Int) := by omega
  have hd := drop_rdT L i (by omega)
  have hm : rd_T41 L (i : Int) ∈ L := List.mem_of_mem_drop (i := i) (by rw [hd]; simp)
  have hx := hE _ hm
  have hs := step_facts p _ hp hp2 hx.1 hx.2
  have hg := gZ_facts p (rd_T41 L (i : Int)).f0 hp (by omega)
  have hga := gcd_at p (rd_T41 L (i : Int)).f0 (by omega) (by omega) hx.2 K (by omega)
  have hg0 : ¬ gZ p (rd_T41 L (i : Int)).f0 = 0 := by omega
  simp only [spec_siPeriod.l0, impl_lcmOf.l0]
  rw [if_pos hlt, if_pos hlt, if_pos hi0, if_pos hi0, if_pos hlt, if_pos hlt, hga.1, hga.2, hd]
  simp only [bs_]
  rw [if_neg hg0, if_neg hg0, Int.tdiv_eq_ediv_of_nonneg (by omega), w64 (x := p / gZ p (rd_T41 L (i : Int)).f0) (by omega) (by omega), w64 (x := p / gZ p (rd_T41 L (i : Int)).f0 * (rd_T41 L (i : Int)).f0) (by omega) (by omega), w64 (x := (i : Int) + 1) (by omega) (by omega)]
  unfold perZ
  by_cases hb : p / gZ p (rd_T41 L (i : Int)).f0 * (rd_T41 L (i : Int)).f0 > 100000
  ·rw [if_pos hb, if_pos hb, if_pos hb]
   exact ⟨rfl, by simp⟩
  ·have h := ih (i + 1) _ (by omega) hs.2.2.1 (by omega) K (by omega)
   rw [show ((i + 1 : Nat) : Int) = (i : Int) + 1 from by omega] at h
   rw [if_neg hb, if_neg hb, if_neg hb]
   exact h
theorem per_at (L : List S41) (hL : L.length ≤ 100) (hE : Ev_ L) (K : Nat) (hK : 1000 < K) : spec_siPeriod.f K L = some (perZ 1 L) ∧ impl_lcmOf.f K L = some (if perZ 1 L = 0 then (0, false) else (perZ 1 L, true)) :=
 per_l0 L hL hE L.length 0 1 (by omega) (by omega) (by omega) K (by omega)
theorem good_ev {L : List S41} (h : goodB L = true) : Ev_ L := fun x hx => by have := good_mem h x hx; omega
theorem perZ_dvd : ∀ (L : List S41) (p : Int), 1 ≤ p → p ≤ 100000 → Ev_ L → perZ p L ≠ 0 → p ∣ perZ p L ∧ ∀ x ∈ L, x.f0 ∣ perZ p L
 | [], p, _, _, _, _ => ⟨Int.dvd_refl p, fun x hx => by cases hx⟩
 | y :: ys, p, h1, h2, h, hne => by
  have hy := h y (by simp)
  have hs := step_facts p y.f0 h1 h2 hy.1 hy.2
  unfold perZ at hne ⊢
  by_cases hb : p / gZ p y.f0 * y.f0 > 100000
  ·rw [if_pos hb] at hne; exact absurd rfl hne
  ·rw [if_neg hb] at hne
   rw [if_neg hb]
   have ih := perZ_dvd ys _ hs.2.2.1 (by omega) (fun z hz => h z (by simp [hz])) hne
   refine ⟨Int.dvd_trans hs.2.2.2.2.1 ih.1, fun x hx => ?_⟩
   rcases List.mem_cons.1 hx with rfl | hx
   ·exact Int.dvd_trans hs.2.2.2.2.2 ih.1
   ·exact ih.2 x hx
theorem periodOf_at (L : List S41) (K : Nat) (hK : 1000 < K) : impl_periodOf.f K L = some (if goodB L = true ∧ perZ 1 L ≠ 0 then (perZ 1 L, true) else (0, false)) := by
 unfold impl_periodOf.f
 rw [areRules_at]
 by_cases hg : goodB L = true
 ·have hl := good_len hg
  rw [hg, (per_at L (by omega) (good_ev hg) K hK).2]
  by_cases h0 : perZ 1 L = 0
  ·simp [h0]
  ·simp [h0]
 ·simp [hg]
theorem count_l0 (L : List S41) (hg : goodB L = true) (P : Int) (hP : perZ 1 L = P) (hP2 : P ≤ 100000) : ∀ (d : Nat) (m c : Int), 0 ≤ m → P - m ≤ d → 0 ≤ c → c + d ≤ 1000000 → ∀ K, 1001 + d < K → spec_LeftInPeriod.l0 K L c m = some (c + (ff (leftB L) (P - m).toNat m).length, true) := by
 have hl := good_len hg
 intro d
 induction d with
 | zero =>
  intro m c h0 h1 h2 h3 K hK
  obtain ⟨K, rfl⟩ : ∃ k, K = k + 1 := ⟨K - 1, by omega⟩
  simp only [spec_LeftInPeriod.l0]
  rw [(per_at L (by omega) (good_ev hg) K (by omega)).1, hP]
  simp only [bs_]
  rw [if_neg (by omega), show (P - m).toNat = 0 from by omega]
  simp [ff]
 | succ d ih =>
  intro m c h0 h1 h2 h3 K hK
  obtain ⟨K, rfl⟩ : ∃ k, K = k + 1 := ⟨K - 1, by omega⟩
  simp only [spec_LeftInPeriod.l0]
  rw [(per_at L (by omega) (good_ev hg) K (by omega)).1, hP]
  simp only [bs_]
  by_cases hc : m < P
  ·rw [if_pos hc, siLeft_at m L hg K (by omega), w64 (x := m + 1) (by omega) (by omega), w64 (x := c + 1) (by omega) (by omega)]
   simp only [bs_]
   rw [show (P - m).toNat = (P - (m + 1)).toNat + 1 from by omega]
   unfold ff
   by_cases hp : leftB L m = true
   ·rw [if_pos hp, if_pos hp, ih (m + 1) (c + 1) (by omega) (by omega) (by omega) (by omega) K (by omega)]
    simp; omega
   ·rw [if_neg hp, if_neg hp, ih (m + 1) c (by omega) (by omega) (by omega) (by omega) K (by omega)]
  ·rw [if_neg hc, show (P - m).toNat = 0 from by omega]
   simp [ff]
theorem firstZ_congr (n m : Int) : ∀ (L : List S41) (i : Int), (∀ x ∈ L, modZ n x.f0 = modZ m x.f0) → firstZ n i L = firstZ m i L
 | [], _, _ => rfl
 | x :: xs, i, h => by
  unfold firstZ
  rw [h x (by simp), firstZ_congr n m xs (i + 1) (fun y hy => h y (by simp [hy]))]
theorem left_end (L : List S41) (hg : goodB L = true) (h0 : perZ 1 L ≠ 0) : leftB L (perZ 1 L) = leftB L 0 := by
 have hr := perZ_range L 1 (by omega) (by omega) (good_ev hg)
 have hd := perZ_dvd L 1 (by omega) (by omega) (good_ev hg) h0
 unfold leftB
 rw [firstZ_congr (perZ 1 L) 0 L 0 (fun x hx => ?_)]
 have hx2 := good_ev hg x hx
 rw [modZ_eq _ _ hx2.1 hx2.2 (by omega) (by omega), modZ_eq _ _ hx2.1 hx2.2 (by omega) (by omega), Int.emod_eq_zero_of_dvd (hd.2 x hx), Int.zero_emod]
theorem ff_snoc (p : Int → Bool) : ∀ (d : Nat) (n : Int), (ff p (d + 1) n).length = (ff p d n).length + (if p (n + d) = true then 1 else 0)
 | 0, n => by simp [ff]; split <;> rfl
 | d + 1, n => by
  have ih := ff_snoc p d (n + 1)
  rw [ff]
  rw [show n + 1 + (d : Int) = n + ((d + 1 : Nat) : Int) from by omega] at ih
  conv => rhs; rw [ff]
  by_cases h : p n = true
  ·rw [if_pos h, if_pos h, List.length_cons, List.length_cons, ih]; omega
  ·rw [if_neg h, if_neg h, ih]
theorem ff_turn (p : Int → Bool) (d : Nat) (h : p (d : Int) = p 0) : (ff p d 1).length = (ff p d 0).length := by
 have h1 := ff_snoc p d 0
 rw [Int.zero_add, h] at h1
 rw [ff, Int.zero_add] at h1
 by_cases h0 : p 0 = true
 ·rw [if_pos h0, if_pos h0, List.length_cons] at h1; omega
 ·rw [if_neg h0, if_neg h0] at h1; omega
def needZ (rest : List S41) (P e : Int) : Nat → Int → Bool
  | 0, _ => true
  | d + 1, n => if n < P then (if leftB rest n = true then false else needZ rest P e d (n + e)) else true
def needB (L : List S41) (i : Nat) (P : Int) : Bool := needZ (L.eraseIdx i) P (rd_T41 L (i : Int)).f0 (P.toNat + 1) (rd_T41 L (i : Int)).f1
theorem rdT_mem (L : List S41) (i : Nat) (h : i < L.length) : rd_T41 L (i : Int) ∈ L := by
 simp [rd_T41, List.getD, h]
theorem good_erase {L : List S41} (h : goodB L = true) (i : Nat) : goodB (L.eraseIdx i) = true := by
 have hl := good_len h
 have h1 := List.length_eraseIdx_le L i
 unfold goodB at h ⊢
 simp only [Bool.and_eq_true, decide_eq_true_eq, List.all_eq_true] at h ⊢
 exact ⟨by omega, fun x hx => h.2 x (List.mem_of_mem_eraseIdx hx)⟩
theorem need_l0 (L : List S41) (hg : goodB L = true) (i : Nat) (hi : i < L.length) (P : Int) (hP : P ≤ 100000) : ∀ (d : Nat) (n : Int), 0 ≤ n → P - n ≤ d →
  ∀ K, 101 + d < K → impl_isNeedless.l0 K L i P (L.eraseIdx i) n = some (needZ (L.eraseIdx i) P (rd_T41 L (i : Int)).f0 (d + 1) n) ∧ spec_siNeedless.l0 K L i P (L.eraseIdx i) n = some (needZ (L.eraseIdx i) P (rd_T41 L (i : Int)).f0 (d + 1) n) := by
 have hge := good_erase hg i
 have hm := good_mem hg _ (rdT_mem L i hi)
 have hi0 : (0 : Int) ≤ (i : Int) := by omega
 have hi1 : (i : Int) < (L.length : Int) := by omega
 intro d
 induction d with
 | zero =>
  intro n h0 h1 K hK
  obtain ⟨K, rfl⟩ : ∃ k, K = k + 1 := ⟨K - 1, by omega⟩
  have hc : ¬ n < P := by omega
  simp only [impl_isNeedless.l0, spec_siNeedless.l0, needZ]
  rw [if_neg hc, if_neg hc, if_neg hc]
  exact ⟨rfl, rfl⟩
 | succ d ih =>
  intro n h0 h1 K hK
  obtain ⟨K, rfl⟩ : ∃ k, K = k + 1 := ⟨K - 1, by omega⟩
  rw [needZ]
  simp only [impl_isNeedless.l0, spec_siNeedless.l0]
  by_cases hc : n < P
  ·rw [if_pos hc, if_pos hc, if_pos hc, isLeft_at n _ hge, siLeft_at n _ hge K (by omega)]
   simp only [bs_]
   by_cases hl : leftB (L.eraseIdx i) n = true
   ·rw [if_pos hl, if_pos hl, if_pos hl]
    exact ⟨rfl, rfl⟩
   ·have h := ih (n + (rd_T41 L (i : Int)).f0) (by omega) (by omega) K (by omega)
    rw [if_neg hl, if_neg hl, if_neg hl, if_pos hi0, if_pos hi0, if_pos hi1, if_pos hi1, w64 (by omega) (by omega)]
    exact h
  ·rw [if_neg hc, if_neg hc, if_neg hc]
   exact ⟨rfl, rfl⟩
theorem delete_at (L : List S41) (i : Nat) (hi : i < L.length) (hl : L.length ≤ 100) : impl_Rule.f L i (wrap64 ((i : Int) + 1)) = some (L.eraseIdx i) := by
 unfold impl_Rule.f
 rw [w64 (by omega) (by omega), if_pos (by omega), if_pos rfl, if_pos (by omega), Int.toNat_natCast]
theorem without_at (L : List S41) (i : Nat) (hi : i < L.length) (hl : L.length ≤ 100) : spec_siWithout.f L i = some (L.eraseIdx i) := by
 have hw : wrap64 ((i : Int) + 1) = ((i + 1 : Nat) : Int) := by rw [w64 (by omega) (by omega)]; omega
 have q1 : (0 : Int) ≤ (i : Int) := by omega
 have q2 : (i : Int) ≤ (L.length : Int) := by omega
 have q3 : (L.take i).length < 8796093022208 := by rw [List.length_take]; omega
 have q4 : (0 : Int) ≤ ((i + 1 : Nat) : Int) := by omega
 have q5 : ((i + 1 : Nat) : Int) ≤ (L.length : Int) := by omega
 have q6 : (L.take i).length + (L.drop (i + 1)).length < 8796093022208 := by rw [List.length_take, List.length_drop]; omega
 unfold spec_siWithout.f
 rw [hw]
 simp only [bs_, List.nil_append, List.length_nil, Nat.zero_add, Int.toNat_natCast]
 rw [if_pos q1, if_pos q2, if_pos q3, if_pos q4, if_pos q5, if_pos q6, List.eraseIdx_eq_take_drop_succ]
theorem need_at (L : List S41) (hg : goodB L = true) (i : Nat) (hi : i < L.length) (P : Int) (hP : P ≤ 100000) (K : Nat) (hK : 1000000 < K) : impl_isNeedless.f K L i P = some (needB L i P) ∧ spec_siNeedless.f K L i P = some (needB L i P) := by
 have hl := good_len hg
 have hm := good_mem hg _ (rdT_mem L i hi)
 have h := need_l0 L hg i hi P hP P.toNat (rd_T41 L (i : Int)).f1 hm.2.2.1 (by omega) K (by omega)
 have hi0 : (0 : Int) ≤ (i : Int) := by omega
 have hi1 : (i : Int) < (L.length : Int) := by omega
 unfold impl_isNeedless.f spec_siNeedless.f needB
 simp only [bs_, List.nil_append, List.length_nil, Nat.zero_add]
 refine ⟨?_, ?_⟩
 ·rw [if_pos (by omega), delete_at L i hi (by omega)]
  simp only [bs_]
  rw [if_pos hi0, if_pos hi1]
  exact h.1
 ·rw [without_at L i hi (by omega)]
  simp only [bs_]
  rw [if_pos hi0, if_pos hi1]
  exact h.2
theorem needs_l0 (L : List S41) (hg : goodB L = true) (P : Int) (hPe : perZ 1 L = P) (hP : P ≤ 100000) : ∀ (d i : Nat) (acc : List Int), i + d = L.length → acc.length ≤ i →
  ∀ K, 1000001 + d < K → impl_NeedlessRules.l0 K L P acc L.length i = some (acc ++ ff (fun j => needB L j.toNat P) d i, true) ∧ spec_NeedlessRules.l0 K L acc L.length i = some (acc ++ ff (fun j => needB L j.toNat P) d i, true) := by
 have hl := good_len hg
 intro d
 induction d with
 | zero =>
  intro i acc hi ha K hK
  obtain ⟨K, rfl⟩ : ∃ k, K = k + 1 := ⟨K - 1, by omega⟩
  have hc : ¬ (i : Int) < (L.length : Int) := by omega
  simp only [impl_NeedlessRules.l0, spec_NeedlessRules.l0]
  rw [if_neg hc, if_neg hc]
  simp [ff]
 | succ d ih =>
  intro i acc hi ha K hK
  obtain ⟨K, rfl⟩ : ∃ k, K = k + 1 := ⟨K - 1, by omega⟩
  have hlt : (i : Int) < (L.length : Int) := by omega
  have hn := need_at L hg i (by omega) P hP K (by omega)
  simp only [impl_NeedlessRules.l0, spec_NeedlessRules.l0]
  rw [if_pos hlt, if_pos hlt, (per_at L (by omega) (good_ev hg) K (by omega)).1, hPe, hn.1]
  simp only [bs_]
  rw [hn.2, w64 (by omega) (by omega)]
  simp only [bs_]
  unfold ff
  have e : needB L ((i : Int)).toNat P = needB L i P := by rw [Int.toNat_natCast]
  by_cases hb : needB L i P = true
  ·have h := ih (i + 1) (acc ++ [(i : Int)]) (by omega) (by simp; omega) K (by omega)
   rw [show ((i + 1 : Nat) : Int) = (i : Int) + 1 from by omega] at h
   have h3 : acc.length < 17592186044416 := by omega
   rw [if_pos hb, if_pos hb, if_pos h3, if_pos h3, h.1, h.2, if_pos (by rw [e]; exact hb)]
   simp
  ·have h := ih (i + 1) acc (by omega) (by omega) K (by omega)
   rw [show ((i + 1 : Nat) : Int) = (i : Int) + 1 from by omega] at h
   rw [if_neg hb, if_neg hb, h.1, h.2, if_neg (by rw [e]; exact hb)]
   exact ⟨rfl, rfl⟩
def dropZ (P : Int) : Nat → List S41 → List S41
  | 0, L => L
  | i + 1, L => if needB L i P = true then dropZ P i (L.eraseIdx i) else dropZ P i L
theorem dropZ_len (P : Int) : ∀ (i : Nat) (L : List S41), (dropZ P i L).length ≤ L.length
 | 0, L => Nat.le_refl _
 | i + 1, L => by
  unfold dropZ
  have h1 := List.length_eraseIdx_le L i
  have h2 := dropZ_len P i (L.eraseIdx i)
  have h3 := dropZ_len P i L
  split <;> omega
theorem drop_l0 (P : Int) (hP : P ≤ 100000) : ∀ (i : Nat) (L : List S41), goodB L = true → i ≤ L.length →
  ∀ K, 1000001 + i < K → impl_DropNeedless.l0 K P L ((i : Int) - 1) = some (dropZ P i L, true) ∧ spec_DropNeedless.l0 K P L ((i : Int) - 1) = some (dropZ P i L, true) := by
 intro i
 induction i with
 | zero =>
  intro L hg hi K hK
  obtain ⟨K, rfl⟩ : ∃ k, K = k + 1 := ⟨K - 1, by omega⟩
  have hc : ¬ (((0 : Nat) : Int) - 1 ≥ 0) := by omega
  simp only [impl_DropNeedless.l0, spec_DropNeedless.l0]
  rw [if_neg hc, if_neg hc]
  exact ⟨rfl, rfl⟩
 | succ i ih =>
  intro L hg hi K hK
  obtain ⟨K, rfl⟩ : ∃ k, K = k + 1 := ⟨K - 1, by omega⟩
  have hl := good_len hg
  have e0 : ((i + 1 : Nat) : Int) - 1 = (i : Int) := by omega
  have hc : (i : Int) ≥ 0 := by omega
  have hn := need_at L hg i (by omega) P hP K (by omega)
  simp only [impl_DropNeedless.l0, spec_DropNeedless.l0]
  rw [e0, if_pos hc, if_pos hc, hn.1, hn.2]
  simp only [bs_]
  unfold dropZ
  by_cases hb : needB L i P = true
  ·have hle := List.length_eraseIdx_of_lt (show i < L.length by omega)
   have h := ih (L.eraseIdx i) (good_erase hg i) (by omega) K (by omega)
   rw [if_pos hb, if_pos hb, if_pos hb, delete_at L i (by omega) (by omega), without_at L i (by omega) (by omega), w64 (x := (i : Int) - 1) (by omega) (by omega)]
   exact h
  ·have h := ih L hg (by omega) K (by omega)
   rw [if_neg hb, if_neg hb, if_neg hb, w64 (x := (i : Int) - 1) (by omega) (by omega)]
   exact h
theorem drop_rd (xs : List Int) (i : Nat) (h : i < xs.length) : xs.drop i = rd xs (i : Int) :: xs.drop (i + 1) := by
 rw [List.drop_eq_getElem_cons h]
 simp [rd, List.getD, h]
theorem rd_mem (xs : List Int) (i : Nat) (h : i < xs.length) : rd xs (i : Int) ∈ xs := by
 simp [rd, List.getD, h]
theorem rd_get (xs : List Int) (i : Nat) (h : i < xs.length) : rd xs (i : Int) = xs[i] := by simp [rd, List.getD, h]
theorem tSame_l0 (xs : List Int) (hx : xs.length ≤ 100000000) : ∀ (d i : Nat), i + d = xs.length → ∀ K, d < K → laws_tSame.l0 K xs xs xs.length i = some true := by
 intro d
 induction d with
 | zero =>
  intro i hi K hK
  obtain ⟨K, rfl⟩ : ∃ k, K = k + 1 := ⟨K - 1, by omega⟩
  simp only [laws_tSame.l0]
  rw [if_neg (by omega)]
 | succ d ih =>
  intro i hi K hK
  obtain ⟨K, rfl⟩ : ∃ k, K = k + 1 := ⟨K - 1, by omega⟩
  have h1 : (i : Int) < (xs.length : Int) := by omega
  have h0 : (0 : Int) ≤ (i : Int) := by omega
  simp only [laws_tSame.l0]
  rw [if_pos h1, if_pos h0, if_pos h1, if_pos h1, if_pos trivial, w64 (by omega) (by omega)]
  exact ih (i + 1) (by omega) K (by omega)
theorem tSame_at (xs : List Int) (hx : xs.length ≤ 10000) (K : Nat) (hK : 10000 < K) : laws_tSame.f K xs xs = some true := by
 unfold laws_tSame.f
 rw [if_pos rfl]
 exact tSame_l0 xs (by omega) xs.length 0 (by omega) K (by omega)
theorem bl_app (a b : ByteArray) : (a ++ b).data.toList = a.data.toList ++ b.data.toList := by simp
theorem bl_ext {a b : ByteArray} (h : a.data.toList = b.data.toList) : a = b := by
 cases a; cases b
 simp only [ByteArray.mk.injEq]
 exact Array.toList_inj.1 h
theorem bl_size (a : ByteArray) : a.size = a.data.toList.length := by rw [Array.length_toList]; rfl
def mkB (l : List UInt8) : ByteArray := ⟨l.toArray⟩
theorem bl_mk (l : List UInt8) : (mkB l).data.toList = l := rfl
theorem mk_app (a b : List UInt8) : mkB a ++ mkB b = mkB (a ++ b) := bl_ext (by rw [bl_app]; rfl)
theorem mk_size (l : List UInt8) : (mkB l).size = l.length := by rw [bl_size]; rfl
theorem dd_one {n : Nat} (h : n < 10) : Lib.decDigits n = [UInt8.ofNat (48 + n)] := by rw [Lib.decDigits, dif_pos h]
theorem dd_two {n : Nat} (h : ¬ n < 10) : Lib.decDigits n = Lib.decDigits (n / 10) ++ [UInt8.ofNat (48 + n % 10)] := by rw [Lib.decDigits, dif_neg h]
theorem dd_len {n : Nat} (h : n < 100) : 1 ≤ (Lib.decDigits n).length ∧ (Lib.decDigits n).length ≤ 2 := by
 by_cases h1 : n < 10
 ·rw [dd_one h1]; simp
 ·rw [dd_two h1, dd_one (by omega)]; simp
theorem itoa_at (n : Int) (h0 : 0 ≤ n) (h1 : n < 100) : strconv_Itoa.f n = some (mkB (Lib.decDigits n.toNat)) := by
 unfold strconv_Itoa.f
 rw [if_pos h0, if_pos h1]; rfl
theorem one_byte (n : Int) (h0 : 0 ≤ n) (h1 : n < 10) : strOfNums [(wrap64 (48 + n)) % 256] = mkB [UInt8.ofNat (48 + n.toNat)] := by
 rw [w64 (by omega) (by omega)]
 obtain ⟨m, rfl⟩ : ∃ m : Nat, n = m := ⟨n.toNat, by omega⟩
 have hm : m < 10 := by omega
 rcases m with _ | _ | _ | _ | _ | _ | _ | _ | _ | _ | m
 all_goals first | rfl | omega
theorem l1Num_at (n : Int) (h0 : 0 ≤ n) (h1 : n < 100) (K : Nat) (hK : 10 < K) : spec_l1Num.f K n = some (mkB (Lib.decDigits n.toNat)) := by
 obtain ⟨K, rfl⟩ : ∃ k, K = k + 1 := ⟨K - 1, by omega⟩
 obtain ⟨K, rfl⟩ : ∃ k, K = k + 1 := ⟨K - 1, by omega⟩
 by_cases h : n < 10
 ·rw [spec_l1Num.f, if_pos h, one_byte n h0 h, dd_one (by omega)]
 ·have hd : Int.tdiv n 10 = n / 10 := Int.tdiv_eq_ediv_of_nonneg h0
  have hm : Int.tmod n 10 = n % 10 := Int.tmod_eq_emod_of_nonneg h0
  have e1 : (n / 10).toNat = n.toNat / 10 := by omega
  have e2 : (n % 10).toNat = n.toNat % 10 := by omega
  rw [spec_l1Num.f, if_neg h, hd, hm, w64 (x := n / 10) (by omega) (by omega), spec_l1Num.f, if_pos (by omega), one_byte (n / 10) (by omega) (by omega)]
  simp only [bs_]
  rw [one_byte (n % 10) (by omega) (by omega), if_pos (by rw [mk_size, mk_size]; simp), mk_app, e1, e2, dd_two (n := n.toNat) (by omega), dd_one (n := n.toNat / 10) (by omega)]
def oneL (x : S41) : List UInt8 := Lib.decDigits x.f0.toNat ++ 58 :: Lib.decDigits x.f1.toNat
def tailL : List S41 → List UInt8
  | [] => []
  | x :: xs => 44 :: (oneL x ++ tailL xs)
def textL : List S41 → List UInt8
  | [] => [45]
  | x :: xs => oneL x ++ tailL xs
theorem one_len {x : S41} (h : 2 ≤ x.f0 ∧ x.f0 ≤ 60 ∧ 0 ≤ x.f1 ∧ x.f1 < x.f0) : 3 ≤ (oneL x).length ∧ (oneL x).length ≤ 5 := by
 have h1 := dd_len (n := x.f0.toNat) (by omega)
 have h2 := dd_len (n := x.f1.toNat) (by omega)
 unfold oneL
 rw [List.length_append, List.length_cons]
 omega
theorem tail_len : ∀ (L : List S41), (∀ x ∈ L, 2 ≤ x.f0 ∧ x.f0 ≤ 60 ∧ 0 ≤ x.f1 ∧ x.f1 < x.f0) → (tailL L).length ≤ 6 * L.length
 | [], _ => by simp [tailL]
 | x :: xs, h => by
  have h1 := one_len (h x (by simp))
  have h2 := tail_len xs (fun y hy => h y (by simp [hy]))
  unfold tailL
  rw [List.length_cons, List.length_append, List.length_cons]
  omega
theorem tail_join : ∀ (L : List S41), Lib.joinTail [44] (L.map oneL) = tailL L
 | [] => rfl
 | x :: xs => by
  have ih := tail_join xs
  unfold Lib.joinTail at ih ⊢
  rw [List.map_cons, List.map_cons, List.flatten_cons, ih]
  rfl
theorem text_join (x : S41) (L : List S41) : Lib.join ((x :: L).map oneL) [44] = textL (x :: L) := by
 rw [List.map_cons, Lib.join_cons, tail_join]; rfl
def words (L : List S41) : List ByteArray := L.map fun x => mkB (oneL x)
theorem words_bl (L : List S41) : (words L).map (·.data.toList) = L.map oneL := by
 unfold words
 rw [List.map_map]; rfl
theorem take_rdT (L : List S41) (i : Nat) (h : i < L.length) : L.take (i + 1) = L.take i ++ [rd_T41 L (i : Int)] := by
 rw [List.take_succ_eq_append_getElem h]
 congr 2
 simp [rd_T41, List.getD, h]
theorem rdT_in (L : List S41) (i : Nat) (h : i < L.length) : rd_T41 L (i : Int) ∈ L := by
 simp [rd_T41, List.getD, h]
theorem rules_l0 (L : List S41) (hg : goodB L = true) : ∀ (d i : Nat), i + d = L.length → ∀ K, d < K → impl_rulesText.l0 K (words (L.take i)) L L.length i = some (mkB (textL L)) := by
 have hl := good_len hg
 have hm := good_mem hg
 intro d
 induction d with
 | zero =>
  intro i hi K hK
  obtain ⟨K, rfl⟩ : ∃ k, K = k + 1 := ⟨K - 1, by omega⟩
  have hc : ¬ (i : Int) < (L.length : Int) := by omega
  simp only [impl_rulesText.l0]
  rw [if_neg hc, List.take_of_length_le (by omega)]
  cases L with
  | nil => rfl
  | cons x L =>
   have hb := tail_len L (fun y hy => hm y (by simp [hy]))
   have h1 := one_len (hm x (by simp))
   have ht := text_join x L
   have hlen : (textL (x :: L)).length ≤ 100 := by
    show (oneL x ++ tailL L).length ≤ 100
    rw [List.length_append]
    simp only [List.length_cons] at hl
    omega
   have hw : (words (x :: L)).length = L.length + 1 := by simp [words]
   rw [if_neg (by rw [hw]; omega)]
   unfold strings_Join.f
   rw [words_bl, show (ByteArray.mk #[44]).data.toList = [44] from rfl, ht, if_pos (by omega), if_pos (by rw [hw]; simp only [List.length_cons] at hl; omega)]
   rfl
 | succ d ih =>
  intro i hi K hK
  obtain ⟨K, rfl⟩ : ∃ k, K = k + 1 := ⟨K - 1, by omega⟩
  have hc : (i : Int) < (L.length : Int) := by omega
  have hi0 : (0 : Int) ≤ (i : Int) := by omega
  have h := ih (i + 1) (by omega) K (by omega)
  rw [show ((i + 1 : Nat) : Int) = (i : Int) + 1 from by omega, take_rdT L i (by omega)] at h
  have hx := hm _ (rdT_in L i (by omega))
  have hw : (words (L.take i)).length ≤ 12 := by
   unfold words
   rw [List.length_map]
   have := List.length_take_le i L
   omega
  have h1 := dd_len (n := (rd_T41 L (i : Int)).f0.toNat) (by omega)
  have h2 := dd_len (n := (rd_T41 L (i : Int)).f1.toNat) (by omega)
  have e58 : (⟨#[58]⟩ : ByteArray) = mkB [58] := rfl
  simp only [impl_rulesText.l0]
  rw [if_pos hc, if_pos hi0, if_pos hc, itoa_at _ (by omega) (by omega), itoa_at _ (by omega) (by omega)]
  simp only [bs_]
  rw [e58, mk_app, mk_app, mk_size, mk_size, mk_size, if_pos (by omega), if_pos (by rw [List.length_append]; simp; omega), if_pos (by omega), w64 (by omega) (by omega)]
  have hwd : words (L.take i ++ [rd_T41 L (i : Int)]) = words (L.take i) ++ [mkB (Lib.decDigits (rd_T41 L (i : Int)).f0.toNat ++ [58] ++ Lib.decDigits (rd_T41 L (i : Int)).f1.toNat)] := by
   unfold words
   rw [List.map_append]
   unfold oneL
   simp
  rw [← hwd]
  exact h
theorem rulesText_at (L : List S41) (hg : goodB L = true) (K : Nat) (hK : 100 < K) : impl_rulesText.f K L = some (mkB (textL L)) :=
 rules_l0 L hg L.length 0 (Nat.zero_add _) K (by have := good_len hg; omega)
def preL : List S41 → List UInt8
  | [] => []
  | x :: xs => oneL x ++ tailL xs
theorem tail_snoc (x : S41) : ∀ (L : List S41), tailL (L ++ [x]) = tailL L ++ 44 :: oneL x
 | [] => by simp [tailL]
 | y :: L => by
  have ih := tail_snoc x L
  show 44 :: (oneL y ++ tailL (L ++ [x])) = 44 :: (oneL y ++ tailL L) ++ 44 :: oneL x
  rw [ih]
  simp
theorem pre_snoc (x : S41) (L : List S41) (h : L ≠ []) : preL (L ++ [x]) = preL L ++ 44 :: oneL x := by
 cases L with
 | nil => exact absurd rfl h
 | cons y L =>
  show oneL y ++ tailL (L ++ [x]) = oneL y ++ tailL L ++ 44 :: oneL x
  rw [tail_snoc]
  simp
theorem pre_len (L : List S41) (hm : ∀ x ∈ L, 2 ≤ x.f0 ∧ x.f0 ≤ 60 ∧ 0 ≤ x.f1 ∧ x.f1 < x.f0) : (preL L).length ≤ 6 * L.length := by
 cases L with
 | nil => simp [preL]
 | cons y L =>
  have h1 := one_len (hm y (by simp))
  have h2 := tail_len L (fun x hx => hm x (by simp [hx]))
  show (oneL y ++ tailL L).length ≤ _
  rw [List.length_append, List.length_cons]
  omega
theorem siText_l0 (L : List S41) (hg : goodB L = true) : ∀ (d i : Nat), i + d = L.length → ∀ K, 20 + d < K → spec_siText.l0 K (mkB (preL (L.take i))) L L.length i = some (mkB (preL L)) := by
 have hl := good_len hg
 have hm := good_mem hg
 intro d
 induction d with
 | zero =>
  intro i hi K hK
  obtain ⟨K, rfl⟩ : ∃ k, K = k + 1 := ⟨K - 1, by omega⟩
  have hc : ¬ (i : Int) < (L.length : Int) := by omega
  simp only [spec_siText.l0]
  rw [if_neg hc, List.take_of_length_le (by omega)]
 | succ d ih =>
  intro i hi K hK
  obtain ⟨K, rfl⟩ : ∃ k, K = k + 1 := ⟨K - 1, by omega⟩
  have hc : (i : Int) < (L.length : Int) := by omega
  have hi0 : (0 : Int) ≤ (i : Int) := by omega
  have h := ih (i + 1) (by omega) K (by omega)
  rw [show ((i + 1 : Nat) : Int) = (i : Int) + 1 from by omega, take_rdT L i (by omega)] at h
  have hx := hm _ (rdT_in L i (by omega))
  have hp := pre_len (L.take i) (fun x hx => hm x (List.mem_of_mem_take hx))
  have htl := List.length_take_le i L
  have h1 := dd_len (n := (rd_T41 L (i : Int)).f0.toNat) (by omega)
  have h2 := dd_len (n := (rd_T41 L (i : Int)).f1.toNat) (by omega)
  have e58 : (⟨#[58]⟩ : ByteArray) = mkB [58] := rfl
  have e44 : (⟨#[44]⟩ : ByteArray) = mkB [44] := rfl
  have hone : Lib.decDigits (rd_T41 L (i : Int)).f0.toNat ++ [58] ++ Lib.decDigits (rd_T41 L (i : Int)).f1.toNat = oneL (rd_T41 L (i : Int)) := by
   unfold oneL; simp
  have h3 := one_len hx
  simp only [spec_siText.l0]
  rw [if_pos hc, if_pos hi0, if_pos hc, l1Num_at _ (by omega) (by omega) K (by omega), l1Num_at _ (by omega) (by omega) K (by omega)]
  simp only [bs_]
  rw [e58, e44, mk_app, mk_app, mk_app, mk_app, mk_app, hone, mk_size, mk_size, mk_size, mk_size, mk_size, mk_size]
  rw [w64 (by omega) (by omega)]
  cases i with
  | zero =>
   have e : preL (L.take 0) ++ oneL (rd_T41 L ((0 : Nat) : Int)) = preL (L.take 0 ++ [rd_T41 L ((0 : Nat) : Int)]) := by
    simp [preL, tailL]
   rw [if_neg (by omega), if_pos (by first | omega | (simp only [List.length_append, List.length_cons, List.length_nil]; omega)), if_pos (by first | omega | (simp only [List.length_append, List.length_cons, List.length_nil]; omega)), if_pos (by first | omega | (simp only [List.length_append, List.length_cons, List.length_nil]; omega)), e]
   exact h
  | succ j =>
   have hne : L.take (j + 1) ≠ [] := by
    intro hh
    have : (L.take (j + 1)).length = 0 := by rw [hh]; rfl
    rw [List.length_take] at this
    omega
   have e := pre_snoc (rd_T41 L ((j + 1 : Nat) : Int)) (L.take (j + 1)) hne
   rw [if_pos (by omega), if_pos (by first | omega | (simp only [List.length_append, List.length_cons, List.length_nil]; omega)), if_pos (by first | omega | (simp only [List.length_append, List.length_cons, List.length_nil]; omega)), if_pos (by first | omega | (simp only [List.length_append, List.length_cons, List.length_nil]; omega)), if_pos (by first | omega | (simp only [List.length_append, List.length_cons, List.length_nil]; omega)), List.append_assoc, List.singleton_append, ← e]
   exact h
theorem siText_at (L : List S41) (hg : goodB L = true) (K : Nat) (hK : 100 < K) : spec_siText.f K L = some (mkB (textL L)) := by
 unfold spec_siText.f
 cases L with
 | nil => rfl
 | cons x L =>
  rw [if_neg (by simp only [List.length_cons]; omega)]
  have h := siText_l0 (x :: L) hg (x :: L).length 0 (Nat.zero_add _) K (by have := good_len hg; omega)
  exact h
theorem tl_data (a : ByteArray) : a.toList = a.data.toList := Lib.toList_data a
theorem idx_app (c : UInt8) : ∀ (A B : List UInt8), c ∉ A → Lib.index (A ++ c :: B) [c] = A.length
 | [], B, _ => by simp [Lib.index, List.isPrefixOf]
 | a :: A, B, h => by
  have h1 : c ≠ a := fun e => h (by simp [e])
  have ih := idx_app c A B (fun hh => h (by simp [hh]))
  rw [List.cons_append, Lib.index, ih]
  rw [if_neg (by simp [List.isPrefixOf, h1]), if_neg (by first | (simp; done) | (simp; omega)), List.length_cons]
  omega
theorem dig_toNat {n : Nat} (h : n < 10) : (UInt8.ofNat (48 + n)).toNat = 48 + n := by
 simp; omega
theorem dd_mem {n : Nat} (h : n < 100) (b : UInt8) (hb : b ∈ Lib.decDigits n) : 48 ≤ b.toNat ∧ b.toNat ≤ 57 := by
 by_cases h1 : n < 10
 ·rw [dd_one h1] at hb
  rw [List.mem_singleton.1 hb, dig_toNat h1]; omega
 ·rw [dd_two h1, dd_one (by omega)] at hb
  rcases List.mem_append.1 hb with hb | hb
  ·rw [List.mem_singleton.1 hb, dig_toNat (by omega)]; omega
  ·rw [List.mem_singleton.1 hb, dig_toNat (by omega)]; omega
theorem not_in {c b : UInt8} {n : Nat} (h : n < 100) (hc : ¬ (48 ≤ c.toNat ∧ c.toNat ≤ 57)) : c ∉ Lib.decDigits n := fun hb => hc (dd_mem h c hb)
def okR (x : S41) : Prop := 2 ≤ x.f0 ∧ x.f0 ≤ 60 ∧ 0 ≤ x.f1 ∧ x.f1 < x.f0
theorem one_no (c : UInt8) (h1 : ¬ (48 ≤ c.toNat ∧ c.toNat ≤ 57)) (h2 : c ≠ 58) {x : S41} (hx : okR x) : c ∉ oneL x := by
 obtain ⟨a1, a2, a3, a4⟩ := hx
 unfold oneL
 intro h
 rcases List.mem_append.1 h with h | h
 ·exact not_in (b := c) (by omega) h1 h
 ·rcases List.mem_cons.1 h with h | h
  ·exact h2 h
  ·exact not_in (b := c) (by omega) h1 h
theorem split_tail : ∀ (L : List S41) (w : List UInt8), 44 ∉ w → (∀ x ∈ L, okR x) → Lib.splitK [44] 0 L.length (w ++ tailL L) = w :: L.map oneL
 | [], w, _, _ => by simp [Lib.splitK, tailL]
 | x :: L, w, hw, h => by
  have hx := one_no 44 (by decide) (by decide) (h x (by simp))
  have ih := split_tail L (oneL x) hx (fun y hy => h y (by simp [hy]))
  have hi := idx_app 44 w (oneL x ++ tailL L) hw
  rw [List.length_cons, show tailL (x :: L) = 44 :: (oneL x ++ tailL L) from rfl, Lib.splitK, hi, if_neg (by first | (simp; done) | (simp; omega))]
  rw [show ((w.length : Int)).toNat = w.length from Int.toNat_natCast _, Nat.add_zero, List.take_left, show w.length + ([44] : List UInt8).length = (w ++ [44]).length from by simp, show w ++ 44 :: (oneL x ++ tailL L) = (w ++ [44]) ++ (oneL x ++ tailL L) from by simp, List.drop_left, ih]
  rfl
theorem count_tail : ∀ (L : List S41) (w : List UInt8), 44 ∉ w → (∀ x ∈ L, okR x) → (w ++ tailL L).count 44 = L.length
 | [], w, hw, _ => by simp [tailL, List.count_eq_zero.2 hw]
 | x :: L, w, hw, h => by
  have hx := one_no 44 (by decide) (by decide) (h x (by simp))
  have ih := count_tail L (oneL x) hx (fun y hy => h y (by simp [hy]))
  rw [show tailL (x :: L) = 44 :: (oneL x ++ tailL L) from rfl, List.count_append, List.count_cons_self, ih, List.count_eq_zero.2 hw, List.length_cons]
  omega
theorem split_text (s : ByteArray) (x : S41) (L : List S41) (hs : s.data.toList = textL (x :: L)) (h : ∀ y ∈ x :: L, okR y) : (Lib.splitB ⟨#[44]⟩ 0 (Lib.countB s ⟨#[44]⟩) s).map (·.data.toList) = (x :: L).map oneL := by
 have h1 := one_no 44 (by decide) (by decide) (h x (by simp))
 have hc : Lib.countB s ⟨#[44]⟩ = L.length := by
  show Lib.count s.data.toList [44] = L.length
  rw [Lib.count_one, hs]
  exact count_tail L (oneL x) h1 (fun y hy => h y (by simp [hy]))
 rw [Lib.splitB_data, hc, hs]
 exact split_tail L (oneL x) h1 (fun y hy => h y (by simp [hy]))
theorem cut_one {x : S41} (hx : okR x) : Lib.cut (oneL x) [58] = (Lib.decDigits x.f0.toNat, Lib.decDigits x.f1.toNat, true) := by
 obtain ⟨a1, a2, a3, a4⟩ := hx
 have hn : (58 : UInt8) ∉ Lib.decDigits x.f0.toNat := not_in (b := 58) (by omega) (by decide)
 have hi := idx_app 58 (Lib.decDigits x.f0.toNat) (Lib.decDigits x.f1.toNat) hn
 unfold Lib.cut oneL
 rw [hi, if_pos (by omega), Int.toNat_natCast, List.take_left, show (Lib.decDigits x.f0.toNat).length + ([58] : List UInt8).length = (Lib.decDigits x.f0.toNat ++ [58]).length from by simp, show Lib.decDigits x.f0.toNat ++ 58 :: Lib.decDigits x.f1.toNat = (Lib.decDigits x.f0.toNat ++ [58]) ++ Lib.decDigits x.f1.toNat from by simp, List.drop_left]
theorem atoi_one : ∀ a : Fin 10, Lib.atoiAll [UInt8.ofNat (48 + a.val)] = .ok (a.val : Int) := by decide
theorem atoi_two : ∀ a b : Fin 10, Lib.atoiAll [UInt8.ofNat (48 + a.val), UInt8.ofNat (48 + b.val)] = .ok ((10 * a.val + b.val : Nat) : Int) := by decide
theorem atoi_dd {n : Nat} (h : n < 100) : Lib.atoiAll (Lib.decDigits n) = .ok (n : Int) := by
 by_cases h1 : n < 10
 ·rw [dd_one h1]; exact atoi_one ⟨n, h1⟩
 ·rw [dd_two h1, dd_one (by omega)]
  have := atoi_two ⟨n / 10, by omega⟩ ⟨n % 10, by omega⟩
  rw [show 10 * (n / 10) + n % 10 = n from by omega] at this
  exact this
def wordZ (w : List UInt8) : Option S41 :=
  match Lib.atoiAll (Lib.cut w [58]).1, Lib.atoiAll (Lib.cut w [58]).2.1 with
  | .ok a, .ok b => some ⟨a, b⟩
  | _, _ => none
def wordsZ : List (List UInt8) → List S41 → Option (List S41)
  | [], acc => some acc
  | w :: ws, acc => match wordZ w with
    | some x => wordsZ ws (acc ++ [x])
    | none => none
theorem wordZ_one {x : S41} (hx : okR x) : wordZ (oneL x) = some x := by
 unfold wordZ
 obtain ⟨a1, a2, a3, a4⟩ := hx
 rw [cut_one ⟨a1, a2, a3, a4⟩]
 simp only []
 rw [atoi_dd (by omega), atoi_dd (by omega)]
 simp only []
 rw [show ((x.f0.toNat : Nat) : Int) = x.f0 from by omega, show ((x.f1.toNat : Nat) : Int) = x.f1 from by omega]
theorem wordsZ_all : ∀ (L acc : List S41), (∀ x ∈ L, okR x) → wordsZ (L.map oneL) acc = some (acc ++ L)
 | [], acc, _ => by simp [wordsZ]
 | x :: L, acc, h => by
  rw [List.map_cons, wordsZ, wordZ_one (h x (by simp))]
  simp only []
  rw [wordsZ_all L (acc ++ [x]) (fun y hy => h y (by simp [hy]))]
  simp
theorem index_room1 (w : List UInt8) : (Lib.cut w [58]).1.length ≤ w.length ∧ (Lib.cut w [58]).2.1.length ≤ w.length := by
 unfold Lib.cut
 split
 ·exact ⟨by rw [List.length_take]; omega, by rw [List.length_drop]; omega⟩
 ·exact ⟨Nat.le_refl _, by simp⟩
def ansZ (s : List UInt8) (R : Option (List S41)) : List S41 × Bool :=
  match R with
  | some R => if goodB R = true ∧ textL R = s then (R, true) else ([], false)
  | none => ([], false)
theorem pj1_at (s : ByteArray) (R : List S41) (K : Nat) (hK : 200 < K) : impl_ParseRules.j1 K s R = some (ansZ s.data.toList (some R)) := by
 obtain ⟨K, rfl⟩ : ∃ k, K = k + 1 := ⟨K - 1, by omega⟩
 unfold ansZ
 simp only [impl_ParseRules.j1]
 rw [areRules_at]
 simp only [bs_]
 by_cases hg : goodB R = true
 ·rw [if_pos hg, rulesText_at R hg K (by omega)]
  simp only [bs_]
  rw [tl_data, tl_data, bl_mk]
  by_cases he : textL R = s.data.toList
  ·rw [if_pos he, if_pos ⟨hg, he⟩]
  ·rw [if_neg he, if_neg (fun h => he h.2)]
 ·rw [if_neg hg, if_neg (fun h => hg h.1)]
theorem drop_rdS (xs : List ByteArray) (i : Nat) (h : i < xs.length) : xs.drop i = rdOf ByteArray.empty xs (i : Int) :: xs.drop (i + 1) := by
 rw [List.drop_eq_getElem_cons h]
 simp [rdOf, List.getD, h]
theorem pl0_at (s : ByteArray) (W : List ByteArray) (hW : W.length ≤ 2000000) (hw : ∀ w ∈ W, w.size ≤ 2000000) : ∀ (d i : Nat) (acc : List S41), i + d = W.length → acc.length ≤ i → ∀ K, 300 + d < K →
  impl_ParseRules.l0 K s acc W W.length i = some (ansZ s.data.toList (wordsZ ((W.drop i).map (·.data.toList)) acc)) := by
 intro d
 induction d with
 | zero =>
  intro i acc hi ha K hK
  obtain ⟨K, rfl⟩ : ∃ k, K = k + 1 := ⟨K - 1, by omega⟩
  have hc : ¬ (i : Int) < (W.length : Int) := by omega
  simp only [impl_ParseRules.l0]
  rw [if_neg hc, List.drop_of_length_le (by omega), pj1_at s acc K (by omega)]
  rfl
 | succ d ih =>
  intro i acc hi ha K hK
  obtain ⟨K, rfl⟩ : ∃ k, K = k + 1 := ⟨K - 1, by omega⟩
  have hc : (i : Int) < (W.length : Int) := by omega
  have hi0 : (0 : Int) ≤ (i : Int) := by omega
  have hwm : rdOf ByteArray.empty W (i : Int) ∈ W := by
   have hlt : i < W.length := by omega
   simp [rdOf, List.getD, hlt]
  have hsz := hw _ hwm
  obtain ⟨w, hwe⟩ : ∃ w, w = rdOf ByteArray.empty W (i : Int) := ⟨_, rfl⟩
  rw [drop_rdS W i (by omega), ← hwe, List.map_cons, wordsZ]
  rw [← hwe] at hsz
  obtain ⟨r1, r2⟩ := index_room1 w.data.toList
  rw [bl_size] at hsz
  simp only [impl_ParseRules.l0]
  rw [if_pos hc, if_pos hi0, if_pos hc, ← hwe]
  unfold strings_Cut.f
  rw [show (ByteArray.mk #[58]).data.toList = [58] from rfl, if_pos (by rw [bl_size]; omega)]
  simp only [bs_]
  have m1 : (ByteArray.mk (Lib.cut w.data.toList [58]).1.toArray) = mkB (Lib.cut w.data.toList [58]).1 := rfl
  have m2 : (ByteArray.mk (Lib.cut w.data.toList [58]).2.1.toArray) = mkB (Lib.cut w.data.toList [58]).2.1 := rfl
  rw [m1, m2]
  unfold strconv_Atoi.f wordZ
  rw [mk_size, mk_size, bl_mk, bl_mk, if_pos (by omega), if_pos (by omega)]
  have hacc : acc.length < 8796093022208 := by omega
  have hw1 : wrap64 ((i : Int) + 1) = ((i + 1 : Nat) : Int) := by rw [w64 (by omega) (by omega)]; omega
  cases h1 : Lib.atoiAll (Lib.cut w.data.toList [58]).1 with
  | ok a =>
   simp only [bs_]
   cases h2 : Lib.atoiAll (Lib.cut w.data.toList [58]).2.1 with
   | ok b =>
    simp only [bs_]
    rw [if_pos (by rfl), if_pos (by rfl), if_pos hacc, hw1]
    exact ih (i + 1) (acc ++ [⟨a, b⟩]) (by omega) (by rw [List.length_append, List.length_singleton]; omega) K (by omega)
   | _ =>
    simp only [bs_]
    rw [if_pos (by rfl), if_neg (by simp)]
    rfl
  | _ =>
   cases h2 : Lib.atoiAll (Lib.cut w.data.toList [58]).2.1 <;>
   ·simp only [bs_]
    rw [if_neg (by simp)]
    rfl
theorem splitB_sizes (sep : ByteArray) (save : Nat) (hs : save = 0) : ∀ (k : Nat) (s w : ByteArray), w ∈ Lib.splitB sep save k s → w.size ≤ s.size
 | 0, s, w, h => by
  rw [Lib.splitB_zero] at h
  rw [List.mem_singleton.1 h]
  exact Nat.le_refl _
 | k + 1, s, w, h => by
  unfold Lib.splitB at h
  split at h
  ·rw [List.mem_singleton.1 h]
   exact Nat.le_refl _
  ·rcases List.mem_cons.1 h with rfl | h
   ·rw [bl_size, bl_size, Lib.extract_from_zero, List.length_take]; omega
   ·have := splitB_sizes sep save hs k _ w h
    rw [bl_size (s.extract _ _), Lib.extract_to_end, List.length_drop] at this
    rw [bl_size s]
    omega
def implZ (s : ByteArray) : List S41 × Bool :=
  if s.data.toList = [45] then ([], true) else ansZ s.data.toList (wordsZ ((Lib.splitB ⟨#[44]⟩ 0 (Lib.countB s ⟨#[44]⟩) s).map (·.data.toList)) [])
theorem implZ_at (s : ByteArray) (hs : s.size ≤ 1048576) (K : Nat) (hK : 2000000 < K) : impl_ParseRules.f K s = some (implZ s) := by
 unfold impl_ParseRules.f implZ
 simp only [bs_]
 rw [tl_data]
 by_cases h : s.data.toList = [45]
 ·rw [if_pos h, if_pos h, pj1_at s [] K (by omega), h]
  rfl
 ·have hc := Lib.countB_le ⟨#[44]⟩ (by decide) _ s (Nat.le_refl _)
  have hl := Lib.splitB_length_le ⟨#[44]⟩ 0 (Lib.countB s ⟨#[44]⟩) s
  rw [if_neg h, if_neg h]
  unfold strings_Split.f
  rw [if_pos (by omega), if_pos (by decide)]
  simp only [bs_]
  have hp := pl0_at s (Lib.splitB ⟨#[44]⟩ 0 (Lib.countB s ⟨#[44]⟩) s) (by omega) (fun w hw => by have := splitB_sizes ⟨#[44]⟩ 0 rfl _ s w hw; omega) _ 0 [] (Nat.zero_add _) (by simp) K (by omega)
  rw [List.drop_zero] at hp
  exact hp
theorem good_ok {R : List S41} (hg : goodB R = true) : ∀ x ∈ R, okR x := fun x hx => good_mem hg x hx
theorem implZ_yes (s : ByteArray) (R : List S41) (hg : goodB R = true) (h : textL R = s.data.toList) : implZ s = (R, true) := by
 unfold implZ
 cases R with
 | nil => exact if_pos h.symm
 | cons x R =>
  have hok := good_ok hg
  have hl := one_len (hok x (by simp))
  rw [if_neg (by
   intro e
   rw [← h] at e
   have := congrArg List.length e
   rw [show textL (x :: R) = oneL x ++ tailL R from rfl, List.length_append, List.length_singleton] at this
   omega), split_text s x R h.symm hok, wordsZ_all _ _ hok, List.nil_append]
  unfold ansZ
  simp only []
  rw [if_pos ⟨hg, h⟩]
def spZ : List UInt8 → List S41 → Int → Int → List S41
  | [], out, n, e => out ++ [⟨e, n⟩]
  | b :: bs, out, n, e => if b.toNat = 44 then spZ bs (out ++ [⟨e, n⟩]) 0 0 else if b.toNat = 58 then spZ bs out 0 n else if 48 ≤ b.toNat ∧ b.toNat ≤ 57 then spZ bs out (if 1000 < 10 * n + ((b.toNat : Int) - 48) then 1000 else 10 * n + ((b.toNat : Int) - 48)) e else spZ bs out n e
theorem spZ_digit (b : UInt8) (h : 48 ≤ b.toNat ∧ b.toNat ≤ 57) (bs : List UInt8) (out : List S41) (n e : Int) (hn : 10 * n + ((b.toNat : Int) - 48) ≤ 1000) : spZ (b :: bs) out n e = spZ bs out (10 * n + ((b.toNat : Int) - 48)) e := by
 rw [spZ, if_neg (by omega), if_neg (by omega), if_pos h, if_neg (by omega)]
theorem spZ_dd {k : Nat} (h : k < 100) (T : List UInt8) (out : List S41) (e : Int) : spZ (Lib.decDigits k ++ T) out 0 e = spZ T out k e := by
 by_cases h1 : k < 10
 ·rw [dd_one h1, List.singleton_append, spZ_digit _ (by rw [dig_toNat h1]; omega) _ _ _ _ (by rw [dig_toNat h1]; omega), dig_toNat h1]
  congr 1
  omega
 ·have d1 : k / 10 < 10 := by omega
  have d2 : k % 10 < 10 := by omega
  rw [dd_two h1, dd_one d1, List.append_assoc, List.singleton_append, List.singleton_append, spZ_digit _ (by rw [dig_toNat d1]; omega) _ _ _ _ (by rw [dig_toNat d1]; omega), dig_toNat d1, spZ_digit _ (by rw [dig_toNat d2]; omega) _ _ _ _ (by rw [dig_toNat d2]; omega), dig_toNat d2]
  congr 1
  omega
theorem spZ_one {x : S41} (hx : okR x) (T : List UInt8) (out : List S41) : spZ (oneL x ++ T) out 0 0 = spZ T out x.f1 x.f0 := by
 obtain ⟨a1, a2, a3, a4⟩ := hx
 unfold oneL
 rw [List.append_assoc, spZ_dd (by omega), List.cons_append, spZ, if_neg (by decide), if_pos (by decide), spZ_dd (by omega)]
 congr 1 <;> omega
theorem spZ_tail : ∀ (L : List S41) (x : S41) (out : List S41), okR x → (∀ y ∈ L, okR y) → spZ (oneL x ++ tailL L) out 0 0 = out ++ x :: L
 | [], x, out, hx, _ => by
  rw [spZ_one hx]
  rfl
 | y :: L, x, out, hx, h => by
  rw [spZ_one hx, show tailL (y :: L) = 44 :: (oneL y ++ tailL L) from rfl, spZ, if_pos (by decide), spZ_tail L y _ (h y (by simp)) (fun z hz => h z (by simp [hz]))]
  simp
def specZ (s : ByteArray) : List S41 × Bool :=
  if s.data.toList = [45] then ([], true) else if 72 < s.size then ([], false) else ansZ s.data.toList (some (spZ s.data.toList [] 0 0))
theorem text_len {R : List S41} (hg : goodB R = true) : (textL R).length ≤ 72 := by
 have hl := good_len hg
 have hok := good_ok hg
 cases R with
 | nil => decide
 | cons x R =>
  have h1 := one_len (hok x (by simp))
  have h2 := tail_len R (fun y hy => hok y (by simp [hy]))
  rw [show textL (x :: R) = oneL x ++ tailL R from rfl, List.length_append]
  rw [List.length_cons] at hl
  omega
theorem specZ_yes (s : ByteArray) (R : List S41) (hg : goodB R = true) (h : textL R = s.data.toList) : specZ s = (R, true) := by
 unfold specZ
 have htl := text_len hg
 rw [h, ← bl_size] at htl
 cases R with
 | nil => exact if_pos h.symm
 | cons x R =>
  have hok := good_ok hg
  have hl := one_len (hok x (by simp))
  rw [if_neg (by
   intro e
   rw [← h] at e
   have := congrArg List.length e
   rw [show textL (x :: R) = oneL x ++ tailL R from rfl, List.length_append, List.length_singleton] at this
   omega), if_neg (by omega), ← h, show textL (x :: R) = oneL x ++ tailL R from rfl, spZ_tail R x [] (hok x (by simp)) (fun y hy => hok y (by simp [hy])), List.nil_append]
  unfold ansZ
  simp only []
  rw [if_pos ⟨hg, rfl⟩]
theorem ansZ_yes {s : List UInt8} {R : Option (List S41)} {Q : List S41} (h : ansZ s R = (Q, true)) : goodB Q = true ∧ textL Q = s := by
 unfold ansZ at h
 split at h
 ·split at h
  ·rename_i hh
   simp only [Prod.mk.injEq] at h
   rw [← h.1]
   exact hh
  ·simp at h
 ·simp at h
theorem ansZ_no {s : List UInt8} {R : Option (List S41)} {Q : List S41} (h : ansZ s R = (Q, false)) : Q = [] := by
 unfold ansZ at h
 split at h
 ·split at h
  ·simp at h
  ·simp only [Prod.mk.injEq] at h
   exact h.1.symm
 ·simp only [Prod.mk.injEq] at h
  exact h.1.symm
theorem implZ_inv (s : ByteArray) (Q : List S41) (h : implZ s = (Q, true)) : goodB Q = true ∧ textL Q = s.data.toList := by
 unfold implZ at h
 split at h
 ·rename_i hs
  simp only [Prod.mk.injEq] at h
  rw [← h.1, hs]
  exact ⟨by decide, rfl⟩
 ·exact ansZ_yes h
theorem specZ_inv (s : ByteArray) (Q : List S41) (h : specZ s = (Q, true)) : goodB Q = true ∧ textL Q = s.data.toList := by
 unfold specZ at h
 split at h
 ·rename_i hs
  simp only [Prod.mk.injEq] at h
  rw [← h.1, hs]
  exact ⟨by decide, rfl⟩
 ·split at h
  ·simp at h
  ·exact ansZ_yes h
theorem parse_same (s : ByteArray) : implZ s = specZ s := by
 cases hi : implZ s with
 | mk Q b =>
  cases b with
  | true =>
   obtain ⟨h1, h2⟩ := implZ_inv s Q hi
   rw [specZ_yes s Q h1 h2]
  | false =>
   have hq : Q = [] := by
    unfold implZ at hi
    split at hi
    ·simp at hi
    ·exact ansZ_no hi
   cases hs : specZ s with
   | mk Q2 b2 =>
    cases b2 with
    | true =>
     obtain ⟨h1, h2⟩ := specZ_inv s Q2 hs
     rw [implZ_yes s Q2 h1 h2] at hi
     simp at hi
    | false =>
     have hq2 : Q2 = [] := by
      unfold specZ at hs
      split at hs
      ·simp at hs
      ·split at hs
       ·simp only [Prod.mk.injEq] at hs
        exact hs.1.symm
       ·exact ansZ_no hs
     rw [hq, hq2]
theorem bt_at_ (s : ByteArray) (i : Nat) (h : i < s.data.toList.length) : bt s (i : Int) = ((s.data.toList[i]).toNat : Int) := by
 have h2 : i < s.size := by rw [bl_size]; exact h
 unfold bt
 rw [dif_pos (by simpa using h2)]
 rfl
theorem least_at (m : Int) : spec_l1Least.f 1000 m = some (if 1000 < m then 1000 else m) := by
 unfold spec_l1Least.f
 split <;> rfl
theorem sp_l0 (s : ByteArray) (hs : s.size ≤ 72) : ∀ (d i : Nat) (out : List S41) (n e : Int), i + d = s.size → out.length ≤ i → 0 ≤ n → n ≤ 1000 → 0 ≤ e → e ≤ 1000 → ∀ K, 400 + 2 * d < K →
  spec_siParse.l0 K s out n e i = some (spZ (s.data.toList.drop i) out n e, decide (goodB (spZ (s.data.toList.drop i) out n e) = true ∧ textL (spZ (s.data.toList.drop i) out n e) = s.data.toList)) := by
 intro d
 induction d with
 | zero =>
  intro i out n e hi ho h0 h1 h2 h3 K hK
  obtain ⟨K, rfl⟩ : ∃ k, K = k + 1 := ⟨K - 1, by omega⟩
  obtain ⟨K, rfl⟩ : ∃ k, K = k + 1 := ⟨K - 1, by omega⟩
  obtain ⟨K, rfl⟩ : ∃ k, K = k + 1 := ⟨K - 1, by omega⟩
  have c1 : (i : Int) ≤ (s.size : Int) := by omega
  have c2 : (i : Int) = (s.size : Int) := by omega
  have c3 : ¬ (wrap64 ((i : Int) + 1) ≤ (s.size : Int)) := by rw [w64 (by omega) (by omega)]; omega
  have c4 : out.length < 8796093022208 := by omega
  have hd : s.data.toList.drop i = [] := List.drop_of_length_le (by rw [← bl_size]; omega)
  rw [hd]
  simp only [spec_siParse.l0, spec_siParse.j1]
  rw [if_pos c1, if_pos c2, if_pos trivial, if_pos c4, if_neg c3, siGood_at _ K (by omega)]
  simp only [bs_]
  show _ = some (out ++ [⟨e, n⟩], decide (goodB (out ++ [⟨e, n⟩]) = true ∧ textL (out ++ [⟨e, n⟩]) = s.data.toList))
  by_cases hg : goodB (out ++ [⟨e, n⟩]) = true
  ·rw [if_pos hg, siText_at _ hg K (by omega)]
   simp only [bs_]
   rw [tl_data, tl_data, bl_mk]
   by_cases ht : textL (out ++ [⟨e, n⟩]) = s.data.toList
   ·rw [ht]; simp [hg]
   ·simp [hg, ht]
  ·rw [if_neg hg]; simp [hg]
 | succ d ih =>
  intro i out n e hi ho h0 h1 h2 h3 K hK
  obtain ⟨K, rfl⟩ : ∃ k, K = k + 1 := ⟨K - 1, by omega⟩
  obtain ⟨K, rfl⟩ : ∃ k, K = k + 1 := ⟨K - 1, by omega⟩
  have c1 : (i : Int) ≤ (s.size : Int) := by omega
  have c2 : ¬ (i : Int) = (s.size : Int) := by omega
  have c0 : (0 : Int) ≤ (i : Int) := by omega
  have c5 : (i : Int) < (s.size : Int) := by omega
  have c4 : out.length < 8796093022208 := by omega
  have hlt : i < s.data.toList.length := by rw [← bl_size]; omega
  have hw : wrap64 ((i : Int) + 1) = ((i + 1 : Nat) : Int) := by rw [w64 (by omega) (by omega)]; omega
  have hb := bt_at_ s i hlt
  have hd := List.drop_eq_getElem_cons hlt
  obtain ⟨b, hbe⟩ : ∃ b, b = s.data.toList[i] := ⟨_, rfl⟩
  rw [← hbe] at hb hd
  have hbl : b.toNat < 256 := b.toNat_lt
  rw [hd]
  simp only [spec_siParse.l0, spec_siParse.j1]
  rw [if_pos c1, if_neg c2, if_pos c0, if_pos c5, if_pos c0, if_pos c5, hb, hw]
  by_cases b44 : b.toNat = 44
  ·have e1 : spZ (b :: s.data.toList.drop (i + 1)) out n e = spZ (s.data.toList.drop (i + 1)) (out ++ [⟨e, n⟩]) 0 0 := by rw [spZ, if_pos b44]
   rw [if_pos (by rw [b44]; rfl), if_pos c4, e1]
   exact ih (i + 1) (out ++ [⟨e, n⟩]) 0 0 (by omega) (by rw [List.length_append, List.length_singleton]; omega) (by omega) (by omega) (by omega) (by omega) K (by omega)
  ·have n44 : ¬ (((b.toNat : Int) == 44) = true) := by simp; omega
   rw [if_neg n44]
   by_cases b58 : b.toNat = 58
   ·have e1 : spZ (b :: s.data.toList.drop (i + 1)) out n e = spZ (s.data.toList.drop (i + 1)) out 0 n := by rw [spZ, if_neg b44, if_pos b58]
    rw [if_pos (by omega), e1]
    exact ih (i + 1) out 0 n (by omega) (by omega) (by omega) (by omega) (by omega) (by omega) K (by omega)
   ·rw [if_neg (by omega)]
    by_cases bd : 48 ≤ b.toNat ∧ b.toNat ≤ 57
    ·have e1 : spZ (b :: s.data.toList.drop (i + 1)) out n e = spZ (s.data.toList.drop (i + 1)) out (if 1000 < 10 * n + ((b.toNat : Int) - 48) then 1000 else 10 * n + ((b.toNat : Int) - 48)) e := by rw [spZ, if_neg b44, if_neg b58, if_pos bd]
     have e2 : ((b.toNat : Int) - 48) % 256 = (b.toNat : Int) - 48 := by omega
     rw [if_pos (by omega), if_pos (by omega), e2, w64 (x := 10 * n) (by omega) (by omega), w64 (by omega) (by omega), least_at, e1]
     simp only [bs_]
     exact ih (i + 1) out _ e (by omega) (by omega) (by split <;> omega) (by split <;> omega) (by omega) (by omega) K (by omega)
    ·have e1 : spZ (b :: s.data.toList.drop (i + 1)) out n e = spZ (s.data.toList.drop (i + 1)) out n e := by rw [spZ, if_neg b44, if_neg b58, if_neg bd]
     have hr := ih (i + 1) out n e (by omega) (by omega) h0 h1 h2 h3 K (by omega)
     rw [e1]
     by_cases b48 : (b.toNat : Int) ≥ 48
     ·rw [if_pos b48, if_neg (by omega)]
      exact hr
     ·rw [if_neg b48]
      exact hr
theorem specZ_at (s : ByteArray) (K : Nat) (hK : 1000 < K) : spec_ParseRules.f K s = some (specZ s) := by
 unfold spec_ParseRules.f spec_siParse.f specZ
 rw [tl_data]
 by_cases h : s.data.toList = [45]
 ·rw [if_pos h, if_pos h]; rfl
 ·rw [if_neg h, if_neg h]
  by_cases h72 : 72 < s.size
  ·rw [if_pos (by omega), if_pos h72]; rfl
  ·have hp := sp_l0 s (by omega) s.size 0 [] 0 0 (Nat.zero_add _) (by simp) (by omega) (by omega) (by omega) (by omega) K (by omega)
   have hp' : spec_siParse.l0 K s [] 0 0 0 = _ := hp
   rw [if_neg (by omega), if_neg h72, hp', List.drop_zero]
   simp only [bs_]
   unfold ansZ
   simp only []
   by_cases hh : goodB (spZ s.data.toList [] 0 0) = true ∧ textL (spZ s.data.toList [] 0 0) = s.data.toList
   ·rw [decide_eq_true hh, if_pos rfl, if_pos hh]
   ·rw [decide_eq_false hh, if_neg (by simp), if_neg hh]
theorem parse_at (s : ByteArray) (hs : s.size ≤ 1048576) (K : Nat) (hK : 2000000 < K) : spec_ParseRules.f K s = some (specZ s) ∧ impl_ParseRules.f K s = some (specZ s) :=
 ⟨specZ_at s K (by omega), by rw [implZ_at s hs K hK, parse_same]⟩
theorem spec_len (s : ByteArray) : (specZ s).1.length ≤ 100 := by
 cases h : specZ s with
 | mk Q b =>
  cases b with
  | true =>
   have := good_len (specZ_inv s Q h).1
   show Q.length ≤ 100
   omega
  | false =>
   unfold specZ at h
   split at h
   ·simp at h
   ·split at h
    ·simp only [Prod.mk.injEq] at h; rw [← h.1]; simp
    ·rw [ansZ_no h]; simp
def rtV (L : List S41) : ByteArray × Bool := if goodB L = true then (mkB (textL L), true) else (⟨#[]⟩, false)
theorem rt_at (L : List S41) (K : Nat) (hK : 200 < K) : spec_RulesText.f K L = some (rtV L) ∧ impl_RulesText.f K L = some (rtV L) := by
 unfold spec_RulesText.f impl_RulesText.f rtV
 rw [siGood_at L K (by omega), areRules_at]
 simp only [bs_]
 by_cases hg : goodB L = true
 ·rw [if_pos hg, if_pos hg, if_pos hg, siText_at L hg K (by omega), rulesText_at L hg K (by omega)]
  exact ⟨rfl, rfl⟩
 ·rw [if_neg hg, if_neg hg, if_neg hg]
  exact ⟨rfl, rfl⟩
def newX (x : S41) : S41 := ⟨x.f0, modZ (wrap64 (-x.f1)) x.f0⟩
theorem mapX_l0 (L : List S41) (hg : goodB L = true) : ∀ (d i : Nat) (acc : List S41), i + d = L.length → acc.length ≤ i →
  ∀ K, d < K → spec_MirrorRules.l0 K acc L L.length i = some (acc ++ (L.drop i).map (newX), true) ∧ impl_MirrorRules.l0 K acc L L.length i = some (acc ++ (L.drop i).map (newX), true) := by
 have hl := good_len hg
 intro d
 induction d with
 | zero =>
  intro i acc hi ha K hK
  obtain ⟨K, rfl⟩ : ∃ k, K = k + 1 := ⟨K - 1, by omega⟩
  have hc : ¬ (i : Int) < (L.length : Int) := by omega
  simp only [spec_MirrorRules.l0, impl_MirrorRules.l0]
  rw [if_neg hc, if_neg hc, List.drop_of_length_le (by omega)]
  simp
 | succ d ih =>
  intro i acc hi ha K hK
  obtain ⟨K, rfl⟩ : ∃ k, K = k + 1 := ⟨K - 1, by omega⟩
  have hlt : (i : Int) < (L.length : Int) := by omega
  have hi0 : (0 : Int) ≤ (i : Int) := by omega
  have hd := drop_rdT L i (by omega)
  have hm : rd_T41 L (i : Int) ∈ L := List.mem_of_mem_drop (i := i) (by rw [hd]; simp)
  have h0 := good_mem hg _ hm
  have hne : (rd_T41 L (i : Int)).f0 ≠ 0 := by omega
  have h3 : acc.length < 8796093022208 := by omega
  have h4 := ih (i + 1) (acc ++ [newX (rd_T41 L (i : Int))]) (by omega) (by simp; omega) K (by omega)
  rw [show ((i + 1 : Nat) : Int) = (i : Int) + 1 from by omega] at h4
  simp only [spec_MirrorRules.l0, impl_MirrorRules.l0]
  rw [if_pos hlt, if_pos hlt, if_pos hi0, if_pos hi0, if_pos hlt, if_pos hlt, siRest_at _ _ hne, mod_at _ _ hne, w64 (x := (i : Int) + 1) (by omega) (by omega), hd]
  simp only [bs_]
  rw [if_pos h3, if_pos h3]
  have h5 : (⟨(rd_T41 L (i : Int)).f0, modZ (wrap64 (-(rd_T41 L (i : Int)).f1)) (rd_T41 L (i : Int)).f0⟩ : S41) = newX (rd_T41 L (i : Int)) := rfl
  rw [h5, h4.1, h4.2]
  simp
def mirV (L : List S41) : List S41 × Bool := if goodB L = true then (L.map newX, true) else ([], false)
theorem mirV_yes {L : List S41} (hg : goodB L = true) : mirV L = (L.map newX, true) := by unfold mirV; rw [if_pos hg]
theorem mirV_no {L : List S41} (hg : ¬ goodB L = true) : mirV L = ([], false) := by unfold mirV; rw [if_neg hg]
theorem mir_at (L : List S41) (K : Nat) (hK : 2000 < K) : spec_MirrorRules.f K L = some (mirV L) ∧ impl_MirrorRules.f K L = some (mirV L) := by
 unfold spec_MirrorRules.f impl_MirrorRules.f
 by_cases hg : goodB L = true
 ·have hl := good_len hg
  have h := mapX_l0 L hg L.length 0 [] (by omega) (by simp) K (by omega)
  rw [mirV_yes hg, siGood_at L K (by omega), areRules_at, hg]
  simp only [bs_]
  rw [if_pos trivial, if_pos trivial]
  simpa using h
 ·rw [mirV_no hg, siGood_at L K (by omega), areRules_at]
  exact ⟨by simp [hg], by simp [hg]⟩
def newM (by_ : Int) (x : S41) : S41 := ⟨x.f0, modZ (wrap64 (x.f1 + by_)) x.f0⟩
theorem mapM_l0 (by_ : Int) (L : List S41) (hg : goodB L = true) : ∀ (d i : Nat) (acc : List S41), i + d = L.length → acc.length ≤ i →
  ∀ K, d < K → spec_MoveRules.l0 K by_ acc L L.length i = some (acc ++ (L.drop i).map (newM by_), true) ∧ impl_MoveRules.l0 K by_ acc L L.length i = some (acc ++ (L.drop i).map (newM by_), true) := by
 have hl := good_len hg
 intro d
 induction d with
 | zero =>
  intro i acc hi ha K hK
  obtain ⟨K, rfl⟩ : ∃ k, K = k + 1 := ⟨K - 1, by omega⟩
  have hc : ¬ (i : Int) < (L.length : Int) := by omega
  simp only [spec_MoveRules.l0, impl_MoveRules.l0]
  rw [if_neg hc, if_neg hc, List.drop_of_length_le (by omega)]
  simp
 | succ d ih =>
  intro i acc hi ha K hK
  obtain ⟨K, rfl⟩ : ∃ k, K = k + 1 := ⟨K - 1, by omega⟩
  have hlt : (i : Int) < (L.length : Int) := by omega
  have hi0 : (0 : Int) ≤ (i : Int) := by omega
  have hd := drop_rdT L i (by omega)
  have hm : rd_T41 L (i : Int) ∈ L := List.mem_of_mem_drop (i := i) (by rw [hd]; simp)
  have h0 := good_mem hg _ hm
  have hne : (rd_T41 L (i : Int)).f0 ≠ 0 := by omega
  have h3 : acc.length < 8796093022208 := by omega
  have h4 := ih (i + 1) (acc ++ [newM by_ (rd_T41 L (i : Int))]) (by omega) (by simp; omega) K (by omega)
  rw [show ((i + 1 : Nat) : Int) = (i : Int) + 1 from by omega] at h4
  simp only [spec_MoveRules.l0, impl_MoveRules.l0]
  rw [if_pos hlt, if_pos hlt, if_pos hi0, if_pos hi0, if_pos hlt, if_pos hlt, siRest_at _ _ hne, mod_at _ _ hne, w64 (x := (i : Int) + 1) (by omega) (by omega), hd]
  simp only [bs_]
  rw [if_pos h3, if_pos h3]
  have h5 : (⟨(rd_T41 L (i : Int)).f0, modZ (wrap64 ((rd_T41 L (i : Int)).f1 + by_)) (rd_T41 L (i : Int)).f0⟩ : S41) = newM by_ (rd_T41 L (i : Int)) := rfl
  rw [h5, h4.1, h4.2]
  simp
def movV (L : List S41) (by_ : Int) : List S41 × Bool := if goodB L = true ∧ (-600 ≤ by_ ∧ by_ ≤ 600) then (L.map (newM by_), true) else ([], false)
theorem movV_yes {L : List S41} {by_ : Int} (hg : goodB L = true) (hn : -600 ≤ by_ ∧ by_ ≤ 600) : movV L by_ = (L.map (newM by_), true) := by unfold movV; rw [if_pos ⟨hg, hn⟩]
theorem movV_no {L : List S41} {by_ : Int} (h : ¬ (goodB L = true ∧ (-600 ≤ by_ ∧ by_ ≤ 600))) : movV L by_ = ([], false) := by unfold movV; rw [if_neg h]
theorem mov_at (L : List S41) (by_ : Int) (K : Nat) (hK : 2000 < K) : spec_MoveRules.f K L by_ = some (movV L by_) ∧ impl_MoveRules.f K L by_ = some (movV L by_) := by
 obtain ⟨K, rfl⟩ : ∃ k, K = k + 1 := ⟨K - 1, by omega⟩
 unfold spec_MoveRules.f impl_MoveRules.f
 by_cases hg : goodB L = true
 ·have hl := good_len hg
  by_cases hn : -600 ≤ by_ ∧ by_ ≤ 600
  ·have h := mapM_l0 by_ L hg L.length 0 [] (by omega) (by simp) K (by omega)
   rw [movV_yes hg hn, siGood_at L _ (by omega), areRules_at, siNumber_at, isNumber_at, hg, decide_eq_true hn]
   simp only [bs_, spec_MoveRules.j0, impl_MoveRules.j0]
   rw [if_pos trivial, if_pos trivial, if_neg (by simp), if_neg (by simp)]
   simpa using h
  ·rw [movV_no (fun h => hn h.2), siGood_at L _ (by omega), areRules_at, siNumber_at, isNumber_at, hg, decide_eq_false hn]
   simp only [bs_, spec_MoveRules.j0, impl_MoveRules.j0]
   exact ⟨by simp, by simp⟩
 ·rw [movV_no (fun h => hg h.1), siGood_at L _ (by omega), areRules_at]
  simp only [bs_, spec_MoveRules.j0, impl_MoveRules.j0]
  exact ⟨by simp [hg], by simp [hg]⟩
def perV (L : List S41) : Int × Bool := if goodB L = true ∧ perZ 1 L ≠ 0 then (perZ 1 L, true) else (0, false)
theorem perV_yes {L : List S41} (hg : goodB L = true) (h0 : perZ 1 L ≠ 0) : perV L = (perZ 1 L, true) := by unfold perV; rw [if_pos ⟨hg, h0⟩]
theorem perV_no {L : List S41} (h : ¬ (goodB L = true ∧ perZ 1 L ≠ 0)) : perV L = (0, false) := by unfold perV; rw [if_neg h]
theorem perR_at (L : List S41) (K : Nat) (hK : 2000 < K) : spec_PeriodOfRules.f K L = some (perV L) ∧ impl_PeriodOfRules.f K L = some (perV L) := by
 unfold spec_PeriodOfRules.f impl_PeriodOfRules.f
 rw [siGood_at L _ (by omega), periodOf_at L _ (by omega)]
 by_cases hg : goodB L = true
 ·have hl := good_len hg
  rw [(per_at L (by omega) (good_ev hg) K (by omega)).1]
  by_cases h0 : perZ 1 L = 0
  ·rw [perV_no (fun h => h.2 h0)]
   exact ⟨by simp [hg, h0], by simp [hg, h0]⟩
  ·rw [perV_yes hg h0]
   exact ⟨by simp [hg, h0], by simp [hg, h0]⟩
 ·rw [perV_no (fun h => hg h.1)]
  exact ⟨by simp [hg], by simp [hg]⟩
def dropV (L : List S41) : List S41 × Bool := if goodB L = true ∧ perZ 1 L ≠ 0 then (dropZ (perZ 1 L) L.length L, true) else ([], false)
theorem dropV_yes {L : List S41} (hg : goodB L = true) (h0 : perZ 1 L ≠ 0) : dropV L = (dropZ (perZ 1 L) L.length L, true) := by unfold dropV; rw [if_pos ⟨hg, h0⟩]
theorem dropV_no {L : List S41} (h : ¬ (goodB L = true ∧ perZ 1 L ≠ 0)) : dropV L = ([], false) := by unfold dropV; rw [if_neg h]
theorem dropR_at (L : List S41) (K : Nat) (hK : 2000000 < K) : spec_DropNeedless.f K L = some (dropV L) ∧ impl_DropNeedless.f K L = some (dropV L) := by
 obtain ⟨K, rfl⟩ : ∃ k, K = k + 1 := ⟨K - 1, by omega⟩
 unfold spec_DropNeedless.f impl_DropNeedless.f
 by_cases hg : goodB L = true
 ·have hl := good_len hg
  have hr := perZ_range L 1 (by omega) (by omega) (good_ev hg)
  by_cases h0 : perZ 1 L = 0
  ·rw [dropV_no (fun h => h.2 h0), siGood_at L _ (by omega), periodOf_at L _ (by omega), (per_at L (by omega) (good_ev hg) _ (by omega)).1]
   simp only [bs_, spec_DropNeedless.j0]
   exact ⟨by simp [hg, h0], by simp [hg, h0]⟩
  ·have h1 := (drop_l0 (perZ 1 L) hr.2 L.length L hg (by omega) K (by omega)).2
   have h2 := (drop_l0 (perZ 1 L) hr.2 L.length L hg (by omega) (K + 1) (by omega)).1
   have hbe : (perZ 1 L == 0) = false := beq_eq_false_iff_ne.2 h0
   have h3 : L.length < 8796093022208 := by omega
   have hand : goodB L = true ∧ perZ 1 L ≠ 0 := ⟨hg, h0⟩
   rw [dropV_yes hg h0, siGood_at L _ (by omega), periodOf_at L _ (by omega), (per_at L (by omega) (good_ev hg) _ (by omega)).1, if_pos hand]
   simp only [bs_, spec_DropNeedless.j0, List.nil_append, List.length_nil, Nat.zero_add]
   rw [if_pos hg, hbe, if_neg (show ¬ (false = true) by simp), (per_at L (by omega) (good_ev hg) _ (by omega)).1]
   simp only [bs_]
   rw [if_pos h3, if_pos trivial, if_pos h3, w64 (x := (L.length : Int) - 1) (by omega) (by omega)]
   exact ⟨h1, h2⟩
 ·rw [dropV_no (fun h => hg h.1), siGood_at L _ (by omega), periodOf_at L _ (by omega)]
  simp only [bs_, spec_DropNeedless.j0]
  exact ⟨by simp [hg], by simp [hg]⟩
def needV (L : List S41) : List Int × Bool := if goodB L = true ∧ perZ 1 L ≠ 0 then (ff (fun j => needB L j.toNat (perZ 1 L)) L.length 0, true) else ([], false)
theorem needV_yes {L : List S41} (hg : goodB L = true) (h0 : perZ 1 L ≠ 0) : needV L = (ff (fun j => needB L j.toNat (perZ 1 L)) L.length 0, true) := by unfold needV; rw [if_pos ⟨hg, h0⟩]
theorem needV_no {L : List S41} (h : ¬ (goodB L = true ∧ perZ 1 L ≠ 0)) : needV L = ([], false) := by unfold needV; rw [if_neg h]
theorem needR_at (L : List S41) (K : Nat) (hK : 2000000 < K) : spec_NeedlessRules.f K L = some (needV L) ∧ impl_NeedlessRules.f K L = some (needV L) := by
 obtain ⟨K, rfl⟩ : ∃ k, K = k + 1 := ⟨K - 1, by omega⟩
 unfold spec_NeedlessRules.f impl_NeedlessRules.f
 by_cases hg : goodB L = true
 ·have hl := good_len hg
  have hr := perZ_range L 1 (by omega) (by omega) (good_ev hg)
  by_cases h0 : perZ 1 L = 0
  ·rw [needV_no (fun h => h.2 h0), siGood_at L _ (by omega), periodOf_at L _ (by omega), (per_at L (by omega) (good_ev hg) _ (by omega)).1]
   simp only [bs_, spec_NeedlessRules.j0]
   exact ⟨by simp [hg, h0], by simp [hg, h0]⟩
  ·have h1 := (needs_l0 L hg (perZ 1 L) rfl hr.2 L.length 0 [] (by omega) (by simp) K (by omega)).2
   have h2 := (needs_l0 L hg (perZ 1 L) rfl hr.2 L.length 0 [] (by omega) (by simp) (K + 1) (by omega)).1
   have h1' : spec_NeedlessRules.l0 K L [] L.length 0 = _ := h1
   have h2' : impl_NeedlessRules.l0 (K + 1) L (perZ 1 L) [] L.length 0 = _ := h2
   have hbe : (perZ 1 L == 0) = false := beq_eq_false_iff_ne.2 h0
   have hand : goodB L = true ∧ perZ 1 L ≠ 0 := ⟨hg, h0⟩
   rw [needV_yes hg h0, siGood_at L _ (by omega), periodOf_at L _ (by omega), (per_at L (by omega) (good_ev hg) _ (by omega)).1, if_pos hand]
   simp only [bs_, spec_NeedlessRules.j0]
   rw [if_pos hg, hbe, if_neg (show ¬ (false = true) by simp), h1', if_pos trivial, h2']
   exact ⟨rfl, rfl⟩
 ·rw [needV_no (fun h => hg h.1), siGood_at L _ (by omega), periodOf_at L _ (by omega)]
  simp only [bs_, spec_NeedlessRules.j0]
  exact ⟨by simp [hg], by simp [hg]⟩
def lipV (L : List S41) : Int × Bool := if goodB L = true ∧ perZ 1 L ≠ 0 then (((ff (leftB L) (perZ 1 L).toNat 0).length : Int), true) else (0, false)
theorem lipV_yes {L : List S41} (hg : goodB L = true) (h0 : perZ 1 L ≠ 0) : lipV L = (((ff (leftB L) (perZ 1 L).toNat 0).length : Int), true) := by unfold lipV; rw [if_pos ⟨hg, h0⟩]
theorem lipV_no {L : List S41} (h : ¬ (goodB L = true ∧ perZ 1 L ≠ 0)) : lipV L = (0, false) := by unfold lipV; rw [if_neg h]
theorem lip_turn {L : List S41} (hg : goodB L = true) (h0 : perZ 1 L ≠ 0) : (ff (leftB L) (perZ 1 L).toNat 1).length = (ff (leftB L) (perZ 1 L).toNat 0).length := by
 have hr := perZ_range L 1 (by omega) (by omega) (good_ev hg)
 exact ff_turn (leftB L) (perZ 1 L).toNat (by rw [show (((perZ 1 L).toNat : Nat) : Int) = perZ 1 L from by omega]; exact left_end L hg h0)
theorem lip_at (L : List S41) (K : Nat) (hK : 2000000 < K) : spec_LeftInPeriod.f K L = some (lipV L) ∧ impl_LeftInPeriod.f K L = some (lipV L) := by
 obtain ⟨K, rfl⟩ : ∃ k, K = k + 1 := ⟨K - 1, by omega⟩
 unfold spec_LeftInPeriod.f impl_LeftInPeriod.f
 rw [siGood_at L _ (by omega), periodOf_at L _ (by omega)]
 simp only [bs_, spec_LeftInPeriod.j0]
 by_cases hg : goodB L = true
 ·have hl := good_len hg
  have hr := perZ_range L 1 (by omega) (by omega) (good_ev hg)
  rw [(per_at L (by omega) (good_ev hg) (K + 1) (by omega)).1]
  by_cases h0 : perZ 1 L = 0
  ·rw [lipV_no (fun h => h.2 h0)]
   exact ⟨by simp [hg, h0], by simp [hg, h0]⟩
  ·have hb := leftBetween_at L hg 1 (perZ 1 L) (by omega) (by omega) (by omega) (K + 1) (by omega)
   have hc := count_l0 L hg (perZ 1 L) rfl hr.2 100000 0 0 (by omega) (by omega) (by omega) (by omega) K (by omega)
   have ht := lip_turn hg h0
   rw [show perZ 1 L + 1 - 1 = perZ 1 L from by omega] at hb
   rw [show perZ 1 L - 0 = perZ 1 L from by omega] at hc
   have hbe : (perZ 1 L == 0) = false := beq_eq_false_iff_ne.2 h0
   have hand : goodB L = true ∧ perZ 1 L ≠ 0 := ⟨hg, h0⟩
   rw [lipV_yes hg h0]
   refine ⟨?_, ?_⟩
   ·rw [hg, if_pos rfl]
    simp only [bs_]
    rw [hbe, if_neg (show ¬ (false = true) by simp), hc]
    simp
   ·rw [if_pos hand, if_pos rfl, hb]
    simp only [bs_]
    rw [ht]
 ·rw [lipV_no (fun h => hg h.1)]
  exact ⟨by simp [hg], by simp [hg]⟩
theorem countI_at (L : List S41) (hg : goodB L = true) (hi : Int) (h2 : 0 ≤ hi ∧ hi ≤ 600) (K : Nat) (hK : 2000000 < K) : impl_CountLeft.f K L hi = some (((ff (leftB L) hi.toNat 1).length : Int), true) := by
 unfold impl_CountLeft.f
 have hb := leftBetween_at L hg 1 hi (by omega) (by omega) (by omega) K (by omega)
 rw [areRules_at, isMost_at, hg, decide_eq_true h2, hb, show hi + 1 - 1 = hi from by omega]
 rfl
theorem areI_at (L : List S41) : impl_AreRules.f L = some (goodB L) := by
 unfold impl_AreRules.f; rw [areRules_at]; rfl
theorem isLeftV_at (L : List S41) (hg : goodB L = true) (n : Int) (h : -600 ≤ n ∧ n ≤ 600) : impl_IsLeft.f L n = some (leftB L n, true) := by
 unfold impl_IsLeft.f
 rw [areRules_at, isNumber_at, hg, decide_eq_true h, isLeft_at n L hg]
 rfl
theorem same_l0 (a b : List S41) (ha : goodB a = true) (hb : goodB b = true) (P : Int) (hP : perZ 1 (a ++ b) = P) (hP2 : P ≤ 100000) : ∀ (d : Nat) (m : Int), 0 ≤ m → P - m ≤ d →
  ∃ v : Bool × Bool, (∀ K, 1001 + d < K → spec_AreSameSieve.l0 K a b (a ++ b) m = some v ∧ impl_AreSameSieve.l0 K a b P m = some v) ∧ ((∀ x, m ≤ x → x < P → leftB a x = leftB b x) → v = (true, true)) := by
 have hla := good_len ha
 have hlb := good_len hb
 have hE : Ev_ (a ++ b) := fun x hx => by
  rcases List.mem_append.1 hx with h | h
  ·exact good_ev ha x h
  ·exact good_ev hb x h
 have hp := fun K hK => (per_at (a ++ b) (by simp; omega) hE K hK).1
 rw [hP] at hp
 have fin : ∀ (m : Int) (K : Nat), ¬ m < P → 1001 < K → spec_AreSameSieve.l0 K a b (a ++ b) m = some (true, true) ∧ impl_AreSameSieve.l0 K a b P m = some (true, true) := by
  intro m K hc hK
  obtain ⟨K, rfl⟩ : ∃ k, K = k + 1 := ⟨K - 1, by omega⟩
  simp only [spec_AreSameSieve.l0, impl_AreSameSieve.l0]
  rw [hp K (by omega)]
  simp only [bs_]
  rw [if_neg hc, if_neg hc]
  exact ⟨rfl, rfl⟩
 intro d
 induction d with
 | zero =>
  intro m h0 h1
  exact ⟨(true, true), fun K hK => fin m K (by omega) (by omega), fun _ => rfl⟩
 | succ d ih =>
  intro m h0 h1
  by_cases hc : m < P
  ·by_cases hx : (leftB a m != leftB b m) = true
   ·refine ⟨(false, true), fun K hK => ?_, fun h => ?_⟩
    ·obtain ⟨K, rfl⟩ : ∃ k, K = k + 1 := ⟨K - 1, by omega⟩
     simp only [spec_AreSameSieve.l0, impl_AreSameSieve.l0]
     rw [hp K (by omega)]
     simp only [bs_]
     rw [if_pos hc, if_pos hc, siLeft_at m a ha K (by omega), siLeft_at m b hb K (by omega), isLeft_at m a ha, isLeft_at m b hb]
     simp only [bs_]
     rw [if_pos hx, if_pos hx]
     exact ⟨rfl, rfl⟩
    ·rw [h m (by omega) hc, bne_self_eq_false] at hx
     cases hx
   ·obtain ⟨v, hv, hz⟩ := ih (m + 1) (by omega) (by omega)
    refine ⟨v, fun K hK => ?_, fun h => hz (fun x h3 h4 => h x (by omega) h4)⟩
    obtain ⟨K, rfl⟩ : ∃ k, K = k + 1 := ⟨K - 1, by omega⟩
    simp only [spec_AreSameSieve.l0, impl_AreSameSieve.l0]
    rw [hp K (by omega)]
    simp only [bs_]
    rw [if_pos hc, if_pos hc, siLeft_at m a ha K (by omega), siLeft_at m b hb K (by omega), isLeft_at m a ha, isLeft_at m b hb]
    simp only [bs_]
    rw [if_neg hx, if_neg hx, w64 (by omega) (by omega)]
    exact hv K (by omega)
  ·exact ⟨(true, true), fun K hK => fin m K hc (by omega), fun _ => rfl⟩
theorem sameR_at (a b : List S41) : ∃ v : Bool × Bool, (∀ K, 200000 < K → spec_AreSameSieve.f K a b = some v ∧ impl_AreSameSieve.f K a b = some v) ∧
  (goodB a = true → goodB b = true → perZ 1 (a ++ b) ≠ 0 → (∀ x, 0 ≤ x → x < perZ 1 (a ++ b) → leftB a x = leftB b x) → v = (true, true)) := by
 unfold spec_AreSameSieve.f impl_AreSameSieve.f
 by_cases ha : goodB a = true
 ·by_cases hb : goodB b = true
  ·have hla := good_len ha
   have hlb := good_len hb
   have hE : Ev_ (a ++ b) := fun x hx => by
    rcases List.mem_append.1 hx with h | h
    ·exact good_ev ha x h
    ·exact good_ev hb x h
   have hr := perZ_range (a ++ b) 1 (by omega) (by omega) hE
   obtain ⟨v, hv, hz⟩ := same_l0 a b ha hb _ rfl hr.2 100000 0 (by omega) (by omega)
   have h1 : a.length < 8796093022208 := by omega
   have h2 : a.length + b.length < 8796093022208 := by omega
   have hn : ¬ ((!true) = true) := by simp
   by_cases h0 : perZ 1 (a ++ b) = 0
   ·refine ⟨(false, false), fun K hK => ?_, fun _ _ h => absurd h0 h⟩
    obtain ⟨K, rfl⟩ : ∃ k, K = k + 1 := ⟨K - 1, by omega⟩
    have hp := per_at (a ++ b) (by simp; omega) hE K (by omega)
    rw [siGood_at a _ (by omega), siGood_at b _ (by omega), areRules_at, areRules_at]
    simp only [bs_, spec_AreSameSieve.j0, impl_AreSameSieve.j0, List.nil_append, List.length_nil, Nat.zero_add]
    rw [ha, hb, if_pos rfl, if_pos rfl, if_neg hn, if_neg hn, if_pos h1, if_pos h1, if_pos h2, if_pos h2, hp.1, hp.2]
    simp only [bs_]
    exact ⟨by rw [if_pos h0], by rw [if_pos h0]; rfl⟩
   ·refine ⟨v, fun K hK => ?_, fun _ _ _ h => hz h⟩
    obtain ⟨K, rfl⟩ : ∃ k, K = k + 1 := ⟨K - 1, by omega⟩
    have hp := per_at (a ++ b) (by simp; omega) hE K (by omega)
    have h := hv K (by omega)
    rw [siGood_at a _ (by omega), siGood_at b _ (by omega), areRules_at, areRules_at]
    simp only [bs_, spec_AreSameSieve.j0, impl_AreSameSieve.j0, List.nil_append, List.length_nil, Nat.zero_add]
    rw [ha, hb, if_pos rfl, if_pos rfl, if_neg hn, if_neg hn, if_pos h1, if_pos h1, if_pos h2, if_pos h2, hp.1, hp.2]
    simp only [bs_]
    refine ⟨by rw [if_neg h0]; exact h.1, ?_⟩
    rw [if_neg h0, if_pos rfl]
    exact h.2
  ·refine ⟨(false, false), fun K hK => ?_, fun _ h => absurd h hb⟩
   obtain ⟨K, rfl⟩ : ∃ k, K = k + 1 := ⟨K - 1, by omega⟩
   rw [siGood_at a _ (by omega), siGood_at b _ (by omega), areRules_at, areRules_at]
   simp only [bs_, spec_AreSameSieve.j0, impl_AreSameSieve.j0]
   exact ⟨by simp [ha, hb], by simp [ha, hb]⟩
 ·refine ⟨(false, false), fun K hK => ?_, fun h => absurd h ha⟩
  obtain ⟨K, rfl⟩ : ∃ k, K = k + 1 := ⟨K - 1, by omega⟩
  rw [siGood_at a _ (by omega), areRules_at]
  simp only [bs_, spec_AreSameSieve.j0, impl_AreSameSieve.j0]
  exact ⟨by simp [ha], by simp [ha]⟩
theorem tRules_l0 (xs : List S41) (hx : xs.length ≤ 100000000) : ∀ (d i : Nat), i + d = xs.length → ∀ K, d < K → laws_tRules.l0 K xs xs xs.length i = some true := by
 intro d
 induction d with
 | zero =>
  intro i hi K hK
  obtain ⟨K, rfl⟩ : ∃ k, K = k + 1 := ⟨K - 1, by omega⟩
  simp only [laws_tRules.l0]
  rw [if_neg (by omega)]
 | succ d ih =>
  intro i hi K hK
  obtain ⟨K, rfl⟩ : ∃ k, K = k + 1 := ⟨K - 1, by omega⟩
  have h1 : (i : Int) < (xs.length : Int) := by omega
  have h0 : (0 : Int) ≤ (i : Int) := by omega
  simp only [laws_tRules.l0]
  rw [if_pos h1, if_pos h0, if_pos h1, if_pos h1, if_neg (by simp), w64 (by omega) (by omega)]
  exact ih (i + 1) (by omega) K (by omega)
theorem tRules_at (xs : List S41) (hx : xs.length ≤ 1000) (K : Nat) (hK : 10000 < K) : laws_tRules.f K xs xs = some true := by
 unfold laws_tRules.f
 rw [if_pos rfl]
 exact tRules_l0 xs (by omega) xs.length 0 (by omega) K (by omega)
theorem cong_iff (a b e : Int) : a % e = b % e ↔ e ∣ a - b := by
 rw [Int.emod_eq_emod_iff_emod_sub_eq_zero, Int.dvd_iff_emod_eq_zero]
theorem leftB_iff (n : Int) : ∀ (L : List S41) (i : Int), 0 ≤ i → (firstZ n i L < 0 ↔ ∀ x ∈ L, modZ n x.f0 ≠ x.f1)
 | [], i, _ => by simp [firstZ]
 | x :: xs, i, h => by
  unfold firstZ
  by_cases c : modZ n x.f0 = x.f1
  ·rw [if_pos c]
   exact ⟨fun h2 => by omega, fun h2 => absurd c (h2 x (by simp))⟩
  ·rw [if_neg c, leftB_iff n xs (i + 1) (by omega)]
   constructor
   ·intro h2 y hy
    rcases List.mem_cons.1 hy with rfl | hy
    ·exact c
    ·exact h2 y hy
   ·intro h2 y hy
    exact h2 y (List.mem_cons_of_mem _ hy)
theorem left_iff (L : List S41) (n : Int) : leftB L n = true ↔ ∀ x ∈ L, modZ n x.f0 ≠ x.f1 := by
 unfold leftB
 rw [decide_eq_true_iff, leftB_iff n L 0 (by omega)]
theorem newX_good {L : List S41} (hg : goodB L = true) : goodB (L.map newX) = true := by
 have hl := good_len hg
 unfold goodB
 rw [Bool.and_eq_true, decide_eq_true_iff, List.all_eq_true]
 refine ⟨by simpa using hl, fun y hy => ?_⟩
 obtain ⟨x, hx, rfl⟩ := List.mem_map.1 hy
 have h := good_mem hg x hx
 have hm := modZ_eq (wrap64 (-x.f1)) x.f0 h.1 h.2.1 (by rw [w64 (by omega) (by omega)]; omega) (by rw [w64 (by omega) (by omega)]; omega)
 have r0 := Int.emod_nonneg (wrap64 (-x.f1)) (by omega : x.f0 ≠ 0)
 have r1 := Int.emod_lt_of_pos (wrap64 (-x.f1)) (by omega : 0 < x.f0)
 unfold ruleB newX
 rw [decide_eq_true_iff]
 show 2 ≤ x.f0 ∧ x.f0 ≤ 60 ∧ 0 ≤ modZ (wrap64 (-x.f1)) x.f0 ∧ modZ (wrap64 (-x.f1)) x.f0 < x.f0
 omega
theorem newX_twice {L : List S41} (hg : goodB L = true) : (L.map newX).map newX = L := by
 rw [List.map_map]
 have : ∀ x ∈ L, (newX ∘ newX) x = x := fun x hx => by
  have h := good_mem hg x hx
  have e1 : wrap64 (-x.f1) = -x.f1 := w64 (by omega) (by omega)
  have hm := modZ_eq (-x.f1) x.f0 h.1 h.2.1 (by omega) (by omega)
  have r0 := Int.emod_nonneg (-x.f1) (by omega : x.f0 ≠ 0)
  have r1 := Int.emod_lt_of_pos (-x.f1) (by omega : 0 < x.f0)
  have e2 : wrap64 (-((-x.f1) % x.f0)) = -((-x.f1) % x.f0) := w64 (by omega) (by omega)
  have hm2 := modZ_eq (-((-x.f1) % x.f0)) x.f0 h.1 h.2.1 (by omega) (by omega)
  have e3 : (-((-x.f1) % x.f0)) % x.f0 = x.f1 := by
   have : (-((-x.f1) % x.f0)) % x.f0 = x.f1 % x.f0 := by
    rw [cong_iff]
    obtain ⟨q, hq⟩ : x.f0 ∣ (-x.f1) - (-x.f1) % x.f0 := Int.dvd_self_sub_emod
    exact ⟨q, by omega⟩
   rw [this]
   exact Int.emod_eq_of_lt h.2.2.1 h.2.2.2
  show newX (newX x) = x
  unfold newX
  simp only []
  rw [e1, hm, e2, hm2, e3]
 exact (List.map_congr_left this).trans (List.map_id' L)
theorem newX_left {L : List S41} (hg : goodB L = true) (k : Int) (h1 : -1000 ≤ k) (h2 : k ≤ 1000) : leftB (L.map newX) (-k) = leftB L k := by
 rw [Bool.eq_iff_iff, left_iff, left_iff]
 have key : ∀ x ∈ L, (modZ (-k) (newX x).f0 = (newX x).f1 ↔ modZ k x.f0 = x.f1) := fun x hx => by
  have h := good_mem hg x hx
  have e1 : wrap64 (-x.f1) = -x.f1 := w64 (by omega) (by omega)
  show modZ (-k) x.f0 = modZ (wrap64 (-x.f1)) x.f0 ↔ _
  rw [e1, modZ_eq (-x.f1) x.f0 h.1 h.2.1 (by omega) (by omega), modZ_eq (-k) x.f0 h.1 h.2.1 (by omega) (by omega), modZ_eq k x.f0 h.1 h.2.1 (by omega) (by omega), cong_iff]
  have er : x.f1 % x.f0 = x.f1 := Int.emod_eq_of_lt h.2.2.1 h.2.2.2
  constructor
  ·rintro ⟨q, hq⟩
   rw [← er, cong_iff]
   exact ⟨-q, by rw [Int.mul_neg, ← hq]; omega⟩
  ·intro h3
   have h3 : k % x.f0 = x.f1 % x.f0 := by rw [h3, er]
   obtain ⟨q, hq⟩ := (cong_iff _ _ _).1 h3
   exact ⟨-q, by rw [Int.mul_neg, ← hq]; omega⟩
 constructor
 ·intro h x hx hc
  exact h (newX x) (List.mem_map_of_mem hx) ((key x hx).2 hc)
 ·intro h y hy hc
  obtain ⟨x, hx, rfl⟩ := List.mem_map.1 hy
  exact h x hx ((key x hx).1 hc)
theorem newM_good {L : List S41} (hg : goodB L = true) (n : Int) (h1 : -600 ≤ n) (h2 : n ≤ 600) : goodB (L.map (newM n)) = true := by
 have hl := good_len hg
 unfold goodB
 rw [Bool.and_eq_true, decide_eq_true_iff, List.all_eq_true]
 refine ⟨by simpa using hl, fun y hy => ?_⟩
 obtain ⟨x, hx, rfl⟩ := List.mem_map.1 hy
 have h := good_mem hg x hx
 have hm := modZ_eq (wrap64 (x.f1 + n)) x.f0 h.1 h.2.1 (by rw [w64 (by omega) (by omega)]; omega) (by rw [w64 (by omega) (by omega)]; omega)
 have r0 := Int.emod_nonneg (wrap64 (x.f1 + n)) (by omega : x.f0 ≠ 0)
 have r1 := Int.emod_lt_of_pos (wrap64 (x.f1 + n)) (by omega : 0 < x.f0)
 unfold ruleB newM
 rw [decide_eq_true_iff]
 show 2 ≤ x.f0 ∧ x.f0 ≤ 60 ∧ 0 ≤ modZ (wrap64 (x.f1 + n)) x.f0 ∧ modZ (wrap64 (x.f1 + n)) x.f0 < x.f0
 omega
theorem newM_left {L : List S41} (hg : goodB L = true) (n : Int) (hn1 : -600 ≤ n) (hn2 : n ≤ 600) (k : Int) (h1 : -1000 ≤ k) (h2 : k ≤ 1000) : leftB (L.map (newM n)) (k + n) = leftB L k := by
 rw [Bool.eq_iff_iff, left_iff, left_iff]
 have key : ∀ x ∈ L, (modZ (k + n) (newM n x).f0 = (newM n x).f1 ↔ modZ k x.f0 = x.f1) := fun x hx => by
  have h := good_mem hg x hx
  have e1 : wrap64 (x.f1 + n) = x.f1 + n := w64 (by omega) (by omega)
  show modZ (k + n) x.f0 = modZ (wrap64 (x.f1 + n)) x.f0 ↔ _
  rw [e1, modZ_eq (x.f1 + n) x.f0 h.1 h.2.1 (by omega) (by omega), modZ_eq (k + n) x.f0 h.1 h.2.1 (by omega) (by omega), modZ_eq k x.f0 h.1 h.2.1 (by omega) (by omega), cong_iff]
  have er : x.f1 % x.f0 = x.f1 := Int.emod_eq_of_lt h.2.2.1 h.2.2.2
  constructor
  ·rintro ⟨q, hq⟩
   rw [← er, cong_iff]
   exact ⟨q, by rw [← hq]; omega⟩
  ·intro h3
   have h3 : k % x.f0 = x.f1 % x.f0 := by rw [h3, er]
   obtain ⟨q, hq⟩ := (cong_iff _ _ _).1 h3
   exact ⟨q, by rw [← hq]; omega⟩
 constructor
 ·intro h x hx hc
  exact h (newM n x) (List.mem_map_of_mem hx) ((key x hx).2 hc)
 ·intro h y hy hc
  obtain ⟨x, hx, rfl⟩ := List.mem_map.1 hy
  exact h x hx ((key x hx).1 hc)
theorem needZ_true (rest : List S41) (P e : Int) (he : 1 ≤ e) : ∀ (d : Nat) (n : Int), P - n < d → needZ rest P e d n = true → ∀ m, n ≤ m → m < P → e ∣ m - n → leftB rest m = false := by
 intro d
 induction d with
 | zero => intro n h1 h2 m h3 h4 h5; omega
 | succ d ih =>
  intro n h1 h2 m h3 h4 h5
  unfold needZ at h2
  rw [if_pos (by omega)] at h2
  by_cases c : leftB rest n = true
  ·rw [if_pos c] at h2; cases h2
  ·rw [if_neg c] at h2
   by_cases hm : m = n
   ·rw [hm]; simpa using c
   ·obtain ⟨q, hq⟩ := h5
    have hq1 : 1 ≤ q := by
     by_cases hq0 : q ≤ 0
     ·have := Int.mul_nonpos_of_nonneg_of_nonpos (by omega : 0 ≤ e) hq0
      omega
     ·omega
    have hmul : e * 1 ≤ e * q := Int.mul_le_mul_of_nonneg_left hq1 (by omega)
    exact ih (n + e) (by omega) h2 m (by omega) h4 ⟨q - 1, by rw [Int.mul_sub]; omega⟩
theorem needZ_false (rest : List S41) (P e : Int) (he : 1 ≤ e) : ∀ (d : Nat) (n : Int), needZ rest P e d n = false → ∃ m, n ≤ m ∧ m < P ∧ e ∣ m - n ∧ leftB rest m = true := by
 intro d
 induction d with
 | zero => intro n h; cases h
 | succ d ih =>
  intro n h
  unfold needZ at h
  by_cases c0 : n < P
  ·rw [if_pos c0] at h
   by_cases c : leftB rest n = true
   ·exact ⟨n, by omega, c0, ⟨0, by omega⟩, c⟩
   ·rw [if_neg c] at h
    obtain ⟨m, h1, h2, ⟨q, hq⟩, h4⟩ := ih (n + e) h
    exact ⟨m, by omega, h2, ⟨q + 1, by rw [Int.mul_add]; omega⟩, h4⟩
  ·rw [if_neg c0] at h; cases h
theorem need_true {L : List S41} (hg : goodB L = true) {i : Nat} (hi : i < L.length) {P : Int} (hP : P ≤ 100000) (h : needB L i P = true) (m : Int) (h0 : 0 ≤ m) (h1 : m < P) (hc : modZ m (rd_T41 L (i : Int)).f0 = (rd_T41 L (i : Int)).f1) : leftB (L.eraseIdx i) m = false := by
 have hm := good_mem hg _ (rdT_mem L i hi)
 rw [modZ_eq m _ hm.1 hm.2.1 (by omega) (by omega)] at hc
 have hge : (rd_T41 L (i : Int)).f1 ≤ m := by
  have r1 := Int.emod_lt_of_pos m (by omega : 0 < (rd_T41 L (i : Int)).f0)
  by_cases c : m < (rd_T41 L (i : Int)).f0
  ·rw [Int.emod_eq_of_lt h0 c] at hc
   omega
  ·omega
 refine needZ_true _ P _ (by omega) (P.toNat + 1) _ (by omega) h m hge h1 ?_
 rw [← cong_iff, hc]
 exact (Int.emod_eq_of_lt hm.2.2.1 hm.2.2.2).symm
theorem need_false {L : List S41} (hg : goodB L = true) {i : Nat} (hi : i < L.length) {P : Int} (hP : P ≤ 100000) (h : needB L i P = false) : ∃ m, 0 ≤ m ∧ m < P ∧ modZ m (rd_T41 L (i : Int)).f0 = (rd_T41 L (i : Int)).f1 ∧ leftB (L.eraseIdx i) m = true := by
 have hm := good_mem hg _ (rdT_mem L i hi)
 obtain ⟨m, h1, h2, h3, h4⟩ := needZ_false _ P _ (by omega) _ _ h
 refine ⟨m, by omega, h2, ?_, h4⟩
 rw [modZ_eq m _ hm.1 hm.2.1 (by omega) (by omega), (cong_iff _ _ _).2 h3]
 exact Int.emod_eq_of_lt hm.2.2.1 hm.2.2.2
theorem erase_mid (A B : List S41) (x : S41) : (A ++ x :: B).eraseIdx A.length = A ++ B := by
 rw [List.eraseIdx_append_of_length_le (Nat.le_refl _), Nat.sub_self]
 rfl
theorem rd_mid (A B : List S41) (x : S41) : rd_T41 (A ++ x :: B) (A.length : Int) = x := by
 simp [rd_T41, List.getD]
theorem left_mid (A B : List S41) (x : S41) (m : Int) : leftB (A ++ x :: B) m = true ↔ (leftB (A ++ B) m = true ∧ modZ m x.f0 ≠ x.f1) := by
 rw [left_iff, left_iff]
 constructor
 ·intro h
  exact ⟨fun y hy => h y (by rcases List.mem_append.1 hy with h1 | h1 <;> simp [h1]), h x (by simp)⟩
 ·rintro ⟨h1, h2⟩ y hy
  rcases List.mem_append.1 hy with h3 | h3
  ·exact h1 y (by simp [h3])
  ·rcases List.mem_cons.1 h3 with rfl | h3
   ·exact h2
   ·exact h1 y (by simp [h3])
theorem good_mid {A B : List S41} {x : S41} (h : goodB (A ++ x :: B) = true) : goodB (A ++ B) = true := by
 have := good_erase h A.length
 rwa [erase_mid] at this
theorem snoc_of (A : List S41) (i : Nat) (h : A.length = i + 1) : ∃ A' a, A = A' ++ [a] ∧ A'.length = i := by
 have hne : A ≠ [] := fun e => by rw [e] at h; cases h
 refine ⟨A.dropLast, A.getLast hne, (List.dropLast_concat_getLast hne).symm, by rw [List.length_dropLast]; omega⟩
theorem drop_all (P : Int) (hP : P ≤ 100000) : ∀ (i : Nat) (A B : List S41), A.length = i → goodB (A ++ B) = true →
  (∀ B1 x B2, B = B1 ++ x :: B2 → ∃ m, 0 ≤ m ∧ m < P ∧ modZ m x.f0 = x.f1 ∧ leftB (A ++ B1 ++ B2) m = true) →
  ∃ D, dropZ P i (A ++ B) = D ∧ goodB D = true ∧ (∀ x ∈ D, x ∈ A ++ B) ∧ (∀ m, 0 ≤ m → m < P → leftB D m = leftB (A ++ B) m) ∧
  (∀ B1 x B2, D = B1 ++ x :: B2 → ∃ m, 0 ≤ m ∧ m < P ∧ modZ m x.f0 = x.f1 ∧ leftB (B1 ++ B2) m = true) := by
 intro i
 induction i with
 | zero =>
  intro A B hA hg hE
  have e : A = [] := List.length_eq_zero_iff.1 hA
  subst e
  exact ⟨B, rfl, hg, fun x hx => hx, fun _ _ _ => rfl, fun B1 x B2 h => by simpa using hE B1 x B2 h⟩
 | succ i ih =>
  intro A B hA hg hE
  obtain ⟨A', a, rfl, hA'⟩ := snoc_of A i hA
  have e1 : A' ++ [a] ++ B = A' ++ a :: B := by simp
  rw [e1] at hg ⊢
  have hi : i < (A' ++ a :: B).length := by simp; omega
  have er : rd_T41 (A' ++ a :: B) (i : Int) = a := by rw [← hA']; exact rd_mid A' B a
  have ee : (A' ++ a :: B).eraseIdx i = A' ++ B := by rw [← hA']; exact erase_mid A' B a
  unfold dropZ
  by_cases hb : needB (A' ++ a :: B) i P = true
  ·rw [if_pos hb, ee]
   have hn := fun m h0 h1 hc => need_true hg hi hP hb m h0 h1 (by rw [er]; exact hc)
   rw [ee] at hn
   obtain ⟨D, d1, d2, d3, d4, d5⟩ := ih A' B hA' (good_mid hg) (fun B1 x B2 h => by
    obtain ⟨m, m0, m1, m2, m3⟩ := hE B1 x B2 h
    have e2 : A' ++ [a] ++ B1 ++ B2 = A' ++ a :: (B1 ++ B2) := by simp
    rw [e2, left_mid] at m3
    exact ⟨m, m0, m1, m2, by rw [List.append_assoc]; exact m3.1⟩)
   refine ⟨D, d1, d2, fun x hx => ?_, fun m h0 h1 => ?_, d5⟩
   ·have := d3 x hx
    rcases List.mem_append.1 this with h | h <;> simp [h]
   ·rw [d4 m h0 h1, Bool.eq_iff_iff, left_mid]
    refine ⟨fun h => ⟨h, fun hc => ?_⟩, fun h => h.1⟩
    rw [hn m h0 h1 hc] at h
    cases h
  ·have hb' : needB (A' ++ a :: B) i P = false := by simpa using hb
   obtain ⟨m, m0, m1, m2, m3⟩ := need_false hg hi hP hb'
   rw [er] at m2
   rw [ee] at m3
   rw [if_neg hb]
   exact ih A' (a :: B) hA' hg (fun B1 x B2 h => by
    cases B1 with
    | nil =>
     simp only [List.nil_append, List.cons.injEq] at h
     obtain ⟨rfl, rfl⟩ := h
     exact ⟨m, m0, m1, m2, by simpa using m3⟩
    | cons b B1 =>
     simp only [List.cons_append, List.cons.injEq] at h
     obtain ⟨rfl, h⟩ := h
     obtain ⟨z, z0, z1, z2, z3⟩ := hE B1 x B2 h
     exact ⟨z, z0, z1, z2, by simpa using z3⟩)
theorem lcm_step (p e P : Int) (hp : 1 ≤ p) (he : 1 ≤ e) (h1 : p ∣ P) (h2 : e ∣ P) : p / gZ p e * e ∣ P := by
 obtain ⟨a, rfl⟩ : ∃ a : Nat, p = a := ⟨p.toNat, by omega⟩
 obtain ⟨b, rfl⟩ : ∃ b : Nat, e = b := ⟨e.toNat, by omega⟩
 have h3 : Nat.lcm a b ∣ P.natAbs := Nat.lcm_dvd (Int.ofNat_dvd_left.1 h1) (Int.ofNat_dvd_left.1 h2)
 have e1 : ((a : Int) / gZ (a : Int) (b : Int) * (b : Int)) = ((Nat.lcm a b : Nat) : Int) := by
  unfold gZ Nat.lcm
  rw [Int.toNat_natCast, Int.toNat_natCast, Nat.mul_comm a b, Nat.mul_div_assoc b (Nat.gcd_dvd_left a b), Nat.mul_comm b]
  rfl
 rw [e1]
 exact Int.ofNat_dvd_left.2 h3
theorem per_div (P : Int) (hP0 : 1 ≤ P) (hP : P ≤ 100000) : ∀ (L : List S41) (p : Int), 1 ≤ p → p ∣ P → Ev_ L → (∀ x ∈ L, x.f0 ∣ P) → perZ p L ∣ P ∧ 1 ≤ perZ p L
 | [], p, h1, h2, _, _ => ⟨h2, h1⟩
 | x :: xs, p, h1, h2, hE, hd => by
  have hx := hE x (by simp)
  have hpl := Int.le_of_dvd (by omega) h2
  have hs := step_facts p x.f0 h1 (by omega) hx.1 hx.2
  have hdv := lcm_step p x.f0 P h1 (by omega) h2 (hd x (by simp))
  have hle := Int.le_of_dvd (by omega) hdv
  unfold perZ
  rw [if_neg (by omega)]
  exact per_div P hP0 hP xs _ hs.2.2.1 hdv (fun y hy => hE y (by simp [hy])) (fun y hy => hd y (by simp [hy]))
theorem left_mod {L : List S41} (hE : Ev_ L) (P : Int) (hP : 1 ≤ P) (hP2 : P ≤ 100000) (hd : ∀ x ∈ L, x.f0 ∣ P) (m : Int) (h0 : 0 ≤ m) (h1 : m ≤ 1000000) : leftB L (m % P) = leftB L m := by
 have r0 := Int.emod_nonneg m (by omega : P ≠ 0)
 have r1 := Int.emod_lt_of_pos m (by omega : 0 < P)
 unfold leftB
 rw [firstZ_congr (m % P) m L 0 (fun x hx => ?_)]
 have hx2 := hE x hx
 rw [modZ_eq _ _ hx2.1 hx2.2 (by omega) (by omega), modZ_eq _ _ hx2.1 hx2.2 (by omega) (by omega), Int.emod_emod_of_dvd m (hd x hx)]
theorem ff_nil (p : Int → Bool) : ∀ (d : Nat) (n : Int), (∀ x, n ≤ x → x < n + d → p x = false) → ff p d n = []
 | 0, _, _ => rfl
 | d + 1, n, h => by
  rw [ff, if_neg (by rw [h n (by omega) (by omega)]; simp), ff_nil p d (n + 1) (fun x h1 h2 => h x (by omega) (by omega))]
theorem ff_has (p : Int → Bool) : ∀ (d : Nat) (n : Int), ff p d n = [] → ∀ x, n ≤ x → x < n + d → p x = false
 | 0, n, _, x, h1, h2 => by omega
 | d + 1, n, h, x, h1, h2 => by
  rw [ff] at h
  by_cases c : p n = true
  ·rw [if_pos c] at h; cases h
  ·rw [if_neg c] at h
   by_cases e : x = n
   ·rw [e]; simpa using c
   ·exact ff_has p d (n + 1) h x (by omega) (by omega)
theorem drop_same (P : Int) : ∀ (i : Nat) (L : List S41), (∀ j, j < i → needB L j P = false) → dropZ P i L = L
 | 0, _, _ => rfl
 | i + 1, L, h => by
  unfold dropZ
  rw [if_neg (by rw [h i (by omega)]; simp)]
  exact drop_same P i L (fun j hj => h j (by omega))
theorem drop_less (P : Int) : ∀ (i : Nat) (L : List S41), i ≤ L.length → (∃ j, j < i ∧ needB L j P = true) → (dropZ P i L).length < L.length
 | 0, _, _, ⟨j, hj, _⟩ => absurd hj (Nat.not_lt_zero _)
 | i + 1, L, hi, ⟨j, hj, hb⟩ => by
  unfold dropZ
  by_cases c : needB L i P = true
  ·rw [if_pos c]
   have h1 := dropZ_len P i (L.eraseIdx i)
   have h2 := List.length_eraseIdx_of_lt (show i < L.length by omega)
   omega
  ·rw [if_neg c]
   have : j ≠ i := fun e => c (by rw [← e]; exact hb)
   exact drop_less P i L (by omega) ⟨j, by omega, hb⟩
theorem thin {L : List S41} (hg : goodB L = true) (h0 : perZ 1 L ≠ 0) : ∃ D, dropV L = (D, true) ∧ D.length ≤ 12 ∧ (∀ K, 2000000 < K → impl_AreSameSieve.f K L D = some (true, true)) ∧ (∀ K, 2000000 < K → impl_NeedlessRules.f K D = some ([], true)) ∧
  ((((needV L).1.length : Int) == 0) != ((D.length : Int) == (L.length : Int))) = false := by
 have hl := good_len hg
 have hr := perZ_range L 1 (by omega) (by omega) (good_ev hg)
 have hd := (perZ_dvd L 1 (by omega) (by omega) (good_ev hg) h0).2
 obtain ⟨P, hP⟩ : ∃ P, P = perZ 1 L := ⟨_, rfl⟩
 rw [← hP] at hr hd
 have hP1 : 1 ≤ P := by rw [← hP] at h0; omega
 obtain ⟨D, d1, d2, d3, d4, d5⟩ := drop_all P hr.2 L.length L [] rfl (by simpa using hg) (fun B1 x B2 h => by simp at h)
 simp only [List.append_nil] at d1 d3 d4
 have hlD := good_len d2
 have hdD : ∀ x ∈ D, x.f0 ∣ P := fun x hx => hd x (d3 x hx)
 have hEa : Ev_ (L ++ D) := fun x hx => by
  rcases List.mem_append.1 hx with h | h
  ·exact good_ev hg x h
  ·exact good_ev d2 x h
 have hpa := per_div P hP1 hr.2 (L ++ D) 1 (by omega) (Int.one_dvd P) hEa (fun x hx => by
  rcases List.mem_append.1 hx with h | h
  ·exact hd x h
  ·exact hdD x h)
 have hpal := Int.le_of_dvd (by omega) hpa.1
 have hpd := per_div P hP1 hr.2 D 1 (by omega) (Int.one_dvd P) (good_ev d2) hdD
 have hpdl := Int.le_of_dvd (by omega) hpd.1
 refine ⟨D, by rw [dropV_yes hg h0, ← hP, d1], hlD, fun K hK => ?_, fun K hK => ?_, ?_⟩
 ·obtain ⟨v, hv, hz⟩ := sameR_at L D
  rw [(hv K (by omega)).2, hz hg d2 (by omega) (fun x hx0 hx1 => (d4 x hx0 (by omega)).symm)]
 ·rw [(needR_at D K hK).2, needV_yes d2 (by omega), ff_nil]
  intro x hx0 hx1
  obtain ⟨j, rfl⟩ : ∃ j : Nat, x = j := ⟨x.toNat, by omega⟩
  have hj : j < D.length := by omega
  rw [Int.toNat_natCast]
  by_cases hb : needB D j (perZ 1 D) = true
  ·exfalso
   have hsp : D = D.take j ++ rd_T41 D (j : Int) :: D.drop (j + 1) := by
    have := drop_rdT D j hj
    rw [← this, List.take_append_drop]
   have hee : D.eraseIdx j = D.take j ++ D.drop (j + 1) := List.eraseIdx_eq_take_drop_succ ..
   obtain ⟨m, m0, m1, m2, m3⟩ := d5 _ _ _ hsp
   have hx := good_mem d2 _ (rdT_mem D j hj)
   have hdx := (perZ_dvd D 1 (by omega) (by omega) (good_ev d2) (by omega)).2
   have r0 := Int.emod_nonneg m (by omega : perZ 1 D ≠ 0)
   have r1 := Int.emod_lt_of_pos m (by omega : 0 < perZ 1 D)
   have hEe : Ev_ (D.eraseIdx j) := fun y hy => good_ev d2 y (List.mem_of_mem_eraseIdx hy)
   have hle := left_mod hEe (perZ 1 D) hpd.2 (by omega) (fun y hy => hdx y (List.mem_of_mem_eraseIdx hy)) m m0 (by omega)
   have hmm : modZ (m % perZ 1 D) (rd_T41 D (j : Int)).f0 = (rd_T41 D (j : Int)).f1 := by
    rw [← m2, modZ_eq _ _ hx.1 hx.2.1 (by omega) (by omega), modZ_eq _ _ hx.1 hx.2.1 (by omega) (by omega), Int.emod_emod_of_dvd m (hdx _ (rdT_mem D j hj))]
   have h1 := need_true d2 hj (by omega) hb (m % perZ 1 D) r0 r1 hmm
   rw [hle, hee, m3] at h1
   cases h1
  ·simpa using hb
 ·rw [needV_yes hg h0, ← hP]
  show ((((ff (fun j => needB L j.toNat P) L.length 0).length : Int) == 0) != _) = false
  by_cases hn : ff (fun j => needB L j.toNat P) L.length 0 = []
  ·have hD : D = L := by
    rw [← d1]
    refine drop_same P L.length L (fun j hj => ?_)
    have := ff_has _ _ _ hn (j : Int) (by omega) (by omega)
    simpa using this
   rw [hn, hD]
   simp
  ·have hlt : D.length < L.length := by
    rw [← d1]
    refine drop_less P L.length L (Nat.le_refl _) ?_
    by_cases hx : ∃ j, j < L.length ∧ needB L j P = true
    ·exact hx
    ·exact absurd (ff_nil _ _ _ (fun x h1 h2 => by
      by_cases hb : needB L x.toNat P = true
      ·exact absurd ⟨x.toNat, by omega, hb⟩ hx
      ·simpa using hb)) hn
   have hpos : 0 < (ff (fun j => needB L j.toNat P) L.length 0).length := List.length_pos_iff.2 hn
   have b1 : ((((ff (fun j => needB L j.toNat P) L.length 0).length : Nat) : Int) == 0) = false := beq_eq_false_iff_ne.2 (by omega)
   have b2 : ((D.length : Int) == (L.length : Int)) = false := beq_eq_false_iff_ne.2 (by omega)
   rw [b1, b2]
   rfl
def okB (l : List Int) : Prop := l.length ≤ 1048576 ∧ ∀ x ∈ l, 0 ≤ x ∧ x ≤ 255
theorem okB_of (l : List Int) (h : l.length ≤ 1048576) (hw : ∀ x ∈ l, (Lit.int .u8 x).wf = true) : okB l := by
 refine ⟨h, fun x hx => ?_⟩
 have := hw x hx
 simp [Lit.wf, IntKind.min, IntKind.max, IntKind.bits, IntKind.signed] at this
 omega
theorem and255 (x : Int) : 0 ≤ Go.bits .and .u64 x 255 ∧ Go.bits .and .u64 x 255 ≤ 255 := by
 unfold Go.bits
 have h : (BitVec.ofInt IntKind.u64.bits x &&& BitVec.ofInt IntKind.u64.bits 255).toNat ≤ 255 := by
  rw [BitVec.toNat_and]
  exact Nat.le_trans Nat.and_le_right (by decide)
 simp only []
 generalize (BitVec.ofInt IntKind.u64.bits x &&& BitVec.ofInt IntKind.u64.bits 255).toNat = n at h
 simp [IntKind.wrap, IntKind.bits, IntKind.signed]
 omega
theorem rd_in {l : List Int} {i : Int} (h0 : 0 ≤ i) (h1 : i < (l.length : Int)) : rd l i ∈ l := by
 obtain ⟨n, rfl⟩ : ∃ n : Nat, i = n := ⟨i.toNat, by omega⟩
 have hn : n < l.length := by omega
 simp [rd, List.getD, hn]
def curOk (a a' : Int) (n : Int) : Prop := 0 ≤ a' ∧ a' ≤ a + n
theorem next_ok {l : List Int} (hl : okB l) {a : Int} (s : Int) (h0 : 0 ≤ a) (h1 : a ≤ 1000000000000) : ∃ x a' s', spec_l1Cur_next.f l a s = some (x, a', s') ∧ (0 ≤ x ∧ x ≤ 255) ∧ curOk a a' 1 := by
 obtain ⟨h2, hb⟩ := hl
 have hw : wrap64 (a + 1) = a + 1 := w64 (by omega) (by omega)
 have hc : curOk a (wrap64 (a + 1)) 1 := by rw [hw]; exact ⟨by omega, by omega⟩
 unfold spec_l1Cur_next.f
 by_cases c1 : a < (l.length : Int)
 ·have hr := hb _ (rd_in h0 c1)
  have hw1 : wrap64 (rd l a) = rd l a := w64 (by omega) (by omega)
  rw [if_pos c1, if_pos h0]
  by_cases c2 : wrap64 (a + 1) ≤ (l.length : Int)
  ·rw [if_pos c2]
   exact ⟨_, _, _, rfl, by rw [hw1]; exact hr, hc⟩
  ·rw [if_neg c2]
   refine ⟨_, _, _, rfl, ?_, hc⟩
   generalize hz : IntKind.u64.wrap _ / 1099511627776 = z
   have := and255 z
   rw [w64 (by omega) (by omega)]
   exact this
 ·rw [if_neg c1]
  by_cases c2 : wrap64 (a + 1) ≤ (l.length : Int)
  ·rw [if_pos c2]
   exact ⟨_, _, _, rfl, ⟨by omega, by omega⟩, hc⟩
  ·rw [if_neg c2]
   refine ⟨_, _, _, rfl, ?_, hc⟩
   generalize hz : IntKind.u64.wrap _ / 1099511627776 = z
   have := and255 z
   rw [w64 (by omega) (by omega)]
   exact this
theorem pick_ok {l : List Int} (hl : okB l) {a : Int} (s n : Int) (h0 : 0 ≤ a) (h1 : a ≤ 1000000000) : ∃ x a' s', spec_l1Cur_pick.f l a s n = some (x, a', s') ∧ 0 ≤ x ∧ (1 ≤ n → x < n) ∧ curOk a a' 2 := by
 unfold spec_l1Cur_pick.f
 by_cases c1 : n ≤ 1
 ·rw [if_pos c1]
  exact ⟨_, _, _, rfl, by omega, by omega, by omega, by omega⟩
 ·have n0 : ¬ n = 0 := by omega
  have n1 : 0 < n := by omega
  obtain ⟨x, a1, s1, e1, ⟨hx0, hx1⟩, ha0, ha1⟩ := next_ok hl s h0 (by omega)
  rw [if_neg c1, e1]
  simp only [bs_]
  by_cases c2 : n > 200
  ·obtain ⟨y, a2, s2, e2, ⟨hy0, hy1⟩, hb0, hb1⟩ := next_ok hl s1 ha0 (by omega)
   rw [if_pos c2, e2]
   simp only [bs_]
   rw [if_neg n0, w64 (x := x * 256) (by omega) (by omega), w64 (by omega) (by omega)]
   exact ⟨_, _, _, rfl, Int.tmod_nonneg _ (by omega), fun _ => Int.tmod_lt_of_pos _ n1, by omega, by omega⟩
  ·rw [if_neg c2, if_neg n0]
   exact ⟨_, _, _, rfl, Int.tmod_nonneg _ hx0, fun _ => Int.tmod_lt_of_pos _ n1, by omega, by omega⟩
theorem one_ok {l : List Int} (hl : okB l) {a : Int} (s n : Int) (h0 : 0 ≤ a) (h1 : a ≤ 1000000000) : ∃ (b : Bool) (a' s' : Int), spec_l1Cur_one.f l a s n = some (b, a', s') ∧ curOk a a' 2 := by
 obtain ⟨x, a', s', e, _, _, hc⟩ := pick_ok hl s n h0 h1
 unfold spec_l1Cur_one.f
 rw [e]
 exact ⟨_, _, _, rfl, hc⟩
theorem among_ok {l : List Int} (hl : okB l) {a : Int} (s : Int) (L : List Int) (hL : 1 ≤ L.length) (h0 : 0 ≤ a) (h1 : a ≤ 1000000000) : ∃ x a' s', spec_l1Cur_among.f l a s L = some (x, a', s') ∧ x ∈ L ∧ curOk a a' 2 := by
 obtain ⟨x, a', s', e, h2, h3, hc⟩ := pick_ok hl s (L.length : Int) h0 h1
 have h4 := h3 (by omega)
 unfold spec_l1Cur_among.f
 rw [e]
 simp only [bs_]
 rw [if_pos h2, if_pos h4]
 exact ⟨_, _, _, rfl, rd_in h2 h4, hc⟩
theorem big_at (l0 l1 : List Int) (h1 : l1.length ≤ maxLen) : ∃ b, laws_big.f l0 l1 = some b ∧ (b = false → l0.length ≤ 1048576 ∧ l1.length ≤ 1048576) := by
 unfold laws_big.f
 by_cases h : (l0.length : Int) > 1048576
 ·rw [if_pos h]; exact ⟨true, rfl, fun h => by cases h⟩
 ·rw [if_neg h, w64 (by omega) (by omega)]
  refine ⟨_, rfl, fun h => ?_⟩
  have := of_decide_eq_false h
  omega
def ruleR (x : S41) : Prop := 2 ≤ x.f0 ∧ x.f0 ≤ 60 ∧ 0 ≤ x.f1 ∧ x.f1 < x.f0
theorem rule_ok {l : List Int} (hl : okB l) {a : Int} (s : Int) (h0 : 0 ≤ a) (h1 : a ≤ 100000000) : ∃ e r a' s', spec_l1Cur_rule.f l a s = some (e, r, a', s') ∧ ruleR ⟨e, r⟩ ∧ curOk a a' 4 := by
 unfold spec_l1Cur_rule.f
 obtain ⟨x, a1, s1, e1, hx, c1, d1⟩ := among_ok hl s [2, 3, 4, 5, 6, 7, 8, 9, 10, 12, 15] (by simp) h0 (by omega)
 have hx' : 2 ≤ x ∧ x ≤ 60 := by
  simp only [List.mem_cons, List.not_mem_nil, or_false] at hx
  omega
 obtain ⟨y, a2, s2, e2, hy0, hy1, c2, d2⟩ := pick_ok hl s1 x c1 (by omega)
 have hy2 := hy1 (by omega)
 rw [e1]
 simp only [bs_]
 rw [e2]
 exact ⟨x, y, a2, s2, rfl, ⟨hx'.1, hx'.2, hy0, hy2⟩, c2, by omega⟩
theorem perQ_at (L : List S41) (hL : L.length ≤ 100) (hE : Ev_ L) (K : Nat) (hK : 1000 < K) : spec_siPeriod.f K L = some (perZ 1 L) := (per_at L hL hE K hK).1
theorem sure_l0 {l : List Int} (hl : okB l) : ∀ (d : Nat) (n : Int) (L : List S41) (a s : Int), n ≤ d → L.length + d ≤ 100 → (∀ x ∈ L, ruleR x) → 0 ≤ a → a + 4 * d ≤ 10000000 →
  ∀ K, 1100 + d < K → ∃ L' a' s', spec_l1Cur_sureRules.l0 K L n l a s = some (L', a', s') ∧ (∀ x ∈ L', ruleR x) ∧ L'.length ≤ L.length + d ∧ 0 ≤ a' ∧ a' ≤ a + 4 * d := by
 intro d
 induction d with
 | zero =>
  intro n L a s hn hL hR h0 h1 K hK
  obtain ⟨K, rfl⟩ : ∃ k, K = k + 1 := ⟨K - 1, by omega⟩
  simp only [spec_l1Cur_sureRules.l0]
  rw [if_neg (by omega)]
  exact ⟨_, _, _, rfl, hR, by omega, by omega, by omega⟩
 | succ d ih =>
  intro n L a s hn hL hR h0 h1 K hK
  obtain ⟨K, rfl⟩ : ∃ k, K = k + 1 := ⟨K - 1, by omega⟩
  simp only [spec_l1Cur_sureRules.l0]
  by_cases hc : n > 0
  ·obtain ⟨e, r, a1, s1, e1, hr, c1, d1⟩ := rule_ok hl s h0 (by omega)
   have q1 : L.length < 8796093022208 := by omega
   have hR2 : ∀ x ∈ L ++ [(⟨e, r⟩ : S41)], ruleR x := fun x hx => by
    rcases List.mem_append.1 hx with h | h
    ·exact hR x h
    ·rw [List.mem_singleton.1 h]; exact hr
   have hl2 : (L ++ [(⟨e, r⟩ : S41)]).length = L.length + 1 := by simp
   have hp := perQ_at (L ++ [(⟨e, r⟩ : S41)]) (by omega) (fun x hx => ⟨(hR2 x hx).1, (hR2 x hx).2.1⟩) K (by omega)
   obtain ⟨L1, b1, t1, f1, g1, k1, m1, n1⟩ := ih (n - 1) (L ++ [(⟨e, r⟩ : S41)]) a1 s1 (by omega) (by omega) hR2 c1 (by omega) K (by omega)
   obtain ⟨L2, b2, t2, f2, g2, k2, m2, n2⟩ := ih (n - 1) L a1 s1 (by omega) (by omega) hR c1 (by omega) K (by omega)
   rw [if_pos hc]
   simp only [bs_, List.nil_append, List.length_nil, Nat.zero_add]
   rw [if_pos q1, e1]
   simp only [bs_]
   rw [if_pos q1, hp]
   simp only [bs_]
   rw [w64 (x := n - 1) (by omega) (by omega)]
   by_cases p1 : perZ 1 (L ++ [(⟨e, r⟩ : S41)]) > 0
   ·rw [if_pos p1]
    by_cases p2 : perZ 1 (L ++ [(⟨e, r⟩ : S41)]) ≤ 3000
    ·rw [if_pos p2]
     exact ⟨L1, b1, t1, f1, g1, by omega, m1, by omega⟩
    ·rw [if_neg p2]
     exact ⟨L2, b2, t2, f2, g2, by omega, m2, by omega⟩
   ·rw [if_neg p1]
    exact ⟨L2, b2, t2, f2, g2, by omega, m2, by omega⟩
  ·rw [if_neg hc]
   exact ⟨_, _, _, rfl, hR, by omega, by omega, by omega⟩
theorem sure_ok {l : List Int} (hl : okB l) {a : Int} (s m : Int) (hm : 0 ≤ m) (hm2 : m ≤ 5) (h0 : 0 ≤ a) (h1 : a ≤ 1000000) (K : Nat) (hK : 2000 < K) :
  ∃ L' a' s', spec_l1Cur_sureRules.f K l a s m = some (L', a', s') ∧ (∀ x ∈ L', ruleR x) ∧ L'.length ≤ 6 ∧ curOk a a' 30 := by
 unfold spec_l1Cur_sureRules.f
 obtain ⟨x, a1, s1, e1, hx0, hx1, c1, d1⟩ := pick_ok hl s (wrap64 (m + 1)) h0 (by omega)
 have hw : wrap64 (m + 1) = m + 1 := w64 (by omega) (by omega)
 have hx2 := hx1 (by omega)
 obtain ⟨L', a2, s2, e2, hR, hL, c2, d2⟩ := sure_l0 hl 6 x [] a1 s1 (by omega) (by simp) (by simp) c1 (by omega) K (by omega)
 rw [e1]
 simp only [bs_]
 rw [e2]
 exact ⟨_, _, _, rfl, hR, by simpa using hL, c2, by omega⟩
theorem drules_l0 {l : List Int} (hl : okB l) : ∀ (d : Nat) (L : List S41) (a s : Int), 13 ≤ L.length + d → L.length ≤ 1000 → 0 ≤ a → a + 2 * (d + 1) ≤ 10000000 →
  ∀ K, d < K → ∃ L' a' s', spec_l1Cur_rules.l0 K L l a s = some (L', a', s') ∧ 0 ≤ a' ∧ a' ≤ a + 2 * (d + 1) := by
 intro d
 induction d with
 | zero =>
  intro L a s hd hL h0 h1 K hK
  obtain ⟨K, rfl⟩ : ∃ k, K = k + 1 := ⟨K - 1, by omega⟩
  obtain ⟨x, a1, s1, e1, hx0, hx1, c1, d1⟩ := pick_ok hl s 2 h0 (by omega)
  have hx2 := hx1 (by omega)
  simp only [spec_l1Cur_rules.l0]
  rw [e1]
  simp only [bs_]
  rw [w64 (x := 12 + x) (by omega) (by omega), if_neg (by omega)]
  exact ⟨_, _, _, rfl, c1, by omega⟩
 | succ d ih =>
  intro L a s hd hL h0 h1 K hK
  obtain ⟨K, rfl⟩ : ∃ k, K = k + 1 := ⟨K - 1, by omega⟩
  obtain ⟨x, a1, s1, e1, hx0, hx1, c1, d1⟩ := pick_ok hl s 2 h0 (by omega)
  have hx2 := hx1 (by omega)
  simp only [spec_l1Cur_rules.l0]
  rw [e1]
  simp only [bs_]
  rw [w64 (x := 12 + x) (by omega) (by omega)]
  by_cases hc : (L.length : Int) < 12 + x
  ·obtain ⟨L1, b1, t1, f1, m1, n1⟩ := ih (L ++ [(⟨2, 0⟩ : S41)]) a1 s1 (by simp; omega) (by simp; omega) c1 (by omega) K (by omega)
   rw [if_pos hc, if_pos (by omega)]
   exact ⟨L1, b1, t1, f1, m1, by omega⟩
  ·rw [if_neg hc]
   exact ⟨_, _, _, rfl, c1, by omega⟩
theorem rules_ok {l : List Int} (hl : okB l) {a : Int} (s : Int) (h0 : 0 ≤ a) (h1 : a ≤ 100000) (K : Nat) (hK : 3000 < K) :
  ∃ L' a' s', spec_l1Cur_rules.f K l a s = some (L', a', s') ∧ curOk a a' 100 := by
 unfold spec_l1Cur_rules.f
 obtain ⟨L, a1, s1, e1, hR, hL, c1, d1⟩ := sure_ok hl s 5 (by omega) (by omega) h0 (by omega) K (by omega)
 obtain ⟨x, a2, s2, e2, hx0, hx1, c2, d2⟩ := pick_ok hl s1 16 c1 (by omega)
 rw [e1]
 simp only [bs_]
 rw [e2]
 simp only [bs_]
 by_cases q0 : x = 0
 ·obtain ⟨y, a3, s3, e3, _, c3, d3⟩ := among_ok hl s2 [0, 1, 60, 61, (-1)] (by simp) c2 (by omega)
  obtain ⟨z, a4, s4, e4, _, c4, d4⟩ := among_ok hl s3 [0, 1, (-1), 59, 60] (by simp) c3 (by omega)
  rw [if_pos q0, e3]
  simp only [bs_]
  rw [e4]
  simp only [bs_]
  rw [if_pos (by omega)]
  exact ⟨_, _, _, rfl, c4, by omega⟩
 ·rw [if_neg q0]
  by_cases q1 : x = 1
  ·rw [if_pos q1]
   obtain ⟨L1, b1, t1, f1, m1, n1⟩ := drules_l0 hl 13 L a2 s2 (by omega) (by omega) c2 (by omega) K (by omega)
   exact ⟨L1, b1, t1, f1, m1, by omega⟩
  ·rw [if_neg q1]
   by_cases q2 : x = 2
   ·rw [if_pos q2]
    exact ⟨_, _, _, rfl, c2, by omega⟩
   ·rw [if_neg q2]
    exact ⟨_, _, _, rfl, c2, by omega⟩
theorem signed_ok {l : List Int} (hl : okB l) {a : Int} (s : Int) (h0 : 0 ≤ a) (h1 : a ≤ 1000000) : ∃ x a' s', spec_l1Cur_signed.f l a s = some (x, a', s') ∧ curOk a a' 4 := by
 unfold spec_l1Cur_signed.f
 obtain ⟨b, a1, s1, e1, c1, d1⟩ := one_ok hl s 12 h0 (by omega)
 rw [e1]
 simp only [bs_]
 cases b with
 | true =>
  obtain ⟨x, a2, s2, e2, _, c2, d2⟩ := among_ok hl s1 [(-601), (-600), 600, 601, 4611686018427387904] (by simp) c1 (by omega)
  rw [if_pos rfl, e2]
  exact ⟨x, a2, s2, rfl, c2, by omega⟩
 | false =>
  obtain ⟨x, a2, s2, e2, _, _, c2, d2⟩ := pick_ok hl s1 121 c1 (by omega)
  rw [if_neg (by simp), e2]
  exact ⟨wrap64 (x - 40), a2, s2, rfl, c2, by omega⟩
theorem drawIsLeft (l : List Int) (hl : okB l) (K : Nat) (hK : 3000 < K) : ∃ v, spec_DrawIsLeft.f K l = some v := by
 unfold spec_DrawIsLeft.f
 obtain ⟨L, a1, s1, e1, c1, d1⟩ := rules_ok hl 0 (Int.le_refl 0) (by omega) K hK
 obtain ⟨x, a2, s2, e2, _⟩ := signed_ok hl s1 c1 (by omega)
 rw [e1]
 simp only [bs_]
 rw [e2]
 exact ⟨_, rfl⟩
theorem good_of {L : List S41} (h1 : L.length ≤ 12) (h2 : ∀ x ∈ L, ruleR x) : goodB L = true := by
 unfold goodB
 rw [Bool.and_eq_true, decide_eq_true_iff, List.all_eq_true]
 exact ⟨h1, fun x hx => decide_eq_true (h2 x hx)⟩
theorem drawMove (l : List Int) (hl : okB l) (K : Nat) (hK : 3000 < K) : ∃ v, spec_DrawMoveRules.f K l = some v := by
 unfold spec_DrawMoveRules.f
 obtain ⟨v, e⟩ := drawIsLeft l hl K hK
 rw [e]
 exact ⟨_, rfl⟩
theorem drawDrop (l : List Int) (hl : okB l) (K : Nat) (hK : 3000 < K) : ∃ v, spec_DrawDropNeedless.f K l = some v := by
 unfold spec_DrawDropNeedless.f spec_DrawAreRules.f
 obtain ⟨L, a1, s1, e1, c1, d1⟩ := rules_ok hl 0 (Int.le_refl 0) (by omega) K hK
 rw [e1]
 exact ⟨_, rfl⟩
theorem drawSame (l : List Int) (hl : okB l) (K : Nat) (hK : 3000000 < K) : ∃ v, spec_DrawAreSameSieve.f K l = some v := by
 unfold spec_DrawAreSameSieve.f
 obtain ⟨L, a1, s1, e1, c1, d1⟩ := rules_ok hl 0 (Int.le_refl 0) (by omega) K (by omega)
 have hj : ∀ (b : Bool) (a s : Int), 0 ≤ a → a ≤ 1000 → ∃ v, spec_DrawAreSameSieve.j0 K L b l a s = some v := by
  intro b a s h0 h1
  obtain ⟨K, rfl⟩ : ∃ k, K = k + 1 := ⟨K - 1, by omega⟩
  simp only [spec_DrawAreSameSieve.j0]
  cases b with
  | true =>
   rw [if_pos rfl, (dropR_at L K (by omega)).1]
   exact ⟨_, rfl⟩
  | false =>
   obtain ⟨M, a2, s2, e2, _⟩ := rules_ok hl s h0 (by omega) K (by omega)
   rw [if_neg (by simp), e2]
   exact ⟨_, rfl⟩
 rw [e1]
 simp only [bs_]
 rw [siGood_at L K (by omega)]
 simp only [bs_]
 by_cases hg : goodB L = true
 ·have hlen := good_len hg
  rw [if_pos hg, (per_at L (by omega) (good_ev hg) K (by omega)).1]
  simp only [bs_]
  by_cases hp : perZ 1 L > 0
  ·obtain ⟨b, a2, s2, e2, c2, d2⟩ := one_ok hl s1 3 c1 (by omega)
   rw [if_pos hp, e2]
   simp only [bs_]
   exact hj _ _ _ c2 (by omega)
  ·rw [if_neg hp]
   exact hj _ _ _ c1 (by omega)
 ·rw [if_neg hg]
  exact hj _ _ _ c1 (by omega)
theorem nums_size (y : List Int) : (strOfNums y).size = y.length := by
 unfold strOfNums
 rw [bl_size]
 simp
theorem spoilt_l0 {l : List Int} (hl : okB l) (w : ByteArray) (hw : 1 ≤ w.size) (hw2 : w.size ≤ 1000) : ∀ (d : Nat) (x : Int) (t : ByteArray) (a s : Int), x ≤ d → t.size + d ≤ 100000 → 0 ≤ a → a + 6 * d ≤ 1000000 →
  ∀ K, 2 * d + 2 < K → ∃ t' a' s', spec_l1Cur_spoilt.l0 K t w x l a s = some (t', a', s') ∧ t'.size ≤ t.size + d := by
 intro d
 induction d with
 | zero =>
  intro x t a s hx ht h0 h1 K hK
  obtain ⟨K, rfl⟩ : ∃ k, K = k + 1 := ⟨K - 1, by omega⟩
  obtain ⟨K, rfl⟩ : ∃ k, K = k + 1 := ⟨K - 1, by omega⟩
  simp only [spec_l1Cur_spoilt.l0, spec_l1Cur_spoilt.j1]
  rw [if_neg (by omega), if_neg (by simp)]
  exact ⟨_, _, _, rfl, by omega⟩
 | succ d ih =>
  intro x t a s hx ht h0 h1 K hK
  obtain ⟨K, rfl⟩ : ∃ k, K = k + 1 := ⟨K - 1, by omega⟩
  obtain ⟨K, rfl⟩ : ∃ k, K = k + 1 := ⟨K - 1, by omega⟩
  have stop : ∃ t' a' s', spec_l1Cur_spoilt.j1 (K + 1) t w x false l a s = some (t', a', s') ∧ t'.size ≤ t.size + (d + 1) := by
   simp only [spec_l1Cur_spoilt.j1]
   rw [if_neg (by simp)]
   exact ⟨_, _, _, rfl, by omega⟩
  simp only [spec_l1Cur_spoilt.l0]
  by_cases hc : x > 0
  ·rw [if_pos hc]
   by_cases hs : (t.size : Int) > 0
   ·rw [decide_eq_true hs]
    obtain ⟨i, a1, s1, e1, i0, i1, c1, d1⟩ := pick_ok hl s (t.size : Int) h0 (by omega)
    obtain ⟨j, a2, s2, e2, j0, j1, c2, d2⟩ := pick_ok hl s1 (w.size : Int) c1 (by omega)
    obtain ⟨z, a3, s3, e3, z0, z1, c3, d3⟩ := pick_ok hl s2 3 c2 (by omega)
    have i1 := i1 (by omega)
    have j1 := j1 (by omega)
    have hwi : wrap64 (i + 1) = i + 1 := w64 (by omega) (by omega)
    have hn := nums_size [bt w j]
    have hn : (strOfNums [bt w j]).size = 1 := hn
    have hA : (t.extract 0 i.toNat).size ≤ i.toNat := by rw [ByteArray.size_extract]; omega
    have hB : (t.extract i.toNat t.size).size ≤ t.size - i.toNat := by rw [ByteArray.size_extract]; omega
    have hC : (t.extract (i + 1).toNat t.size).size ≤ t.size - (i + 1).toNat := by rw [ByteArray.size_extract]; omega
    have go := fun (t2 : ByteArray) (ht2 : t2.size ≤ t.size + 1) => ih (x - 1) t2 a3 s3 (by omega) (by omega) c3 (by omega) K (by omega)
    have hx1 : wrap64 (x - 1) = x - 1 := w64 (by omega) (by omega)
    simp only [spec_l1Cur_spoilt.j1]
    rw [if_pos trivial, e1]
    simp only [bs_]
    rw [e2]
    simp only [bs_]
    rw [if_pos j0, if_pos j1, e3]
    simp only [bs_]
    rw [hwi, hx1]
    by_cases q0 : z = 0
    ·have hsz : ((t.extract 0 i.toNat) ++ (strOfNums [bt w j])).size = (t.extract 0 i.toNat).size + 1 := by rw [ByteArray.size_append, hn]
     have hsz2 : (((t.extract 0 i.toNat) ++ (strOfNums [bt w j])) ++ (t.extract i.toNat t.size)).size ≤ t.size + 1 := by rw [ByteArray.size_append, hsz]; omega
     rw [if_pos q0, if_pos i0, if_pos (by omega), if_pos (by omega), if_pos (by omega)]
     obtain ⟨t', a', s', f1, f2⟩ := go _ hsz2
     exact ⟨t', a', s', f1, by omega⟩
    ·rw [if_neg q0]
     by_cases q1 : z = 1
     ·have hsz : ((t.extract 0 i.toNat) ++ (strOfNums [bt w j])).size = (t.extract 0 i.toNat).size + 1 := by rw [ByteArray.size_append, hn]
      have hsz2 : (((t.extract 0 i.toNat) ++ (strOfNums [bt w j])) ++ (t.extract (i + 1).toNat t.size)).size ≤ t.size + 1 := by rw [ByteArray.size_append, hsz]; omega
      rw [if_pos q1, if_pos i0, if_pos (by omega), if_pos (by omega), if_pos (by omega), if_pos (by omega), if_pos (by omega)]
      obtain ⟨t', a', s', f1, f2⟩ := go _ hsz2
      exact ⟨t', a', s', f1, by omega⟩
     ·have hsz2 : ((t.extract 0 i.toNat) ++ (t.extract (i + 1).toNat t.size)).size ≤ t.size + 1 := by rw [ByteArray.size_append]; omega
      rw [if_neg q1, if_pos i0, if_pos (by omega), if_pos (by omega), if_pos (by omega), if_pos (by omega)]
      obtain ⟨t', a', s', f1, f2⟩ := go _ hsz2
      exact ⟨t', a', s', f1, by omega⟩
   ·rw [decide_eq_false hs]
    exact stop
  ·rw [if_neg hc]
   exact stop
theorem drawParse (l : List Int) (hl : okB l) (K : Nat) (hK : 3000000 < K) : ∃ s, spec_DrawParseRules.f K l = some s ∧ s.size ≤ 1048576 := by
 unfold spec_DrawParseRules.f
 obtain ⟨L, a1, s1, e1, hR, hL, c1, d1⟩ := sure_ok hl 0 4 (by omega) (by omega) (Int.le_refl 0) (by omega) K (by omega)
 have hg := good_of (by omega) hR
 have htl := text_len hg
 obtain ⟨b, a2, s2, e2, c2, d2⟩ := one_ok hl s1 3 c1 (by omega)
 rw [e1]
 simp only [bs_]
 rw [siText_at L hg K (by omega)]
 simp only [bs_]
 rw [e2]
 simp only [bs_]
 cases b with
 | true =>
  unfold spec_l1Cur_spoilt.f
  obtain ⟨x, a3, s3, e3, x0, x1, c3, d3⟩ := pick_ok hl s2 2 c2 (by omega)
  have x1 := x1 (by omega)
  have hw : wrap64 (1 + x) = 1 + x := w64 (by omega) (by omega)
  obtain ⟨t', a', s', f1, f2⟩ := spoilt_l0 hl (⟨#[48, 49, 50, 51, 52, 53, 54, 58, 44, 45]⟩ : ByteArray) (by decide) (by decide) 2 (1 + x) (mkB (textL L)) a3 s3 (by omega) (by rw [mk_size]; omega) c3 (by omega) K (by omega)
  rw [if_pos rfl, e3]
  simp only [bs_]
  rw [hw, f1]
  exact ⟨t', rfl, by rw [mk_size] at f2; omega⟩
 | false =>
  rw [if_neg (by simp)]
  exact ⟨_, rfl, by rw [mk_size]; omega⟩
theorem j6_at (l1 : List Int) (hl1 : okB l1) (K : Nat) (hK : 3000100 < K) : laws_FnSievesMoved.j5 K l1 = some true := by
 obtain ⟨K, rfl⟩ : ∃ k, K = k + 1 := ⟨K - 1, by omega⟩
 obtain ⟨⟨A, B⟩, d1⟩ := drawSame l1 hl1 K (by omega)
 obtain ⟨s, d2, hs⟩ := drawParse l1 hl1 K (by omega)
 obtain ⟨v, hv, _⟩ := sameR_at A B
 have hv := hv K (by omega)
 have hp := parse_at s hs K (by omega)
 have hlen := spec_len s
 obtain ⟨Q, ok, hq⟩ : ∃ Q ok, specZ s = (Q, ok) := ⟨_, _, rfl⟩
 rw [hq] at hp hlen
 have hlen : Q.length ≤ 100 := hlen
 have hT := tRules_at Q (by omega) K (by omega)
 simp only [laws_FnSievesMoved.j5]
 simp only [d1, d2, hv.1, hv.2, hp.1, hp.2, hT, bs_, bne_self_eq_false, Bool.false_eq_true, if_false, if_true]
 cases ok with
 | true =>
  obtain ⟨g1, g2⟩ := specZ_inv s Q hq
  rw [if_pos rfl, (rt_at Q K (by omega)).2]
  unfold rtV
  rw [if_pos g1]
  simp only [bs_]
  rw [if_pos trivial, tl_data, tl_data, bl_mk, g2]
  simp
 | false => rw [if_neg (by simp)]
theorem l1_at (l1 : List Int) (hl1 : okB l1) (R : List S41) (hg : goodB R = true) (h0 : perZ 1 R ≠ 0) : ∀ (d i : Nat), i + d = R.length → ∀ K, 3000200 + d < K →
  laws_FnSievesMoved.l1 K l1 R (perZ 1 R) (((ff (leftB R) (perZ 1 R).toNat 0).length : Nat) : Int) R (R.length : Int) (i : Int) = some true := by
 have hl := good_len hg
 have hr := perZ_range R 1 (by omega) (by omega) (good_ev hg)
 have hd := (perZ_dvd R 1 (by omega) (by omega) (good_ev hg) h0).2
 intro d
 induction d with
 | zero =>
  intro i hi K hK
  obtain ⟨K, rfl⟩ : ∃ k, K = k + 1 := ⟨K - 1, by omega⟩
  have hc : ¬ (i : Int) < (R.length : Int) := by omega
  simp only [laws_FnSievesMoved.l1]
  rw [if_neg hc]
  by_cases hp : perZ 1 R ≤ 600
  ·rw [if_pos hp, countI_at R hg (perZ 1 R) (by omega) K (by omega), lip_turn hg h0]
   simp only [bs_]
   rw [if_pos trivial, if_pos trivial]
   exact j6_at l1 hl1 K (by omega)
  ·rw [if_neg hp]
   exact j6_at l1 hl1 K (by omega)
 | succ d ih =>
  intro i hi K hK
  obtain ⟨K, rfl⟩ : ∃ k, K = k + 1 := ⟨K - 1, by omega⟩
  have hc : (i : Int) < (R.length : Int) := by omega
  have hc0 : (0 : Int) ≤ (i : Int) := by omega
  have hx := good_mem hg _ (rdT_mem R i (by omega))
  have h := ih (i + 1) (by omega) K (by omega)
  simp only [laws_FnSievesMoved.l1]
  rw [if_pos hc, if_pos hc0, if_pos hc, if_neg (by omega), Int.tmod_eq_emod_of_nonneg (by omega), Int.emod_eq_zero_of_dvd (hd _ (rdT_mem R i (by omega))), if_pos rfl, w64 (x := (i : Int) + 1) (by omega) (by omega), show (i : Int) + 1 = ((i + 1 : Nat) : Int) from by omega]
  exact h
theorem needV_len (L : List S41) : (needV L).1.length ≤ 10000 := by
 by_cases h : goodB L = true ∧ perZ 1 L ≠ 0
 ·rw [needV_yes h.1 h.2]
  have := ff_len (fun j => needB L j.toNat (perZ 1 L)) L.length 0
  have := good_len h.1
  show (ff _ L.length 0).length ≤ _
  omega
 ·rw [needV_no h]; simp
theorem dropV_len (L : List S41) : (dropV L).1.length ≤ 1000 := by
 by_cases h : goodB L = true ∧ perZ 1 L ≠ 0
 ·rw [dropV_yes h.1 h.2]
  have := dropZ_len (perZ 1 L) L.length L
  have := good_len h.1
  show (dropZ _ L.length L).length ≤ _
  omega
 ·rw [dropV_no h]; simp
theorem j4_at (l1 : List Int) (hl1 : okB l1) (K : Nat) (hK : 3000400 < K) : laws_FnSievesMoved.j3 K l1 = some true := by
 obtain ⟨K, rfl⟩ : ∃ k, K = k + 1 := ⟨K - 1, by omega⟩
 obtain ⟨R, d0⟩ := drawDrop l1 hl1 K (by omega)
 have e1 := dropR_at R K (by omega)
 have e2 := needR_at R K (by omega)
 have e3 := perR_at R K (by omega)
 have e4 := lip_at R K (by omega)
 have t1 := tRules_at (dropV R).1 (dropV_len R) K (by omega)
 have t2 := tSame_at (needV R).1 (needV_len R) K (by omega)
 simp only [laws_FnSievesMoved.j3]
 simp only [d0, e1.1, e1.2, e2.1, e2.2, e3.1, e3.2, e4.1, e4.2, t1, t2, bs_, bne_self_eq_false, Bool.false_eq_true, if_false, if_true]
 by_cases h : goodB R = true ∧ perZ 1 R ≠ 0
 ·obtain ⟨hg, h0⟩ := h
  obtain ⟨D, d1, d2, d3, d4, d5⟩ := thin hg h0
  have hn2 : (needV R).2 = true := by rw [needV_yes hg h0]
  have hl := good_len hg
  have hr := perZ_range R 1 (by omega) (by omega) (good_ev hg)
  have hfl := ff_len (leftB R) (perZ 1 R).toNat 0
  rw [d1, hn2, perV_yes hg h0, lipV_yes hg h0]
  simp only [bne_self_eq_false, Bool.false_eq_true, if_false, if_true]
  rw [d3 K (by omega), d4 K (by omega)]
  simp only [bs_]
  rw [if_pos trivial, if_pos trivial, if_pos trivial, if_pos (by simp), d5, if_neg (by simp), if_neg (by omega), if_neg (by omega)]
  exact l1_at l1 hl1 R hg h0 R.length 0 (Nat.zero_add _) K (by omega)
 ·have hn2 : (needV R).2 = false := by rw [needV_no h]
  rw [dropV_no h, hn2, perV_no h, lipV_no h]
  simp only [bne_self_eq_false, Bool.false_eq_true, if_false]
  exact j6_at l1 hl1 K (by omega)
theorem l0_at (l1 : List Int) (hl1 : okB l1) (L : List S41) (n : Int) (hg : goodB L = true) : ∀ (d : Nat) (k : Int), -20 ≤ k → 21 - k ≤ d → ∀ K, 3000500 + 2 * d < K →
  laws_FnSievesMoved.l0 K l1 L n (movV L n).1 (movV L n).2 (L.map newX) k = some true := by
 intro d
 induction d with
 | zero =>
  intro k h1 h2 K hK
  obtain ⟨K, rfl⟩ : ∃ k, K = k + 1 := ⟨K - 1, by omega⟩
  simp only [laws_FnSievesMoved.l0]
  rw [if_neg (by omega)]
  exact j4_at l1 hl1 K (by omega)
 | succ d ih =>
  intro k h1 h2 K hK
  obtain ⟨K, rfl⟩ : ∃ k, K = k + 1 := ⟨K - 1, by omega⟩
  simp only [laws_FnSievesMoved.l0]
  by_cases hc : k ≤ 20
  ·have h := ih (k + 1) (by omega) (by omega)
   have hw : wrap64 (-k) = -k := w64 (by omega) (by omega)
   have hstep : ∀ (b : Bool) (K : Nat), 3000501 + 2 * d < K → (b = true → (movV L n).2 = true ∧ -600 ≤ wrap64 (k + n) ∧ wrap64 (k + n) ≤ 600) → laws_FnSievesMoved.j2 K l1 L n (movV L n).1 (movV L n).2 (L.map newX) k (leftB L k) b = some true := by
    intro b K hK hb
    obtain ⟨K, rfl⟩ : ∃ k, K = k + 1 := ⟨K - 1, by omega⟩
    simp only [laws_FnSievesMoved.j2]
    cases b with
    | false =>
     rw [if_neg (by simp), w64 (x := k + 1) (by omega) (by omega)]
     exact h K (by omega)
    | true =>
     obtain ⟨b1, b2, b3⟩ := hb rfl
     have hn : -600 ≤ n ∧ n ≤ 600 := by
      by_cases hn : -600 ≤ n ∧ n ≤ 600
      ·exact hn
      ·rw [movV_no (fun h => hn h.2)] at b1
       cases b1
     have hkn : wrap64 (k + n) = k + n := w64 (by omega) (by omega)
     rw [hkn] at b2 b3
     have hv : (movV L n).1 = L.map (newM n) := by rw [movV_yes hg hn]
     rw [if_pos rfl, hkn, hv, isLeftV_at _ (newM_good hg n hn.1 hn.2) (k + n) ⟨b2, b3⟩, newM_left hg n hn.1 hn.2 k (by omega) (by omega)]
     simp only [bs_, bne_self_eq_false]
     rw [if_pos trivial, if_neg (by simp), w64 (x := k + 1) (by omega) (by omega), ← hv]
     exact h K (by omega)
   rw [if_pos hc, isLeftV_at L hg k (by omega), hw, isLeftV_at _ (newX_good hg) (-k) (by omega), newX_left hg k (by omega) (by omega)]
   simp only [bs_, bne_self_eq_false]
   rw [if_pos trivial, if_pos trivial, if_neg (by simp)]
   by_cases c1 : (movV L n).2 = true
   ·rw [if_pos c1]
    by_cases c2 : wrap64 (k + n) ≥ -600
    ·rw [if_pos c2]
     exact hstep _ K (by omega) (fun hb => ⟨c1, c2, of_decide_eq_true hb⟩)
    ·rw [if_neg c2]
     exact hstep _ K (by omega) (fun hb => by cases hb)
   ·rw [if_neg c1]
    exact hstep _ K (by omega) (fun hb => by cases hb)
  ·rw [if_neg hc]
   exact j4_at l1 hl1 K (by omega)
theorem mirV_len (L : List S41) : (mirV L).1.length ≤ 1000 := by
 by_cases h : goodB L = true
 ·rw [mirV_yes h]
  have := good_len h
  show (L.map newX).length ≤ _
  rw [List.length_map]; omega
 ·rw [mirV_no h]; simp
theorem movV_len (L : List S41) (n : Int) : (movV L n).1.length ≤ 1000 := by
 by_cases h : goodB L = true ∧ (-600 ≤ n ∧ n ≤ 600)
 ·rw [movV_yes h.1 h.2]
  have := good_len h.1
  show (L.map (newM n)).length ≤ _
  rw [List.length_map]; omega
 ·rw [movV_no h]; simp
theorem j1_at (l1 : List Int) (hl1 : okB l1) (L : List S41) (n : Int) (b : Bool) (hb : b = false) (K : Nat) (hK : 3001000 < K) : laws_FnSievesMoved.j0 K l1 L n (movV L n).1 (movV L n).2 (mirV L).1 (mirV L).2 (rtV L).1 b = some true := by
 obtain ⟨K, rfl⟩ : ∃ k, K = k + 1 := ⟨K - 1, by omega⟩
 subst hb
 simp only [laws_FnSievesMoved.j0]
 rw [if_neg (by simp)]
 by_cases hg : goodB L = true
 ·have hl := good_len hg
  have hrt : rtV L = (mkB (textL L), true) := by unfold rtV; rw [if_pos hg]
  have hsz : (mkB (textL L)).size ≤ 1048576 := by
   rw [mk_size]
   have := text_len hg
   omega
  have hp := (parse_at (mkB (textL L)) hsz K (by omega)).2
  rw [specZ_yes (mkB (textL L)) L hg (bl_mk _).symm] at hp
  have hT := tRules_at L (by omega) K (by omega)
  have hm2 := (mir_at (L.map newX) K (by omega)).2
  rw [mirV_yes (newX_good hg), newX_twice hg] at hm2
  rw [mirV_yes hg, hrt]
  simp only []
  rw [if_pos trivial, hm2, hp]
  simp only [bs_]
  rw [if_pos trivial, hT]
  simp only [bs_]
  rw [if_pos trivial, if_pos trivial, if_pos trivial]
  exact l0_at l1 hl1 L n hg 41 (-20) (by omega) (by omega) K (by omega)
 ·rw [mirV_no hg]
  simp only []
  rw [if_neg (by simp)]
  exact j4_at l1 hl1 K (by omega)
theorem f_at (l0 l1 : List Int) (m1 : l1.length ≤ maxLen) (wf0 : ∀ x ∈ l0, (Lit.int .u8 x).wf = true) (wf1 : ∀ x ∈ l1, (Lit.int .u8 x).wf = true) : laws_FnSievesMoved.f 4000000 l0 l1 = some true := by
 obtain ⟨K, hK0⟩ : ∃ K : Nat, K = 4000000 := ⟨_, rfl⟩
 rw [← hK0]
 unfold laws_FnSievesMoved.f
 obtain ⟨bb, hbb, hbs⟩ := big_at l0 l1 m1
 rw [hbb]
 simp only [bs_]
 cases bb with
 | true => rw [if_pos rfl]
 | false =>
 have hl0 := okB_of l0 (hbs rfl).1 wf0
 have hl1 := okB_of l1 (hbs rfl).2 wf1
 obtain ⟨⟨L, n⟩, d1⟩ := drawMove l0 hl0 K (by omega)
 rw [if_neg (by simp)]
 have e1 := mov_at L n K (by omega)
 have e2 := mir_at L K (by omega)
 have e3 := rt_at L K (by omega)
 have e4 := areI_at L
 have t1 := tRules_at (movV L n).1 (movV_len L n) K (by omega)
 have t2 := tRules_at (mirV L).1 (mirV_len L) K (by omega)
 simp only [d1, e1.1, e1.2, e2.1, e2.2, e3.1, e3.2, e4, t1, t2, bs_, bne_self_eq_false, Bool.false_eq_true, if_false, if_true]
 have hm2 : (mirV L).2 = goodB L := by
  by_cases hg : goodB L = true
  ·rw [mirV_yes hg, hg]
  ·rw [mirV_no hg]; simpa using hg
 have hr2 : (rtV L).2 = goodB L := by
  unfold rtV
  by_cases hg : goodB L = true
  ·rw [if_pos hg, hg]
  ·rw [if_neg hg]; simpa using hg
 have hfin : ∀ b : Bool, b = false → laws_FnSievesMoved.j0 K l1 L n (movV L n).1 (movV L n).2 (mirV L).1 (mirV L).2 (rtV L).1 b = some true := fun b hb => j1_at l1 hl1 L n b hb K (by omega)
 rw [hm2] at hfin
 rw [hm2, hr2, bne_self_eq_false, if_neg (by simp), if_neg (by simp)]
 by_cases c1 : (movV L n).2 = true
 ·rw [if_pos c1]
  refine hfin _ ?_
  by_cases hg : goodB L = true
  ·rw [hg]; rfl
  ·rw [movV_no (fun h => hg h.1)] at c1
   cases c1
 ·rw [if_neg c1]
  exact hfin _ rfl

theorem done : laws_FnSievesMoved.Pure := by
 intro l0 l1 h0 _ w0 h1 _ w1
 exact ⟨4000000, f_at l0 l1 h1 w0 w1⟩
end OwnFnSievesMoved
theorem FnSievesMoved : laws_FnSievesMoved.Pure := OwnFnSievesMoved.done
end Go.Proofs.YtnfbdaffbpaagaaGreatDoor.Pure
