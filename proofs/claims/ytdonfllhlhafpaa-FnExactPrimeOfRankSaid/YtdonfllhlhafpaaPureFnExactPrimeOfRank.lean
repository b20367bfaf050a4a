/- PrimeOfRank of the program and of the reference answer alike at every whole number: no condition. -/
import Derived.Test.YtdonfllhlhafpaaPFnExactPrimeOfRankx1
namespace Go.Proofs.Ytdonfllhlhafpaa.Pure
open Go.RowKit Go.Proofs.Ytdonfllhlhafpaa.PFnExactPrimeOfRank Go.Proofs.YtdonfllhlhafpaaW.PrintWords Go.Proofs.YtdonfllhlhafpaaW.PrintLast
set_option linter.unusedVariables false
set_option linter.unusedSimpArgs false
namespace OwnPrimeOfRank
theorem w64 {x : Int} (h0 : -9223372036854775808 ≤ x) (h1 : x ≤ 9223372036854775807) : wrap64 x = x := by unfold wrap64; omega
/-- The least factor of n from d on, with fuel. -/
def lfF : Nat → Int → Int → Int
  | 0, n, _ => n
  | k + 1, n, d => if d * d ≤ n then (if Int.tmod n d = 0 then d else lfF k n (d + 1)) else n
theorem sq_bd {d : Int} (h0 : 0 ≤ d) (h : d ≤ 32000) : 0 ≤ d * d ∧ d * d ≤ 1024000000 :=
  ⟨Int.mul_nonneg h0 h0, by have := Int.mul_le_mul h h h0 (by omega : (0 : Int) ≤ 32000); omega⟩
theorem sq_lt {d n : Int} (hn : n ≤ 1000000000) (h : d * d ≤ n) : d < 32000 := by
  have h1 : ¬ (32000 ≤ d) := fun h2 => by
    have := Int.mul_le_mul h2 h2 (by omega : (0 : Int) ≤ 32000) (by omega : (0 : Int) ≤ d)
    omega
  omega
theorem leastFactor_l0 (n : Int) (hn : n ≤ 1000000000) : ∀ (k : Nat) (d : Int), 2 ≤ d → 32000 ≤ d + k → d ≤ 32000 → ∀ K, k < K → impl_leastFactor.l0 K n d = some (lfF k n d) := by
  intro k
  induction k with
  | zero =>
    intro d h2 h3 h4 K hK
    obtain ⟨K, rfl⟩ : ∃ m, K = m + 1 := ⟨K - 1, by omega⟩
    obtain rfl : d = 32000 := by omega
    simp only [impl_leastFactor.l0, lfF]
    rw [w64 (by omega) (by omega), if_neg (by omega)]
  | succ k ih =>
    intro d h2 h3 h4 K hK
    obtain ⟨K, rfl⟩ : ∃ m, K = m + 1 := ⟨K - 1, by omega⟩
    have hb := sq_bd (by omega : 0 ≤ d) h4
    simp only [impl_leastFactor.l0, lfF]
    rw [w64 (by omega) (by omega)]
    by_cases hc : d * d ≤ n
    · have := sq_lt hn hc
      rw [if_pos hc, if_pos hc, if_neg (by omega)]
      by_cases hm : Int.tmod n d = 0
      · rw [if_pos hm, if_pos hm]
      · rw [if_neg hm, if_neg hm, w64 (by omega) (by omega)]
        exact ih (d + 1) (by omega) (by omega) (by omega) K (by omega)
    · rw [if_neg hc, if_neg hc]
theorem prLeast_l0 : ∀ (K : Nat) (n d : Int), spec_prLeast.l0 K n d = impl_leastFactor.l0 K n d := by
  intro K
  induction K with
  | zero => intro n d; rfl
  | succ K ih => intro n d; simp only [spec_prLeast.l0, impl_leastFactor.l0, ih]
/-- The least factor. -/
def lf (n : Int) : Int := lfF 32000 n 2
theorem leastFactor_at (n : Int) (hn : n ≤ 1000000000) (K : Nat) (hK : 32000 < K) : impl_leastFactor.f K n = some (lf n) :=
  leastFactor_l0 n hn 32000 2 (by omega) (by omega) (by omega) K hK
theorem prLeast_at (n : Int) (hn : n ≤ 1000000000) (K : Nat) (hK : 32000 < K) : spec_prLeast.f K n = some (lf n) := by
  unfold spec_prLeast.f; rw [prLeast_l0]; exact leastFactor_at n hn K hK
/-- Is a number prime? -/
def isP (n : Int) : Bool := if 2 ≤ n then lf n == n else false
theorem isPrime_at (n : Int) (hn : n ≤ 1000000000) (K : Nat) (hK : 32000 < K) : impl_isPrime.f K n = some (isP n) := by
  unfold impl_isPrime.f isP
  rw [leastFactor_at n hn K hK]
  by_cases h : 2 ≤ n
  · rw [if_pos (by omega), if_pos h]; rfl
  · rw [if_neg (by omega), if_neg h]
theorem prIs_at (n : Int) (hn : n ≤ 1000000000) (K : Nat) (hK : 32000 < K) : spec_prIs.f K n = some (isP n) := by
  unfold spec_prIs.f isP
  rw [prLeast_at n hn K hK]
  by_cases h : 2 ≤ n
  · rw [if_pos (by omega), if_pos h]; rfl
  · rw [if_neg (by omega), if_neg h]
theorem l1In_at (n a b : Int) : spec_l1In.f n a b = some (decide (a ≤ n ∧ n ≤ b)) := by
  unfold spec_l1In.f
  by_cases h : a ≤ n
  · rw [if_pos (by omega)]; simp [h]
  · rw [if_neg (by omega)]; simp [h]
/-- The primes among d numbers from n on. -/
def pf : Nat → Int → List Int
  | 0, _ => []
  | d + 1, n => if isP n = true then n :: pf d (n + 1) else pf d (n + 1)
theorem pf_succ (d : Nat) (n : Int) : pf (d + 1) n = if isP n = true then n :: pf d (n + 1) else pf d (n + 1) := rfl
theorem pf_len : ∀ (d : Nat) (n : Int), (pf d n).length ≤ d
  | 0, _ => Nat.le_refl _
  | d + 1, n => by
    unfold pf
    have := pf_len d (n + 1)
    split
    · simp; omega
    · omega
theorem pf_mem : ∀ (d : Nat) (n p : Int), p ∈ pf d n ↔ n ≤ p ∧ p < n + d ∧ isP p = true
  | 0, n, p => by simp [pf]; omega
  | d + 1, n, p => by
    unfold pf
    have ih := pf_mem d (n + 1) p
    by_cases h : isP n = true
    · rw [if_pos h, List.mem_cons, ih]
      constructor
      · rintro (rfl | ⟨h1, h2, h3⟩)
        · exact ⟨by omega, by omega, h⟩
        · exact ⟨by omega, by omega, h3⟩
      · rintro ⟨h1, h2, h3⟩
        by_cases e : p = n
        · exact .inl e
        · exact .inr ⟨by omega, by omega, h3⟩
    · rw [if_neg h, ih]
      constructor
      · rintro ⟨h1, h2, h3⟩
        exact ⟨by omega, by omega, h3⟩
      · rintro ⟨h1, h2, h3⟩
        by_cases e : p = n
        · subst e; exact absurd h3 h
        · exact ⟨by omega, by omega, h3⟩
theorem pf_add : ∀ (a b : Nat) (n : Int), pf (a + b) n = pf a n ++ pf b (n + a)
  | 0, b, n => by simp [pf]
  | a + 1, b, n => by
    rw [show a + 1 + b = (a + b) + 1 from by omega]
    rw [pf_succ, pf_succ, pf_add a b (n + 1), show n + 1 + (a : Int) = n + ((a + 1 : Nat) : Int) from by omega]
    split <;> simp
theorem primesBetween_l0 (hi : Int) (hh : hi ≤ 1000000) : ∀ (d : Nat) (n : Int) (acc : List Int), 0 ≤ n → hi + 1 - n ≤ d → n ≤ hi + 1 → acc.length + d ≤ 2000000 →
    ∀ K, 32001 + d < K → impl_primesBetween.l0 K hi acc n = some (acc ++ pf (hi + 1 - n).toNat n) := by
  intro d
  induction d with
  | zero =>
    intro n acc h0 h1 h2 h3 K hK
    obtain ⟨K, rfl⟩ : ∃ k, K = k + 1 := ⟨K - 1, by omega⟩
    simp only [impl_primesBetween.l0]
    rw [if_neg (by omega), show (hi + 1 - n).toNat = 0 from by omega]
    simp [pf]
  | succ d ih =>
    intro n acc h0 h1 h2 h3 K hK
    obtain ⟨K, rfl⟩ : ∃ k, K = k + 1 := ⟨K - 1, by omega⟩
    simp only [impl_primesBetween.l0]
    by_cases hc : n ≤ hi
    · rw [if_pos hc, isPrime_at n (by omega) K (by omega), w64 (by omega) (by omega)]
      simp only [Option.bind_some]
      rw [show (hi + 1 - n).toNat = (hi + 1 - (n + 1)).toNat + 1 from by omega]
      unfold pf
      by_cases hp : isP n = true
      · rw [if_pos hp, if_pos hp, if_pos (by omega), ih (n + 1) (acc ++ [n]) (by omega) (by omega) (by omega) (by simp; omega) K (by omega)]
        simp
      · rw [if_neg hp, if_neg hp, ih (n + 1) acc (by omega) (by omega) (by omega) (by omega) K (by omega)]
    · rw [if_neg hc, show (hi + 1 - n).toNat = 0 from by omega]
      simp [pf]
theorem primesBetween_at (hi : Int) (h0 : 0 ≤ hi) (hh : hi ≤ 10000) (K : Nat) (hK : 52002 < K) : impl_primesBetween.f K 0 hi = some (pf (hi + 1).toNat 0) := by
  unfold impl_primesBetween.f
  rw [primesBetween_l0 hi (by omega) 20000 0 [] (by omega) (by omega) (by omega) (by simp) K (by omega)]
  simp
/-- So many primes there are up to 10000. -/
theorem pf_many : (pf 10001 0).length = 1229 := by decide +kernel
theorem prFirst_l0 (x : Int) (hx : x ≤ 10000) : ∀ (d : Nat) (n : Int) (acc : List Int), 0 ≤ n → n + d ≤ 1000000 → (acc.length : Int) ≤ x → x ≤ acc.length + (pf d n).length →
    ∀ K, 32001 + d < K → spec_prFirst.l0 K x acc n = some ((acc ++ pf d n).take x.toNat) := by
  intro d
  induction d with
  | zero =>
    intro n acc h0 h1 h2 h3 K hK
    obtain ⟨K, rfl⟩ : ∃ k, K = k + 1 := ⟨K - 1, by omega⟩
    simp only [pf, List.length_nil] at h3
    simp only [spec_prFirst.l0]
    rw [if_neg (by omega)]
    simp only [pf, List.append_nil]
    rw [List.take_of_length_le (by omega)]
  | succ d ih =>
    intro n acc h0 h1 h2 h3 K hK
    obtain ⟨K, rfl⟩ : ∃ k, K = k + 1 := ⟨K - 1, by omega⟩
    simp only [spec_prFirst.l0]
    by_cases hc : (acc.length : Int) < x
    · rw [if_pos hc, prIs_at n (by omega) K (by omega), w64 (by omega) (by omega)]
      simp only [Option.bind_some]
      unfold pf
      unfold pf at h3
      by_cases hp : isP n = true
      · rw [if_pos hp] at h3
        rw [if_pos hp, if_pos hp, if_pos (by omega), ih (n + 1) (acc ++ [n]) (by omega) (by omega) (by simp; omega) (by simp at h3 ⊢; omega) K (by omega)]
        simp
      · rw [if_neg hp] at h3
        rw [if_neg hp, if_neg hp, ih (n + 1) acc (by omega) (by omega) (by omega) (by omega) K (by omega)]
    · rw [if_neg hc, List.take_append_of_le_length (by omega), List.take_of_length_le (by omega)]
theorem isP_0 : isP 0 = false := by decide
theorem isP_1 : isP 1 = false := by decide
theorem pf_from2 : pf 10001 0 = pf 9999 2 := by
  rw [show 10001 = 9999 + 1 + 1 from rfl]
  rw [pf, isP_0, if_neg (by simp), pf, Int.zero_add, isP_1, if_neg (by simp)]
  rfl

theorem done : laws_FnExactPrimeOfRank.Pure := by
  intro n _
  by_cases h1 : 0 ≤ n ∧ n ≤ 1228
  · refine ⟨60000, ?_⟩
    have hm := pf_many
    have hf := prFirst_l0 (n + 1) (by omega) 9999 2 [] (by omega) (by omega) (by simp; omega) (by rw [← pf_from2, hm]; simp; omega) 60000 (by omega)
    unfold laws_FnExactPrimeOfRank.f spec_PrimeOfRank.f impl_PrimeOfRank.f spec_prFirst.f
    rw [l1In_at, decide_eq_true h1, if_neg (by omega), if_neg (by omega), w64 (by omega) (by omega), hf, primesBetween_at 10000 (by omega) (by omega) _ (by omega)]
    simp only [Option.bind_some, List.nil_append]
    rw [show ((10000 : Int) + 1).toNat = 10001 from rfl, ← pf_from2]
    have hl : ((pf 10001 0).take (n + 1).toNat).length = (n + 1).toNat := by rw [List.length_take, hm]; omega
    rw [if_pos trivial, if_pos h1.1, if_pos h1.1, hl, if_pos (by omega), hm, if_pos (by omega)]
    have hr : rd ((pf 10001 0).take (n + 1).toNat) n = rd (pf 10001 0) n := by
      unfold rd
      rw [List.getD_eq_getElem?_getD, List.getD_eq_getElem?_getD, List.getElem?_take_of_lt (by omega)]
    simp only [Option.bind_some]
    rw [hr]
    simp
  · refine ⟨1, ?_⟩
    unfold laws_FnExactPrimeOfRank.f spec_PrimeOfRank.f impl_PrimeOfRank.f
    rw [l1In_at, decide_eq_false h1]
    simp only [Option.bind_some]
    rw [if_neg (by simp)]
    by_cases h2 : n < 0
    · rw [if_pos h2]; rfl
    · rw [if_neg h2, if_pos (by omega)]; rfl
end OwnPrimeOfRank
theorem FnExactPrimeOfRank : laws_FnExactPrimeOfRank.Pure := OwnPrimeOfRank.done
end Go.Proofs.Ytdonfllhlhafpaa.Pure
