/- FirstTwoPrimes of the program and of the reference answer alike at every whole number: no condition. -/
import Derived.Test.YtdonfllhlhafpaaPFnExactFirstTwoPrimesx2
namespace Go.Proofs.Ytdonfllhlhafpaa.Pure
open Go.RowKit Go.Proofs.Ytdonfllhlhafpaa.PFnExactFirstTwoPrimes Go.Proofs.YtdonfllhlhafpaaW.PrintWords Go.Proofs.YtdonfllhlhafpaaW.PrintLast
set_option linter.unusedVariables false
set_option linter.unusedSimpArgs false
namespace OwnFirstTwoPrimes
theorem w64 {x : Int} (h0 : -9223372036854775808 ≤ x) (h1 : x ≤ 9223372036854775807) : wrap64 x = x := by unfold wrap64; omega
/-- The least factor of n from d on, with fuel. -/
def lfF : Nat → Int → Int → Int
  | 0, n, _ => n
  | k + 1, n, d => if d * d ≤ n then (if Int.tmod n d = 0 then d else lfF k n (d + 1)) else n
theorem sq_bd {d : Int} (h0 : 0 ≤ d) (h : d ≤ 32000) : 0 ≤ d * d ∧ d * d ≤ 1024000000 :=
  ⟨Int.mul_nonneg h0 h0, by have := Int.mul_le_mul h h h0 (by omega : (0 : Int) ≤ 32000); omega⟩
theorem sq_lt {d n : Int} (hn : n ≤ 1000000000) (h : d * d ≤ n) : d < 32000 := by
  have h1 : ¬ (32000 ≤ d) := fun h2 => by
    have := Int.mul_le_mul h2 h2 (by omega : (0 : Int) ≤ 32000) (by omega : (0 : Int) ≤ d)
    omega
  omega
theorem leastFactor_l0 (n : Int) (hn : n ≤ 1000000000) : ∀ (k : Nat) (d : Int), 2 ≤ d → 32000 ≤ d + k → d ≤ 32000 → ∀ K, k < K → impl_leastFactor.l0 K n d = some (lfF k n d) := by
  intro k
  induction k with
  | zero =>
    intro d h2 h3 h4 K hK
    obtain ⟨K, rfl⟩ : ∃ m, K = m + 1 := ⟨K - 1, by omega⟩
    obtain rfl : d = 32000 := by omega
    simp only [impl_leastFactor.l0, lfF]
    rw [w64 (by omega) (by omega), if_neg (by omega)]
  | succ k ih =>
    intro d h2 h3 h4 K hK
    obtain ⟨K, rfl⟩ : ∃ m, K = m + 1 := ⟨K - 1, by omega⟩
    have hb := sq_bd (by omega : 0 ≤ d) h4
    simp only [impl_leastFactor.l0, lfF]
    rw [w64 (by omega) (by omega)]
    by_cases hc : d * d ≤ n
    · have := sq_lt hn hc
      rw [if_pos hc, if_pos hc, if_neg (by omega)]
      by_cases hm : Int.tmod n d = 0
      · rw [if_pos hm, if_pos hm]
      · rw [if_neg hm, if_neg hm, w64 (by omega) (by omega)]
        exact ih (d + 1) (by omega) (by omega) (by omega) K (by omega)
    · rw [if_neg hc, if_neg hc]
theorem prLeast_l0 : ∀ (K : Nat) (n d : Int), spec_prLeast.l0 K n d = impl_leastFactor.l0 K n d := by
  intro K
  induction K with
  | zero => intro n d; rfl
  | succ K ih => intro n d; simp only [spec_prLeast.l0, impl_leastFactor.l0, ih]
/-- The least factor. -/
def lf (n : Int) : Int := lfF 32000 n 2
theorem leastFactor_at (n : Int) (hn : n ≤ 1000000000) (K : Nat) (hK : 32000 < K) : impl_leastFactor.f K n = some (lf n) :=
  leastFactor_l0 n hn 32000 2 (by omega) (by omega) (by omega) K hK
theorem prLeast_at (n : Int) (hn : n ≤ 1000000000) (K : Nat) (hK : 32000 < K) : spec_prLeast.f K n = some (lf n) := by
  unfold spec_prLeast.f; rw [prLeast_l0]; exact leastFactor_at n hn K hK
/-- Is a number prime? -/
def isP (n : Int) : Bool := if 2 ≤ n then lf n == n else false
theorem isPrime_at (n : Int) (hn : n ≤ 1000000000) (K : Nat) (hK : 32000 < K) : impl_isPrime.f K n = some (isP n) := by
  unfold impl_isPrime.f isP
  rw [leastFactor_at n hn K hK]
  by_cases h : 2 ≤ n
  · rw [if_pos (by omega), if_pos h]; rfl
  · rw [if_neg (by omega), if_neg h]
theorem prIs_at (n : Int) (hn : n ≤ 1000000000) (K : Nat) (hK : 32000 < K) : spec_prIs.f K n = some (isP n) := by
  unfold spec_prIs.f isP
  rw [prLeast_at n hn K hK]
  by_cases h : 2 ≤ n
  · rw [if_pos (by omega), if_pos h]; rfl
  · rw [if_neg (by omega), if_neg h]
theorem l1In_at (n a b : Int) : spec_l1In.f n a b = some (decide (a ≤ n ∧ n ≤ b)) := by
  unfold spec_l1In.f
  by_cases h : a ≤ n
  · rw [if_pos (by omega)]; simp [h]
  · rw [if_neg (by omega)]; simp [h]
/-- The primes among d numbers from n on. -/
def pf : Nat → Int → List Int
  | 0, _ => []
  | d + 1, n => if isP n = true then n :: pf d (n + 1) else pf d (n + 1)
theorem pf_succ (d : Nat) (n : Int) : pf (d + 1) n = if isP n = true then n :: pf d (n + 1) else pf d (n + 1) := rfl
theorem pf_len : ∀ (d : Nat) (n : Int), (pf d n).length ≤ d
  | 0, _ => Nat.le_refl _
  | d + 1, n => by
    unfold pf
    have := pf_len d (n + 1)
    split
    · simp; omega
    · omega
theorem pf_mem : ∀ (d : Nat) (n p : Int), p ∈ pf d n ↔ n ≤ p ∧ p < n + d ∧ isP p = true
  | 0, n, p => by simp [pf]; omega
  | d + 1, n, p => by
    unfold pf
    have ih := pf_mem d (n + 1) p
    by_cases h : isP n = true
    · rw [if_pos h, List.mem_cons, ih]
      constructor
      · rintro (rfl | ⟨h1, h2, h3⟩)
        · exact ⟨by omega, by omega, h⟩
        · exact ⟨by omega, by omega, h3⟩
      · rintro ⟨h1, h2, h3⟩
        by_cases e : p = n
        · exact .inl e
        · exact .inr ⟨by omega, by omega, h3⟩
    · rw [if_neg h, ih]
      constructor
      · rintro ⟨h1, h2, h3⟩
        exact ⟨by omega, by omega, h3⟩
      · rintro ⟨h1, h2, h3⟩
        by_cases e : p = n
        · subst e; exact absurd h3 h
        · exact ⟨by omega, by omega, h3⟩
theorem pf_add : ∀ (a b : Nat) (n : Int), pf (a + b) n = pf a n ++ pf b (n + a)
  | 0, b, n => by simp [pf]
  | a + 1, b, n => by
    rw [show a + 1 + b = (a + b) + 1 from by omega]
    rw [pf_succ, pf_succ, pf_add a b (n + 1), show n + 1 + (a : Int) = n + ((a + 1 : Nat) : Int) from by omega]
    split <;> simp
theorem primesBetween_l0 (hi : Int) (hh : hi ≤ 1000000) : ∀ (d : Nat) (n : Int) (acc : List Int), 0 ≤ n → hi + 1 - n ≤ d → n ≤ hi + 1 → acc.length + d ≤ 2000000 →
    ∀ K, 32001 + d < K → impl_primesBetween.l0 K hi acc n = some (acc ++ pf (hi + 1 - n).toNat n) := by
  intro d
  induction d with
  | zero =>
    intro n acc h0 h1 h2 h3 K hK
    obtain ⟨K, rfl⟩ : ∃ k, K = k + 1 := ⟨K - 1, by omega⟩
    simp only [impl_primesBetween.l0]
    rw [if_neg (by omega), show (hi + 1 - n).toNat = 0 from by omega]
    simp [pf]
  | succ d ih =>
    intro n acc h0 h1 h2 h3 K hK
    obtain ⟨K, rfl⟩ : ∃ k, K = k + 1 := ⟨K - 1, by omega⟩
    simp only [impl_primesBetween.l0]
    by_cases hc : n ≤ hi
    · rw [if_pos hc, isPrime_at n (by omega) K (by omega), w64 (by omega) (by omega)]
      simp only [Option.bind_some]
      rw [show (hi + 1 - n).toNat = (hi + 1 - (n + 1)).toNat + 1 from by omega]
      unfold pf
      by_cases hp : isP n = true
      · rw [if_pos hp, if_pos hp, if_pos (by omega), ih (n + 1) (acc ++ [n]) (by omega) (by omega) (by omega) (by simp; omega) K (by omega)]
        simp
      · rw [if_neg hp, if_neg hp, ih (n + 1) acc (by omega) (by omega) (by omega) (by omega) K (by omega)]
    · rw [if_neg hc, show (hi + 1 - n).toNat = 0 from by omega]
      simp [pf]
theorem primesBetween_at (hi : Int) (h0 : 0 ≤ hi) (hh : hi ≤ 10000) (K : Nat) (hK : 52002 < K) : impl_primesBetween.f K 0 hi = some (pf (hi + 1).toNat 0) := by
  unfold impl_primesBetween.f
  rw [primesBetween_l0 hi (by omega) 20000 0 [] (by omega) (by omega) (by omega) (by simp) K (by omega)]
  simp
theorem isP_0 : isP 0 = false := by decide
theorem isP_1 : isP 1 = false := by decide
theorem pf_skip (d : Nat) : pf (d + 2) 0 = pf d 2 := by
  rw [pf_succ, isP_0, if_neg (by simp), pf_succ, Int.zero_add, isP_1, if_neg (by simp)]
  rfl
theorem drop_rd (xs : List Int) (i : Nat) (h : i < xs.length) : xs.drop i = rd xs (i : Int) :: xs.drop (i + 1) := by
  rw [List.drop_eq_getElem_cons h]
  simp [rd, List.getD, h]
theorem rd_mem (xs : List Int) (i : Nat) (h : i < xs.length) : rd xs (i : Int) ∈ xs := by
  simp [rd, List.getD, h]
/-- The pairs' least primes. -/
def Q (n p : Int) : Bool := isP (n - p)
theorem prPairs_l0 (n : Int) (hn : n ≤ 10000) : ∀ (d : Nat) (p : Int) (acc : List Int), 0 ≤ p → n / 2 + 1 - p ≤ d → p ≤ n / 2 + 1 → acc.length + d ≤ 2000000 →
    ∀ K, 32001 + d < K → spec_prPairs.l0 K n acc p = some (acc ++ (pf (n / 2 + 1 - p).toNat p).filter (Q n)) := by
  intro d
  induction d with
  | zero =>
    intro p acc h0 h1 h2 h3 K hK
    obtain ⟨K, rfl⟩ : ∃ k, K = k + 1 := ⟨K - 1, by omega⟩
    simp only [spec_prPairs.l0]
    rw [w64 (by omega) (by omega), if_neg (by omega), show (n / 2 + 1 - p).toNat = 0 from by omega]
    simp [pf]
  | succ d ih =>
    intro p acc h0 h1 h2 h3 K hK
    obtain ⟨K, rfl⟩ : ∃ k, K = k + 1 := ⟨K - 1, by omega⟩
    simp only [spec_prPairs.l0]
    by_cases hc : 2 * p ≤ n
    · rw [w64 (x := 2 * p) (by omega) (by omega), if_pos hc, prIs_at p (by omega) K (by omega), w64 (x := n - p) (by omega) (by omega), prIs_at (n - p) (by omega) K (by omega), w64 (x := p + 1) (by omega) (by omega)]
      simp only [Option.bind_some]
      rw [show (n / 2 + 1 - p).toNat = (n / 2 + 1 - (p + 1)).toNat + 1 from by omega, pf_succ]
      by_cases hp : isP p = true
      · rw [if_pos hp, if_pos hp]
        by_cases hq : isP (n - p) = true
        · rw [if_pos hq, if_pos (by omega), ih (p + 1) (acc ++ [p]) (by omega) (by omega) (by omega) (by simp; omega) K (by omega)]
          simp [List.filter_cons, Q, hq]
        · rw [if_neg hq, ih (p + 1) acc (by omega) (by omega) (by omega) (by omega) K (by omega)]
          simp [List.filter_cons, Q, hq]
      · rw [if_neg hp, if_neg hp, ih (p + 1) acc (by omega) (by omega) (by omega) (by omega) K (by omega)]
    · rw [w64 (x := 2 * p) (by omega) (by omega), if_neg hc, show (n / 2 + 1 - p).toNat = 0 from by omega]
      simp [pf]
theorem prPairs_at (n : Int) (h4 : 4 ≤ n) (hn : n ≤ 10000) (K : Nat) (hK : 52002 < K) : spec_prPairs.f K n = some ((pf (n / 2 - 1).toNat 2).filter (Q n)) := by
  unfold spec_prPairs.f
  rw [prPairs_l0 n hn 20000 2 [] (by omega) (by omega) (by omega) (by simp) K (by omega), show n / 2 + 1 - 2 = n / 2 - 1 from by omega]
  simp
theorem first_l0 (n : Int) (h0 : 0 ≤ n) (hn : n ≤ 10000) (xs : List Int) (hx : ∀ p ∈ xs, 0 ≤ p ∧ p ≤ 10000) (hl : xs.length ≤ 20000) : ∀ (d i : Nat), i + d = xs.length →
    ∀ K, 32001 + d < K → impl_FirstTwoPrimes.l0 K n xs xs.length i = some (match (xs.drop i).find? (Q n) with | some p => (p, n - p, true) | none => (0, 0, false)) := by
  intro d
  induction d with
  | zero =>
    intro i hi K hK
    obtain ⟨K, rfl⟩ : ∃ k, K = k + 1 := ⟨K - 1, by omega⟩
    simp only [impl_FirstTwoPrimes.l0]
    rw [if_neg (by omega), List.drop_of_length_le (by omega)]
    simp
  | succ d ih =>
    intro i hi K hK
    obtain ⟨K, rfl⟩ : ∃ k, K = k + 1 := ⟨K - 1, by omega⟩
    have hm := hx _ (rd_mem xs i (by omega))
    have hlt : (i : Int) < (xs.length : Int) := by omega
    have hi0 : (0 : Int) ≤ (i : Int) := by omega
    simp only [impl_FirstTwoPrimes.l0]
    rw [if_pos hlt, if_pos hi0, if_pos hlt, w64 (x := n - rd xs i) (by omega) (by omega), isPrime_at _ (by omega) K (by omega), w64 (x := (i : Int) + 1) (by omega) (by omega), drop_rd xs i (by omega)]
    simp only [Option.bind_some]
    by_cases hq : isP (n - rd xs i) = true
    · rw [if_pos hq]
      simp [List.find?_cons, Q, hq]
    · rw [if_neg hq]
      have := ih (i + 1) (by omega) K (by omega)
      rw [show ((i + 1 : Nat) : Int) = (i : Int) + 1 from by omega] at this
      rw [this]
      simp [List.find?_cons, Q, hq]
/-- If a number is a sum of two primes, the least of all such is no greater than its half. -/
theorem find_half (n : Int) (h4 : 4 ≤ n) : (pf (n + 1).toNat 0).find? (Q n) = ((pf (n / 2 - 1).toNat 2).filter (Q n)).head? := by
  have hs := pf_skip (n / 2 - 1).toNat
  have h1 := pf_add (n / 2 + 1).toNat (n - n / 2).toNat 0
  rw [show (n / 2 + 1).toNat + (n - n / 2).toNat = (n + 1).toNat from by omega] at h1
  rw [h1, List.find?_append, show (n / 2 + 1).toNat = (n / 2 - 1).toNat + 2 from by omega, hs, List.head?_filter]
  cases hf : (pf (n / 2 - 1).toNat 2).find? (Q n) with
  | some p => rfl
  | none =>
    simp only [Option.none_or]
    rw [List.find?_eq_none] at hf ⊢
    intro p hp hq
    have hp' := (pf_mem _ _ _).1 hp
    have hq' : isP (n - p) = true := hq
    by_cases h2 : 2 ≤ n - p
    · refine hf (n - p) ((pf_mem _ _ _).2 ⟨h2, by omega, hq'⟩) ?_
      show isP (n - (n - p)) = true
      rw [show n - (n - p) = p from by omega]
      exact hp'.2.2
    · unfold isP at hq'
      rw [if_neg h2] at hq'
      cases hq'

theorem done : laws_FnExactFirstTwoPrimes.Pure := by
  intro n _
  by_cases h1 : 4 ≤ n ∧ n ≤ 10000
  · refine ⟨80000, ?_⟩
    have hp := primesBetween_at n (by omega) (by omega) 79999 (by omega)
    have hlen := pf_len (n + 1).toNat 0
    have hc := first_l0 n (by omega) h1.2 (pf (n + 1).toNat 0) (fun p hp => by have := (pf_mem _ _ _).1 hp; omega) (by omega) (pf (n + 1).toNat 0).length 0 (by omega) 79999 (by omega)
    unfold laws_FnExactFirstTwoPrimes.f spec_FirstTwoPrimes.f impl_FirstTwoPrimes.f
    rw [l1In_at, decide_eq_true h1, if_neg (by omega), decide_eq_false (by omega)]
    simp only [Option.bind_some, impl_FirstTwoPrimes.j0]
    rw [if_pos trivial, prPairs_at n h1.1 h1.2 _ (by omega), if_neg (by simp), hp]
    simp only [Option.bind_some]
    rw [List.drop_zero, find_half n h1.1] at hc
    have hc' : impl_FirstTwoPrimes.l0 79999 n (pf (n + 1).toNat 0) ((pf (n + 1).toNat 0).length : Int) 0 = _ := hc
    rw [hc']
    cases hL : (pf (n / 2 - 1).toNat 2).filter (Q n) with
    | nil => simp
    | cons p ps =>
      have hm : p ∈ (pf (n / 2 - 1).toNat 2).filter (Q n) := by rw [hL]; simp
      have hm' := (pf_mem _ _ _).1 (List.mem_filter.1 hm).1
      have e1 : rd (p :: ps) 0 = p := rfl
      rw [if_neg (by simp <;> omega), if_pos (by simp <;> omega), e1, w64 (by omega) (by omega)]
      simp
  · refine ⟨1, ?_⟩
    unfold laws_FnExactFirstTwoPrimes.f spec_FirstTwoPrimes.f impl_FirstTwoPrimes.f
    rw [l1In_at, decide_eq_false h1]
    simp only [Option.bind_some, impl_FirstTwoPrimes.j0]
    rw [if_neg (by simp)]
    by_cases h2 : n < 4
    · rw [if_pos h2]; rfl
    · rw [if_neg h2, decide_eq_true (by omega)]; rfl
end OwnFirstTwoPrimes
theorem FnExactFirstTwoPrimes : laws_FnExactFirstTwoPrimes.Pure := OwnFirstTwoPrimes.done
end Go.Proofs.Ytdonfllhlhafpaa.Pure
