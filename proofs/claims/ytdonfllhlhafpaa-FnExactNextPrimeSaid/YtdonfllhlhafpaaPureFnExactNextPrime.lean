/- NextPrime of the program and of the reference answer alike at every whole number: no condition. -/
import Derived.Test.YtdonfllhlhafpaaPFnExactNextPrimex1
namespace Go.Proofs.Ytdonfllhlhafpaa.Pure
open Go.RowKit Go.Proofs.Ytdonfllhlhafpaa.PFnExactNextPrime Go.Proofs.YtdonfllhlhafpaaW.PrintWords Go.Proofs.YtdonfllhlhafpaaW.PrintLast
namespace OwnNextPrime
theorem w64 {x : Int} (h0 : -9223372036854775808 ≤ x) (h1 : x ≤ 9223372036854775807) : wrap64 x = x := by unfold wrap64; omega
/-- The least factor of n from d on, with fuel. -/
def lfF : Nat → Int → Int → Int
  | 0, n, _ => n
  | k + 1, n, d => if d * d ≤ n then (if Int.tmod n d = 0 then d else lfF k n (d + 1)) else n
theorem sq_bd {d : Int} (h0 : 0 ≤ d) (h : d ≤ 32000) : 0 ≤ d * d ∧ d * d ≤ 1024000000 :=
  ⟨Int.mul_nonneg h0 h0, by have := Int.mul_le_mul h h h0 (by omega : (0 : Int) ≤ 32000); omega⟩
theorem sq_lt {d n : Int} (hn : n ≤ 1000000000) (h : d * d ≤ n) : d < 32000 := by
  have h1 : ¬ (32000 ≤ d) := fun h2 => by
    have := Int.mul_le_mul h2 h2 (by omega : (0 : Int) ≤ 32000) (by omega : (0 : Int) ≤ d)
    omega
  omega
theorem leastFactor_l0 (n : Int) (hn : n ≤ 1000000000) : ∀ (k : Nat) (d : Int), 2 ≤ d → 32000 ≤ d + k → d ≤ 32000 → ∀ K, k < K → impl_leastFactor.l0 K n d = some (lfF k n d) := by
  intro k
  induction k with
  | zero =>
    intro d h2 h3 h4 K hK
    obtain ⟨K, rfl⟩ : ∃ m, K = m + 1 := ⟨K - 1, by omega⟩
    obtain rfl : d = 32000 := by omega
    simp only [impl_leastFactor.l0, lfF]
    rw [w64 (by omega) (by omega), if_neg (by omega)]
  | succ k ih =>
    intro d h2 h3 h4 K hK
    obtain ⟨K, rfl⟩ : ∃ m, K = m + 1 := ⟨K - 1, by omega⟩
    have hb := sq_bd (by omega : 0 ≤ d) h4
    simp only [impl_leastFactor.l0, lfF]
    rw [w64 (by omega) (by omega)]
    by_cases hc : d * d ≤ n
    · have := sq_lt hn hc
      rw [if_pos hc, if_pos hc, if_neg (by omega)]
      by_cases hm : Int.tmod n d = 0
      · rw [if_pos hm, if_pos hm]
      · rw [if_neg hm, if_neg hm, w64 (by omega) (by omega)]
        exact ih (d + 1) (by omega) (by omega) (by omega) K (by omega)
    · rw [if_neg hc, if_neg hc]
theorem prLeast_l0 : ∀ (K : Nat) (n d : Int), spec_prLeast.l0 K n d = impl_leastFactor.l0 K n d := by
  intro K
  induction K with
  | zero => intro n d; rfl
  | succ K ih => intro n d; simp only [spec_prLeast.l0, impl_leastFactor.l0, ih]
/-- The least factor. -/
def lf (n : Int) : Int := lfF 32000 n 2
theorem leastFactor_at (n : Int) (hn : n ≤ 1000000000) (K : Nat) (hK : 32000 < K) : impl_leastFactor.f K n = some (lf n) :=
  leastFactor_l0 n hn 32000 2 (by omega) (by omega) (by omega) K hK
theorem prLeast_at (n : Int) (hn : n ≤ 1000000000) (K : Nat) (hK : 32000 < K) : spec_prLeast.f K n = some (lf n) := by
  unfold spec_prLeast.f; rw [prLeast_l0]; exact leastFactor_at n hn K hK
/-- Is a number prime? -/
def isP (n : Int) : Bool := if 2 ≤ n then lf n == n else false
theorem isPrime_at (n : Int) (hn : n ≤ 1000000000) (K : Nat) (hK : 32000 < K) : impl_isPrime.f K n = some (isP n) := by
  unfold impl_isPrime.f isP
  rw [leastFactor_at n hn K hK]
  by_cases h : 2 ≤ n
  · rw [if_pos (by omega), if_pos h]; rfl
  · rw [if_neg (by omega), if_neg h]
theorem prIs_at (n : Int) (hn : n ≤ 1000000000) (K : Nat) (hK : 32000 < K) : spec_prIs.f K n = some (isP n) := by
  unfold spec_prIs.f isP
  rw [prLeast_at n hn K hK]
  by_cases h : 2 ≤ n
  · rw [if_pos (by omega), if_pos h]; rfl
  · rw [if_neg (by omega), if_neg h]
theorem l1In_at (n a b : Int) : spec_l1In.f n a b = some (decide (a ≤ n ∧ n ≤ b)) := by
  unfold spec_l1In.f
  by_cases h : a ≤ n
  · rw [if_pos (by omega)]; simp [h]
  · rw [if_neg (by omega)]; simp [h]
theorem isP_far : isP 1000003 = true := by decide +kernel
/-- From m on both searches come to the same prime, at most 1000003. -/
theorem next_at : ∀ (d : Nat) (m : Int), 0 ≤ m → m + d = 1000003 → ∃ p : Int, ∀ K, 32001 + d < K → impl_NextPrime.l0 K m = some (p, true) ∧ spec_NextPrime.l0 K m = some (p, true) := by
  intro d
  induction d with
  | zero =>
    intro m h0 hm
    obtain rfl : m = 1000003 := by omega
    refine ⟨1000003, fun K hK => ?_⟩
    obtain ⟨K, rfl⟩ : ∃ k, K = k + 1 := ⟨K - 1, by omega⟩
    simp only [impl_NextPrime.l0, spec_NextPrime.l0]
    rw [isPrime_at _ (by omega) _ (by omega), prIs_at _ (by omega) _ (by omega), isP_far]
    exact ⟨rfl, rfl⟩
  | succ d ih =>
    intro m h0 hm
    by_cases hp : isP m = true
    · refine ⟨m, fun K hK => ?_⟩
      obtain ⟨K, rfl⟩ : ∃ k, K = k + 1 := ⟨K - 1, by omega⟩
      simp only [impl_NextPrime.l0, spec_NextPrime.l0]
      rw [isPrime_at _ (by omega) _ (by omega), prIs_at _ (by omega) _ (by omega), hp]
      exact ⟨rfl, rfl⟩
    · obtain ⟨p, hpp⟩ := ih (m + 1) (by omega) (by omega)
      refine ⟨p, fun K hK => ?_⟩
      obtain ⟨K, rfl⟩ : ∃ k, K = k + 1 := ⟨K - 1, by omega⟩
      have h := hpp K (by omega)
      simp only [impl_NextPrime.l0, spec_NextPrime.l0]
      rw [isPrime_at _ (by omega) _ (by omega), prIs_at _ (by omega) _ (by omega), w64 (by omega) (by omega)]
      simp only [Option.bind_some]
      rw [if_neg hp, if_neg hp]
      exact h

theorem done : laws_FnExactNextPrime.Pure := by
  intro n _
  by_cases h1 : 0 ≤ n ∧ n ≤ 1000000
  · obtain ⟨p, hp⟩ := next_at (1000002 - n).toNat (n + 1) (by omega) (by omega)
    refine ⟨32001 + (1000002 - n).toNat + 2, ?_⟩
    have h := hp (32001 + (1000002 - n).toNat + 2) (by omega)
    have h' := hp (32001 + (1000002 - n).toNat + 1) (by omega)
    unfold laws_FnExactNextPrime.f spec_NextPrime.f impl_NextPrime.f
    rw [l1In_at, decide_eq_true h1, if_neg (by omega), decide_eq_false (by omega)]
    simp only [Option.bind_some, impl_NextPrime.j0]
    rw [if_pos trivial, w64 (by omega) (by omega), h.2, if_neg (by simp), h'.1]
    simp
  · refine ⟨1, ?_⟩
    unfold laws_FnExactNextPrime.f spec_NextPrime.f impl_NextPrime.f
    rw [l1In_at, decide_eq_false h1]
    simp only [Option.bind_some, impl_NextPrime.j0]
    rw [if_neg (by simp)]
    by_cases h2 : n < 0
    · rw [if_pos h2]; rfl
    · rw [if_neg h2, decide_eq_true (by omega)]; rfl
end OwnNextPrime
theorem FnExactNextPrime : laws_FnExactNextPrime.Pure := OwnNextPrime.done
end Go.Proofs.Ytdonfllhlhafpaa.Pure
