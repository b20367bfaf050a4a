/- LastOfCircle of the program and of the reference answer alike at all whole numbers: no condition. -/
import Derived.Test.YtdonfllhlhafpaaPFnExactLastOfCirclex1
namespace Go.Proofs.Ytdonfllhlhafpaa.Pure
open Go.RowKit Go.Proofs.Ytdonfllhlhafpaa.PFnExactLastOfCircle Go.Proofs.YtdonfllhlhafpaaW.PrintWords Go.Proofs.YtdonfllhlhafpaaW.PrintLast
set_option linter.unusedVariables false
set_option linter.unusedSimpArgs false
namespace OwnLastOfCircle
theorem w64 {x : Int} (h0 : -9223372036854775808 ≤ x) (h1 : x ≤ 9223372036854775807) : wrap64 x = x := by unfold wrap64; omega
theorem l1In_at (n a b : Int) : spec_l1In.f n a b = some (decide (a ≤ n ∧ n ≤ b)) := by
  unfold spec_l1In.f
  by_cases h : a ≤ n
  · rw [if_pos (by omega)]; simp [h]
  · rw [if_neg (by omega)]; simp [h]
theorem circle_at : ∀ (d : Nat) (n k last m : Int), n ≤ 100 → 2 ≤ m → n + 1 - m ≤ d → ∃ r : Int × Bool, ∀ K, d < K → impl_LastOfCircle.l0 K n k last m = some r ∧ spec_LastOfCircle.l0 K n k last m = some r := by
  intro d
  induction d with
  | zero =>
    intro n k last m hn hm hd
    refine ⟨(wrap64 (last + 1), true), fun K hK => ?_⟩
    obtain ⟨K, rfl⟩ : ∃ k, K = k + 1 := ⟨K - 1, by omega⟩
    have hc : ¬ m ≤ n := by omega
    simp only [impl_LastOfCircle.l0, spec_LastOfCircle.l0]
    rw [if_neg hc, if_neg hc]
    exact ⟨rfl, rfl⟩
  | succ d ih =>
    intro n k last m hn hm hd
    by_cases hc : m ≤ n
    · obtain ⟨r, hr⟩ := ih n k (Int.tmod (wrap64 (last + k)) m) (m + 1) hn (by omega) (by omega)
      refine ⟨r, fun K hK => ?_⟩
      obtain ⟨K, rfl⟩ : ∃ k, K = k + 1 := ⟨K - 1, by omega⟩
      simp only [impl_LastOfCircle.l0, spec_LastOfCircle.l0]
      have hm0 : ¬ m = 0 := by omega
      rw [if_pos hc, if_pos hc, if_neg hm0, if_neg hm0, w64 (x := m + 1) (by omega) (by omega)]
      exact hr K (by omega)
    · refine ⟨(wrap64 (last + 1), true), fun K hK => ?_⟩
      obtain ⟨K, rfl⟩ : ∃ k, K = k + 1 := ⟨K - 1, by omega⟩
      simp only [impl_LastOfCircle.l0, spec_LastOfCircle.l0]
      rw [if_neg hc, if_neg hc]
      exact ⟨rfl, rfl⟩

theorem done : laws_FnExactLastOfCircle.Pure := by
  intro n k _ _
  by_cases h1 : 1 ≤ n ∧ n ≤ 100
  · by_cases h2 : 1 ≤ k ∧ k ≤ 1000
    · obtain ⟨r, hr⟩ := circle_at 100 n k 0 2 h1.2 (by omega) (by omega)
      refine ⟨102, ?_⟩
      unfold laws_FnExactLastOfCircle.f spec_LastOfCircle.f impl_LastOfCircle.f
      rw [l1In_at, l1In_at, decide_eq_true h1, decide_eq_true h2, if_neg (by omega), if_neg (by omega), if_neg (by omega), decide_eq_false (by omega)]
      simp only [Option.bind_some, impl_LastOfCircle.j0, spec_LastOfCircle.j0]
      rw [if_pos trivial, if_neg (by simp), if_neg (by simp), (hr 101 (by omega)).1, (hr 101 (by omega)).2]
      simp
    · refine ⟨1, ?_⟩
      unfold laws_FnExactLastOfCircle.f spec_LastOfCircle.f impl_LastOfCircle.f
      rw [l1In_at, l1In_at, decide_eq_true h1, decide_eq_false h2, if_neg (by omega), if_neg (by omega)]
      simp only [Option.bind_some, impl_LastOfCircle.j0, spec_LastOfCircle.j0]
      by_cases h3 : k < 1
      · rw [if_pos h3]; rfl
      · rw [if_neg h3, decide_eq_true (by omega)]; rfl
  · refine ⟨1, ?_⟩
    unfold laws_FnExactLastOfCircle.f spec_LastOfCircle.f impl_LastOfCircle.f
    rw [l1In_at, decide_eq_false h1]
    simp only [Option.bind_some, impl_LastOfCircle.j0, spec_LastOfCircle.j0]
    rw [if_neg (by simp : ¬ (false = true))]
    by_cases h3 : n < 1
    · rw [if_pos h3]; rfl
    · have h4 : n > 100 := by omega
      rw [if_neg h3, if_pos h4]; rfl
end OwnLastOfCircle
theorem FnExactLastOfCircle : laws_FnExactLastOfCircle.Pure := OwnLastOfCircle.done
end Go.Proofs.Ytdonfllhlhafpaa.Pure
