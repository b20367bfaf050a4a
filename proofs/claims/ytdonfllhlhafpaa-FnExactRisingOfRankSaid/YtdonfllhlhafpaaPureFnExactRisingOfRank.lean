/- RisingOfRank of the program and of the reference answer alike at every whole number: no condition. -/
import Derived.Test.YtdonfllhlhafpaaPFnExactRisingOfRankx1
namespace Go.Proofs.Ytdonfllhlhafpaa.Pure
open Go.RowKit Go.Proofs.Ytdonfllhlhafpaa.PFnExactRisingOfRank Go.Proofs.YtdonfllhlhafpaaW.PrintWords Go.Proofs.YtdonfllhlhafpaaW.PrintLast
set_option linter.unusedVariables false
set_option linter.unusedSimpArgs false
namespace OwnRisingOfRank
theorem w64 {x : Int} (h0 : -9223372036854775808 ≤ x) (h1 : x ≤ 9223372036854775807) : wrap64 x = x := by unfold wrap64; omega
theorem l1In_at (n a b : Int) : spec_l1In.f n a b = some (decide (a ≤ n ∧ n ≤ b)) := by
  unfold spec_l1In.f
  by_cases h : a ≤ n
  · rw [if_pos (by omega)]; simp [h]
  · rw [if_neg (by omega)]; simp [h]
theorem small : ∀ m : Fin 31, laws_FnExactRisingOfRank.f 40 (m.val : Int) = some true := by decide +kernel

theorem done : laws_FnExactRisingOfRank.Pure := by
  intro n _
  by_cases h1 : 0 ≤ n ∧ n ≤ 30
  · refine ⟨40, ?_⟩
    have h := small ⟨n.toNat, by omega⟩
    simp only at h
    rwa [show ((n.toNat : Nat) : Int) = n from by omega] at h
  · refine ⟨1, ?_⟩
    unfold laws_FnExactRisingOfRank.f spec_RisingOfRank.f impl_RisingOfRank.f
    rw [l1In_at, decide_eq_false h1]
    simp only [Option.bind_some, impl_RisingOfRank.j0]
    rw [if_neg (by simp)]
    by_cases h2 : n < 0
    · rw [if_pos h2]; rfl
    · rw [if_neg h2, decide_eq_true (by omega)]; rfl
end OwnRisingOfRank
theorem FnExactRisingOfRank : laws_FnExactRisingOfRank.Pure := OwnRisingOfRank.done
end Go.Proofs.Ytdonfllhlhafpaa.Pure
