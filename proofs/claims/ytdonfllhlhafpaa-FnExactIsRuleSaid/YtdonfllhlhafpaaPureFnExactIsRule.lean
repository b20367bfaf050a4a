/- IsRule of the program and of the reference answer alike at every rule, whatever its numbers: no condition. -/
import Derived.Test.YtdonfllhlhafpaaPFnExactIsRulex1
namespace Go.Proofs.Ytdonfllhlhafpaa.Pure
open Go.RowKit Go.Proofs.Ytdonfllhlhafpaa.PFnExactIsRule Go.Proofs.YtdonfllhlhafpaaW.PrintWords Go.Proofs.YtdonfllhlhafpaaW.PrintLast
set_option linter.unusedVariables false
set_option linter.unusedSimpArgs false
namespace OwnIsRule
theorem w64 {x : Int} (h0 : -9223372036854775808 ≤ x) (h1 : x ≤ 9223372036854775807) : wrap64 x = x := by unfold wrap64; omega
theorem l1In_at (n a b : Int) : spec_l1In.f n a b = some (decide (a ≤ n ∧ n ≤ b)) := by
  unfold spec_l1In.f
  by_cases h : a ≤ n
  · rw [if_pos (by omega)]; simp [h]
  · rw [if_neg (by omega)]; simp [h]
/-- What a rule is. -/
def ruleB (e r : Int) : Bool := decide (2 ≤ e ∧ e ≤ 60 ∧ 0 ≤ r ∧ r < e)
theorem isRule_at (e r : Int) : impl_isRule.f e r = some (ruleB e r) := by
  unfold impl_isRule.f ruleB
  by_cases h1 : e ≥ 2
  · rw [if_pos h1]
    by_cases h2 : e ≤ 60
    · rw [if_pos h2]
      by_cases h3 : r ≥ 0
      · rw [if_pos h3]
        congr 1
        rw [decide_eq_decide]
        omega
      · rw [if_neg h3, decide_eq_false (by omega)]
    · rw [if_neg h2, decide_eq_false (by omega)]
  · rw [if_neg h1, decide_eq_false (by omega)]
theorem siRule_at (e r : Int) : spec_siRule.f e r = some (ruleB e r) := by
  unfold spec_siRule.f ruleB
  rw [l1In_at]
  simp only [Option.bind_some]
  by_cases h1 : 2 ≤ e ∧ e ≤ 60
  · rw [decide_eq_true h1, if_pos rfl, w64 (by omega) (by omega), l1In_at]
    simp only [Option.bind_some]
    congr 1
    rw [decide_eq_decide]
    omega
  · rw [decide_eq_false h1, if_neg (by simp), decide_eq_false (by omega)]

theorem done : laws_FnExactIsRule.Pure := by
  intro e r _ _
  unfold laws_FnExactIsRule.f spec_IsRule.f impl_IsRule.f laws_toRule.f
  simp only [Option.bind_some, siRule_at, isRule_at]
  simp
end OwnIsRule
theorem FnExactIsRule : laws_FnExactIsRule.Pure := OwnIsRule.done
end Go.Proofs.Ytdonfllhlhafpaa.Pure
