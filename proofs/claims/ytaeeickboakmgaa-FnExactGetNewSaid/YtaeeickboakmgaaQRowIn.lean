/- Plain facts about lists and numbers that the claim's proof uses. Conditions: those that each theorem states. -/
import Derived.Test.YtaeeickboakmgaaXx4
import Derived.Test.YtaeeickboakmgaaQM
set_option linter.unusedVariables false
set_option linter.unusedSimpArgs false
namespace Go.Proofs.Ytaeeickboakmgaa.X
open Go.RowKit Go.Proofs.YtaeeickboakmgaaW.PrintWords Go.Proofs.YtaeeickboakmgaaW.PrintLast Go.Proofs.YtaeeickboakmgaaW.PrintMore

theorem spec_l1In.eq (a b c : Int) : spec_l1In.f a b c = some (decide (b ≤ a ∧ a ≤ c)) := by
  unfold spec_l1In.f
  by_cases h : a ≥ b
  · rw [if_pos h]; congr 1; simp; intro _; omega
  · rw [if_neg h]; congr 1; simp; omega
theorem impl_within.eq (a b c : Int) : impl_within.f a b c = some (decide (b ≤ a ∧ a ≤ c)) := by
  unfold impl_within.f
  by_cases h : a ≥ b
  · rw [if_pos h]; congr 1; simp; intro _; omega
  · rw [if_neg h]; congr 1; simp; omega

end Go.Proofs.Ytaeeickboakmgaa.X
