/- The statement FnExactBlockXor over numbers and lists alone: its function answers true. Conditions: those of its statement. -/
import Derived.Test.YtbgheffgkncpgaaXx2
import Derived.Test.YtbgheffgkncpgaaXx3
import Derived.Test.YtbgheffgkncpgaaXx4
import Derived.Test.YtbgheffgkncpgaaQBXor
set_option linter.unusedVariables false
set_option linter.unusedSimpArgs false
namespace Go.Proofs.Ytbgheffgkncpgaa.Pure
open Go.Proofs.Ytbgheffgkncpgaa.X
open Go.RowKit Go.Proofs.YtbgheffgkncpgaaW.PrintWords Go.Proofs.YtbgheffgkncpgaaW.PrintLast Go.Proofs.YtbgheffgkncpgaaW.PrintMore

theorem FnExactBlockXor : laws_FnExactBlockXor.Pure := by
  intro a b _ _
  refine ⟨20, ?_⟩
  unfold laws_FnExactBlockXor.f
  rw [impl_BlockXor.eq, spec_BlockXor.eq a b 20 (by omega)]
  by_cases h : (a.size : Int) > 1048576
  · rw [if_pos h]
  rw [if_neg h]
  by_cases h2 : (b.size : Int) > 1048576
  · rw [if_pos h2]
  rw [if_neg h2, Option.bind_some, Option.bind_some, if_pos rfl]
  simp

end Go.Proofs.Ytbgheffgkncpgaa.Pure
