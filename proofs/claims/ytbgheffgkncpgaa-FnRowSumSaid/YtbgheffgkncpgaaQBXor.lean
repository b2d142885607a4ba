/- Plain facts about lists and numbers that the claim's proof uses. Conditions: those that each theorem states. -/
import Derived.Test.YtbgheffgkncpgaaXx1
import Derived.Test.YtbgheffgkncpgaaXx2
import Derived.Test.YtbgheffgkncpgaaXx3
import Derived.Test.YtbgheffgkncpgaaQXor
set_option linter.unusedVariables false
set_option linter.unusedSimpArgs false
namespace Go.Proofs.Ytbgheffgkncpgaa.X
open Go.RowKit Go.Proofs.YtbgheffgkncpgaaW.PrintWords Go.Proofs.YtbgheffgkncpgaaW.PrintLast Go.Proofs.YtbgheffgkncpgaaW.PrintMore

theorem impl_BlockXor.eq (a b : ByteArray) : impl_BlockXor.f a b = some (bxor a b) := by
  unfold impl_BlockXor.f bxor
  by_cases h : (a.size : Int) = (b.size : Int)
  · rw [if_pos h]
    by_cases h2 : (a.size : Int) > 16
    · rw [if_pos h2, if_neg (by omega)]
    · rw [if_neg h2, if_pos (by omega), impl_xor.eq a b (by omega) (by omega)]
      rfl
  · rw [if_neg h, if_neg (by omega)]
theorem spec_BlockXor.eq (a b : ByteArray) (k : Nat) (hk : 17 < k) : spec_BlockXor.f k a b = some (bxor a b) := by
  unfold spec_BlockXor.f bxor
  by_cases h : (a.size : Int) = (b.size : Int)
  · rw [if_pos h]
    by_cases h2 : (a.size : Int) > 16
    · rw [if_pos h2, if_neg (by omega)]
    · rw [if_neg h2, if_pos (by omega), spec_l2Block.eq a b (by omega) (by omega) k (by omega)]
      rfl
  · rw [if_neg h, if_neg (by omega)]

end Go.Proofs.Ytbgheffgkncpgaa.X
