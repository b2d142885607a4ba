/- Plain facts about lists and numbers that the claim's proof uses. Conditions: those that each theorem states. -/
import Derived.Test.YtaeeickboakmgaaXx20
import Derived.Test.YtaeeickboakmgaaXx40
import Derived.Test.YtaeeickboakmgaaQMarkS
set_option linter.unusedVariables false
set_option linter.unusedSimpArgs false
namespace Go.Proofs.Ytaeeickboakmgaa.X
open Go.RowKit Go.Proofs.YtaeeickboakmgaaW.PrintWords Go.Proofs.YtaeeickboakmgaaW.PrintLast Go.Proofs.YtaeeickboakmgaaW.PrintMore

theorem laws_markPlan.eq (L S : Int) (ws gs : List Int) (m : Int) (h0 : 0 ≤ m) (h1 : m + ws.length + gs.length < 1000000000) (k : Nat) (hk : ws.length + gs.length < k) :
    laws_markPlan.f k L S ws gs m = some (m + ws.length + gs.length, marks m ws.length, marks (m + ws.length) gs.length) := by
  unfold laws_markPlan.f
  rw [laws_markIntS.eq ws m h0 (by omega) _ (by omega), Option.bind_some, laws_markIntS.eq gs _ (by omega) (by omega) _ (by omega)]
  rfl
theorem laws_heldPlan.eq (L S : Int) (n1 n2 : Nat) (m : Int) (h0 : 0 ≤ m) (h1 : m + n1 + n2 < 1000000000) (k : Nat) (hk : n1 + n2 < k) :
    laws_heldPlan.f k L S (marks m n1) (marks (m + n1) n2) m = some (m + n1 + n2) := by
  unfold laws_heldPlan.f
  rw [laws_heldIntS.eq n1 m h0 (by omega) _ (by omega), Option.bind_some, if_neg (by omega), laws_heldIntS.eq n2 _ (by omega) (by omega) _ (by omega), Option.bind_some, if_neg (by omega)]

end Go.Proofs.Ytaeeickboakmgaa.X
