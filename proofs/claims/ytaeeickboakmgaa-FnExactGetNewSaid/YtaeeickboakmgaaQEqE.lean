/- Plain facts about lists and numbers that the claim's proof uses. Conditions: those that each theorem states. -/
import Derived.Test.YtaeeickboakmgaaXx0
import Derived.Test.YtaeeickboakmgaaQM
set_option linter.unusedVariables false
set_option linter.unusedSimpArgs false
namespace Go.Proofs.Ytaeeickboakmgaa.X
open Go.RowKit Go.Proofs.YtaeeickboakmgaaW.PrintWords Go.Proofs.YtaeeickboakmgaaW.PrintLast Go.Proofs.YtaeeickboakmgaaW.PrintMore

abbrev EqE := S84
abbrev zE : EqE := z84
theorem rdE_nat (es : List EqE) (i : Nat) : rd_T84 es (i : Int) = es.getD i zE := by simp [rd_T84]
theorem getD_mem {es : List EqE} {i : Nat} (h : i < es.length) : es.getD i zE ∈ es := by
  rw [List.getD_eq_getElem?_getD, List.getElem?_eq_getElem h]
  exact List.getElem_mem h
theorem getD_lt {es : List EqE} {i : Nat} (h : i < es.length) : es.getD i zE = es[i] := by
  rw [List.getD_eq_getElem?_getD, List.getElem?_eq_getElem h]
  rfl

end Go.Proofs.Ytaeeickboakmgaa.X
