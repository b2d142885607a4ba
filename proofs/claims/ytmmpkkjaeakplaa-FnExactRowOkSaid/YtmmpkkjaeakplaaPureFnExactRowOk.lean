/- The statement FnExactRowOk over numbers and lists alone: its function answers true. Conditions: those of its statement. -/
import Derived.Test.YtmmpkkjaeakplaaXx6
import Derived.Test.YtmmpkkjaeakplaaXx7
import Derived.Test.YtmmpkkjaeakplaaQRowOk
import Derived.Test.YtmmpkkjaeakplaaQIntS
set_option linter.unusedVariables false
set_option linter.unusedSimpArgs false
namespace Go.Proofs.Ytmmpkkjaeakplaa.Pure
open Go.Proofs.Ytmmpkkjaeakplaa.X
open Go.RowKit Go.Proofs.YtmmpkkjaeakplaaW.PrintWords Go.Proofs.YtmmpkkjaeakplaaW.PrintLast Go.Proofs.YtmmpkkjaeakplaaW.PrintMore

theorem FnExactRowOk : laws_FnExactRowOk.Pure := by
  intro l c hm hy hw hc
  refine ⟨l.length + 1, ?_⟩
  unfold laws_FnExactRowOk.f
  by_cases h : (l.length : Int) > 1048576
  · rw [if_pos h]
  · rw [if_neg h, laws_toIntS.eq l (by omega) _ (by omega)]
    simp only [Option.bind_some]
    rw [spec_RowOk.eq l c (by omega) _ (by omega), impl_RowOk.eq l c (by omega) _ (by omega)]
    simp only [Option.bind_some]
    rw [if_neg (by simp), laws_eqIntS.eq l l (by omega) _ (by omega)]
    simp

end Go.Proofs.Ytmmpkkjaeakplaa.Pure
