/- The statement FnExactPlanOk over numbers and lists alone: its function answers true. Conditions: those of its statement. -/
import Derived.Test.YtmmpkkjaeakplaaXx11
import Derived.Test.YtmmpkkjaeakplaaXx12
import Derived.Test.YtmmpkkjaeakplaaXx13
import Derived.Test.YtmmpkkjaeakplaaXx14
import Derived.Test.YtmmpkkjaeakplaaXx15
import Derived.Test.YtmmpkkjaeakplaaXx16
import Derived.Test.YtmmpkkjaeakplaaQPlan
import Derived.Test.YtmmpkkjaeakplaaQPlanS
set_option linter.unusedVariables false
set_option linter.unusedSimpArgs false
namespace Go.Proofs.Ytmmpkkjaeakplaa.Pure
open Go.Proofs.Ytmmpkkjaeakplaa.X
open Go.RowKit Go.Proofs.YtmmpkkjaeakplaaW.PrintWords Go.Proofs.YtmmpkkjaeakplaaW.PrintLast Go.Proofs.YtmmpkkjaeakplaaW.PrintMore

theorem FnExactPlanOk (L S : Int) (ws gs : List Int) (_ : (Lit.int .i64 L).wf = true) (_ : (Lit.int .i64 S).wf = true) (hw : ws.length ≤ maxLen ∧ ∀ x ∈ ws, (Lit.int .i64 x).wf = true) (hg : gs.length ≤ maxLen ∧ ∀ x ∈ gs, (Lit.int .i64 x).wf = true) : ∃ k, laws_FnExactPlanOk.f k L S ws gs = some true := by
  refine ⟨ws.length + gs.length + 10, ?_⟩
  unfold laws_FnExactPlanOk.f
  obtain ⟨r, e, hr⟩ := laws_szPlan.ok L S ws gs 1048576 (by decide) (by decide) hw.1 hg.1
  rw [e, Option.bind_some]
  by_cases h : r < 0
  · rw [if_pos h]
  · have hr' := hr.resolve_left h
    rw [if_neg h]
    simp only [laws_toPlan.eq L S ws gs (ws.length + gs.length + 10) (by omega) (by omega) (by omega), Option.bind_some, spec_PlanOk.eq L S ws gs (by omega) (by omega) (ws.length + gs.length + 10) (by omega), impl_PlanOk.eq L S ws gs (by omega) (by omega) (ws.length + gs.length + 10) (by omega), laws_eqPlan.refl L S ws gs (ws.length + gs.length + 10) (by omega) (by omega) (by omega), bne_self_eq_false, Bool.false_eq_true, if_false, if_true]

end Go.Proofs.Ytmmpkkjaeakplaa.Pure
