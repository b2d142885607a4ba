/- The statement FnExactPlanFor over numbers and lists alone: its function answers true. Conditions: those of its statement. -/
import Derived.Test.YtmmpkkjaeakplaaXx15
import Derived.Test.YtmmpkkjaeakplaaXx22
import Derived.Test.YtmmpkkjaeakplaaXx23
import Derived.Test.YtmmpkkjaeakplaaQPlanFor
import Derived.Test.YtmmpkkjaeakplaaQPlanS
import Derived.Test.YtmmpkkjaeakplaaQMarkPlan
set_option linter.unusedVariables false
set_option linter.unusedSimpArgs false
namespace Go.Proofs.Ytmmpkkjaeakplaa.Pure
open Go.Proofs.Ytmmpkkjaeakplaa.X
open Go.RowKit Go.Proofs.YtmmpkkjaeakplaaW.PrintWords Go.Proofs.YtmmpkkjaeakplaaW.PrintLast Go.Proofs.YtmmpkkjaeakplaaW.PrintMore

theorem FnExactPlanFor : laws_FnExactPlanFor.Pure := by
  intro L _
  refine ⟨20, ?_⟩
  obtain ⟨L', S, ws, gs, h1, h2, hw, hg, _, _⟩ := planFor_both L
  unfold laws_FnExactPlanFor.f
  simp only [h1 20 (by decide), h2 20 (by decide), Option.bind_some, laws_eqPlan.refl L' S ws gs 20 (by omega) (by omega) (by omega), if_true,
    laws_markPlan.eq L' S ws gs 1 (by omega) (by omega) 20 (by omega), laws_heldPlan.eq L' S ws.length gs.length 1 (by omega) (by omega) 20 (by omega)]
  rw [if_neg (by omega), if_neg (by omega)]

end Go.Proofs.Ytmmpkkjaeakplaa.Pure
