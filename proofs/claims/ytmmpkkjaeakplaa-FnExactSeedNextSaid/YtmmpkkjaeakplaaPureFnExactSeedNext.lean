/- The statement FnExactSeedNext over numbers and lists alone: its function answers true. Conditions: those of its statement. -/
import Derived.Test.YtmmpkkjaeakplaaXx1
import Derived.Test.YtmmpkkjaeakplaaQSeeds
set_option linter.unusedVariables false
set_option linter.unusedSimpArgs false
namespace Go.Proofs.Ytmmpkkjaeakplaa.Pure
open Go.Proofs.Ytmmpkkjaeakplaa.X
open Go.RowKit Go.Proofs.YtmmpkkjaeakplaaW.PrintWords Go.Proofs.YtmmpkkjaeakplaaW.PrintLast Go.Proofs.YtmmpkkjaeakplaaW.PrintMore

theorem FnExactSeedNext : laws_FnExactSeedNext.Pure := by
  intro a _
  unfold laws_FnExactSeedNext.f
  rw [spec_SeedNext.eq, impl_SeedNext.eq]
  simp

end Go.Proofs.Ytmmpkkjaeakplaa.Pure
