/- The statement FnExactSeedPick over numbers and lists alone: its function answers true. Conditions: those of its statement. -/
import Derived.Test.YtmmpkkjaeakplaaXx1
import Derived.Test.YtmmpkkjaeakplaaQSeeds
set_option linter.unusedVariables false
set_option linter.unusedSimpArgs false
namespace Go.Proofs.Ytmmpkkjaeakplaa.Pure
open Go.Proofs.Ytmmpkkjaeakplaa.X
open Go.RowKit Go.Proofs.YtmmpkkjaeakplaaW.PrintWords Go.Proofs.YtmmpkkjaeakplaaW.PrintLast Go.Proofs.YtmmpkkjaeakplaaW.PrintMore

theorem FnExactSeedPick : laws_FnExactSeedPick.Pure := by
  intro a b _ _
  unfold laws_FnExactSeedPick.f
  rw [spec_SeedPick.eq, impl_SeedPick.eq]
  simp

end Go.Proofs.Ytmmpkkjaeakplaa.Pure
