/- The statement FnExactSolverNew over numbers and lists alone: its function answers true. Conditions: those of its statement. -/
import Derived.Test.YtmmpkkjaeakplaaXx2
import Derived.Test.YtmmpkkjaeakplaaXx36
import Derived.Test.YtmmpkkjaeakplaaXx37
import Derived.Test.YtmmpkkjaeakplaaXx38
import Derived.Test.YtmmpkkjaeakplaaQRowIn
set_option linter.unusedVariables false
set_option linter.unusedSimpArgs false
namespace Go.Proofs.Ytmmpkkjaeakplaa.Pure
open Go.Proofs.Ytmmpkkjaeakplaa.X
open Go.RowKit Go.Proofs.YtmmpkkjaeakplaaW.PrintWords Go.Proofs.YtmmpkkjaeakplaaW.PrintLast Go.Proofs.YtmmpkkjaeakplaaW.PrintMore

theorem FnExactSolverNew : laws_FnExactSolverNew.Pure := by
  intro c z _ _
  refine ⟨10, ?_⟩
  obtain ⟨a, b, h1, h2⟩ : ∃ a b, spec_SolverNew.f c z = some (a, b, []) ∧ impl_SolverNew.f c z = some (a, b, []) := by
    unfold spec_SolverNew.f impl_SolverNew.f
    rw [spec_l1In.eq, impl_within.eq, Option.bind_some, Option.bind_some]
    by_cases h : 1 ≤ c ∧ c ≤ 24
    · rw [if_pos (by simpa using h), if_pos (by simpa using h), spec_l1In.eq, impl_within.eq, Option.bind_some]
      by_cases h' : 1 ≤ z ∧ z ≤ 16
      · rw [if_pos (by simpa using h')]
        exact ⟨_, _, rfl, rfl⟩
      · rw [if_neg (by simpa using h')]
        exact ⟨_, _, rfl, rfl⟩
    · rw [if_neg (by simpa using h), if_neg (by simpa using h)]
      exact ⟨_, _, rfl, rfl⟩
  have e1 : laws_eqSolver.f 10 a b [] a b [] = some true := by
    unfold laws_eqSolver.f laws_eqEqS.f
    rw [if_pos rfl, if_pos rfl, if_pos rfl]
    unfold laws_eqEqS.l0
    rw [if_neg (by simp)]
    rfl
  have e2 : laws_markSolver.f a b [] 1 = some 1 := by
    unfold laws_markSolver.f laws_markEqS.f
    rfl
  have e3 : laws_heldSolver.f 10 a b [] 1 = some 1 := by
    unfold laws_heldSolver.f laws_heldEqS.f
    unfold laws_heldEqS.l0
    rw [if_neg (by simp)]
    simp
  unfold laws_FnExactSolverNew.f
  simp only [h1, h2, e1, e2, e3, Option.bind_some, if_true]
  rw [if_neg (by omega), if_neg (by omega)]

end Go.Proofs.Ytmmpkkjaeakplaa.Pure
