/- The statement FnExactSolverPrefix over numbers and lists alone: its function answers true. Conditions: those of its statement. -/
import Derived.Test.YtaeeickboakmgaaXx9
import Derived.Test.YtaeeickboakmgaaXx10
import Derived.Test.YtaeeickboakmgaaXx11
import Derived.Test.YtaeeickboakmgaaXx12
import Derived.Test.YtaeeickboakmgaaXx36
import Derived.Test.YtaeeickboakmgaaXx38
import Derived.Test.YtaeeickboakmgaaQSolvLaw
import Derived.Test.YtaeeickboakmgaaQSolvPre
set_option linter.unusedVariables false
set_option linter.unusedSimpArgs false
namespace Go.Proofs.Ytaeeickboakmgaa.Pure
open Go.Proofs.Ytaeeickboakmgaa.X
open Go.RowKit Go.Proofs.YtaeeickboakmgaaW.PrintWords Go.Proofs.YtaeeickboakmgaaW.PrintLast Go.Proofs.YtaeeickboakmgaaW.PrintMore

theorem FnExactSolverPrefix (c z : Int) (ls : List LawE) (_ : (Lit.int .i64 c).wf = true) (_ : (Lit.int .i64 z).wf = true) (hl : ls.length ≤ maxLen ∧ ∀ x ∈ ls, goodL x) : ∃ k, laws_FnExactSolverPrefix.f k c z ls = some true := by
  refine ⟨bigK ls.length, ?_⟩
  obtain ⟨b1, b2, b3, b4, _⟩ := bigK_ge ls.length
  unfold laws_FnExactSolverPrefix.f
  obtain ⟨r, e, hr⟩ := solver_size c z ls hl.1 hl.2 (bigK ls.length) b4
  rw [e, Option.bind_some]
  rcases hr with h | ⟨h, h1, h2⟩
  · rw [if_pos h]
  · rw [if_neg h]
    have hm := map_len h2
    have e1 := laws_toSolver.eq c z ls h1 1048577 h2 (by omega) (bigK ls.length) b3
    have e2 := spec_SolverOk.eq c z (ls.map toE) (by rw [List.length_map]; omega) 1048577 hm (by omega) (bigK ls.length) (by rw [List.length_map]; exact b1)
    have e3 := impl_SolverOk.eq c z (ls.map toE) (by rw [List.length_map]; omega) 1048577 hm (by omega) (bigK ls.length) (by rw [List.length_map]; exact b2)
    have e4 := laws_eqSolver.refl c z (ls.map toE) (by rw [List.length_map]; omega) 1048577 hm (by omega) (bigK ls.length) (by rw [List.length_map]; exact b3)
    simp only [spec_SolverPrefix.f, impl_SolverPrefix.f, e1, e2, e3, e4, Option.bind_some]
    by_cases hs : SolverP c z (ls.map toE)
    · obtain ⟨r, p1, p2, _⟩ := prefix_ok c z _ hs (by rw [List.length_map]; omega) (bigK ls.length) (by rw [List.length_map]; omega)
      simp only [if_pos (decide_eq_true hs), Option.bind_some, e1, e4, p1, p2, if_true]
    · simp only [decide_eq_false hs, Bool.false_eq_true, if_false, Option.bind_some, e1, e4, if_true]

end Go.Proofs.Ytaeeickboakmgaa.Pure
