/- The statement FnExactSolverGet over numbers and lists alone: its function answers true. Conditions: those of its statement. -/
import Derived.Test.YtaeeickboakmgaaXx9
import Derived.Test.YtaeeickboakmgaaXx10
import Derived.Test.YtaeeickboakmgaaXx11
import Derived.Test.YtaeeickboakmgaaXx12
import Derived.Test.YtaeeickboakmgaaXx31
import Derived.Test.YtaeeickboakmgaaXx32
import Derived.Test.YtaeeickboakmgaaXx33
import Derived.Test.YtaeeickboakmgaaXx34
import Derived.Test.YtaeeickboakmgaaQSolvLaw
import Derived.Test.YtaeeickboakmgaaQSolvGet
set_option linter.unusedVariables false
set_option linter.unusedSimpArgs false
namespace Go.Proofs.Ytaeeickboakmgaa.Pure
open Go.Proofs.Ytaeeickboakmgaa.X
open Go.RowKit Go.Proofs.YtaeeickboakmgaaW.PrintWords Go.Proofs.YtaeeickboakmgaaW.PrintLast Go.Proofs.YtaeeickboakmgaaW.PrintMore

theorem FnExactSolverGet.fin (k : Nat) (c z : Int) (ls : List LawE) (r : ByteArray × Bool) (e1 : laws_toSolver.f k c z ls = some (c, z, ls.map toE)) (e4 : laws_eqSolver.f k c z (ls.map toE) c z (ls.map toE) = some true) :
    (if True then laws_FnExactSolverGet.j0 (k + 1) (r.2 != r.2) c z ls c z (ls.map toE) else laws_FnExactSolverGet.j0 (k + 1) true c z ls c z (ls.map toE)) = some true := by
  rw [if_pos trivial, bne_self_eq_false]
  simp only [laws_FnExactSolverGet.j0]
  rw [if_neg (by simp), e1, Option.bind_some, e4]
  rfl
theorem FnExactSolverGet (c z : Int) (ls : List LawE) (n : Int) (_ : (Lit.int .i64 c).wf = true) (_ : (Lit.int .i64 z).wf = true) (hl : ls.length ≤ maxLen ∧ ∀ x ∈ ls, goodL x) (_ : (Lit.int .i64 n).wf = true) : ∃ k, laws_FnExactSolverGet.f k c z ls n = some true := by
  refine ⟨bigK ls.length + 1, ?_⟩
  obtain ⟨b1, b2, b3, b4, _⟩ := bigK_ge ls.length
  unfold laws_FnExactSolverGet.f
  obtain ⟨r, e, hr⟩ := solver_size c z ls hl.1 hl.2 (bigK ls.length + 1) (by omega)
  rw [e, Option.bind_some]
  rcases hr with h | ⟨h, h1, h2⟩
  · rw [if_pos h]
  · rw [if_neg h]
    have hm := map_len h2
    have e0 := laws_toSolver.eq c z ls h1 1048577 h2 (by omega) (bigK ls.length) b3
    have e1 := laws_toSolver.eq c z ls h1 1048577 h2 (by omega) (bigK ls.length + 1) (by omega)
    have e2 := spec_SolverOk.eq c z (ls.map toE) (by rw [List.length_map]; omega) 1048577 hm (by omega) (bigK ls.length + 1) (by rw [List.length_map]; omega)
    have e3 := impl_SolverOk.eq c z (ls.map toE) (by rw [List.length_map]; omega) 1048577 hm (by omega) (bigK ls.length + 1) (by rw [List.length_map]; omega)
    have e4 := laws_eqSolver.refl c z (ls.map toE) (by rw [List.length_map]; omega) 1048577 hm (by omega) (bigK ls.length) (by rw [List.length_map]; exact b3)
    have e5 := spec_l3Get.eq c z n (ls.map toE) (by rw [List.length_map]; omega) (bigK ls.length + 1) (by rw [List.length_map]; omega)
    have e6 := impl_Solver_get.eq c z n (ls.map toE) (by rw [List.length_map]; omega) (bigK ls.length + 1) (by rw [List.length_map]; omega)
    have fin := fun r => FnExactSolverGet.fin (bigK ls.length) c z ls r e0 e4
    simp only [spec_SolverGet.f, impl_SolverGet.f, e1, e2, e3, Option.bind_some]
    by_cases hs : decide (SolverP c z (ls.map toE)) = true
    · simp only [if_pos hs, e1, e5, e6, Option.bind_some]
      exact fin (getE (ls.map toE) n)
    · simp only [if_neg hs, e1, Option.bind_some]
      exact fin ((⟨#[]⟩ : ByteArray), false)

end Go.Proofs.Ytaeeickboakmgaa.Pure
