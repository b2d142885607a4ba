/- Plain facts about lists and numbers that the claim's proof uses. Conditions: those that each theorem states. -/
import Derived.Test.YtaeeickboakmgaaXx8
import Derived.Test.YtaeeickboakmgaaQSolvS
import Derived.Test.YtaeeickboakmgaaQEqS
set_option linter.unusedVariables false
set_option linter.unusedSimpArgs false
namespace Go.Proofs.Ytaeeickboakmgaa.X
open Go.RowKit Go.Proofs.YtaeeickboakmgaaW.PrintWords Go.Proofs.YtaeeickboakmgaaW.PrintLast Go.Proofs.YtaeeickboakmgaaW.PrintMore

/-- What the laws over one solver begin with. -/
theorem solver_size (c z : Int) (ls : List LawE) (hl : ls.length ≤ maxLen) (hg : ∀ x ∈ ls, goodL x) (k : Nat) (hk : ls.length < k) :
    ∃ r, laws_szSolver.f k c z ls 1048576 = some r ∧ (r < 0 ∨ (¬ r < 0 ∧ ls.length ≤ 1048576 ∧ ∀ x ∈ ls, x.f0.length < 1048577)) := by
  obtain ⟨r, e, hr⟩ := laws_szSolver.ok c z ls 1048576 (by decide) (by decide) hl hg k hk
  refine ⟨r, e, hr.imp id fun ⟨h0, _, h2, h3⟩ => ⟨by omega, by omega, fun x hx => ?_⟩⟩
  have := h3 x hx
  omega
theorem map_len {ls : List LawE} {R : Nat} (h : ∀ x ∈ ls, x.f0.length < R) : ∀ e ∈ ls.map toE, e.f0.length < R := by
  intro e he
  obtain ⟨x, hx, rfl⟩ := List.mem_map.1 he
  exact h x hx
def bigK (n : Nat) : Nat := 1048577 + (n + 1) * (n + 2) + 100 * n + 1000
theorem bigK_ge (n : Nat) : 1048577 + (n + 1) * (n + 2) + 2 * n + 6 < bigK n ∧ 1048577 + 3 * n + 6 < bigK n ∧ 1048577 + n < bigK n ∧ n < bigK n ∧ 30 * n + 100 < bigK n := by unfold bigK; omega

end Go.Proofs.Ytaeeickboakmgaa.X
