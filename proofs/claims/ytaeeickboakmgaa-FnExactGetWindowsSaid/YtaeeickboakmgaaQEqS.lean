/- Plain facts about lists and numbers that the claim's proof uses. Conditions: those that each theorem states. -/
import Derived.Test.YtaeeickboakmgaaXx7
import Derived.Test.YtaeeickboakmgaaXx12
import Derived.Test.YtaeeickboakmgaaQIntS
import Derived.Test.YtaeeickboakmgaaQEqE
set_option linter.unusedVariables false
set_option linter.unusedSimpArgs false
namespace Go.Proofs.Ytaeeickboakmgaa.X
open Go.RowKit Go.Proofs.YtaeeickboakmgaaW.PrintWords Go.Proofs.YtaeeickboakmgaaW.PrintLast Go.Proofs.YtaeeickboakmgaaW.PrintMore

theorem laws_eqEqS.from_ (es : List EqE) (hl : es.length < 1073741824) (R : Nat) (hR : ∀ e ∈ es, e.f0.length < R) (hR2 : R < 1073741824) (d : Nat) : ∀ (k i : Nat), es.length - i = d → i ≤ es.length → R + d < k → laws_eqEqS.l0 k es es i = some true := by
  induction d with
  | zero =>
    intro k i hd hi hk
    obtain ⟨k, rfl, _⟩ := pos_of (show 0 < k by omega)
    simp only [laws_eqEqS.l0]
    rw [if_neg (by omega)]
  | succ d ih =>
    intro k i hd hi hk
    obtain ⟨k, rfl, hk'⟩ := pos_of (show 0 < k by omega)
    have hlt : i < es.length := by omega
    have hr := hR _ (getD_mem hlt)
    simp only [laws_eqEqS.l0]
    rw [if_pos (by omega), if_pos (by omega), if_pos (by omega), rdE_nat, w64n (by omega)]
    have e : laws_eqEq.f k (es.getD i zE).f0 (es.getD i zE).f1 (es.getD i zE).f0 (es.getD i zE).f1 = some true := by
      unfold laws_eqEq.f
      rw [laws_eqIntS.eq _ _ (by omega) _ (by omega), Option.bind_some, if_pos (by simp), if_pos rfl]
    rw [e, Option.bind_some, if_pos rfl]
    exact ih k (i + 1) (by omega) (by omega) (by omega)
theorem laws_eqSolver.refl (c z : Int) (es : List EqE) (hl : es.length < 1073741824) (R : Nat) (hR : ∀ e ∈ es, e.f0.length < R) (hR2 : R < 1073741824) (k : Nat) (hk : R + es.length < k) : laws_eqSolver.f k c z es c z es = some true := by
  unfold laws_eqSolver.f laws_eqEqS.f
  have := laws_eqEqS.from_ es hl R hR hR2 es.length k 0 (by omega) (by omega) hk
  have e : laws_eqEqS.l0 k es es 0 = some true := this
  rw [if_pos rfl, if_pos rfl, if_pos rfl, e]
  rfl

end Go.Proofs.Ytaeeickboakmgaa.X
