/- Plain facts about lists and numbers that the claim's proof uses. Conditions: those that each theorem states. -/
import Derived.Test.YtaeeickboakmgaaXx7
import Derived.Test.YtaeeickboakmgaaXx14
import Derived.Test.YtaeeickboakmgaaQIntS
import Derived.Test.YtaeeickboakmgaaQPlanSz
set_option linter.unusedVariables false
set_option linter.unusedSimpArgs false
namespace Go.Proofs.Ytaeeickboakmgaa.X
open Go.RowKit Go.Proofs.YtaeeickboakmgaaW.PrintWords Go.Proofs.YtaeeickboakmgaaW.PrintLast Go.Proofs.YtaeeickboakmgaaW.PrintMore

theorem laws_szPlan.ok (L S : Int) (ws gs : List Int) (n : Int) (h0 : 0 ≤ n) (h1 : n ≤ 1048576) (hw : ws.length ≤ maxLen) (hg : gs.length ≤ maxLen) :
    ∃ r, laws_szPlan.f L S ws gs n = some r ∧ (r < 0 ∨ (0 ≤ r ∧ r = n - ws.length - gs.length)) := by
  unfold laws_szPlan.f
  rw [laws_szIntS.eq ws n h0 h1 hw, Option.bind_some]
  by_cases h : n - (ws.length : Int) < 0
  · rw [if_pos h, if_pos (by omega)]
    exact ⟨_, rfl, .inl (by omega)⟩
  · rw [if_neg h, if_neg h, laws_szIntS.eq gs _ (by omega) (by omega) hg, Option.bind_some]
    by_cases h2 : n - (ws.length : Int) - (gs.length : Int) < 0
    · rw [if_pos h2, if_pos (by omega)]
      exact ⟨_, rfl, .inl (by omega)⟩
    · rw [if_neg h2, if_neg h2]
      exact ⟨_, rfl, .inr ⟨by omega, rfl⟩⟩
theorem laws_toPlan.eq (L S : Int) (ws gs : List Int) (k : Nat) (hw : ws.length ≤ 1048576) (hg : gs.length ≤ 1048576) (hk : ws.length + gs.length < k) : laws_toPlan.f k L S ws gs = some (L, S, ws, gs) := by
  unfold laws_toPlan.f
  rw [laws_toIntS.eq ws (by omega) _ (by omega), Option.bind_some, laws_toIntS.eq gs (by omega) _ (by omega)]
  rfl
theorem laws_eqPlan.refl (L S : Int) (ws gs : List Int) (k : Nat) (hw : ws.length ≤ 1048576) (hg : gs.length ≤ 1048576) (hk : ws.length + gs.length < k) : laws_eqPlan.f k L S ws gs L S ws gs = some true := by
  unfold laws_eqPlan.f
  rw [if_pos rfl, if_pos rfl, laws_eqIntS.eq ws ws (by omega) _ (by omega), Option.bind_some, if_pos (by simp), laws_eqIntS.eq gs gs (by omega) _ (by omega)]
  simp

end Go.Proofs.Ytaeeickboakmgaa.X
