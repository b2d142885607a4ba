/- Plain facts about lists and numbers that the claim's proof uses. Conditions: those that each theorem states. -/
import Derived.Test.YtmmpkkjaeakplaaXx6
import Derived.Test.YtmmpkkjaeakplaaXx11
import Derived.Test.YtmmpkkjaeakplaaXx13
import Derived.Test.YtmmpkkjaeakplaaXx15
import Derived.Test.YtmmpkkjaeakplaaQIntS
set_option linter.unusedVariables false
set_option linter.unusedSimpArgs false
namespace Go.Proofs.Ytmmpkkjaeakplaa.X
open Go.RowKit Go.Proofs.YtmmpkkjaeakplaaW.PrintWords Go.Proofs.YtmmpkkjaeakplaaW.PrintLast Go.Proofs.YtmmpkkjaeakplaaW.PrintMore

theorem laws_szIntS.eq (l : List Int) (n : Int) (h0 : 0 ≤ n) (h1 : n ≤ 1048576) (hl : l.length ≤ maxLen) : laws_szIntS.f l n = some (if n - l.length < 0 then -1 else n - l.length) := by
  unfold maxLen at hl
  unfold laws_szIntS.f
  rw [w64 (by omega) (by omega)]
  split <;> rfl
theorem laws_szPlan.ok (L S : Int) (ws gs : List Int) (n : Int) (h0 : 0 ≤ n) (h1 : n ≤ 1048576) (hw : ws.length ≤ maxLen) (hg : gs.length ≤ maxLen) :
    ∃ r, laws_szPlan.f L S ws gs n = some r ∧ (r < 0 ∨ (0 ≤ r ∧ r = n - ws.length - gs.length)) := by
  unfold laws_szPlan.f
  rw [laws_szIntS.eq ws n h0 h1 hw, Option.bind_some]
  by_cases h : n - (ws.length : Int) < 0
  · rw [if_pos h, if_pos (by omega)]
    exact ⟨_, rfl, .inl (by omega)⟩
  · rw [if_neg h, if_neg h, laws_szIntS.eq gs _ (by omega) (by omega) hg, Option.bind_some]
    by_cases h2 : n - (ws.length : Int) - (gs.length : Int) < 0
    · rw [if_pos h2, if_pos (by omega)]
      exact ⟨_, rfl, .inl (by omega)⟩
    · rw [if_neg h2, if_neg h2]
      exact ⟨_, rfl, .inr ⟨by omega, rfl⟩⟩
theorem laws_toPlan.eq (L S : Int) (ws gs : List Int) (k : Nat) (hw : ws.length ≤ 1048576) (hg : gs.length ≤ 1048576) (hk : ws.length + gs.length < k) : laws_toPlan.f k L S ws gs = some (L, S, ws, gs) := by
  unfold laws_toPlan.f
  rw [laws_toIntS.eq ws (by omega) _ (by omega), Option.bind_some, laws_toIntS.eq gs (by omega) _ (by omega)]
  rfl
theorem laws_eqPlan.refl (L S : Int) (ws gs : List Int) (k : Nat) (hw : ws.length ≤ 1048576) (hg : gs.length ≤ 1048576) (hk : ws.length + gs.length < k) : laws_eqPlan.f k L S ws gs L S ws gs = some true := by
  unfold laws_eqPlan.f
  rw [if_pos rfl, if_pos rfl, laws_eqIntS.eq ws ws (by omega) _ (by omega), Option.bind_some, if_pos (by simp), laws_eqIntS.eq gs gs (by omega) _ (by omega)]
  simp

end Go.Proofs.Ytmmpkkjaeakplaa.X
