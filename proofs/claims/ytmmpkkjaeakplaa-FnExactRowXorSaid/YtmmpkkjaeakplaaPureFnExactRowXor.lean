/- The statement FnExactRowXor over numbers and lists alone: its function answers true. Conditions: those of its statement. -/
import Derived.Test.YtmmpkkjaeakplaaXx6
import Derived.Test.YtmmpkkjaeakplaaXx17
import Derived.Test.YtmmpkkjaeakplaaXx18
import Derived.Test.YtmmpkkjaeakplaaXx19
import Derived.Test.YtmmpkkjaeakplaaQRowX
import Derived.Test.YtmmpkkjaeakplaaQMarkS
set_option linter.unusedVariables false
set_option linter.unusedSimpArgs false
namespace Go.Proofs.Ytmmpkkjaeakplaa.Pure
open Go.Proofs.Ytmmpkkjaeakplaa.X
open Go.RowKit Go.Proofs.YtmmpkkjaeakplaaW.PrintWords Go.Proofs.YtmmpkkjaeakplaaW.PrintLast Go.Proofs.YtmmpkkjaeakplaaW.PrintMore

theorem FnExactRowXor : laws_FnExactRowXor.Pure := by
  intro a b _ _ _ _ _ _
  refine ⟨3 * (a.length + b.length) + 100, ?_⟩
  unfold laws_FnExactRowXor.f
  by_cases h1 : (a.length : Int) > 1048576
  · rw [if_pos h1]
  rw [if_neg h1]
  by_cases h2 : (b.length : Int) > 1048576
  · rw [if_pos h2]
  rw [if_neg h2]
  have hx : (if RowP a 24 ∧ RowP b 24 then xorL a b else []).length ≤ 24 := by
    by_cases h : RowP a 24 ∧ RowP b 24
    · rw [if_pos h]
      exact asc_length _ (xorL_mem a b h.1.2.2.1 h.2.2.2.1).2 24 (xorL_in a b h.1.2.2.1 h.2.2.2.1 24 h.1.2.2.2 h.2.2.2.2)
    · rw [if_neg h]
      simp
  have e0 := impl_RowXor.eq a b (by omega) (by omega) (3 * (a.length + b.length) + 100) (by omega)
  have e1 := spec_RowXor.eq a b (by omega) (by omega) (3 * (a.length + b.length) + 100) (by omega)
  generalize (if RowP a 24 ∧ RowP b 24 then xorL a b else []) = x at hx e0 e1
  simp only [laws_toIntS.eq a (by omega) _ (show a.length < 3 * (a.length + b.length) + 100 by omega), laws_toIntS.eq b (by omega) _ (show b.length < 3 * (a.length + b.length) + 100 by omega), Option.bind_some, e0, e1,
    laws_eqIntS.eq x x (by omega) _ (show x.length < 3 * (a.length + b.length) + 100 by omega), laws_eqIntS.eq a a (by omega) _ (show a.length < 3 * (a.length + b.length) + 100 by omega), laws_eqIntS.eq b b (by omega) _ (show b.length < 3 * (a.length + b.length) + 100 by omega), decide_true, if_true]
  simp only [laws_markIntS.eq a 1 (by omega) (by omega) _ (show a.length < 3 * (a.length + b.length) + 100 by omega), Option.bind_some]
  rw [laws_markIntS.eq b (1 + a.length) (by omega) (by omega) _ (by omega)]
  simp only [Option.bind_some]
  rw [if_neg (by omega)]
  simp only [laws_FnExactRowXor.j0, Bool.not_true, Bool.false_eq_true, if_false]
  have m0 := laws_markIntS.eq x 1 (by omega) (by omega) (3 * (a.length + b.length) + 99) (by omega)
  have m1 := laws_heldIntS.eq x.length 1 (by omega) (by omega) (3 * (a.length + b.length) + 99) (by omega)
  have e2 := impl_RowXor.eq a b (by omega) (by omega) (3 * (a.length + b.length) + 99) (by omega)
  have e3 := impl_RowXor.mono a b (3 * (a.length + b.length) + 99)
  have e4 : impl_RowXor.f (3 * (a.length + b.length) + 99) a b = some x := by
    have := e3 _ e2
    rw [e0] at this
    rw [e2, ← Option.some.inj this]
  simp only [m0, m1, e4, Option.bind_some, laws_toIntS.eq a (by omega) _ (show a.length < 3 * (a.length + b.length) + 99 by omega), laws_toIntS.eq b (by omega) _ (show b.length < 3 * (a.length + b.length) + 99 by omega),
    laws_eqIntS.eq x x (by omega) _ (show x.length < 3 * (a.length + b.length) + 99 by omega), decide_true, if_true]
  rw [if_neg (by omega)]
  rw [if_neg (by omega)]

end Go.Proofs.Ytmmpkkjaeakplaa.Pure
