/- The statement FnPlanFor over numbers and lists alone: its function answers true. Conditions: those of its statement. -/
import Derived.Test.YtmmpkkjaeakplaaXx11
import Derived.Test.YtmmpkkjaeakplaaXx17
import Derived.Test.YtmmpkkjaeakplaaXx18
import Derived.Test.YtmmpkkjaeakplaaXx26
import Derived.Test.YtmmpkkjaeakplaaXx31
import Derived.Test.YtmmpkkjaeakplaaXx32
import Derived.Test.YtmmpkkjaeakplaaXx33
import Derived.Test.YtmmpkkjaeakplaaQPlanFor
import Derived.Test.YtmmpkkjaeakplaaQWhS
import Derived.Test.YtmmpkkjaeakplaaQDraw
set_option linter.unusedVariables false
set_option linter.unusedSimpArgs false
namespace Go.Proofs.Ytmmpkkjaeakplaa.Pure
open Go.Proofs.Ytmmpkkjaeakplaa.X
open Go.RowKit Go.Proofs.YtmmpkkjaeakplaaW.PrintWords Go.Proofs.YtmmpkkjaeakplaaW.PrintLast Go.Proofs.YtmmpkkjaeakplaaW.PrintMore

theorem FnPlanFor : laws_FnPlanFor.Pure := by
  intro l _ _ hw
  refine ⟨20, ?_⟩
  unfold laws_FnPlanFor.f
  by_cases h : (l.length : Int) > 1048576
  · rw [if_pos h]
  rw [if_neg h]
  have hb := Bytes.open hw
  obtain ⟨v1, e1, a1, b1⟩ := draws _ hb 0 256 (by omega) (by omega) (by decide) 20 (by decide)
  obtain ⟨v2, e2, a2, b2⟩ := draws _ hb (0 + 1) 60 (by omega) (by omega) (by decide) 20 (by decide)
  have e0 : spec_DrawPlanFor.f 20 l = some (v1 + v2 - 1) := by
    unfold spec_DrawPlanFor.f
    simp only [spec_l1Open.eq, e1, e2, Option.bind_some]
    rw [w64 (x := v1 + v2) (by omega) (by omega), w64 (by omega) (by omega)]
  rw [e0, Option.bind_some]
  have hL0 : -1 ≤ v1 + v2 - 1 ∧ v1 + v2 - 1 ≤ 1000 := by omega
  generalize v1 + v2 - 1 = L at hL0
  obtain ⟨L', S, ws, gs, h1, h2, hw, hg, hy, hn⟩ := planFor_both L
  have ew : laws_whPlan.f 20 L' S ws gs L' S ws gs = some true := by
    unfold laws_whPlan.f
    rw [if_pos rfl, if_pos rfl, laws_whInts.eq ws ws (by omega) _ (by omega), Option.bind_some, if_pos (by simp), laws_whInts.eq gs gs (by omega) _ (by omega)]
    simp
  simp only [h1 20 (by decide), h2 20 (by decide), Option.bind_some, ew, if_true, laws_whIn.eq]
  by_cases hL : 1 ≤ L ∧ L ≤ 300
  · obtain ⟨rfl, hp⟩ := hy hL
    rw [if_pos (by simpa using hL)]
    have ok := impl_PlanOk.eq L' S ws gs (by omega) (by omega) 20 (by omega)
    rw [decide_eq_true hp] at ok
    have ct : impl_PlanCount.f 20 L' S ws gs = some (cntP L' S) := by
      unfold impl_PlanCount.f
      rw [ok, Option.bind_some, if_pos rfl, impl_Plan_count.eq L' S ws gs hp.1 hp.2.1]
      rfl
    simp only [ok, ct, Option.bind_some, if_true]
    have hc := cntP_pos hp.1 hp.2.1
    have hS := hp.2.1
    have hc24 := hp.2.2.1
    have m0 : 0 ≤ cntP L' S * S ∧ cntP L' S * S ≤ 24 * 16 := ⟨Int.mul_nonneg (by omega) (by omega), Int.mul_le_mul hc24 hS.2 (by omega) (by omega)⟩
    have m1 : 0 ≤ (cntP L' S - 1) * S ∧ (cntP L' S - 1) * S ≤ 24 * 16 := ⟨Int.mul_nonneg (by omega) (by omega), Int.mul_le_mul (by omega) hS.2 (by omega) (by omega)⟩
    have key1 : L' ≤ cntP L' S * S := by
      have := Int.lt_ediv_add_one_mul_self (L' + S - 1) (show 0 < S by omega)
      unfold cntP
      rw [Int.add_mul, Int.one_mul] at this
      omega
    have key2 : (cntP L' S - 1) * S < L' := by
      have := Int.ediv_mul_le (L' + S - 1) (show S ≠ 0 by omega)
      unfold cntP
      rw [Int.sub_mul, Int.one_mul]
      omega
    rw [w64 (x := cntP L' S * S) (by omega) (by omega), w64 (x := cntP L' S - 1) (by omega) (by omega), w64 (x := (cntP L' S - 1) * S) (by omega) (by omega), if_pos (by omega)]
    congr 1
    exact decide_eq_true key2
  · rw [if_neg (by simpa using hL), hn hL]
    rfl

end Go.Proofs.Ytmmpkkjaeakplaa.Pure
