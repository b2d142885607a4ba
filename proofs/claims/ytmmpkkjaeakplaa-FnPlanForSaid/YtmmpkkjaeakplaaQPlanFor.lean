/- Plain facts about lists and numbers that the claim's proof uses. Conditions: those that each theorem states. -/
import Derived.Test.YtmmpkkjaeakplaaXx2
import Derived.Test.YtmmpkkjaeakplaaXx17
import Derived.Test.YtmmpkkjaeakplaaXx28
import Derived.Test.YtmmpkkjaeakplaaQPlan
set_option linter.unusedVariables false
set_option linter.unusedSimpArgs false
namespace Go.Proofs.Ytmmpkkjaeakplaa.X
open Go.RowKit Go.Proofs.YtmmpkkjaeakplaaW.PrintWords Go.Proofs.YtmmpkkjaeakplaaW.PrintLast Go.Proofs.YtmmpkkjaeakplaaW.PrintMore

def resP (L S : Int) : Int × Int × List Int × List Int :=
  if (cntP L S + 3) / 4 < cntP L S then (L, S, [(cntP L S + 3) / 4, cntP L S], [2, 3]) else (L, S, [cntP L S], [1])
theorem cntP_13 {L : Int} (hL : 1 ≤ L ∧ L ≤ 300) : cntP L 13 ≤ 24 := by unfold cntP; omega
theorem q_ok {c : Int} (h0 : 1 ≤ c) (h1 : c ≤ 300) : wrap64 (Int.tdiv (wrap64 (c + 3)) 4) = (c + 3) / 4 := by
  rw [w64 (x := c + 3) (by omega) (by omega), Int.tdiv_eq_ediv_of_nonneg (by omega), w64 (by omega) (by omega)]
theorem planFor_loops (L : Int) (hL : 1 ≤ L ∧ L ≤ 300) (d : Nat) : ∀ S : Int, 8 ≤ S → 13 - S = d →
    ∃ s, 8 ≤ s ∧ s ≤ 13 ∧ cntP L s ≤ 24 ∧ (∀ k, d < k → spec_l5For.l0 k L S = some (resP L s)) ∧ ∀ k, d < k → impl_PlanFor.l0 k L S = some (resP L s) := by
  induction d with
  | zero =>
    intro S h8 hd
    have e : S = 13 := by omega
    subst e
    have hc := cntP_13 hL
    have hp := cntP_pos hL (S := 13) (by omega)
    refine ⟨13, by omega, by omega, hc, fun k hk => ?_, fun k hk => ?_⟩
    · obtain ⟨k, rfl, _⟩ := pos_of hk
      simp only [spec_l5For.l0, spec_l5Count.eq L 13 _ _ hL (by omega), Option.bind_some, q_ok hp.1 hp.2]
      rw [if_neg (by omega)]
      unfold resP
      split <;> rfl
    · obtain ⟨k, rfl, _⟩ := pos_of hk
      simp only [impl_PlanFor.l0, impl_Plan_count.eq L 13 _ _ hL (by omega), Option.bind_some, q_ok hp.1 hp.2]
      rw [if_neg (by omega)]
      unfold resP
      split <;> rfl
  | succ d ih =>
    intro S h8 hd
    have hp := cntP_pos hL (S := S) (by omega)
    by_cases hc : cntP L S ≤ 24
    · refine ⟨S, by omega, by omega, hc, fun k hk => ?_, fun k hk => ?_⟩
      · obtain ⟨k, rfl, _⟩ := pos_of hk
        simp only [spec_l5For.l0, spec_l5Count.eq L S _ _ hL (by omega), Option.bind_some, q_ok hp.1 hp.2]
        rw [if_neg (by omega)]
        unfold resP
        split <;> rfl
      · obtain ⟨k, rfl, _⟩ := pos_of hk
        simp only [impl_PlanFor.l0, impl_Plan_count.eq L S _ _ hL (by omega), Option.bind_some, q_ok hp.1 hp.2]
        rw [if_neg (by omega)]
        unfold resP
        split <;> rfl
    · obtain ⟨s, h0, h1, h2, h3, h4⟩ := ih (S + 1) (by omega) (by omega)
      refine ⟨s, h0, h1, h2, fun k hk => ?_, fun k hk => ?_⟩
      · obtain ⟨k, rfl, _⟩ := pos_of hk
        simp only [spec_l5For.l0, spec_l5Count.eq L S _ _ hL (by omega), Option.bind_some]
        rw [if_pos (by omega), w64 (by omega) (by omega)]
        exact h3 k (by omega)
      · obtain ⟨k, rfl, _⟩ := pos_of hk
        simp only [impl_PlanFor.l0, impl_Plan_count.eq L S _ _ hL (by omega), Option.bind_some]
        rw [if_pos (by omega), w64 (by omega) (by omega)]
        exact h4 k (by omega)
theorem resP_ok {L S : Int} (hL : 1 ≤ L ∧ L ≤ 300) (hS : 8 ≤ S ∧ S ≤ 13) (hc : cntP L S ≤ 24) : ∃ ws gs, resP L S = (L, S, ws, gs) ∧ PlanP L S ws gs := by
  have hp := cntP_pos hL (S := S) (by omega)
  unfold resP
  by_cases h : (cntP L S + 3) / 4 < cntP L S
  · rw [if_pos h]
    refine ⟨_, _, rfl, hL, by omega, hc, by simp, by simp, ?_, by simp⟩
    intro j _ hj
    simp only [List.length_cons, List.length_nil] at hj
    match j, hj with
    | 0, _ => exact ⟨by simp; omega, by simp, by simp⟩
    | 1, _ => exact ⟨by simp; omega, by simp; omega, by simp⟩
  · rw [if_neg h]
    refine ⟨_, _, rfl, hL, by omega, hc, by simp, by simp, ?_, by simp⟩
    intro j _ hj
    simp only [List.length_cons, List.length_nil] at hj
    match j, hj with
    | 0, _ => exact ⟨by simp; omega, by simp, by simp⟩
/-- What PlanFor answers: one thing for both. -/
theorem planFor_both (L : Int) : ∃ L' S ws gs, (∀ k, 6 < k → spec_PlanFor.f k L = some (L', S, ws, gs)) ∧ (∀ k, 6 < k → impl_PlanFor.f k L = some (L', S, ws, gs)) ∧ ws.length ≤ 2 ∧ gs.length ≤ 2 ∧ ((1 ≤ L ∧ L ≤ 300) → L' = L ∧ PlanP L S ws gs) ∧ (¬ (1 ≤ L ∧ L ≤ 300) → L' = 0) := by
  by_cases hL : 1 ≤ L ∧ L ≤ 300
  · obtain ⟨s, h0, h1, h2, h3, h4⟩ := planFor_loops L hL 5 8 (by omega) (by omega)
    obtain ⟨ws, gs, e, hp⟩ := resP_ok hL ⟨h0, h1⟩ h2
    rw [e] at h3 h4
    have hl : ws.length ≤ 2 ∧ gs.length ≤ 2 := by
      unfold resP at e
      split at e <;> (simp only [Prod.mk.injEq] at e; obtain ⟨_, _, rfl, rfl⟩ := e; simp)
    refine ⟨L, s, ws, gs, fun k hk => ?_, fun k hk => ?_, hl.1, hl.2, fun _ => ⟨rfl, hp⟩, fun h => absurd hL h⟩
    · unfold spec_PlanFor.f spec_l5For.f
      rw [spec_l1In.eq, Option.bind_some, if_pos (by simpa using hL), h3 k (by omega)]
      rfl
    · unfold impl_PlanFor.f
      rw [impl_within.eq, Option.bind_some, if_pos (by simpa using hL), h4 k (by omega)]
  · refine ⟨0, 0, [], [], fun k hk => ?_, fun k hk => ?_, by simp, by simp, fun h => absurd h hL, fun _ => rfl⟩
    · unfold spec_PlanFor.f
      rw [spec_l1In.eq, Option.bind_some, if_neg (by simpa using hL)]
    · unfold impl_PlanFor.f
      rw [impl_within.eq, Option.bind_some, if_neg (by simpa using hL)]

end Go.Proofs.Ytmmpkkjaeakplaa.X
