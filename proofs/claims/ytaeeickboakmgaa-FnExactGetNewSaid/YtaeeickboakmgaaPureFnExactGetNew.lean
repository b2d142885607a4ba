/- The statement FnExactGetNew over numbers and lists alone: its function answers true. Conditions: those of its statement. -/
import Derived.Test.YtaeeickboakmgaaXx4
import Derived.Test.YtaeeickboakmgaaXx12
import Derived.Test.YtaeeickboakmgaaXx14
import Derived.Test.YtaeeickboakmgaaXx15
import Derived.Test.YtaeeickboakmgaaXx16
import Derived.Test.YtaeeickboakmgaaXx17
import Derived.Test.YtaeeickboakmgaaXx20
import Derived.Test.YtaeeickboakmgaaXx27
import Derived.Test.YtaeeickboakmgaaXx39
import Derived.Test.YtaeeickboakmgaaXx40
import Derived.Test.YtaeeickboakmgaaXx41
import Derived.Test.YtaeeickboakmgaaXx42
import Derived.Test.YtaeeickboakmgaaQPlan
import Derived.Test.YtaeeickboakmgaaQPlanS
import Derived.Test.YtaeeickboakmgaaQMarkPlan
import Derived.Test.YtaeeickboakmgaaQRowIn
import Derived.Test.YtaeeickboakmgaaQEqE
set_option linter.unusedVariables false
set_option linter.unusedSimpArgs false
namespace Go.Proofs.Ytaeeickboakmgaa.Pure
open Go.Proofs.Ytaeeickboakmgaa.X
open Go.RowKit Go.Proofs.YtaeeickboakmgaaW.PrintWords Go.Proofs.YtaeeickboakmgaaW.PrintLast Go.Proofs.YtaeeickboakmgaaW.PrintMore

theorem eqSolver_nil (a b : Int) (k : Nat) (hk : 0 < k) : laws_eqSolver.f k a b ([] : List EqE) a b ([] : List EqE) = some true := by
  obtain ⟨k, rfl, _⟩ := pos_of hk
  unfold laws_eqSolver.f laws_eqEqS.f
  rw [if_pos rfl, if_pos rfl, if_pos rfl]
  unfold laws_eqEqS.l0
  rw [if_neg (by simp)]
  rfl
theorem heldSolver_nil (a b m : Int) (h0 : 0 ≤ m) (k : Nat) (hk : 0 < k) : laws_heldSolver.f k a b ([] : List EqE) m = some m := by
  obtain ⟨k, rfl, _⟩ := pos_of hk
  unfold laws_heldSolver.f laws_heldEqS.f
  unfold laws_heldEqS.l0
  rw [if_neg (by simp), Option.bind_some, if_neg (by omega)]
theorem new_same (c z : Int) : ∃ a b, spec_SolverNew.f c z = some (a, b, ([] : List EqE)) ∧ impl_SolverNew.f c z = some (a, b, ([] : List EqE)) := by
  unfold spec_SolverNew.f impl_SolverNew.f
  rw [spec_l1In.eq, impl_within.eq, Option.bind_some, Option.bind_some]
  by_cases h : 1 ≤ c ∧ c ≤ 24
  · rw [if_pos (by simpa using h), if_pos (by simpa using h), spec_l1In.eq, impl_within.eq, Option.bind_some]
    by_cases h' : 1 ≤ z ∧ z ≤ 16
    · rw [if_pos (by simpa using h')]
      exact ⟨_, _, rfl, rfl⟩
    · rw [if_neg (by simpa using h')]
      exact ⟨_, _, rfl, rfl⟩
  · rw [if_neg (by simpa using h), if_neg (by simpa using h)]
    exact ⟨_, _, rfl, rfl⟩
/-- What both make: a plan of at most 1048576 numbers a row, a solver without equations. -/
theorem getNew_same (L S : Int) (ws gs : List Int) (k : Nat) (hw : ws.length ≤ 1048576) (hg : gs.length ≤ 1048576) (hk : ws.length + 2 < k) :
    ∃ L' S' ws' gs' a b, ws'.length ≤ 1048576 ∧ gs'.length ≤ 1048576 ∧ ws'.length ≤ ws.length ∧ gs'.length ≤ gs.length ∧ spec_GetNew.f k L S ws gs = some (L', S', ws', gs', a, b, ([] : List EqE)) ∧ impl_GetNew.f k L S ws gs = some (L', S', ws', gs', a, b, ([] : List EqE)) := by
  unfold spec_GetNew.f impl_GetNew.f
  rw [spec_PlanOk.eq L S ws gs (by omega) (by omega) k (by omega), impl_PlanOk.eq L S ws gs (by omega) (by omega) k (by omega), Option.bind_some, Option.bind_some]
  by_cases hp : PlanP L S ws gs
  · obtain ⟨a, b, n1, n2⟩ := new_same (cntP L S) S
    rw [if_pos (by simpa using hp), if_pos (by simpa using hp)]
    have c1 : spec_l6Plan.f L S ws gs = some (L, S, ws, gs) := by
      unfold spec_l6Plan.f
      rw [Option.bind_some, if_pos (by simp; omega), Option.bind_some, if_pos (by simp; omega)]
      rfl
    have c2 : impl_clonePlan.f L S ws gs = some (L, S, ws, gs) := by
      unfold impl_clonePlan.f
      rw [Option.bind_some, if_pos (by simp; omega), Option.bind_some, if_pos (by simp; omega)]
      rfl
    simp only [c1, c2, spec_l5Count.eq L S ws gs hp.1 hp.2.1, impl_Plan_count.eq L S ws gs hp.1 hp.2.1, n1, n2, Option.bind_some]
    exact ⟨_, _, ws, gs, _, _, hw, hg, Nat.le_refl _, Nat.le_refl _, rfl, rfl⟩
  · rw [if_neg (by simpa using hp), if_neg (by simpa using hp)]
    exact ⟨0, 0, [], [], 0, 0, by simp, by simp, by simp, by simp, rfl, rfl⟩
theorem FnExactGetNew (L S : Int) (ws gs : List Int) (_ : (Lit.int .i64 L).wf = true) (_ : (Lit.int .i64 S).wf = true) (hw : ws.length ≤ maxLen ∧ ∀ x ∈ ws, (Lit.int .i64 x).wf = true) (hg : gs.length ≤ maxLen ∧ ∀ x ∈ gs, (Lit.int .i64 x).wf = true) : ∃ k, laws_FnExactGetNew.f k L S ws gs = some true := by
  refine ⟨ws.length + gs.length + 10, ?_⟩
  unfold laws_FnExactGetNew.f
  obtain ⟨r, e, hr⟩ := laws_szPlan.ok L S ws gs 1048576 (by decide) (by decide) hw.1 hg.1
  rw [e, Option.bind_some]
  by_cases h : r < 0
  · rw [if_pos h]
  · have hr' := hr.resolve_left h
    rw [if_neg h]
    have hw1 : ws.length ≤ 1048576 := by omega
    have hg1 : gs.length ≤ 1048576 := by omega
    have hto : ∀ k, ws.length + gs.length < k → laws_toPlan.f k L S ws gs = some (L, S, ws, gs) := fun k hk => laws_toPlan.eq L S ws gs k hw1 hg1 hk
    obtain ⟨L', S', ws', gs', a, b, h1, h2, h3, h4, e1, e2⟩ := getNew_same L S ws gs (ws.length + gs.length + 10) hw1 hg1 (by omega)
    obtain ⟨L2, S2, ws2, gs2, a2, b2, _, _, _, _, d1, d2⟩ := getNew_same L S ws gs (ws.length + gs.length + 9) hw1 hg1 (by omega)
    have hEq : ∀ k, ws.length + gs.length < k → laws_eqGetting.f k L' S' ws' gs' a b ([] : List EqE) L' S' ws' gs' a b ([] : List EqE) = some true := fun k hk => by
      unfold laws_eqGetting.f
      rw [laws_eqPlan.refl L' S' ws' gs' k h1 h2 (by omega), Option.bind_some, if_pos rfl, eqSolver_nil a b k (by omega)]
      rfl
    have same : impl_GetNew.f (ws.length + gs.length + 9) L S ws gs = some (L', S', ws', gs', a, b, ([] : List EqE)) := by
      have p1 := impl_PlanOk.eq L S ws gs (by omega) (by omega) (ws.length + gs.length + 9) (by omega)
      have p2 := impl_PlanOk.eq L S ws gs (by omega) (by omega) (ws.length + gs.length + 10) (by omega)
      rw [← e2]
      unfold impl_GetNew.f
      rw [p1, p2]
    simp only [hto (ws.length + gs.length + 10) (by omega), e1, e2, hEq (ws.length + gs.length + 10) (by omega), Option.bind_some, if_true, laws_eqPlan.refl L S ws gs (ws.length + gs.length + 10) hw1 hg1 (by omega), laws_markPlan.eq L S ws gs 1 (by omega) (by omega) (ws.length + gs.length + 10) (by omega)]
    rw [if_neg (by omega)]
    simp only [laws_FnExactGetNew.j0, Bool.not_true, Bool.false_eq_true, if_false]
    have hM : laws_markGetting.f (ws.length + gs.length + 9) L' S' ws' gs' a b ([] : List EqE) 1 = some ((1 : Int) + ws'.length + gs'.length, marks 1 ws'.length, marks (1 + ws'.length) gs'.length) := by
      unfold laws_markGetting.f
      rw [laws_markPlan.eq L' S' ws' gs' 1 (by omega) (by omega) _ (by omega), Option.bind_some]
      rfl
    have hH : laws_heldGetting.f (ws.length + gs.length + 9) L' S' (marks 1 ws'.length) (marks (1 + ws'.length) gs'.length) a b ([] : List EqE) 1 = some ((1 : Int) + ws'.length + gs'.length) := by
      unfold laws_heldGetting.f
      rw [laws_heldPlan.eq L' S' ws'.length gs'.length 1 (by omega) (by omega) _ (by omega), Option.bind_some, if_neg (by omega), heldSolver_nil a b _ (by omega) _ (by omega), Option.bind_some, if_neg (by omega)]
    simp only [hM, hH, hto (ws.length + gs.length + 9) (by omega), same, hEq (ws.length + gs.length + 9) (by omega), Option.bind_some, if_true]
    rw [if_neg (by omega), if_neg (by omega)]

end Go.Proofs.Ytaeeickboakmgaa.Pure
