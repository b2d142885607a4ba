/- What functions come to, and that they do so; conditions: those that each theorem states. -/
import Derived.Test.YtbgheffgkncpgaaKcK5G
set_option linter.unusedVariables false
set_option linter.unusedSimpArgs false
namespace Go.Proofs.Ytbgheffgkncpgaa.V
open Go Vx Vx.N
/-! ### The law -/
noncomputable def S_laws_FnExactSolverSays : List DA → Option Sp
  | [.agg [.sc (.int .i64 _), .sc (.int .i64 _), .row (.eqs es)], .c (.row (.ints .i64 _))] => some ⟨lenOk es.length && es.all lenE, [B true], [], .fresh⟩
  | _ => none
theorem szE_sm {es : List Eqn} (h : ¬ szN 1048576 (szE es) < 0) : smE es = true := by
  have hle : szE es ≤ 1048576 := by
    unfold szN at h
    split at h <;> omega
  have hm : ∀ (l : List Eqn) (e : Eqn), e ∈ l → szE1 e ≤ sumE l := by
    intro l
    induction l with
    | nil => intro e he; cases he
    | cons f l ih =>
      intro e he
      have e0 : sumE (f :: l) = szE1 f + sumE l := rfl
      rcases List.mem_cons.1 he with rfl | he
      · omega
      · have := ih e he; omega
  simp only [smE, Bool.and_eq_true, decide_eq_true_eq, List.all_eq_true]
  have e1 : szE es = es.length + sumE es := rfl
  refine ⟨by omega, fun e he => ?_⟩
  have h1 := hm es e he
  have h2 : szE1 e = e.1.length + e.2.size := rfl
  omega
theorem K_laws_FnExactSolverSays : Sound1 Try.prog EKs F_laws_FnExactSolverSays.f S_laws_FnExactSolverSays := snd ok_laws_FnExactSolverSays [(F_laws_szSolver.f, S_laws_szSolver), (F_laws_toSolver.f, S_laws_toSolver), (F_laws_toIntS.f, S_laws_toIntS), (F_spec_SolverSays.f, S_spec_SolverSays), (F_impl_SolverSays.f, S_impl_SolverSays), (F_laws_eqSolver.f, S_laws_eqSolver), (F_laws_eqIntS.f, S_laws_eqIntS)]
    (tabF_cons K_laws_szSolver (tabF_cons K_laws_toSolver (tabF_cons K_laws_toIntS (tabF_cons K_spec_SolverSays (tabF_cons K_impl_SolverSays (tabF_cons K_laws_eqSolver (tabF_cons K_laws_eqIntS (tabF_nil _ _)))))))) fun args sp h hp => by
  unfold S_laws_FnExactSolverSays at h
  split at h
  · rename_i c z es row
    cases h
    have hp' : (lenOk es.length && es.all lenE) = true := hp
    refine ⟨rfl, 0, (laws_FnExactSolverSays_run _ _ _ _ _).trans ?_⟩
    unfold laws_FnExactSolverSays_T
    rw [hp']
    by_cases h1 : (row.length : Int) > 1048576
    · rw [decide_eq_true h1]; rfl
    · rw [decide_eq_false h1]
      by_cases h2 : szN 1048576 (szE es) < 0
      · rw [decide_eq_true h2]; rfl
      · have h3 := szE_sm h2
        have h4 : sm row.length = true := decide_eq_true (by omega)
        rw [decide_eq_false h2, h3, h4]
        simp
        rfl
  · cases h
end Go.Proofs.Ytbgheffgkncpgaa.V
