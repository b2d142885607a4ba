/- What functions come to, and that they do so; conditions: those that each theorem states. -/
import Derived.Test.YtbgheffgkncpgaaDoorKpK17G
set_option linter.unusedVariables false
set_option linter.unusedSimpArgs false
namespace Go.Proofs.YtbgheffgkncpgaaDoor.V
open Go Vx Vx.N
/-! ### The law -/
noncomputable def S_laws_FnExactPlanWrite : List DA → Option Sp
  | [.agg [.sc (.int .i64 _), .sc (.int .i64 _), .row (.ints .i64 W), .row (.ints .i64 G)]] => some ⟨lenOk W.length && lenOk G.length, [B true], [], .fresh⟩
  | _ => none
theorem K_laws_FnExactPlanWrite : Sound1 Tryd.prog EKs F_laws_FnExactPlanWrite.f S_laws_FnExactPlanWrite := snd ok_laws_FnExactPlanWrite [(F_laws_szPlan.f, S_laws_szPlan), (F_spec_PlanWrite.f, S_spec_PlanWrite), (F_laws_toPlan.f, S_laws_toPlan), (F_impl_PlanWrite.f, S_impl_PlanWrite), (F_laws_eqPlan.f, S_laws_eqPlan)] (tabF_cons K_laws_szPlan (tabF_cons K_spec_PlanWrite (tabF_cons K_laws_toPlan (tabF_cons K_impl_PlanWrite (tabF_cons K_laws_eqPlan (tabF_nil _ _)))))) fun args sp h hp => by
  unfold S_laws_FnExactPlanWrite at h
  split at h
  · rename_i L Z W G
    cases h
    have hp : (lenOk W.length && lenOk G.length) = true := hp
    refine ⟨rfl, 0, (laws_FnExactPlanWrite_run _ _ _ _ _).trans ?_⟩
    unfold laws_FnExactPlanWrite_T
    rw [hp]
    by_cases hn : szN 1048576 (W.length + G.length) < 0
    · rw [decide_eq_true hn]; rfl
    · have hs : W.length + G.length ≤ 1048576 := by
        unfold szN at hn
        split at hn <;> omega
      have hw : (sm W.length && sm G.length) = true := by
        rw [Bool.and_eq_true]; exact ⟨decide_eq_true (by omega), decide_eq_true (by omega)⟩
      rw [decide_eq_false hn, hw, beq_self_eq_true, decide_eq_true rfl]; rfl
  · cases h
end Go.Proofs.YtbgheffgkncpgaaDoor.V
