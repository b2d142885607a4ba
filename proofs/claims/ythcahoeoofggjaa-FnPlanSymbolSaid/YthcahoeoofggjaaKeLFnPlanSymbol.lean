/- What functions come to, and that they do so; conditions: those that each theorem states. -/
import Derived.Test.YthcahoeoofggjaaKeK9dG
set_option linter.unusedVariables false
set_option linter.unusedSimpArgs false
namespace Go.Proofs.Ythcahoeoofggjaa.V
open Go Vx Vx.N
/-! ### The law -/
noncomputable def S_laws_FnPlanSymbol : List DA → Option Sp
  | [.c (.row (.ints .u8 b))] => some ⟨byOk b, [B true], [], .fresh⟩
  | _ => none
theorem K_laws_FnPlanSymbol : Sound1 Try.prog EKs F_laws_FnPlanSymbol.f S_laws_FnPlanSymbol := snd ok_laws_FnPlanSymbol [(F_spec_DrawPlanSymbol.f, S_spec_DrawPlanSymbol), (F_impl_PlanSymbol.f, S_impl_PlanSymbol), (F_spec_PlanSymbol.f, S_spec_PlanSymbol), (F_impl_RowSum.f, S_impl_RowSum), (F_impl_PlanCut.f, S_impl_PlanCut), (F_impl_PlanRow.f, S_impl_PlanRow)]
    (tabF_cons K_spec_DrawPlanSymbol (tabF_cons K_impl_PlanSymbol (tabF_cons K_spec_PlanSymbol (tabF_cons K_impl_RowSum (tabF_cons K_impl_PlanCut (tabF_cons K_impl_PlanRow (tabF_nil _ _))))))) fun args sp h hp => by
  unfold S_laws_FnPlanSymbol at h
  split at h
  · rename_i code
    cases h
    have hp : byOk code = true := hp
    obtain ⟨⟨_, s1, s2⟩, s3⟩ := cutR_ok hp
    refine ⟨rfl, 0, (laws_FnPlanSymbol_run _ _).trans ?_⟩
    unfold laws_FnPlanSymbol_T
    by_cases l1 : (code.length : Int) > 1048576
    · rw [decide_eq_true l1]; rfl
    generalize (idR (code.take 2000) 0).1 = id at *
    generalize (cutR code).1 = L at *
    generalize (cutR code).2.1 = Z at *
    generalize (cutR code).2.2.1 = W at *
    generalize (cutR code).2.2.2.1 = G at *
    generalize (cutR code).2.2.2.2 = t at *
    have hsm : (sm W.length && sm G.length) = true := by rw [Bool.and_eq_true]; exact ⟨decide_eq_true (by omega), decide_eq_true (by omega)⟩
    rw [decide_eq_false l1, hp, hsm, rowPS_sm, cutS_sm, ba_toList_eq, ba_toList_eq]
    cases hb : planB L Z W G && (decide ((t.size : Int) = L) && inB id 0 9999) with
    | false =>
      have : symS L Z W G t id = (⟨#[]⟩, false) := by unfold symS; rw [hb]
      rw [this, decide_eq_true rfl]; rfl
    | true =>
      have hse : symS L Z W G t id = (symB L Z W G t id, true) := by unfold symS; rw [hb]
      simp only [Bool.and_eq_true, decide_eq_true_eq] at hb
      obtain ⟨hB, ht, hd⟩ := hb
      have hP := planB_iff.1 hB
      have hid := inB_of.1 hd
      have hcs : cutS L Z W G t = cutL L Z t := by unfold cutS; rw [hB, decide_eq_true ht]; rfl
      have hrs : rowPS L Z W G id = rowPl L Z W G id := by unfold rowPS; rw [hB, hd]; rfl
      have hsz := symB_size hP ht hid.1
      rw [hse, hcs, hrs, sum_eq hP ht hid.1, decide_eq_true rfl, hsz]
      simp
  · cases h
end Go.Proofs.Ythcahoeoofggjaa.V
