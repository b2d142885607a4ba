/- What functions come to, and that they do so; conditions: those that each theorem states. -/
import Derived.Test.YtbgheffgkncpgaaDoorKhK16G
set_option linter.unusedVariables false
set_option linter.unusedSimpArgs false
namespace Go.Proofs.YtbgheffgkncpgaaDoor.V
open Go Vx Vx.N
/-! ### The law -/
noncomputable def S_laws_FnHashSum : List DA → Option Sp
  | [.c (.row (.ints .u8 a))] => some ⟨true, [B true], [], .fresh⟩
  | _ => none
theorem K_laws_FnHashSum : Sound1 Tryd.prog EKs F_laws_FnHashSum.f S_laws_FnHashSum := snd ok_laws_FnHashSum [(F_spec_DrawHashSum.f, S_spec_DrawHashSum), (F_impl_HashSum.f, S_impl_HashSum), (F_spec_HashSum.f, S_spec_HashSum)] (tabF_cons K_spec_DrawHashSum (tabF_cons K_impl_HashSum (tabF_cons K_spec_HashSum (tabF_nil _ _)))) fun args sp h hp => by
  unfold S_laws_FnHashSum at h
  split at h
  · rename_i code
    cases h
    refine ⟨rfl, 0, (laws_FnHashSum_run _ _).trans ?_⟩
    unfold laws_FnHashSum_T
    by_cases l1 : (code.length : Int) > 1048576
    · rw [decide_eq_true l1]; rfl
    have hs := drawH_size code
    rw [decide_eq_false l1, decide_eq_true (show code.length < 10000000 by omega), decide_eq_true (show (drawH code).size < 100000000 by omega), beq_self_eq_true, hexS_size, sumS_size]; rfl
  · cases h
end Go.Proofs.YtbgheffgkncpgaaDoor.V
