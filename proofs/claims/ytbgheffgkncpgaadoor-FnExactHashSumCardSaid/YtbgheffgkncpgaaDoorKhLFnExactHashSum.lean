/- What functions come to, and that they do so; conditions: those that each theorem states. -/
import Derived.Test.YtbgheffgkncpgaaDoorKhK16G
set_option linter.unusedVariables false
set_option linter.unusedSimpArgs false
namespace Go.Proofs.YtbgheffgkncpgaaDoor.V
open Go Vx Vx.N
/-! ### The law -/
noncomputable def S_laws_FnExactHashSum : List DA → Option Sp
  | [.c (.sc (.string _))] => some ⟨true, [B true], [], .fresh⟩
  | _ => none
theorem K_laws_FnExactHashSum : Sound1 Tryd.prog EKs F_laws_FnExactHashSum.f S_laws_FnExactHashSum := snd ok_laws_FnExactHashSum [(F_spec_HashSum.f, S_spec_HashSum), (F_impl_HashSum.f, S_impl_HashSum)] (tabF_cons K_spec_HashSum (tabF_cons K_impl_HashSum (tabF_nil _ _))) fun args sp h hp => by
  unfold S_laws_FnExactHashSum at h
  split at h
  · rename_i s
    cases h
    refine ⟨rfl, 0, (laws_FnExactHashSum_run _ _).trans ?_⟩
    unfold laws_FnExactHashSum_T
    by_cases l1 : (s.size : Int) > 1048576
    · rw [decide_eq_true l1]; rfl
    rw [decide_eq_false l1, decide_eq_true (show s.size < 100000000 by omega), beq_self_eq_true]; rfl
  · cases h
end Go.Proofs.YtbgheffgkncpgaaDoor.V
