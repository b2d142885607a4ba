/- What functions come to, and that they do so; conditions: those that each theorem states. -/
import Derived.Test.YthcahoeoofggjaaKeK9dG
set_option linter.unusedVariables false
set_option linter.unusedSimpArgs false
namespace Go.Proofs.Ythcahoeoofggjaa.V
open Go Vx Vx.N
/-! ### The law -/
noncomputable def S_laws_FnRowDraw : List DA → Option Sp
  | [.c (.row (.ints .u8 b))] => some ⟨byOk b, [B true], [], .fresh⟩
  | _ => none
theorem rowS_sm (c s : Int) : sm (rowS c s).length = true := by
  unfold rowS
  cases hb : inB c 1 24 && inB s 0 2147483647 with
  | false => rfl
  | true =>
    simp only [Bool.and_eq_true] at hb
    have := rowP_short (rowDr_ok s (inB_of.1 hb.1)).1
    show sm (rowDr c s).length = true
    exact decide_eq_true (by omega)
theorem K_laws_FnRowDraw : Sound1 Try.prog EKs F_laws_FnRowDraw.f S_laws_FnRowDraw := snd ok_laws_FnRowDraw [(F_spec_DrawRowDraw.f, S_spec_DrawRowDraw), (F_impl_RowDraw.f, S_impl_RowDraw), (F_laws_whInts.f, S_laws_whInts), (F_spec_RowDraw.f, S_spec_RowDraw), (F_laws_whIn.f, S_laws_whIn), (F_impl_RowOk.f, S_impl_RowOk)]
    (tabF_cons K_spec_DrawRowDraw (tabF_cons K_impl_RowDraw (tabF_cons K_laws_whInts (tabF_cons K_spec_RowDraw (tabF_cons K_laws_whIn (tabF_cons K_impl_RowOk (tabF_nil _ _))))))) fun args sp h hp => by
  unfold S_laws_FnRowDraw at h
  split at h
  · rename_i code
    cases h
    have hp : byOk code = true := hp
    refine ⟨rfl, 0, (laws_FnRowDraw_run _ _).trans ?_⟩
    unfold laws_FnRowDraw_T
    by_cases l1 : (code.length : Int) > 1048576
    · rw [decide_eq_true l1]; rfl
    rw [decide_eq_false l1, hp, rowS_sm, decide_eq_true rfl]
    generalize (drawRow code).1 = c
    generalize (drawRow code).2 = s
    cases hb : inB c 1 24 with
    | false =>
      have : rowS c s = [] := by unfold rowS; rw [hb]; rfl
      rw [this]; rfl
    | true =>
      cases hd : inB s 0 2147483647 with
      | false =>
        have : rowS c s = [] := by unfold rowS; rw [hb, hd]; rfl
        rw [this]; rfl
      | true =>
        have hc := inB_of.1 hb
        have : rowS c s = rowDr c s := by unfold rowS; rw [hb, hd]; rfl
        obtain ⟨h1, h2, h3⟩ := rowDr_ok s hc
        rw [this, decide_eq_true h1, inBt (n := ((rowDr c s).length : Int)) ⟨by omega, h3⟩]; rfl
  · cases h
end Go.Proofs.Ythcahoeoofggjaa.V
