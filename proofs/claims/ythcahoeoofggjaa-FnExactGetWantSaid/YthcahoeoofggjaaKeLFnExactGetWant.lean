/- What functions come to, and that they do so; conditions: those that each theorem states. -/
import Derived.Test.YthcahoeoofggjaaKeK12G
set_option linter.unusedVariables false
set_option linter.unusedSimpArgs false
namespace Go.Proofs.Ythcahoeoofggjaa.V
open Go Vx Vx.N
/-! ### The law -/
noncomputable def S_laws_FnExactGetWant : List DA → Option Sp
  | [.agg [.sc (.int .i64 _), .sc (.int .i64 _), .row (.ints .i64 W), .row (.ints .i64 G), .sc (.int .i64 _), .sc (.int .i64 _), .row (.eqs es)], .c (.sc (.int .i64 _))] => some ⟨(lenOk W.length && lenOk G.length) && (lenOk es.length && es.all lenE), [B true], [], .fresh⟩
  | _ => none
theorem szG_sm {W G : List Int} {es : List Eqn} (h : ¬ szN 1048576 ((W.length + G.length) + szE es) < 0) : smG W G es = true := by
  have hle : (W.length + G.length) + szE es ≤ 1048576 := by
    unfold szN at h
    split at h <;> omega
  have hm : ∀ (l : List Eqn) (e : Eqn), e ∈ l → szE1 e ≤ sumE l := by
    intro l
    induction l with
    | nil => intro e he; cases he
    | cons f l ih =>
      intro e he
      have e0 : sumE (f :: l) = szE1 f + sumE l := rfl
      rcases List.mem_cons.1 he with rfl | he
      · omega
      · have := ih e he; omega
  have e1 : szE es = es.length + sumE es := rfl
  have hs : smE es = true := by
    simp only [smE, Bool.and_eq_true, decide_eq_true_eq, List.all_eq_true]
    refine ⟨by omega, fun e he => ?_⟩
    have h1 := hm es e he
    have h2 : szE1 e = e.1.length + e.2.size := rfl
    omega
  show ((sm W.length && sm G.length) && smE es) = true
  rw [hs, (show sm W.length = true from decide_eq_true (by omega)), (show sm G.length = true from decide_eq_true (by omega))]; rfl
theorem K_laws_FnExactGetWant : Sound1 Try.prog EKs F_laws_FnExactGetWant.f S_laws_FnExactGetWant := snd ok_laws_FnExactGetWant [(F_laws_szGetting.f, S_laws_szGetting), (F_laws_toGetting.f, S_laws_toGetting), (F_spec_GetWant.f, S_spec_GetWant), (F_impl_GetWant.f, S_impl_GetWant), (F_laws_eqGetting.f, S_laws_eqGetting)]
    (tabF_cons K_laws_szGetting (tabF_cons K_laws_toGetting (tabF_cons K_spec_GetWant (tabF_cons K_impl_GetWant (tabF_cons K_laws_eqGetting (tabF_nil _ _)))))) fun args sp h hp => by
  unfold S_laws_FnExactGetWant at h
  split at h
  · rename_i L Z W G c z es fr
    cases h
    have hp' : ((lenOk W.length && lenOk G.length) && (lenOk es.length && es.all lenE)) = true := hp
    refine ⟨rfl, 0, (laws_FnExactGetWant_run _ _ _ _ _ _ _ _ _).trans ?_⟩
    unfold laws_FnExactGetWant_T
    rw [hp']
    by_cases h2 : szN 1048576 ((W.length + G.length) + szE es) < 0
    · rw [decide_eq_true h2]; rfl
    · rw [decide_eq_false h2, szG_sm h2, bne_dec, decide_eq_true rfl, decide_eq_true rfl, decide_eq_true rfl]; rfl
  · cases h
end Go.Proofs.Ythcahoeoofggjaa.V
