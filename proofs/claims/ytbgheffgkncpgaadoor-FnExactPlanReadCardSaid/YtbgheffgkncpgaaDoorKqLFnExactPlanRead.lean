/- What functions come to, and that they do so; conditions: those that each theorem states. -/
import Derived.Test.YtbgheffgkncpgaaDoorKqK22G
set_option linter.unusedVariables false
set_option linter.unusedSimpArgs false
namespace Go.Proofs.YtbgheffgkncpgaaDoor.V
open Go Vx Vx.N
/-! ### The law -/
noncomputable def S_laws_FnExactPlanRead : List DA → Option Sp
  | [.c (.sc (.string _))] => some ⟨true, [B true], [], .fresh⟩
  | _ => none
theorem readP_len (s : ByteArray) : (readP s).2.2.1.length ≤ 4 ∧ (readP s).2.2.2.1.length ≤ 4 := by
  unfold readP
  split
  · split
    · split
      · exact ⟨numsB_len _, numsB_len _⟩
      · exact ⟨by simp, by simp⟩
    · exact ⟨by simp, by simp⟩
  · exact ⟨by simp, by simp⟩
theorem heldP_up (m n : Nat) (k : Int) (h0 : 0 ≤ k) : heldP (upL k m) (upL (k + m) n) k = k + m + n := by
  have h1 : ∀ (m : Nat) (k : Int), heldV (upL k m) k = k + m := fun m k => by
    unfold heldV
    rw [upL_len, decide_eq_true rfl]
  unfold heldP
  rw [h1, decide_eq_false (by omega), h1]
theorem K_laws_FnExactPlanRead : Sound1 Tryd.prog EKs F_laws_FnExactPlanRead.f S_laws_FnExactPlanRead := snd ok_laws_FnExactPlanRead [(F_spec_PlanRead.f, S_spec_PlanRead), (F_impl_PlanRead.f, S_impl_PlanRead), (F_laws_eqPlan.f, S_laws_eqPlan), (F_laws_markPlan.f, S_laws_markPlan), (F_laws_heldPlan.f, S_laws_heldPlan)] (tabF_cons K_spec_PlanRead (tabF_cons K_impl_PlanRead (tabF_cons K_laws_eqPlan (tabF_cons K_laws_markPlan (tabF_cons K_laws_heldPlan (tabF_nil _ _)))))) fun args sp h hp => by
  unfold S_laws_FnExactPlanRead at h
  split at h
  · rename_i s
    cases h
    refine ⟨rfl, 0, (laws_FnExactPlanRead_run _ _).trans ?_⟩
    unfold laws_FnExactPlanRead_T
    obtain ⟨hW, hG⟩ := readP_len s
    generalize readP s = r at *
    obtain ⟨L, Z, W, G, ok⟩ := r
    dsimp only at hW hG ⊢
    simp only [Bool.cond_eq_ite, decide_eq_true_eq, Bool.not_eq_true', bne_iff_ne, ne_eq, beq_self_eq_true, upL_len]
    by_cases h1 : (s.size : Int) > 1048576
    · rw [if_pos h1]
    rw [if_neg h1]
    have hup := heldP_up W.length G.length 1 (by decide)
    rw [hup]
    have e1 : (sm W.length && sm G.length) = true := by rw [Bool.and_eq_true]; exact ⟨decide_eq_true (by omega), decide_eq_true (by omega)⟩
    have e2 : (sm W.length && sm G.length && decide ((0 : Int) ≤ 1 ∧ (1 : Int) < 10)) = true := by rw [e1]; rfl
    have k1 : ((Row.ints IntKind.i64 (upL 1 W.length)).kind.eqb (Row.ints IntKind.i64 W).kind && W.length.beq W.length) = true := by
      rw [Bool.and_eq_true]; exact ⟨rfl, Nat.beq_refl _⟩
    have k2 : ((Row.ints IntKind.i64 (upL (1 + W.length) G.length)).kind.eqb (Row.ints IntKind.i64 G).kind && G.length.beq G.length) = true := by
      rw [Bool.and_eq_true]; exact ⟨rfl, Nat.beq_refl _⟩
    rw [if_pos (by omega), if_pos (by omega), if_pos e1, if_neg (by decide), if_neg (by decide), if_pos e2, if_pos k1, if_pos k2, if_pos e2, if_neg (by omega), if_neg (not_not_intro rfl), if_pos (by omega), if_pos e1, if_neg (by decide), if_neg (by decide), if_pos e2, if_neg (by omega), if_neg (not_not_intro rfl)]
  · cases h
end Go.Proofs.YtbgheffgkncpgaaDoor.V
