/- What functions come to, and that they do so; conditions: those that each theorem states. -/
import Derived.Test.YtbgheffgkncpgaaKcM2G
set_option linter.unusedVariables false
set_option linter.unusedSimpArgs false
namespace Go.Proofs.Ytbgheffgkncpgaa.V
open Go Vx Vx.N
/-! ### The law -/
noncomputable def S_laws_FnSolverGet : List DA → Option Sp
  | [.c (.row (.ints .u8 a))] => some ⟨byOk a, [B true], [], .fresh⟩
  | _ => none
theorem K_laws_FnSolverGet : Sound1 Try.prog EKs F_laws_FnSolverGet.f S_laws_FnSolverGet := snd ok_laws_FnSolverGet [(F_spec_DrawSolverGet.f, S_spec_DrawSolverGet), (F_impl_SolverGet.f, S_impl_SolverGet), (F_spec_SolverGet.f, S_spec_SolverGet), (F_impl_SolverPrefix.f, S_impl_SolverPrefix), (F_spec_SolverPrefix.f, S_spec_SolverPrefix), (F_impl_SolverRank.f, S_impl_SolverRank), (F_spec_SolverRank.f, S_spec_SolverRank), (F_spec_SolverOk.f, S_spec_SolverOk), (F_impl_SolverSays.f, S_impl_SolverSays)]
    (tabF_cons K_spec_DrawSolverGet (tabF_cons K_impl_SolverGet (tabF_cons K_spec_SolverGet (tabF_cons K_impl_SolverPrefix (tabF_cons K_spec_SolverPrefix (tabF_cons K_impl_SolverRank (tabF_cons K_spec_SolverRank (tabF_cons K_spec_SolverOk (tabF_cons K_impl_SolverSays (tabF_nil _ _)))))))))) fun args sp h hp => by
  unfold S_laws_FnSolverGet at h
  split at h
  · rename_i code
    cases h
    have p1 : byOk code = true := hp
    have q1 : smE (getR code).2.2.1 = true := (any_ok (byOk_rd p1) (by omega)).1
    refine ⟨rfl, 0, (laws_FnSolverGet_run _ _).trans ?_⟩
    unfold laws_FnSolverGet_T
    by_cases l1 : (code.length : Int) > 1048576
    · rw [decide_eq_true l1]; rfl
    rw [decide_eq_false l1, p1, q1]
    generalize (getR code).2.2.2 = x at *
    generalize (getR code).1 = c at *
    generalize (getR code).2.1 = z at *
    generalize (getR code).2.2.1 = es at *
    simp only [ba_toList_eq, cond_false, cond_true, Bool.and_self, decide_true, Bool.not_true, beq_self_eq_true, bne_self_eq_false, Bool.true_and]
    cases hs : solvB c z es with
    | false => unfold getS; rw [hs]; rfl
    | true =>
      have hS := solvB_iff.1 hs
      have eg : getS c z es x = getE es x := by unfold getS; rw [hs]
      have ep : prefS c z es = prefE es := by unfold prefS; rw [hs]
      have er : rankS c z es = es.length := by unfold rankS; rw [hs]
      rw [eg, ep, er]
      simp only [Bool.not_true, cond_false]
      have hout : ¬ (0 ≤ x ∧ x < c) → (getE es x).2 = false := fun hn => by
        cases hg : (getE es x).2 with
        | false => rfl
        | true => exact absurd (getE_in hS hg) hn
      by_cases c1 : x < 0
      · rw [decide_eq_true c1, hout (by omega)]; rfl
      by_cases c2 : x ≥ c
      · rw [decide_eq_false c1, decide_eq_true c2, hout (by omega)]; rfl
      rw [decide_eq_false c1, decide_eq_false c2]
      obtain ⟨u1, u2⟩ := unit_says hS (x := x) ⟨by omega, by omega⟩
      obtain ⟨f1, f2, f3, f4, f5, f6⟩ := pref_ok hS
      have ex : ((x.toNat : Nat) : Int) = x := by omega
      have hlt : x < (prefE es : Nat) → (getE es x).2 = true := fun h => by rw [← ex]; exact f1 _ (by omega)
      have heq : x = (prefE es : Nat) → (getE es x).2 = false := fun h => by rw [h]; exact f2
      have hle : decide (((prefE es : Nat) : Int) ≤ (es.length : Int)) = true := decide_eq_true (by omega)
      have hend : (if (es.length : Int) < c then true else (((prefE es : Nat) : Int) == c)) = true := by
        split
        · rfl
        · rcases f5 with h | h
          · omega
          · rw [h]; simp
      rw [u1, hle]
      have es1 : sm 1 = true := rfl
      rw [es1]
      cases hg : (getE es x).2 with
      | true =>
        rw [u2 hg]
        have hne : (x == ((prefE es : Nat) : Int)) = false := by
          cases hb : (x == ((prefE es : Nat) : Int)) with
          | false => rfl
          | true => rw [heq (by simpa using hb)] at hg; cases hg
        rw [hne]
        by_cases hr : (es.length : Int) < c
        · simp [hr]
        · rw [if_neg hr] at hend
          simp [hr, hend]
      | false =>
        have hnl : ¬ x < (prefE es : Nat) := fun h => by rw [hlt h] at hg; cases hg
        by_cases hr : (es.length : Int) < c
        · simp [hr, hnl]
        · rw [if_neg hr] at hend
          simp [hr, hend, hnl]
  · cases h
end Go.Proofs.Ytbgheffgkncpgaa.V
