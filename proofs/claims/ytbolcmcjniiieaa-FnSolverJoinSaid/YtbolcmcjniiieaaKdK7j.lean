/- What functions come to, and that they do so; conditions: those that each theorem states. -/
import Derived.Test.YtbolcmcjniiieaaDdjG
set_option linter.unusedVariables false
set_option linter.unusedSimpArgs false
namespace Go.Proofs.Ytbolcmcjniiieaa.V
open Go Vx Vx.N
/-! ### Two drawn solvers are small -/
theorem trOk_set {t : List ByteArray} (h : trOk t = true) (i : Nat) {x : ByteArray} (hx : x.size = (t.getD 0 ⟨#[]⟩).size) : trOk (t.set i x) = true := by
  obtain ⟨⟨l1, l2, z1, z2⟩, hs⟩ := trOk_of h
  have hall : ∀ y ∈ t.set i x, y.size = (t.getD 0 ⟨#[]⟩).size := fun y hy => by
    rcases List.mem_or_eq_of_mem_set hy with hy | rfl
    · exact hs y hy
    · exact hx
  have hlen : (t.set i x).length = t.length := List.length_set
  have h0 : ((t.set i x).getD 0 ⟨#[]⟩).size = (t.getD 0 ⟨#[]⟩).size := by
    rw [getD_lt (show 0 < (t.set i x).length by omega)]
    exact hall _ (List.getElem_mem _)
  simp only [trOk, Bool.and_eq_true, decide_eq_true_eq, List.all_eq_true]
  rw [hlen, h0]
  exact ⟨⟨l1, l2, z1, z2⟩, hall⟩
theorem jQ_in {b : List Int} (h : rdOk b 0 = true) : 0 < jQ b ∧ jQ b ≤ 500 := by
  obtain ⟨_, a1, a2, _⟩ := any_ok h (by omega)
  unfold jQ
  omega
theorem jT_ok {b : List Int} (h : rdOk b 0 = true) : trOk (jT b).1 = true ∧ 0 < (jT b).2 ∧ (jT b).2 ≤ 600 := by
  obtain ⟨t1, _⟩ := truthD_ok h (by omega)
  obtain ⟨q1, q2⟩ := jQ_in h
  obtain ⟨⟨_, _, z1, z2⟩, _⟩ := trOk_of t1
  unfold jT
  split
  · refine ⟨trOk_set t1 _ (blockD_size _ _ _), ?_, ?_⟩
    · show 0 < jQ b + 1 + 1 + 2 * (((truthD b 0).getD 0 ⟨#[]⟩).size : Int); omega
    · show jQ b + 1 + 1 + 2 * (((truthD b 0).getD 0 ⟨#[]⟩).size : Int) ≤ 600; omega
  · exact ⟨t1, by show 0 < jQ b + 1; omega, by show jQ b + 1 ≤ 600; omega⟩
theorem jT2_ok {b : List Int} (h : rdOk b 0 = true) : trOk (jT2 b).1 = true ∧ 0 < (jT2 b).2 ∧ (jT2 b).2 ≤ 800 := by
  obtain ⟨t1, t2, t3⟩ := jT_ok h
  unfold jT2
  split
  · obtain ⟨u1, _, u3, u4⟩ := truthD_ok (b := b) (p := (jT b).2 + 1) (rdOk_mk h (by omega) (by omega)) (by omega)
    exact ⟨u1, by show 0 < truthP b ((jT b).2 + 1); omega, by show truthP b ((jT b).2 + 1) ≤ 800; omega⟩
  · exact ⟨t1, by show 0 < (jT b).2 + 1; omega, by show (jT b).2 + 1 ≤ 800; omega⟩
theorem drawJ_sm {b : List Int} (h : byOk b = true) : smE (drawJ b).1.2.2 = true ∧ smE (drawJ b).2.2.2 = true := by
  have h0 := byOk_rd h
  obtain ⟨a, _⟩ := any_ok h0 (by omega)
  exact ⟨a, solver_sm (solvD_ok _ _ (jT2_ok h0).1)⟩
theorem K_spec_DrawSolverJoin : Sound1 Try.prog EKs F_spec_DrawSolverJoin.f S_spec_DrawSolverJoin := snd ok_spec_DrawSolverJoin [(F_spec_l1Open.f, S_spec_l1Open), (F_spec_l15AnySolver.f, S_spec_l15AnySolver), (F_spec_l1Rd_pick.f, S_spec_l1Rd_pick), (F_spec_l15Block.f, S_spec_l15Block), (F_spec_l15Truth.f, S_spec_l15Truth), (F_spec_l15Solver.f, S_spec_l15Solver)] (tabF_cons K_spec_l1Open (tabF_cons K_spec_l15AnySolver (tabF_cons K_spec_l1Rd_pick (tabF_cons K_spec_l15Block (tabF_cons K_spec_l15Truth (tabF_cons K_spec_l15Solver (tabF_nil _ _))))))) fun args sp h hp => by
  unfold S_spec_DrawSolverJoin at h
  split at h
  · rename_i code
    cases h
    have h0 := byOk_rd hp
    refine ⟨rfl, 0, (spec_DrawSolverJoin_run _ _).trans ?_⟩
    unfold spec_DrawSolverJoin_T drawJ jB
    generalize code.take 2000 = b at *
    obtain ⟨t1, _⟩ := truthD_ok h0 (by omega)
    obtain ⟨⟨l1, l2, z1, z2⟩, _⟩ := trOk_of t1
    obtain ⟨q1, q2⟩ := jQ_in h0
    obtain ⟨j1, j2, j3⟩ := jT_ok h0
    obtain ⟨k1, k2, k3⟩ := jT2_ok h0
    have hq0 : rdOk b (jQ b) = true := rdOk_mk h0 (by omega) (by omega)
    have hq1 : rdOk b (jQ b + 1) = true := rdOk_mk h0 (by omega) (by omega)
    have hq2 : rdOk b (jQ b + 1 + 1) = true := rdOk_mk h0 (by omega) (by omega)
    have hpk := (pick_eq (n := ((truthD b 0).length : Int)) hq1).2
    show _ = some ([So (anyR b 0).1 (anyR b 0).2.1 (anyR b 0).2.2.1, So (jT2 b).1.length ((jT2 b).1.getD 0 ⟨#[]⟩).size (solvD b (jT2 b).2 (jT2 b).1)], [])
    rw [show (anyR b 0).2.2.2 = jQ b from rfl]
    simp only [Bool.cond_eq_ite, decide_eq_true_eq, Bool.and_eq_true]
    rw [if_pos ⟨h0, by omega⟩, if_pos hq0]
    cases c1 : (pickV b (jQ b) 6 == 0) with
    | true =>
      have e1 : jT b = ((truthD b 0).set (pickV b (jQ b + 1) (truthD b 0).length).toNat (blockD b (jQ b + 1 + 1) ((truthD b 0).getD 0 ⟨#[]⟩).size), jQ b + 1 + 1 + 2 * (((truthD b 0).getD 0 ⟨#[]⟩).size : Int)) := by unfold jT; rw [c1]
      rw [e1] at j1 j2 j3
      simp only at j1 j2 j3
      have hq3 : rdOk b (jQ b + 1 + 1 + 2 * (((truthD b 0).getD 0 ⟨#[]⟩).size : Int)) = true := rdOk_mk h0 (by omega) (by omega)
      have hq4 : rdOk b (jQ b + 1 + 1 + 2 * (((truthD b 0).getD 0 ⟨#[]⟩).size : Int) + 1) = true := rdOk_mk h0 (by omega) (by omega)
      rw [if_pos rfl, if_pos hq1, if_pos (by omega), if_pos ⟨hq2, hq3, by omega, by omega⟩, if_pos (by omega), if_pos (by omega), if_pos hq3]
      unfold jT2 at k1 k2 k3 ⊢
      rw [e1] at k1 k2 k3 ⊢
      simp only at k1 k2 k3 ⊢
      cases c2 : (pickV b (jQ b + 1 + 1 + 2 * (((truthD b 0).getD 0 ⟨#[]⟩).size : Int)) 12 == 0) with
      | true =>
        rw [c2] at k1 k2 k3
        simp only at k1 k2 k3
        rw [if_pos rfl, if_pos ⟨hq4, by omega⟩, if_pos ⟨rdOk_mk h0 (by omega) (by omega), k1, by omega⟩]
      | false =>
        rw [c2] at k1 k2 k3
        simp only at k1 k2 k3
        rw [if_neg (by simp), Int.toNat_natCast, if_pos ⟨hq4, k1, by omega⟩]
    | false =>
      have e1 : jT b = (truthD b 0, jQ b + 1) := by unfold jT; rw [c1]
      rw [if_neg (by simp), if_pos hq1]
      unfold jT2 at k1 k2 k3 ⊢
      rw [e1] at k1 k2 k3 ⊢
      simp only at k1 k2 k3 ⊢
      cases c2 : (pickV b (jQ b + 1) 12 == 0) with
      | true =>
        rw [c2] at k1 k2 k3
        simp only at k1 k2 k3
        rw [if_pos rfl, if_pos ⟨hq2, by omega⟩, if_pos ⟨rdOk_mk h0 (by omega) (by omega), k1, by omega⟩]
      | false =>
        rw [c2] at k1 k2 k3
        simp only at k1 k2 k3
        rw [if_neg (by simp), if_pos ⟨hq2, k1, by omega⟩]
  · cases h
end Go.Proofs.Ytbolcmcjniiieaa.V
