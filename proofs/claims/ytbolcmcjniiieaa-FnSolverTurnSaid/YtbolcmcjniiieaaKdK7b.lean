/- What functions come to, and that they do so; conditions: those that each theorem states. -/
import Derived.Test.YtbolcmcjniiieaaKdK7a
set_option linter.unusedVariables false
set_option linter.unusedSimpArgs false
namespace Go.Proofs.Ytbolcmcjniiieaa.V
open Go Vx Vx.N
theorem drawAdd_ok {b : List Int} (h : byOk b = true) : spec_DrawSolverAdd_T b = some ([So (drawAdd b).1 (drawAdd b).2.1 (drawAdd b).2.2.1, Is (drawAdd b).2.2.2.1, T (drawAdd b).2.2.2.2], []) ∧ smE (drawAdd b).2.2.1 = true ∧ sm (drawAdd b).2.2.2.1.length = true := by
  have key : ∃ c z es row t, spec_DrawSolverAdd_T b = some ([So c z es, Is row, T t], []) ∧ smE es = true ∧ sm row.length = true := by
    have h0 := byOk_rd h
    obtain ⟨a1, a2, a3, _⟩ := any_ok h0 (by omega)
    obtain ⟨t1, t2, t3, t4⟩ := truthD_ok h0 (by omega)
    obtain ⟨⟨l1, l2, z1, z2⟩, hs⟩ := trOk_of t1
    have hbl := badRowD_len (b.take 2000) (anyR (b.take 2000) 0).2.2.2 (truthD (b.take 2000) 0).length
    unfold spec_DrawSolverAdd_T
    simp only [Int.toNat_natCast]
    simp only [Bool.cond_eq_ite, decide_eq_true_eq, Bool.and_eq_true, List.all_eq_true, beq_iff_eq, Bool.not_eq_true', decide_eq_false_iff_not]
    generalize hA : anyR (b.take 2000) 0 = A at *
    generalize hB : badRowD (b.take 2000) A.2.2.2 (truthD (b.take 2000) 0).length = row at *
    generalize hT : truthD (b.take 2000) 0 = tr at *
    rw [if_pos ⟨h0, by omega⟩, if_pos ⟨rdOk_mk h0 (by omega) (by omega), rdOk_mk h0 (by omega) (by omega), by omega, by omega⟩, if_pos (by omega)]
    by_cases hr : RowP row tr.length
    rotate_left
    · rw [if_pos hr, if_pos (by omega)]
      exact ⟨_, _, _, _, _, rfl, a1, by omega⟩
    have hr4 : ∀ x ∈ row, 0 ≤ x ∧ x < tr.length := hr.2.2.2
    rw [if_neg (not_not_intro hr), if_pos (by omega), if_pos ⟨⟨by omega, by omega, by omega⟩, fun x hx => by rw [hs x hx]; rfl, hr4⟩, if_pos (rdOk_mk h0 (by omega) (by omega))]
    by_cases c0 : pickV (b.take 2000) (A.2.2.2 + tr.length + 1) 8 = 0
    · rw [if_pos c0, if_pos (by omega), if_pos ⟨rdOk_mk h0 (by omega) (by omega), rdOk_mk h0 (by omega) (by omega), by omega, by omega⟩]
      exact ⟨_, _, _, _, _, rfl, a1, by omega⟩
    rw [if_neg c0]
    by_cases c1 : pickV (b.take 2000) (A.2.2.2 + tr.length + 1) 8 = 1
    · have hq := rdOk_mk h0 (q := A.2.2.2 + tr.length + 1 + 1) (by omega) (by omega)
      have hpk := (pick_eq (n := 2) hq).2
      have := hpk.2.1 (by omega)
      have hz := sumB_size hs row (zerosB (tr.getD 0 ⟨#[]⟩).size) hr4 (zerosB_size _)
      rw [if_pos c1, if_pos hq, if_pos ⟨rdOk_mk h0 (by omega) (by omega), rdOk_mk h0 (by omega) (by omega), by omega, by omega⟩, if_pos (by rw [hz, blockD_size]; omega)]
      exact ⟨_, _, _, _, _, rfl, a1, by omega⟩
    · rw [if_neg c1]
      exact ⟨_, _, _, _, _, rfl, a1, by omega⟩
  obtain ⟨c, z, es, row, t, e, h1, h2⟩ := key
  have : drawAdd b = (c, z, es, row, t) := by unfold drawAdd; rw [e]
  rw [this]
  exact ⟨e, h1, h2⟩
theorem K_spec_DrawSolverAdd : Sound1 Try.prog EKs F_spec_DrawSolverAdd.f S_spec_DrawSolverAdd := snd ok_spec_DrawSolverAdd [(F_spec_l1Open.f, S_spec_l1Open), (F_spec_l15AnySolver.f, S_spec_l15AnySolver), (F_spec_l15BadRow.f, S_spec_l15BadRow), (F_spec_RowOk.f, S_spec_RowOk), (F_spec_l2Sum.f, S_spec_l2Sum), (F_spec_l1Rd_pick.f, S_spec_l1Rd_pick), (F_spec_l15Block.f, S_spec_l15Block)]
    (tabF_cons K_spec_l1Open (tabF_cons K_spec_l15AnySolver (tabF_cons K_spec_l15BadRow (tabF_cons K_spec_RowOk (tabF_cons K_spec_l2Sum (tabF_cons K_spec_l1Rd_pick (tabF_cons K_spec_l15Block (tabF_nil _ _)))))))) fun args sp h hp => by
  unfold S_spec_DrawSolverAdd at h
  split at h
  · cases h
    exact ⟨rfl, 0, (spec_DrawSolverAdd_run _ _).trans (drawAdd_ok hp).1⟩
  · cases h
end Go.Proofs.Ytbolcmcjniiieaa.V
