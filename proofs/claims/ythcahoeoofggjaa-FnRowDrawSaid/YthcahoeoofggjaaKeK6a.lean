/- What functions come to, and that they do so; conditions: those that each theorem states. -/
import Derived.Test.YthcahoeoofggjaaDe6
set_option linter.unusedVariables false
set_option linter.unusedSimpArgs false
namespace Go.Proofs.Ythcahoeoofggjaa.V
open Go Vx Vx.N
/-! ### Drawn solvers -/
theorem smE_iff {es : List Eqn} : smE es = true ↔ es.length < 1000000000 ∧ ∀ e ∈ es, e.1.length < 1000000000 := by
  simp only [smE, Bool.and_eq_true, decide_eq_true_eq, List.all_eq_true]
theorem badRowD_len (b : List Int) (p : Int) (n : Nat) : (badRowD b p n).length ≤ n + 1 := by
  have := rowD_len b p n
  unfold badRowD
  split <;> simp <;> omega
theorem spoil_ok {b : List Int} {p c z : Int} {es : List Eqn} (h : rdOk b p = true) (hS : SolverP c z es) (hp : p < 900000) :
    spec_l15SpoilSolver_T b p c z es = some ([So (spoilR b p c z es).1 (spoilR b p c z es).2.1 (spoilR b p c z es).2.2.1], [rdC b (spoilR b p c z es).2.2.2]) ∧ smE (spoilR b p c z es).2.2.1 = true ∧ p < (spoilR b p c z es).2.2.2 ∧ (spoilR b p c z es).2.2.2 ≤ p + 30 := by
  have key : ∃ c' z' es' p', spec_l15SpoilSolver_T b p c z es = some ([So c' z' es'], [rdC b p']) ∧ smE es' = true ∧ p < p' ∧ p' ≤ p + 30 := by
    have hsm := solver_sm hS
    have hl := solver_len hS
    have h0 := (rdOk_of h).1.2.1
    have h1 : rdOk b (p + 1) = true := rdOk_mk h (by omega) (by omega)
    have hm := smE_iff.1 hsm
    have hc := hS.1
    have hpk := (pick_eq (n := 3) h1).2
    have hp3 := hpk.2.1 (by omega)
    unfold spec_l15SpoilSolver_T
    simp only [Bool.cond_eq_ite, decide_eq_true_eq, beq_iff_eq, Bool.and_eq_true]
    rw [if_pos hsm, if_pos h]
    by_cases c0 : pickV b p 6 = 0
    · rw [if_pos c0, if_pos h1, if_pos hpk.1, if_pos (by omega)]
      exact ⟨_, _, _, _, rfl, hsm, by omega, by omega⟩
    rw [if_neg c0]
    by_cases c1 : pickV b p 6 = 1
    · rw [if_pos c1, if_pos h1, if_pos hpk.1, if_pos (by omega)]
      exact ⟨_, _, _, _, rfl, hsm, by omega, by omega⟩
    rw [if_neg c1]
    by_cases c2 : pickV b p 6 = 2
    · rw [if_pos c2]
      by_cases hn : (es.length : Int) > 0
      · rw [if_pos hn, if_pos (by omega), if_pos (by omega)]
        refine ⟨_, _, _, _, rfl, smE_iff.2 ⟨by simp; omega, fun e he => ?_⟩, by omega, by omega⟩
        rcases List.mem_append.1 he with he | he
        · exact hm.2 e he
        · rw [List.mem_singleton.1 he]
          exact hm.2 _ (getE_mem (by omega))
      · rw [if_neg hn]
        exact ⟨_, _, _, _, rfl, hsm, by omega, by omega⟩
    rw [if_neg c2]
    by_cases c3 : pickV b p 6 = 3
    · rw [if_pos c3]
      by_cases hn : (es.length : Int) > 0
      · have hpl := (pick_eq (n := (es.length : Int)) h1).2
        have hpl2 := hpl.2.1 (by omega)
        have h2 : rdOk b (p + 1 + 1) = true := rdOk_mk h (by omega) (by omega)
        have h3 : rdOk b (p + 1 + 1 + c) = true := rdOk_mk h (by omega) (by omega)
        rw [if_pos hn, if_pos h1, if_pos ⟨h2, h3, by omega, by omega⟩, if_pos hpl.1, if_pos hpl2]
        refine ⟨_, _, _, _, rfl, smE_iff.2 ⟨by simp; omega, fun e he => ?_⟩, by omega, by omega⟩
        rcases List.mem_or_eq_of_mem_set he with he | rfl
        · exact hm.2 e he
        · have := badRowD_len b (p + 1 + 1) c.toNat
          show (badRowD b (p + 1 + 1) c.toNat).length < 1000000000
          omega
      · rw [if_neg hn]
        exact ⟨_, _, _, _, rfl, hsm, by omega, by omega⟩
    rw [if_neg c3]
    by_cases c4 : pickV b p 6 = 4
    · rw [if_pos c4]
      by_cases hn : (es.length : Int) > 0
      · have hmem := solver_mem hS (getE_mem (es := es) (i := 0) (by omega))
        have hz := hS.2.1
        have e1 : (ByteArray.size { data := #[120] }) = 1 := rfl
        rw [if_pos hn, if_pos (by omega), if_pos (by rw [e1]; omega), if_pos (by omega)]
        refine ⟨_, _, _, _, rfl, smE_iff.2 ⟨by simp; omega, fun e he => ?_⟩, by omega, by omega⟩
        rcases List.mem_or_eq_of_mem_set he with he | rfl
        · exact hm.2 e he
        · show (es.getD 0 eqD).1.length < 1000000000
          exact hm.2 _ (getE_mem (es := es) (i := 0) (by omega))
      · rw [if_neg hn]
        exact ⟨_, _, _, _, rfl, hsm, by omega, by omega⟩
    rw [if_neg c4, if_pos (by omega)]
    refine ⟨_, _, _, _, rfl, smE_iff.2 ⟨by simp; omega, fun e he => ?_⟩, by omega, by omega⟩
    rcases List.mem_append.1 he with he | he
    · exact hm.2 e he
    · rw [List.mem_singleton.1 he]; simp
  obtain ⟨c', z', es', p', e, h1, h2, h3⟩ := key
  have : spoilR b p c z es = (c', z', es', p') := by unfold spoilR; rw [e]
  rw [this]
  exact ⟨e, h1, h2, h3⟩
theorem K_spec_l15SpoilSolver : Sound1 Try.prog EKs F_spec_l15SpoilSolver.f S_spec_l15SpoilSolver := snd ok_spec_l15SpoilSolver [(F_spec_l3Copy.f, S_spec_l3Copy), (F_spec_l1Rd_pick.f, S_spec_l1Rd_pick), (F_spec_l15BadRow.f, S_spec_l15BadRow)] (tabF_cons K_spec_l3Copy (tabF_cons K_spec_l1Rd_pick (tabF_cons K_spec_l15BadRow (tabF_nil _ _)))) fun args sp h hp => by
  unfold S_spec_l15SpoilSolver at h
  split at h
  · rename_i b p c z es
    cases h
    simp only [Bool.and_eq_true, decide_eq_true_eq] at hp
    exact ⟨rfl, 0, (spec_l15SpoilSolver_run _ _ _ _ _ _).trans (spoil_ok hp.1 (solvB_iff.1 hp.2.1) hp.2.2).1⟩
  · cases h
theorem truthD_ok {b : List Int} {p : Int} (h : rdOk b p = true) (h2 : p < 900000) : trOk (truthD b p) = true ∧ (truthD b p).length ≤ 9 ∧ p < truthP b p ∧ truthP b p ≤ p + 80 := by
  obtain ⟨⟨z0, z1⟩, n0, n1⟩ := truth_in h h2
  have hm : 1 * 1 ≤ truthZ b p * truthN b p := Int.mul_le_mul z0 n0 (by omega) (by omega)
  have hM : truthZ b p * truthN b p ≤ 4 * 9 := Int.mul_le_mul z1 n1 (by omega) (by omega)
  have hl : (truthD b p).length = (truthN b p).toNat := truthL_len _ _ _ _
  have hs : ∀ x ∈ truthD b p, x.size = (truthZ b p).toNat := by
    intro x hx
    unfold truthD truthL at hx
    obtain ⟨k, _, rfl⟩ := List.mem_map.1 hx
    unfold blockD blockL
    rw [strOf_size, List.length_map, List.length_range]
  have hpos : 0 < (truthD b p).length := by omega
  have h0 : ((truthD b p).getD 0 ⟨#[]⟩).size = (truthZ b p).toNat := by
    rw [getD_lt hpos]
    exact hs _ (List.getElem_mem hpos)
  refine ⟨?_, by omega, ?_, ?_⟩
  · simp only [trOk, Bool.and_eq_true, decide_eq_true_eq, List.all_eq_true]
    exact ⟨⟨by omega, by omega, by omega, by omega⟩, fun x hx => (hs x hx).trans h0.symm⟩
  · unfold truthP
    rw [Int.mul_assoc]
    omega
  · unfold truthP
    rw [Int.mul_assoc]
    omega
theorem any_ok {b : List Int} {p : Int} (h : rdOk b p = true) (h2 : p < 800000) : smE (anyR b p).2.2.1 = true ∧ p < (anyR b p).2.2.2 ∧ (anyR b p).2.2.2 ≤ p + 500 ∧ (p < anyP b p ∧ anyP b p ≤ p + 400) ∧ SolverP (truthD b p).length ((truthD b p).getD 0 ⟨#[]⟩).size (solvD b (truthP b p) (truthD b p)) := by
  obtain ⟨t1, t2, t3, t4⟩ := truthD_ok h (by omega)
  have p0 := (rdOk_of h).1.2.1
  have h3 : rdOk b (truthP b p) = true := rdOk_mk h (by omega) (by omega)
  obtain ⟨s1, s2⟩ := solvP_in h3 t1
  have hS := solvD_ok b (truthP b p) t1
  have hp : p < anyP b p ∧ anyP b p ≤ p + 400 := by unfold anyP; omega
  have h4 : rdOk b (anyP b p + 1) = true := rdOk_mk h (by omega) (by omega)
  unfold anyR
  split
  · obtain ⟨_, q1, q2, q3⟩ := spoil_ok h4 hS (by omega)
    exact ⟨q1, by omega, by omega, hp, hS⟩
  · exact ⟨solver_sm hS, by show p < anyP b p + 1; omega, by show anyP b p + 1 ≤ _; omega, hp, hS⟩
end Go.Proofs.Ythcahoeoofggjaa.V
