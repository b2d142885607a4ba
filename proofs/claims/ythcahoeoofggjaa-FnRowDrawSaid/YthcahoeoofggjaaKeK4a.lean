/- What functions come to, and that they do so; conditions: those that each theorem states. -/
import Derived.Test.YthcahoeoofggjaaDe4G
set_option linter.unusedVariables false
set_option linter.unusedSimpArgs false
namespace Go.Proofs.Ythcahoeoofggjaa.V
open Go Vx Vx.N
/-! ### What is known at the beginning -/
theorem getE_iff (es : List Eqn) (x : Int) : (getE es x).2 = true ↔ ∃ i, i < es.length ∧ (es.getD i eqD).1 = [x] := by
  induction es with
  | nil => simp [getE]
  | cons e es ih =>
    rw [getE_cons]
    by_cases h : e.1 = [x]
    · rw [if_pos h]
      exact ⟨fun _ => ⟨0, by simp, h⟩, fun _ => rfl⟩
    · rw [if_neg h, ih]
      constructor
      · rintro ⟨i, h1, h2⟩
        exact ⟨i + 1, by simpa using h1, by simpa using h2⟩
      · rintro ⟨i, h1, h2⟩
        cases i with
        | zero => exact absurd h2 h
        | succ i => exact ⟨i, by simpa using h1, by simpa using h2⟩
theorem getE_in {c z : Int} {es : List Eqn} (h : SolverP c z es) {x : Int} (hx : (getE es x).2 = true) : 0 ≤ x ∧ x < c := by
  obtain ⟨i, hi, hr⟩ := (getE_iff es x).1 hx
  have := (solver_at h hi).1.2.2.2 x (by rw [hr]; exact List.mem_cons_self)
  exact this
theorem preN_step {es : List Eqn} {k n : Nat} (h : (getE es (n : Int)).2 = true) : preN es (k + 1) n = preN es k (n + 1) := by
  rw [preN, h]
theorem preN_stop {es : List Eqn} {k n : Nat} (h : (getE es (n : Int)).2 = false) : preN es k n = n := by
  cases k with
  | zero => rfl
  | succ k => rw [preN, h]
theorem K_impl_Solver_prefix : Sound1 Try.prog EKs F_impl_Solver_prefix.f S_impl_Solver_prefix := snd ok_impl_Solver_prefix [(F_impl_Solver_get.f, S_impl_Solver_get)] (tabF_cons K_impl_Solver_get (tabF_nil _ _)) fun args sp h hp => by
  unfold S_impl_Solver_prefix S_spec_l3Prefix at h
  split at h
  · rename_i c z es
    cases h
    have hS := solvB_iff.1 hp
    have hsm := solver_sm hS
    refine ⟨rfl, 30, (impl_Solver_prefix_run _ _ _ _).trans ?_⟩
    refine fix4 (T := fun k => impl_Solver_prefix_T2 k) (fun n c' z' es' => c' = c ∧ z' = z ∧ es' = es ∧ 0 ≤ n ∧ n ≤ c) (fun n _ _ _ => 25 - n.toNat) (fun n _ _ _ => ([I (preN es (25 - n.toNat) n.toNat : Nat)], [])) ?_ _ _ _ _ _ ⟨rfl, rfl, rfl, by omega, by have := hS.1; omega⟩ (by omega)
    rintro n c' z' es' K ⟨rfl, rfl, rfl, q0, q1⟩ hK
    unfold impl_Solver_prefix_T2
    simp only [Bool.cond_eq_ite, Bool.not_eq_true', decide_eq_true_eq]
    have hc := hS.1.2
    have en : ((n.toNat : Nat) : Int) = n := by omega
    by_cases hn : n < c'
    · rw [if_pos hn, if_pos hsm]
      cases hg : (getE es' n).2 with
      | false => rw [if_pos rfl, preN_stop (by rw [en]; exact hg), en]
      | true =>
        have e25 : 25 - n.toNat = (25 - (n.toNat + 1)) + 1 := by omega
        rw [if_neg (by simp), w64i q0 (by omega), hK _ _ _ _ ⟨rfl, rfl, rfl, by omega, by omega⟩ (by omega), toNat_succ q0, e25, preN_step (by rw [en]; exact hg)]
    · have hg : (getE es' n).2 = false := by
        cases hg : (getE es' n).2 with
        | false => rfl
        | true => have := getE_in hS hg; omega
      rw [if_neg hn, preN_stop (by rw [en]; exact hg), en]
  · cases h
/-! ### Of solvers that are ok -/
theorem solvB_f {c z : Int} {es : List Eqn} : solvB c z es = false ↔ ¬ SolverP c z es := by
  rw [← solvB_iff]; cases solvB c z es <;> simp
theorem K_impl_SolverRank : Sound1 Try.prog EKs F_impl_SolverRank.f S_impl_SolverRank := snd ok_impl_SolverRank [(F_impl_SolverOk.f, S_impl_SolverOk)] (tabF_cons K_impl_SolverOk (tabF_nil _ _)) fun args sp h hp => by
  unfold S_impl_SolverRank S_spec_SolverRank at h
  split at h
  · rename_i c z es
    cases h
    have hp : smE es = true := hp
    refine ⟨rfl, 0, (impl_SolverRank_run _ _ _ _).trans ?_⟩
    unfold impl_SolverRank_T rankS
    rw [hp]
    cases solvB c z es <;> rfl
  · cases h
/-! ### Rows and blocks put together -/
theorem blockXorR_eq (a b : ByteArray) : blockXorR a b = if a.size = b.size ∧ a.size ≤ 16 then (xorB a b, true) else (⟨#[]⟩, false) := by
  unfold blockXorR
  by_cases h : a.size = b.size ∧ a.size ≤ 16
  · rw [if_pos h, decide_eq_true h]
  · rw [if_neg h, decide_eq_false h]
theorem K_spec_SolverNew : Sound1 Try.prog EKs F_spec_SolverNew.f S_spec_SolverNew := snd ok_spec_SolverNew [(F_spec_l1In.f, S_spec_l1In)] (tabF_cons K_spec_l1In (tabF_nil _ _)) fun args sp h hp => by
  unfold S_spec_SolverNew at h
  split at h
  · rename_i c z
    cases h
    obtain ⟨h1, h2⟩ := of_decide_eq_true hp
    refine ⟨rfl, 0, (spec_SolverNew_run _ _ _).trans ?_⟩
    unfold spec_SolverNew_T
    rw [inB_of.2 h1, inB_of.2 h2]; rfl
  · cases h
/-! ### Drawn truths -/
theorem truthL_succ (b : List Int) (p z : Int) (n : Nat) : truthL b p z (n + 1) = truthL b p z n ++ [blockD b (p + 2 * z * (n : Nat)) z.toNat] := by
  unfold truthL
  rw [List.range_succ, List.map_append]; rfl
theorem truthL_len (b : List Int) (p z : Int) (n : Nat) : (truthL b p z n).length = n := by simp [truthL]
theorem truth_in {b : List Int} {p : Int} (h : rdOk b p = true) (h2 : p < 900000) : (1 ≤ truthZ b p ∧ truthZ b p ≤ 4) ∧ 1 ≤ truthN b p ∧ truthN b p ≤ 9 := by
  have h0 := (rdOk_of h).1.2.1
  have a := (pick_eq (n := 4) h).2
  have c := (pick_eq (n := 9) (rdOk_mk h (q := p + 1) (by omega) (by omega))).2
  have := a.2.1 (by omega)
  have := c.2.1 (by omega)
  unfold truthZ truthN
  omega
end Go.Proofs.Ythcahoeoofggjaa.V
