/- What functions come to, and that they do so; conditions: those that each theorem states. -/
import Derived.Test.YtbolcmcjniiieaaKgK26G
set_option linter.unusedVariables false
set_option linter.unusedSimpArgs false
namespace Go.Proofs.Ytbolcmcjniiieaa.V
open Go Vx Vx.N
/-! ### The law -/
noncomputable def S_laws_FnExactSolverAdd : List DA → Option Sp
  | [.agg [.sc (.int .i64 _), .sc (.int .i64 _), .row (.eqs es)], .c (.row (.ints .i64 _)), .c (.sc (.string _))] => some ⟨lenOk es.length && es.all lenE, [B true], [], .fresh⟩
  | _ => none
theorem szE_sm {es : List Eqn} (h : ¬ szN 1048576 (szE es) < 0) : smE es = true ∧ cntE es ≤ 1048576 := by
  have hle : szE es ≤ 1048576 := by
    unfold szN at h
    split at h <;> omega
  have hm : ∀ (l : List Eqn) (e : Eqn), e ∈ l → szE1 e ≤ sumE l := by
    intro l
    induction l with
    | nil => intro e he; cases he
    | cons f l ih =>
      intro e he
      have e0 : sumE (f :: l) = szE1 f + sumE l := rfl
      rcases List.mem_cons.1 he with rfl | he
      · omega
      · have := ih e he; omega
  have hc : ∀ l : List Eqn, cntE l ≤ l.length + sumE l := by
    intro l
    induction l with
    | nil => simp [cntE]
    | cons f l ih =>
      have e0 : sumE (f :: l) = szE1 f + sumE l := rfl
      have e1 : szE1 f = f.1.length + f.2.size := rfl
      have e2 : cntE (f :: l) = f.1.length + 1 + cntE l := rfl
      rw [List.length_cons]
      omega
  have e1 : szE es = es.length + sumE es := rfl
  have := hc es
  refine ⟨?_, by omega⟩
  simp only [smE, Bool.and_eq_true, decide_eq_true_eq, List.all_eq_true]
  refine ⟨by omega, fun e he => ?_⟩
  have h1 := hm es e he
  have h2 : szE1 e = e.1.length + e.2.size := rfl
  omega
theorem cnt_rows : ∀ {es : List Eqn}, (∀ e ∈ es, e.1.length ≤ 24) → cntE es ≤ es.length * 25
  | [], _ => by simp [cntE]
  | e :: es, h => by
    have h1 := h e List.mem_cons_self
    have h2 := cnt_rows (es := es) fun f hf => h f (List.mem_cons_of_mem _ hf)
    have e2 : cntE (e :: es) = e.1.length + 1 + cntE es := rfl
    rw [List.length_cons]
    omega
theorem cnt_sol {c z : Int} {es : List Eqn} (h : SolverP c z es) : cntE es ≤ 600 := by
  have h1 := solver_len h
  have h2 := cnt_rows (es := es) fun e he => by
    have := rowP_short (solver_mem h he).1
    omega
  omega
theorem addS_small (c z : Int) (es : List Eqn) (row : List Int) (t : ByteArray) : smE (addS c z es row t).2.2.1 = true ∧ cntE (addS c z es row t).2.2.1 ≤ 600 := by
  unfold addS
  cases hb : solvB c z es with
  | false => exact ⟨rfl, by simp [cntE]⟩
  | true =>
    have hS := solvB_iff.1 hb
    have : SolverP c z (addI c z es row t).1 := by
      rw [addI_eq]
      by_cases h : RowP row c ∧ (t.size : Int) = z
      · rw [if_pos h]; exact add_ok hS h.1 h.2
      · rw [if_neg h]; exact hS
    exact ⟨solver_sm this, cnt_sol this⟩
theorem beq_rows (es : List Eqn) (k : Int) : (RK.eqb (Row.deqs (markE es k)).kind (Row.deqs es).kind && Nat.beq (markE es k).length es.length) = true := by
  rw [mark_len, Bool.and_eq_true]
  exact ⟨rfl, Nat.beq_refl _⟩
theorem beq_ints (l : List Int) (k : Int) : (RK.eqb (Row.ints .i64 (upL k l.length)).kind (Row.ints .i64 l).kind && Nat.beq (upL k l.length).length l.length) = true := by
  rw [upL_len, Bool.and_eq_true]
  exact ⟨rfl, Nat.beq_refl _⟩
theorem mkOk_of {es : List Eqn} {k : Int} (h0 : 0 ≤ k) (h : k + cntE es < 1000000000) : mkOk es k = true := decide_eq_true ⟨h0, h⟩
theorem K_laws_FnExactSolverAdd : Sound1 Try.prog EKs F_laws_FnExactSolverAdd.f S_laws_FnExactSolverAdd := sndD ok_laws_FnExactSolverAdd [(F_laws_szSolver.f, S_laws_szSolver), (F_laws_toSolver.f, S_laws_toSolver), (F_laws_toIntS.f, S_laws_toIntS), (F_spec_SolverAdd.f, S_spec_SolverAdd), (F_impl_SolverAdd.f, S_impl_SolverAdd), (F_laws_eqSolver.f, S_laws_eqSolver), (F_laws_eqIntS.f, S_laws_eqIntS), (F_laws_markSolver.f, S_laws_markSolver), (F_laws_markIntS.f, S_laws_markIntS), (F_laws_heldSolver.f, S_laws_heldSolver)]
    (tabF_cons K_laws_szSolver (tabF_cons K_laws_toSolver (tabF_cons K_laws_toIntS (tabF_cons K_spec_SolverAdd (tabF_cons K_impl_SolverAdd (tabF_cons K_laws_eqSolver (tabF_cons K_laws_eqIntS (tabF_cons K_laws_markSolver (tabF_cons K_laws_markIntS (tabF_cons K_laws_heldSolver (tabF_nil _ _))))))))))) fun args sp h hp => by
  unfold S_laws_FnExactSolverAdd at h
  split at h
  · rename_i c z es row t
    cases h
    have hp' : (lenOk es.length && es.all lenE) = true := hp
    refine ⟨rfl, 0, (laws_FnExactSolverAdd_run _ _ _ _ _ _).trans ?_⟩
    unfold laws_FnExactSolverAdd_T
    obtain ⟨g1, g2⟩ := addS_small c z es row t
    generalize addS c z es row t = r at *
    obtain ⟨rc, rz, G, n⟩ := r
    dsimp only at g1 g2 ⊢
    by_cases h1 : (row.length : Int) > 1048576
    · rw [decide_eq_true h1]; rfl
    by_cases h2 : (t.size : Int) > 1048576
    · rw [decide_eq_false h1, decide_eq_true h2]; rfl
    by_cases h3 : szN 1048576 (szE es) < 0
    · rw [decide_eq_false h1, decide_eq_false h2, hp', decide_eq_true h3]; rfl
    obtain ⟨e1, e2⟩ := szE_sm h3
    have e3 : sm row.length = true := decide_eq_true (by omega)
    have kk := markK_eq es 1
    have kg := markK_eq G 1
    have m1 : mkOk es 1 = true := mkOk_of (by omega) (by omega)
    have m2 : mkOk G 1 = true := mkOk_of (by omega) (by omega)
    have m3 : mkOk (markE G 1) 1 = true := mkOk_of (by omega) (by rw [cnt_mark]; omega)
    have k1 : decide (0 ≤ markK es 1 ∧ markK es 1 < 10000000000) = true := decide_eq_true ⟨by omega, by omega⟩
    have d1 : decide (markK es 1 + (row.length : Int) < 0) = false := decide_eq_false (by omega)
    have d2 : decide (markK G 1 < 0) = false := decide_eq_false (by omega)
    have hh := held_mark G 1 (by omega)
    rw [decide_eq_false h1, decide_eq_false h2, hp', decide_eq_false h3, beq_rows, beq_rows, beq_ints, hh, d1, d2, m1, m2, m3, k1, e1, e3, g1]
    simp
    rfl
  · cases h
end Go.Proofs.Ytbolcmcjniiieaa.V
