/- What functions come to, and that they do so; conditions: those that each theorem states. -/
import Derived.Test.YtbolcmcjniiieaaKgK26G
set_option linter.unusedVariables false
set_option linter.unusedSimpArgs false
namespace Go.Proofs.Ytbolcmcjniiieaa.V
open Go Vx Vx.N
/-! ### The law -/
noncomputable def S_laws_FnExactSolverJoin : List DA → Option Sp
  | [.agg [.sc (.int .i64 _), .sc (.int .i64 _), .row (.eqs es)], .agg [.sc (.int .i64 _), .sc (.int .i64 _), .row (.eqs fs)]] => some ⟨(lenOk es.length && es.all lenE) && (lenOk fs.length && fs.all lenE), [B true], [], .fresh⟩
  | _ => none
theorem szE_sm {es : List Eqn} (hle : szE es ≤ 1048576) : smE es = true ∧ cntE es ≤ 1048576 := by
  have hm : ∀ (l : List Eqn) (e : Eqn), e ∈ l → szE1 e ≤ sumE l := by
    intro l
    induction l with
    | nil => intro e he; cases he
    | cons f l ih =>
      intro e he
      have e0 : sumE (f :: l) = szE1 f + sumE l := rfl
      rcases List.mem_cons.1 he with rfl | he
      · omega
      · have := ih e he; omega
  have hc : ∀ l : List Eqn, cntE l ≤ l.length + sumE l := by
    intro l
    induction l with
    | nil => simp [cntE]
    | cons f l ih =>
      have e0 : sumE (f :: l) = szE1 f + sumE l := rfl
      have e1 : szE1 f = f.1.length + f.2.size := rfl
      have e2 : cntE (f :: l) = f.1.length + 1 + cntE l := rfl
      rw [List.length_cons]
      omega
  have e1 : szE es = es.length + sumE es := rfl
  have := hc es
  refine ⟨?_, by omega⟩
  simp only [smE, Bool.and_eq_true, decide_eq_true_eq, List.all_eq_true]
  refine ⟨by omega, fun e he => ?_⟩
  have h1 := hm es e he
  have h2 : szE1 e = e.1.length + e.2.size := rfl
  omega
theorem cnt_rows : ∀ {es : List Eqn}, (∀ e ∈ es, e.1.length ≤ 24) → cntE es ≤ es.length * 25
  | [], _ => by simp [cntE]
  | e :: es, h => by
    have h1 := h e List.mem_cons_self
    have h2 := cnt_rows (es := es) fun f hf => h f (List.mem_cons_of_mem _ hf)
    have e2 : cntE (e :: es) = e.1.length + 1 + cntE es := rfl
    rw [List.length_cons]
    omega
theorem cnt_sol {c z : Int} {es : List Eqn} (h : SolverP c z es) : cntE es ≤ 600 := by
  have h1 := solver_len h
  have h2 := cnt_rows (es := es) fun e he => by
    have := rowP_short (solver_mem h he).1
    omega
  omega
theorem beq_rows (es : List Eqn) (k : Int) : (RK.eqb (Row.deqs (markE es k)).kind (Row.deqs es).kind && Nat.beq (markE es k).length es.length) = true := by
  rw [mark_len, Bool.and_eq_true]
  exact ⟨rfl, Nat.beq_refl _⟩
theorem mkOk_of {es : List Eqn} {k : Int} (h0 : 0 ≤ k) (h : k + cntE es < 1000000000) : mkOk es k = true := decide_eq_true ⟨h0, h⟩
theorem joinE_fine {c z : Int} : ∀ {fs es : List Eqn}, SolverP c z es → (∀ f ∈ fs, RowP f.1 c ∧ (f.2.size : Int) = z) → ∀ {l : List Eqn}, joinE z es fs = some l → SolverP c z l
  | [], es, hS, _, l, h => by rw [joinE] at h; cases h; exact hS
  | f :: fs, es, hS, hf, l, h => by
    rw [joinE_cons] at h
    split at h
    · cases h
    · have hm := hf f List.mem_cons_self
      exact joinE_fine (add_ok hS hm.1 hm.2) (fun g hg => hf g (List.mem_cons_of_mem _ hg)) h
theorem joinS_small (c z : Int) (es : List Eqn) (c' z' : Int) (fs : List Eqn) : smE (joinS c z es c' z' fs).2.2.1 = true ∧ cntE (joinS c z es c' z' fs).2.2.1 ≤ 600 := by
  unfold joinS
  cases hb : (solvB c z es && solvB c' z' fs) && decide (c = c' ∧ z = z') with
  | false => exact ⟨rfl, by simp [cntE]⟩
  | true =>
    simp only [Bool.and_eq_true, decide_eq_true_eq] at hb
    obtain ⟨⟨h1, h2⟩, rfl, rfl⟩ := hb
    have hS := solvB_iff.1 h1
    have hF := solvB_iff.1 h2
    dsimp only
    cases hj : joinE z es fs with
    | none => exact ⟨rfl, by simp [cntE]⟩
    | some l =>
      have hl := joinE_fine hS (fun f hf => ⟨(solver_mem hF hf).1, (solver_mem hF hf).2.2⟩) hj
      exact ⟨solver_sm hl, cnt_sol hl⟩
theorem K_laws_FnExactSolverJoin : Sound1 Try.prog EKs F_laws_FnExactSolverJoin.f S_laws_FnExactSolverJoin := sndD ok_laws_FnExactSolverJoin [(F_laws_szSolver.f, S_laws_szSolver), (F_laws_toSolver.f, S_laws_toSolver), (F_spec_SolverJoin.f, S_spec_SolverJoin), (F_impl_SolverJoin.f, S_impl_SolverJoin), (F_laws_eqSolver.f, S_laws_eqSolver), (F_laws_markSolver.f, S_laws_markSolver), (F_laws_heldSolver.f, S_laws_heldSolver)]
    (tabF_cons K_laws_szSolver (tabF_cons K_laws_toSolver (tabF_cons K_spec_SolverJoin (tabF_cons K_impl_SolverJoin (tabF_cons K_laws_eqSolver (tabF_cons K_laws_markSolver (tabF_cons K_laws_heldSolver (tabF_nil _ _)))))))) fun args sp h hp => by
  unfold S_laws_FnExactSolverJoin at h
  split at h
  · rename_i c z es c' z' fs
    cases h
    have hp' : ((lenOk es.length && es.all lenE) && (lenOk fs.length && fs.all lenE)) = true := hp
    refine ⟨rfl, 0, (laws_FnExactSolverJoin_run _ _ _ _ _ _ _).trans ?_⟩
    unfold laws_FnExactSolverJoin_T
    rw [Bool.and_eq_true] at hp'
    obtain ⟨g1, g2⟩ := joinS_small c z es c' z' fs
    generalize joinS c z es c' z' fs = r at *
    obtain ⟨rc, rz, G, n⟩ := r
    dsimp only at g1 g2 ⊢
    have l1 : leftOk 1048576 = true := rfl
    by_cases h1 : szN 1048576 (szE es) < 0
    · rw [l1, hp'.1, decide_eq_true h1]; rfl
    have v1 : szN 1048576 (szE es) = 1048576 - szE es ∧ szE es ≤ 1048576 := by
      unfold szN at h1 ⊢
      split at h1
      · rename_i h; rw [if_pos h]; exact ⟨rfl, by omega⟩
      · omega
    have l2 : leftOk (szN 1048576 (szE es)) = true := decide_eq_true ⟨by omega, by omega⟩
    by_cases h2 : szN (szN 1048576 (szE es)) (szE fs) < 0
    · rw [l1, l2, hp'.1, hp'.2, decide_eq_false h1, decide_eq_true h2]; rfl
    have v2 : szE fs ≤ 1048576 := by
      rw [v1.1] at h2
      unfold szN at h2
      split at h2 <;> omega
    obtain ⟨e1, e2⟩ := szE_sm v1.2
    obtain ⟨f1, f2⟩ := szE_sm v2
    have kk := markK_eq es 1
    have kf := markK_eq fs (markK es 1)
    have kg := markK_eq G 1
    have m1 : mkOk es 1 = true := mkOk_of (by omega) (by omega)
    have m0 : mkOk fs (markK es 1) = true := mkOk_of (by omega) (by omega)
    have m2 : mkOk G 1 = true := mkOk_of (by omega) (by omega)
    have m3 : mkOk (markE G 1) 1 = true := mkOk_of (by omega) (by rw [cnt_mark]; omega)
    have d1 : decide (markK fs (markK es 1) < 0) = false := decide_eq_false (by omega)
    have d2 : decide (markK G 1 < 0) = false := decide_eq_false (by omega)
    have hh := held_mark G 1 (by omega)
    rw [l1, l2, hp'.1, hp'.2, decide_eq_false h1, decide_eq_false h2, beq_rows, beq_rows, beq_rows, hh, d1, d2, m1, m0, m2, m3, e1, f1, g1]
    simp
  · cases h
end Go.Proofs.Ytbolcmcjniiieaa.V
