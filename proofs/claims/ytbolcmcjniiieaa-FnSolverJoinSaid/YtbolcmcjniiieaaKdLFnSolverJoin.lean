/- What functions come to, and that they do so; conditions: those that each theorem states. -/
import Derived.Test.YtbolcmcjniiieaaKdK7jG
set_option linter.unusedVariables false
set_option linter.unusedSimpArgs false
namespace Go.Proofs.Ytbolcmcjniiieaa.V
open Go Vx Vx.N
/-! ### The law -/
theorem fix13 {A0 A1 A2 A3 A4 A5 A6 A7 A8 A9 A10 A11 A12 R : Type} {T : (A0 × A1 × A2 × A3 × A4 × A5 × A6 × A7 × A8 × A9 × A10 × A11 × A12 → Option R) → A0 × A1 × A2 × A3 × A4 × A5 × A6 × A7 × A8 × A9 × A10 × A11 × A12 → Option R} (Inv : A0 → A1 → A2 → A3 → A4 → A5 → A6 → A7 → A8 → A9 → A10 → A11 → A12 → Prop) (μ : A0 → A1 → A2 → A3 → A4 → A5 → A6 → A7 → A8 → A9 → A10 → A11 → A12 → Nat) (r : A0 → A1 → A2 → A3 → A4 → A5 → A6 → A7 → A8 → A9 → A10 → A11 → A12 → R)
    (h : ∀ a0 a1 a2 a3 a4 a5 a6 a7 a8 a9 a10 a11 a12 K, Inv a0 a1 a2 a3 a4 a5 a6 a7 a8 a9 a10 a11 a12 → (∀ b0 b1 b2 b3 b4 b5 b6 b7 b8 b9 b10 b11 b12, Inv b0 b1 b2 b3 b4 b5 b6 b7 b8 b9 b10 b11 b12 → μ b0 b1 b2 b3 b4 b5 b6 b7 b8 b9 b10 b11 b12 < μ a0 a1 a2 a3 a4 a5 a6 a7 a8 a9 a10 a11 a12 → K (b0, b1, b2, b3, b4, b5, b6, b7, b8, b9, b10, b11, b12) = some (r b0 b1 b2 b3 b4 b5 b6 b7 b8 b9 b10 b11 b12)) → T K (a0, a1, a2, a3, a4, a5, a6, a7, a8, a9, a10, a11, a12) = some (r a0 a1 a2 a3 a4 a5 a6 a7 a8 a9 a10 a11 a12)) (m : Nat) (a0 a1 a2 a3 a4 a5 a6 a7 a8 a9 a10 a11 a12) (hi : Inv a0 a1 a2 a3 a4 a5 a6 a7 a8 a9 a10 a11 a12) (hm : μ a0 a1 a2 a3 a4 a5 a6 a7 a8 a9 a10 a11 a12 < m) : fixL T m (a0, a1, a2, a3, a4, a5, a6, a7, a8, a9, a10, a11, a12) = some (r a0 a1 a2 a3 a4 a5 a6 a7 a8 a9 a10 a11 a12) :=
  fixL_ok (fun | (a0, a1, a2, a3, a4, a5, a6, a7, a8, a9, a10, a11, a12) => Inv a0 a1 a2 a3 a4 a5 a6 a7 a8 a9 a10 a11 a12) (fun | (a0, a1, a2, a3, a4, a5, a6, a7, a8, a9, a10, a11, a12) => μ a0 a1 a2 a3 a4 a5 a6 a7 a8 a9 a10 a11 a12) (fun | (a0, a1, a2, a3, a4, a5, a6, a7, a8, a9, a10, a11, a12) => r a0 a1 a2 a3 a4 a5 a6 a7 a8 a9 a10 a11 a12) (fun | (a0, a1, a2, a3, a4, a5, a6, a7, a8, a9, a10, a11, a12), K, hi, hK => h a0 a1 a2 a3 a4 a5 a6 a7 a8 a9 a10 a11 a12 K hi fun b0 b1 b2 b3 b4 b5 b6 b7 b8 b9 b10 b11 b12 hj hlt => hK (b0, b1, b2, b3, b4, b5, b6, b7, b8, b9, b10, b11, b12) hj hlt) m (a0, a1, a2, a3, a4, a5, a6, a7, a8, a9, a10, a11, a12) hi hm
noncomputable def S_laws_FnSolverJoin : List DA → Option Sp
  | [.c (.row (.ints .u8 a))] => some ⟨byOk a, [B true], [], .fresh⟩
  | _ => none
theorem joinS_sm {c z : Int} {es : List Eqn} {c' z' : Int} {fs : List Eqn} : smE (joinS c z es c' z' fs).2.2.1 = true := by
  unfold joinS
  cases hb : (solvB c z es && solvB c' z' fs) && decide (c = c' ∧ z = z') with
  | false => rfl
  | true =>
    simp only [Bool.and_eq_true, decide_eq_true_eq] at hb
    obtain ⟨⟨h1, h2⟩, h3, h4⟩ := hb
    subst h3 h4
    have hS := solvB_iff.1 h1
    have hF := solvB_iff.1 h2
    cases hj : joinE z es fs with
    | none => rfl
    | some l => exact solver_sm ((join_ok fs es hS (sol_of hF).mm).1 l hj).1
theorem joinS_comm (c z : Int) (es : List Eqn) (c' z' : Int) (fs : List Eqn) : joinS c z es c' z' fs = joinS c' z' fs c z es := by
  unfold joinS
  cases h1 : solvB c z es with
  | false => cases solvB c' z' fs <;> rfl
  | true =>
    cases h2 : solvB c' z' fs with
    | false => rfl
    | true =>
      by_cases h : c = c' ∧ z = z'
      · obtain ⟨rfl, rfl⟩ := h
        rw [join_comm (solvB_iff.1 h1) (solvB_iff.1 h2)]
      · rw [decide_eq_false h, decide_eq_false (show ¬ (c' = c ∧ z' = z) from fun H => h ⟨H.1.symm, H.2.symm⟩)]; rfl
theorem K_laws_FnSolverJoin : Sound1 Try.prog EKs F_laws_FnSolverJoin.f S_laws_FnSolverJoin := snd ok_laws_FnSolverJoin [(F_spec_DrawSolverJoin.f, S_spec_DrawSolverJoin), (F_impl_SolverJoin.f, S_impl_SolverJoin), (F_spec_SolverJoin.f, S_spec_SolverJoin), (F_laws_whSolver.f, S_laws_whSolver), (F_impl_SolverSays.f, S_impl_SolverSays), (F_impl_SolverRank.f, S_impl_SolverRank)]
    (tabF_cons K_spec_DrawSolverJoin (tabF_cons K_impl_SolverJoin (tabF_cons K_spec_SolverJoin (tabF_cons K_laws_whSolver (tabF_cons K_impl_SolverSays (tabF_cons K_impl_SolverRank (tabF_nil _ _))))))) fun args sp h hp => by
  unfold S_laws_FnSolverJoin at h
  split at h
  · rename_i code
    cases h
    have p1 : byOk code = true := hp
    obtain ⟨q1, q2⟩ := drawJ_sm p1
    refine ⟨rfl, 60, (laws_FnSolverJoin_run _ _).trans ?_⟩
    unfold laws_FnSolverJoin_T
    by_cases l1 : (code.length : Int) > 1048576
    · rw [decide_eq_true l1]; rfl
    rw [decide_eq_false l1, p1, q1, q2]
    generalize (drawJ code).1.1 = c at *
    generalize (drawJ code).1.2.1 = z at *
    generalize (drawJ code).1.2.2 = es at *
    generalize (drawJ code).2.1 = c' at *
    generalize (drawJ code).2.2.1 = z' at *
    generalize (drawJ code).2.2.2 = fs at *
    rw [joinS_comm c' z' fs c z es, joinS_sm, decide_eq_true rfl, beq_self_eq_true]
    cases hok : (joinS c z es c' z' fs).2.2.2 with
    | false =>
      have : (joinS c z es c' z' fs).1 = 0 := by
        unfold joinS at hok ⊢
        cases hb : (solvB c z es && solvB c' z' fs) && decide (c = c' ∧ z = z') with
        | false => rfl
        | true =>
          rw [hb] at hok
          simp only at hok ⊢
          cases hj : joinE z es fs with
          | none => rfl
          | some l => rw [hj] at hok; cases hok
      rw [this]; rfl
    | true =>
      have hex : ∃ l, c = c' ∧ z = z' ∧ SolverP c z es ∧ SolverP c z fs ∧ joinE z es fs = some l ∧ joinS c z es c' z' fs = (c, z, l, true) := by
        unfold joinS at hok ⊢
        cases hb : (solvB c z es && solvB c' z' fs) && decide (c = c' ∧ z = z') with
        | false => rw [hb] at hok; cases hok
        | true =>
          rw [hb] at hok
          simp only [Bool.and_eq_true, decide_eq_true_eq] at hb
          obtain ⟨⟨h1, h2⟩, rfl, rfl⟩ := hb
          simp only at hok
          cases hj : joinE z es fs with
          | none => rw [hj] at hok; cases hok
          | some l => exact ⟨l, rfl, rfl, solvB_iff.1 h1, solvB_iff.1 h2, rfl, rfl⟩
      obtain ⟨l, rfl, rfl, hS, hF, hj, hjs⟩ := hex
      rw [hjs]
      have hlen : SolverP c z l ∧ l.length ≤ es.length + fs.length := by
        have := (join_ok fs es hS (sol_of hF).mm).1 l hj
        exact ⟨this.1, this.2.2⟩
      have hsl := solver_sm hlen.1
      have hpf := (pref_ok hF).2.2.2.2.2
      have hpe := (pref_ok hS).2.2.2.2.2
      have hc := hS.1
      show laws_FnSolverJoin_W12 60 60 (0, c, z, l, c, z, l, c, z, fs, c, z, es) = some ([B true], [])
      refine fix13 (T := fun k => laws_FnSolverJoin_T12 k) (fun i a1 a2 a3 b1 b2 b3 d1 d2 d3 e1 e2 e3 => (a1 = c ∧ a2 = z ∧ a3 = l ∧ b1 = c ∧ b2 = z ∧ b3 = l ∧ d1 = c ∧ d2 = z ∧ d3 = fs ∧ e1 = c ∧ e2 = z ∧ e3 = es) ∧ (0 ≤ i ∧ i ≤ fs.length)) (fun i _ _ _ _ _ _ _ _ _ _ _ _ => (fs.length - i).toNat) (fun _ _ _ _ _ _ _ _ _ _ _ _ _ => ([B true], [])) ?_ _ _ _ _ _ _ _ _ _ _ _ _ _ _ ⟨⟨rfl, rfl, rfl, rfl, rfl, rfl, rfl, rfl, rfl, rfl, rfl, rfl⟩, by omega, by omega⟩ (by omega)
      intro i a1 a2 a3 b1 b2 b3 d1 d2 d3 e1 e2 e3 K hI hK
      obtain ⟨⟨f1, f2, f3, f4, f5, f6, f7, f8, f9, f10, f11, f12⟩, w0, w1⟩ := hI
      rw [f1, f2, f3, f4, f5, f6, f7, f8, f9, f10, f11, f12]
      unfold laws_FnSolverJoin_T12
      dsimp only
      by_cases hi : i < (fs.length : Int)
      · have hn : i.toNat < fs.length := by omega
        have hmem : fs.getD i.toNat eqD ∈ fs := by rw [getD_lt hn]; exact List.getElem_mem hn
        have hsy := (join_says hS hF hj hmem).2.2
        have hrs := rowP_short (eqP_at hF hn).1
        have nx := hK (i + 1) _ _ _ _ _ _ _ _ _ _ _ _ ⟨⟨rfl, rfl, rfl, rfl, rfl, rfl, rfl, rfl, rfl, rfl, rfl, rfl⟩, by omega, by omega⟩ (by omega)
        rw [decide_eq_true hi, decide_eq_true w0, hsl, (show sm (fs.getD i.toNat eqD).1.length = true from decide_eq_true (by omega)), hsy, ba_toList_eq, decide_eq_true rfl, w64i w0 (by omega), nx]; rfl
      · have r1 : rankS c z l = l.length := by unfold rankS; rw [solvB_iff.2 hlen.1]
        have r2 : rankS c z es = es.length := by unfold rankS; rw [solvB_iff.2 hS]
        have r3 : rankS c z fs = fs.length := by unfold rankS; rw [solvB_iff.2 hF]
        rw [decide_eq_false hi, hsl, decide_eq_true rfl, solver_sm hS, solver_sm hF, r1, r2, r3, w64 (x := (es.length : Int) + fs.length) (by omega) (by omega), decide_eq_true (show (l.length : Int) ≤ (es.length : Int) + fs.length by omega)]; rfl
  · cases h
end Go.Proofs.Ytbolcmcjniiieaa.V
