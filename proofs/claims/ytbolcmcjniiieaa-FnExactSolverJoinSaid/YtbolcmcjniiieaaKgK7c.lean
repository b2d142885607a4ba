/- What functions come to, and that they do so; conditions: those that each theorem states. -/
import Derived.Test.YtbolcmcjniiieaaKgM3G
set_option linter.unusedVariables false
set_option linter.unusedSimpArgs false
namespace Go.Proofs.Ytbolcmcjniiieaa.V
open Go Vx Vx.N
/-! ### Joined solvers -/
theorem joinE_cons (z : Int) (es : List Eqn) (f : Eqn) (fs : List Eqn) : joinE z es (f :: fs) = if (addE z es f.1 f.2).2 = 2 then none else joinE z (addE z es f.1 f.2).1 fs := by
  rw [joinE]
  by_cases h : (addE z es f.1 f.2).2 = 2
  · rw [if_pos h, h]; rfl
  · rw [if_neg h, beq_eq_false_iff_ne.2 h]
def joinR (c z : Int) : Option (List Eqn) → List DA
  | some l => [So c z l, B true]
  | none => [So 0 0 [], B false]
theorem eqP_at {c z : Int} {fs : List Eqn} (hf : SolverP c z fs) {i : Nat} (hi : i < fs.length) : RowP (fs.getD i eqD).1 c ∧ ((fs.getD i eqD).2.size : Int) = z := by
  have h := solver_mem hf (getE_mem hi)
  rw [getD_lt hi]
  have hm := (sol_of hf).mm fs[i] (List.getElem_mem hi)
  exact ⟨hm.r, hm.t⟩
theorem K_spec_SolverJoin : Sound1 Try.prog EKs F_spec_SolverJoin.f S_spec_SolverJoin := snd ok_spec_SolverJoin [(F_spec_SolverOk.f, S_spec_SolverOk), (F_spec_l3Copy.f, S_spec_l3Copy), (F_spec_l3Add.f, S_spec_l3Add)] (tabF_cons K_spec_SolverOk (tabF_cons K_spec_l3Copy (tabF_cons K_spec_l3Add (tabF_nil _ _)))) fun args sp h hp => by
  unfold S_spec_SolverJoin at h
  split at h
  · rename_i c z es c' z' fs
    cases h
    have hp : (smE es && smE fs) = true := hp
    rw [Bool.and_eq_true] at hp
    refine ⟨rfl, 60, (spec_SolverJoin_run _ _ _ _ _ _ _).trans ?_⟩
    unfold spec_SolverJoin_T joinS
    rw [hp.1, hp.2]
    cases hb : solvB c z es with
    | false => rfl
    | true =>
      cases hb2 : solvB c' z' fs with
      | false => rfl
      | true =>
        by_cases h1 : c = c'
        rotate_left
        · rw [bne_iff_ne.2 h1, decide_eq_false fun H => h1 H.1]; rfl
        by_cases h2 : z = z'
        rotate_left
        · rw [bne_iff_ne.2 h2, decide_eq_false fun H => h2 H.2]
          cases (c != c') <;> rfl
        subst h1 h2
        have hS := solvB_iff.1 hb
        have hF := solvB_iff.1 hb2
        have hlf := (pref_ok hF).2.2.2.2.2
        have hc := hF.1
        rw [decide_eq_true (⟨rfl, rfl⟩ : c = c ∧ z = z)]
        have hres : (match joinE z es fs with
            | some l => (c, z, l, true)
            | none => (0, 0, [], false) : Int × Int × List Eqn × Bool) = (match joinE z es fs with
            | some l => (c, z, l, true)
            | none => (0, 0, [], false)) := rfl
        have goal : spec_SolverJoin_W5 60 60 (0, c, z, 0, 0, c, z, fs, es, []) = some (joinR c z (joinE z es fs), []) := by
          have loop : ∀ (i : Int) (es1 : List Eqn), (0 ≤ i ∧ i ≤ fs.length) → SolverP c z es1 → spec_SolverJoin_W5a 60 59 (i, c, z, es1, 0, 0, c, z, fs, []) = some (joinR c z (joinE z es1 (fs.drop i.toNat)), []) := by
            intro i es1 hi hS1
            refine fix10 (T := fun k => spec_SolverJoin_T5a k) (fun i c1 z1 es1 p q c2 z2 fs' r => (c1 = c ∧ z1 = z ∧ p = 0 ∧ q = 0 ∧ c2 = c ∧ z2 = z ∧ fs' = fs ∧ r = []) ∧ (0 ≤ i ∧ i ≤ fs.length) ∧ SolverP c z es1) (fun i _ _ _ _ _ _ _ _ _ => (fs.length - i).toNat) (fun i _ _ es1 _ _ _ _ _ _ => (joinR c z (joinE z es1 (fs.drop i.toNat)), [])) ?_ _ _ _ _ _ _ _ _ _ _ _ ⟨⟨rfl, rfl, rfl, rfl, rfl, rfl, rfl, rfl⟩, hi, hS1⟩ (by omega)
            intro i c1 z1 es1 p q c2 z2 fs' r K hI hK
            obtain ⟨⟨e1, e2, e3, e4, e5, e6, e7, e8⟩, ⟨q0, q1⟩, hS1⟩ := hI
            rw [e1, e2, e3, e4, e5, e6, e7, e8]
            unfold spec_SolverJoin_T5a
            dsimp only
            by_cases hlt : i < (fs.length : Int)
            · have hn : i.toNat < fs.length := by omega
              obtain ⟨m1, m2⟩ := eqP_at hF hn
              have nx := hK (i + 1) _ _ (addE z es1 (fs.getD i.toNat eqD).1 (fs.getD i.toNat eqD).2).1 _ _ _ _ _ _ ⟨⟨rfl, rfl, rfl, rfl, rfl, rfl, rfl, rfl⟩, ⟨by omega, by omega⟩, add_ok hS1 m1 m2⟩ (by omega)
              rw [toNat_succ q0] at nx
              rw [decide_eq_true hlt, decide_eq_true q0, solvB_iff.2 hS1, decide_eq_true (⟨m1, m2⟩ : RowP (fs.getD i.toNat eqD).1 c ∧ ((fs.getD i.toNat eqD).2.size : Int) = z), w64i q0 (by omega), nx, List.drop_eq_getElem_cons hn, ← getD_lt hn eqD, joinE_cons]
              by_cases h2 : (addE z es1 (fs.getD i.toNat eqD).1 (fs.getD i.toNat eqD).2).2 = 2
              · rw [if_pos h2, h2]; rfl
              · rw [if_neg h2, beq_eq_false_iff_ne.2 h2]; rfl
            · rw [decide_eq_false hlt, List.drop_eq_nil_of_le (by omega)]; rfl
          show spec_SolverJoin_T5 (spec_SolverJoin_W5a 60 59) (0, c, z, 0, 0, c, z, fs, es, []) = _
          unfold spec_SolverJoin_T5
          dsimp only
          cases fs with
          | nil => rfl
          | cons f fs =>
            obtain ⟨m1, m2⟩ := eqP_at hF (i := 0) (by simp)
            have nx := loop 1 (addE z es f.1 f.2).1 ⟨by omega, by rw [List.length_cons]; omega⟩ (add_ok hS m1 m2)
            have hl0 : (0 : Int) < ((f :: fs).length : Int) := by rw [List.length_cons]; omega
            have m1 : RowP f.1 c := m1
            have m2 : (f.2.size : Int) = z := m2
            have g0 : (f :: fs).getD (0 : Int).toNat eqD = f := rfl
            rw [decide_eq_true hl0, g0, hb, decide_eq_true (⟨m1, m2⟩ : RowP f.1 c ∧ (f.2.size : Int) = z), joinE_cons]
            by_cases h2 : (addE z es f.1 f.2).2 = 2
            · rw [if_pos h2, h2]; rfl
            · rw [if_neg h2, beq_eq_false_iff_ne.2 h2]
              exact nx
        have hne1 : (c != c) = false := by simp
        have hne2 : (z != z) = false := by simp
        rw [hne1, hne2]
        refine goal.trans ?_
        cases joinE z es fs <;> rfl
  · cases h
end Go.Proofs.Ytbolcmcjniiieaa.V
namespace Go.Proofs.Ytbolcmcjniiieaa.V
open Go Vx Vx.N
/-! ### Joined, in depth -/
def joinRD (c z : Int) : Option (List Eqn) → List DA
  | some l => [SoD c z l, B true]
  | none => [SoD 0 0 [], B false]
theorem K_impl_SolverJoin : Sound1 Try.prog EKs F_impl_SolverJoin.f S_impl_SolverJoin := sndD ok_impl_SolverJoin [(F_impl_SolverOk.f, S_impl_SolverOk), (F_impl_cloneSolver.f, S_impl_cloneSolver), (F_impl_Solver_add.f, S_impl_Solver_add)] (tabF_cons K_impl_SolverOk (tabF_cons K_impl_cloneSolver (tabF_cons K_impl_Solver_add (tabF_nil _ _)))) fun args sp h hp => by
  unfold S_impl_SolverJoin at h
  split at h
  · rename_i c z es c' z' fs
    cases h
    have hp : (smE es && smE fs) = true := hp
    rw [Bool.and_eq_true] at hp
    refine ⟨rfl, 60, (impl_SolverJoin_run _ _ _ _ _ _ _).trans ?_⟩
    unfold impl_SolverJoin_T joinS
    rw [hp.1, hp.2]
    cases hb : solvB c z es with
    | false => rfl
    | true =>
      cases hb2 : solvB c' z' fs with
      | false => rfl
      | true =>
        by_cases h1 : c = c'
        rotate_left
        · rw [bne_iff_ne.2 h1, decide_eq_false fun H => h1 H.1]; rfl
        by_cases h2 : z = z'
        rotate_left
        · rw [bne_iff_ne.2 h2, decide_eq_false fun H => h2 H.2]
          cases (c != c') <;> rfl
        subst h1 h2
        have hS := solvB_iff.1 hb
        have hF := solvB_iff.1 hb2
        have hlf := (pref_ok hF).2.2.2.2.2
        have hc := hF.1
        rw [decide_eq_true (⟨rfl, rfl⟩ : c = c ∧ z = z)]
        have row_sm : ∀ i : Nat, i < fs.length → sm (fs.getD i eqD).1.length = true := fun i hi => by
          have := rowP_short (eqP_at hF hi).1
          exact decide_eq_true (by omega)
        have addI_is : ∀ (es1 : List Eqn) (i : Nat), i < fs.length → addI c z es1 (fs.getD i eqD).1 (fs.getD i eqD).2 = addE z es1 (fs.getD i eqD).1 (fs.getD i eqD).2 := fun es1 i hi => by
          rw [addI_eq, if_pos (eqP_at hF hi)]
        have goal : impl_SolverJoin_W5 60 60 (0, (fs.length : Int), fs, c, z, 0, 0, es, []) = some (joinRD c z (joinE z es fs), []) := by
          refine fix9 (T := fun k => impl_SolverJoin_T5 k) (fun i n fs' c1 z1 p q es1 r => (n = fs.length ∧ fs' = fs ∧ c1 = c ∧ z1 = z ∧ p = 0 ∧ q = 0 ∧ r = []) ∧ (0 ≤ i ∧ i ≤ fs.length) ∧ SolverP c z es1) (fun i _ _ _ _ _ _ _ _ => (fs.length - i).toNat) (fun i _ _ _ _ _ _ es1 _ => (joinRD c z (joinE z es1 (fs.drop i.toNat)), [])) ?_ _ _ _ _ _ _ _ _ _ _ ⟨⟨rfl, rfl, rfl, rfl, rfl, rfl, rfl⟩, ⟨by omega, by omega⟩, hS⟩ (by omega)
          intro i n fs' c1 z1 p q es1 r K hI hK
          obtain ⟨⟨e1, e2, e3, e4, e5, e6, e7⟩, ⟨q0, q1⟩, hS1⟩ := hI
          rw [e1, e2, e3, e4, e5, e6, e7]
          unfold impl_SolverJoin_T5
          dsimp only
          by_cases hlt : i < (fs.length : Int)
          · have hn : i.toNat < fs.length := by omega
            obtain ⟨m1, m2⟩ := eqP_at hF hn
            have nx := hK (i + 1) _ _ _ _ _ _ (addE z es1 (fs.getD i.toNat eqD).1 (fs.getD i.toNat eqD).2).1 _ ⟨⟨rfl, rfl, rfl, rfl, rfl, rfl, rfl⟩, ⟨by omega, by omega⟩, add_ok hS1 m1 m2⟩ (by omega)
            rw [toNat_succ q0] at nx
            rw [decide_eq_true hlt, decide_eq_true q0, solvB_iff.2 hS1, row_sm _ hn, addI_is _ _ hn, w64i q0 (by omega), nx, List.drop_eq_getElem_cons hn, ← getD_lt hn eqD, joinE_cons]
            by_cases h2 : (addE z es1 (fs.getD i.toNat eqD).1 (fs.getD i.toNat eqD).2).2 = 2
            · rw [if_pos h2, h2]; rfl
            · rw [if_neg h2, beq_eq_false_iff_ne.2 h2]; rfl
          · rw [decide_eq_false hlt, List.drop_eq_nil_of_le (by omega)]; rfl
        have hne1 : (c != c) = false := by simp
        have hne2 : (z != z) = false := by simp
        rw [hne1, hne2]
        refine goal.trans ?_
        cases joinE z es fs <;> rfl
  · cases h
end Go.Proofs.Ytbolcmcjniiieaa.V
