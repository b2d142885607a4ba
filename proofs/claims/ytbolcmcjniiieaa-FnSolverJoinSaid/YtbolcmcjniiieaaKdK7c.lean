/- What functions come to, and that they do so; conditions: those that each theorem states. -/
import Derived.Test.YtbolcmcjniiieaaKdM3G
set_option linter.unusedVariables false
set_option linter.unusedSimpArgs false
namespace Go.Proofs.Ytbolcmcjniiieaa.V
open Go Vx Vx.N
/-! ### Joined solvers -/
theorem joinE_cons (z : Int) (es : List Eqn) (f : Eqn) (fs : List Eqn) : joinE z es (f :: fs) = if (addE z es f.1 f.2).2 = 2 then none else joinE z (addE z es f.1 f.2).1 fs := by
  rw [joinE]
  by_cases h : (addE z es f.1 f.2).2 = 2
  · rw [if_pos h, h]; rfl
  · rw [if_neg h, beq_eq_false_iff_ne.2 h]
def joinR (c z : Int) : Option (List Eqn) → List DA
  | some l => [So c z l, B true]
  | none => [So 0 0 [], B false]
theorem eqP_at {c z : Int} {fs : List Eqn} (hf : SolverP c z fs) {i : Nat} (hi : i < fs.length) : RowP (fs.getD i eqD).1 c ∧ ((fs.getD i eqD).2.size : Int) = z := by
  have h := solver_mem hf (getE_mem hi)
  rw [getD_lt hi]
  have hm := (sol_of hf).mm fs[i] (List.getElem_mem hi)
  exact ⟨hm.r, hm.t⟩
theorem K_spec_SolverJoin : Sound1 Try.prog EKs F_spec_SolverJoin.f S_spec_SolverJoin := snd ok_spec_SolverJoin [(F_spec_SolverOk.f, S_spec_SolverOk), (F_spec_l3Copy.f, S_spec_l3Copy), (F_spec_l3Add.f, S_spec_l3Add)] (tabF_cons K_spec_SolverOk (tabF_cons K_spec_l3Copy (tabF_cons K_spec_l3Add (tabF_nil _ _)))) fun args sp h hp => by
  unfold S_spec_SolverJoin at h
  split at h
  · rename_i c z es c' z' fs
    cases h
    have hp : (smE es && smE fs) = true := hp
    rw [Bool.and_eq_true] at hp
    refine ⟨rfl, 60, (spec_SolverJoin_run _ _ _ _ _ _ _).trans ?_⟩
    unfold spec_SolverJoin_T joinS
    rw [hp.1, hp.2]
    cases hb : solvB c z es with
    | false => rfl
    | true =>
      cases hb2 : solvB c' z' fs with
      | false => rfl
      | true =>
        by_cases h1 : c = c'
        rotate_left
        · rw [bne_iff_ne.2 h1, decide_eq_false fun H => h1 H.1]; rfl
        by_cases h2 : z = z'
        rotate_left
        · rw [bne_iff_ne.2 h2, decide_eq_false fun H => h2 H.2]
          cases (c != c') <;> rfl
        subst h1 h2
        have hS := solvB_iff.1 hb
        have hF := solvB_iff.1 hb2
        have hlf := (pref_ok hF).2.2.2.2.2
        have hc := hF.1
        rw [decide_eq_true (⟨rfl, rfl⟩ : c = c ∧ z = z)]
        have hres : (match joinE z es fs with
            | some l => (c, z, l, true)
            | none => (0, 0, [], false) : Int × Int × List Eqn × Bool) = (match joinE z es fs with
            | some l => (c, z, l, true)
            | none => (0, 0, [], false)) := rfl
        have goal : spec_SolverJoin_W5 60 60 (0, c, z, 0, 0, c, z, fs, es, []) = some (joinR c z (joinE z es fs), []) := by
          have loop : ∀ (i : Int) (es1 : List Eqn), (0 ≤ i ∧ i ≤ fs.length) → SolverP c z es1 → spec_SolverJoin_W5a 60 59 (i, c, z, es1, 0, 0, c, z, fs, []) = some (joinR c z (joinE z es1 (fs.drop i.toNat)), []) := by
            intro i es1 hi hS1
            refine fix10 (T := fun k => spec_SolverJoin_T5a k) (fun i c1 z1 es1 p q c2 z2 fs' r => (c1 = c ∧ z1 = z ∧ p = 0 ∧ q = 0 ∧ c2 = c ∧ z2 = z ∧ fs' = fs ∧ r = []) ∧ (0 ≤ i ∧ i ≤ fs.length) ∧ SolverP c z es1) (fun i _ _ _ _ _ _ _ _ _ => (fs.length - i).toNat) (fun i _ _ es1 _ _ _ _ _ _ => (joinR c z (joinE z es1 (fs.drop i.toNat)), [])) ?_ _ _ _ _ _ _ _ _ _ _ _ ⟨⟨rfl, rfl, rfl, rfl, rfl, rfl, rfl, rfl⟩, hi, hS1⟩ (by omega)
            intro i c1 z1 es1 p q c2 z2 fs' r K hI hK
            obtain ⟨⟨e1, e2, e3, e4, e5, e6, e7, e8⟩, ⟨q0, q1⟩, hS1⟩ := hI
            rw [e1, e2, e3, e4, e5, e6, e7, e8]
            unfold spec_SolverJoin_T5a
            dsimp only
            by_cases hlt : i < (fs.length : Int)
            · have hn : i.toNat < fs.length := by omega
              obtain ⟨m1, m2⟩ := eqP_at hF hn
              have nx := hK (i + 1) _ _ (addE z es1 (fs.getD i.toNat eqD).1 (fs.getD i.toNat eqD).2).1 _ _ _ _ _ _ ⟨⟨rfl, rfl, rfl, rfl, rfl, rfl, rfl, rfl⟩, ⟨by omega, by omega⟩, add_ok hS1 m1 m2⟩ (by omega)
              rw [toNat_succ q0] at nx
              rw [decide_eq_true hlt, decide_eq_true q0, solvB_iff.2 hS1, decide_eq_true (⟨m1, m2⟩ : RowP (fs.getD i.toNat eqD).1 c ∧ ((fs.getD i.toNat eqD).2.size : Int) = z), w64i q0 (by omega), nx, List.drop_eq_getElem_cons hn, ← getD_lt hn eqD, joinE_cons]
              by_cases h2 : (addE z es1 (fs.getD i.toNat eqD).1 (fs.getD i.toNat eqD).2).2 = 2
              · rw [if_pos h2, h2]; rfl
              · rw [if_neg h2, beq_eq_false_iff_ne.2 h2]; rfl
            · rw [decide_eq_false hlt, List.drop_eq_nil_of_le (by omega)]; rfl
          show spec_SolverJoin_T5 (spec_SolverJoin_W5a 60 59) (0, c, z, 0, 0, c, z, fs, es, []) = _
          unfold spec_SolverJoin_T5
          dsimp only
          cases fs with
          | nil => rfl
          | cons f fs =>
            obtain ⟨m1, m2⟩ := eqP_at hF (i := 0) (by simp)
            have nx := loop 1 (addE z es f.1 f.2).1 ⟨by omega, by rw [List.length_cons]; omega⟩ (add_ok hS m1 m2)
            have hl0 : (0 : Int) < ((f :: fs).length : Int) := by rw [List.length_cons]; omega
            have m1 : RowP f.1 c := m1
            have m2 : (f.2.size : Int) = z := m2
            have g0 : (f :: fs).getD (0 : Int).toNat eqD = f := rfl
            rw [decide_eq_true hl0, g0, hb, decide_eq_true (⟨m1, m2⟩ : RowP f.1 c ∧ (f.2.size : Int) = z), joinE_cons]
            by_cases h2 : (addE z es f.1 f.2).2 = 2
            · rw [if_pos h2, h2]; rfl
            · rw [if_neg h2, beq_eq_false_iff_ne.2 h2]
              exact nx
        have hne1 : (c != c) = false := by simp
        have hne2 : (z != z) = false := by simp
        rw [hne1, hne2]
        refine goal.trans ?_
        cases joinE z es fs <;> rfl
  · cases h
theorem K_impl_SolverJoin : Sound1 Try.prog EKs F_impl_SolverJoin.f S_impl_SolverJoin := snd ok_impl_SolverJoin [(F_impl_SolverOk.f, S_impl_SolverOk), (F_impl_cloneSolver.f, S_impl_cloneSolver), (F_impl_Solver_add.f, S_impl_Solver_add)] (tabF_cons K_impl_SolverOk (tabF_cons K_impl_cloneSolver (tabF_cons K_impl_Solver_add (tabF_nil _ _)))) fun args sp h hp => by
  unfold S_impl_SolverJoin S_spec_SolverJoin at h
  split at h
  · rename_i c z es c' z' fs
    cases h
    have hp : (smE es && smE fs) = true := hp
    rw [Bool.and_eq_true] at hp
    refine ⟨rfl, 60, (impl_SolverJoin_run _ _ _ _ _ _ _).trans ?_⟩
    unfold impl_SolverJoin_T joinS
    rw [hp.1, hp.2]
    cases hb : solvB c z es with
    | false => rfl
    | true =>
      cases hb2 : solvB c' z' fs with
      | false => rfl
      | true =>
        by_cases h1 : c = c'
        rotate_left
        · rw [bne_iff_ne.2 h1, decide_eq_false fun H => h1 H.1]; rfl
        by_cases h2 : z = z'
        rotate_left
        · rw [bne_iff_ne.2 h2, decide_eq_false fun H => h2 H.2]
          cases (c != c') <;> rfl
        subst h1 h2
        have hS := solvB_iff.1 hb
        have hF := solvB_iff.1 hb2
        have hlf := (pref_ok hF).2.2.2.2.2
        have hc := hF.1
        rw [decide_eq_true (⟨rfl, rfl⟩ : c = c ∧ z = z)]
        have row_sm : ∀ i : Nat, i < fs.length → sm (fs.getD i eqD).1.length = true := fun i hi => by
          have := rowP_short (eqP_at hF hi).1
          exact decide_eq_true (by omega)
        have addI_is : ∀ (es1 : List Eqn) (i : Nat), i < fs.length → addI c z es1 (fs.getD i eqD).1 (fs.getD i eqD).2 = addE z es1 (fs.getD i eqD).1 (fs.getD i eqD).2 := fun es1 i hi => by
          rw [addI_eq, if_pos (eqP_at hF hi)]
        have goal : impl_SolverJoin_W5 60 60 (0, (fs.length : Int), fs, c, z, 0, 0, es, []) = some (joinR c z (joinE z es fs), []) := by
          have loop : ∀ (i : Int) (es1 : List Eqn), (0 ≤ i ∧ i ≤ fs.length) → SolverP c z es1 → impl_SolverJoin_W5a 60 59 (i, (fs.length : Int), fs, c, z, es1, 0, 0, []) = some (joinR c z (joinE z es1 (fs.drop i.toNat)), []) := by
            intro i es1 hi hS1
            refine fix9 (T := fun k => impl_SolverJoin_T5a k) (fun i n fs' c1 z1 es1 p q r => (n = fs.length ∧ fs' = fs ∧ c1 = c ∧ z1 = z ∧ p = 0 ∧ q = 0 ∧ r = []) ∧ (0 ≤ i ∧ i ≤ fs.length) ∧ SolverP c z es1) (fun i _ _ _ _ _ _ _ _ => (fs.length - i).toNat) (fun i _ _ _ _ es1 _ _ _ => (joinR c z (joinE z es1 (fs.drop i.toNat)), [])) ?_ _ _ _ _ _ _ _ _ _ _ ⟨⟨rfl, rfl, rfl, rfl, rfl, rfl, rfl⟩, hi, hS1⟩ (by omega)
            intro i n fs' c1 z1 es1 p q r K hI hK
            obtain ⟨⟨e1, e2, e3, e4, e5, e6, e7⟩, ⟨q0, q1⟩, hS1⟩ := hI
            rw [e1, e2, e3, e4, e5, e6, e7]
            unfold impl_SolverJoin_T5a
            dsimp only
            by_cases hlt : i < (fs.length : Int)
            · have hn : i.toNat < fs.length := by omega
              obtain ⟨m1, m2⟩ := eqP_at hF hn
              have nx := hK (i + 1) _ _ _ _ (addE z es1 (fs.getD i.toNat eqD).1 (fs.getD i.toNat eqD).2).1 _ _ _ ⟨⟨rfl, rfl, rfl, rfl, rfl, rfl, rfl⟩, ⟨by omega, by omega⟩, add_ok hS1 m1 m2⟩ (by omega)
              rw [toNat_succ q0] at nx
              rw [decide_eq_true hlt, decide_eq_true q0, solvB_iff.2 hS1, row_sm _ hn, addI_is _ _ hn, w64i q0 (by omega), nx, List.drop_eq_getElem_cons hn, ← getD_lt hn eqD, joinE_cons]
              by_cases h2 : (addE z es1 (fs.getD i.toNat eqD).1 (fs.getD i.toNat eqD).2).2 = 2
              · rw [if_pos h2, h2]; rfl
              · rw [if_neg h2, beq_eq_false_iff_ne.2 h2]; rfl
            · rw [decide_eq_false hlt, List.drop_eq_nil_of_le (by omega)]; rfl
          show impl_SolverJoin_T5 (impl_SolverJoin_W5a 60 59) (0, (fs.length : Int), fs, c, z, 0, 0, es, []) = _
          unfold impl_SolverJoin_T5
          dsimp only
          cases fs with
          | nil => rfl
          | cons f fs =>
            obtain ⟨m1, m2⟩ := eqP_at hF (i := 0) (by simp)
            have nx := loop 1 (addE z es f.1 f.2).1 ⟨by omega, by rw [List.length_cons]; omega⟩ (add_ok hS m1 m2)
            have hl0 : (0 : Int) < ((f :: fs).length : Int) := by rw [List.length_cons]; omega
            have hs0 : sm f.1.length = true := row_sm 0 (by simp)
            have ha0 : addI c z es f.1 f.2 = addE z es f.1 f.2 := addI_is es 0 (by simp)
            have g0 : (f :: fs).getD (0 : Int).toNat eqD = f := rfl
            rw [decide_eq_true hl0, g0, hb, hs0, ha0, joinE_cons]
            by_cases h2 : (addE z es f.1 f.2).2 = 2
            · rw [if_pos h2, h2]; rfl
            · rw [if_neg h2, beq_eq_false_iff_ne.2 h2]
              exact nx
        have hne1 : (c != c) = false := by simp
        have hne2 : (z != z) = false := by simp
        rw [hne1, hne2]
        refine goal.trans ?_
        cases joinE z es fs <;> rfl
  · cases h
end Go.Proofs.Ytbolcmcjniiieaa.V
namespace Go.Proofs.Ytbolcmcjniiieaa.V
open Go Vx Vx.N
/-! ### Joined solvers: plain -/
section
variable {c z : Int}
theorem Span.up {es es' : List Eqn} (h : ∀ f ∈ es, f ∈ es') {v : Eqn} (hv : Span c z es v) : Span c z es' v := by
  induction hv with
  | zero => exact .zero
  | add _ he ih => exact .add ih (h _ he)
theorem app_mem {es fs : List Eqn} (h1 : ∀ f ∈ es, EqP c z f) (h2 : ∀ f ∈ fs, EqP c z f) : ∀ f ∈ es ++ fs, EqP c z f := fun f hf => by
  rcases List.mem_append.1 hf with hf | hf
  · exact h1 f hf
  · exact h2 f hf
/-- One equation told, others behind it: what is said together stays the same. -/
theorem add_app {es : List Eqn} (hS : SolverP c z es) {f : Eqn} (hf : EqP c z f) {fs : List Eqn} (hfs : ∀ g ∈ fs, EqP c z g) (hne : (addE z es f.1 f.2).2 ≠ 2) (u : Eqn) :
    Span c z ((addE z es f.1 f.2).1 ++ fs) u ↔ Span c z (es ++ f :: fs) u := by
  have A := sol_of hS
  have hS2 := add_ok hS hf.r hf.t
  have B := sol_of hS2
  have ff : (f.1, f.2) = f := rfl
  have hm : ∀ g ∈ es ++ f :: fs, EqP c z g := app_mem A.mm fun g hg => by
    rcases List.mem_cons.1 hg with rfl | hg
    · exact hf
    · exact hfs g hg
  have hm2 : ∀ g ∈ (addE z es f.1 f.2).1 ++ fs, EqP c z g := app_mem B.mm hfs
  have hfm : f ∈ es ++ f :: fs := List.mem_append_right _ List.mem_cons_self
  constructor
  · refine Span.sub A.hc A.hz hm2 hm fun g hg => ?_
    rcases List.mem_append.1 hg with hg | hg
    · have hge := B.mm g hg
      rcases (add_span hS hf.r hf.t hne hge).1 (Span.mem B.hc B.hz B.mm hg) with h | h
      · exact h.up fun x hx => List.mem_append_left _ hx
      · rw [ff] at h
        have := Span.add (h.up fun x hx => List.mem_append_left (f :: fs) hx) hfm
        rwa [ad_back hge hf] at this
    · exact Span.mem A.hc A.hz hm (List.mem_append_right _ (List.mem_cons_of_mem _ hg))
  · refine Span.sub A.hc A.hz hm hm2 fun g hg => ?_
    rcases List.mem_append.1 hg with hg | hg
    · exact ((add_span hS hf.r hf.t hne (A.mm g hg)).2 (.inl (Span.mem A.hc A.hz A.mm hg))).up fun x hx => List.mem_append_left _ hx
    · rcases List.mem_cons.1 hg with rfl | hg
      · refine ((add_span hS hf.r hf.t hne hf).2 (.inr ?_)).up fun x hx => List.mem_append_left _ hx
        rw [ff, ad_self hf]
        exact .zero
      · exact Span.mem A.hc A.hz hm2 (List.mem_append_right _ hg)
/-- What a join comes to. -/
theorem join_ok : ∀ (fs es : List Eqn), SolverP c z es → (∀ g ∈ fs, EqP c z g) →
    (∀ l, joinE z es fs = some l → SolverP c z l ∧ (∀ u, Span c z l u ↔ Span c z (es ++ fs) u) ∧ l.length ≤ es.length + fs.length) ∧ (joinE z es fs = none → ∃ d, EqP c z ([], d) ∧ d ≠ zerosB z.toNat ∧ Span c z (es ++ fs) ([], d))
  | [], es, hS, _ => by
    refine ⟨fun l hl => ?_, fun h => by cases h⟩
    have : es = l := Option.some.inj hl
    subst this
    rw [List.append_nil]
    exact ⟨hS, fun u => Iff.rfl, Nat.le_add_right _ _⟩
  | f :: fs, es, hS, hfs => by
    have hf := hfs f List.mem_cons_self
    have hfs' : ∀ g ∈ fs, EqP c z g := fun g hg => hfs g (List.mem_cons_of_mem _ hg)
    have A := sol_of hS
    rw [joinE_cons]
    by_cases h2 : (addE z es f.1 f.2).2 = 2
    · rw [if_pos h2]
      refine ⟨fun l hl => (by cases hl), fun _ => ?_⟩
      obtain ⟨d, hd, hdn, hsp⟩ := add_wrong hS hf.r hf.t h2
      refine ⟨d, hd, hdn, ?_⟩
      have h1 : Span c z es (ad ([], d) f) := by rw [ad_comm hd hf]; exact hsp
      have := Span.add (h1.up fun x hx => List.mem_append_left (f :: fs) hx) (List.mem_append_right es (List.mem_cons_self (a := f) (l := fs)))
      rwa [ad_back hd hf] at this
    · rw [if_neg h2]
      obtain ⟨i1, i2⟩ := join_ok fs (addE z es f.1 f.2).1 (add_ok hS hf.r hf.t) hfs'
      refine ⟨fun l hl => ?_, fun hn => ?_⟩
      · obtain ⟨j1, j2, j3⟩ := i1 l hl
        refine ⟨j1, fun u => (j2 u).trans (add_app hS hf hfs' h2 u), ?_⟩
        have hal := add_len hS f.1 f.2
        have : (addE z es f.1 f.2).1.length ≤ es.length + 1 := by
          by_cases h0 : (addE z es f.1 f.2).2 = 0
          · rw [hal.1 h0]; exact Nat.le_refl _
          · rw [hal.2 h0]; omega
        rw [List.length_cons]
        omega
      · obtain ⟨d, hd, hdn, hsp⟩ := i2 hn
        exact ⟨d, hd, hdn, (add_app hS hf hfs' h2 _).1 hsp⟩
theorem app_comm {a b : List Eqn} {u : Eqn} (h : Span c z (a ++ b) u) : Span c z (b ++ a) u := h.up fun f hf => by
  rcases List.mem_append.1 hf with hf | hf
  · exact List.mem_append_right _ hf
  · exact List.mem_append_left _ hf
/-- The order of joining does not matter. -/
theorem join_comm {a b : List Eqn} (ha : SolverP c z a) (hb : SolverP c z b) : joinE z a b = joinE z b a := by
  obtain ⟨a1, a2⟩ := join_ok b a ha (sol_of hb).mm
  obtain ⟨b1, b2⟩ := join_ok a b hb (sol_of ha).mm
  cases h1 : joinE z a b with
  | none =>
    cases h2 : joinE z b a with
    | none => rfl
    | some l =>
      exfalso
      obtain ⟨d, hd, hdn, hsp⟩ := a2 h1
      obtain ⟨j1, j2, _⟩ := b1 l h2
      exact hdn (span_nil j1 hd ((j2 _).2 (app_comm hsp)))
  | some l =>
    obtain ⟨i1, i2, _⟩ := a1 l h1
    cases h2 : joinE z b a with
    | none =>
      exfalso
      obtain ⟨d, hd, hdn, hsp⟩ := b2 h2
      exact hdn (span_nil i1 hd ((i2 _).2 (app_comm hsp)))
    | some k =>
      obtain ⟨j1, j2, _⟩ := b1 k h2
      rw [solver_uni i1 j1 fun v _ => by rw [i2, j2]; exact ⟨app_comm, app_comm⟩]
/-- Joined, each one's equations are known. -/
theorem join_says {a b l : List Eqn} (ha : SolverP c z a) (hb : SolverP c z b) (h : joinE z a b = some l) {e : Eqn} (he : e ∈ b) : SolverP c z l ∧ l.length ≤ a.length + b.length ∧ saysE c z l e.1 = (e.2, true) := by
  obtain ⟨i1, i2, i3⟩ := (join_ok b a ha (sol_of hb).mm).1 l h
  have A := sol_of ha
  have B := sol_of hb
  have hm := B.mm e he
  refine ⟨i1, i3, (says_span i1 hm.r hm.t).2 ((i2 _).2 ?_)⟩
  exact Span.mem A.hc A.hz (app_mem A.mm B.mm) (List.mem_append_right _ he)
end
end Go.Proofs.Ytbolcmcjniiieaa.V
