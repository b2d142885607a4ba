/- What functions come to, and that they do so; conditions: those that each theorem states. -/
import Derived.Test.YthcahoeoofggjaaKeK2b
set_option linter.unusedVariables false
set_option linter.unusedSimpArgs false
namespace Go.Proofs.Ythcahoeoofggjaa.V
open Go Vx Vx.N
/-! ### Solvers that are ok -/
theorem eqsFrom_end {c z : Int} {es : List Eqn} {i : Nat} (h : es.length ≤ i) : eqsFrom c z es i := fun j h1 h2 => by omega
theorem eqsFrom_step {c z : Int} {es : List Eqn} {i : Nat} (h : i < es.length) : eqsFrom c z es i ↔ eqAt c z es i ∧ eqsFrom c z es (i + 1) := by
  constructor
  · exact fun H => ⟨H i (Nat.le_refl _) h, fun j h1 h2 => H j (by omega) h2⟩
  · rintro ⟨h0, H⟩ j h1 h2
    rcases Nat.eq_or_lt_of_le h1 with rfl | h3
    · exact h0
    · exact H j h3 h2
theorem ne_len {l : List Int} (h : l ≠ []) : 0 < (l.length : Int) := by
  cases l with
  | nil => exact absurd rfl h
  | cons x l => simp only [List.length_cons]; omega
theorem nil_len {l : List Int} : (l.length : Int) = 0 ↔ l = [] := by
  cases l with
  | nil => simp
  | cons x l => simp only [List.length_cons]; constructor <;> intro h <;> first | omega | cases h
theorem pv (e : Eqn) : e.1.getD 0 0 = piv e := rfl
theorem getE_mem {es : List Eqn} {i : Nat} (h : i < es.length) : es.getD i eqD ∈ es := by rw [getD_lt h]; exact List.getElem_mem h
theorem smE_of {es : List Eqn} (h : smE es = true) : es.length < 1000000000 ∧ ∀ i, i < es.length → (es.getD i eqD).1.length < 1000000000 := by
  simp only [smE, Bool.and_eq_true, decide_eq_true_eq, List.all_eq_true] at h
  exact ⟨h.1, fun i hi => h.2 _ (getE_mem hi)⟩
theorem eq_bad {c z : Int} {es : List Eqn} {i : Nat} (hi : i < es.length) {P : Prop} (h : ¬ eqAt c z es i) : cdec (eqsFrom c z es i ∧ P) = false := cdec_f fun H => h ((eqsFrom_step hi).1 H.1).1
theorem eq_good {c z : Int} {es : List Eqn} {i : Nat} (hi : i < es.length) {P : Prop} (h : eqAt c z es i) : cdec (eqsFrom c z es i ∧ P) = cdec (eqsFrom c z es (i + 1) ∧ P) := cdec_congr (by rw [eqsFrom_step hi]; simp [h])
theorem toNat_pred {i : Int} (h : 0 < i) : (i - 1).toNat = i.toNat - 1 := by omega
def pairOk (es : List Eqn) (i j : Nat) : Prop := j ≠ i → piv (es.getD i eqD) ∉ (es.getD j eqD).1
theorem solv_inner (N : Nat) (c z : Int) (es : List Eqn) (hl : es.length < 1000000000) (hs : ∀ i, i < es.length → (es.getD i eqD).1.length < 1000000000) (hN : es.length < N) (K : spec_SolverOk_X10 → Rs) (i : Int) (h0 : 0 ≤ i) (hi : i < es.length) (hne : ∀ j, j < es.length → (es.getD j eqD).1 ≠ []) :
    spec_SolverOk_W13 N K N (0, i, c, z, es) = cond (cdec (∀ r, r < es.length → pairOk es i.toNat r)) (K (i + 1, c, z, es)) (some ([B false], [])) := by
  refine (fo5 (T := fun k => spec_SolverOk_T13 k K) (fun k i' c' z' es' => i' = i ∧ c' = c ∧ z' = z ∧ es' = es ∧ 0 ≤ k ∧ k ≤ es.length) (fun k _ _ _ _ => es.length - k.toNat) (fun k _ _ _ _ => cond (cdec (∀ r, k.toNat ≤ r → r < es.length → pairOk es i.toNat r)) (K (i + 1, c, z, es)) (some ([B false], []))) ?_ _ _ _ _ _ _ ⟨rfl, rfl, rfl, rfl, by omega, by omega⟩ (by omega)).trans ?_
  · rintro k i' c' z' es' L ⟨rfl, rfl, rfl, rfl, q0, q1⟩ hL
    unfold spec_SolverOk_T13
    simp only [Bool.cond_eq_ite, decide_eq_true_eq, bne_iff_ne, ne_eq]
    by_cases hk : k < es'.length
    · have nx := hL (k + 1) i' c' z' es' ⟨rfl, rfl, rfl, rfl, by omega, by omega⟩ (by omega)
      have step : ∀ (h : pairOk es' i'.toNat k.toNat), cdec (∀ r, (k + 1).toNat ≤ r → r < es'.length → pairOk es' i'.toNat r) = cdec (∀ r, k.toNat ≤ r → r < es'.length → pairOk es' i'.toNat r) := fun h => cdec_congr (by
        rw [toNat_succ q0]
        constructor
        · intro H r h1 h2
          rcases Nat.eq_or_lt_of_le h1 with rfl | h3
          · exact h
          · exact H r h3 h2
        · exact fun H r h1 h2 => H r (by omega) h2)
      rw [if_pos hk, w64i q0 (by omega)]
      by_cases hki : k = i'
      · rw [if_neg (not_not_intro hki), nx, step fun h => absurd (by rw [hki]) h, Bool.cond_eq_ite]
      · rw [if_pos hki, if_pos q0, if_pos hk, if_pos h0, if_pos hi, if_pos (ne_len (hne _ (by omega))), if_pos (hs _ (by omega))]
        by_cases hm : piv (es'.getD i'.toNat eqD) ∈ (es'.getD k.toNat eqD).1
        · rw [if_pos hm, cdec_f fun H => H k.toNat (Nat.le_refl _) (by omega) (by omega) hm]; rfl
        · rw [if_neg hm, nx, step fun _ => hm, Bool.cond_eq_ite]
    · rw [if_neg hk, w64i h0 (by omega), cdec_t fun r h1 h2 => by omega]; rfl
  · rw [Int.toNat_zero, cdec_congr (show (∀ r, 0 ≤ r → r < es.length → pairOk es i.toNat r) ↔ ∀ r, r < es.length → pairOk es i.toNat r from ⟨fun H r h => H r (Nat.zero_le _) h, fun H r _ h => H r h⟩)]
theorem solv_second (N : Nat) (c z : Int) (es : List Eqn) (hl : es.length < 1000000000) (hs : ∀ i, i < es.length → (es.getD i eqD).1.length < 1000000000) (hN : es.length < N) (hne : ∀ j, j < es.length → (es.getD j eqD).1 ≠ []) :
    spec_SolverOk_W10 N N (0, c, z, es) = some ([B (cdec (apart es))], []) := by
  refine (fix4 (T := fun k => spec_SolverOk_T10 (spec_SolverOk_W13 N k N)) (fun i c' z' es' => c' = c ∧ z' = z ∧ es' = es ∧ 0 ≤ i ∧ i ≤ es.length) (fun i _ _ _ => es.length - i.toNat) (fun i _ _ _ => ([B (cdec (∀ i' r, i.toNat ≤ i' → i' < es.length → r < es.length → pairOk es i' r))], [])) ?_ _ _ _ _ _ ⟨rfl, rfl, rfl, by omega, by omega⟩ (by omega)).trans ?_
  · rintro i c' z' es' K ⟨rfl, rfl, rfl, q0, q1⟩ hK
    unfold spec_SolverOk_T10
    simp only [Bool.cond_eq_ite, decide_eq_true_eq]
    by_cases hi : i < es'.length
    · rw [if_pos hi, solv_inner N c' z' es' hl hs hN K i q0 hi hne]
      have nx := hK (i + 1) c' z' es' ⟨rfl, rfl, rfl, by omega, by omega⟩ (by omega)
      by_cases hp : ∀ r, r < es'.length → pairOk es' i.toNat r
      · rw [cdec_t hp, cond_true, nx, cdec_congr (show (∀ i' r, (i + 1).toNat ≤ i' → i' < es'.length → r < es'.length → pairOk es' i' r) ↔ (∀ i' r, i.toNat ≤ i' → i' < es'.length → r < es'.length → pairOk es' i' r) from by
          rw [toNat_succ q0]
          constructor
          · intro H i' r h1 h2 h3
            rcases Nat.eq_or_lt_of_le h1 with rfl | h4
            · exact hp r h3
            · exact H i' r h4 h2 h3
          · exact fun H i' r h1 h2 h3 => H i' r (by omega) h2 h3)]
      · rw [cdec_f hp, cond_false, cdec_f fun H => hp fun r hr => H i.toNat r (Nat.le_refl _) (by omega) hr]
    · rw [if_neg hi, cdec_t fun i' r h1 h2 h3 => by omega]
  · rw [Int.toNat_zero, cdec_congr (show (∀ i' r, 0 ≤ i' → i' < es.length → r < es.length → pairOk es i' r) ↔ apart es from ⟨fun H i j h1 h2 h3 => H i j (Nat.zero_le _) h1 h2 h3, fun H i j _ h1 h2 h3 => H i j h1 h2 h3⟩)]
theorem K_spec_SolverOk : Sound1 Try.prog EKs F_spec_SolverOk.f S_spec_SolverOk := snd ok_spec_SolverOk [(F_spec_l1In.f, S_spec_l1In), (F_spec_RowOk.f, S_spec_RowOk), (F_spec_l3Has.f, S_spec_l3Has)] (tabF_cons K_spec_l1In (tabF_cons K_spec_RowOk (tabF_cons K_spec_l3Has (tabF_nil _ _)))) fun args sp h hp => by
  unfold S_spec_SolverOk at h
  split at h
  · rename_i c z es
    cases h
    obtain ⟨hl, hs⟩ := smE_of hp
    refine ⟨rfl, es.length + 1, (spec_SolverOk_run _ _ _ _).trans ?_⟩
    unfold spec_SolverOk_T
    simp only [Bool.cond_eq_ite, Bool.not_eq_true', inB_f]
    have hsv : solvB c z es = cdec (SolverP c z es) := bool_eq (by rw [solvB_iff, cdec_iff])
    rw [hsv]
    by_cases h1 : 1 ≤ c ∧ c ≤ 24
    rotate_left
    · rw [if_pos h1, cdec_f fun H => h1 H.1]
    rw [if_neg (not_not_intro h1)]
    by_cases h2 : 1 ≤ z ∧ z ≤ 16
    rotate_left
    · rw [if_pos h2, cdec_f fun H => h2 H.2.1]
    rw [if_neg (not_not_intro h2)]
    refine (fix4 (T := fun k => spec_SolverOk_T4 k (spec_SolverOk_W10 (es.length + 1) (es.length + 1))) (fun i c' z' es' => c' = c ∧ z' = z ∧ es' = es ∧ (0 ≤ i ∧ i ≤ es.length) ∧ ∀ j, j < i.toNat → eqAt c z es j) (fun i _ _ _ => es.length - i.toNat) (fun i _ _ _ => ([B (cdec (eqsFrom c z es i.toNat ∧ apart es))], [])) ?_ _ _ _ _ _ ⟨rfl, rfl, rfl, ⟨by omega, by omega⟩, fun j hj => absurd hj (Nat.not_lt_zero _)⟩ (by omega)).trans ?_
    · rintro i c' z' es' K ⟨rfl, rfl, rfl, ⟨q0, q1⟩, q2⟩ hK
      unfold spec_SolverOk_T4
      simp only [Bool.cond_eq_ite, decide_eq_true_eq, Bool.not_eq_true', decide_eq_false_iff_not, beq_iff_eq, bne_iff_ne, ne_eq]
      simp only [nil_len]
      by_cases hi : i < es'.length
      · have hlt : i.toNat < es'.length := by omega
        have good : eqAt c' z' es' i.toNat → K (i + 1, c', z', es') = some ([B (cdec (eqsFrom c' z' es' i.toNat ∧ apart es'))], []) := fun h => by
          rw [hK (i + 1) c' z' es' ⟨rfl, rfl, rfl, ⟨by omega, by omega⟩, fun j hj => by
            by_cases e : j < i.toNat
            · exact q2 j e
            · rw [show j = i.toNat by omega]; exact h⟩ (by omega), toNat_succ q0, eq_good hlt h]
        rw [if_pos hi, if_pos q0, if_pos hi, if_pos (hs _ hlt), w64i q0 (by omega)]
        by_cases c1 : RowP (es'.getD i.toNat eqD).1 c'
        rotate_left
        · rw [if_pos c1, eq_bad hlt fun h => c1 h.1]
        rw [if_neg (not_not_intro c1)]
        by_cases c2 : (es'.getD i.toNat eqD).1 = []
        · rw [if_pos c2, eq_bad hlt fun h => h.2.1 c2]
        rw [if_neg c2]
        by_cases c3 : ((es'.getD i.toNat eqD).2.size : Int) = z'
        rotate_left
        · rw [if_pos c3, eq_bad hlt fun h => c3 h.2.2.1]
        rw [if_neg (not_not_intro c3)]
        by_cases c4 : i > 0
        · rw [if_pos c4, w64 (x := i - 1) (by omega) (by omega), if_pos (by omega), if_pos (by omega), toNat_pred c4, if_pos (ne_len (q2 (i.toNat - 1) (by omega)).2.1), if_pos (ne_len c2)]
          by_cases c5 : piv (es'.getD (i.toNat - 1) eqD) ≥ piv (es'.getD i.toNat eqD)
          · rw [if_pos c5, eq_bad hlt fun h => by have := h.2.2.2 (by omega); omega]
          · rw [if_neg c5, good ⟨c1, c2, c3, fun _ => by omega⟩]
        · rw [if_neg c4, good ⟨c1, c2, c3, fun h => by omega⟩]
      · rw [if_neg hi]
        have hall : ∀ j, j < es'.length → eqAt c' z' es' j := fun j hj => q2 j (by omega)
        rw [solv_second _ c' z' es' hl hs (by omega) fun j hj => (hall j hj).2.1]
        have he : eqsFrom c' z' es' i.toNat := eqsFrom_end (by omega)
        rw [cdec_congr (show apart es' ↔ eqsFrom c' z' es' i.toNat ∧ apart es' from ⟨fun h => ⟨he, h⟩, fun h => h.2⟩)]
    · rw [Int.toNat_zero, cdec_congr (show (eqsFrom c z es 0 ∧ apart es) ↔ SolverP c z es from ⟨fun h => ⟨h1, h2, h.1, h.2⟩, fun h => ⟨h.2.2.1, h.2.2.2⟩⟩)]
  · cases h
end Go.Proofs.Ythcahoeoofggjaa.V
