/- What functions come to, and that they do so; conditions: those that each theorem states. -/
import Derived.Test.YtbolcmcjniiieaaDd7d
set_option linter.unusedVariables false
set_option linter.unusedSimpArgs false
namespace Go.Proofs.Ytbolcmcjniiieaa.V
open Go Vx Vx.N
theorem drawAdd_ok {b : List Int} (h : byOk b = true) : spec_DrawSolverAdd_T b = some ([So (drawAdd b).1 (drawAdd b).2.1 (drawAdd b).2.2.1, Is (drawAdd b).2.2.2.1, T (drawAdd b).2.2.2.2], []) ∧ smE (drawAdd b).2.2.1 = true ∧ sm (drawAdd b).2.2.2.1.length = true := by
  have key : ∃ c z es row t, spec_DrawSolverAdd_T b = some ([So c z es, Is row, T t], []) ∧ smE es = true ∧ sm row.length = true := by
    have h0 := byOk_rd h
    obtain ⟨a1, a2, a3, _⟩ := any_ok h0 (by omega)
    obtain ⟨t1, t2, t3, t4⟩ := truthD_ok h0 (by omega)
    obtain ⟨⟨l1, l2, z1, z2⟩, hs⟩ := trOk_of t1
    have hbl := badRowD_len (b.take 2000) (anyR (b.take 2000) 0).2.2.2 (truthD (b.take 2000) 0).length
    unfold spec_DrawSolverAdd_T
    simp only [Int.toNat_natCast]
    simp only [Bool.cond_eq_ite, decide_eq_true_eq, Bool.and_eq_true, List.all_eq_true, beq_iff_eq, Bool.not_eq_true', decide_eq_false_iff_not]
    generalize hA : anyR (b.take 2000) 0 = A at *
    generalize hB : badRowD (b.take 2000) A.2.2.2 (truthD (b.take 2000) 0).length = row at *
    generalize hT : truthD (b.take 2000) 0 = tr at *
    rw [if_pos ⟨h0, by omega⟩, if_pos ⟨rdOk_mk h0 (by omega) (by omega), rdOk_mk h0 (by omega) (by omega), by omega, by omega⟩, if_pos (by omega)]
    by_cases hr : RowP row tr.length
    rotate_left
    · rw [if_pos hr, if_pos (by omega)]
      exact ⟨_, _, _, _, _, rfl, a1, by omega⟩
    have hr4 : ∀ x ∈ row, 0 ≤ x ∧ x < tr.length := hr.2.2.2
    rw [if_neg (not_not_intro hr), if_pos (by omega), if_pos ⟨⟨by omega, by omega, by omega⟩, fun x hx => by rw [hs x hx]; rfl, hr4⟩, if_pos (rdOk_mk h0 (by omega) (by omega))]
    by_cases c0 : pickV (b.take 2000) (A.2.2.2 + tr.length + 1) 8 = 0
    · rw [if_pos c0, if_pos (by omega), if_pos ⟨rdOk_mk h0 (by omega) (by omega), rdOk_mk h0 (by omega) (by omega), by omega, by omega⟩]
      exact ⟨_, _, _, _, _, rfl, a1, by omega⟩
    rw [if_neg c0]
    by_cases c1 : pickV (b.take 2000) (A.2.2.2 + tr.length + 1) 8 = 1
    · have hq := rdOk_mk h0 (q := A.2.2.2 + tr.length + 1 + 1) (by omega) (by omega)
      have hpk := (pick_eq (n := 2) hq).2
      have := hpk.2.1 (by omega)
      have hz := sumB_size hs row (zerosB (tr.getD 0 ⟨#[]⟩).size) hr4 (zerosB_size _)
      rw [if_pos c1, if_pos hq, if_pos ⟨rdOk_mk h0 (by omega) (by omega), rdOk_mk h0 (by omega) (by omega), by omega, by omega⟩, if_pos (by rw [hz, blockD_size]; omega)]
      exact ⟨_, _, _, _, _, rfl, a1, by omega⟩
    · rw [if_neg c1]
      exact ⟨_, _, _, _, _, rfl, a1, by omega⟩
  obtain ⟨c, z, es, row, t, e, h1, h2⟩ := key
  have : drawAdd b = (c, z, es, row, t) := by unfold drawAdd; rw [e]
  rw [this]
  exact ⟨e, h1, h2⟩
theorem K_spec_DrawSolverAdd : Sound1 Try.prog EKs F_spec_DrawSolverAdd.f S_spec_DrawSolverAdd := snd ok_spec_DrawSolverAdd [(F_spec_l1Open.f, S_spec_l1Open), (F_spec_l15AnySolver.f, S_spec_l15AnySolver), (F_spec_l15BadRow.f, S_spec_l15BadRow), (F_spec_RowOk.f, S_spec_RowOk), (F_spec_l2Sum.f, S_spec_l2Sum), (F_spec_l1Rd_pick.f, S_spec_l1Rd_pick), (F_spec_l15Block.f, S_spec_l15Block)]
    (tabF_cons K_spec_l1Open (tabF_cons K_spec_l15AnySolver (tabF_cons K_spec_l15BadRow (tabF_cons K_spec_RowOk (tabF_cons K_spec_l2Sum (tabF_cons K_spec_l1Rd_pick (tabF_cons K_spec_l15Block (tabF_nil _ _)))))))) fun args sp h hp => by
  unfold S_spec_DrawSolverAdd at h
  split at h
  · cases h
    exact ⟨rfl, 0, (spec_DrawSolverAdd_run _ _).trans (drawAdd_ok hp).1⟩
  · cases h
end Go.Proofs.Ytbolcmcjniiieaa.V
namespace Go.Proofs.Ytbolcmcjniiieaa.V
open Go Vx Vx.N
/-! ### What is said behind an equation learned -/
section
variable {c z : Int} {es : List Eqn}
theorem nil_eq (hS : SolverP c z es) {t : ByteArray} (ht : (t.size : Int) = z) : EqP c z ([], t) := ⟨rowP_nil (by have := hS.1; omega) hS.1.2, ht⟩
theorem red_nil (es : List Eqn) (t : ByteArray) : red es ([], t) = ([], t) := red_id fun f _ hf => by cases hf
theorem ad_nil {row : List Int} {t : ByteArray} {n : Nat} (h : t.size = n) : ad (row, zerosB n) ([], t) = (row, t) := Prod.ext (xorL_nil_right _) (zr_xorB _ _ h)
theorem red_split (hS : SolverP c z es) {row : List Int} {t : ByteArray} (hr : RowP row c) (ht : (t.size : Int) = z) : red es (row, t) = ad (red es (row, zerosB z.toNat)) ([], t) := by
  have A := sol_of hS
  have h := A.lin (eq0 hS.2.1 hr) (nil_eq hS ht)
  rw [ad_nil (by omega), red_nil] at h
  exact h
theorem says_span (hS : SolverP c z es) {row : List Int} {t : ByteArray} (hr : RowP row c) (ht : (t.size : Int) = z) : saysE c z es row = (t, true) ↔ Span c z es (row, t) := by
  have A := sol_of hS
  have h0 := eq0 hS.2.1 hr
  have hn := nil_eq hS ht
  have hv : EqP c z (row, t) := ⟨hr, ht⟩
  rw [A.ker hv, red_split hS hr ht]
  constructor
  · intro h
    obtain ⟨_, _, h3⟩ := says_f (by rw [h] : (saysE c z es row).2 = true)
    rw [h] at h3
    rw [h3]
    exact ad_self hn
  · intro h
    have := ad_zero A.hc A.hz (red_ok A.e h0) hn h
    exact says_t hS hr this
theorem addE_cases (z : Int) (es : List Eqn) (row : List Int) (t : ByteArray) :
    ((red es (row, t)).1 = [] ∧ (red es (row, t)).2 = zerosB z.toNat ∧ addE z es row t = (es, 1)) ∨ ((red es (row, t)).1 = [] ∧ (red es (row, t)).2 ≠ zerosB z.toNat ∧ addE z es row t = (es, 2)) ∨ ((red es (row, t)).1 ≠ [] ∧ addE z es row t = (learnE es (red es (row, t)), 0)) := by
  rw [addE_eq]
  by_cases h : (redE es row t).1 = []
  · rw [if_pos h]
    by_cases h2 : (redE es row t).2 = zerosB z.toNat
    · rw [if_pos h2]; exact .inl ⟨h, h2, rfl⟩
    · rw [if_neg h2]; exact .inr (.inl ⟨h, h2, rfl⟩)
  · rw [if_neg h]; exact .inr (.inr ⟨h, rfl⟩)
/-- What is said behind one more equation that is not wrong. -/
theorem add_span (hS : SolverP c z es) {row : List Int} {t : ByteArray} (hr : RowP row c) (ht : (t.size : Int) = z) (hne : (addE z es row t).2 ≠ 2) {u : Eqn} (hu : EqP c z u) :
    Span c z (addE z es row t).1 u ↔ Span c z es u ∨ Span c z es (ad u (row, t)) := by
  have A := sol_of hS
  have hv : EqP c z (row, t) := ⟨hr, ht⟩
  rcases addE_cases z es row t with ⟨h1, h2, e⟩ | ⟨_, _, e⟩ | ⟨h1, e⟩
  · rw [e]
    have hvs : Span c z es (row, t) := (A.ker hv).2 (Prod.ext h1 h2)
    refine ⟨.inl, fun h => h.elim id fun h => ?_⟩
    have := h.sum A.hc A.hz A.mm hvs
    rwa [ad_back hu hv] at this
  · rw [e] at hne; exact absurd rfl hne
  · rw [e]
    have hP : AddP c z es (red es (row, t)) := addP_of hS hr ht h1
    have hd := A.diff hv
    have hre := red_ok A.e hv
    show Span c z (learnE es (red es (row, t))) u ↔ _
    rw [learn_span hP u hu]
    constructor
    · rintro (h | h)
      · exact .inl h
      · have := h.sum A.hc A.hz A.mm hd
        rw [ad_comm hv hre, ← ad_assoc (hu.ad hre) hre hv, ad_back hu hre] at this
        exact .inr this
    · rintro (h | h)
      · exact .inl h
      · have := h.sum A.hc A.hz A.mm hd
        rw [← ad_assoc (hu.ad hv) hv hre, ad_back hu hv] at this
        exact .inr this
theorem add_wrong (hS : SolverP c z es) {row : List Int} {t : ByteArray} (hr : RowP row c) (ht : (t.size : Int) = z) (h : (addE z es row t).2 = 2) : ∃ d, EqP c z ([], d) ∧ d ≠ zerosB z.toNat ∧ Span c z es (ad (row, t) ([], d)) := by
  have A := sol_of hS
  have hv : EqP c z (row, t) := ⟨hr, ht⟩
  rcases addE_cases z es row t with ⟨_, _, e⟩ | ⟨h1, h2, e⟩ | ⟨_, e⟩
  · rw [e] at h; cases h
  · have hre := red_ok A.e hv
    have e1 : red es (row, t) = ([], (red es (row, t)).2) := Prod.ext h1 rfl
    refine ⟨(red es (row, t)).2, by rw [← e1]; exact hre, h2, ?_⟩
    rw [← e1]
    exact A.diff hv
  · rw [e] at h; cases h
theorem span_nil (hS : SolverP c z es) {d : ByteArray} (hd : EqP c z ([], d)) (h : Span c z es ([], d)) : d = zerosB z.toNat := by
  have := ((sol_of hS).ker hd).1 h
  rw [red_nil] at this
  exact congrArg Prod.snd this
end
theorem addS_ok {c z : Int} {es : List Eqn} {row : List Int} {t : ByteArray} (h : (addS c z es row t).2.2.2 ≠ 3) : SolverP c z es ∧ RowP row c ∧ (t.size : Int) = z ∧ addS c z es row t = (c, z, addE z es row t) := by
  unfold addS at h ⊢
  cases hs : solvB c z es with
  | false => rw [hs] at h; exact absurd rfl h
  | true =>
    rw [hs] at h
    simp only at h ⊢
    rw [addI_eq] at h ⊢
    by_cases hc : RowP row c ∧ (t.size : Int) = z
    · rw [if_pos hc]
      exact ⟨solvB_iff.1 hs, hc.1, hc.2, rfl⟩
    · rw [if_neg hc] at h; exact absurd rfl h
theorem addS_is {c z : Int} {es : List Eqn} {row : List Int} {t : ByteArray} (h1 : SolverP c z es) (h2 : RowP row c) (h3 : (t.size : Int) = z) : addS c z es row t = (c, z, addE z es row t) := by
  unfold addS
  rw [solvB_iff.2 h1, addI_eq, if_pos ⟨h2, h3⟩]
theorem addS_sm {c z : Int} {es : List Eqn} {row : List Int} {t : ByteArray} (h : smE es = true) : smE (addS c z es row t).2.2.1 = true := by
  unfold addS
  cases hs : solvB c z es with
  | false => rfl
  | true =>
    have hS := solvB_iff.1 hs
    show smE (addI c z es row t).1 = true
    rw [addI_eq]
    split
    · rename_i hc
      exact solver_sm (add_ok hS hc.1 hc.2)
    · exact h
theorem add_len {c z : Int} {es : List Eqn} (hS : SolverP c z es) (row : List Int) (t : ByteArray) : ((addE z es row t).2 = 0 → (addE z es row t).1.length = es.length + 1) ∧ ((addE z es row t).2 ≠ 0 → (addE z es row t).1 = es) := by
  rcases addE_cases z es row t with ⟨_, _, e⟩ | ⟨_, _, e⟩ | ⟨_, e⟩ <;> rw [e]
  · exact ⟨fun h => absurd h (by simp), fun _ => rfl⟩
  · exact ⟨fun h => absurd h (by simp), fun _ => rfl⟩
  · exact ⟨fun _ => by show (learnE _ _).length = _; unfold learnE; rw [putE_len, List.length_map], fun h => absurd rfl h⟩
end Go.Proofs.Ytbolcmcjniiieaa.V
