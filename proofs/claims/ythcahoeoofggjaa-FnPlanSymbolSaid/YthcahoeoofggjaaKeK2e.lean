/- What functions come to, and that they do so; conditions: those that each theorem states. -/
import Derived.Test.YthcahoeoofggjaaKeK2d
set_option linter.unusedVariables false
set_option linter.unusedSimpArgs false
namespace Go.Proofs.Ythcahoeoofggjaa.V
open Go Vx Vx.N
/-! ### Equations made smaller -/
theorem xor_rows {a b : List Int} {c : Int} (ha : RowP a c) (hb : RowP b c) : RowP (xorL a b) c := ⟨ha.1, ha.2.1, (xorL_mem a b ha.2.2.1 hb.2.2.1).2, xorL_in a b ha.2.2.1 hb.2.2.1 c ha.2.2.2 hb.2.2.2⟩
theorem rowP_short {a : List Int} {c : Int} (h : RowP a c) : a.length ≤ 24 := asc_length a h.2.2.1 24 (fun x hx => by have := h.2.2.2 x hx; have := h.2.1; omega)
theorem rowP_24 {a : List Int} {c : Int} (h : RowP a c) : ∀ x ∈ a, 0 ≤ x ∧ x < 24 := fun x hx => by have := h.2.2.2 x hx; have := h.2.1; omega
theorem rowP_32 {a : List Int} {c : Int} (h : RowP a c) : ∀ x ∈ a, 0 ≤ x ∧ x < 32 := fun x hx => by have := h.2.2.2 x hx; have := h.2.1; omega
theorem mask_24 {a : List Int} {c : Int} (h : RowP a c) : maskN a < 2 ^ 24 := maskN_lt a 24 (rowP_24 h)
theorem mask_xorL {a b : List Int} {c : Int} (ha : RowP a c) (hb : RowP b c) : maskN (xorL a b) = maskN a ^^^ maskN b := by
  rw [← xorL_rowN a b ha.2.2.1 hb.2.2.1 (rowP_24 ha) (rowP_24 hb)]
  exact maskN_rowN _ (Nat.xor_lt_two_pow (mask_24 ha) (mask_24 hb))
theorem mask_zero {a : List Int} {c : Int} (h : RowP a c) : maskN a = 0 ↔ a = [] := by
  constructor
  · intro h0
    have h1 := rowN_maskN a h.2.2.1 (rowP_24 h)
    rw [h0] at h1
    rw [← h1]
    rfl
  · rintro rfl
    rfl
theorem solver_at {c z : Int} {es : List Eqn} (h : SolverP c z es) {i : Nat} (hi : i < es.length) : eqAt c z es i := h.2.2.1 i (Nat.zero_le _) hi
theorem asc_piv {c z : Int} {es : List Eqn} (h : SolverP c z es) : (es.map piv).Pairwise (· < ·) := by
  rw [List.pairwise_iff_getElem]
  intro i j hi hj hij
  rw [List.length_map] at hi hj
  have := piv_mono h.2.2.1 i (j - i - 1) (by omega)
  rw [show i + (j - i - 1) + 1 = j by omega, getD_lt hi, getD_lt hj] at this
  simpa using this
theorem solver_len {c z : Int} {es : List Eqn} (h : SolverP c z es) : es.length ≤ 24 := by
  have := asc_length (es.map piv) (asc_piv h) 24 (fun x hx => by
    obtain ⟨i, hi, rfl⟩ := (piv_mem es x).1 hx
    have := piv_in (solver_at h hi)
    have := h.1.2
    omega)
  simpa using this
theorem solver_sm {c z : Int} {es : List Eqn} (h : SolverP c z es) : smE es = true := by
  have hl := solver_len h
  simp only [smE, Bool.and_eq_true, decide_eq_true_eq, List.all_eq_true]
  refine ⟨by omega, fun e he => ?_⟩
  obtain ⟨i, hi, rfl⟩ := List.getElem_of_mem he
  have := rowP_short (solver_at h hi).1
  rw [getD_lt hi] at this
  omega
theorem redE_cons (e : Eqn) (es : List Eqn) (r : List Int) (t : ByteArray) : redE (e :: es) r t = if piv e ∈ r then redE es (xorL r e.1) (xorB t e.2) else redE es r t := by
  rw [redE]
  by_cases h : piv e ∈ r
  · rw [if_pos h, decide_eq_true h]
  · rw [if_neg h, decide_eq_false h]
theorem redE_row {c z : Int} {es : List Eqn} (h : SolverP c z es) (d : Nat) : ∀ (i : Nat) (r : List Int) (t : ByteArray), es.length - i = d → RowP r c → (t.size : Int) = z → RowP (redE (es.drop i) r t).1 c ∧ ((redE (es.drop i) r t).2.size : Int) = z := by
  induction d with
  | zero =>
    intro i r t hd hr ht
    rw [List.drop_eq_nil_of_le (by omega)]
    exact ⟨hr, ht⟩
  | succ d ih =>
    intro i r t hd hr ht
    have hlt : i < es.length := by omega
    have e1 := solver_at h hlt
    rw [eqAt, getD_lt hlt] at e1
    rw [List.drop_eq_getElem_cons hlt, redE_cons]
    split
    · exact ih (i + 1) _ _ (by omega) (xor_rows hr e1.1) (by rw [xorB_size _ _ (by have := e1.2.2.1; omega)]; exact ht)
    · exact ih (i + 1) _ _ (by omega) hr ht
theorem redE_ok {c z : Int} {es : List Eqn} (h : SolverP c z es) {r : List Int} {t : ByteArray} (hr : RowP r c) (ht : (t.size : Int) = z) : RowP (redE es r t).1 c ∧ ((redE es r t).2.size : Int) = z := by
  have := redE_row h es.length 0 r t (by omega) hr ht
  rwa [List.drop_zero] at this
theorem redE_at {es : List Eqn} {i : Nat} (hi : i < es.length) (r : List Int) (t : ByteArray) : redE (es.drop i) r t = if piv (es.getD i eqD) ∈ r then redE (es.drop (i + 1)) (xorL r (es.getD i eqD).1) (xorB t (es.getD i eqD).2) else redE (es.drop (i + 1)) r t := by
  rw [List.drop_eq_getElem_cons hi, redE_cons, getD_lt hi]
theorem less_in (N m : Nat) (c z : Int) (es : List Eqn) (hS : SolverP c z es) : ∀ (i : Int) (b2 : ByteArray) (t : ByteArray) (r1 r : List Int), 0 ≤ i → i ≤ es.length → es.length - i.toNat < m → RowP r c → (t.size : Int) = z →
    spec_l3Less_W2a N m (i, b2, t, c, z, es, r1, r) = some ([Eq1 (redE (es.drop i.toNat) r t).1 (redE (es.drop i.toNat) r t).2], []) := by
  intro i b2 t r1 r h0 h1 hm hr ht
  refine fix8 (T := fun k => spec_l3Less_T2a k) (fun i _ t c' z' es' _ r => c' = c ∧ z' = z ∧ es' = es ∧ (0 ≤ i ∧ i ≤ es.length) ∧ RowP r c ∧ (t.size : Int) = z) (fun i _ _ _ _ _ _ _ => es.length - i.toNat) (fun i _ t _ _ _ _ r => ([Eq1 (redE (es.drop i.toNat) r t).1 (redE (es.drop i.toNat) r t).2], [])) ?_ _ _ _ _ _ _ _ _ _ ⟨rfl, rfl, rfl, ⟨h0, h1⟩, hr, ht⟩ hm
  rintro i b2 t c' z' es' r1 r K ⟨rfl, rfl, rfl, ⟨q0, q1⟩, hr, ht⟩ hK
  unfold spec_l3Less_T2a
  simp only [Bool.cond_eq_ite, decide_eq_true_eq]
  have hl := solver_len hS
  have s1 := rowP_short hr
  by_cases hi : i < es'.length
  · have hlt : i.toNat < es'.length := by omega
    obtain ⟨e1, e2, e3, _⟩ := solver_at hS hlt
    have s2 := rowP_short e1
    rw [if_pos hi, if_pos q0, if_pos hi, if_pos (ne_len e2), if_pos (by omega), redE_at hlt, w64i q0 (by omega)]
    by_cases hp : piv (es'.getD i.toNat eqD) ∈ r
    · rw [if_pos hp, if_pos hp, if_pos q0, if_pos hi, if_pos (by omega), if_pos q0, if_pos hi, if_pos ⟨by omega, by have := hS.2.1; omega⟩]
      rw [hK _ _ _ _ _ _ _ _ ⟨rfl, rfl, rfl, ⟨by omega, by omega⟩, xor_rows hr e1, by rw [xorB_size _ _ (by omega)]; exact ht⟩ (by omega), toNat_succ q0]
    · rw [if_neg hp, if_neg hp, hK _ _ _ _ _ _ _ _ ⟨rfl, rfl, rfl, ⟨by omega, by omega⟩, hr, ht⟩ (by omega), toNat_succ q0]
  · rw [if_neg hi, List.drop_eq_nil_of_le (by omega)]; rfl
theorem less_out (N : Nat) (c z : Int) (es : List Eqn) (hS : SolverP c z es) : ∀ (m : Nat) (i : Int) (b2 : ByteArray) (r : List Int) (t : ByteArray) (r0 : List Int), 0 ≤ i → i ≤ es.length → es.length - i.toNat < m → RowP r c → (t.size : Int) = z →
    spec_l3Less_W2 N m (i, b2, r, t, c, z, es, r0) = some ([Eq1 (redE (es.drop i.toNat) r t).1 (redE (es.drop i.toNat) r t).2], []) := by
  intro m
  induction m with
  | zero => intro i b2 r t r0 h0 h1 hm; omega
  | succ m ih =>
    intro i b2 r t r0 q0 q1 hm hr ht
    show spec_l3Less_T2 (spec_l3Less_W2a N m) (spec_l3Less_W2 N m) (i, b2, r, t, c, z, es, r0) = _
    unfold spec_l3Less_T2
    simp only [Bool.cond_eq_ite, decide_eq_true_eq]
    have hl := solver_len hS
    have s1 := rowP_short hr
    by_cases hi : i < es.length
    · have hlt : i.toNat < es.length := by omega
      obtain ⟨e1, e2, e3, _⟩ := solver_at hS hlt
      have s2 := rowP_short e1
      rw [if_pos hi, if_pos q0, if_pos hi, if_pos (ne_len e2), if_pos (by omega), redE_at hlt, w64i q0 (by omega)]
      by_cases hp : piv (es.getD i.toNat eqD) ∈ r
      · rw [if_pos hp, if_pos hp, if_pos q0, if_pos hi, if_pos (by omega), if_pos q0, if_pos hi, if_pos ⟨by omega, by have := hS.2.1; omega⟩]
        rw [less_in N m c z es hS _ _ _ _ _ (by omega) (by omega) (by omega) (xor_rows hr e1) (by rw [xorB_size _ _ (by omega)]; exact ht), toNat_succ q0]
      · rw [if_neg hp, if_neg hp, ih _ _ _ _ _ (by omega) (by omega) (by omega) hr ht, toNat_succ q0]
    · rw [if_neg hi, List.drop_eq_nil_of_le (by omega)]; rfl
theorem K_spec_l3Less : Sound1 Try.prog EKs F_spec_l3Less.f S_spec_l3Less := snd ok_spec_l3Less [(F_spec_l3Has.f, S_spec_l3Has), (F_spec_l2Xor.f, S_spec_l2Xor), (F_spec_l2Block.f, S_spec_l2Block)] (tabF_cons K_spec_l3Has (tabF_cons K_spec_l2Xor (tabF_cons K_spec_l2Block (tabF_nil _ _)))) fun args sp h hp => by
  unfold S_spec_l3Less at h
  split at h
  · rename_i c z es r t
    cases h
    simp only [Bool.and_eq_true, solvB_iff, decide_eq_true_eq] at hp
    obtain ⟨hS, hr, ht⟩ := hp
    refine ⟨rfl, es.length + 1, (spec_l3Less_run _ _ _ _ _ _).trans ?_⟩
    exact less_out _ c z es hS _ 0 _ r t _ (by omega) (by omega) (by omega) hr ht
  · cases h
theorem K_spec_l3Copy : Sound1 Try.prog EKs F_spec_l3Copy.f S_spec_l3Copy := snd ok_spec_l3Copy [] (tabF_nil _ _) fun args sp h hp => by
  unfold S_spec_l3Copy at h
  split at h
  · rename_i c z es
    cases h
    obtain ⟨hl, hs⟩ := smE_of hp
    refine ⟨rfl, es.length + 1, (spec_l3Copy_run _ _ _ _).trans ?_⟩
    refine fix10 (T := fun k => spec_l3Copy_T3 k) (fun i c1 z1 _ _ _ _ es' r _ => c1 = c ∧ z1 = z ∧ es' = es ∧ (0 ≤ i ∧ i ≤ es.length) ∧ r = es.take i.toNat) (fun i _ _ _ _ _ _ _ _ _ => es.length - i.toNat) (fun _ _ _ _ _ _ _ _ _ _ => ([So c z es], [])) ?_ _ _ _ _ _ _ _ _ _ _ _ ⟨rfl, rfl, rfl, ⟨by omega, by omega⟩, rfl⟩ (by omega)
    rintro i c1 z1 a1 a2 a3 a4 es' r r0 K ⟨rfl, rfl, rfl, ⟨q0, q1⟩, rfl⟩ hK
    unfold spec_l3Copy_T3
    simp only [Bool.cond_eq_ite, decide_eq_true_eq]
    by_cases hi : i < es'.length
    · have hlt : i.toNat < es'.length := by omega
      have := hs _ hlt
      have ht : (es'.take i.toNat).length ≤ i.toNat := by rw [List.length_take]; omega
      rw [if_pos hi, if_pos q0, if_pos hi, if_pos (by omega), if_pos q0, if_pos hi, if_pos (by omega), w64i q0 (by omega)]
      refine hK _ _ _ _ _ _ _ _ _ _ ⟨rfl, rfl, rfl, ⟨by omega, by omega⟩, ?_⟩ (by omega)
      rw [toNat_succ q0, List.take_succ_eq_append_getElem hlt, getD_lt hlt]; rfl
    · rw [if_neg hi, List.take_of_length_le (by omega)]
  · cases h
end Go.Proofs.Ythcahoeoofggjaa.V
