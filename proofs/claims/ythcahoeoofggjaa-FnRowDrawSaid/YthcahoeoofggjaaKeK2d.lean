/- What functions come to, and that they do so; conditions: those that each theorem states. -/
import Derived.Test.YthcahoeoofggjaaKeK2c
set_option linter.unusedVariables false
set_option linter.unusedSimpArgs false
namespace Go.Proofs.Ythcahoeoofggjaa.V
open Go Vx Vx.N
/-! ### Solvers that are ok: the program's way -/
theorem piv_cons {e : Eqn} (h : e.1 ≠ []) : e.1 = piv e :: e.1.drop 1 := by
  cases hl : e.1 with
  | nil => exact absurd hl h
  | cons x l => show _ = e.1.getD 0 0 :: _; rw [hl]; rfl
theorem piv_mono {c z : Int} {es : List Eqn} (h : eqsFrom c z es 0) (i d : Nat) : i + d + 1 < es.length → piv (es.getD i eqD) < piv (es.getD (i + d + 1) eqD) := by
  induction d with
  | zero => exact fun hd => (h (i + 1) (Nat.zero_le _) hd).2.2.2 (by omega)
  | succ d ih =>
    intro hd
    have h1 := ih (by omega)
    have h2 := (h (i + d + 2) (Nat.zero_le _) (by omega)).2.2.2 (by omega)
    have e1 : i + (d + 1) + 1 = i + d + 2 := by omega
    rw [e1]
    have e2 : i + d + 2 - 1 = i + d + 1 := by omega
    rw [e2] at h2
    omega
theorem piv_ne {c z : Int} {es : List Eqn} (h : eqsFrom c z es 0) {i j : Nat} (hi : i < es.length) (hj : j < es.length) (hij : i ≠ j) : piv (es.getD i eqD) ≠ piv (es.getD j eqD) := by
  rcases Nat.lt_or_ge i j with h1 | h1
  · have := piv_mono h i (j - i - 1) (by omega)
    rw [show i + (j - i - 1) + 1 = j by omega] at this
    omega
  · have := piv_mono h j (i - j - 1) (by omega)
    rw [show j + (i - j - 1) + 1 = i by omega] at this
    omega
theorem and_zero (a b : List Int) (ha : ∀ x ∈ a, 0 ≤ x) (hb : ∀ x ∈ b, 0 ≤ x) : maskN a &&& maskN b = 0 ↔ ∀ y, y ∈ a → y ∉ b := by
  constructor
  · intro h y h1 h2
    have h3 : (maskN a &&& maskN b).testBit y.toNat = true := by
      rw [Nat.testBit_and, maskN_bit a ha, maskN_bit b hb, Int.toNat_of_nonneg (ha y h1)]
      simp [h1, h2]
    rw [h] at h3
    simp at h3
  · intro h
    refine Nat.eq_of_testBit_eq fun j => ?_
    rw [Nat.testBit_and, maskN_bit a ha, maskN_bit b hb, Nat.zero_testBit]
    by_cases h1 : (j : Int) ∈ a
    · simp [h1, h _ h1]
    · simp [h1]
theorem piv_in {c z : Int} {es : List Eqn} {j : Nat} (h : eqAt c z es j) : 0 ≤ piv (es.getD j eqD) ∧ piv (es.getD j eqD) < c := h.1.2.2.2 (piv (es.getD j eqD)) (by
  have := piv_cons h.2.1
  rw [this]
  exact List.mem_cons_self)
theorem tail_in {c z : Int} {es : List Eqn} {j : Nat} (h : eqAt c z es j) : ∀ x ∈ (es.getD j eqD).1.drop 1, (0 ≤ x ∧ x < c) ∧ piv (es.getD j eqD) < x := by
  intro x hx
  have h1 := h.1.2.2
  have e := piv_cons h.2.1
  rw [e] at h1
  exact ⟨h1.2 x (List.mem_cons_of_mem _ hx), (List.pairwise_cons.1 h1.1).1 x hx⟩
theorem piv_mem (es : List Eqn) (p : Int) : p ∈ es.map piv ↔ ∃ i, i < es.length ∧ piv (es.getD i eqD) = p := by
  rw [List.mem_map]
  constructor
  · rintro ⟨e, he, rfl⟩
    obtain ⟨i, hi, rfl⟩ := List.getElem_of_mem he
    exact ⟨i, hi, by rw [getD_lt hi]⟩
  · rintro ⟨i, hi, rfl⟩
    exact ⟨_, getE_mem hi, rfl⟩
theorem apart_iff {c z : Int} {es : List Eqn} (h : eqsFrom c z es 0) : (∀ j, j < es.length → maskN ((es.getD j eqD).1.drop 1) &&& maskN (es.map piv) = 0) ↔ apart es := by
  have hp : ∀ x ∈ es.map piv, 0 ≤ x := fun x hx => by
    obtain ⟨i, hi, rfl⟩ := (piv_mem es x).1 hx
    exact (piv_in (h i (Nat.zero_le _) hi)).1
  constructor
  · intro H i j hi hj hij hm
    have ej := h j (Nat.zero_le _) hj
    rw [piv_cons ej.2.1] at hm
    rcases List.mem_cons.1 hm with hm | hm
    · exact piv_ne h hi hj (Ne.symm hij) hm
    · exact (and_zero _ _ (fun x hx => (tail_in ej x hx).1.1) hp).1 (H j hj) _ hm ((piv_mem es _).2 ⟨i, hi, rfl⟩)
  · intro H j hj
    have ej := h j (Nat.zero_le _) hj
    rw [and_zero _ _ (fun x hx => (tail_in ej x hx).1.1) hp]
    intro y hy hy2
    obtain ⟨i, hi, rfl⟩ := (piv_mem es y).1 hy2
    by_cases hij : j = i
    · subst hij
      have := (tail_in ej _ hy).2
      omega
    · refine H i j hi hj hij ?_
      rw [piv_cons ej.2.1]
      exact List.mem_cons_of_mem _ hy
theorem isolv_second (N : Nat) (c z : Int) (es : List Eqn) (hl : es.length < 1000000000) (hs : ∀ i, i < es.length → (es.getD i eqD).1.length < 1000000000) (hN : es.length < N) (hok : eqsFrom c z es 0) (hc : c ≤ 24) (P : Nat) (hP : P < 2 ^ 32) :
    impl_SolverOk_W12 N N (0, es.length, es, (P : Int)) = some ([B (cdec (∀ j, j < es.length → maskN ((es.getD j eqD).1.drop 1) &&& P = 0))], []) := by
  refine (fix4 (T := fun k => impl_SolverOk_T12 k) (fun i n es' p => n = es.length ∧ es' = es ∧ p = (P : Int) ∧ 0 ≤ i ∧ i ≤ es.length) (fun i _ _ _ => es.length - i.toNat) (fun i _ _ _ => ([B (cdec (∀ j, i.toNat ≤ j → j < es.length → maskN ((es.getD j eqD).1.drop 1) &&& P = 0))], [])) ?_ _ _ _ _ _ ⟨rfl, rfl, rfl, by omega, by omega⟩ (by omega)).trans ?_
  · rintro i n es' p K ⟨rfl, rfl, rfl, q0, q1⟩ hK
    unfold impl_SolverOk_T12
    simp only [Bool.cond_eq_ite, decide_eq_true_eq, Bool.and_eq_true, List.all_eq_true, bne_iff_ne, ne_eq]
    by_cases hi : i < es'.length
    · have hlt : i.toNat < es'.length := by omega
      have ej := hok i.toNat (Nat.zero_le _) hlt
      have ht := tail_in ej
      have hlen := hs _ hlt
      have hdl : List.drop 1 (List.take (Int.toNat ((es'.getD i.toNat eqD).1.length : Int)) (es'.getD i.toNat eqD).1) = (es'.getD i.toNat eqD).1.drop 1 := by
        rw [Int.toNat_natCast, List.take_of_length_le (Nat.le_refl _)]
      rw [hdl]
      have hm := maskN_lt ((es'.getD i.toNat eqD).1.drop 1) 24 (fun x hx => ⟨(ht x hx).1.1, by have := (ht x hx).1.2; omega⟩)
      rw [if_pos hi, if_pos q0, if_pos hi, if_pos (by have := ne_len ej.2.1; omega), if_pos (Int.le_refl _), if_pos ⟨by rw [List.length_drop]; omega, fun x hx => ⟨(ht x hx).1.1, by have := (ht x hx).1.2; omega⟩⟩, and32 _ P (by omega) hP, w64i q0 (by omega)]
      by_cases h : maskN ((es'.getD i.toNat eqD).1.drop 1) &&& P = 0
      · rw [if_neg (by rw [h]; simp), hK (i + 1) _ _ _ ⟨rfl, rfl, rfl, by omega, by omega⟩ (by omega), toNat_succ q0]
        refine congrArg (fun b => some ([B b], [])) (cdec_congr ⟨fun H j h1 h2 => ?_, fun H j h1 h2 => H j (by omega) h2⟩)
        rcases Nat.eq_or_lt_of_le h1 with rfl | h3
        · exact h
        · exact H j h3 h2
      · rw [if_pos (by omega), cdec_f fun H => h (H _ (Nat.le_refl _) hlt)]
    · rw [if_neg hi, cdec_t fun j h1 h2 => by omega]
  · rw [Int.toNat_zero, cdec_congr (show (∀ j, 0 ≤ j → j < es.length → maskN ((es.getD j eqD).1.drop 1) &&& P = 0) ↔ ∀ j, j < es.length → maskN ((es.getD j eqD).1.drop 1) &&& P = 0 from ⟨fun H j h => H j (Nat.zero_le _) h, fun H j _ h => H j h⟩)]
theorem K_impl_SolverOk : Sound1 Try.prog EKs F_impl_SolverOk.f S_impl_SolverOk := snd ok_impl_SolverOk [(F_impl_within.f, S_impl_within), (F_impl_RowOk.f, S_impl_RowOk), (F_impl_mask.f, S_impl_mask)] (tabF_cons K_impl_within (tabF_cons K_impl_RowOk (tabF_cons K_impl_mask (tabF_nil _ _)))) fun args sp h hp => by
  unfold S_impl_SolverOk S_spec_SolverOk at h
  split at h
  · rename_i c z es
    cases h
    obtain ⟨hl, hs⟩ := smE_of hp
    refine ⟨rfl, es.length + 1, (impl_SolverOk_run _ _ _ _).trans ?_⟩
    unfold impl_SolverOk_T
    simp only [Bool.cond_eq_ite, Bool.not_eq_true', inB_f]
    have hsv : solvB c z es = cdec (SolverP c z es) := bool_eq (by rw [solvB_iff, cdec_iff])
    rw [hsv]
    by_cases h1 : 1 ≤ c ∧ c ≤ 24
    rotate_left
    · rw [if_pos h1, cdec_f fun H => h1 H.1]
    rw [if_neg (not_not_intro h1)]
    by_cases h2 : 1 ≤ z ∧ z ≤ 16
    rotate_left
    · rw [if_pos h2, cdec_f fun H => h2 H.2.1]
    rw [if_neg (not_not_intro h2)]
    refine (fix7 (T := fun k => impl_SolverOk_T5 k (impl_SolverOk_W12 (es.length + 1) (es.length + 1))) (fun i n es1 p c' z' es' => (n = es.length ∧ es1 = es ∧ p = (maskN ((es.take i.toNat).map piv) : Nat)) ∧ c' = c ∧ z' = z ∧ es' = es ∧ (0 ≤ i ∧ i ≤ es.length) ∧ ∀ j, j < i.toNat → eqAt c z es j) (fun i _ _ _ _ _ _ => es.length - i.toNat) (fun i _ _ _ _ _ _ => ([B (cdec (eqsFrom c z es i.toNat ∧ apart es))], [])) ?_ _ _ _ _ _ _ _ _ ⟨⟨rfl, rfl, rfl⟩, rfl, rfl, rfl, ⟨by omega, by omega⟩, fun j hj => absurd hj (Nat.not_lt_zero _)⟩ (by omega)).trans ?_
    · rintro i n es1 p c' z' es' K ⟨⟨rfl, rfl, rfl⟩, rfl, rfl, rfl, ⟨q0, q1⟩, q2⟩ hK
      unfold impl_SolverOk_T5
      simp only [Bool.cond_eq_ite, decide_eq_true_eq, Bool.not_eq_true', decide_eq_false_iff_not, beq_iff_eq, bne_iff_ne, ne_eq]
      simp only [nil_len]
      by_cases hi : i < es'.length
      · have hlt : i.toNat < es'.length := by omega
        have hmk := maskN_lt ((es'.take i.toNat).map piv) 24 (fun x hx => by
          obtain ⟨e, he, rfl⟩ := List.mem_map.1 hx
          obtain ⟨j, hj, rfl⟩ := List.getElem_of_mem he
          have hj' : j < i.toNat := by rw [List.length_take] at hj; omega
          have := piv_in (q2 j hj')
          rw [getD_lt (by omega)] at this
          rw [List.getElem_take]
          omega)
        have good : eqAt c' z' es' i.toNat → (if (0 : Int) < ((es'.getD i.toNat eqD).1.length : Int) then if 0 ≤ piv (es'.getD i.toNat eqD) then K (i + 1, es'.length, es', IntKind.wrap .u32 ↑(BitVec.toNat (BitVec.ofInt (IntKind.bits .u32) ((maskN ((es'.take i.toNat).map piv) : Nat) : Int) ||| BitVec.ofInt (IntKind.bits .u32) (IntKind.wrap .u32 (1 * 2 ^ min (piv (es'.getD i.toNat eqD)).toNat (IntKind.bits .u32))))), c', z', es') else none else none) = some ([B (cdec (eqsFrom c' z' es' i.toNat ∧ apart es'))], []) := fun h => by
          have hpi := piv_in h
          have e1 : (es'.take (i.toNat + 1)).map piv = (es'.take i.toNat).map piv ++ [piv (es'.getD i.toNat eqD)] := by
            rw [List.take_succ_eq_append_getElem hlt, List.map_append, List.map_cons, List.map_nil, getD_lt hlt]
          have e2 : maskN ((es'.take (i.toNat + 1)).map piv) = maskN ((es'.take i.toNat).map piv) ||| 2 ^ (piv (es'.getD i.toNat eqD)).toNat := by
            rw [e1]
            unfold maskN
            rw [List.foldl_append]
            rfl
          rw [if_pos (ne_len h.2.1), if_pos hpi.1, shl32 _ hpi.1 (by omega), or32 _ _ (by omega) (Nat.pow_lt_pow_right (by decide) (by omega)), ← e2]
          rw [hK (i + 1) _ es' _ c' z' es' ⟨⟨rfl, rfl, by rw [toNat_succ q0]⟩, rfl, rfl, rfl, ⟨by omega, by omega⟩, fun j hj => by
            by_cases e : j < i.toNat
            · exact q2 j e
            · rw [show j = i.toNat by omega]; exact h⟩ (by omega), toNat_succ q0, eq_good hlt h]
        rw [if_pos hi, if_pos q0, if_pos hi, w64i q0 (by omega)]
        by_cases c2 : (es'.getD i.toNat eqD).1 = []
        · rw [if_pos c2, eq_bad hlt fun h => h.2.1 c2]
        rw [if_neg c2, if_pos (hs _ hlt)]
        by_cases c1 : RowP (es'.getD i.toNat eqD).1 c'
        rotate_left
        · rw [if_pos c1, eq_bad hlt fun h => c1 h.1]
        rw [if_neg (not_not_intro c1)]
        by_cases c3 : ((es'.getD i.toNat eqD).2.size : Int) = z'
        rotate_left
        · rw [if_pos c3, eq_bad hlt fun h => c3 h.2.2.1]
        rw [if_neg (not_not_intro c3)]
        by_cases c4 : i > 0
        · rw [if_pos c4, w64 (x := i - 1) (by omega) (by omega), if_pos (by omega), if_pos (by omega), toNat_pred c4, if_pos (ne_len (q2 (i.toNat - 1) (by omega)).2.1), if_pos (ne_len c2)]
          by_cases c5 : piv (es'.getD (i.toNat - 1) eqD) ≥ piv (es'.getD i.toNat eqD)
          · rw [if_pos c5, eq_bad hlt fun h => by have := h.2.2.2 (by omega); omega]
          · rw [if_neg c5]
            exact good ⟨c1, c2, c3, fun _ => by omega⟩
        · rw [if_neg c4]
          exact good ⟨c1, c2, c3, fun h => by omega⟩
      · rw [if_neg hi]
        have hok : eqsFrom c' z' es' 0 := fun j _ hj => q2 j (by omega)
        rw [List.take_of_length_le (by omega)]
        have hP := maskN_lt (es'.map piv) 24 (fun x hx => by
          obtain ⟨i, hi, rfl⟩ := (piv_mem es' x).1 hx
          have := piv_in (hok i (Nat.zero_le _) hi)
          omega)
        rw [isolv_second _ c' z' es' hl hs (by omega) hok h1.2 _ (by omega)]
        have he : eqsFrom c' z' es' i.toNat := eqsFrom_end (by omega)
        rw [cdec_congr (apart_iff hok), cdec_congr (show apart es' ↔ eqsFrom c' z' es' i.toNat ∧ apart es' from ⟨fun h => ⟨he, h⟩, fun h => h.2⟩)]
    · rw [Int.toNat_zero, cdec_congr (show (eqsFrom c z es 0 ∧ apart es) ↔ SolverP c z es from ⟨fun h => ⟨h1, h2, h.1, h.2⟩, fun h => ⟨h.2.2.1, h.2.2.2⟩⟩)]
  · cases h
end Go.Proofs.Ythcahoeoofggjaa.V
