/- What functions come to, and that they do so; conditions: those that each theorem states. -/
import Derived.Test.YthcahoeoofggjaaKeInsG
set_option linter.unusedVariables false
set_option linter.unusedSimpArgs false
namespace Go.Proofs.Ythcahoeoofggjaa.V
open Go Vx Vx.N
/-! ### What an equation comes to holds no pivot -/
theorem redE_np {c z : Int} {es : List Eqn} (h : SolverP c z es) (d : Nat) : ∀ (i : Nat) (r : List Int) (t : ByteArray), es.length - i = d → RowP r c → (∀ k, k < i → k < es.length → piv (es.getD k eqD) ∉ r) → ∀ k, k < es.length → piv (es.getD k eqD) ∉ (redE (es.drop i) r t).1 := by
  induction d with
  | zero =>
    intro i r t hd hr hn k hk
    rw [List.drop_eq_nil_of_le (by omega)]
    exact hn k (by omega) hk
  | succ d ih =>
    intro i r t hd hr hn k hk
    have hlt : i < es.length := by omega
    have e1 := solver_at h hlt
    rw [redE_at hlt]
    split
    · rename_i hp
      refine ih (i + 1) _ _ (by omega) (xor_rows hr e1.1) (fun j hj hj2 => ?_) k hk
      rw [(xorL_mem r (es.getD i eqD).1 hr.2.2.1 e1.1.2.2.1).1]
      by_cases e : j = i
      · subst e
        have : piv (es.getD j eqD) ∈ (es.getD j eqD).1 := by have := piv_cons e1.2.1; rw [this]; exact List.mem_cons_self
        exact not_not_intro ⟨fun _ => this, fun _ => hp⟩
      · have h1 := hn j (by omega) hj2
        have h2 := h.2.2.2 j i hj2 hlt (Ne.symm e)
        exact not_not_intro ⟨fun h => absurd h h1, fun h => absurd h h2⟩
    · rename_i hp
      refine ih (i + 1) _ _ (by omega) hr (fun j hj hj2 => ?_) k hk
      by_cases e : j = i
      · subst e; exact hp
      · exact hn j (by omega) hj2
theorem redE_no {c z : Int} {es : List Eqn} (h : SolverP c z es) {r : List Int} {t : ByteArray} (hr : RowP r c) : ∀ f ∈ es, piv f ∉ (redE es r t).1 := by
  intro f hf
  obtain ⟨i, hi, rfl⟩ := List.getElem_of_mem hf
  have := redE_np h es.length 0 r t (by omega) hr (fun k hk => absurd hk (Nat.not_lt_zero _)) i hi
  rw [List.drop_zero, getD_lt hi] at this
  exact this
theorem mem_of_piv {e : Eqn} (h : e.1 ≠ []) : piv e ∈ e.1 := by
  have := piv_cons h
  rw [this]; exact List.mem_cons_self
theorem solver_mem {c z : Int} {es : List Eqn} (h : SolverP c z es) {f : Eqn} (hf : f ∈ es) : RowP f.1 c ∧ f.1 ≠ [] ∧ (f.2.size : Int) = z := by
  obtain ⟨i, hi, rfl⟩ := List.getElem_of_mem hf
  have := solver_at h hi
  rw [eqAt, getD_lt hi] at this
  exact ⟨this.1, this.2.1, this.2.2.1⟩
/-! the clearing of rows -/
theorem clearE_eq (e f : Eqn) : clearE e f = if piv e ∈ f.1 then (xorL f.1 e.1, xorB f.2 e.2) else f := by
  unfold clearE
  by_cases h : piv e ∈ f.1
  · rw [decide_eq_true h, if_pos h]
  · rw [decide_eq_false h, if_neg h]
theorem clear_ne {c : Int} {e f : Eqn} (he : RowP e.1 c) (hf : RowP f.1 c) (hn : f.1 ≠ []) (hp : piv f ∉ e.1) : (clearE e f).1 ≠ [] := by
  rw [clearE_eq]
  split
  · intro h0
    have : piv f ∈ xorL f.1 e.1 := ((xorL_mem f.1 e.1 hf.2.2.1 he.2.2.1).1 (piv f)).2 (fun H => hp (H.1 (mem_of_piv hn)))
    have h0' : xorL f.1 e.1 = [] := h0
    rw [h0'] at this
    cases this
  · exact hn
theorem putE_cons (e f : Eqn) (fs : List Eqn) : putE e (f :: fs) = if piv f > piv e then e :: f :: fs else f :: putE e fs := by
  rw [putE]
  by_cases h : piv f > piv e
  · rw [if_pos h, decide_eq_true h]
  · rw [if_neg h, decide_eq_false h]
theorem K_impl_Solver_reduce : Sound1 Try.prog EKs F_impl_Solver_reduce.f S_impl_Solver_reduce := snd ok_impl_Solver_reduce [(F_impl_mask.f, S_impl_mask), (F_impl_xor.f, S_impl_xor)] (tabF_cons K_impl_mask (tabF_cons K_impl_xor (tabF_nil _ _))) fun args sp h hp => by
  unfold S_impl_Solver_reduce at h
  split at h
  · rename_i c z es m0 t0
    cases h
    simp only [Bool.and_eq_true, solvB_iff, decide_eq_true_eq] at hp
    obtain ⟨hS, ⟨hm0, hm1⟩, hr0, ht0, hm2⟩ := hp
    have hl := solver_len hS
    refine ⟨rfl, es.length + 1, (impl_Solver_reduce_run _ _ _ _ _ _).trans ?_⟩
    refine (fix5 (T := fun k => impl_Solver_reduce_T2 k) (fun i n es' t m => n = es.length ∧ es' = es ∧ (0 ≤ i ∧ i ≤ es.length) ∧ (t.size : Int) = z ∧ ∃ r, RowP r c ∧ m = (maskN r : Nat)) (fun i _ _ _ _ => es.length - i.toNat) (fun i _ _ t m => ([U (maskN (redE (es.drop i.toNat) (rowN m.toNat) t).1 : Nat), T (redE (es.drop i.toNat) (rowN m.toNat) t).2], [])) ?_ _ _ _ _ _ _ ⟨rfl, rfl, ⟨by omega, by omega⟩, ht0, _, hr0, ?_⟩ (by omega)).trans ?_
    · rintro i n es' t m K ⟨rfl, rfl, ⟨q0, q1⟩, ht, r, hr, rfl⟩ hK
      unfold impl_Solver_reduce_T2
      simp only [Bool.cond_eq_ite, decide_eq_true_eq, Bool.and_eq_true, List.all_eq_true]
      have hmr := mask_24 hr
      have hrow : rowN (((maskN r : Nat) : Int).toNat) = r := by rw [Int.toNat_natCast]; exact rowN_maskN r hr.2.2.1 (rowP_24 hr)
      by_cases hi : i < es'.length
      · have hlt : i.toNat < es'.length := by omega
        obtain ⟨e1, e2, e3, _⟩ := solver_at hS hlt
        have s2 := rowP_short e1
        have hm2 := mask_24 e1
        have hpi := piv_in (solver_at hS hlt)
        have hc := hS.1.2
        rw [if_pos hi, if_pos q0, if_pos hi, if_pos (ne_len e2), if_pos hpi.1, bit32 _ (by omega) _ hpi.1 (by omega), maskN_bit r (fun x hx => (hr.2.2.2 x hx).1), Int.toNat_of_nonneg hpi.1, w64i q0 (by omega), hrow, redE_at hlt]
        by_cases hp : piv (es'.getD i.toNat eqD) ∈ r
        · rw [if_pos (decide_eq_true hp), if_pos hp, if_pos ⟨by omega, rowP_32 e1⟩, if_pos ⟨by omega, by have := hS.2.1; omega⟩, xor32 _ _ (by omega) (by omega), ← mask_xorL hr e1]
          have hx := xor_rows hr e1
          rw [hK _ _ _ _ _ ⟨rfl, rfl, ⟨by omega, by omega⟩, by rw [xorB_size _ _ (by omega)]; exact ht, _, hx, rfl⟩ (by omega), toNat_succ q0, Int.toNat_natCast, rowN_maskN _ hx.2.2.1 (rowP_24 hx)]
        · rw [if_neg (by simpa using hp), if_neg hp, hK _ _ _ _ _ ⟨rfl, rfl, ⟨by omega, by omega⟩, ht, _, hr, rfl⟩ (by omega), toNat_succ q0, hrow]
      · rw [if_neg hi, List.drop_eq_nil_of_le (by omega), hrow]; rfl
    · rw [maskN_rowN _ hm2, Int.toNat_of_nonneg hm0]
    · rw [Int.toNat_zero, List.drop_zero]
  · cases h
/-! ### What a solver says -/
theorem saysE_no {c z : Int} {es : List Eqn} {row : List Int} (h : ¬ (SolverP c z es ∧ RowP row c)) : saysE c z es row = (⟨#[]⟩, false) := by
  unfold saysE
  have : (solvB c z es && decide (RowP row c)) = false := by
    cases hb : solvB c z es && decide (RowP row c) with
    | false => rfl
    | true =>
      simp only [Bool.and_eq_true, solvB_iff, decide_eq_true_eq] at hb
      exact absurd hb h
  rw [this]; rfl
theorem saysE_yes {c z : Int} {es : List Eqn} {row : List Int} (h1 : SolverP c z es) (h2 : RowP row c) : saysE c z es row = if (redE es row (zerosB z.toNat)).1 = [] then ((redE es row (zerosB z.toNat)).2, true) else (⟨#[]⟩, false) := by
  unfold saysE
  rw [solvB_iff.2 h1, decide_eq_true h2]
  by_cases h : (redE es row (zerosB z.toNat)).1 = []
  · rw [if_pos h, decide_eq_true h]; rfl
  · rw [if_neg h, decide_eq_false h]; rfl
theorem K_impl_SolverSays : Sound1 Try.prog EKs F_impl_SolverSays.f S_impl_SolverSays := snd ok_impl_SolverSays [(F_impl_SolverOk.f, S_impl_SolverOk), (F_impl_RowOk.f, S_impl_RowOk), (F_impl_mask.f, S_impl_mask), (F_impl_zeros.f, S_impl_zeros), (F_impl_Solver_reduce.f, S_impl_Solver_reduce)] (tabF_cons K_impl_SolverOk (tabF_cons K_impl_RowOk (tabF_cons K_impl_mask (tabF_cons K_impl_zeros (tabF_cons K_impl_Solver_reduce (tabF_nil _ _)))))) fun args sp h hp => by
  unfold S_impl_SolverSays S_spec_SolverSays at h
  split at h
  · rename_i c z es row
    cases h
    simp only [Bool.and_eq_true, decide_eq_true_eq] at hp
    obtain ⟨h1, h2⟩ := hp
    refine ⟨rfl, 0, (impl_SolverSays_run _ _ _ _ _).trans ?_⟩
    unfold impl_SolverSays_T
    simp only [Bool.cond_eq_ite, decide_eq_true_eq, Bool.not_eq_true', Bool.and_eq_true, decide_eq_false_iff_not, List.all_eq_true, bne_iff_ne, ne_eq]
    simp only [Int.toNat_natCast]
    rw [if_pos h1]
    by_cases hS : SolverP c z es
    rotate_left
    · rw [if_pos (by cases hb : solvB c z es with
        | false => rfl
        | true => exact absurd (solvB_iff.1 hb) hS), saysE_no fun H => hS H.1]
    rw [if_neg (by rw [solvB_iff.2 hS]; simp), if_pos h2]
    by_cases hr : RowP row c
    rotate_left
    · rw [if_pos hr, saysE_no fun H => hr H.2]
    have hz := hS.2.1
    have hm := mask_24 hr
    have hrow := rowN_maskN row hr.2.2.1 (rowP_24 hr)
    rw [if_neg (not_not_intro hr), if_pos ⟨h2, rowP_32 hr⟩, if_pos (by omega), hrow, if_pos ⟨solvB_iff.2 hS, ⟨by omega, by omega⟩, hr, by rw [zerosB_size]; omega, hm⟩, saysE_yes hS hr]
    have hok := redE_ok hS hr (t := zerosB z.toNat) (by rw [zerosB_size]; omega)
    by_cases hn : (redE es row (zerosB z.toNat)).1 = []
    · rw [if_neg (by rw [hn]; exact not_not_intro rfl), if_pos hn]
    · rw [if_pos (fun H => hn ((mask_zero hok.1).1 (by omega))), if_neg hn]
  · cases h
end Go.Proofs.Ythcahoeoofggjaa.V
