/- What functions come to, and that they do so; conditions: those that each theorem states. -/
import Derived.Test.YtbolcmcjniiieaaKgInsDG
set_option linter.unusedVariables false
set_option linter.unusedSimpArgs false
namespace Go.Proofs.Ytbolcmcjniiieaa.V
open Go Vx Vx.N
/-! ### What an equation comes to holds no pivot -/
theorem redE_np {c z : Int} {es : List Eqn} (h : SolverP c z es) (d : Nat) : ∀ (i : Nat) (r : List Int) (t : ByteArray), es.length - i = d → RowP r c → (∀ k, k < i → k < es.length → piv (es.getD k eqD) ∉ r) → ∀ k, k < es.length → piv (es.getD k eqD) ∉ (redE (es.drop i) r t).1 := by
  induction d with
  | zero =>
    intro i r t hd hr hn k hk
    rw [List.drop_eq_nil_of_le (by omega)]
    exact hn k (by omega) hk
  | succ d ih =>
    intro i r t hd hr hn k hk
    have hlt : i < es.length := by omega
    have e1 := solver_at h hlt
    rw [redE_at hlt]
    split
    · rename_i hp
      refine ih (i + 1) _ _ (by omega) (xor_rows hr e1.1) (fun j hj hj2 => ?_) k hk
      rw [(xorL_mem r (es.getD i eqD).1 hr.2.2.1 e1.1.2.2.1).1]
      by_cases e : j = i
      · subst e
        have : piv (es.getD j eqD) ∈ (es.getD j eqD).1 := by have := piv_cons e1.2.1; rw [this]; exact List.mem_cons_self
        exact not_not_intro ⟨fun _ => this, fun _ => hp⟩
      · have h1 := hn j (by omega) hj2
        have h2 := h.2.2.2 j i hj2 hlt (Ne.symm e)
        exact not_not_intro ⟨fun h => absurd h h1, fun h => absurd h h2⟩
    · rename_i hp
      refine ih (i + 1) _ _ (by omega) hr (fun j hj hj2 => ?_) k hk
      by_cases e : j = i
      · subst e; exact hp
      · exact hn j (by omega) hj2
theorem redE_no {c z : Int} {es : List Eqn} (h : SolverP c z es) {r : List Int} {t : ByteArray} (hr : RowP r c) : ∀ f ∈ es, piv f ∉ (redE es r t).1 := by
  intro f hf
  obtain ⟨i, hi, rfl⟩ := List.getElem_of_mem hf
  have := redE_np h es.length 0 r t (by omega) hr (fun k hk => absurd hk (Nat.not_lt_zero _)) i hi
  rw [List.drop_zero, getD_lt hi] at this
  exact this
theorem mem_of_piv {e : Eqn} (h : e.1 ≠ []) : piv e ∈ e.1 := by
  have := piv_cons h
  rw [this]; exact List.mem_cons_self
theorem solver_mem {c z : Int} {es : List Eqn} (h : SolverP c z es) {f : Eqn} (hf : f ∈ es) : RowP f.1 c ∧ f.1 ≠ [] ∧ (f.2.size : Int) = z := by
  obtain ⟨i, hi, rfl⟩ := List.getElem_of_mem hf
  have := solver_at h hi
  rw [eqAt, getD_lt hi] at this
  exact ⟨this.1, this.2.1, this.2.2.1⟩
/-! the clearing of rows -/
theorem clearE_eq (e f : Eqn) : clearE e f = if piv e ∈ f.1 then (xorL f.1 e.1, xorB f.2 e.2) else f := by
  unfold clearE
  by_cases h : piv e ∈ f.1
  · rw [decide_eq_true h, if_pos h]
  · rw [decide_eq_false h, if_neg h]
theorem clear_ne {c : Int} {e f : Eqn} (he : RowP e.1 c) (hf : RowP f.1 c) (hn : f.1 ≠ []) (hp : piv f ∉ e.1) : (clearE e f).1 ≠ [] := by
  rw [clearE_eq]
  split
  · intro h0
    have : piv f ∈ xorL f.1 e.1 := ((xorL_mem f.1 e.1 hf.2.2.1 he.2.2.1).1 (piv f)).2 (fun H => hp (H.1 (mem_of_piv hn)))
    have h0' : xorL f.1 e.1 = [] := h0
    rw [h0'] at this
    cases this
  · exact hn
theorem putE_cons (e f : Eqn) (fs : List Eqn) : putE e (f :: fs) = if piv f > piv e then e :: f :: fs else f :: putE e fs := by
  rw [putE]
  by_cases h : piv f > piv e
  · rw [if_pos h, decide_eq_true h]
  · rw [if_neg h, decide_eq_false h]
theorem K_impl_Solver_reduce : Sound1 Try.prog EKs F_impl_Solver_reduce.f S_impl_Solver_reduce := snd ok_impl_Solver_reduce [(F_impl_mask.f, S_impl_mask), (F_impl_xor.f, S_impl_xor)] (tabF_cons K_impl_mask (tabF_cons K_impl_xor (tabF_nil _ _))) fun args sp h hp => by
  unfold S_impl_Solver_reduce at h
  split at h
  · rename_i c z es m0 t0
    cases h
    simp only [Bool.and_eq_true, solvB_iff, decide_eq_true_eq] at hp
    obtain ⟨hS, ⟨hm0, hm1⟩, hr0, ht0, hm2⟩ := hp
    have hl := solver_len hS
    refine ⟨rfl, es.length + 1, (impl_Solver_reduce_run _ _ _ _ _ _).trans ?_⟩
    refine (fix5 (T := fun k => impl_Solver_reduce_T2 k) (fun i n es' t m => n = es.length ∧ es' = es ∧ (0 ≤ i ∧ i ≤ es.length) ∧ (t.size : Int) = z ∧ ∃ r, RowP r c ∧ m = (maskN r : Nat)) (fun i _ _ _ _ => es.length - i.toNat) (fun i _ _ t m => ([U (maskN (redE (es.drop i.toNat) (rowN m.toNat) t).1 : Nat), T (redE (es.drop i.toNat) (rowN m.toNat) t).2], [])) ?_ _ _ _ _ _ _ ⟨rfl, rfl, ⟨by omega, by omega⟩, ht0, _, hr0, ?_⟩ (by omega)).trans ?_
    · rintro i n es' t m K ⟨rfl, rfl, ⟨q0, q1⟩, ht, r, hr, rfl⟩ hK
      unfold impl_Solver_reduce_T2
      simp only [Bool.cond_eq_ite, decide_eq_true_eq, Bool.and_eq_true, List.all_eq_true]
      have hmr := mask_24 hr
      have hrow : rowN (((maskN r : Nat) : Int).toNat) = r := by rw [Int.toNat_natCast]; exact rowN_maskN r hr.2.2.1 (rowP_24 hr)
      by_cases hi : i < es'.length
      · have hlt : i.toNat < es'.length := by omega
        obtain ⟨e1, e2, e3, _⟩ := solver_at hS hlt
        have s2 := rowP_short e1
        have hm2 := mask_24 e1
        have hpi := piv_in (solver_at hS hlt)
        have hc := hS.1.2
        rw [if_pos hi, if_pos q0, if_pos hi, if_pos (ne_len e2), if_pos hpi.1, bit32 _ (by omega) _ hpi.1 (by omega), maskN_bit r (fun x hx => (hr.2.2.2 x hx).1), Int.toNat_of_nonneg hpi.1, w64i q0 (by omega), hrow, redE_at hlt]
        by_cases hp : piv (es'.getD i.toNat eqD) ∈ r
        · rw [if_pos (decide_eq_true hp), if_pos hp, if_pos ⟨by omega, rowP_32 e1⟩, if_pos ⟨by omega, by have := hS.2.1; omega⟩, xor32 _ _ (by omega) (by omega), ← mask_xorL hr e1]
          have hx := xor_rows hr e1
          rw [hK _ _ _ _ _ ⟨rfl, rfl, ⟨by omega, by omega⟩, by rw [xorB_size _ _ (by omega)]; exact ht, _, hx, rfl⟩ (by omega), toNat_succ q0, Int.toNat_natCast, rowN_maskN _ hx.2.2.1 (rowP_24 hx)]
        · rw [if_neg (by simpa using hp), if_neg hp, hK _ _ _ _ _ ⟨rfl, rfl, ⟨by omega, by omega⟩, ht, _, hr, rfl⟩ (by omega), toNat_succ q0, hrow]
      · rw [if_neg hi, List.drop_eq_nil_of_le (by omega), hrow]; rfl
    · rw [maskN_rowN _ hm2, Int.toNat_of_nonneg hm0]
    · rw [Int.toNat_zero, List.drop_zero]
  · cases h
/-! ### What a solver says -/
theorem saysE_no {c z : Int} {es : List Eqn} {row : List Int} (h : ¬ (SolverP c z es ∧ RowP row c)) : saysE c z es row = (⟨#[]⟩, false) := by
  unfold saysE
  have : (solvB c z es && decide (RowP row c)) = false := by
    cases hb : solvB c z es && decide (RowP row c) with
    | false => rfl
    | true =>
      simp only [Bool.and_eq_true, solvB_iff, decide_eq_true_eq] at hb
      exact absurd hb h
  rw [this]; rfl
theorem saysE_yes {c z : Int} {es : List Eqn} {row : List Int} (h1 : SolverP c z es) (h2 : RowP row c) : saysE c z es row = if (redE es row (zerosB z.toNat)).1 = [] then ((redE es row (zerosB z.toNat)).2, true) else (⟨#[]⟩, false) := by
  unfold saysE
  rw [solvB_iff.2 h1, decide_eq_true h2]
  by_cases h : (redE es row (zerosB z.toNat)).1 = []
  · rw [if_pos h, decide_eq_true h]; rfl
  · rw [if_neg h, decide_eq_false h]; rfl
theorem K_impl_SolverSays : Sound1 Try.prog EKs F_impl_SolverSays.f S_impl_SolverSays := snd ok_impl_SolverSays [(F_impl_SolverOk.f, S_impl_SolverOk), (F_impl_RowOk.f, S_impl_RowOk), (F_impl_mask.f, S_impl_mask), (F_impl_zeros.f, S_impl_zeros), (F_impl_Solver_reduce.f, S_impl_Solver_reduce)] (tabF_cons K_impl_SolverOk (tabF_cons K_impl_RowOk (tabF_cons K_impl_mask (tabF_cons K_impl_zeros (tabF_cons K_impl_Solver_reduce (tabF_nil _ _)))))) fun args sp h hp => by
  unfold S_impl_SolverSays S_spec_SolverSays at h
  split at h
  · rename_i c z es row
    cases h
    simp only [Bool.and_eq_true, decide_eq_true_eq] at hp
    obtain ⟨h1, h2⟩ := hp
    refine ⟨rfl, 0, (impl_SolverSays_run _ _ _ _ _).trans ?_⟩
    unfold impl_SolverSays_T
    simp only [Bool.cond_eq_ite, decide_eq_true_eq, Bool.not_eq_true', Bool.and_eq_true, decide_eq_false_iff_not, List.all_eq_true, bne_iff_ne, ne_eq]
    simp only [Int.toNat_natCast]
    rw [if_pos h1]
    by_cases hS : SolverP c z es
    rotate_left
    · rw [if_pos (by cases hb : solvB c z es with
        | false => rfl
        | true => exact absurd (solvB_iff.1 hb) hS), saysE_no fun H => hS H.1]
    rw [if_neg (by rw [solvB_iff.2 hS]; simp), if_pos h2]
    by_cases hr : RowP row c
    rotate_left
    · rw [if_pos hr, saysE_no fun H => hr H.2]
    have hz := hS.2.1
    have hm := mask_24 hr
    have hrow := rowN_maskN row hr.2.2.1 (rowP_24 hr)
    rw [if_neg (not_not_intro hr), if_pos ⟨h2, rowP_32 hr⟩, if_pos (by omega), hrow, if_pos ⟨solvB_iff.2 hS, ⟨by omega, by omega⟩, hr, by rw [zerosB_size]; omega, hm⟩, saysE_yes hS hr]
    have hok := redE_ok hS hr (t := zerosB z.toNat) (by rw [zerosB_size]; omega)
    by_cases hn : (redE es row (zerosB z.toNat)).1 = []
    · rw [if_neg (by rw [hn]; exact not_not_intro rfl), if_pos hn]
    · rw [if_pos (fun H => hn ((mask_zero hok.1).1 (by omega))), if_neg hn]
  · cases h
end Go.Proofs.Ytbolcmcjniiieaa.V
namespace Go.Proofs.Ytbolcmcjniiieaa.V
open Go Vx Vx.N
/-! ### An equation learned -/
def restE (e : Eqn) (es : List Eqn) (i : Nat) (done : Bool) : List Eqn := match done with
  | true => (es.drop i).map (clearE e)
  | false => putE e ((es.drop i).map (clearE e))
theorem restE_end (e : Eqn) {es : List Eqn} {i : Nat} (h : es.length ≤ i) (done : Bool) : restE e es i done = match done with
    | true => []
    | false => [e] := by
  cases done <;> simp [restE, List.drop_eq_nil_of_le h, putE]
theorem restE_at (e : Eqn) {es : List Eqn} {i : Nat} (h : i < es.length) (done : Bool) : restE e es i done = if done = false ∧ piv (clearE e (es.getD i eqD)) > piv e then e :: clearE e (es.getD i eqD) :: restE e es (i + 1) true else clearE e (es.getD i eqD) :: restE e es (i + 1) done := by
  cases done with
  | true => rw [if_neg (by simp)]; simp only [restE]; rw [List.drop_eq_getElem_cons h, List.map_cons, getD_lt h]
  | false =>
    simp only [restE]
    rw [List.drop_eq_getElem_cons h, List.map_cons, putE_cons, getD_lt h]
    by_cases c : piv (clearE e es[i]) > piv e
    · rw [if_pos c, if_pos ⟨trivial, c⟩]
    · rw [if_neg c, if_neg fun H => c H.2]
structure AddP (c z : Int) (es : List Eqn) (e : Eqn) : Prop where
  s : SolverP c z es
  r : RowP e.1 c
  n : e.1 ≠ []
  t : (e.2.size : Int) = z
  p : ∀ f ∈ es, piv f ∉ e.1
abbrev AddR (c z : Int) (es : List Eqn) (e : Eqn) (i : Int) (done : Bool) (r2 : List Eqn) : List DA × List (List SC) := ([So c z (r2 ++ restE e es i.toNat done), I 0], [])
theorem add_turn {c z : Int} {es : List Eqn} {e : Eqn} (h : AddP c z es e) (Ka : spec_l3Add_X10a → Rs) (K : spec_l3Add_X10 → Rs) (i : Int) (done : Bool) (a b x y : Int) (r2 r0 : List Eqn) (q0 : 0 ≤ i) (q1 : i ≤ es.length) (hl : (r2.length : Int) ≤ 2 * i)
    (hKa : ∀ r2' done', (r2'.length : Int) ≤ 2 * (i + 1) → i < es.length → Ka (i + 1, done', c, z, a, b, e.1, e.2, x, y, r2', es, r0) = some (AddR c z es e (i + 1) done' r2'))
    (hK : ∀ r2', (r2'.length : Int) ≤ 2 * (i + 1) → i < es.length → K (i + 1, done, c, z, a, b, e.1, e.2, x, y, r2', es, r0) = some (AddR c z es e (i + 1) done r2')) :
    spec_l3Add_T10 Ka K (i, done, c, z, a, b, e.1, e.2, x, y, r2, es, r0) = some (AddR c z es e i done r2) := by
  have hlen := solver_len h.s
  unfold spec_l3Add_T10
  simp only [Bool.cond_eq_ite, decide_eq_true_eq, Bool.not_eq_true']
  by_cases hi : i < es.length
  · have hlt : i.toNat < es.length := by omega
    have hf := getE_mem hlt
    obtain ⟨f1, f2, f3⟩ := solver_mem h.s hf
    have s1 := rowP_short f1
    have s2 := rowP_short h.r
    have hz := h.s.2.1
    have hcn := clear_ne (e := e) h.r f1 f2 (h.p _ hf)
    have el : ∀ f : Eqn, (r2 ++ [f]).length = r2.length + 1 := fun f => by simp
    have el2 : ∀ f g : Eqn, (r2 ++ [f] ++ [g]).length = r2.length + 1 + 1 := fun f g => by simp
    have hat := restE_at e hlt done
    have fin : ∀ f', clearE e (es.getD i.toNat eqD) = f' → (if done = false then (if (0 : Int) < (f'.1.length : Int) then (if (0 : Int) < (e.1.length : Int) then (if f'.1.getD 0 0 > e.1.getD 0 0 then (if r2.length + 1 < 1099511627776 then (if (r2 ++ [(e.1, e.2)]).length + 1 < 1099511627776 then Ka (i + 1, true, c, z, a, b, e.1, e.2, x, y, r2 ++ [(e.1, e.2)] ++ [f'], es, r0) else none) else none) else (if r2.length + 1 < 1099511627776 then K (i + 1, done, c, z, a, b, e.1, e.2, x, y, r2 ++ [f'], es, r0) else none)) else none) else none) else (if r2.length + 1 < 1099511627776 then K (i + 1, done, c, z, a, b, e.1, e.2, x, y, r2 ++ [f'], es, r0) else none)) = some (AddR c z es e i done r2) := by
      intro f' hf'
      subst hf'
      have small : r2.length + 1 < 1099511627776 := by omega
      cases done with
      | true =>
        rw [if_neg (by simp), if_pos small, hK (r2 ++ [clearE e (es.getD i.toNat eqD)]) (by rw [el]; omega) hi]
        unfold AddR
        rw [toNat_succ q0, hat, if_neg (by simp), List.append_assoc]; rfl
      | false =>
        rw [if_pos rfl, if_pos (ne_len hcn), if_pos (ne_len h.n)]
        by_cases cmp : piv (clearE e (es.getD i.toNat eqD)) > piv e
        · rw [if_pos cmp, if_pos small, if_pos (by rw [el (e.1, e.2)]; omega), hKa (r2 ++ [(e.1, e.2)] ++ [clearE e (es.getD i.toNat eqD)]) true (by rw [el2]; omega) hi]
          unfold AddR
          rw [toNat_succ q0, hat, if_pos ⟨rfl, cmp⟩, List.append_assoc, List.append_assoc]; rfl
        · rw [if_neg cmp, if_pos small, hK (r2 ++ [clearE e (es.getD i.toNat eqD)]) (by rw [el]; omega) hi]
          unfold AddR
          rw [toNat_succ q0, hat, if_neg fun H => cmp H.2, List.append_assoc]; rfl
    rw [if_pos hi, if_pos q0, if_pos hi, if_pos (ne_len h.n), if_pos (by omega), w64i q0 (by omega)]
    by_cases hp : piv e ∈ (es.getD i.toNat eqD).1
    · rw [if_pos hp, if_pos (by omega), if_pos ⟨by have := h.t; omega, by omega⟩]
      exact fin _ (by rw [clearE_eq, if_pos hp])
    · rw [if_neg hp]
      exact fin _ (by rw [clearE_eq, if_neg hp])
  · rw [if_neg hi]
    unfold AddR
    rw [restE_end e (by omega) done]
    cases done with
    | true => rw [if_neg (by simp), List.append_nil]
    | false => rw [if_pos rfl, if_pos (by omega)]
theorem add_in {c z : Int} {es : List Eqn} {e : Eqn} (h : AddP c z es e) (N : Nat) (a b x y : Int) (r0 : List Eqn) : ∀ (m : Nat) (i : Int) (done : Bool) (r2 : List Eqn), 0 ≤ i → i ≤ es.length → (r2.length : Int) ≤ 2 * i → es.length - i.toNat < m →
    spec_l3Add_W10a N m (i, done, c, z, a, b, e.1, e.2, x, y, r2, es, r0) = some (AddR c z es e i done r2) := by
  intro m
  induction m with
  | zero => intro i done r2 _ _ _ hm; omega
  | succ m ih =>
    intro i done r2 q0 q1 hl hm
    exact add_turn h (spec_l3Add_W10a N m) (spec_l3Add_W10a N m) i done a b x y r2 r0 q0 q1 hl (fun r2' done' h1 h2 => ih _ _ _ (by omega) (by omega) h1 (by omega)) (fun r2' h1 h2 => ih _ _ _ (by omega) (by omega) h1 (by omega))
theorem add_out {c z : Int} {es : List Eqn} {e : Eqn} (h : AddP c z es e) (N : Nat) (a b x y : Int) (r0 : List Eqn) : ∀ (m : Nat) (i : Int) (done : Bool) (r2 : List Eqn), 0 ≤ i → i ≤ es.length → (r2.length : Int) ≤ 2 * i → es.length - i.toNat < m →
    spec_l3Add_W10 N m (i, done, c, z, a, b, e.1, e.2, x, y, r2, es, r0) = some (AddR c z es e i done r2) := by
  intro m
  induction m with
  | zero => intro i done r2 _ _ _ hm; omega
  | succ m ih =>
    intro i done r2 q0 q1 hl hm
    exact add_turn h (spec_l3Add_W10a N m) (spec_l3Add_W10 N m) i done a b x y r2 r0 q0 q1 hl (fun r2' done' h1 h2 => add_in h N a b x y r0 m _ _ _ (by omega) (by omega) h1 (by omega)) (fun r2' h1 h2 => ih _ _ _ (by omega) (by omega) h1 (by omega))
theorem addE_eq (z : Int) (es : List Eqn) (row : List Int) (t : ByteArray) : addE z es row t = if (redE es row t).1 = [] then (es, if (redE es row t).2 = zerosB z.toNat then 1 else 2) else (learnE es (redE es row t), 0) := by
  unfold addE
  by_cases h : (redE es row t).1 = []
  · rw [if_pos h, decide_eq_true h]
    by_cases h2 : (redE es row t).2 = zerosB z.toNat
    · rw [if_pos h2, decide_eq_true h2]
    · rw [if_neg h2, decide_eq_false h2]
  · rw [if_neg h, decide_eq_false h]
theorem K_spec_l3Add : Sound1 Try.prog EKs F_spec_l3Add.f S_spec_l3Add := snd ok_spec_l3Add [(F_spec_l3Less.f, S_spec_l3Less), (F_spec_l3Copy.f, S_spec_l3Copy), (F_spec_l3Zero.f, S_spec_l3Zero), (F_spec_l3Has.f, S_spec_l3Has), (F_spec_l2Xor.f, S_spec_l2Xor), (F_spec_l2Block.f, S_spec_l2Block)] (tabF_cons K_spec_l3Less (tabF_cons K_spec_l3Copy (tabF_cons K_spec_l3Zero (tabF_cons K_spec_l3Has (tabF_cons K_spec_l2Xor (tabF_cons K_spec_l2Block (tabF_nil _ _))))))) fun args sp h hp => by
  unfold S_spec_l3Add at h
  split at h
  · rename_i c z es row t
    cases h
    simp only [Bool.and_eq_true, solvB_iff, decide_eq_true_eq] at hp
    obtain ⟨hS, hr, ht⟩ := hp
    refine ⟨rfl, es.length + 1, (spec_l3Add_run _ _ _ _ _ _).trans ?_⟩
    have s1 := rowP_short hr
    have hok := redE_ok hS hr ht
    have hz := hS.2.1
    have hle := solver_len hS
    unfold spec_l3Add_T
    simp only [ba_toList_eq]
    simp only [Bool.cond_eq_ite, decide_eq_true_eq, Bool.and_eq_true, beq_iff_eq]
    simp only [List.nil_append, nil_len]
    rw [if_pos (by omega), if_pos ⟨solvB_iff.2 hS, hr, ht⟩, if_pos (solver_sm hS), addE_eq]
    by_cases hn : (redE es row t).1 = []
    · rw [if_pos hn, if_pos hn, if_pos (by omega)]
      by_cases h0 : (redE es row t).2 = zerosB z.toNat
      · rw [if_pos h0, if_pos h0]
      · rw [if_neg h0, if_neg h0]
    · rw [if_neg hn, if_neg hn]
      exact add_out ⟨hS, hok.1, hn, hok.2, redE_no hS hr⟩ _ _ _ _ _ _ _ 0 false [] (by omega) (by omega) (by simp) (by omega)
  · cases h
/-! ### Blocks that are known -/
theorem getE_cons (e : Eqn) (es : List Eqn) (x : Int) : getE (e :: es) x = if e.1 = [x] then (e.2, true) else getE es x := by
  rw [getE]
  by_cases h : e.1 = [x]
  · rw [if_pos h, decide_eq_true h]
  · rw [if_neg h, decide_eq_false h]
theorem one_iff (l : List Int) (x : Int) : l = [x] ↔ (l.length : Int) = 1 ∧ l.getD 0 0 = x := by
  match l with
  | [] => simp
  | [y] => simp
  | y :: y2 :: l => simp; omega
theorem getE_at {es : List Eqn} {i : Nat} (h : i < es.length) (x : Int) : getE (es.drop i) x = if ((es.getD i eqD).1.length : Int) = 1 ∧ (es.getD i eqD).1.getD 0 0 = x then ((es.getD i eqD).2, true) else getE (es.drop (i + 1)) x := by
  rw [List.drop_eq_getElem_cons h, getE_cons, getD_lt h]
  by_cases c : es[i].1 = [x]
  · rw [if_pos c, if_pos ((one_iff _ _).1 c)]
  · rw [if_neg c, if_neg fun H => c ((one_iff _ _).2 H)]
theorem K_impl_Solver_get : Sound1 Try.prog EKs F_impl_Solver_get.f S_impl_Solver_get := snd ok_impl_Solver_get [] (tabF_nil _ _) fun args sp h hp => by
  unfold S_impl_Solver_get S_spec_l3Get at h
  split at h
  · rename_i c z es x
    cases h
    obtain ⟨hl, hs⟩ := smE_of hp
    refine ⟨rfl, es.length + 1, (impl_Solver_get_run _ _ _ _ _).trans ?_⟩
    refine fix4 (T := fun k => impl_Solver_get_T2 k) (fun i n es' x' => x' = x ∧ n = es.length ∧ es' = es ∧ 0 ≤ i ∧ i ≤ es.length) (fun i _ _ _ => es.length - i.toNat) (fun i _ _ _ => ([T (getE (es.drop i.toNat) x).1, B (getE (es.drop i.toNat) x).2], [])) ?_ _ _ _ _ _ ⟨rfl, rfl, rfl, by omega, by omega⟩ (by omega)
    rintro i n es' x' K ⟨rfl, rfl, rfl, q0, q1⟩ hK
    unfold impl_Solver_get_T2
    simp only [Bool.cond_eq_ite, decide_eq_true_eq, beq_iff_eq]
    by_cases hi : i < es'.length
    · have hlt : i.toNat < es'.length := by omega
      have nx := hK (i + 1) es'.length es' x' ⟨rfl, rfl, rfl, by omega, by omega⟩ (by omega)
      rw [toNat_succ q0] at nx
      rw [if_pos hi, if_pos q0, if_pos hi, getE_at hlt, w64i q0 (by omega)]
      by_cases c1 : ((es'.getD i.toNat eqD).1.length : Int) = 1
      · rw [if_pos c1, if_pos (by omega)]
        by_cases c2 : (es'.getD i.toNat eqD).1.getD 0 0 = x'
        · rw [if_pos c2, if_pos ⟨c1, c2⟩]
        · rw [if_neg c2, if_neg fun H => c2 H.2, nx]
      · rw [if_neg c1, if_neg fun H => c1 H.1, nx]
    · rw [if_neg hi, List.drop_eq_nil_of_le (by omega)]; rfl
  · cases h
end Go.Proofs.Ytbolcmcjniiieaa.V
