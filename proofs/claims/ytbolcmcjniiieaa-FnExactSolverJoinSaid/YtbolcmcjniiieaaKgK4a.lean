/- What functions come to, and that they do so; conditions: those that each theorem states. -/
import Derived.Test.YtbolcmcjniiieaaDg4G
set_option linter.unusedVariables false
set_option linter.unusedSimpArgs false
namespace Go.Proofs.Ytbolcmcjniiieaa.V
open Go Vx Vx.N
/-! ### What is known at the beginning -/
theorem getE_iff (es : List Eqn) (x : Int) : (getE es x).2 = true ↔ ∃ i, i < es.length ∧ (es.getD i eqD).1 = [x] := by
  induction es with
  | nil => simp [getE]
  | cons e es ih =>
    rw [getE_cons]
    by_cases h : e.1 = [x]
    · rw [if_pos h]
      exact ⟨fun _ => ⟨0, by simp, h⟩, fun _ => rfl⟩
    · rw [if_neg h, ih]
      constructor
      · rintro ⟨i, h1, h2⟩
        exact ⟨i + 1, by simpa using h1, by simpa using h2⟩
      · rintro ⟨i, h1, h2⟩
        cases i with
        | zero => exact absurd h2 h
        | succ i => exact ⟨i, by simpa using h1, by simpa using h2⟩
theorem getE_in {c z : Int} {es : List Eqn} (h : SolverP c z es) {x : Int} (hx : (getE es x).2 = true) : 0 ≤ x ∧ x < c := by
  obtain ⟨i, hi, hr⟩ := (getE_iff es x).1 hx
  have := (solver_at h hi).1.2.2.2 x (by rw [hr]; exact List.mem_cons_self)
  exact this
theorem preN_step {es : List Eqn} {k n : Nat} (h : (getE es (n : Int)).2 = true) : preN es (k + 1) n = preN es k (n + 1) := by
  rw [preN, h]
theorem preN_stop {es : List Eqn} {k n : Nat} (h : (getE es (n : Int)).2 = false) : preN es k n = n := by
  cases k with
  | zero => rfl
  | succ k => rw [preN, h]
theorem K_impl_Solver_prefix : Sound1 Try.prog EKs F_impl_Solver_prefix.f S_impl_Solver_prefix := snd ok_impl_Solver_prefix [(F_impl_Solver_get.f, S_impl_Solver_get)] (tabF_cons K_impl_Solver_get (tabF_nil _ _)) fun args sp h hp => by
  unfold S_impl_Solver_prefix S_spec_l3Prefix at h
  split at h
  · rename_i c z es
    cases h
    have hS := solvB_iff.1 hp
    have hsm := solver_sm hS
    refine ⟨rfl, 30, (impl_Solver_prefix_run _ _ _ _).trans ?_⟩
    refine fix4 (T := fun k => impl_Solver_prefix_T2 k) (fun n c' z' es' => c' = c ∧ z' = z ∧ es' = es ∧ 0 ≤ n ∧ n ≤ c) (fun n _ _ _ => 25 - n.toNat) (fun n _ _ _ => ([I (preN es (25 - n.toNat) n.toNat : Nat)], [])) ?_ _ _ _ _ _ ⟨rfl, rfl, rfl, by omega, by have := hS.1; omega⟩ (by omega)
    rintro n c' z' es' K ⟨rfl, rfl, rfl, q0, q1⟩ hK
    unfold impl_Solver_prefix_T2
    simp only [Bool.cond_eq_ite, Bool.not_eq_true', decide_eq_true_eq]
    have hc := hS.1.2
    have en : ((n.toNat : Nat) : Int) = n := by omega
    by_cases hn : n < c'
    · rw [if_pos hn, if_pos hsm]
      cases hg : (getE es' n).2 with
      | false => rw [if_pos rfl, preN_stop (by rw [en]; exact hg), en]
      | true =>
        have e25 : 25 - n.toNat = (25 - (n.toNat + 1)) + 1 := by omega
        rw [if_neg (by simp), w64i q0 (by omega), hK _ _ _ _ ⟨rfl, rfl, rfl, by omega, by omega⟩ (by omega), toNat_succ q0, e25, preN_step (by rw [en]; exact hg)]
    · have hg : (getE es' n).2 = false := by
        cases hg : (getE es' n).2 with
        | false => rfl
        | true => have := getE_in hS hg; omega
      rw [if_neg hn, preN_stop (by rw [en]; exact hg), en]
  · cases h
/-! ### Of solvers that are ok -/
theorem solvB_f {c z : Int} {es : List Eqn} : solvB c z es = false ↔ ¬ SolverP c z es := by
  rw [← solvB_iff]; cases solvB c z es <;> simp
theorem K_impl_SolverPrefix : Sound1 Try.prog EKs F_impl_SolverPrefix.f S_impl_SolverPrefix := snd ok_impl_SolverPrefix [(F_impl_SolverOk.f, S_impl_SolverOk), (F_impl_Solver_prefix.f, S_impl_Solver_prefix)] (tabF_cons K_impl_SolverOk (tabF_cons K_impl_Solver_prefix (tabF_nil _ _))) fun args sp h hp => by
  unfold S_impl_SolverPrefix S_spec_SolverPrefix at h
  split at h
  · rename_i c z es
    cases h
    have hp : smE es = true := hp
    refine ⟨rfl, 0, (impl_SolverPrefix_run _ _ _ _).trans ?_⟩
    unfold impl_SolverPrefix_T prefS
    rw [hp]
    cases solvB c z es <;> rfl
  · cases h
theorem K_impl_SolverRank : Sound1 Try.prog EKs F_impl_SolverRank.f S_impl_SolverRank := snd ok_impl_SolverRank [(F_impl_SolverOk.f, S_impl_SolverOk)] (tabF_cons K_impl_SolverOk (tabF_nil _ _)) fun args sp h hp => by
  unfold S_impl_SolverRank S_spec_SolverRank at h
  split at h
  · rename_i c z es
    cases h
    have hp : smE es = true := hp
    refine ⟨rfl, 0, (impl_SolverRank_run _ _ _ _).trans ?_⟩
    unfold impl_SolverRank_T rankS
    rw [hp]
    cases solvB c z es <;> rfl
  · cases h
/-! ### Rows and blocks put together -/
theorem blockXorR_eq (a b : ByteArray) : blockXorR a b = if a.size = b.size ∧ a.size ≤ 16 then (xorB a b, true) else (⟨#[]⟩, false) := by
  unfold blockXorR
  by_cases h : a.size = b.size ∧ a.size ≤ 16
  · rw [if_pos h, decide_eq_true h]
  · rw [if_neg h, decide_eq_false h]
theorem K_spec_SolverNew : Sound1 Try.prog EKs F_spec_SolverNew.f S_spec_SolverNew := snd ok_spec_SolverNew [(F_spec_l1In.f, S_spec_l1In)] (tabF_cons K_spec_l1In (tabF_nil _ _)) fun args sp h hp => by
  unfold S_spec_SolverNew at h
  split at h
  · rename_i c z
    cases h
    obtain ⟨h1, h2⟩ := of_decide_eq_true hp
    refine ⟨rfl, 0, (spec_SolverNew_run _ _ _).trans ?_⟩
    unfold spec_SolverNew_T
    rw [inB_of.2 h1, inB_of.2 h2]; rfl
  · cases h
/-! ### Drawn truths -/
theorem truthL_succ (b : List Int) (p z : Int) (n : Nat) : truthL b p z (n + 1) = truthL b p z n ++ [blockD b (p + 2 * z * (n : Nat)) z.toNat] := by
  unfold truthL
  rw [List.range_succ, List.map_append]; rfl
theorem truthL_len (b : List Int) (p z : Int) (n : Nat) : (truthL b p z n).length = n := by simp [truthL]
theorem truth_in {b : List Int} {p : Int} (h : rdOk b p = true) (h2 : p < 900000) : (1 ≤ truthZ b p ∧ truthZ b p ≤ 4) ∧ 1 ≤ truthN b p ∧ truthN b p ≤ 9 := by
  have h0 := (rdOk_of h).1.2.1
  have a := (pick_eq (n := 4) h).2
  have c := (pick_eq (n := 9) (rdOk_mk h (q := p + 1) (by omega) (by omega))).2
  have := a.2.1 (by omega)
  have := c.2.1 (by omega)
  unfold truthZ truthN
  omega
theorem K_spec_l15Truth : Sound1 Try.prog EKs F_spec_l15Truth.f S_spec_l15Truth := snd ok_spec_l15Truth [(F_spec_l1Rd_pick.f, S_spec_l1Rd_pick), (F_spec_l15Block.f, S_spec_l15Block)] (tabF_cons K_spec_l1Rd_pick (tabF_cons K_spec_l15Block (tabF_nil _ _))) fun args sp h hp => by
  unfold S_spec_l15Truth at h
  split at h
  · rename_i b p
    cases h
    simp only [Bool.and_eq_true, decide_eq_true_eq] at hp
    obtain ⟨h1, h2⟩ := hp
    obtain ⟨⟨z0, z1⟩, n0, n1⟩ := truth_in h1 h2
    have p0 := (rdOk_of h1).1.2.1
    refine ⟨rfl, 12, (spec_l15Truth_run _ _ _).trans ?_⟩
    unfold spec_l15Truth_T
    have ez : IntKind.wrap .i64 (1 + pickV b p 4) = truthZ b p := w64 (by unfold truthZ at z0; omega) (by unfold truthZ at z1; omega)
    have en : IntKind.wrap .i64 (1 + pickV b (p + 1) 9) = truthN b p := w64 (by unfold truthN at n0; omega) (by unfold truthN at n1; omega)
    rw [h1, rdOk_mk h1 (q := p + 1) (by omega) (by omega), ez, en, cond_true, cond_true]
    have hz : 0 ≤ truthZ b p * 9 := by omega
    unfold truthD truthP
    generalize truthZ b p = z at *
    generalize truthN b p = n at *
    clear ez en
    refine (fix5 (T := fun k => spec_l15Truth_T4 k) (fun m z' b' q r => z' = z ∧ b' = b ∧ (0 ≤ m ∧ m ≤ n) ∧ q = p + 2 + 2 * (z * (n - m)) ∧ r = truthL b (p + 2) z (n - m).toNat) (fun m _ _ _ _ => m.toNat) (fun _ _ _ _ _ => ([Ts (truthL b (p + 2) z n.toNat)], [rdC b (p + 2 + 2 * (z * n))])) ?_ _ _ _ _ _ _ ⟨rfl, rfl, ⟨by omega, by omega⟩, by rw [Int.sub_self, Int.mul_zero]; omega, by rw [Int.sub_self]; rfl⟩ (by omega)).trans ?_
    · rintro m z' b' q r K ⟨rfl, rfl, ⟨q0, q1⟩, rfl, rfl⟩ hK
      unfold spec_l15Truth_T4
      simp only [Bool.cond_eq_ite, decide_eq_true_eq, Bool.and_eq_true]
      have hb1 : z' * (n - m) ≤ z' * 9 := Int.mul_le_mul_of_nonneg_left (by omega) (by omega)
      have hb0 : 0 ≤ z' * (n - m) := Int.mul_nonneg (by omega) (by omega)
      by_cases hm : m > 0
      · have e1 : z' * (n - (m - 1)) = z' * (n - m) + z' := by rw [show n - (m - 1) = (n - m) + 1 by omega, Int.mul_add, Int.mul_one]
        have e2 : (n - (m - 1)).toNat = (n - m).toNat + 1 := by omega
        have e3 : (((n - m).toNat : Nat) : Int) = n - m := by omega
        have el := truthL_len b' (p + 2) z' (n - m).toNat
        rw [if_pos hm, if_pos ⟨rdOk_mk h1 (by omega) (by omega), rdOk_mk h1 (by omega) (by omega), by omega, by omega⟩, if_pos (by omega), w64 (by omega) (by omega)]
        refine hK _ _ _ _ _ ⟨rfl, rfl, ⟨by omega, by omega⟩, by rw [e1]; omega, ?_⟩ (by omega)
        rw [e2, truthL_succ, e3, Int.mul_assoc]
      · rw [if_neg hm, show m = 0 by omega, Int.sub_zero]
    · rw [Int.mul_assoc]
  · cases h
end Go.Proofs.Ytbolcmcjniiieaa.V
namespace Go.Proofs.Ytbolcmcjniiieaa.V
open Go Vx Vx.N
/-! ### Solvers as lists -/
def Apart (f g : Eqn) : Prop := piv f ∉ g.1 ∧ piv g ∉ f.1
structure SolverL (c z : Int) (es : List Eqn) : Prop where
  hc : 1 ≤ c ∧ c ≤ 24
  hz : 1 ≤ z ∧ z ≤ 16
  m : ∀ f ∈ es, RowP f.1 c ∧ f.1 ≠ [] ∧ (f.2.size : Int) = z
  a : (es.map piv).Pairwise (· < ·)
  s : es.Pairwise Apart
theorem solverL_of {c z : Int} {es : List Eqn} (h : SolverP c z es) : SolverL c z es := by
  refine ⟨h.1, h.2.1, fun f hf => solver_mem h hf, asc_piv h, ?_⟩
  rw [List.pairwise_iff_getElem]
  intro i j hi hj hij
  have h1 := h.2.2.2 i j hi hj (by omega)
  have h2 := h.2.2.2 j i hj hi (by omega)
  rw [getD_lt hi, getD_lt hj] at h1 h2
  exact ⟨h1, h2⟩
theorem SolverL.p {c z : Int} {es : List Eqn} (h : SolverL c z es) : SolverP c z es := by
  refine ⟨h.hc, h.hz, fun j _ hj => ?_, fun i j hi hj hij => ?_⟩
  · have hm := h.m _ (getE_mem hj)
    refine ⟨hm.1, hm.2.1, hm.2.2, fun h0 => ?_⟩
    have := List.pairwise_iff_getElem.1 h.a (j - 1) j (by rw [List.length_map]; omega) (by rw [List.length_map]; omega) (by omega)
    rw [List.getElem_map, List.getElem_map] at this
    rw [getD_lt (show j - 1 < es.length by omega), getD_lt hj]
    exact this
  · rw [getD_lt hi, getD_lt hj]
    rcases Nat.lt_or_ge i j with h1 | h1
    · exact (List.pairwise_iff_getElem.1 h.s i j hi hj h1).1
    · exact (List.pairwise_iff_getElem.1 h.s j i hj hi (by omega)).2
theorem putE_mem (e : Eqn) (l : List Eqn) (x : Eqn) : x ∈ putE e l ↔ x = e ∨ x ∈ l := by
  induction l with
  | nil => simp [putE]
  | cons f l ih =>
    rw [putE_cons]
    split
    · simp
    · rw [List.mem_cons, ih, List.mem_cons]
      constructor
      · rintro (h | h | h)
        · exact .inr (.inl h)
        · exact .inl h
        · exact .inr (.inr h)
      · rintro (h | h | h)
        · exact .inr (.inl h)
        · exact .inl h
        · exact .inr (.inr h)
theorem putE_len (e : Eqn) (l : List Eqn) : (putE e l).length = l.length + 1 := by
  induction l with
  | nil => rfl
  | cons f l ih => rw [putE_cons]; split <;> simp [ih]
theorem putE_asc (e : Eqn) (l : List Eqn) (h : (l.map piv).Pairwise (· < ·)) (hn : ∀ f ∈ l, piv f ≠ piv e) : ((putE e l).map piv).Pairwise (· < ·) := by
  induction l with
  | nil => simp [putE]
  | cons f l ih =>
    rw [List.map_cons, List.pairwise_cons] at h
    have ih' := ih h.2 fun g hg => hn g (List.mem_cons_of_mem _ hg)
    rw [putE_cons]
    split
    · rename_i hlt
      rw [List.map_cons, List.map_cons, List.pairwise_cons, List.pairwise_cons]
      refine ⟨fun x hx => ?_, h⟩
      rcases List.mem_cons.1 hx with rfl | hx
      · exact hlt
      · have := h.1 x hx; omega
    · rename_i hlt
      rw [List.map_cons, List.pairwise_cons]
      refine ⟨fun x hx => ?_, ih'⟩
      obtain ⟨g, hg, rfl⟩ := List.mem_map.1 hx
      rcases (putE_mem e l g).1 hg with rfl | hg
      · have := hn f List.mem_cons_self; omega
      · exact h.1 _ (List.mem_map.2 ⟨g, hg, rfl⟩)
theorem putE_pair {R : Eqn → Eqn → Prop} (hs : ∀ f g, R f g → R g f) (e : Eqn) (l : List Eqn) (h : l.Pairwise R) (hn : ∀ f ∈ l, R e f) : (putE e l).Pairwise R := by
  induction l with
  | nil => simp [putE]
  | cons f l ih =>
    rw [List.pairwise_cons] at h
    have ih' := ih h.2 fun g hg => hn g (List.mem_cons_of_mem _ hg)
    rw [putE_cons]
    split
    · rw [List.pairwise_cons, List.pairwise_cons]
      exact ⟨hn, h⟩
    · rw [List.pairwise_cons]
      refine ⟨fun x hx => ?_, ih'⟩
      rcases (putE_mem e l x).1 hx with rfl | hx
      · exact hs _ _ (hn f List.mem_cons_self)
      · exact h.1 x hx
theorem min_head {l : List Int} (h : l.Pairwise (· < ·)) {x : Int} (hx : x ∈ l) (hm : ∀ y ∈ l, x ≤ y) : l.getD 0 0 = x := by
  cases l with
  | nil => cases hx
  | cons y l =>
    have h1 := hm y List.mem_cons_self
    show y = x
    rcases List.mem_cons.1 hx with rfl | hx
    · rfl
    · have := (List.pairwise_cons.1 h).1 x hx; omega
theorem piv_le {f : Eqn} {c : Int} (h : RowP f.1 c) (hn : f.1 ≠ []) : ∀ y ∈ f.1, piv f ≤ y := by
  intro y hy
  have e := piv_cons hn
  have hp := h.2.2.1
  rw [e] at hp hy
  rcases List.mem_cons.1 hy with rfl | hy
  · exact Int.le_refl _
  · exact Int.le_of_lt ((List.pairwise_cons.1 hp).1 y hy)
theorem clear_piv {c : Int} {e f : Eqn} (he : RowP e.1 c) (hen : e.1 ≠ []) (hf : RowP f.1 c) (hn : f.1 ≠ []) (hp : piv f ∉ e.1) : piv (clearE e f) = piv f := by
  rw [clearE_eq]
  split
  · rename_i h
    have hx := xorL_mem f.1 e.1 hf.2.2.1 he.2.2.1
    have hlt : piv f < piv e := by
      have h1 := piv_le hf hn _ h
      have h2 : piv f ≠ piv e := fun e0 => hp (e0 ▸ mem_of_piv hen)
      omega
    refine min_head hx.2 ((hx.1 (piv f)).2 fun H => hp (H.1 (mem_of_piv hn))) fun y hy => ?_
    have := (hx.1 y).1 hy
    by_cases c1 : y ∈ f.1
    · exact piv_le hf hn y c1
    · by_cases c2 : y ∈ e.1
      · have := piv_le he hen y c2; omega
      · exact absurd ⟨fun h => absurd h c1, fun h => absurd h c2⟩ this
  · rfl
theorem clear_sub {c : Int} {e f : Eqn} (he : RowP e.1 c) (hf : RowP f.1 c) {y : Int} (h1 : y ∉ f.1) (h2 : y ∉ e.1) : y ∉ (clearE e f).1 := by
  rw [clearE_eq]
  split
  · intro hy
    have := ((xorL_mem f.1 e.1 hf.2.2.1 he.2.2.1).1 y).1 hy
    exact this ⟨fun h => absurd h h1, fun h => absurd h h2⟩
  · exact h1
theorem clear_gone {c : Int} {e f : Eqn} (he : RowP e.1 c) (hen : e.1 ≠ []) (hf : RowP f.1 c) : piv e ∉ (clearE e f).1 := by
  rw [clearE_eq]
  split
  · rename_i h
    intro hy
    exact ((xorL_mem f.1 e.1 hf.2.2.1 he.2.2.1).1 _).1 hy ⟨fun _ => mem_of_piv hen, fun _ => h⟩
  · assumption
theorem clear_row {c z : Int} {e f : Eqn} (he : RowP e.1 c) (het : (e.2.size : Int) = z) (hf : RowP f.1 c) (hft : (f.2.size : Int) = z) : RowP (clearE e f).1 c ∧ ((clearE e f).2.size : Int) = z := by
  rw [clearE_eq]
  split
  · exact ⟨xor_rows hf he, by show ((xorB f.2 e.2).size : Int) = z; rw [xorB_size _ _ (by omega)]; exact hft⟩
  · exact ⟨hf, hft⟩
/-- What is learned is in order. -/
theorem learn_ok {c z : Int} {es : List Eqn} {e : Eqn} (h : AddP c z es e) : SolverP c z (learnE es e) := by
  have hL := solverL_of h.s
  have hpiv : ∀ f ∈ es, piv (clearE e f) = piv f := fun f hf => clear_piv h.r h.n (hL.m f hf).1 (hL.m f hf).2.1 (h.p f hf)
  refine SolverL.p ⟨hL.hc, hL.hz, fun f hf => ?_, ?_, ?_⟩
  · rcases (putE_mem _ _ _).1 hf with rfl | hf
    · exact ⟨h.r, h.n, h.t⟩
    · obtain ⟨g, hg, rfl⟩ := List.mem_map.1 hf
      have hm := hL.m g hg
      have hc := clear_row h.r h.t hm.1 hm.2.2
      exact ⟨hc.1, clear_ne h.r hm.1 hm.2.1 (h.p g hg), hc.2⟩
  · refine putE_asc _ _ ?_ fun f hf => ?_
    · rw [List.map_map]
      have : es.map (piv ∘ clearE e) = es.map piv := List.map_congr_left fun f hf => hpiv f hf
      rw [this]; exact hL.a
    · obtain ⟨g, hg, rfl⟩ := List.mem_map.1 hf
      rw [hpiv g hg]
      exact fun e0 => h.p g hg (e0 ▸ mem_of_piv h.n)
  · refine putE_pair (fun f g h => ⟨h.2, h.1⟩) _ _ ?_ fun f hf => ?_
    · rw [List.pairwise_map]
      refine hL.s.imp_of_mem fun {f g} hf hg hfg => ?_
      exact ⟨by rw [hpiv f hf]; exact clear_sub h.r (hL.m g hg).1 hfg.1 (h.p f hf), by rw [hpiv g hg]; exact clear_sub h.r (hL.m f hf).1 hfg.2 (h.p g hg)⟩
    · obtain ⟨g, hg, rfl⟩ := List.mem_map.1 hf
      exact ⟨clear_gone h.r h.n (hL.m g hg).1, by rw [hpiv g hg]; exact h.p g hg⟩
theorem addP_of {c z : Int} {es : List Eqn} (hS : SolverP c z es) {row : List Int} {t : ByteArray} (hr : RowP row c) (ht : (t.size : Int) = z) (hn : (redE es row t).1 ≠ []) : AddP c z es (redE es row t) := ⟨hS, (redE_ok hS hr ht).1, hn, (redE_ok hS hr ht).2, redE_no hS hr⟩
theorem add_ok {c z : Int} {es : List Eqn} (hS : SolverP c z es) {row : List Int} {t : ByteArray} (hr : RowP row c) (ht : (t.size : Int) = z) : SolverP c z (addE z es row t).1 := by
  rw [addE_eq]
  split
  · exact hS
  · rename_i hn
    exact learn_ok (addP_of hS hr ht hn)
theorem solver_nil {c z : Int} (hc : 1 ≤ c ∧ c ≤ 24) (hz : 1 ≤ z ∧ z ≤ 16) : SolverP c z [] := ⟨hc, hz, fun j _ hj => absurd hj (Nat.not_lt_zero _), fun i j hi => absurd hi (Nat.not_lt_zero _)⟩
end Go.Proofs.Ytbolcmcjniiieaa.V
namespace Go.Proofs.Ytbolcmcjniiieaa.V
open Go Vx Vx.N
/-! ### Drawn solvers -/
theorem rowD_row (b : List Int) (p : Int) (n : Nat) (hn : n ≤ 24) : RowP (rowD b p n) n := by
  refine ⟨by omega, by omega, ?_, fun x hx => ?_⟩
  · unfold rowD
    rw [List.pairwise_map]
    exact ((List.pairwise_lt_range (n := n)).filter _).imp fun h => by omega
  · obtain ⟨i, hi, rfl⟩ := List.mem_map.1 hx
    have := List.mem_range.1 (List.mem_filter.1 hi).1
    omega
theorem trOk_of {tr : List ByteArray} (h : trOk tr = true) : (1 ≤ tr.length ∧ tr.length ≤ 24 ∧ 1 ≤ (tr.getD 0 ⟨#[]⟩).size ∧ (tr.getD 0 ⟨#[]⟩).size ≤ 16) ∧ ∀ x ∈ tr, x.size = (tr.getD 0 ⟨#[]⟩).size := by
  simp only [trOk, Bool.and_eq_true, decide_eq_true_eq, List.all_eq_true] at h
  exact h
theorem sumB_size {bl : List ByteArray} {z : Nat} (hb : ∀ b ∈ bl, b.size = z) : ∀ (row : List Int) (a : ByteArray), (∀ x ∈ row, 0 ≤ x ∧ x < bl.length) → a.size = z → (sumB bl row a).size = z := by
  intro row
  induction row with
  | nil => intro a _ ha; exact ha
  | cons x row ih =>
    intro a hr ha
    have hx := hr x List.mem_cons_self
    have hlt : x.toNat < bl.length := by omega
    have hs := hb _ (List.getElem_mem hlt)
    rw [← getD_lt hlt ⟨#[]⟩] at hs
    exact ih (xorB a (bl.getD x.toNat ⟨#[]⟩)) (fun y hy => hr y (List.mem_cons_of_mem _ hy)) (by rw [xorB_size _ _ (by omega)]; exact ha)
theorem solvL_ok (b : List Int) {tr : List ByteArray} (h : trOk tr = true) : ∀ (n : Nat) (p : Int) (es : List Eqn), SolverP tr.length (tr.getD 0 ⟨#[]⟩).size es → SolverP tr.length (tr.getD 0 ⟨#[]⟩).size (solvL b tr tr.length (tr.getD 0 ⟨#[]⟩).size n p es) := by
  obtain ⟨⟨l1, l2, z1, z2⟩, hs⟩ := trOk_of h
  intro n
  induction n with
  | zero => exact fun p es hS => hS
  | succ n ih =>
    intro p es hS
    have hr := rowD_row b p tr.length l2
    exact ih _ _ (add_ok hS hr (by rw [sumB_size hs _ _ (fun x hx => ⟨(hr.2.2.2 x hx).1, (hr.2.2.2 x hx).2⟩) (zerosB_size _)]))
theorem solvD_ok (b : List Int) (p : Int) {tr : List ByteArray} (h : trOk tr = true) : SolverP tr.length (tr.getD 0 ⟨#[]⟩).size (solvD b p tr) := by
  obtain ⟨⟨l1, l2, z1, z2⟩, hs⟩ := trOk_of h
  exact solvL_ok b h _ _ _ (solver_nil ⟨by omega, by omega⟩ ⟨by omega, by omega⟩)
theorem solvP_in {b : List Int} {p : Int} {tr : List ByteArray} (h : rdOk b p = true) (ht : trOk tr = true) : p + 1 ≤ solvP b p tr ∧ solvP b p tr ≤ p + 300 := by
  have hp := (pick_eq (n := 12) h).2
  have h1 := hp.1
  have h2 := hp.2.1 (by omega)
  have hl := (trOk_of ht).1
  have a1 : pickV b p 12 * tr.length ≤ 12 * 24 := Int.mul_le_mul (by omega) (by omega) (by omega) (by omega)
  have a2 : 0 ≤ pickV b p 12 * tr.length := Int.mul_nonneg h1 (by omega)
  unfold solvP
  omega
theorem K_spec_l15Solver : Sound1 Try.prog EKs F_spec_l15Solver.f S_spec_l15Solver := snd ok_spec_l15Solver [(F_spec_SolverNew.f, S_spec_SolverNew), (F_spec_l1Rd_pick.f, S_spec_l1Rd_pick), (F_spec_l15Row.f, S_spec_l15Row), (F_spec_l3Add.f, S_spec_l3Add), (F_spec_l2Sum.f, S_spec_l2Sum)] (tabF_cons K_spec_SolverNew (tabF_cons K_spec_l1Rd_pick (tabF_cons K_spec_l15Row (tabF_cons K_spec_l3Add (tabF_cons K_spec_l2Sum (tabF_nil _ _)))))) fun args sp h hp => by
  unfold S_spec_l15Solver at h
  split at h
  · rename_i b p tr
    cases h
    simp only [Bool.and_eq_true, decide_eq_true_eq] at hp
    obtain ⟨h1, ht, h2⟩ := hp
    obtain ⟨⟨l1, l2, z1, z2⟩, hs⟩ := trOk_of ht
    have hpk := (pick_eq (n := 12) h1).2
    have k0 := hpk.1
    have k1 := hpk.2.1 (by omega)
    have p0 := (rdOk_of h1).1.2.1
    have hbig := solvP_in h1 ht
    refine ⟨rfl, 13, (spec_l15Solver_run _ _ _ _).trans ?_⟩
    unfold spec_l15Solver_T
    simp only [Bool.cond_eq_ite, decide_eq_true_eq]
    rw [if_pos (by omega), if_pos ⟨⟨by omega, by omega⟩, by omega, by omega⟩, if_pos h1]
    unfold solvP at hbig
    unfold solvD solvP
    generalize pickV b p 12 = n at *
    refine (fix10 (T := fun k => spec_l15Solver_T3 k) (fun m tr' c z es x y b' q r0 => tr' = tr ∧ c = tr.length ∧ z = (tr.getD 0 ⟨#[]⟩).size ∧ b' = b ∧ (0 ≤ m ∧ m ≤ n) ∧ q = p + 1 + (n - m) * tr.length ∧ SolverP c z es) (fun m _ _ _ _ _ _ _ _ _ => m.toNat) (fun m tr' c z es x y b' q r0 => ([So tr.length (tr.getD 0 ⟨#[]⟩).size (solvL b tr tr.length (tr.getD 0 ⟨#[]⟩).size m.toNat q es)], [rdC b (p + 1 + n * tr.length)])) ?_ _ _ _ _ _ _ _ _ _ _ _ ⟨rfl, rfl, rfl, rfl, ⟨k0, Int.le_refl _⟩, by rw [Int.sub_self, Int.zero_mul]; omega, solver_nil ⟨by omega, by omega⟩ ⟨by omega, by omega⟩⟩ (by omega))
    rintro m tr' c z es x y b' q r0 K ⟨rfl, rfl, rfl, rfl, ⟨q0, q1⟩, rfl, hS⟩ hK
    unfold spec_l15Solver_T3
    simp only [Bool.cond_eq_ite, decide_eq_true_eq, Bool.and_eq_true, List.all_eq_true]
    simp only [Int.toNat_natCast, Int.toNat_zero]
    have g1 : (n - m) * (tr'.length : Int) ≤ n * tr'.length := Int.mul_le_mul_of_nonneg_right (by omega) (by omega)
    have g0 : 0 ≤ (n - m) * (tr'.length : Int) := Int.mul_nonneg (by omega) (by omega)
    by_cases hm : m > 0
    · have em : m.toNat = (m - 1).toNat + 1 := by omega
      have e1 : (n - (m - 1)) * (tr'.length : Int) = (n - m) * tr'.length + tr'.length := by rw [show n - (m - 1) = (n - m) + 1 by omega, Int.add_mul, Int.one_mul]
      have hr := rowD_row b' (p + 1 + (n - m) * tr'.length) tr'.length l2
      have hrl := rowP_short hr
      have hsz := sumB_size hs _ (zerosB (tr'.getD 0 ⟨#[]⟩).size) (fun x hx => ⟨(hr.2.2.2 x hx).1, (hr.2.2.2 x hx).2⟩) (zerosB_size _)
      rw [if_pos hm, if_pos ⟨rdOk_mk h1 (by omega) (by omega), rdOk_mk h1 (by omega) (by omega), by omega, by omega⟩, if_pos (by omega),
        if_pos ⟨⟨by omega, by omega, by omega⟩, fun x hx => by rw [hs x hx], fun x hx => ⟨(hr.2.2.2 x hx).1, (hr.2.2.2 x hx).2⟩⟩,
        if_pos ⟨solvB_iff.2 hS, hr, by rw [hsz]⟩, w64 (by omega) (by omega), em]
      rw [hK _ _ _ _ _ _ _ _ _ _ ⟨rfl, rfl, rfl, rfl, ⟨by omega, by omega⟩, by rw [e1]; omega, add_ok hS hr (by rw [hsz])⟩ (by omega)]
      rfl
    · rw [if_neg hm, show m = 0 by omega, Int.sub_zero]; rfl
  · cases h
end Go.Proofs.Ytbolcmcjniiieaa.V
