/- What functions come to, and that they do so; conditions: those that each theorem states. -/
import Derived.Test.YthcahoeoofggjaaDeg1G
set_option linter.unusedVariables false
set_option linter.unusedSimpArgs false
namespace Go.Proofs.Ythcahoeoofggjaa.V
open Go Vx Vx.N
/-! ### What is known of a thing -/
theorem getB_iff {L Z : Int} {W G : List Int} {c z : Int} {es : List Eqn} : getB L Z W G c z es = true ↔ PlanP L Z W G ∧ SolverP c z es ∧ c = cnt L Z ∧ z = Z := by
  unfold getB
  rw [Bool.and_eq_true, Bool.and_eq_true, planB_iff, solvB_iff, decide_eq_true_eq, and_assoc]
theorem plan_num {L Z : Int} {W G : List Int} (h : PlanP L Z W G) : 1 ≤ Z ∧ Z ≤ 16 ∧ 0 ≤ L ∧ L < 1000 := ⟨h.2.1.1, h.2.1.2, by have := h.1; omega, by have := h.1; omega⟩
theorem getOk_body {L Z : Int} {W G : List Int} {c z : Int} {es : List Eqn} (hp : smG W G es = true) :
    cond (sm W.length && sm G.length) (cond (planB L Z W G) (cond (smE es) (cond (solvB c z es) (cond (decide (1 ≤ Z ∧ Z ≤ 16 ∧ 0 ≤ L ∧ L < 1000)) (cond (c == cnt L Z) (some ([B (z == Z)], [])) (some ([B false], []))) none) (some ([B false], []))) none) (some ([B false], []))) none = (some ([B (getB L Z W G c z es)], []) : Rs) := by
  simp only [Bool.and_eq_true] at hp
  obtain ⟨⟨h1, h2⟩, h3⟩ := hp
  unfold getB
  rw [h1, h2, h3]
  cases hb : planB L Z W G with
  | false => rfl
  | true =>
    cases hs : solvB c z es with
    | false => rfl
    | true =>
      rw [decide_eq_true (plan_num (planB_iff.1 hb))]
      by_cases e1 : c = cnt L Z
      · subst e1
        by_cases e2 : z = Z
        · subst e2; simp
        · rw [beq_eq_false_iff_ne.2 e2]; simp [e2]
      · rw [beq_eq_false_iff_ne.2 e1]; simp [e1]
theorem K_spec_GetOk : Sound1 Try.prog EKs F_spec_GetOk.f S_spec_GetOk := snd ok_spec_GetOk [(F_spec_PlanOk.f, S_spec_PlanOk), (F_spec_SolverOk.f, S_spec_SolverOk), (F_spec_l5Count.f, S_spec_l5Count)] (tabF_cons K_spec_PlanOk (tabF_cons K_spec_SolverOk (tabF_cons K_spec_l5Count (tabF_nil _ _)))) fun args sp h hp => by
  unfold S_spec_GetOk at h
  split at h
  · cases h
    exact ⟨rfl, 0, (spec_GetOk_run _ _ _ _ _ _ _ _).trans (getOk_body hp)⟩
  · cases h
theorem K_impl_GetOk : Sound1 Try.prog EKs F_impl_GetOk.f S_impl_GetOk := snd ok_impl_GetOk [(F_impl_PlanOk.f, S_impl_PlanOk), (F_impl_SolverOk.f, S_impl_SolverOk), (F_impl_Plan_count.f, S_impl_Plan_count)] (tabF_cons K_impl_PlanOk (tabF_cons K_impl_SolverOk (tabF_cons K_impl_Plan_count (tabF_nil _ _)))) fun args sp h hp => by
  unfold S_impl_GetOk S_spec_GetOk at h
  split at h
  · cases h
    exact ⟨rfl, 0, (impl_GetOk_run _ _ _ _ _ _ _ _).trans (getOk_body hp)⟩
  · cases h
theorem K_spec_GetNew : Sound1 Try.prog EKs F_spec_GetNew.f S_spec_GetNew := snd ok_spec_GetNew [(F_spec_PlanOk.f, S_spec_PlanOk), (F_spec_l6Plan.f, S_spec_l6Plan), (F_spec_SolverNew.f, S_spec_SolverNew), (F_spec_l5Count.f, S_spec_l5Count)] (tabF_cons K_spec_PlanOk (tabF_cons K_spec_l6Plan (tabF_cons K_spec_SolverNew (tabF_cons K_spec_l5Count (tabF_nil _ _))))) fun args sp h hp => by
  unfold S_spec_GetNew at h
  split at h
  · rename_i L Z W G
    cases h
    have hp : (sm W.length && sm G.length) = true := hp
    refine ⟨rfl, 0, (spec_GetNew_run _ _ _ _ _).trans ?_⟩
    unfold spec_GetNew_T newG
    rw [hp]
    cases hb : planB L Z W G with
    | false => rfl
    | true =>
      have hP := planB_iff.1 hb
      rw [decide_eq_true (plan_num hP), decide_eq_true (⟨hP.2.2.1, hP.2.1⟩ : (1 ≤ cnt L Z ∧ cnt L Z ≤ 24) ∧ 1 ≤ Z ∧ Z ≤ 16)]; rfl
  · cases h
theorem K_impl_GetNew : Sound1 Try.prog EKs F_impl_GetNew.f S_impl_GetNew := snd ok_impl_GetNew [(F_impl_PlanOk.f, S_impl_PlanOk), (F_impl_clonePlan.f, S_impl_clonePlan), (F_impl_SolverNew.f, S_impl_SolverNew), (F_impl_Plan_count.f, S_impl_Plan_count)] (tabF_cons K_impl_PlanOk (tabF_cons K_impl_clonePlan (tabF_cons K_impl_SolverNew (tabF_cons K_impl_Plan_count (tabF_nil _ _))))) fun args sp h hp => by
  unfold S_impl_GetNew S_spec_GetNew at h
  split at h
  · rename_i L Z W G
    cases h
    have hp : (sm W.length && sm G.length) = true := hp
    refine ⟨rfl, 0, (impl_GetNew_run _ _ _ _ _).trans ?_⟩
    unfold impl_GetNew_T newG
    rw [hp]
    cases hb : planB L Z W G with
    | false => rfl
    | true =>
      have hP := planB_iff.1 hb
      rw [decide_eq_true (plan_num hP), decide_eq_true (⟨hP.2.2.1, hP.2.1⟩ : (1 ≤ cnt L Z ∧ cnt L Z ≤ 24) ∧ 1 ≤ Z ∧ Z ≤ 16)]; rfl
  · cases h
theorem smG_of {W G : List Int} {es : List Eqn} (h : smG W G es = true) : (sm W.length && sm G.length) = true ∧ smE es = true := by
  rw [smG, Bool.and_eq_true] at h
  exact h
theorem K_spec_l6Copy : Sound1 Try.prog EKs F_spec_l6Copy.f S_spec_l6Copy := snd ok_spec_l6Copy [(F_spec_l6Plan.f, S_spec_l6Plan), (F_spec_l3Copy.f, S_spec_l3Copy)] (tabF_cons K_spec_l6Plan (tabF_cons K_spec_l3Copy (tabF_nil _ _))) fun args sp h hp => by
  unfold S_spec_l6Copy at h
  split at h
  · cases h
    obtain ⟨h1, h2⟩ := smG_of hp
    refine ⟨rfl, 0, (spec_l6Copy_run _ _ _ _ _ _ _ _).trans ?_⟩
    unfold spec_l6Copy_T
    rw [h1, h2]; rfl
  · cases h
theorem K_impl_cloneGet : Sound1 Try.prog EKs F_impl_cloneGet.f S_impl_cloneGet := snd ok_impl_cloneGet [(F_impl_clonePlan.f, S_impl_clonePlan), (F_impl_cloneSolver.f, S_impl_cloneSolver)] (tabF_cons K_impl_clonePlan (tabF_cons K_impl_cloneSolver (tabF_nil _ _))) fun args sp h hp => by
  unfold S_impl_cloneGet S_spec_l6Copy at h
  split at h
  · cases h
    obtain ⟨h1, h2⟩ := smG_of hp
    refine ⟨rfl, 0, (impl_cloneGet_run _ _ _ _ _ _ _ _).trans ?_⟩
    unfold impl_cloneGet_T
    rw [h1, h2]; rfl
  · cases h
theorem K_spec_GetAdd : Sound1 Try.prog EKs F_spec_GetAdd.f S_spec_GetAdd := snd ok_spec_GetAdd [(F_spec_GetOk.f, S_spec_GetOk), (F_spec_l6Copy.f, S_spec_l6Copy), (F_spec_l1In.f, S_spec_l1In), (F_spec_l3Add.f, S_spec_l3Add), (F_spec_l5Row.f, S_spec_l5Row)]
    (tabF_cons K_spec_GetOk (tabF_cons K_spec_l6Copy (tabF_cons K_spec_l1In (tabF_cons K_spec_l3Add (tabF_cons K_spec_l5Row (tabF_nil _ _)))))) fun args sp h hp => by
  unfold S_spec_GetAdd at h
  split at h
  · rename_i L Z W G c z es id t
    cases h
    have hp : smG W G es = true := hp
    refine ⟨rfl, 0, (spec_GetAdd_run _ _ _ _ _ _ _ _ _ _).trans ?_⟩
    unfold spec_GetAdd_T addG
    rw [hp]
    cases hb : getB L Z W G c z es with
    | false => rfl
    | true =>
      obtain ⟨hP, hS, rfl, rfl⟩ := getB_iff.1 hb
      cases hd : inB id 0 9999 with
      | false => rfl
      | true =>
        by_cases ht : (t.size : Int) = z
        · have hid := inB_of.1 hd
          have hr := rowPl_ok hP hid.1
          have hne : ((t.size : Int) != z) = false := by rw [ht]; simp
          rw [hne, decide_eq_true ht, planB_iff.2 hP, solvB_iff.2 hS, decide_eq_true hid, decide_eq_true (⟨hr.1, ht⟩ : RowP (rowPl L z W G id) (cnt L z) ∧ (t.size : Int) = z)]; rfl
        · rw [decide_eq_false ht, bne_iff_ne.2 ht]; rfl
  · cases h
theorem K_impl_GetAdd : Sound1 Try.prog EKs F_impl_GetAdd.f S_impl_GetAdd := snd ok_impl_GetAdd [(F_impl_GetOk.f, S_impl_GetOk), (F_impl_cloneGet.f, S_impl_cloneGet), (F_impl_within.f, S_impl_within), (F_impl_Solver_add.f, S_impl_Solver_add), (F_impl_PlanRow.f, S_impl_PlanRow)]
    (tabF_cons K_impl_GetOk (tabF_cons K_impl_cloneGet (tabF_cons K_impl_within (tabF_cons K_impl_Solver_add (tabF_cons K_impl_PlanRow (tabF_nil _ _)))))) fun args sp h hp => by
  unfold S_impl_GetAdd S_spec_GetAdd at h
  split at h
  · rename_i L Z W G c z es id t
    cases h
    have hp : smG W G es = true := hp
    refine ⟨rfl, 0, (impl_GetAdd_run _ _ _ _ _ _ _ _ _ _).trans ?_⟩
    unfold impl_GetAdd_T addG
    rw [hp, (smG_of hp).1, rowPS_sm]
    cases hb : getB L Z W G c z es with
    | false => rfl
    | true =>
      obtain ⟨hP, hS, rfl, rfl⟩ := getB_iff.1 hb
      cases hd : inB id 0 9999 with
      | false => rfl
      | true =>
        by_cases ht : (t.size : Int) = z
        · have hid := inB_of.1 hd
          have hr := rowPl_ok hP hid.1
          have hne : ((t.size : Int) != z) = false := by rw [ht]; simp
          have hrs : rowPS L z W G id = rowPl L z W G id := by unfold rowPS; rw [planB_iff.2 hP, hd]; rfl
          have hai : addI (cnt L z) z es (rowPl L z W G id) t = addE z es (rowPl L z W G id) t := by rw [addI_eq, if_pos ⟨hr.1, ht⟩]
          rw [hne, decide_eq_true ht, solvB_iff.2 hS, hrs, hai]; rfl
        · rw [decide_eq_false ht, bne_iff_ne.2 ht]; rfl
  · cases h
theorem winK_ge : ∀ (W : List Int) (k : Int), winK W k ≤ W.length
  | [], _ => Nat.le_refl _
  | w :: W, k => by
    unfold winK
    have := winK_ge W k
    split <;> rw [List.length_cons] <;> omega
theorem winK_drop (W : List Int) (k : Int) (i : Nat) (h : i < W.length) (hi : ∀ j, j < i → W.getD j 0 ≤ k) : winK W k = i + winK (W.drop i) k := by
  induction i generalizing W with
  | zero => simp
  | succ i ih =>
    cases W with
    | nil => simp at h
    | cons w W =>
      have h0 : w ≤ k := hi 0 (by omega)
      rw [show winK (w :: W) k = winK W k + 1 from if_pos h0, ih W (by simpa using h) (fun j hj => hi (j + 1) (by omega)), List.drop_succ_cons]
      omega
theorem winK_eq {W : List Int} {k : Int} {i : Nat} (h : i ≤ W.length) (hi : ∀ j, j < i → W.getD j 0 ≤ k) (hn : i < W.length → ¬ W.getD i 0 ≤ k) : winK W k = i := by
  induction i generalizing W with
  | zero =>
    cases W with
    | nil => rfl
    | cons w W => exact if_neg (hn (by simp))
  | succ i ih =>
    cases W with
    | nil => simp at h
    | cons w W =>
      have h0 : w ≤ k := hi 0 (by omega)
      rw [show winK (w :: W) k = winK W k + 1 from if_pos h0, ih (by simpa using h) (fun j hj => hi (j + 1) (by omega)) (fun hl => hn (by simpa using hl))]
theorem K_impl_Getting_windows : Sound1 Try.prog EKs F_impl_Getting_windows.f S_impl_Getting_windows := snd ok_impl_Getting_windows [(F_impl_Solver_prefix.f, S_impl_Solver_prefix)] (tabF_cons K_impl_Solver_prefix (tabF_nil _ _)) fun args sp h hp => by
  unfold S_impl_Getting_windows at h
  split at h
  · rename_i L Z W G c z es
    cases h
    simp only [Bool.and_eq_true, decide_eq_true_eq] at hp
    obtain ⟨hw, hs⟩ := hp
    refine ⟨rfl, W.length + 1, (impl_Getting_windows_run _ _ _ _ _ _ _ _).trans ?_⟩
    refine fix8 (T := fun k => impl_Getting_windows_T2 k) (fun n L' Z' W' G' c' z' es' => (L' = L ∧ Z' = Z ∧ W' = W ∧ G' = G ∧ c' = c ∧ z' = z ∧ es' = es) ∧ (0 ≤ n ∧ n ≤ W.length) ∧ ∀ j, j < n.toNat → W.getD j 0 ≤ (prefE es : Nat)) (fun n _ _ _ _ _ _ _ => (W.length - n).toNat) (fun _ _ _ _ _ _ _ _ => ([I (winK W (prefE es : Nat) : Nat)], [])) ?_ _ _ _ _ _ _ _ _ _ ⟨⟨rfl, rfl, rfl, rfl, rfl, rfl, rfl⟩, ⟨by omega, by omega⟩, fun j hj => by rw [Int.toNat_zero] at hj; omega⟩ (by omega)
    intro n L' Z' W' G' c' z' es' K hI hK
    obtain ⟨⟨e1, e2, e3, e4, e5, e6, e7⟩, ⟨q0, q1⟩, q2⟩ := hI
    rw [e1, e2, e3, e4, e5, e6, e7]
    unfold impl_Getting_windows_T2
    simp only [Bool.cond_eq_ite, decide_eq_true_eq]
    by_cases hn : n < (W.length : Int)
    · rw [if_pos hn, if_pos q0, if_pos hn, if_pos hs]
      by_cases hk : W.getD n.toNat 0 ≤ (prefE es : Nat)
      · rw [if_pos hk, w64i q0 (by omega)]
        refine hK _ _ _ _ _ _ _ _ ⟨⟨rfl, rfl, rfl, rfl, rfl, rfl, rfl⟩, ⟨by omega, by omega⟩, fun j hj => ?_⟩ (by omega)
        by_cases e : j = n.toNat
        · rw [e]; exact hk
        · exact q2 j (by omega)
      · rw [if_neg hk, winK_eq (i := n.toNat) (by omega) q2 fun _ => hk, Int.toNat_of_nonneg q0]
    · rw [if_neg hn, winK_eq (i := n.toNat) (by omega) q2 fun h => by omega, Int.toNat_of_nonneg q0]
  · cases h
theorem K_impl_GetWindows : Sound1 Try.prog EKs F_impl_GetWindows.f S_impl_GetWindows := snd ok_impl_GetWindows [(F_impl_GetOk.f, S_impl_GetOk), (F_impl_Getting_windows.f, S_impl_Getting_windows)] (tabF_cons K_impl_GetOk (tabF_cons K_impl_Getting_windows (tabF_nil _ _))) fun args sp h hp => by
  unfold S_impl_GetWindows at h
  split at h
  · rename_i L Z W G c z es
    cases h
    have hp : smG W G es = true := hp
    refine ⟨rfl, 0, (impl_GetWindows_run _ _ _ _ _ _ _ _).trans ?_⟩
    unfold impl_GetWindows_T windS
    rw [hp]
    cases hb : getB L Z W G c z es with
    | false => rfl
    | true =>
      have h1 := (smG_of hp).1
      rw [Bool.and_eq_true] at h1
      rw [h1.1, solvB_iff.2 (getB_iff.1 hb).2.1]; rfl
  · cases h
theorem beq_dec (a b : Int) : (a == b) = decide (a = b) := by
  by_cases h : a = b
  · rw [decide_eq_true h, h]; simp
  · rw [decide_eq_false h]; exact beq_eq_false_iff_ne.2 h
theorem K_impl_Getting_done : Sound1 Try.prog EKs F_impl_Getting_done.f S_impl_Getting_done := snd ok_impl_Getting_done [(F_impl_Solver_prefix.f, S_impl_Solver_prefix)] (tabF_cons K_impl_Solver_prefix (tabF_nil _ _)) fun args sp h hp => by
  unfold S_impl_Getting_done at h
  split at h
  · rename_i L Z W G c z es
    cases h
    have hp : solvB c z es = true := hp
    refine ⟨rfl, 0, (impl_Getting_done_run _ _ _ _ _ _ _ _).trans ?_⟩
    unfold impl_Getting_done_T
    rw [hp, beq_dec]; rfl
  · cases h
theorem K_impl_GetDone : Sound1 Try.prog EKs F_impl_GetDone.f S_impl_GetDone := snd ok_impl_GetDone [(F_impl_GetOk.f, S_impl_GetOk), (F_impl_Getting_done.f, S_impl_Getting_done)] (tabF_cons K_impl_GetOk (tabF_cons K_impl_Getting_done (tabF_nil _ _))) fun args sp h hp => by
  unfold S_impl_GetDone at h
  split at h
  · rename_i L Z W G c z es
    cases h
    have hp : smG W G es = true := hp
    refine ⟨rfl, 0, (impl_GetDone_run _ _ _ _ _ _ _ _).trans ?_⟩
    unfold impl_GetDone_T doneS
    rw [hp]
    cases hb : getB L Z W G c z es with
    | false => rfl
    | true => rw [solvB_iff.2 (getB_iff.1 hb).2.1]; rfl
  · cases h
theorem textE_size {c z : Int} {es : List Eqn} (hS : SolverP c z es) : ∀ n : Nat, n ≤ prefE es → ((textE es n).size : Int) = n * z
  | 0, _ => by show ((0 : Nat) : Int) = 0 * z; omega
  | n + 1, h => by
    have hg := (pref_ok hS).1 n (by omega)
    obtain ⟨e, he, _, h2⟩ := getE_some hg
    have hm := ((sol_of hS).mm e he).t
    have ih := textE_size hS n (by omega)
    show ((textE es n ++ (getE es (n : Nat)).1).size : Int) = _
    rw [ByteArray.size_append, h2, Int.natCast_add, ih, hm, Int.natCast_add, Int.add_mul]
    omega
theorem K_impl_GetText : Sound1 Try.prog EKs F_impl_GetText.f S_impl_GetText := snd ok_impl_GetText [(F_impl_GetOk.f, S_impl_GetOk), (F_impl_Solver_prefix.f, S_impl_Solver_prefix), (F_impl_Solver_get.f, S_impl_Solver_get)] (tabF_cons K_impl_GetOk (tabF_cons K_impl_Solver_prefix (tabF_cons K_impl_Solver_get (tabF_nil _ _)))) fun args sp h hp => by
  unfold S_impl_GetText at h
  split at h
  · rename_i L Z W G c z es
    cases h
    have hp : smG W G es = true := hp
    refine ⟨rfl, 30, (impl_GetText_run _ _ _ _ _ _ _ _).trans ?_⟩
    unfold impl_GetText_T textS
    rw [hp]
    cases hb : getB L Z W G c z es with
    | false => rfl
    | true =>
      obtain ⟨hP, hS, _, _⟩ := getB_iff.1 hb
      have hse := (smG_of hp).2
      have hpo := pref_ok hS
      have hc := hS.1
      have hz := hS.2.1
      have hL := hP.1
      have hbound : ∀ n : Nat, n ≤ prefE es → (textE es n).size ≤ 400 := fun n hn => by
        have h1 := textE_size hS n hn
        have h2 : (n : Int) * z ≤ 24 * 16 := Int.mul_le_mul (by omega) hz.2 (by omega) (by omega)
        omega
      rw [solvB_iff.2 hS]
      show impl_GetText_W5 30 30 (0, (prefE es : Nat), ⟨#[]⟩, L, Z, W, G, c, z, es) = _
      refine fix10 (T := fun k => impl_GetText_T5 k) (fun i n out L' Z' W' G' c' z' es' => (n = (prefE es : Nat) ∧ L' = L ∧ Z' = Z ∧ W' = W ∧ G' = G ∧ c' = c ∧ z' = z ∧ es' = es) ∧ (0 ≤ i ∧ i ≤ (prefE es : Nat)) ∧ out = textE es i.toNat) (fun i _ _ _ _ _ _ _ _ _ => ((prefE es : Nat) - i).toNat) (fun _ _ _ _ _ _ _ _ _ _ => ([T ((textE es (prefE es)).extract 0 (min (textE es (prefE es)).size L.toNat))], [])) ?_ _ _ _ _ _ _ _ _ _ _ _ ⟨⟨rfl, rfl, rfl, rfl, rfl, rfl, rfl, rfl⟩, ⟨by omega, by omega⟩, rfl⟩ (by omega)
      intro i n out L' Z' W' G' c' z' es' K hI hK
      obtain ⟨⟨e0, e1, e2, e3, e4, e5, e6, e7⟩, ⟨q0, q1⟩, q2⟩ := hI
      rw [e0, e1, e2, e3, e4, e5, e6, e7, q2]
      unfold impl_GetText_T5
      simp only [Bool.cond_eq_ite, decide_eq_true_eq]
      by_cases hi : i < (prefE es : Nat)
      · have hb1 := hbound (i.toNat + 1) (by omega)
        have hsz : (textE es (i.toNat + 1)).size = (textE es i.toNat).size + (getE es i).1.size := by
          show (textE es i.toNat ++ (getE es (i.toNat : Nat)).1).size = _
          rw [ByteArray.size_append, Int.toNat_of_nonneg q0]
        rw [if_pos hi, if_pos hse, if_pos (by omega), w64i q0 (by omega)]
        refine hK _ _ _ _ _ _ _ _ _ _ ⟨⟨rfl, rfl, rfl, rfl, rfl, rfl, rfl, rfl⟩, ⟨by omega, by omega⟩, ?_⟩ (by omega)
        rw [toNat_succ q0]
        show _ = textE es i.toNat ++ (getE es (i.toNat : Nat)).1
        rw [Int.toNat_of_nonneg q0]
      · have ei : i.toNat = prefE es := by omega
        rw [if_neg hi, ei]
        have hm : (if L < ((textE es (prefE es)).size : Int) then L else ((textE es (prefE es)).size : Int)).toNat = min (textE es (prefE es)).size L.toNat := by split <;> omega
        rw [hm, if_pos (by split <;> omega), if_pos (by split <;> omega)]
  · cases h
theorem K_laws_whPlan : Sound1 Try.prog EKs F_laws_whPlan.f S_laws_whPlan := snd ok_laws_whPlan [(F_laws_whInts.f, S_laws_whInts)] (tabF_cons K_laws_whInts (tabF_nil _ _)) fun args sp h hp => by
  unfold S_laws_whPlan at h
  split at h
  · rename_i L Z W G L' Z' W' G'
    cases h
    have hp : (sm W.length && sm G.length) = true := hp
    rw [Bool.and_eq_true] at hp
    refine ⟨rfl, 0, (laws_whPlan_run _ _ _ _ _ _ _ _ _).trans ?_⟩
    unfold laws_whPlan_T
    rw [hp.1, hp.2, beq_dec, beq_dec]
    by_cases h1 : L = L'
    rotate_left
    · rw [decide_eq_false h1, decide_eq_false (show ¬ ((L, Z, W, G) = (L', Z', W', G')) from fun H => h1 (congrArg (fun x : Int × Int × List Int × List Int => x.1) H))]; rfl
    by_cases h2 : Z = Z'
    rotate_left
    · rw [decide_eq_true h1, decide_eq_false h2, decide_eq_false (show ¬ ((L, Z, W, G) = (L', Z', W', G')) from fun H => h2 (congrArg (fun x : Int × Int × List Int × List Int => x.2.1) H))]; rfl
    by_cases h3 : W = W'
    rotate_left
    · rw [decide_eq_true h1, decide_eq_true h2, decide_eq_false h3, decide_eq_false (show ¬ ((L, Z, W, G) = (L', Z', W', G')) from fun H => h3 (congrArg (fun x : Int × Int × List Int × List Int => x.2.2.1) H))]; rfl
    subst h1 h2 h3
    rw [decide_eq_true rfl, decide_eq_true rfl, decide_eq_true rfl]
    by_cases h4 : G = G'
    · subst h4; rw [decide_eq_true rfl, decide_eq_true rfl]; rfl
    · rw [decide_eq_false h4, decide_eq_false (show ¬ ((L, Z, W, G) = (L, Z, W, G')) from fun H => h4 (congrArg (fun x : Int × Int × List Int × List Int => x.2.2.2) H))]; rfl
  · cases h
theorem K_laws_whGetting : Sound1 Try.prog EKs F_laws_whGetting.f S_laws_whGetting := snd ok_laws_whGetting [(F_laws_whPlan.f, S_laws_whPlan), (F_laws_whSolver.f, S_laws_whSolver)] (tabF_cons K_laws_whPlan (tabF_cons K_laws_whSolver (tabF_nil _ _))) fun args sp h hp => by
  unfold S_laws_whGetting at h
  split at h
  · rename_i L Z W G c z es L' Z' W' G' c' z' es'
    cases h
    obtain ⟨h1, h2⟩ := smG_of hp
    refine ⟨rfl, 0, (laws_whGetting_run _ _ _ _ _ _ _ _ _ _ _ _ _ _ _).trans ?_⟩
    unfold laws_whGetting_T
    rw [h1, h2]
    cases decide ((L, Z, W, G) = (L', Z', W', G')) <;> rfl
  · cases h
end Go.Proofs.Ythcahoeoofggjaa.V
namespace Go.Proofs.Ythcahoeoofggjaa.V
open Go Vx Vx.N
/-! ### What is told of a thing is true of it -/
theorem fix13 {A0 A1 A2 A3 A4 A5 A6 A7 A8 A9 A10 A11 A12 R : Type} {T : (A0 × A1 × A2 × A3 × A4 × A5 × A6 × A7 × A8 × A9 × A10 × A11 × A12 → Option R) → A0 × A1 × A2 × A3 × A4 × A5 × A6 × A7 × A8 × A9 × A10 × A11 × A12 → Option R} (Inv : A0 → A1 → A2 → A3 → A4 → A5 → A6 → A7 → A8 → A9 → A10 → A11 → A12 → Prop) (μ : A0 → A1 → A2 → A3 → A4 → A5 → A6 → A7 → A8 → A9 → A10 → A11 → A12 → Nat) (r : A0 → A1 → A2 → A3 → A4 → A5 → A6 → A7 → A8 → A9 → A10 → A11 → A12 → R)
    (h : ∀ a0 a1 a2 a3 a4 a5 a6 a7 a8 a9 a10 a11 a12 K, Inv a0 a1 a2 a3 a4 a5 a6 a7 a8 a9 a10 a11 a12 → (∀ b0 b1 b2 b3 b4 b5 b6 b7 b8 b9 b10 b11 b12, Inv b0 b1 b2 b3 b4 b5 b6 b7 b8 b9 b10 b11 b12 → μ b0 b1 b2 b3 b4 b5 b6 b7 b8 b9 b10 b11 b12 < μ a0 a1 a2 a3 a4 a5 a6 a7 a8 a9 a10 a11 a12 → K (b0, b1, b2, b3, b4, b5, b6, b7, b8, b9, b10, b11, b12) = some (r b0 b1 b2 b3 b4 b5 b6 b7 b8 b9 b10 b11 b12)) → T K (a0, a1, a2, a3, a4, a5, a6, a7, a8, a9, a10, a11, a12) = some (r a0 a1 a2 a3 a4 a5 a6 a7 a8 a9 a10 a11 a12)) (m : Nat) (a0 a1 a2 a3 a4 a5 a6 a7 a8 a9 a10 a11 a12) (hi : Inv a0 a1 a2 a3 a4 a5 a6 a7 a8 a9 a10 a11 a12) (hm : μ a0 a1 a2 a3 a4 a5 a6 a7 a8 a9 a10 a11 a12 < m) : fixL T m (a0, a1, a2, a3, a4, a5, a6, a7, a8, a9, a10, a11, a12) = some (r a0 a1 a2 a3 a4 a5 a6 a7 a8 a9 a10 a11 a12) :=
  fixL_ok (fun | (a0, a1, a2, a3, a4, a5, a6, a7, a8, a9, a10, a11, a12) => Inv a0 a1 a2 a3 a4 a5 a6 a7 a8 a9 a10 a11 a12) (fun | (a0, a1, a2, a3, a4, a5, a6, a7, a8, a9, a10, a11, a12) => μ a0 a1 a2 a3 a4 a5 a6 a7 a8 a9 a10 a11 a12) (fun | (a0, a1, a2, a3, a4, a5, a6, a7, a8, a9, a10, a11, a12) => r a0 a1 a2 a3 a4 a5 a6 a7 a8 a9 a10 a11 a12) (fun | (a0, a1, a2, a3, a4, a5, a6, a7, a8, a9, a10, a11, a12), K, hi, hK => h a0 a1 a2 a3 a4 a5 a6 a7 a8 a9 a10 a11 a12 K hi fun b0 b1 b2 b3 b4 b5 b6 b7 b8 b9 b10 b11 b12 hj hlt => hK (b0, b1, b2, b3, b4, b5, b6, b7, b8, b9, b10, b11, b12) hj hlt) m (a0, a1, a2, a3, a4, a5, a6, a7, a8, a9, a10, a11, a12) hi hm
theorem fix14 {A0 A1 A2 A3 A4 A5 A6 A7 A8 A9 A10 A11 A12 A13 R : Type} {T : (A0 × A1 × A2 × A3 × A4 × A5 × A6 × A7 × A8 × A9 × A10 × A11 × A12 × A13 → Option R) → A0 × A1 × A2 × A3 × A4 × A5 × A6 × A7 × A8 × A9 × A10 × A11 × A12 × A13 → Option R} (Inv : A0 → A1 → A2 → A3 → A4 → A5 → A6 → A7 → A8 → A9 → A10 → A11 → A12 → A13 → Prop) (μ : A0 → A1 → A2 → A3 → A4 → A5 → A6 → A7 → A8 → A9 → A10 → A11 → A12 → A13 → Nat) (r : A0 → A1 → A2 → A3 → A4 → A5 → A6 → A7 → A8 → A9 → A10 → A11 → A12 → A13 → R)
    (h : ∀ a0 a1 a2 a3 a4 a5 a6 a7 a8 a9 a10 a11 a12 a13 K, Inv a0 a1 a2 a3 a4 a5 a6 a7 a8 a9 a10 a11 a12 a13 → (∀ b0 b1 b2 b3 b4 b5 b6 b7 b8 b9 b10 b11 b12 b13, Inv b0 b1 b2 b3 b4 b5 b6 b7 b8 b9 b10 b11 b12 b13 → μ b0 b1 b2 b3 b4 b5 b6 b7 b8 b9 b10 b11 b12 b13 < μ a0 a1 a2 a3 a4 a5 a6 a7 a8 a9 a10 a11 a12 a13 → K (b0, b1, b2, b3, b4, b5, b6, b7, b8, b9, b10, b11, b12, b13) = some (r b0 b1 b2 b3 b4 b5 b6 b7 b8 b9 b10 b11 b12 b13)) → T K (a0, a1, a2, a3, a4, a5, a6, a7, a8, a9, a10, a11, a12, a13) = some (r a0 a1 a2 a3 a4 a5 a6 a7 a8 a9 a10 a11 a12 a13)) (m : Nat) (a0 a1 a2 a3 a4 a5 a6 a7 a8 a9 a10 a11 a12 a13) (hi : Inv a0 a1 a2 a3 a4 a5 a6 a7 a8 a9 a10 a11 a12 a13) (hm : μ a0 a1 a2 a3 a4 a5 a6 a7 a8 a9 a10 a11 a12 a13 < m) : fixL T m (a0, a1, a2, a3, a4, a5, a6, a7, a8, a9, a10, a11, a12, a13) = some (r a0 a1 a2 a3 a4 a5 a6 a7 a8 a9 a10 a11 a12 a13) :=
  fixL_ok (fun | (a0, a1, a2, a3, a4, a5, a6, a7, a8, a9, a10, a11, a12, a13) => Inv a0 a1 a2 a3 a4 a5 a6 a7 a8 a9 a10 a11 a12 a13) (fun | (a0, a1, a2, a3, a4, a5, a6, a7, a8, a9, a10, a11, a12, a13) => μ a0 a1 a2 a3 a4 a5 a6 a7 a8 a9 a10 a11 a12 a13) (fun | (a0, a1, a2, a3, a4, a5, a6, a7, a8, a9, a10, a11, a12, a13) => r a0 a1 a2 a3 a4 a5 a6 a7 a8 a9 a10 a11 a12 a13) (fun | (a0, a1, a2, a3, a4, a5, a6, a7, a8, a9, a10, a11, a12, a13), K, hi, hK => h a0 a1 a2 a3 a4 a5 a6 a7 a8 a9 a10 a11 a12 a13 K hi fun b0 b1 b2 b3 b4 b5 b6 b7 b8 b9 b10 b11 b12 b13 hj hlt => hK (b0, b1, b2, b3, b4, b5, b6, b7, b8, b9, b10, b11, b12, b13) hj hlt) m (a0, a1, a2, a3, a4, a5, a6, a7, a8, a9, a10, a11, a12, a13) hi hm
section
variable {bl : List ByteArray} {n : Nat}
/-- Rows whose blocks are there. -/
def InB (bl : List ByteArray) (n : Nat) (row : List Int) : Prop := ∀ x ∈ row, (bl.getD x.toNat ⟨#[]⟩).size = n
theorem sumB_cons (bl : List ByteArray) (x : Int) (l : List Int) (a : ByteArray) : sumB bl (x :: l) a = sumB bl l (xorB a (bl.getD x.toNat ⟨#[]⟩)) := rfl
theorem sumB_sz : ∀ (l : List Int) (a : ByteArray), InB bl n l → a.size = n → (sumB bl l a).size = n
  | [], _, _, ha => ha
  | x :: l, a, h, ha => by
    rw [sumB_cons]
    have hx := h x List.mem_cons_self
    exact sumB_sz l _ (fun y hy => h y (List.mem_cons_of_mem _ hy)) (by rw [xorB_size _ _ (by omega)]; exact ha)
theorem xorB_swap {a b d : ByteArray} (h : a.size = b.size) (h2 : b.size = d.size) : xorB (xorB a b) d = xorB (xorB a d) b := by
  rw [xorB_assoc h h2, xorB_self_comm h2, ← xorB_assoc (by omega) (by omega)]
theorem sumB_x : ∀ (l : List Int) (a y : ByteArray), InB bl n l → a.size = n → y.size = n → sumB bl l (xorB a y) = xorB (sumB bl l a) y
  | [], _, _, _, _, _ => rfl
  | x :: l, a, y, h, ha, hy => by
    have hx := h x List.mem_cons_self
    rw [sumB_cons, sumB_cons, xorB_swap (by omega) (by omega)]
    exact sumB_x l _ y (fun z hz => h z (List.mem_cons_of_mem _ hz)) (by rw [xorB_size _ _ (by omega)]; exact ha) hy
def tr (bl : List ByteArray) (n : Nat) (row : List Int) : ByteArray := sumB bl row (zerosB n)
theorem tr_size {row : List Int} (h : InB bl n row) : (tr bl n row).size = n := sumB_sz row _ h (zerosB_size n)
theorem tr_cons {x : Int} {l : List Int} (h : InB bl n (x :: l)) : tr bl n (x :: l) = xorB (tr bl n l) (bl.getD x.toNat ⟨#[]⟩) := by
  unfold tr
  rw [sumB_cons]
  exact sumB_x l _ _ (fun z hz => h z (List.mem_cons_of_mem _ hz)) (zerosB_size n) (h x List.mem_cons_self)
theorem InB.tail {x : Int} {l : List Int} (h : InB bl n (x :: l)) : InB bl n l := fun z hz => h z (List.mem_cons_of_mem _ hz)
theorem tr_lin : ∀ (k : Nat) (a b : List Int), a.length + b.length ≤ k → InB bl n a → InB bl n b → InB bl n (xorL a b) ∧ tr bl n (xorL a b) = xorB (tr bl n a) (tr bl n b)
  | k, [], b, _, _, hb => by
    rw [xorL_nil_left]
    exact ⟨hb, (zr_xorB _ _ (tr_size hb)).symm⟩
  | k, x :: a, [], _, ha, _ => by
    rw [xorL_nil_right]
    exact ⟨ha, (xorB_zr _ _ (tr_size ha)).symm⟩
  | 0, x :: a, y :: b, hk, _, _ => by simp at hk
  | k + 1, x :: a, y :: b, hk, ha, hb => by
    simp only [List.length_cons] at hk
    have hx := ha x List.mem_cons_self
    have hy := hb y List.mem_cons_self
    have sa := tr_size ha.tail
    have sb := tr_size hb.tail
    have sb' := tr_size hb
    have sa' := tr_size ha
    rw [xorL_cons]
    by_cases h1 : x < y
    · rw [if_pos h1]
      obtain ⟨i1, i2⟩ := tr_lin k a (y :: b) (by simp only [List.length_cons]; omega) ha.tail hb
      have hin : InB bl n (x :: xorL a (y :: b)) := fun z hz => by
        rcases List.mem_cons.1 hz with rfl | hz
        · exact hx
        · exact i1 z hz
      refine ⟨hin, ?_⟩
      rw [tr_cons hin, i2, tr_cons ha]
      exact xorB_swap (by omega) (by omega)
    rw [if_neg h1]
    by_cases h2 : y < x
    · rw [if_pos h2]
      obtain ⟨i1, i2⟩ := tr_lin k (x :: a) b (by simp only [List.length_cons]; omega) ha hb.tail
      have hin : InB bl n (y :: xorL (x :: a) b) := fun z hz => by
        rcases List.mem_cons.1 hz with rfl | hz
        · exact hy
        · exact i1 z hz
      refine ⟨hin, ?_⟩
      rw [tr_cons hin, i2, tr_cons hb, xorB_assoc (by omega) (by omega)]
    · rw [if_neg h2]
      have e : x = y := by omega
      subst e
      obtain ⟨i1, i2⟩ := tr_lin k a b (by omega) ha.tail hb.tail
      refine ⟨i1, ?_⟩
      have s1 : (xorB (tr bl n a) (bl.getD x.toNat ⟨#[]⟩)).size = n := by rw [xorB_size _ _ (by omega)]; exact sa
      rw [i2, tr_cons ha, tr_cons hb, ← xorB_assoc (by omega) (by omega), xorB_swap (a := tr bl n a) (by omega) (by omega), xorB_assoc (a := xorB (tr bl n a) (tr bl n b)) (by rw [xorB_size _ _ (by omega)]; omega) rfl, xorB_self, hx, xorB_zr]
      rw [xorB_size _ _ (by omega)]; exact sa
/-- An equation that is true. -/
def Tru (bl : List ByteArray) (n : Nat) (e : Eqn) : Prop := e.2 = tr bl n e.1
variable {c z : Int}
theorem inB_row (hb : ∀ b ∈ bl, b.size = n) {row : List Int} (hr : RowP row bl.length) : InB bl n row := fun x hx => by
  have := hr.2.2.2 x hx
  rw [getD_lt (show x.toNat < bl.length by omega)]
  exact hb _ (List.getElem_mem _)
theorem Tru.ad (hb : ∀ b ∈ bl, b.size = n) {a b : Eqn} (ha : EqP bl.length z a) (hb2 : EqP bl.length z b) (h1 : Tru bl n a) (h2 : Tru bl n b) : Tru bl n (ad a b) := by
  show xorB a.2 b.2 = tr bl n (xorL a.1 b.1)
  rw [(tr_lin _ a.1 b.1 (Nat.le_refl _) (inB_row hb ha.r) (inB_row hb hb2.r)).2, ← h1, ← h2]
theorem tru_zr : Tru bl n (zr (n : Nat)) := by
  show zerosB ((n : Nat) : Int).toNat = zerosB n
  rw [Int.toNat_natCast]
theorem tru_span (hb : ∀ b ∈ bl, b.size = n) {es : List Eqn} (hS : SolverP bl.length (n : Nat) es) (ht : ∀ e ∈ es, Tru bl n e) {v : Eqn} (h : Span bl.length (n : Nat) es v) : Tru bl n v := by
  have A := sol_of hS
  induction h with
  | zero => exact tru_zr
  | add h he ih => exact ih.ad hb (h.ok A.hc A.hz A.mm) (A.mm _ he) (ht _ he)
/-- A true equation is never wrong, and what is known behind it is true. -/
theorem tru_add (hb : ∀ b ∈ bl, b.size = n) {es : List Eqn} (hS : SolverP bl.length (n : Nat) es) (ht : ∀ e ∈ es, Tru bl n e) {row : List Int} (hr : RowP row bl.length) :
    (addE (n : Nat) es row (tr bl n row)).2 ≠ 2 ∧ ∀ e ∈ (addE (n : Nat) es row (tr bl n row)).1, Tru bl n e := by
  have A := sol_of hS
  have hsz : ((tr bl n row).size : Int) = (n : Nat) := by rw [tr_size (inB_row hb hr)]
  have hv : EqP bl.length (n : Nat) (row, tr bl n row) := ⟨hr, hsz⟩
  have htv : Tru bl n (row, tr bl n row) := rfl
  have hne : (addE (n : Nat) es row (tr bl n row)).2 ≠ 2 := by
    intro h2
    obtain ⟨d, hd, hdn, hsp⟩ := add_wrong hS hr hsz h2
    refine hdn ?_
    have h3 := (tru_span hb hS ht hsp).ad hb (hv.ad hd) hv htv
    rw [ad_comm hv hd, ad_back hd hv] at h3
    rw [Int.toNat_natCast]
    exact h3
  refine ⟨hne, fun e he => ?_⟩
  have hS2 := add_ok hS hr hsz
  have B := sol_of hS2
  have hee := B.mm e he
  rcases (add_span hS hr hsz hne hee).1 (Span.mem B.hc B.hz B.mm he) with h | h
  · exact tru_span hb hS ht h
  · have h3 := (tru_span hb hS ht h).ad hb (hee.ad hv) hv htv
    rwa [ad_back hee hv] at h3
theorem tru_get (hb : ∀ b ∈ bl, b.size = n) {es : List Eqn} (hS : SolverP bl.length (n : Nat) es) (ht : ∀ e ∈ es, Tru bl n e) {x : Nat} (h : (getE es (x : Nat)).2 = true) : x < bl.length ∧ (getE es (x : Nat)).1 = bl.getD x ⟨#[]⟩ := by
  obtain ⟨e, he, h1, h2⟩ := getE_some h
  have hr := ((sol_of hS).mm e he).r
  rw [h1] at hr
  have hx := hr.2.2.2 (x : Nat) List.mem_cons_self
  refine ⟨by omega, ?_⟩
  have hs : (bl.getD x ⟨#[]⟩).size = n := by rw [getD_lt (show x < bl.length by omega)]; exact hb _ (List.getElem_mem _)
  rw [h2, ht e he, h1]
  show xorB (zerosB n) (bl.getD ((x : Nat) : Int).toNat ⟨#[]⟩) = _
  rw [Int.toNat_natCast]
  exact zr_xorB _ _ hs
end
/-! texts -/
theorem text_ext {L Z : Int} {W G : List Int} {t : ByteArray} (h : PlanP L Z W G) (ht : (t.size : Int) = L) {es : List Eqn} (hS : SolverP (cnt L Z) Z es) (hT : ∀ e ∈ es, Tru (cutL L Z t) Z.toNat e) : ∀ m : Nat, m ≤ prefE es → textE es m = (allT L Z t).extract 0 (m * Z.toNat)
  | 0, _ => by
    rw [Nat.zero_mul]
    apply ByteArray.ext
    show (⟨#[]⟩ : ByteArray).data = _
    simp
  | m + 1, hm => by
    have h2 := h.2.1
    have h3 := h.2.2.1
    have hl := cutL_len L Z t
    have hc : ((cutL L Z t).length : Int) = cnt L Z := by rw [hl]; omega
    have hz : ((Z.toNat : Nat) : Int) = Z := by omega
    have hS' : SolverP ((cutL L Z t).length : Nat) (Z.toNat : Nat) es := by rw [hc, hz]; exact hS
    obtain ⟨g1, g2⟩ := tru_get (cutL_size h ht) hS' hT ((pref_ok hS).1 m (by omega))
    show textE es m ++ (getE es (m : Nat)).1 = _
    rw [g2, text_ext h ht hS hT m (by omega), getD_lt g1]
    have hb2 : (m + 1) * Z.toNat = m * Z.toNat + Z.toNat := Nat.succ_mul _ _
    have : (cutL L Z t)[m] = (allT L Z t).extract (m * Z.toNat) ((m + 1) * Z.toNat) := by simp [cutL, blockT]
    rw [this]
    exact ba_ext_cat (by omega)
theorem bA_ext0 (a : ByteArray) (k j : Nat) (h : j < k) : bA (a.extract 0 k) j = bA a j := by
  unfold bA
  rw [ByteArray.data_extract, Array.toList_extract, List.extract_eq_take_drop, List.drop_zero, Nat.sub_zero, List.getD_eq_getElem?_getD, List.getElem?_take_of_lt h, List.getD_eq_getElem?_getD]
theorem bA_app_l (a b : ByteArray) (j : Nat) (h : j < a.size) : bA (a ++ b) j = bA a j := by
  unfold bA
  rw [ByteArray.data_append, Array.toList_append, List.getD_eq_getElem?_getD, List.getElem?_append_left (by simpa using h), List.getD_eq_getElem?_getD]
/-- What is known is how it begins. -/
theorem text_begins {L Z : Int} {W G : List Int} {t : ByteArray} (h : PlanP L Z W G) (ht : (t.size : Int) = L) {es : List Eqn} (hS : SolverP (cnt L Z) Z es) (hT : ∀ e ∈ es, Tru (cutL L Z t) Z.toNat e) :
    (textS L Z W G (cnt L Z) Z es).size ≤ t.size ∧ textS L Z W G (cnt L Z) Z es = t.extract 0 (textS L Z W G (cnt L Z) Z es).size ∧ ((prefE es : Int) = cnt L Z → textS L Z W G (cnt L Z) Z es = t) := by
  have hb : getB L Z W G (cnt L Z) Z es = true := getB_iff.2 ⟨h, hS, rfl, rfl⟩
  have hts : textS L Z W G (cnt L Z) Z es = (textE es (prefE es)).extract 0 (min (textE es (prefE es)).size L.toNat) := by unfold textS; rw [hb]
  have he := text_ext h ht hS hT (prefE es) (Nat.le_refl _)
  have hsz := textE_size hS (prefE es) (Nat.le_refl _)
  have hall := allT_size h ht
  have h2 := h.2.1
  have h3 := h.2.2.1
  have hpc := (pref_ok hS).2.2.2.1
  have hz : ((prefE es : Nat) : Int) * Z = ((prefE es * Z.toNat : Nat) : Int) := by rw [Int.natCast_mul, Int.toNat_of_nonneg (by omega)]
  obtain ⟨m, hm⟩ : ∃ m, m = min (textE es (prefE es)).size L.toNat := ⟨_, rfl⟩
  have hmt : m ≤ t.size := by omega
  have hme : m ≤ (textE es (prefE es)).size := by omega
  have e1 : textS L Z W G (cnt L Z) Z es = t.extract 0 m := by
    rw [hts, ← hm]
    refine ba_ext (by rw [ByteArray.size_extract, ByteArray.size_extract]; omega) fun j hj => ?_
    rw [ByteArray.size_extract] at hj
    rw [bA_ext0 _ _ _ (by omega), bA_ext0 _ _ _ (by omega), he, bA_ext0 _ _ _ (by omega)]
    unfold allT
    exact bA_app_l _ _ _ (by omega)
  have e2 : (textS L Z W G (cnt L Z) Z es).size = m := by rw [e1, ByteArray.size_extract]; omega
  refine ⟨by omega, by rw [e2, e1], fun hfull => ?_⟩
  have hL := (plan_z h).2.1
  rw [hfull] at hsz
  have : m = t.size := by omega
  rw [e1, this]
  apply ByteArray.ext
  rw [ByteArray.data_extract]
  exact Array.extract_size
end Go.Proofs.Ythcahoeoofggjaa.V
