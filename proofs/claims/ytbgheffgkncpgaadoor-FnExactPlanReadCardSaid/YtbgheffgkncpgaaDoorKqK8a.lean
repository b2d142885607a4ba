/- What functions come to, and that they do so; conditions: those that each theorem states. -/
import Derived.Test.YtbgheffgkncpgaaDoorDqw1G
set_option linter.unusedVariables false
set_option linter.unusedSimpArgs false
namespace Go.Proofs.YtbgheffgkncpgaaDoor.V
open Go Vx Vx.N
/-! ### Plans -/
theorem cnt_le {L Z n : Int} (hz : 1 ≤ Z) : cnt L Z ≤ n ↔ L ≤ n * Z := by
  unfold cnt
  constructor
  · intro h
    have h1 : (L + Z - 1) / Z < n + 1 := by omega
    have h2 := (Int.ediv_lt_iff_lt_mul (by omega : 0 < Z)).1 h1
    rw [Int.add_mul, Int.one_mul] at h2
    omega
  · intro h
    have h2 : (L + Z - 1) / Z < n + 1 := (Int.ediv_lt_iff_lt_mul (by omega : 0 < Z)).2 (by rw [Int.add_mul, Int.one_mul]; omega)
    omega
theorem cnt_pos {L Z : Int} (hz : 1 ≤ Z) (hl : 1 ≤ L) : 1 ≤ cnt L Z := by
  have h := not_congr (cnt_le (L := L) (n := 0) hz)
  rw [Int.zero_mul] at h
  omega
theorem cnt_nn {L Z : Int} (hz : 1 ≤ Z) (hl : 0 ≤ L) : 0 ≤ cnt L Z := Int.ediv_nonneg (by omega) (by omega)
theorem cnt_max {L Z : Int} (hz : 1 ≤ Z) (hl : 0 ≤ L) : cnt L Z ≤ L := by
  rw [cnt_le hz]
  have := Int.mul_le_mul_of_nonneg_left hz hl
  omega
theorem count_eq {L Z : Int} (h : 1 ≤ Z ∧ Z ≤ 16 ∧ 0 ≤ L ∧ L < 1000) : IntKind.wrap .i64 (Int.tdiv (IntKind.wrap .i64 (IntKind.wrap .i64 (L + Z) - 1)) Z) = cnt L Z := by
  have h1 := cnt_nn (L := L) (Z := Z) (by omega) (by omega)
  have h2 := cnt_max (L := L) (Z := Z) (by omega) (by omega)
  rw [w64 (x := L + Z) (by omega) (by omega), w64 (x := L + Z - 1) (by omega) (by omega), Int.tdiv_eq_ediv_of_nonneg (by omega)]
  exact w64 (by unfold cnt at h1; omega) (by unfold cnt at h2; omega)
theorem K_spec_l5Count : Sound1 Tryd.prog EKs F_spec_l5Count.f S_spec_l5Count := snd ok_spec_l5Count [] (tabF_nil _ _) fun args sp h hp => by
  unfold S_spec_l5Count at h
  split at h
  · rename_i L Z W G
    cases h
    have hp := of_decide_eq_true hp
    refine ⟨rfl, 0, (spec_l5Count_run _ _ _ _ _).trans ?_⟩
    unfold spec_l5Count_T
    rw [decide_eq_false (show ¬ Z = 0 by omega), count_eq hp]; rfl
  · cases h
theorem K_impl_Plan_count : Sound1 Tryd.prog EKs F_impl_Plan_count.f S_impl_Plan_count := snd ok_impl_Plan_count [] (tabF_nil _ _) fun args sp h hp => by
  unfold S_impl_Plan_count S_spec_l5Count at h
  split at h
  · rename_i L Z W G
    cases h
    have hp := of_decide_eq_true hp
    refine ⟨rfl, 0, (impl_Plan_count_run _ _ _ _ _).trans ?_⟩
    unfold impl_Plan_count_T
    rw [decide_eq_false (show ¬ Z = 0 by omega), count_eq hp]; rfl
  · cases h
theorem planFrom_step {n : Int} {W G : List Int} {i : Nat} (h : i < W.length) : planFrom n W G i ↔ planAt n W G i ∧ planFrom n W G (i + 1) := by
  constructor
  · exact fun H => ⟨H i (Nat.le_refl _) h, fun j h1 h2 => H j (by omega) h2⟩
  · rintro ⟨h1, h2⟩ j h3 h4
    by_cases e : j = i
    · subst e; exact h1
    · exact h2 j (by omega) h4
theorem planFrom_end {n : Int} {W G : List Int} {i : Nat} (h : W.length ≤ i) : planFrom n W G i := fun j h1 h2 => by omega
theorem inBf {n lo hi : Int} (h : ¬ (lo ≤ n ∧ n ≤ hi)) : inB n lo hi = false := decide_eq_false h
theorem inBt {n lo hi : Int} (h : lo ≤ n ∧ n ≤ hi) : inB n lo hi = true := decide_eq_true h
/-- A turn that looks at one window and its weight. -/
theorem plan_look {L Z : Int} {W G : List Int} {i : Int} (hg : G.length = W.length) (q0 : 0 ≤ i) (hi : i < W.length) (hb : i < 1000) (X : Rs) (Y : Prop) (hX : planAt (cnt L Z) W G i.toNat → X = some ([B (cdec (planFrom (cnt L Z) W G (i.toNat + 1) ∧ Y))], [])) :
    (if inB (W.getD i.toNat 0) 1 (cnt L Z) = false then some ([B false], []) else if i > 0 then (if 0 ≤ i - 1 then if i - 1 < (W.length : Int) then (if W.getD (i - 1).toNat 0 ≥ W.getD i.toNat 0 then some ([B false], []) else if 0 ≤ i then if i < (G.length : Int) then (if inB (G.getD i.toNat 0) 1 99 = false then some ([B false], []) else X) else none else none) else none else none)
      else (if 0 ≤ i then if i < (G.length : Int) then (if inB (G.getD i.toNat 0) 1 99 = false then some ([B false], []) else X) else none else none)) = (some ([B (cdec (planFrom (cnt L Z) W G i.toNat ∧ Y))], []) : Rs) := by
  have hlt : i.toNat < W.length := by omega
  have bad : ¬ planAt (cnt L Z) W G i.toNat → cdec (planFrom (cnt L Z) W G i.toNat ∧ Y) = false := fun h => cdec_f fun H => h ((planFrom_step hlt).1 H.1).1
  have good : planAt (cnt L Z) W G i.toNat → cdec (planFrom (cnt L Z) W G i.toNat ∧ Y) = cdec (planFrom (cnt L Z) W G (i.toNat + 1) ∧ Y) := fun h => cdec_congr (by rw [planFrom_step hlt]; simp [h])
  by_cases h1 : 1 ≤ W.getD i.toNat 0 ∧ W.getD i.toNat 0 ≤ cnt L Z
  rotate_left
  · rw [if_pos (inBf h1), bad fun H => h1 H.1]
  rw [if_neg (by rw [inBt h1]; simp)]
  have last : (0 < i.toNat → W.getD (i.toNat - 1) 0 < W.getD i.toNat 0) → (if 0 ≤ i then if i < (G.length : Int) then (if inB (G.getD i.toNat 0) 1 99 = false then some ([B false], []) else X) else none else none) = (some ([B (cdec (planFrom (cnt L Z) W G i.toNat ∧ Y))], []) : Rs) := fun h2 => by
    rw [if_pos q0, if_pos (by omega)]
    by_cases h3 : 1 ≤ G.getD i.toNat 0 ∧ G.getD i.toNat 0 ≤ 99
    · rw [if_neg (by rw [inBt h3]; simp), good ⟨h1, h2, h3⟩]
      exact hX ⟨h1, h2, h3⟩
    · rw [if_pos (inBf h3), bad fun H => h3 H.2.2]
  by_cases hp : i > 0
  · rw [if_pos hp, if_pos (by omega), if_pos (by omega)]
    have e : (i - 1).toNat = i.toNat - 1 := by omega
    rw [e]
    by_cases h2 : W.getD (i.toNat - 1) 0 ≥ W.getD i.toNat 0
    · rw [if_pos h2, bad fun H => by have := H.2.1 (by omega); omega]
    · rw [if_neg h2]
      exact last fun _ => by omega
  · rw [if_neg hp]
    exact last fun h => by omega
theorem plan_head {L Z : Int} {W G : List Int} (h1 : 1 ≤ L ∧ L ≤ 300) (h2 : 1 ≤ Z ∧ Z ≤ 16) (h3 : 1 ≤ cnt L Z ∧ cnt L Z ≤ 24) (h4 : 1 ≤ W.length ∧ W.length ≤ 3) (h5 : G.length = W.length) : planB L Z W G = cdec (planFrom (cnt L Z) W G 0 ∧ W.getD (W.length - 1) 0 = cnt L Z) :=
  cdec_congr ⟨fun H => ⟨H.2.2.2.2.2.1, H.2.2.2.2.2.2⟩, fun H => ⟨h1, h2, h3, h4, h5, H.1, H.2⟩⟩
theorem planB_f {L Z : Int} {W G : List Int} (h : ¬ PlanP L Z W G) : planB L Z W G = false := cdec_f h
theorem K_spec_PlanOk : Sound1 Tryd.prog EKs F_spec_PlanOk.f S_spec_PlanOk := snd ok_spec_PlanOk [(F_spec_l1In.f, S_spec_l1In), (F_spec_l5Count.f, S_spec_l5Count)] (tabF_cons K_spec_l1In (tabF_cons K_spec_l5Count (tabF_nil _ _))) fun args sp h hp => by
  unfold S_spec_PlanOk at h
  split at h
  · rename_i L Z W G
    cases h
    refine ⟨rfl, 5, (spec_PlanOk_run _ _ _ _ _).trans ?_⟩
    unfold spec_PlanOk_T
    simp only [Bool.cond_eq_ite, decide_eq_true_eq, Bool.not_eq_true', bne_iff_ne, ne_eq]
    by_cases h1 : 1 ≤ L ∧ L ≤ 300
    rotate_left
    · rw [if_pos (inBf h1), planB_f fun H => h1 H.1]
    by_cases h2 : 1 ≤ Z ∧ Z ≤ 16
    rotate_left
    · rw [if_neg (by rw [inBt h1]; simp), if_pos (inBf h2), planB_f fun H => h2 H.2.1]
    have hc0 := cnt_pos (L := L) (Z := Z) (by omega) (by omega)
    have hcm := cnt_max (L := L) (Z := Z) (by omega) (by omega)
    rw [if_neg (by rw [inBt h1]; simp), if_neg (by rw [inBt h2]; simp), if_pos ⟨by omega, by omega, by omega, by omega⟩]
    by_cases h3 : 1 ≤ cnt L Z ∧ cnt L Z ≤ 24
    rotate_left
    · rw [if_pos (inBf h3), planB_f fun H => h3 H.2.2.1]
    by_cases h4 : 1 ≤ W.length ∧ W.length ≤ 3
    rotate_left
    · rw [if_neg (by rw [inBt h3]; simp), if_pos (inBf fun H => h4 (by omega)), planB_f fun H => h4 H.2.2.2.1]
    rw [if_neg (by rw [inBt h3]; simp), if_neg (by rw [inBt (n := (W.length : Int)) (by omega)]; simp)]
    by_cases h5 : (G.length : Int) = W.length
    rotate_left
    · rw [if_pos h5, planB_f fun H => h5 (by rw [H.2.2.2.2.1])]
    have h5' : G.length = W.length := by omega
    rw [if_neg (not_not_intro h5), plan_head h1 h2 h3 h4 h5']
    refine (fix5 (T := fun k => spec_PlanOk_T4 k) (fun i L' Z' W' G' => (L' = L ∧ Z' = Z ∧ W' = W ∧ G' = G) ∧ 0 ≤ i ∧ i ≤ W.length) (fun i _ _ _ _ => W.length - i.toNat) (fun i _ _ _ _ => ([B (cdec (planFrom (cnt L Z) W G i.toNat ∧ W.getD (W.length - 1) 0 = cnt L Z))], [])) ?_ _ _ _ _ _ _ ⟨⟨rfl, rfl, rfl, rfl⟩, by omega, by omega⟩ (by omega)).trans (by rw [Int.toNat_zero])
    rintro i L' Z' W' G' K ⟨⟨rfl, rfl, rfl, rfl⟩, q0, q1⟩ hK
    unfold spec_PlanOk_T4
    simp only [Bool.cond_eq_ite, decide_eq_true_eq, Bool.not_eq_true', bne_iff_ne, ne_eq, beq_iff_eq]
    have hz : 1 ≤ Z' ∧ Z' ≤ 16 ∧ 0 ≤ L' ∧ L' < 1000 := ⟨by omega, by omega, by omega, by omega⟩
    by_cases hi : i < W'.length
    · rw [if_pos hi, if_pos q0, if_pos hi, if_pos hz, w64 (x := i - 1) (by omega) (by omega), w64i q0 (by omega), if_pos hi]
      have nx := hK (i + 1) _ _ _ _ ⟨⟨rfl, rfl, rfl, rfl⟩, by omega, by omega⟩ (by omega)
      rw [toNat_succ q0] at nx
      have := plan_look (L := L') (Z := Z') (G := G') h5' q0 hi (by omega) (K (i + 1, L', Z', W', G')) (W'.getD (W'.length - 1) 0 = cnt L' Z') (fun _ => nx)
      simp only [if_pos q0] at this ⊢
      exact this
    · rw [if_neg hi, w64 (x := (W'.length : Int) - 1) (by omega) (by omega), if_pos (by omega), if_pos (by omega), if_pos hz, show ((W'.length : Int) - 1).toNat = W'.length - 1 by omega]
      have : cdec (planFrom (cnt L' Z') W' G' i.toNat ∧ W'.getD (W'.length - 1) 0 = cnt L' Z') = (W'.getD (W'.length - 1) 0 == cnt L' Z') := by
        by_cases e : W'.getD (W'.length - 1) 0 = cnt L' Z'
        · rw [cdec_t ⟨planFrom_end (by omega), e⟩, e]; simp
        · rw [cdec_f fun H => e H.2]; exact (beq_eq_false_iff_ne.2 e).symm
      rw [this]
  · cases h
theorem K_impl_PlanOk : Sound1 Tryd.prog EKs F_impl_PlanOk.f S_impl_PlanOk := snd ok_impl_PlanOk [(F_impl_within.f, S_impl_within), (F_impl_Plan_count.f, S_impl_Plan_count)] (tabF_cons K_impl_within (tabF_cons K_impl_Plan_count (tabF_nil _ _))) fun args sp h hp => by
  unfold S_impl_PlanOk S_spec_PlanOk at h
  split at h
  · rename_i L Z W G
    cases h
    refine ⟨rfl, 5, (impl_PlanOk_run _ _ _ _ _).trans ?_⟩
    unfold impl_PlanOk_T
    simp only [Bool.cond_eq_ite, decide_eq_true_eq, Bool.not_eq_true', bne_iff_ne, ne_eq]
    by_cases h1 : 1 ≤ L ∧ L ≤ 300
    rotate_left
    · rw [if_pos (inBf h1), planB_f fun H => h1 H.1]
    by_cases h2 : 1 ≤ Z ∧ Z ≤ 16
    rotate_left
    · rw [if_neg (by rw [inBt h1]; simp), if_pos (inBf h2), planB_f fun H => h2 H.2.1]
    have hc0 := cnt_pos (L := L) (Z := Z) (by omega) (by omega)
    have hcm := cnt_max (L := L) (Z := Z) (by omega) (by omega)
    have hz : 1 ≤ Z ∧ Z ≤ 16 ∧ 0 ≤ L ∧ L < 1000 := ⟨by omega, by omega, by omega, by omega⟩
    rw [if_neg (by rw [inBt h1]; simp), if_neg (by rw [inBt h2]; simp), if_pos hz]
    by_cases h3 : cnt L Z > 24
    · rw [if_pos h3, planB_f fun H => by have := H.2.2.1; omega]
    by_cases h4 : 1 ≤ W.length ∧ W.length ≤ 3
    rotate_left
    · rw [if_neg h3, if_pos (inBf fun H => h4 (by omega)), planB_f fun H => h4 H.2.2.2.1]
    rw [if_neg h3, if_neg (by rw [inBt (n := (W.length : Int)) (by omega)]; simp)]
    by_cases h5 : (G.length : Int) = W.length
    rotate_left
    · rw [if_pos h5, planB_f fun H => h5 (by rw [H.2.2.2.2.1])]
    have h5' : G.length = W.length := by omega
    rw [if_neg (not_not_intro h5), w64 (x := (W.length : Int) - 1) (by omega) (by omega), if_pos (by omega), if_pos (by omega), if_pos hz, show ((W.length : Int) - 1).toNat = W.length - 1 by omega]
    by_cases h6 : W.getD (W.length - 1) 0 = cnt L Z
    rotate_left
    · rw [if_pos h6, planB_f fun H => h6 H.2.2.2.2.2.2]
    rw [if_neg (not_not_intro h6), plan_head h1 h2 ⟨hc0, by omega⟩ h4 h5', show cdec (planFrom (cnt L Z) W G 0 ∧ W.getD (W.length - 1) 0 = cnt L Z) = cdec (planFrom (cnt L Z) W G 0 ∧ True) from cdec_congr ⟨fun H => ⟨H.1, trivial⟩, fun H => ⟨H.1, h6⟩⟩]
    refine (fix7 (T := fun k => impl_PlanOk_T6 k) (fun i n W1 L' Z' W' G' => (n = W.length ∧ W1 = W ∧ L' = L ∧ Z' = Z ∧ W' = W ∧ G' = G) ∧ 0 ≤ i ∧ i ≤ W.length) (fun i _ _ _ _ _ _ => W.length - i.toNat) (fun i _ _ _ _ _ _ => ([B (cdec (planFrom (cnt L Z) W G i.toNat ∧ True))], [])) ?_ _ _ _ _ _ _ _ _ ⟨⟨rfl, rfl, rfl, rfl, rfl, rfl⟩, by omega, by omega⟩ (by omega)).trans (by rw [Int.toNat_zero])
    intro i n W1 L' Z' W' G' K hI hK
    obtain ⟨⟨e1, e2, e3, e4, e5, e6⟩, q0, q1⟩ := hI
    rw [e1, e2, e3, e4, e5, e6]
    unfold impl_PlanOk_T6
    simp only [Bool.cond_eq_ite, decide_eq_true_eq, Bool.not_eq_true', bne_iff_ne, ne_eq, beq_iff_eq]
    by_cases hi : i < W.length
    · rw [if_pos hi, if_pos q0, if_pos hi, if_pos hz, w64 (x := i - 1) (by omega) (by omega), w64i q0 (by omega)]
      have nx := hK (i + 1) _ _ _ _ _ _ ⟨⟨rfl, rfl, rfl, rfl, rfl, rfl⟩, by omega, by omega⟩ (by omega)
      rw [toNat_succ q0] at nx
      exact plan_look (L := L) (Z := Z) (G := G) h5' q0 hi (by omega) (K (i + 1, (W.length : Int), W, L, Z, W, G)) True (fun _ => nx)
    · rw [if_neg hi, cdec_t ⟨planFrom_end (by omega), trivial⟩]
  · cases h
theorem planB_iff {L Z : Int} {W G : List Int} : planB L Z W G = true ↔ PlanP L Z W G := cdec_iff
theorem forZ_in {L : Int} (h : 1 ≤ L ∧ L ≤ 300) : 8 ≤ forZ L ∧ forZ L ≤ 13 := by
  unfold forZ
  split <;> omega
theorem forZ_le {L Z : Int} (h8 : 8 ≤ Z) : forZ L ≤ Z ↔ L ≤ 24 * Z := by
  unfold forZ
  split <;> omega
end Go.Proofs.YtbgheffgkncpgaaDoor.V
