/- What functions come to, and that they do so; conditions: those that each theorem states. -/
import Derived.Test.YthcahoeoofggjaaDep2G
set_option linter.unusedVariables false
set_option linter.unusedSimpArgs false
namespace Go.Proofs.Ythcahoeoofggjaa.V
open Go Vx Vx.N
/-! ### Drawn plans -/
theorem plan_mk {L Z : Int} {W G : List Int} (h1 : 1 ≤ L ∧ L ≤ 300) (h2 : 1 ≤ Z ∧ Z ≤ 16) (h3 : cnt L Z ≤ 24) (h4 : W.length ≤ 3) (h5 : G.length = W.length) (h6 : W.getD (W.length - 1) 0 = cnt L Z) (hw : ∀ j, j < W.length → planAt (cnt L Z) W G j) (h0 : 1 ≤ W.length) : PlanP L Z W G :=
  ⟨h1, h2, ⟨cnt_pos h2.1 h1.1, h3⟩, ⟨h0, h4⟩, h5, fun j _ hj => hw j hj, h6⟩
theorem plan_1 {L Z a g : Int} (h1 : 1 ≤ L ∧ L ≤ 300) (h2 : 1 ≤ Z ∧ Z ≤ 16) (h3 : cnt L Z ≤ 24) (ha : a = cnt L Z) (hg : 1 ≤ g ∧ g ≤ 99) : PlanP L Z [a] [g] := by
  have hc := cnt_pos h2.1 h1.1
  refine plan_mk h1 h2 h3 (by simp) rfl ha (fun j hj => ?_) (by simp)
  match j, hj with
  | 0, _ => exact ⟨⟨by show 1 ≤ a; omega, by show a ≤ _; omega⟩, fun h => by omega, hg⟩
theorem plan_2 {L Z a b g k : Int} (h1 : 1 ≤ L ∧ L ≤ 300) (h2 : 1 ≤ Z ∧ Z ≤ 16) (h3 : cnt L Z ≤ 24) (ha : 1 ≤ a ∧ a < b) (hb : b = cnt L Z) (hg : 1 ≤ g ∧ g ≤ 99) (hk : 1 ≤ k ∧ k ≤ 99) : PlanP L Z [a, b] [g, k] := by
  refine plan_mk h1 h2 h3 (by simp) rfl hb (fun j hj => ?_) (by simp)
  match j, hj with
  | 0, _ => exact ⟨⟨by show 1 ≤ a; omega, by show a ≤ _; omega⟩, fun h => by omega, hg⟩
  | 1, _ => exact ⟨⟨by show 1 ≤ b; omega, by show b ≤ _; omega⟩, fun h => ha.2, hk⟩
theorem plan_3 {L Z a b c g k l : Int} (h1 : 1 ≤ L ∧ L ≤ 300) (h2 : 1 ≤ Z ∧ Z ≤ 16) (h3 : cnt L Z ≤ 24) (ha : 1 ≤ a ∧ a < b) (hb : b < c) (hc : c = cnt L Z) (hg : 1 ≤ g ∧ g ≤ 99) (hk : 1 ≤ k ∧ k ≤ 99) (hl : 1 ≤ l ∧ l ≤ 99) : PlanP L Z [a, b, c] [g, k, l] := by
  refine plan_mk h1 h2 h3 (by simp) rfl hc (fun j hj => ?_) (by simp)
  match j, hj with
  | 0, _ => exact ⟨⟨by show 1 ≤ a; omega, by show a ≤ _; omega⟩, fun h => by omega, hg⟩
  | 1, _ => exact ⟨⟨by show 1 ≤ b; omega, by show b ≤ _; omega⟩, fun h => ha.2, hk⟩
  | 2, _ => exact ⟨⟨by show 1 ≤ c; omega, by show c ≤ _; omega⟩, fun h => hb, hl⟩
theorem for_cnt {L : Int} (h : 1 ≤ L ∧ L ≤ 300) : cnt L (forZ L) ≤ 24 := by
  have hz := forZ_in h
  rw [cnt_le (by omega), ← forZ_le (by omega)]
  exact Int.le_refl _
theorem plan_for {L : Int} (h : 1 ≤ L ∧ L ≤ 300) : PlanP L (forZ L) (forW L) (forG L) := by
  have hz := forZ_in h
  have hc := for_cnt h
  have hp := cnt_pos (L := L) (Z := forZ L) (by omega) (by omega)
  unfold forW forG
  by_cases hk : forK L < cnt L (forZ L)
  · rw [if_pos hk, if_pos hk]
    exact plan_2 h ⟨by omega, by omega⟩ hc ⟨by unfold forK; omega, hk⟩ rfl (by omega) (by omega)
  · rw [if_neg hk, if_neg hk]
    exact plan_1 h ⟨by omega, by omega⟩ hc rfl (by omega)
theorem planR_ok {b : List Int} {p : Int} (h : rdOk b p = true) (hp : p < 900000) :
    spec_l15Plan_T b p = some ([Pl (planR b p).1 (planR b p).2.1 (planR b p).2.2.1 (planR b p).2.2.2.1], [rdC b (planR b p).2.2.2.2]) ∧ PlanP (planR b p).1 (planR b p).2.1 (planR b p).2.2.1 (planR b p).2.2.2.1 ∧ p < (planR b p).2.2.2.2 ∧ (planR b p).2.2.2.2 ≤ p + 10 := by
  have key : ∃ L Z W G q, spec_l15Plan_T b p = some ([Pl L Z W G], [rdC b q]) ∧ PlanP L Z W G ∧ p < q ∧ q ≤ p + 10 := by
    have p0 := (rdOk_of h).1.2.1
    have r1 : ∀ q, 0 ≤ q → q < 1000000 → rdOk b q = true := fun q h0 h1 => rdOk_mk h h0 h1
    have k1 := (pick_eq (n := 300) h).2
    have k2 := (pick_eq (n := 60) (r1 (p + 1 + 1) (by omega) (by omega))).2
    have e1 : IntKind.wrap .i64 (1 + pickV b p 300) = 1 + pickV b p 300 := w64 (by omega) (by have := k1.2.1 (by omega); omega)
    have e2 : IntKind.wrap .i64 (1 + pickV b (p + 1 + 1) 60) = 1 + pickV b (p + 1 + 1) 60 := w64 (by omega) (by have := k2.2.1 (by omega); omega)
    unfold spec_l15Plan_T
    rw [e1, e2]
    have i1 : 1 ≤ 1 + pickV b p 300 ∧ 1 + pickV b p 300 ≤ 300 := by have := k1.2.1 (by omega); omega
    have i2 : 1 ≤ 1 + pickV b (p + 1 + 1) 60 ∧ 1 + pickV b (p + 1 + 1) 60 ≤ 300 := by have := k2.2.1 (by omega); omega
    simp only [Bool.cond_eq_ite, decide_eq_true_eq, beq_iff_eq]
    rw [if_pos h, if_pos i1, if_pos (r1 _ (by omega) (by omega))]
    have q0 : p < p + 1 + 1 + 1 ∧ p + 1 + 1 + 1 ≤ p + 3 := by omega
    have q1 : p < p + 1 + 1 ∧ p + 1 + 1 ≤ p + 3 := by omega
    by_cases c : pickV b (p + 1) 2 = 0
    · rw [if_pos c, if_pos (r1 _ (by omega) (by omega)), if_pos i2]
      generalize 1 + pickV b (p + 1 + 1) 60 = L at *
      generalize p + 1 + 1 + 1 = q at *
      clear q1 i1 e1 e2 k1 k2 c
      have hz := forZ_in i2
      have hc := for_cnt i2
      have hF := plan_for i2
      rw [if_pos ⟨by omega, by omega, by omega, by omega⟩]
      by_cases c3 : cnt L (forZ L) > 3
      rotate_left
      · rw [if_neg c3]; exact ⟨_, _, _, _, _, rfl, hF, by omega, by omega⟩
      rw [if_pos c3, if_pos (r1 _ (by omega) (by omega))]
      by_cases c4 : pickV b q 3 = 0
      rotate_left
      · rw [if_neg c4]; exact ⟨_, _, _, _, _, rfl, hF, by omega, by omega⟩
      have ec : IntKind.wrap .i64 (cnt L (forZ L) - 2) = cnt L (forZ L) - 2 := w64 (by omega) (by omega)
      rw [if_pos c4, if_pos (r1 _ (by omega) (by omega)), if_pos (r1 _ (by omega) (by omega)), if_pos (r1 _ (by omega) (by omega)), if_pos (r1 _ (by omega) (by omega)), ec]
      have g1 := (pick_eq (n := cnt L (forZ L) - 2) (r1 (q + 1) (by omega) (by omega))).2
      have g2 := (pick_eq (n := 9) (r1 (q + 1 + 1) (by omega) (by omega))).2
      have g3 := (pick_eq (n := 9) (r1 (q + 1 + 1 + 1) (by omega) (by omega))).2
      have g4 := (pick_eq (n := 9) (r1 (q + 1 + 1 + 1 + 1) (by omega) (by omega))).2
      have g1' := g1.2.1 (by omega)
      have g2' := g2.2.1 (by omega)
      have g3' := g3.2.1 (by omega)
      have g4' := g4.2.1 (by omega)
      rw [w64 (x := 1 + pickV b (q + 1) _) (by omega) (by omega), w64 (x := 1 + pickV b (q + 1) _ + 1) (by omega) (by omega), w64 (x := 1 + pickV b (q + 1 + 1) 9) (by omega) (by omega), w64 (x := 1 + pickV b (q + 1 + 1 + 1) 9) (by omega) (by omega), w64 (x := 1 + pickV b (q + 1 + 1 + 1 + 1) 9) (by omega) (by omega), if_neg (by omega)]
      exact ⟨_, _, _, _, _, rfl, plan_3 i2 ⟨by omega, by omega⟩ hc ⟨by omega, by omega⟩ (by omega) rfl (by omega) (by omega) (by omega), by omega, by omega⟩
    · rw [if_neg c]
      generalize 1 + pickV b p 300 = L at *
      generalize p + 1 + 1 = q at *
      clear q0 i2 e1 e2 k1 k2 c
      have hz := forZ_in i1
      have hc := for_cnt i1
      have hF := plan_for i1
      rw [if_pos ⟨by omega, by omega, by omega, by omega⟩]
      by_cases c3 : cnt L (forZ L) > 3
      rotate_left
      · rw [if_neg c3]; exact ⟨_, _, _, _, _, rfl, hF, by omega, by omega⟩
      rw [if_pos c3, if_pos (r1 _ (by omega) (by omega))]
      by_cases c4 : pickV b q 3 = 0
      rotate_left
      · rw [if_neg c4]; exact ⟨_, _, _, _, _, rfl, hF, by omega, by omega⟩
      have ec : IntKind.wrap .i64 (cnt L (forZ L) - 2) = cnt L (forZ L) - 2 := w64 (by omega) (by omega)
      rw [if_pos c4, if_pos (r1 _ (by omega) (by omega)), if_pos (r1 _ (by omega) (by omega)), if_pos (r1 _ (by omega) (by omega)), if_pos (r1 _ (by omega) (by omega)), ec]
      have g1 := (pick_eq (n := cnt L (forZ L) - 2) (r1 (q + 1) (by omega) (by omega))).2
      have g2 := (pick_eq (n := 9) (r1 (q + 1 + 1) (by omega) (by omega))).2
      have g3 := (pick_eq (n := 9) (r1 (q + 1 + 1 + 1) (by omega) (by omega))).2
      have g4 := (pick_eq (n := 9) (r1 (q + 1 + 1 + 1 + 1) (by omega) (by omega))).2
      have g1' := g1.2.1 (by omega)
      have g2' := g2.2.1 (by omega)
      have g3' := g3.2.1 (by omega)
      have g4' := g4.2.1 (by omega)
      rw [w64 (x := 1 + pickV b (q + 1) _) (by omega) (by omega), w64 (x := 1 + pickV b (q + 1) _ + 1) (by omega) (by omega), w64 (x := 1 + pickV b (q + 1 + 1) 9) (by omega) (by omega), w64 (x := 1 + pickV b (q + 1 + 1 + 1) 9) (by omega) (by omega), w64 (x := 1 + pickV b (q + 1 + 1 + 1 + 1) 9) (by omega) (by omega), if_neg (by omega)]
      exact ⟨_, _, _, _, _, rfl, plan_3 i1 ⟨by omega, by omega⟩ hc ⟨by omega, by omega⟩ (by omega) rfl (by omega) (by omega) (by omega), by omega, by omega⟩
  obtain ⟨L, Z, W, G, q, e, h1, h2, h3⟩ := key
  have : planR b p = (L, Z, W, G, q) := by unfold planR; rw [e]
  rw [this]
  exact ⟨e, h1, h2, h3⟩
theorem K_spec_l15Plan : Sound1 Try.prog EKs F_spec_l15Plan.f S_spec_l15Plan := snd ok_spec_l15Plan [(F_spec_l5For.f, S_spec_l5For), (F_spec_l1Rd_pick.f, S_spec_l1Rd_pick), (F_spec_l5Count.f, S_spec_l5Count)] (tabF_cons K_spec_l5For (tabF_cons K_spec_l1Rd_pick (tabF_cons K_spec_l5Count (tabF_nil _ _)))) fun args sp h hp => by
  unfold S_spec_l15Plan at h
  split at h
  · rename_i b p
    cases h
    simp only [Bool.and_eq_true, decide_eq_true_eq] at hp
    exact ⟨rfl, 0, (spec_l15Plan_run _ _ _).trans (planR_ok hp.1 hp.2).1⟩
  · cases h
/-- Is what was drawn small? -/
def PlanSm (L : Int) (W G : List Int) : Prop := (-1000 ≤ L ∧ L ≤ 1000) ∧ W.length ≤ 4 ∧ G.length ≤ 4
theorem planP_sm {L Z : Int} {W G : List Int} (h : PlanP L Z W G) : PlanSm L W G := by
  obtain ⟨h1, _, _, h4, h5, _⟩ := h
  exact ⟨⟨by omega, by omega⟩, by omega, by omega⟩
theorem spoilPR_ok {b : List Int} {p L Z : Int} {W G : List Int} (h : rdOk b p = true) (hp : p < 900000) (hL : 0 ≤ L ∧ L < 1000 - 20) (hW : 1 ≤ W.length ∧ W.length ≤ 3) (hG : 1 ≤ G.length ∧ G.length ≤ 3) :
    spec_l15SpoilPlan_T b p L Z W G = some ([Pl (spoilPR b p L Z W G).1 (spoilPR b p L Z W G).2.1 (spoilPR b p L Z W G).2.2.1 (spoilPR b p L Z W G).2.2.2.1], [rdC b (spoilPR b p L Z W G).2.2.2.2]) ∧ PlanSm (spoilPR b p L Z W G).1 (spoilPR b p L Z W G).2.2.1 (spoilPR b p L Z W G).2.2.2.1 ∧ p < (spoilPR b p L Z W G).2.2.2.2 ∧ (spoilPR b p L Z W G).2.2.2.2 ≤ p + 10 := by
  have key : ∃ L' Z' W' G' q, spec_l15SpoilPlan_T b p L Z W G = some ([Pl L' Z' W' G'], [rdC b q]) ∧ PlanSm L' W' G' ∧ p < q ∧ q ≤ p + 10 := by
    have p0 := (rdOk_of h).1.2.1
    have r1 : ∀ q, 0 ≤ q → q < 1000000 → rdOk b q = true := fun q h0 h1 => rdOk_mk h h0 h1
    have hsm : (sm W.length && sm G.length) = true := by rw [Bool.and_eq_true]; exact ⟨decide_eq_true (by omega), decide_eq_true (by omega)⟩
    have hS : PlanSm L W G := ⟨⟨by omega, by omega⟩, by omega, by omega⟩
    unfold spec_l15SpoilPlan_T
    rw [hsm, w64 (x := L + 20) (by omega) (by omega)]
    simp only [Bool.cond_eq_ite, decide_eq_true_eq, beq_iff_eq]
    rw [if_pos trivial, if_pos h]
    have a1 := (pick_eq (n := 3) (r1 (p + 1) (by omega) (by omega))).2
    have a1' := a1.2.1 (by omega)
    have a2 := (pick_eq (n := 3) (r1 (p + 1 + 1) (by omega) (by omega))).2
    have a2' := a2.2.1 (by omega)
    have a3 := (pick_eq (n := 2) (r1 (p + 1 + 1) (by omega) (by omega))).2
    have a3' := a3.2.1 (by omega)
    have a4 := (pick_eq (n := (W.length : Int)) (r1 (p + 1) (by omega) (by omega))).2
    have a4' := a4.2.1 (by omega)
    have a5 := (pick_eq (n := (G.length : Int)) (r1 (p + 1) (by omega) (by omega))).2
    have a5' := a5.2.1 (by omega)
    by_cases c0 : pickV b p 6 = 0
    · rw [if_pos c0, if_pos (r1 _ (by omega) (by omega)), if_pos a1.1, if_pos (by omega)]
      refine ⟨_, _, _, _, _, rfl, ⟨?_, by omega, by omega⟩, by omega, by omega⟩
      have : (pickV b (p + 1) 3).toNat < 3 := by omega
      generalize (pickV b (p + 1) 3).toNat = k at this
      match k, this with
      | 0, _ => exact ⟨by show -1000 ≤ (0 : Int); omega, by show (0 : Int) ≤ 1000; omega⟩
      | 1, _ => exact ⟨by show -1000 ≤ (301 : Int); omega, by show (301 : Int) ≤ 1000; omega⟩
      | 2, _ => exact ⟨by show -1000 ≤ L + 20; omega, by show L + 20 ≤ 1000; omega⟩
    rw [if_neg c0]
    by_cases c1 : pickV b p 6 = 1
    · rw [if_pos c1, if_pos (r1 _ (by omega) (by omega)), if_pos a1.1, if_pos (by omega)]
      exact ⟨_, _, _, _, _, rfl, hS, by omega, by omega⟩
    rw [if_neg c1]
    by_cases c2 : pickV b p 6 = 2
    · rw [if_pos c2, if_pos (r1 _ (by omega) (by omega)), if_pos (r1 _ (by omega) (by omega)), if_pos a2.1, if_pos (by omega), if_pos a4.1, if_pos a4']
      exact ⟨_, _, _, _, _, rfl, ⟨⟨by omega, by omega⟩, by rw [List.length_set]; omega, by omega⟩, by omega, by omega⟩
    rw [if_neg c2]
    by_cases c3 : pickV b p 6 = 3
    · rw [if_pos c3, if_pos (r1 _ (by omega) (by omega)), if_pos (r1 _ (by omega) (by omega)), if_pos a3.1, if_pos (by omega), if_pos a5.1, if_pos a5']
      exact ⟨_, _, _, _, _, rfl, ⟨⟨by omega, by omega⟩, by omega, by rw [List.length_set]; omega⟩, by omega, by omega⟩
    rw [if_neg c3]
    by_cases c4 : pickV b p 6 = 4
    · rw [if_pos c4, if_pos (by omega)]
      exact ⟨_, _, _, _, _, rfl, ⟨⟨by omega, by omega⟩, by omega, by simp; omega⟩, by omega, by omega⟩
    rw [if_neg c4]
    exact ⟨_, _, _, _, _, rfl, ⟨⟨by omega, by omega⟩, by simp, by omega⟩, by omega, by omega⟩
  obtain ⟨L', Z', W', G', q, e, h1, h2, h3⟩ := key
  have : spoilPR b p L Z W G = (L', Z', W', G', q) := by unfold spoilPR; rw [e]
  rw [this]
  exact ⟨e, h1, h2, h3⟩
theorem K_spec_l15SpoilPlan : Sound1 Try.prog EKs F_spec_l15SpoilPlan.f S_spec_l15SpoilPlan := snd ok_spec_l15SpoilPlan [(F_spec_l6Plan.f, S_spec_l6Plan), (F_spec_l1Rd_pick.f, S_spec_l1Rd_pick)] (tabF_cons K_spec_l6Plan (tabF_cons K_spec_l1Rd_pick (tabF_nil _ _))) fun args sp h hp => by
  unfold S_spec_l15SpoilPlan at h
  split at h
  · rename_i b p L Z W G
    cases h
    simp only [Bool.and_eq_true, decide_eq_true_eq] at hp
    obtain ⟨h1, h2, h3, h4, h5⟩ := hp
    exact ⟨rfl, 0, (spec_l15SpoilPlan_run _ _ _ _ _ _ _).trans (spoilPR_ok h1 h2 h3 h4 h5).1⟩
  · cases h
theorem anyPR_ok {b : List Int} {p : Int} (h : rdOk b p = true) (hp : p < 800000) : PlanSm (anyPR b p).1 (anyPR b p).2.2.1 (anyPR b p).2.2.2.1 ∧ p < (anyPR b p).2.2.2.2 ∧ (anyPR b p).2.2.2.2 ≤ p + 30 := by
  obtain ⟨_, h1, h2, h3⟩ := planR_ok h (by omega)
  have p0 := (rdOk_of h).1.2.1
  unfold anyPR
  split
  · obtain ⟨_, a1, a2, a3⟩ := spoilPR_ok (b := b) (p := (planR b p).2.2.2.2 + 1) (L := (planR b p).1) (Z := (planR b p).2.1) (W := (planR b p).2.2.1) (G := (planR b p).2.2.2.1) (rdOk_mk h (by omega) (by omega)) (by omega) (by have := h1.1; omega) h1.2.2.2.1 (by have := h1.2.2.2.1; have := h1.2.2.2.2.1; omega)
    exact ⟨a1, by omega, by omega⟩
  · exact ⟨planP_sm h1, by show p < _ + 1; omega, by show _ + 1 ≤ _; omega⟩
theorem K_spec_l15AnyPlan : Sound1 Try.prog EKs F_spec_l15AnyPlan.f S_spec_l15AnyPlan := snd ok_spec_l15AnyPlan [(F_spec_l15Plan.f, S_spec_l15Plan), (F_spec_l1Rd_pick.f, S_spec_l1Rd_pick), (F_spec_l15SpoilPlan.f, S_spec_l15SpoilPlan)] (tabF_cons K_spec_l15Plan (tabF_cons K_spec_l1Rd_pick (tabF_cons K_spec_l15SpoilPlan (tabF_nil _ _)))) fun args sp h hp => by
  unfold S_spec_l15AnyPlan at h
  split at h
  · rename_i b p
    cases h
    simp only [Bool.and_eq_true, decide_eq_true_eq] at hp
    obtain ⟨h1, h2⟩ := hp
    obtain ⟨_, hP, q1, q2⟩ := planR_ok h1 (by omega)
    have p0 := (rdOk_of h1).1.2.1
    refine ⟨rfl, 0, (spec_l15AnyPlan_run _ _ _).trans ?_⟩
    unfold spec_l15AnyPlan_T anyPR
    simp only [Bool.cond_eq_ite, decide_eq_true_eq, Bool.and_eq_true]
    rw [if_pos ⟨h1, by omega⟩, if_pos (rdOk_mk h1 (by omega) (by omega))]
    cases hc : (pickV b (planR b p).2.2.2.2 12 == 0) with
    | true =>
      have hL := hP.1
      have hW := hP.2.2.2.1
      have hG := hP.2.2.2.2.1
      rw [if_pos rfl, if_pos]
      exact ⟨rdOk_mk h1 (by omega) (by omega), by omega, ⟨by omega, by omega⟩, hW, by omega, by omega⟩
    | false => rw [if_neg (by simp)]
  · cases h
theorem thingL_succ (b : List Int) (p : Int) (n : Nat) : thingL b p (n + 1) = thingL b p n ++ [bt ⟨#[97, 98, 99, 100, 101, 102, 103, 104]⟩ (pickV b (p + (n : Nat)) 8)] := by
  unfold thingL
  rw [List.range_succ, List.map_append]; rfl
theorem thingL_len (b : List Int) (p : Int) (n : Nat) : (thingL b p n).length = n := by simp [thingL]
theorem thingD_size (b : List Int) (p : Int) (n : Nat) : (thingD b p n).size = n := by unfold thingD; rw [strOf_size, thingL_len]
theorem K_spec_l15Thing : Sound1 Try.prog EKs F_spec_l15Thing.f S_spec_l15Thing := snd ok_spec_l15Thing [(F_spec_l1Rd_pick.f, S_spec_l1Rd_pick)] (tabF_cons K_spec_l1Rd_pick (tabF_nil _ _)) fun args sp h hp => by
  unfold S_spec_l15Thing at h
  split at h
  · rename_i b p n
    cases h
    simp only [Bool.and_eq_true, decide_eq_true_eq] at hp
    obtain ⟨h1, h2, h3⟩ := hp
    have p0 := (rdOk_of h1).1.2.1
    refine ⟨rfl, n.toNat + 1, (spec_l15Thing_run _ _ _ _).trans ?_⟩
    refine fix5 (T := fun k => spec_l15Thing_T3 k) (fun i n' b' p' r => (n' = n ∧ b' = b) ∧ (0 ≤ i ∧ (i ≤ n ∨ i = 0)) ∧ p' = p + i ∧ r = thingL b p i.toNat) (fun i _ _ _ _ => (n - i).toNat) (fun _ _ _ _ _ => ([T (thingD b p n.toNat)], [rdC b (p + (n.toNat : Nat))])) ?_ _ _ _ _ _ _ ⟨⟨rfl, rfl⟩, ⟨by omega, .inr rfl⟩, by omega, rfl⟩ (by omega)
    intro i n' b' p' r K hI hK
    obtain ⟨⟨e1, e2⟩, ⟨q0, q1⟩, e3, e4⟩ := hI
    rw [e1, e2, e3, e4]
    unfold spec_l15Thing_T3
    simp only [Bool.cond_eq_ite, decide_eq_true_eq]
    by_cases hi : i < n
    · have hr : rdOk b (p + i) = true := rdOk_mk h1 (by omega) (by omega)
      have hk := (pick_eq (n := 8) hr).2
      have hk' := hk.2.1 (by omega)
      have e8 : (ByteArray.size { data := #[97, 98, 99, 100, 101, 102, 103, 104] }) = 8 := rfl
      rw [if_pos hi, if_pos hr, if_pos hk.1, e8, if_pos (by omega), if_pos (by rw [thingL_len]; omega), w64i q0 (by omega)]
      refine hK _ _ _ _ _ ⟨⟨rfl, rfl⟩, ⟨by omega, .inl (by omega)⟩, by omega, ?_⟩ (by omega)
      rw [toNat_succ q0, thingL_succ, show p + ((i.toNat : Nat) : Int) = p + i by omega]
    · have : i.toNat = n.toNat := by omega
      rw [if_neg hi, this, show p + ((n.toNat : Nat) : Int) = p + i by omega]; rfl
  · cases h
theorem cutR_ok {b : List Int} (h : byOk b = true) : PlanSm (cutR b).1 (cutR b).2.2.1 (cutR b).2.2.2.1 ∧ (cutR b).2.2.2.2.size ≤ 301 := by
  obtain ⟨h1, _⟩ := anyPR_ok (byOk_rd h) (by omega)
  refine ⟨h1, ?_⟩
  show (thingD _ _ _).size ≤ 301
  rw [thingD_size]
  unfold cutN
  dsimp only
  split <;> split <;> omega
theorem K_spec_DrawPlanCut : Sound1 Try.prog EKs F_spec_DrawPlanCut.f S_spec_DrawPlanCut := snd ok_spec_DrawPlanCut [(F_spec_l1Open.f, S_spec_l1Open), (F_spec_l15AnyPlan.f, S_spec_l15AnyPlan), (F_spec_l1Rd_pick.f, S_spec_l1Rd_pick), (F_spec_l15Thing.f, S_spec_l15Thing)] (tabF_cons K_spec_l1Open (tabF_cons K_spec_l15AnyPlan (tabF_cons K_spec_l1Rd_pick (tabF_cons K_spec_l15Thing (tabF_nil _ _))))) fun args sp h hp => by
  unfold S_spec_DrawPlanCut at h
  split at h
  · rename_i b
    cases h
    have h0 := byOk_rd hp
    obtain ⟨a0, a1, a2⟩ := anyPR_ok h0 (by omega)
    have aL := a0.1
    refine ⟨rfl, 0, (spec_DrawPlanCut_run _ _).trans ?_⟩
    unfold spec_DrawPlanCut_T cutR cutN
    rw [w64 (x := (anyPR (b.take 2000) 0).1 + 1) (by omega) (by omega)]
    simp only [Bool.cond_eq_ite, decide_eq_true_eq, Bool.and_eq_true]
    have r1 : rdOk (b.take 2000) (anyPR (b.take 2000) 0).2.2.2.2 = true := rdOk_mk h0 (by omega) (by omega)
    have r2 : rdOk (b.take 2000) ((anyPR (b.take 2000) 0).2.2.2.2 + 1) = true := rdOk_mk h0 (by omega) (by omega)
    rw [if_pos ⟨h0, by omega⟩, if_pos r1]
    cases hc : (pickV (b.take 2000) (anyPR (b.take 2000) 0).2.2.2.2 12 == 0) with
    | true =>
      rw [if_pos rfl]
      by_cases c : (anyPR (b.take 2000) 0).1 + 1 > 301
      · rw [if_pos c, if_pos ⟨r2, by omega, by omega⟩]; simp only [if_pos c]; rfl
      · rw [if_neg c, if_pos ⟨r2, by omega, by omega⟩]; simp only [if_neg c]
    | false =>
      rw [if_neg (by simp)]
      by_cases c : (anyPR (b.take 2000) 0).1 > 301
      · rw [if_pos c, if_pos ⟨r2, by omega, by omega⟩]; simp only [if_pos c]; rfl
      · rw [if_neg c, if_pos ⟨r2, by omega, by omega⟩]; simp only [if_neg c]
  · cases h
end Go.Proofs.Ythcahoeoofggjaa.V
namespace Go.Proofs.Ythcahoeoofggjaa.V
open Go Vx Vx.N
/-! ### Blocks -/
theorem ba_ext_cat {a : ByteArray} {i j : Nat} (h : i ≤ j) : a.extract 0 i ++ a.extract i j = a.extract 0 j := by
  apply ByteArray.ext
  rw [ByteArray.data_append, ByteArray.data_extract, ByteArray.data_extract, ByteArray.data_extract, Array.extract_append_extract]
  congr 1 <;> omega
theorem plan_z {L Z : Int} {W G : List Int} (h : PlanP L Z W G) : (0 ≤ cnt L Z ∧ cnt L Z ≤ 24) ∧ L ≤ cnt L Z * Z ∧ cnt L Z * Z ≤ 400 := by
  obtain ⟨h1, h2, h3, _⟩ := h
  refine ⟨⟨by omega, h3.2⟩, (cnt_le h2.1).1 (Int.le_refl _), ?_⟩
  have := Int.mul_le_mul h3.2 h2.2 (by omega) (by omega)
  omega
theorem allT_size {L Z : Int} {W G : List Int} {t : ByteArray} (h : PlanP L Z W G) (ht : (t.size : Int) = L) : ((allT L Z t).size : Int) = cnt L Z * Z := by
  have := plan_z h
  unfold allT
  rw [ByteArray.size_append, zerosB_size]
  omega
theorem cut_range (L Z : Int) (t : ByteArray) (n : Nat) : (List.range (n + 1)).map (blockT L Z t) = (List.range n).map (blockT L Z t) ++ [blockT L Z t n] := by
  rw [List.range_succ, List.map_append]; rfl
theorem mul_nat {Z : Int} (hz : 0 ≤ Z) (i : Nat) : ((i : Int) * Z).toNat = i * Z.toNat := by
  obtain ⟨z, rfl⟩ : ∃ z : Nat, Z = z := ⟨Z.toNat, by omega⟩
  rw [← Int.natCast_mul, Int.toNat_natCast, Int.toNat_natCast]
theorem K_spec_l5Cut : Sound1 Try.prog EKs F_spec_l5Cut.f S_spec_l5Cut := snd ok_spec_l5Cut [(F_spec_l5Count.f, S_spec_l5Count), (F_spec_l3Zero.f, S_spec_l3Zero)] (tabF_cons K_spec_l5Count (tabF_cons K_spec_l3Zero (tabF_nil _ _))) fun args sp h hp => by
  unfold S_spec_l5Cut at h
  split at h
  · rename_i L Z W G t
    cases h
    simp only [Bool.and_eq_true, decide_eq_true_eq] at hp
    obtain ⟨hb, ht⟩ := hp
    have hP := planB_iff.1 hb
    obtain ⟨c1, c2, c3⟩ := plan_z hP
    have hs := allT_size hP ht
    obtain ⟨h1, h2, _⟩ := hP
    refine ⟨rfl, 30, (spec_l5Cut_run _ _ _ _ _ _).trans ?_⟩
    have hz : 1 ≤ Z ∧ Z ≤ 16 ∧ 0 ≤ L ∧ L < 1000 := ⟨by omega, by omega, by omega, by omega⟩
    have hsz : (cnt L Z * Z - L).toNat < 1000 := by omega
    unfold spec_l5Cut_T
    rw [w64 (x := cnt L Z * Z) (by omega) (by omega), ht, w64 (x := cnt L Z * Z - L) (by omega) (by omega), decide_eq_true hz, decide_eq_true (show 0 ≤ cnt L Z * Z - L ∧ cnt L Z * Z - L < 100000000 by omega), decide_eq_true (show t.size + (zerosB (cnt L Z * Z - L).toNat).size < 1099511627776 by rw [zerosB_size]; omega)]
    show spec_l5Cut_W4 30 30 (0, allT L Z t, L, Z, W, G, []) = _
    refine fix7 (T := fun k => spec_l5Cut_T4 k) (fun i a L' Z' W' G' r => (a = allT L Z t ∧ L' = L ∧ Z' = Z ∧ W' = W ∧ G' = G) ∧ (0 ≤ i ∧ i ≤ cnt L Z) ∧ r = (List.range i.toNat).map (blockT L Z t)) (fun i _ _ _ _ _ _ => (cnt L Z - i).toNat) (fun _ _ _ _ _ _ _ => ([Ts (cutL L Z t)], [])) ?_ _ _ _ _ _ _ _ _ ⟨⟨rfl, rfl, rfl, rfl, rfl⟩, ⟨by omega, by omega⟩, rfl⟩ (by omega)
    intro i a L' Z' W' G' r K hI hK
    obtain ⟨⟨e1, e2, e3, e4, e5⟩, ⟨q0, q1⟩, e6⟩ := hI
    rw [e1, e2, e3, e4, e5, e6]
    unfold spec_l5Cut_T4
    dsimp only
    by_cases hi : i < cnt L Z
    · have b0 : 0 ≤ i * Z := Int.mul_nonneg q0 (by omega)
      have b1 : (i + 1) * Z ≤ cnt L Z * Z := Int.mul_le_mul_of_nonneg_right (by omega) (by omega)
      have b2 : (i + 1) * Z = i * Z + Z := by rw [Int.add_mul, Int.one_mul]
      have hl : ((List.range i.toNat).map (blockT L Z t)).length + 1 < 1099511627776 := by rw [List.length_map, List.length_range]; omega
      rw [w64i q0 (by omega), w64 (x := i * Z) (by omega) (by omega), w64 (x := (i + 1) * Z) (by omega) (by omega), decide_eq_true hz, decide_eq_true hi, decide_eq_true b0, decide_eq_true (show i * Z ≤ (i + 1) * Z by omega), hs, decide_eq_true b1, decide_eq_true hl]
      refine hK _ _ _ _ _ _ _ ⟨⟨rfl, rfl, rfl, rfl, rfl⟩, ⟨by omega, by omega⟩, ?_⟩ (by omega)
      rw [toNat_succ q0, cut_range]
      have e7 : (i * Z).toNat = i.toNat * Z.toNat := by rw [← mul_nat (by omega), Int.toNat_of_nonneg q0]
      have e8 : ((i + 1) * Z).toNat = (i.toNat + 1) * Z.toNat := by rw [← mul_nat (by omega), Int.natCast_add, Int.toNat_of_nonneg q0]; rfl
      rw [e7, e8]; rfl
    · rw [decide_eq_true hz, decide_eq_false hi, show i.toNat = (cnt L Z).toNat by omega]; rfl
  · cases h
theorem K_impl_PlanCut : Sound1 Try.prog EKs F_impl_PlanCut.f S_impl_PlanCut := snd ok_impl_PlanCut [(F_impl_PlanOk.f, S_impl_PlanOk), (F_impl_Plan_count.f, S_impl_Plan_count), (F_impl_zeros.f, S_impl_zeros)] (tabF_cons K_impl_PlanOk (tabF_cons K_impl_Plan_count (tabF_cons K_impl_zeros (tabF_nil _ _)))) fun args sp h hp => by
  unfold S_impl_PlanCut at h
  split at h
  · rename_i L Z W G t
    cases h
    have hp : (sm W.length && sm G.length) = true := hp
    refine ⟨rfl, 30, (impl_PlanCut_run _ _ _ _ _ _).trans ?_⟩
    unfold impl_PlanCut_T cutS
    rw [hp]
    cases hb : planB L Z W G with
    | false => rfl
    | true =>
      by_cases ht : (t.size : Int) = L
      rotate_left
      · rw [decide_eq_false ht, bne_iff_ne.2 ht]; rfl
      have hP := planB_iff.1 hb
      obtain ⟨c1, c2, c3⟩ := plan_z hP
      have hs := allT_size hP ht
      obtain ⟨h1, h2, _⟩ := hP
      have hz : 1 ≤ Z ∧ Z ≤ 16 ∧ 0 ≤ L ∧ L < 1000 := ⟨by omega, by omega, by omega, by omega⟩
      have hsz : (cnt L Z * Z - L).toNat < 1000 := by omega
      have hne : ((t.size : Int) != L) = false := by rw [ht]; simp
      rw [hne, w64 (x := cnt L Z * Z) (by omega) (by omega), w64 (x := cnt L Z * Z - L) (by omega) (by omega), decide_eq_true hz, decide_eq_true (show 0 ≤ cnt L Z * Z - L ∧ cnt L Z * Z - L < 1000000000 by omega), decide_eq_true (show t.size + (zerosB (cnt L Z * Z - L).toNat).size < 1099511627776 by rw [zerosB_size]; omega), decide_eq_true ht]
      show impl_PlanCut_W6 30 30 (0, allT L Z t, L, Z, W, G, []) = _
      refine fix7 (T := fun k => impl_PlanCut_T6 k) (fun x a L' Z' W' G' r => (a = allT L Z t ∧ L' = L ∧ Z' = Z ∧ W' = W ∧ G' = G) ∧ ∃ i : Nat, x = i * Z ∧ (i : Int) ≤ cnt L Z ∧ r = (List.range i).map (blockT L Z t)) (fun _ _ _ _ _ _ r => 24 - r.length) (fun _ _ _ _ _ _ _ => ([Ts (cutL L Z t)], [])) ?_ _ _ _ _ _ _ _ _ ⟨⟨rfl, rfl, rfl, rfl, rfl⟩, 0, by simp, by omega, rfl⟩ (by simp)
      intro x a L' Z' W' G' r K hI hK
      obtain ⟨⟨e1, e2, e3, e4, e5⟩, i, e6, q1, e7⟩ := hI
      rw [e1, e2, e3, e4, e5, e6, e7]
      unfold impl_PlanCut_T6
      dsimp only
      have hrl : ((List.range i).map (blockT L Z t)).length = i := by rw [List.length_map, List.length_range]
      have b0 : 0 ≤ (i : Int) * Z := Int.mul_nonneg (by omega) (by omega)
      by_cases hi : (i : Int) < cnt L Z
      · have b1 : ((i : Int) + 1) * Z ≤ cnt L Z * Z := Int.mul_le_mul_of_nonneg_right (by omega) (by omega)
        have b2 : ((i : Int) + 1) * Z = i * Z + Z := by rw [Int.add_mul, Int.one_mul]
        have hl : ((List.range i).map (blockT L Z t)).length + 1 < 1099511627776 := by rw [hrl]; omega
        rw [hs, w64 (x := (i : Int) * Z + Z) (by omega) (by omega), decide_eq_true (show (i : Int) * Z < cnt L Z * Z by omega), decide_eq_true b0, decide_eq_true (show (i : Int) * Z ≤ i * Z + Z by omega), decide_eq_true (show (i : Int) * Z + Z ≤ cnt L Z * Z by omega), decide_eq_true hl]
        refine hK _ _ _ _ _ _ _ ⟨⟨rfl, rfl, rfl, rfl, rfl⟩, i + 1, by rw [← b2]; rfl, by omega, ?_⟩ (by rw [e7, List.length_append, hrl]; simp only [List.length_singleton]; omega)
        rw [cut_range]
        have e9 : ((i : Int) * Z).toNat = i * Z.toNat := mul_nat (by omega) i
        have e8 : ((i : Int) * Z + Z).toNat = (i + 1) * Z.toNat := by rw [← b2, ← mul_nat (by omega) (i + 1)]; rfl
        rw [e9, e8]; rfl
      · have : i = (cnt L Z).toNat := by omega
        have b3 : (i : Int) * Z = cnt L Z * Z := by rw [this, Int.toNat_of_nonneg (by omega)]
        rw [hs, b3, decide_eq_false (by omega), this]; rfl
  · cases h
end Go.Proofs.Ythcahoeoofggjaa.V
