/- What functions come to, and that they do so; conditions: those that each theorem states. -/
import Derived.Test.YthcahoeoofggjaaKeK9c
set_option linter.unusedVariables false
set_option linter.unusedSimpArgs false
namespace Go.Proofs.Ythcahoeoofggjaa.V
open Go Vx Vx.N
/-! ### Symbols -/
theorem K_impl_RowSum : Sound1 Try.prog EKs F_impl_RowSum.f S_impl_RowSum := snd ok_impl_RowSum [(F_impl_RowOk.f, S_impl_RowOk), (F_impl_zeros.f, S_impl_zeros), (F_impl_xor.f, S_impl_xor)] (tabF_cons K_impl_RowOk (tabF_cons K_impl_zeros (tabF_cons K_impl_xor (tabF_nil _ _)))) fun args sp h hp => by
  unfold S_impl_RowSum at h
  split at h
  · rename_i bl row
    cases h
    simp only [Bool.and_eq_true, decide_eq_true_eq] at hp
    obtain ⟨hbl, hrl⟩ := hp
    refine ⟨rfl, bl.length + 30, (impl_RowSum_run _ _ _).trans ?_⟩
    unfold impl_RowSum_T
    have no : ¬ SumP bl row → sumS bl row = (⟨#[]⟩, false) := fun h => by unfold sumS; rw [cdec_f h]
    simp only [Bool.cond_eq_ite, decide_eq_true_eq, Bool.not_eq_true', beq_iff_eq, decide_eq_false_iff_not]
    by_cases h1 : (bl.length : Int) = 0
    · rw [if_pos h1, no fun H => by have := H.1; omega]
    rw [if_neg h1, if_pos (by omega)]
    by_cases h2 : ((bl.getD 0 ⟨#[]⟩).size : Int) > 16
    · rw [if_pos h2, no fun H => by have := H.2.1; omega]
    rw [if_neg h2, if_pos hrl]
    by_cases h3 : RowP row bl.length
    rotate_left
    · rw [if_pos h3, no fun H => h3 H.2.2.1]
    rw [if_neg (not_not_intro h3)]
    have hrs := rowP_short h3
    generalize hz0 : (bl.getD 0 ⟨#[]⟩).size = z at *
    have hlen0 : 0 < bl.length := by omega
    refine fix5 (T := fun k => impl_RowSum_T4 k (impl_RowSum_W11 (bl.length + 30) (bl.length + 30))) (fun i n l row' bl' => (n = bl.length ∧ l = bl ∧ row' = row ∧ bl' = bl) ∧ (0 ≤ i ∧ i ≤ bl.length) ∧ ∀ j, j < i.toNat → (bl.getD j ⟨#[]⟩).size = z) (fun i _ _ _ _ => (bl.length - i).toNat) (fun _ _ _ _ _ => ([T (sumS bl row).1, B (sumS bl row).2], [])) ?_ _ _ _ _ _ _ ⟨⟨rfl, rfl, rfl, rfl⟩, ⟨by omega, by omega⟩, fun j hj => by rw [Int.toNat_zero] at hj; omega⟩ (by omega)
    intro i n l row' bl' K hI hK
    obtain ⟨⟨e1, e2, e3, e4⟩, ⟨q0, q1⟩, q2⟩ := hI
    rw [e1, e2, e3, e4]
    unfold impl_RowSum_T4
    simp only [Bool.cond_eq_ite, decide_eq_true_eq, bne_iff_ne, ne_eq]
    by_cases hi : i < (bl.length : Int)
    · have hlt : i.toNat < bl.length := by omega
      rw [if_pos hi, if_pos q0, if_pos hi, if_pos (by omega), hz0]
      by_cases c : (((bl.getD i.toNat ⟨#[]⟩).size : Int) = z)
      · rw [if_neg (not_not_intro c), w64i q0 (by omega)]
        refine hK _ _ _ _ _ ⟨⟨rfl, rfl, rfl, rfl⟩, ⟨by omega, by omega⟩, fun j hj => ?_⟩ (by omega)
        by_cases e : j = i.toNat
        · rw [e]; omega
        · exact q2 j (by omega)
      · rw [if_pos c, no fun H => by
          have := H.2.2.2 _ (List.getElem_mem hlt)
          rw [← getD_lt hlt ⟨#[]⟩, hz0] at this
          omega]
    · have hall : ∀ b ∈ bl, b.size = z := fun b hb => by
        obtain ⟨j, hj, rfl⟩ := List.mem_iff_getElem.1 hb
        have := q2 j (by omega)
        rw [getD_lt hj] at this
        exact this
      have hS : sumS bl row = (sumB bl row (zerosB z), true) := by
        unfold sumS
        rw [cdec_t ⟨hlen0, by omega, h3, fun b hb => by rw [hz0]; exact hall b hb⟩, hz0]
      rw [if_neg hi, if_pos (by omega), hz0, if_pos ⟨by omega, by omega⟩, Int.toNat_natCast, hS]
      refine fix5 (T := fun k => impl_RowSum_T11 k) (fun i n l out bl' => (n = row.length ∧ l = row ∧ bl' = bl) ∧ (0 ≤ i ∧ i ≤ row.length) ∧ out = sumB bl (row.take i.toNat) (zerosB z) ∧ out.size = z) (fun i _ _ _ _ => (row.length - i).toNat) (fun _ _ _ _ _ => ([T (sumB bl row (zerosB z)), B true], [])) ?_ _ _ _ _ _ _ ⟨⟨rfl, rfl, rfl⟩, ⟨by omega, by omega⟩, rfl, by rw [zerosB_size]⟩ (by omega)
      intro i n l out bl' K hI hK
      obtain ⟨⟨e1, e2, e3⟩, ⟨q0, q1⟩, e4, q3⟩ := hI
      rw [e1, e2, e3]
      unfold impl_RowSum_T11
      simp only [Bool.cond_eq_ite, decide_eq_true_eq]
      by_cases hi : i < (row.length : Int)
      · have hlt : i.toNat < row.length := by omega
        have hx := h3.2.2.2 _ (List.getElem_mem hlt)
        rw [← getD_lt hlt 0] at hx
        have hlt2 : (row.getD i.toNat 0).toNat < bl.length := by omega
        have hsz := hall _ (List.getElem_mem hlt2)
        rw [← getD_lt hlt2 ⟨#[]⟩] at hsz
        rw [if_pos hi, if_pos q0, if_pos hi, if_pos hx.1, if_pos hx.2, if_pos ⟨by omega, by omega⟩, w64i q0 (by omega)]
        refine hK _ _ _ _ _ ⟨⟨rfl, rfl, rfl⟩, ⟨by omega, by omega⟩, ?_, ?_⟩ (by omega)
        · rw [toNat_succ q0, sumB_take _ _ _ _ hlt, e4]
        · rw [xorB_size _ _ (by omega)]; exact q3
      · rw [if_neg hi, e4, List.take_of_length_le (by omega)]
  · cases h
theorem cutL_len (L Z : Int) (t : ByteArray) : (cutL L Z t).length = (cnt L Z).toNat := by simp [cutL]
theorem cutL_size {L Z : Int} {W G : List Int} {t : ByteArray} (h : PlanP L Z W G) (ht : (t.size : Int) = L) : ∀ b ∈ cutL L Z t, b.size = Z.toNat := by
  intro b hb
  unfold cutL at hb
  obtain ⟨i, hi, rfl⟩ := List.mem_map.1 hb
  have hlt := List.mem_range.1 hi
  have hs := allT_size h ht
  have h2 := h.2.1
  have h3 := h.2.2.1
  have hzn : ((cnt L Z).toNat * Z.toNat) = (allT L Z t).size := by
    have := mul_nat (Z := Z) (by omega) (cnt L Z).toNat
    rw [Int.toNat_of_nonneg (by omega)] at this
    omega
  have hb1 : (i + 1) * Z.toNat ≤ (allT L Z t).size := by rw [← hzn]; exact Nat.mul_le_mul_right _ hlt
  have hb2 : (i + 1) * Z.toNat = i * Z.toNat + Z.toNat := Nat.succ_mul _ _
  unfold blockT
  rw [ByteArray.size_extract]
  omega
theorem rowPl_in {L Z : Int} {W G : List Int} {id : Int} (t : ByteArray) (h : PlanP L Z W G) (hid : 0 ≤ id) : ∀ x ∈ rowPl L Z W G id, 0 ≤ x ∧ x < ((cutL L Z t).length : Int) := fun x hx => by
  have := (rowPl_ok h hid).1.2.2.2 x hx
  have h3 := h.2.2.1
  rw [cutL_len, Int.toNat_of_nonneg (by omega)]
  exact this
theorem symB_size {L Z : Int} {W G : List Int} {id : Int} {t : ByteArray} (h : PlanP L Z W G) (ht : (t.size : Int) = L) (hid : 0 ≤ id) : ((symB L Z W G t id).size : Int) = Z := by
  have h2 := h.2.1
  unfold symB
  rw [sumB_size (cutL_size h ht) _ _ (rowPl_in t h hid) (zerosB_size _)]
  omega
theorem sum_eq {L Z : Int} {W G : List Int} {id : Int} {t : ByteArray} (h : PlanP L Z W G) (ht : (t.size : Int) = L) (hid : 0 ≤ id) : sumS (cutL L Z t) (rowPl L Z W G id) = (symB L Z W G t id, true) := by
  have h3 := h.2.2.1
  have h2 := h.2.1
  have hsz := cutL_size h ht
  have hl := cutL_len L Z t
  have h0 : ((cutL L Z t).getD 0 ⟨#[]⟩).size = Z.toNat := by
    rw [getD_lt (by omega)]
    exact hsz _ (List.getElem_mem _)
  unfold sumS symB
  rw [cdec_t ⟨by omega, by omega, by
    rw [hl, Int.toNat_of_nonneg (by omega)]
    exact (rowPl_ok h hid).1, fun b hb => by rw [h0]; exact hsz b hb⟩, h0]
theorem K_spec_PlanSymbol : Sound1 Try.prog EKs F_spec_PlanSymbol.f S_spec_PlanSymbol := snd ok_spec_PlanSymbol [(F_spec_PlanOk.f, S_spec_PlanOk), (F_spec_l1In.f, S_spec_l1In), (F_spec_l2Sum.f, S_spec_l2Sum), (F_spec_l5Cut.f, S_spec_l5Cut), (F_spec_l5Row.f, S_spec_l5Row)]
    (tabF_cons K_spec_PlanOk (tabF_cons K_spec_l1In (tabF_cons K_spec_l2Sum (tabF_cons K_spec_l5Cut (tabF_cons K_spec_l5Row (tabF_nil _ _)))))) fun args sp h hp => by
  unfold S_spec_PlanSymbol at h
  split at h
  · rename_i L Z W G t id
    cases h
    have hp : (sm W.length && sm G.length) = true := hp
    refine ⟨rfl, 0, (spec_PlanSymbol_run _ _ _ _ _ _ _).trans ?_⟩
    unfold spec_PlanSymbol_T symS
    rw [hp]
    cases hb : planB L Z W G with
    | false => rfl
    | true =>
      by_cases ht : (t.size : Int) = L
      rotate_left
      · rw [decide_eq_false ht, bne_iff_ne.2 ht]; rfl
      have hne : ((t.size : Int) != L) = false := by rw [ht]; simp
      rw [hne, decide_eq_true ht]
      cases hd : inB id 0 9999 with
      | false => rfl
      | true =>
        have hid := inB_of.1 hd
        have hP := planB_iff.1 hb
        have h2 := hP.2.1
        have hr := rowPl_ok hP hid.1
        have hrl := rowP_short hr.1
        have hall : (decide (0 ≤ Z ∧ Z < 1000000 ∧ (rowPl L Z W G id).length < 1000000) && ((List.all (cutL L Z t) fun b => decide ((b.size : Int) = Z)) && List.all (rowPl L Z W G id) fun x => decide (0 ≤ x ∧ x < ((cutL L Z t).length : Int)))) = true := by
          simp only [Bool.and_eq_true, decide_eq_true_eq, List.all_eq_true]
          exact ⟨⟨by omega, by omega, by omega⟩, fun b hb => by rw [cutL_size hP ht b hb]; omega, rowPl_in t hP hid.1⟩
        rw [decide_eq_true hid, hall]; rfl
  · cases h
theorem cutS_sm (L Z : Int) (W G : List Int) (t : ByteArray) : sm (cutS L Z W G t).length = true := by
  unfold cutS
  cases hb : planB L Z W G && decide ((t.size : Int) = L) with
  | false => rfl
  | true =>
    simp only [Bool.and_eq_true, decide_eq_true_eq] at hb
    have := plan_z (planB_iff.1 hb.1)
    exact decide_eq_true (by rw [cutL_len]; omega)
theorem rowPS_sm (L Z : Int) (W G : List Int) (id : Int) : sm (rowPS L Z W G id).length = true := by
  unfold rowPS
  cases hb : planB L Z W G && inB id 0 9999 with
  | false => rfl
  | true =>
    simp only [Bool.and_eq_true] at hb
    have := rowP_short (rowPl_ok (planB_iff.1 hb.1) (inB_of.1 hb.2).1).1
    show sm (rowPl L Z W G id).length = true
    exact decide_eq_true (by omega)
theorem sumS_nil (row : List Int) : sumS [] row = (⟨#[]⟩, false) := by
  unfold sumS
  rw [cdec_f fun H => by have := H.1; simp at this]
theorem K_impl_PlanSymbol : Sound1 Try.prog EKs F_impl_PlanSymbol.f S_impl_PlanSymbol := snd ok_impl_PlanSymbol [(F_impl_within.f, S_impl_within), (F_impl_PlanCut.f, S_impl_PlanCut), (F_impl_PlanRow.f, S_impl_PlanRow), (F_impl_RowSum.f, S_impl_RowSum)]
    (tabF_cons K_impl_within (tabF_cons K_impl_PlanCut (tabF_cons K_impl_PlanRow (tabF_cons K_impl_RowSum (tabF_nil _ _))))) fun args sp h hp => by
  unfold S_impl_PlanSymbol S_spec_PlanSymbol at h
  split at h
  · rename_i L Z W G t id
    cases h
    have hp : (sm W.length && sm G.length) = true := hp
    refine ⟨rfl, 0, (impl_PlanSymbol_run _ _ _ _ _ _ _).trans ?_⟩
    unfold impl_PlanSymbol_T symS
    rw [hp, cutS_sm, rowPS_sm]
    cases hd : inB id 0 9999 with
    | false => cases planB L Z W G <;> cases decide ((t.size : Int) = L) <;> rfl
    | true =>
      unfold cutS rowPS
      rw [hd]
      cases hb : planB L Z W G with
      | false => show some ([T (sumS [] []).1, B (sumS [] []).2], []) = _; rw [sumS_nil]; rfl
      | true =>
        by_cases ht : (t.size : Int) = L
        · have e := sum_eq (planB_iff.1 hb) ht (inB_of.1 hd).1
          rw [decide_eq_true ht]
          show some ([T (sumS (cutL L Z t) (rowPl L Z W G id)).1, B (sumS (cutL L Z t) (rowPl L Z W G id)).2], []) = _
          rw [e]; rfl
        · rw [decide_eq_false ht]
          show some ([T (sumS [] (rowPl L Z W G id)).1, B (sumS [] (rowPl L Z W G id)).2], []) = _
          rw [sumS_nil]; rfl
  · cases h
/-! ### Drawn seeds and numbers -/
theorem five {k : Int} (h : 0 ≤ k ∧ k < 16) : IntKind.wrap .i64 (Int.tdiv (IntKind.wrap .i64 (k * 5)) 16) = k * 5 / 16 := by
  rw [w64 (x := k * 5) (by omega) (by omega), Int.tdiv_eq_ediv_of_nonneg (by omega), w64 (by omega) (by omega)]
theorem seedR_ok {b : List Int} {p : Int} (h : rdOk b p = true) (hp : p < 900000) : spec_l15Seed_T b p = some ([I (seedR b p).1], [rdC b (seedR b p).2]) ∧ p < (seedR b p).2 ∧ (seedR b p).2 ≤ p + 10 := by
  have key : ∃ s q, spec_l15Seed_T b p = some ([I s], [rdC b q]) ∧ p < q ∧ q ≤ p + 10 := by
    have p0 := (rdOk_of h).1.2.1
    have r1 : ∀ q, 0 ≤ q → q < 1000000 → rdOk b q = true := fun q h0 h1 => rdOk_mk h h0 h1
    have k := (pick_eq (n := 16) (r1 (p + 1 + 1 + 1) (by omega) (by omega))).2
    have k2 := k.2.1 (by omega)
    unfold spec_l15Seed_T
    rw [five ⟨k.1, k2⟩]
    simp only [Bool.cond_eq_ite, decide_eq_true_eq]
    rw [if_pos h, if_pos (r1 _ (by omega) (by omega)), if_pos (r1 _ (by omega) (by omega)), if_pos (r1 _ (by omega) (by omega)), if_pos (by omega), if_pos (by show _ < (5 : Int); omega)]
    exact ⟨_, _, rfl, by omega, by omega⟩
  obtain ⟨s, q, e, h1, h2⟩ := key
  have : seedR b p = (s, q) := by unfold seedR; rw [e]
  rw [this]
  exact ⟨e, h1, h2⟩
theorem K_spec_l15Seed : Sound1 Try.prog EKs F_spec_l15Seed.f S_spec_l15Seed := snd ok_spec_l15Seed [(F_spec_l1Rd_pick.f, S_spec_l1Rd_pick)] (tabF_cons K_spec_l1Rd_pick (tabF_nil _ _)) fun args sp h hp => by
  unfold S_spec_l15Seed at h
  split at h
  · rename_i b p
    cases h
    simp only [Bool.and_eq_true, decide_eq_true_eq] at hp
    exact ⟨rfl, 0, (spec_l15Seed_run _ _ _).trans (seedR_ok hp.1 hp.2).1⟩
  · cases h
theorem idR_ok {b : List Int} {p : Int} (h : rdOk b p = true) (hp : p < 900000) : spec_l15Id_T b p = some ([I (idR b p).1], [rdC b (idR b p).2]) ∧ p < (idR b p).2 ∧ (idR b p).2 ≤ p + 10 := by
  have key : ∃ s q, spec_l15Id_T b p = some ([I s], [rdC b q]) ∧ p < q ∧ q ≤ p + 10 := by
    have p0 := (rdOk_of h).1.2.1
    have r1 : ∀ q, 0 ≤ q → q < 1000000 → rdOk b q = true := fun q h0 h1 => rdOk_mk h h0 h1
    have k := (pick_eq (n := 16) (r1 (p + 1 + 1) (by omega) (by omega))).2
    have k2 := k.2.1 (by omega)
    unfold spec_l15Id_T
    rw [five ⟨k.1, k2⟩]
    simp only [Bool.cond_eq_ite, decide_eq_true_eq]
    rw [if_pos h, if_pos (r1 _ (by omega) (by omega)), if_pos (r1 _ (by omega) (by omega)), if_pos (by omega), if_pos (by show _ < (5 : Int); omega)]
    exact ⟨_, _, rfl, by omega, by omega⟩
  obtain ⟨s, q, e, h1, h2⟩ := key
  have : idR b p = (s, q) := by unfold idR; rw [e]
  rw [this]
  exact ⟨e, h1, h2⟩
theorem K_spec_l15Id : Sound1 Try.prog EKs F_spec_l15Id.f S_spec_l15Id := snd ok_spec_l15Id [(F_spec_l1Rd_pick.f, S_spec_l1Rd_pick)] (tabF_cons K_spec_l1Rd_pick (tabF_nil _ _)) fun args sp h hp => by
  unfold S_spec_l15Id at h
  split at h
  · rename_i b p
    cases h
    simp only [Bool.and_eq_true, decide_eq_true_eq] at hp
    exact ⟨rfl, 0, (spec_l15Id_run _ _ _).trans (idR_ok hp.1 hp.2).1⟩
  · cases h
theorem K_spec_DrawRowDraw : Sound1 Try.prog EKs F_spec_DrawRowDraw.f S_spec_DrawRowDraw := snd ok_spec_DrawRowDraw [(F_spec_l1Open.f, S_spec_l1Open), (F_spec_l1Rd_pick.f, S_spec_l1Rd_pick), (F_spec_l15Seed.f, S_spec_l15Seed)] (tabF_cons K_spec_l1Open (tabF_cons K_spec_l1Rd_pick (tabF_cons K_spec_l15Seed (tabF_nil _ _)))) fun args sp h hp => by
  unfold S_spec_DrawRowDraw at h
  split at h
  · rename_i b
    cases h
    have h0 := byOk_rd hp
    have h1 : rdOk (b.take 2000) (0 + 1) = true := rdOk_mk h0 (by omega) (by omega)
    refine ⟨rfl, 0, (spec_DrawRowDraw_run _ _).trans ?_⟩
    unfold spec_DrawRowDraw_T
    rw [h0, h1]; rfl
  · cases h
theorem K_spec_DrawPlanRow : Sound1 Try.prog EKs F_spec_DrawPlanRow.f S_spec_DrawPlanRow := snd ok_spec_DrawPlanRow [(F_spec_l1Open.f, S_spec_l1Open), (F_spec_l15AnyPlan.f, S_spec_l15AnyPlan), (F_spec_l15Id.f, S_spec_l15Id)] (tabF_cons K_spec_l1Open (tabF_cons K_spec_l15AnyPlan (tabF_cons K_spec_l15Id (tabF_nil _ _)))) fun args sp h hp => by
  unfold S_spec_DrawPlanRow at h
  split at h
  · rename_i b
    cases h
    have h0 := byOk_rd hp
    obtain ⟨_, h1, h2⟩ := anyPR_ok h0 (by omega)
    refine ⟨rfl, 0, (spec_DrawPlanRow_run _ _).trans ?_⟩
    unfold spec_DrawPlanRow_T
    simp only [Bool.cond_eq_ite, decide_eq_true_eq, Bool.and_eq_true]
    rw [if_pos ⟨h0, by omega⟩, if_pos ⟨rdOk_mk h0 (by omega) (by omega), by omega⟩]
    rfl
  · cases h
theorem K_spec_DrawPlanSymbol : Sound1 Try.prog EKs F_spec_DrawPlanSymbol.f S_spec_DrawPlanSymbol := snd ok_spec_DrawPlanSymbol [(F_spec_l1Open.f, S_spec_l1Open), (F_spec_l15Id.f, S_spec_l15Id), (F_spec_DrawPlanCut.f, S_spec_DrawPlanCut)] (tabF_cons K_spec_l1Open (tabF_cons K_spec_l15Id (tabF_cons K_spec_DrawPlanCut (tabF_nil _ _)))) fun args sp h hp => by
  unfold S_spec_DrawPlanSymbol at h
  split at h
  · rename_i b
    cases h
    have h0 := byOk_rd hp
    have hp : byOk b = true := hp
    refine ⟨rfl, 0, (spec_DrawPlanSymbol_run _ _).trans ?_⟩
    unfold spec_DrawPlanSymbol_T
    rw [h0, hp]; rfl
  · cases h
end Go.Proofs.Ythcahoeoofggjaa.V
