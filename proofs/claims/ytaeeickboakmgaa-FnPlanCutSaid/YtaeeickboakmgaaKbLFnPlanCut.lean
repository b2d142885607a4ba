/- What functions come to, and that they do so; conditions: those that each theorem states. -/
import Derived.Test.YtaeeickboakmgaaKbK8cG
set_option linter.unusedVariables false
set_option linter.unusedSimpArgs false
namespace Go.Proofs.Ytaeeickboakmgaa.V
open Go Vx Vx.N
/-! ### The law -/
noncomputable def S_laws_FnPlanCut : List DA → Option Sp
  | [.c (.row (.ints .u8 b))] => some ⟨byOk b, [B true], [], .fresh⟩
  | _ => none
theorem bA_app_r (a b : ByteArray) (j : Nat) (h : a.size ≤ j) : bA (a ++ b) j = bA b (j - a.size) := by
  unfold bA
  rw [ByteArray.data_append, Array.toList_append, List.getD_eq_getElem?_getD, List.getElem?_append_right (by simpa using h), List.getD_eq_getElem?_getD]
  rfl
theorem ext_left (a b : ByteArray) : (a ++ b).extract 0 a.size = a := by
  apply ByteArray.ext
  rw [ByteArray.data_extract, ByteArray.data_append, Array.extract_append]
  show a.data.extract 0 a.data.size ++ b.data.extract (0 - a.data.size) (a.data.size - a.data.size) = a.data
  simp
theorem K_laws_FnPlanCut : Sound1 Try.prog EKs F_laws_FnPlanCut.f S_laws_FnPlanCut := snd ok_laws_FnPlanCut [(F_spec_DrawPlanCut.f, S_spec_DrawPlanCut), (F_impl_PlanCut.f, S_impl_PlanCut), (F_spec_PlanCut.f, S_spec_PlanCut), (F_laws_whWords.f, S_laws_whWords), (F_impl_PlanCount.f, S_impl_PlanCount)]
    (tabF_cons K_spec_DrawPlanCut (tabF_cons K_impl_PlanCut (tabF_cons K_spec_PlanCut (tabF_cons K_laws_whWords (tabF_cons K_impl_PlanCount (tabF_nil _ _)))))) fun args sp h hp => by
  unfold S_laws_FnPlanCut at h
  split at h
  · rename_i code
    cases h
    have hp : byOk code = true := hp
    obtain ⟨⟨_, s1, s2⟩, s3⟩ := cutR_ok hp
    refine ⟨rfl, 1000, (laws_FnPlanCut_run _ _).trans ?_⟩
    unfold laws_FnPlanCut_T
    by_cases l1 : (code.length : Int) > 1048576
    · rw [decide_eq_true l1]; rfl
    rw [decide_eq_false l1, hp]
    generalize (cutR code).1 = L at *
    generalize (cutR code).2.1 = Z at *
    generalize (cutR code).2.2.1 = W at *
    generalize (cutR code).2.2.2.1 = G at *
    generalize (cutR code).2.2.2.2 = t at *
    have hsm : (sm W.length && sm G.length) = true := by rw [Bool.and_eq_true]; exact ⟨decide_eq_true (by omega), decide_eq_true (by omega)⟩
    rw [hsm]
    have hcl : sm (cutS L Z W G t).length = true := by
      unfold cutS
      cases hb : planB L Z W G && decide ((t.size : Int) = L) with
      | false => rfl
      | true =>
        simp only [Bool.and_eq_true, decide_eq_true_eq] at hb
        have := plan_z (planB_iff.1 hb.1)
        exact decide_eq_true (by simp [cutL]; omega)
    rw [hcl, decide_eq_true rfl]
    cases hb : planB L Z W G && decide ((t.size : Int) = L) with
    | false =>
      have : cutS L Z W G t = [] := by unfold cutS; rw [hb]
      rw [this]; rfl
    | true =>
      have hce : cutS L Z W G t = cutL L Z t := by unfold cutS; rw [hb]
      simp only [Bool.and_eq_true, decide_eq_true_eq] at hb
      obtain ⟨hB, ht⟩ := hb
      have hP := planB_iff.1 hB
      obtain ⟨c1, c2, c3⟩ := plan_z hP
      have hs := allT_size hP ht
      have h3 := hP.2.2.1
      have h2 := hP.2.1
      have h1 := hP.1
      have hlen : (cutL L Z t).length = (cnt L Z).toNat := by simp [cutL]
      rw [hce]
      have hne : (((cutL L Z t).length : Int) == 0) = false := beq_eq_false_iff_ne.2 (by omega)
      rw [hne]
      show laws_FnPlanCut_W9 1000 1000 (0, ⟨#[]⟩, cutL L Z t, t, L, Z, W, G) = _
      -- the second loop
      have loop2 : laws_FnPlanCut_W15 1000 1000 ((t.size : Int), allT L Z t, cutL L Z t, t, L, Z, W, G) = some ([B true], []) := by
        refine fix8 (T := fun k => laws_FnPlanCut_T15 k) (fun i a l t' L' Z' W' G' => (a = allT L Z t ∧ l = cutL L Z t ∧ t' = t ∧ L' = L ∧ Z' = Z ∧ W' = W ∧ G' = G) ∧ (t.size ≤ i ∧ i ≤ (allT L Z t).size)) (fun i _ _ _ _ _ _ _ => ((allT L Z t).size - i).toNat) (fun _ _ _ _ _ _ _ _ => ([B true], [])) ?_ _ _ _ _ _ _ _ _ _ ⟨⟨rfl, rfl, rfl, rfl, rfl, rfl, rfl⟩, by omega, by omega⟩ (by omega)
        intro i a l t' L' Z' W' G' K hI hK
        obtain ⟨⟨e1, e2, e3, e4, e5, e6, e7⟩, q0, q1⟩ := hI
        rw [e1, e2, e3, e4, e5, e6, e7]
        unfold laws_FnPlanCut_T15
        dsimp only
        by_cases hi : i < ((allT L Z t).size : Int)
        · have hz0 : bt (allT L Z t) i = 0 := by
            rw [bt_bA]
            unfold allT
            rw [bA_app_r _ _ _ (by omega), bA_zeros]; rfl
          rw [decide_eq_true hi, decide_eq_true (show 0 ≤ i by omega), hz0, w64i (by omega) (by omega)]
          exact hK _ _ _ _ _ _ _ _ ⟨⟨rfl, rfl, rfl, rfl, rfl, rfl, rfl⟩, by omega, by omega⟩ (by omega)
        · have hx : (allT L Z t).extract 0 ((t.size : Int)).toNat = t := by
            rw [Int.toNat_natCast]
            exact ext_left _ _
          have hc : planCnt L Z W G = cnt L Z := by unfold planCnt; rw [hB]
          rw [decide_eq_false hi, decide_eq_true (show (t.size : Int) ≤ (allT L Z t).size by omega), hx, ba_toList_eq, decide_eq_true rfl, hsm, hc, hlen, Int.toNat_of_nonneg (by omega)]
          simp
      refine fix8 (T := fun k => laws_FnPlanCut_T9 k (laws_FnPlanCut_W15 1000 1000)) (fun i a l t' L' Z' W' G' => (l = cutL L Z t ∧ t' = t ∧ L' = L ∧ Z' = Z ∧ W' = W ∧ G' = G) ∧ (0 ≤ i ∧ i ≤ cnt L Z) ∧ a = (allT L Z t).extract 0 (i.toNat * Z.toNat)) (fun i _ _ _ _ _ _ _ => (cnt L Z - i).toNat) (fun _ _ _ _ _ _ _ _ => ([B true], [])) ?_ _ _ _ _ _ _ _ _ _ ⟨⟨rfl, rfl, rfl, rfl, rfl, rfl⟩, ⟨by omega, by omega⟩, ?_⟩ (by omega)
      rotate_left
      · rw [Int.toNat_zero, Nat.zero_mul]
        apply ByteArray.ext
        simp
      intro i a l t' L' Z' W' G' K hI hK
      obtain ⟨⟨e2, e3, e4, e5, e6, e7⟩, ⟨q0, q1⟩, e1⟩ := hI
      rw [e1, e2, e3, e4, e5, e6, e7]
      unfold laws_FnPlanCut_T9
      dsimp only
      have hzn : ((cnt L Z).toNat * Z.toNat) = (allT L Z t).size := by
        have := mul_nat (Z := Z) (by omega) (cnt L Z).toNat
        rw [Int.toNat_of_nonneg (by omega)] at this
        omega
      by_cases hi : i < cnt L Z
      · have hlt : i.toNat < (cnt L Z).toNat := by omega
        have hb1 : (i.toNat + 1) * Z.toNat ≤ (allT L Z t).size := by rw [← hzn]; exact Nat.mul_le_mul_right _ hlt
        have hb2 : (i.toNat + 1) * Z.toNat = i.toNat * Z.toNat + Z.toNat := Nat.succ_mul _ _
        have hg : (cutL L Z t).getD i.toNat ⟨#[]⟩ = blockT L Z t i.toNat := by
          rw [getD_lt (by rw [hlen]; exact hlt)]
          simp [cutL]
        have hbs : (blockT L Z t i.toNat).size = Z.toNat := by
          unfold blockT
          rw [ByteArray.size_extract]
          omega
        have hsl : ((allT L Z t).extract 0 (i.toNat * Z.toNat)).size ≤ 400 := by
          rw [ByteArray.size_extract]
          omega
        have hne2 : (((blockT L Z t i.toNat).size : Int) != Z) = false := by rw [hbs, Int.toNat_of_nonneg (by omega)]; simp
        rw [hlen, hg, hne2, decide_eq_true (show i < (((cnt L Z).toNat : Nat) : Int) by omega), decide_eq_true q0, decide_eq_true (show ((allT L Z t).extract 0 (i.toNat * Z.toNat)).size + (blockT L Z t i.toNat).size < 1099511627776 by omega), w64i q0 (by omega)]
        refine hK _ _ _ _ _ _ _ _ ⟨⟨rfl, rfl, rfl, rfl, rfl, rfl⟩, ⟨by omega, by omega⟩, ?_⟩ (by omega)
        rw [toNat_succ q0]
        exact ba_ext_cat (by omega)
      · have e8 : i.toNat = (cnt L Z).toNat := by omega
        have e9 : (allT L Z t).extract 0 (i.toNat * Z.toNat) = allT L Z t := by
          rw [e8, hzn]
          apply ByteArray.ext
          rw [ByteArray.data_extract]
          exact Array.extract_size
        rw [e9, hlen, decide_eq_false (show ¬ i < (((cnt L Z).toNat : Nat) : Int) by omega)]
        exact loop2
  · cases h
end Go.Proofs.Ytaeeickboakmgaa.V
