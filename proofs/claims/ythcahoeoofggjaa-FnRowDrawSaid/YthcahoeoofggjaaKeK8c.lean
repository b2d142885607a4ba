/- What functions come to, and that they do so; conditions: those that each theorem states. -/
import Derived.Test.YthcahoeoofggjaaKeK8b
set_option linter.unusedVariables false
set_option linter.unusedSimpArgs false
namespace Go.Proofs.Ythcahoeoofggjaa.V
open Go Vx Vx.N
/-! ### Blocks -/
theorem ba_ext_cat {a : ByteArray} {i j : Nat} (h : i ≤ j) : a.extract 0 i ++ a.extract i j = a.extract 0 j := by
  apply ByteArray.ext
  rw [ByteArray.data_append, ByteArray.data_extract, ByteArray.data_extract, ByteArray.data_extract, Array.extract_append_extract]
  congr 1 <;> omega
theorem plan_z {L Z : Int} {W G : List Int} (h : PlanP L Z W G) : (0 ≤ cnt L Z ∧ cnt L Z ≤ 24) ∧ L ≤ cnt L Z * Z ∧ cnt L Z * Z ≤ 400 := by
  obtain ⟨h1, h2, h3, _⟩ := h
  refine ⟨⟨by omega, h3.2⟩, (cnt_le h2.1).1 (Int.le_refl _), ?_⟩
  have := Int.mul_le_mul h3.2 h2.2 (by omega) (by omega)
  omega
theorem allT_size {L Z : Int} {W G : List Int} {t : ByteArray} (h : PlanP L Z W G) (ht : (t.size : Int) = L) : ((allT L Z t).size : Int) = cnt L Z * Z := by
  have := plan_z h
  unfold allT
  rw [ByteArray.size_append, zerosB_size]
  omega
theorem cut_range (L Z : Int) (t : ByteArray) (n : Nat) : (List.range (n + 1)).map (blockT L Z t) = (List.range n).map (blockT L Z t) ++ [blockT L Z t n] := by
  rw [List.range_succ, List.map_append]; rfl
theorem mul_nat {Z : Int} (hz : 0 ≤ Z) (i : Nat) : ((i : Int) * Z).toNat = i * Z.toNat := by
  obtain ⟨z, rfl⟩ : ∃ z : Nat, Z = z := ⟨Z.toNat, by omega⟩
  rw [← Int.natCast_mul, Int.toNat_natCast, Int.toNat_natCast]
theorem K_spec_l5Cut : Sound1 Try.prog EKs F_spec_l5Cut.f S_spec_l5Cut := snd ok_spec_l5Cut [(F_spec_l5Count.f, S_spec_l5Count), (F_spec_l3Zero.f, S_spec_l3Zero)] (tabF_cons K_spec_l5Count (tabF_cons K_spec_l3Zero (tabF_nil _ _))) fun args sp h hp => by
  unfold S_spec_l5Cut at h
  split at h
  · rename_i L Z W G t
    cases h
    simp only [Bool.and_eq_true, decide_eq_true_eq] at hp
    obtain ⟨hb, ht⟩ := hp
    have hP := planB_iff.1 hb
    obtain ⟨c1, c2, c3⟩ := plan_z hP
    have hs := allT_size hP ht
    obtain ⟨h1, h2, _⟩ := hP
    refine ⟨rfl, 30, (spec_l5Cut_run _ _ _ _ _ _).trans ?_⟩
    have hz : 1 ≤ Z ∧ Z ≤ 16 ∧ 0 ≤ L ∧ L < 1000 := ⟨by omega, by omega, by omega, by omega⟩
    have hsz : (cnt L Z * Z - L).toNat < 1000 := by omega
    unfold spec_l5Cut_T
    rw [w64 (x := cnt L Z * Z) (by omega) (by omega), ht, w64 (x := cnt L Z * Z - L) (by omega) (by omega), decide_eq_true hz, decide_eq_true (show 0 ≤ cnt L Z * Z - L ∧ cnt L Z * Z - L < 100000000 by omega), decide_eq_true (show t.size + (zerosB (cnt L Z * Z - L).toNat).size < 1099511627776 by rw [zerosB_size]; omega)]
    show spec_l5Cut_W4 30 30 (0, allT L Z t, L, Z, W, G, []) = _
    refine fix7 (T := fun k => spec_l5Cut_T4 k) (fun i a L' Z' W' G' r => (a = allT L Z t ∧ L' = L ∧ Z' = Z ∧ W' = W ∧ G' = G) ∧ (0 ≤ i ∧ i ≤ cnt L Z) ∧ r = (List.range i.toNat).map (blockT L Z t)) (fun i _ _ _ _ _ _ => (cnt L Z - i).toNat) (fun _ _ _ _ _ _ _ => ([Ts (cutL L Z t)], [])) ?_ _ _ _ _ _ _ _ _ ⟨⟨rfl, rfl, rfl, rfl, rfl⟩, ⟨by omega, by omega⟩, rfl⟩ (by omega)
    intro i a L' Z' W' G' r K hI hK
    obtain ⟨⟨e1, e2, e3, e4, e5⟩, ⟨q0, q1⟩, e6⟩ := hI
    rw [e1, e2, e3, e4, e5, e6]
    unfold spec_l5Cut_T4
    dsimp only
    by_cases hi : i < cnt L Z
    · have b0 : 0 ≤ i * Z := Int.mul_nonneg q0 (by omega)
      have b1 : (i + 1) * Z ≤ cnt L Z * Z := Int.mul_le_mul_of_nonneg_right (by omega) (by omega)
      have b2 : (i + 1) * Z = i * Z + Z := by rw [Int.add_mul, Int.one_mul]
      have hl : ((List.range i.toNat).map (blockT L Z t)).length + 1 < 1099511627776 := by rw [List.length_map, List.length_range]; omega
      rw [w64i q0 (by omega), w64 (x := i * Z) (by omega) (by omega), w64 (x := (i + 1) * Z) (by omega) (by omega), decide_eq_true hz, decide_eq_true hi, decide_eq_true b0, decide_eq_true (show i * Z ≤ (i + 1) * Z by omega), hs, decide_eq_true b1, decide_eq_true hl]
      refine hK _ _ _ _ _ _ _ ⟨⟨rfl, rfl, rfl, rfl, rfl⟩, ⟨by omega, by omega⟩, ?_⟩ (by omega)
      rw [toNat_succ q0, cut_range]
      have e7 : (i * Z).toNat = i.toNat * Z.toNat := by rw [← mul_nat (by omega), Int.toNat_of_nonneg q0]
      have e8 : ((i + 1) * Z).toNat = (i.toNat + 1) * Z.toNat := by rw [← mul_nat (by omega), Int.natCast_add, Int.toNat_of_nonneg q0]; rfl
      rw [e7, e8]; rfl
    · rw [decide_eq_true hz, decide_eq_false hi, show i.toNat = (cnt L Z).toNat by omega]; rfl
  · cases h
theorem K_impl_PlanCut : Sound1 Try.prog EKs F_impl_PlanCut.f S_impl_PlanCut := snd ok_impl_PlanCut [(F_impl_PlanOk.f, S_impl_PlanOk), (F_impl_Plan_count.f, S_impl_Plan_count), (F_impl_zeros.f, S_impl_zeros)] (tabF_cons K_impl_PlanOk (tabF_cons K_impl_Plan_count (tabF_cons K_impl_zeros (tabF_nil _ _)))) fun args sp h hp => by
  unfold S_impl_PlanCut at h
  split at h
  · rename_i L Z W G t
    cases h
    have hp : (sm W.length && sm G.length) = true := hp
    refine ⟨rfl, 30, (impl_PlanCut_run _ _ _ _ _ _).trans ?_⟩
    unfold impl_PlanCut_T cutS
    rw [hp]
    cases hb : planB L Z W G with
    | false => rfl
    | true =>
      by_cases ht : (t.size : Int) = L
      rotate_left
      · rw [decide_eq_false ht, bne_iff_ne.2 ht]; rfl
      have hP := planB_iff.1 hb
      obtain ⟨c1, c2, c3⟩ := plan_z hP
      have hs := allT_size hP ht
      obtain ⟨h1, h2, _⟩ := hP
      have hz : 1 ≤ Z ∧ Z ≤ 16 ∧ 0 ≤ L ∧ L < 1000 := ⟨by omega, by omega, by omega, by omega⟩
      have hsz : (cnt L Z * Z - L).toNat < 1000 := by omega
      have hne : ((t.size : Int) != L) = false := by rw [ht]; simp
      rw [hne, w64 (x := cnt L Z * Z) (by omega) (by omega), w64 (x := cnt L Z * Z - L) (by omega) (by omega), decide_eq_true hz, decide_eq_true (show 0 ≤ cnt L Z * Z - L ∧ cnt L Z * Z - L < 1000000000 by omega), decide_eq_true (show t.size + (zerosB (cnt L Z * Z - L).toNat).size < 1099511627776 by rw [zerosB_size]; omega), decide_eq_true ht]
      show impl_PlanCut_W6 30 30 (0, allT L Z t, L, Z, W, G, []) = _
      refine fix7 (T := fun k => impl_PlanCut_T6 k) (fun x a L' Z' W' G' r => (a = allT L Z t ∧ L' = L ∧ Z' = Z ∧ W' = W ∧ G' = G) ∧ ∃ i : Nat, x = i * Z ∧ (i : Int) ≤ cnt L Z ∧ r = (List.range i).map (blockT L Z t)) (fun _ _ _ _ _ _ r => 24 - r.length) (fun _ _ _ _ _ _ _ => ([Ts (cutL L Z t)], [])) ?_ _ _ _ _ _ _ _ _ ⟨⟨rfl, rfl, rfl, rfl, rfl⟩, 0, by simp, by omega, rfl⟩ (by simp)
      intro x a L' Z' W' G' r K hI hK
      obtain ⟨⟨e1, e2, e3, e4, e5⟩, i, e6, q1, e7⟩ := hI
      rw [e1, e2, e3, e4, e5, e6, e7]
      unfold impl_PlanCut_T6
      dsimp only
      have hrl : ((List.range i).map (blockT L Z t)).length = i := by rw [List.length_map, List.length_range]
      have b0 : 0 ≤ (i : Int) * Z := Int.mul_nonneg (by omega) (by omega)
      by_cases hi : (i : Int) < cnt L Z
      · have b1 : ((i : Int) + 1) * Z ≤ cnt L Z * Z := Int.mul_le_mul_of_nonneg_right (by omega) (by omega)
        have b2 : ((i : Int) + 1) * Z = i * Z + Z := by rw [Int.add_mul, Int.one_mul]
        have hl : ((List.range i).map (blockT L Z t)).length + 1 < 1099511627776 := by rw [hrl]; omega
        rw [hs, w64 (x := (i : Int) * Z + Z) (by omega) (by omega), decide_eq_true (show (i : Int) * Z < cnt L Z * Z by omega), decide_eq_true b0, decide_eq_true (show (i : Int) * Z ≤ i * Z + Z by omega), decide_eq_true (show (i : Int) * Z + Z ≤ cnt L Z * Z by omega), decide_eq_true hl]
        refine hK _ _ _ _ _ _ _ ⟨⟨rfl, rfl, rfl, rfl, rfl⟩, i + 1, by rw [← b2]; rfl, by omega, ?_⟩ (by rw [e7, List.length_append, hrl]; simp only [List.length_singleton]; omega)
        rw [cut_range]
        have e9 : ((i : Int) * Z).toNat = i * Z.toNat := mul_nat (by omega) i
        have e8 : ((i : Int) * Z + Z).toNat = (i + 1) * Z.toNat := by rw [← b2, ← mul_nat (by omega) (i + 1)]; rfl
        rw [e9, e8]; rfl
      · have : i = (cnt L Z).toNat := by omega
        have b3 : (i : Int) * Z = cnt L Z * Z := by rw [this, Int.toNat_of_nonneg (by omega)]
        rw [hs, b3, decide_eq_false (by omega), this]; rfl
  · cases h
end Go.Proofs.Ythcahoeoofggjaa.V
