/- What functions come to, and that they do so; conditions: those that each theorem states. -/
import Derived.Test.YtbolcmcjniiieaaDd5G
set_option linter.unusedVariables false
set_option linter.unusedSimpArgs false
namespace Go.Proofs.Ytbolcmcjniiieaa.V
open Go Vx Vx.N
theorem leftOk_of {left : Int} (h : leftOk left = true) : 0 ≤ left ∧ left ≤ 1048576 := of_decide_eq_true h
theorem lenOk_of {n : Nat} (h : lenOk n = true) : n ≤ 9223372036854775807 := of_decide_eq_true h
theorem szN_ok {left : Int} {n : Nat} (hl : 0 ≤ left ∧ left ≤ 1048576) (hn : n ≤ 9223372036854775807) : (if IntKind.wrap .i64 (left - (n : Int)) < 0 then (-1 : Int) else IntKind.wrap .i64 (left - (n : Int))) = szN left n := by
  rw [w64 (x := left - n) (by omega) (by omega)]
  unfold szN
  by_cases h : (n : Int) ≤ left
  · rw [if_neg (by omega), if_pos h]
  · rw [if_pos (by omega), if_neg h]
theorem szN_left {left : Int} {n : Nat} (hl : 0 ≤ left ∧ left ≤ 1048576) (h : 0 ≤ szN left n) : 0 ≤ szN left n ∧ szN left n ≤ 1048576 := by
  unfold szN at *
  split at h <;> simp_all <;> omega
theorem szN_two {left : Int} {m n : Nat} : szN left (m + n) = if szN left m < 0 then -1 else szN (szN left m) n := by
  unfold szN
  by_cases h : (m : Int) ≤ left
  · rw [if_pos h]
    by_cases h2 : (n : Int) ≤ left - m
    · rw [if_pos (by omega), if_neg (by omega), if_pos h2]; omega
    · rw [if_neg (by omega), if_neg (by omega), if_neg h2]
  · rw [if_neg h, if_neg (by omega), if_pos (by omega)]
theorem K_laws_szIntS : Sound1 Try.prog EKs F_laws_szIntS.f S_laws_szIntS := snd ok_laws_szIntS [] (tabF_nil _ _) fun args sp h hp => by
  unfold S_laws_szIntS at h
  split at h
  · rename_i a left
    cases h
    simp only [Bool.and_eq_true] at hp
    have hl := leftOk_of hp.1
    have hn := lenOk_of hp.2
    refine ⟨rfl, 0, (laws_szIntS_run _ _ _).trans ?_⟩
    unfold laws_szIntS_T
    simp only [Bool.cond_eq_ite, decide_eq_true_eq]
    rw [← szN_ok hl hn]
    split <;> rfl
  · cases h
theorem K_laws_szEq : Sound1 Try.prog EKs F_laws_szEq.f S_laws_szEq := snd ok_laws_szEq [(F_laws_szIntS.f, S_laws_szIntS)] (tabF_cons K_laws_szIntS (tabF_nil _ _)) fun args sp h hp => by
  unfold S_laws_szEq at h
  split at h
  · rename_i r t left
    cases h
    simp only [Bool.and_eq_true, lenE] at hp
    have hl := leftOk_of hp.1
    have h2 := lenOk_of hp.2.2
    refine ⟨rfl, 0, (laws_szEq_run _ _ _ _).trans ?_⟩
    unfold laws_szEq_T
    simp only [Bool.cond_eq_ite, decide_eq_true_eq, Bool.and_eq_true]
    rw [if_pos ⟨hp.1, hp.2.1⟩, show szE1 (r, t) = r.length + t.size from rfl, szN_two]
    by_cases hneg : szN left r.length < 0
    · rw [if_pos hneg, if_pos hneg]
    · rw [if_neg hneg, if_neg hneg, ← szN_ok (szN_left hl (by omega)) h2]
      split <;> rfl
  · cases h
theorem K_laws_szEqS : Sound1 Try.prog EKs F_laws_szEqS.f S_laws_szEqS := snd ok_laws_szEqS [(F_laws_szEq.f, S_laws_szEq)] (tabF_cons K_laws_szEq (tabF_nil _ _)) fun args sp h hp => by
  unfold S_laws_szEqS at h
  split at h
  · rename_i es left
    cases h
    simp only [Bool.and_eq_true, List.all_eq_true] at hp
    have hl := leftOk_of hp.1
    have h2 := lenOk_of hp.2.1
    refine ⟨rfl, es.length + 1, (laws_szEqS_run _ _ _).trans ?_⟩
    unfold laws_szEqS_T
    simp only [Bool.cond_eq_ite, decide_eq_true_eq]
    have e0 := szN_ok hl h2
    rw [show szE es = es.length + sumE es from rfl, szN_two]
    by_cases hneg : szN left es.length < 0
    · rw [if_pos hneg]
      rw [if_pos (by rw [w64 (by omega) (by omega)]; unfold szN at hneg; split at hneg <;> omega)]
    · have hle : (es.length : Int) ≤ left := by
        unfold szN at hneg
        split at hneg
        · assumption
        · omega
      rw [if_neg hneg, w64 (x := left - es.length) (by omega) (by omega), if_neg (by omega)]
      have e1 : szN left es.length = left - es.length := by unfold szN; rw [if_pos hle]
      rw [e1]
      refine (fix3 (T := fun k => laws_szEqS_T5 k) (fun i l es' => es' = es ∧ (0 ≤ i ∧ i ≤ es.length) ∧ 0 ≤ l ∧ l ≤ 1048576) (fun i _ _ => es.length - i.toNat) (fun i l _ => ([I (szN l (sumE (es.drop i.toNat)))], [])) ?_ _ _ _ _ ⟨rfl, ⟨by omega, by omega⟩, by omega, by omega⟩ (by omega))
      rintro i l es' K ⟨rfl, ⟨q0, q1⟩, l0, l1⟩ hK
      unfold laws_szEqS_T5
      simp only [Bool.cond_eq_ite, decide_eq_true_eq, Bool.and_eq_true]
      by_cases hi : i < es'.length
      · have hlt : i.toNat < es'.length := by omega
        rw [if_pos hi, if_pos q0, if_pos hi, if_pos ⟨decide_eq_true ⟨l0, l1⟩, hp.2.2 _ (getE_mem hlt)⟩, List.drop_eq_getElem_cons hlt, w64i q0 (by omega)]
        rw [show sumE (es'[i.toNat] :: es'.drop (i.toNat + 1)) = szE1 es'[i.toNat] + sumE (es'.drop (i.toNat + 1)) from rfl, szN_two, ← getD_lt hlt eqD]
        by_cases hn : szN l (szE1 (es'.getD i.toNat eqD)) < 0
        · rw [if_pos hn, if_pos hn]
        · have hb := szN_left ⟨l0, l1⟩ (show 0 ≤ szN l (szE1 (es'.getD i.toNat eqD)) by omega)
          rw [if_neg hn, if_neg hn]
          rw [hK _ _ _ ⟨rfl, ⟨by omega, by omega⟩, hb.1, hb.2⟩ (by omega), toNat_succ q0]
      · rw [if_neg hi, List.drop_eq_nil_of_le (by omega)]
        show some ([I l], []) = some ([I (szN l 0)], [])
        unfold szN
        rw [if_pos (by omega)]; simp
  · cases h
theorem K_laws_szSolver : Sound1 Try.prog EKs F_laws_szSolver.f S_laws_szSolver := snd ok_laws_szSolver [(F_laws_szEqS.f, S_laws_szEqS)] (tabF_cons K_laws_szEqS (tabF_nil _ _)) fun args sp h hp => by
  unfold S_laws_szSolver at h
  split at h
  · rename_i c z es left
    cases h
    refine ⟨rfl, 0, (laws_szSolver_run _ _ _ _ _).trans ?_⟩
    unfold laws_szSolver_T
    have hp' : (leftOk left && (lenOk es.length && es.all lenE)) = true := hp
    simp only [Bool.and_eq_true] at hp
    rw [hp']
    by_cases hn : szN left (szE es) < 0
    · have : szN left (szE es) = -1 := by
        unfold szN at hn ⊢
        split at hn
        · omega
        · rename_i h; rw [if_neg h]
      rw [decide_eq_true hn, this]; rfl
    · rw [decide_eq_false hn]; rfl
  · cases h
/-! ### Copies -/
theorem set_copy {α : Type} (a : List α) (z : α) (i : Nat) (h : i < a.length) : (a.take i ++ List.replicate (a.length - i) z).set i (a.getD i z) = a.take (i + 1) ++ List.replicate (a.length - (i + 1)) z := by
  have e : a.length - i = (a.length - (i + 1)) + 1 := by omega
  have l1 : (a.take i).length = i := by rw [List.length_take]; omega
  rw [e, List.replicate_succ, List.set_append_right _ _ (by omega), l1, Nat.sub_self, List.set_cons_zero, List.take_succ_eq_append_getElem h, List.append_assoc, getD_lt h]
  rfl
theorem K_laws_toIntS : Sound1 Try.prog EKs F_laws_toIntS.f S_laws_toIntS := snd ok_laws_toIntS [] (tabF_nil _ _) fun args sp h hp => by
  unfold S_laws_toIntS at h
  split at h
  · rename_i a
    cases h
    have hl : a.length < 1000000000 := of_decide_eq_true hp
    refine ⟨rfl, a.length + 1, (laws_toIntS_run _ _).trans ?_⟩
    unfold laws_toIntS_T
    simp only [Bool.cond_eq_ite, decide_eq_true_eq]
    rw [if_pos trivial, if_pos (by omega)]
    refine (fix3 (T := fun k => laws_toIntS_T3 k) (fun i a' r => a' = a ∧ (0 ≤ i ∧ i ≤ a.length) ∧ r = a.take i.toNat ++ List.replicate (a.length - i.toNat) 0) (fun i _ _ => a.length - i.toNat) (fun _ _ _ => ([Is a], [])) ?_ _ _ _ _ ⟨rfl, ⟨by omega, by omega⟩, by simp⟩ (by omega))
    rintro i a' r K ⟨rfl, ⟨q0, q1⟩, rfl⟩ hK
    unfold laws_toIntS_T3
    simp only [Bool.cond_eq_ite, decide_eq_true_eq]
    have hrl : (a'.take i.toNat ++ List.replicate (a'.length - i.toNat) 0).length = a'.length := by rw [List.length_append, List.length_take, List.length_replicate]; omega
    by_cases hi : i < a'.length
    · have hlt : i.toNat < a'.length := by omega
      rw [if_pos hi, if_pos q0, if_pos hi, if_pos q0, if_pos (by rw [hrl]; exact hi), w64i q0 (by omega), set_copy a' 0 i.toNat hlt]
      exact hK _ _ _ ⟨rfl, ⟨by omega, by omega⟩, by rw [toNat_succ q0]⟩ (by omega)
    · rw [if_neg hi, List.take_of_length_le (by omega), show a'.length - i.toNat = 0 by omega, List.replicate_zero, List.append_nil]
  · cases h
theorem K_laws_toEq : Sound1 Try.prog EKs F_laws_toEq.f S_laws_toEq := snd ok_laws_toEq [(F_laws_toIntS.f, S_laws_toIntS)] (tabF_cons K_laws_toIntS (tabF_nil _ _)) fun args sp h hp => by
  unfold S_laws_toEq at h
  split at h
  · rename_i r t
    cases h
    have hp : sm r.length = true := hp
    refine ⟨rfl, 0, (laws_toEq_run _ _ _).trans ?_⟩
    unfold laws_toEq_T
    rw [hp]; rfl
  · cases h
theorem K_laws_toEqS : Sound1 Try.prog EKs F_laws_toEqS.f S_laws_toEqS := snd ok_laws_toEqS [(F_laws_toEq.f, S_laws_toEq)] (tabF_cons K_laws_toEq (tabF_nil _ _)) fun args sp h hp => by
  unfold S_laws_toEqS at h
  split at h
  · rename_i a
    cases h
    obtain ⟨hl, hs⟩ := smE_of hp
    refine ⟨rfl, a.length + 1, (laws_toEqS_run _ _).trans ?_⟩
    unfold laws_toEqS_T
    simp only [Bool.cond_eq_ite, decide_eq_true_eq]
    rw [if_pos trivial, if_pos (by omega)]
    refine (fix3 (T := fun k => laws_toEqS_T3 k) (fun i a' r => a' = a ∧ (0 ≤ i ∧ i ≤ a.length) ∧ r = a.take i.toNat ++ List.replicate (a.length - i.toNat) eqD) (fun i _ _ => a.length - i.toNat) (fun _ _ _ => ([Es a], [])) ?_ _ _ _ _ ⟨rfl, ⟨by omega, by omega⟩, by simp⟩ (by omega))
    rintro i a' r K ⟨rfl, ⟨q0, q1⟩, rfl⟩ hK
    unfold laws_toEqS_T3
    simp only [Bool.cond_eq_ite, decide_eq_true_eq]
    have hrl : (a'.take i.toNat ++ List.replicate (a'.length - i.toNat) eqD).length = a'.length := by rw [List.length_append, List.length_take, List.length_replicate]; omega
    by_cases hi : i < a'.length
    · have hlt : i.toNat < a'.length := by omega
      rw [if_pos hi, if_pos q0, if_pos hi, if_pos (hs _ hlt), if_pos q0, if_pos (by rw [hrl]; exact hi), w64i q0 (by omega)]
      exact hK _ _ _ ⟨rfl, ⟨by omega, by omega⟩, by rw [toNat_succ q0]; exact set_copy a' eqD i.toNat hlt⟩ (by omega)
    · rw [if_neg hi, List.take_of_length_le (by omega), show a'.length - i.toNat = 0 by omega, List.replicate_zero, List.append_nil]
  · cases h
theorem K_laws_toSolver : Sound1 Try.prog EKs F_laws_toSolver.f S_laws_toSolver := snd ok_laws_toSolver [(F_laws_toEqS.f, S_laws_toEqS)] (tabF_cons K_laws_toEqS (tabF_nil _ _)) fun args sp h hp => by
  unfold S_laws_toSolver at h
  split at h
  · rename_i c z es
    cases h
    have hp : smE es = true := hp
    refine ⟨rfl, 0, (laws_toSolver_run _ _ _ _).trans ?_⟩
    unfold laws_toSolver_T
    rw [hp]; rfl
  · cases h
/-! ### Comparing -/
theorem K_laws_eqIntS : Sound1 Try.prog EKs F_laws_eqIntS.f S_laws_eqIntS := snd ok_laws_eqIntS [] (tabF_nil _ _) fun args sp h hp => by
  unfold S_laws_eqIntS at h
  split at h
  · rename_i a b
    cases h
    have hl : a.length < 1000000000 := of_decide_eq_true hp
    refine ⟨rfl, a.length + 1, (laws_eqIntS_run _ _ _).trans ?_⟩
    unfold laws_eqIntS_T
    simp only [Bool.cond_eq_ite, bne_iff_ne, ne_eq]
    by_cases hlen : (a.length : Int) = b.length
    rotate_left
    · rw [if_pos hlen, decide_eq_false fun H => hlen (by rw [H])]
    rw [if_neg (not_not_intro hlen)]
    refine (fix3 (T := fun k => laws_eqIntS_T4 k) (fun i b' a' => b' = b ∧ a' = a ∧ 0 ≤ i ∧ i ≤ a.length) (fun i _ _ => a.length - i.toNat) (fun i _ _ => ([B (decide (a.drop i.toNat = b.drop i.toNat))], [])) ?_ _ _ _ _ ⟨rfl, rfl, by omega, by omega⟩ (by omega)).trans (by rw [Int.toNat_zero]; rfl)
    rintro i b' a' K ⟨rfl, rfl, q0, q1⟩ hK
    unfold laws_eqIntS_T4
    simp only [Bool.cond_eq_ite, decide_eq_true_eq, bne_iff_ne, ne_eq]
    by_cases hi : i < a'.length
    · have hlt : i.toNat < a'.length := by omega
      rw [if_pos hi, if_pos q0, if_pos hi, if_pos q0, if_pos (by omega), w64i q0 (by omega), list_eq_at a' b' 0 (by omega) i.toNat hlt]
      by_cases c : a'.getD i.toNat 0 = b'.getD i.toNat 0
      · rw [if_neg (not_not_intro c), if_pos c, hK _ _ _ ⟨rfl, rfl, by omega, by omega⟩ (by omega), toNat_succ q0]
      · rw [if_pos c, if_neg c]
    · rw [if_neg hi, List.drop_eq_nil_of_le (by omega), List.drop_eq_nil_of_le (by omega)]; rfl
  · cases h
theorem K_laws_eqEq : Sound1 Try.prog EKs F_laws_eqEq.f S_laws_eqEq := snd ok_laws_eqEq [(F_laws_eqIntS.f, S_laws_eqIntS)] (tabF_cons K_laws_eqIntS (tabF_nil _ _)) fun args sp h hp => by
  unfold S_laws_eqEq at h
  split at h
  · rename_i r t r' t'
    cases h
    have hp : sm r.length = true := hp
    refine ⟨rfl, 0, (laws_eqEq_run _ _ _ _ _).trans ?_⟩
    unfold laws_eqEq_T
    rw [hp, ba_toList_eq]
    by_cases h1 : r = r' <;> by_cases h2 : t = t' <;> simp [h1, h2]
  · cases h
theorem K_laws_eqEqS : Sound1 Try.prog EKs F_laws_eqEqS.f S_laws_eqEqS := snd ok_laws_eqEqS [(F_laws_eqEq.f, S_laws_eqEq)] (tabF_cons K_laws_eqEq (tabF_nil _ _)) fun args sp h hp => by
  unfold S_laws_eqEqS at h
  split at h
  · rename_i a b
    cases h
    obtain ⟨hl, hs⟩ := smE_of hp
    refine ⟨rfl, a.length + 1, (laws_eqEqS_run _ _ _).trans ?_⟩
    unfold laws_eqEqS_T
    simp only [Bool.cond_eq_ite, bne_iff_ne, ne_eq]
    by_cases hlen : (a.length : Int) = b.length
    rotate_left
    · rw [if_pos hlen, decide_eq_false fun H => hlen (by rw [H])]
    rw [if_neg (not_not_intro hlen)]
    refine (fix3 (T := fun k => laws_eqEqS_T4 k) (fun i b' a' => b' = b ∧ a' = a ∧ 0 ≤ i ∧ i ≤ a.length) (fun i _ _ => a.length - i.toNat) (fun i _ _ => ([B (decide (a.drop i.toNat = b.drop i.toNat))], [])) ?_ _ _ _ _ ⟨rfl, rfl, by omega, by omega⟩ (by omega)).trans (by rw [Int.toNat_zero]; rfl)
    rintro i b' a' K ⟨rfl, rfl, q0, q1⟩ hK
    unfold laws_eqEqS_T4
    simp only [Bool.cond_eq_ite, decide_eq_true_eq, Bool.not_eq_true', decide_eq_false_iff_not]
    by_cases hi : i < a'.length
    · have hlt : i.toNat < a'.length := by omega
      rw [if_pos hi, if_pos q0, if_pos hi, if_pos q0, if_pos (by omega), if_pos (hs _ hlt), w64i q0 (by omega), list_eq_at a' b' eqD (by omega) i.toNat hlt]
      by_cases c : a'.getD i.toNat eqD = b'.getD i.toNat eqD
      · rw [if_neg (not_not_intro c), if_pos c, hK _ _ _ ⟨rfl, rfl, by omega, by omega⟩ (by omega), toNat_succ q0]
      · rw [if_pos c, if_neg c]
    · rw [if_neg hi, List.drop_eq_nil_of_le (by omega), List.drop_eq_nil_of_le (by omega)]; rfl
  · cases h
theorem K_laws_eqSolver : Sound1 Try.prog EKs F_laws_eqSolver.f S_laws_eqSolver := snd ok_laws_eqSolver [(F_laws_eqEqS.f, S_laws_eqEqS)] (tabF_cons K_laws_eqEqS (tabF_nil _ _)) fun args sp h hp => by
  unfold S_laws_eqSolver at h
  split at h
  · rename_i c z es c' z' es'
    cases h
    have hp : smE es = true := hp
    refine ⟨rfl, 0, (laws_eqSolver_run _ _ _ _ _ _ _).trans ?_⟩
    unfold laws_eqSolver_T
    simp only [Bool.cond_eq_ite, bne_iff_ne, ne_eq]
    rw [hp]
    by_cases h1 : c = c' <;> by_cases h2 : z = z' <;> by_cases h3 : es = es' <;> simp [h1, h2, h3]
  · cases h
end Go.Proofs.Ytbolcmcjniiieaa.V
