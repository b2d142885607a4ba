/- What functions come to, and that they do so; conditions: those that each theorem states. -/
import Derived.Test.YtbgheffgkncpgaaDoorKqSheG
set_option linter.unusedVariables false
set_option linter.unusedSimpArgs false
namespace Go.Proofs.YtbgheffgkncpgaaDoor.V
open Go Vx Vx.N
/-! ### Plans written -/
theorem leftOk_of {left : Int} (h : leftOk left = true) : 0 ≤ left ∧ left ≤ 1048576 := of_decide_eq_true h
theorem lenOk_of {n : Nat} (h : lenOk n = true) : n ≤ 9223372036854775807 := of_decide_eq_true h
theorem szN_ok {left : Int} {n : Nat} (hl : 0 ≤ left ∧ left ≤ 1048576) (hn : n ≤ 9223372036854775807) : (if IntKind.wrap .i64 (left - (n : Int)) < 0 then (-1 : Int) else IntKind.wrap .i64 (left - (n : Int))) = szN left n := by
  rw [w64 (x := left - n) (by omega) (by omega)]
  unfold szN
  by_cases h : (n : Int) ≤ left
  · rw [if_neg (by omega), if_pos h]
  · rw [if_pos (by omega), if_neg h]
theorem szN_left {left : Int} {n : Nat} (hl : 0 ≤ left ∧ left ≤ 1048576) (h : 0 ≤ szN left n) : 0 ≤ szN left n ∧ szN left n ≤ 1048576 := by
  unfold szN at *
  split at h <;> simp_all <;> omega
theorem szN_two {left : Int} {m n : Nat} : szN left (m + n) = if szN left m < 0 then -1 else szN (szN left m) n := by
  unfold szN
  by_cases h : (m : Int) ≤ left
  · rw [if_pos h]
    by_cases h2 : (n : Int) ≤ left - m
    · rw [if_pos (by omega), if_neg (by omega), if_pos h2]; omega
    · rw [if_neg (by omega), if_neg (by omega), if_neg h2]
  · rw [if_neg h, if_neg (by omega), if_pos (by omega)]
theorem K_laws_szIntS : Sound1 Tryd.prog EKs F_laws_szIntS.f S_laws_szIntS := snd ok_laws_szIntS [] (tabF_nil _ _) fun args sp h hp => by
  unfold S_laws_szIntS at h
  split at h
  · rename_i a left
    cases h
    simp only [Bool.and_eq_true] at hp
    have hl := leftOk_of hp.1
    have hn := lenOk_of hp.2
    refine ⟨rfl, 0, (laws_szIntS_run _ _ _).trans ?_⟩
    unfold laws_szIntS_T
    simp only [Bool.cond_eq_ite, decide_eq_true_eq]
    rw [← szN_ok hl hn]
    split <;> rfl
  · cases h
theorem K_laws_toIntS : Sound1 Tryd.prog EKs F_laws_toIntS.f S_laws_toIntS := snd ok_laws_toIntS [] (tabF_nil _ _) fun args sp h hp => by
  unfold S_laws_toIntS at h
  split at h
  · rename_i a
    cases h
    have hl : a.length < 1000000000 := of_decide_eq_true hp
    refine ⟨rfl, a.length + 1, (laws_toIntS_run _ _).trans ?_⟩
    unfold laws_toIntS_T
    simp only [Bool.cond_eq_ite, decide_eq_true_eq]
    rw [if_pos trivial, if_pos (by omega)]
    refine (fix3 (T := fun k => laws_toIntS_T3 k) (fun i a' r => a' = a ∧ (0 ≤ i ∧ i ≤ a.length) ∧ r = a.take i.toNat ++ List.replicate (a.length - i.toNat) 0) (fun i _ _ => a.length - i.toNat) (fun _ _ _ => ([Is a], [])) ?_ _ _ _ _ ⟨rfl, ⟨by omega, by omega⟩, by simp⟩ (by omega))
    rintro i a' r K ⟨rfl, ⟨q0, q1⟩, rfl⟩ hK
    unfold laws_toIntS_T3
    simp only [Bool.cond_eq_ite, decide_eq_true_eq]
    have hrl : (a'.take i.toNat ++ List.replicate (a'.length - i.toNat) 0).length = a'.length := by rw [List.length_append, List.length_take, List.length_replicate]; omega
    by_cases hi : i < a'.length
    · have hlt : i.toNat < a'.length := by omega
      rw [if_pos hi, if_pos q0, if_pos hi, if_pos q0, if_pos (by rw [hrl]; exact hi), w64i q0 (by omega), set_copy a' 0 i.toNat hlt]
      exact hK _ _ _ ⟨rfl, ⟨by omega, by omega⟩, by rw [toNat_succ q0]⟩ (by omega)
    · rw [if_neg hi, List.take_of_length_le (by omega), show a'.length - i.toNat = 0 by omega, List.replicate_zero, List.append_nil]
  · cases h
theorem K_laws_eqIntS : Sound1 Tryd.prog EKs F_laws_eqIntS.f S_laws_eqIntS := snd ok_laws_eqIntS [] (tabF_nil _ _) fun args sp h hp => by
  unfold S_laws_eqIntS at h
  split at h
  · rename_i a b
    cases h
    have hl : a.length < 1000000000 := of_decide_eq_true hp
    refine ⟨rfl, a.length + 1, (laws_eqIntS_run _ _ _).trans ?_⟩
    unfold laws_eqIntS_T
    simp only [Bool.cond_eq_ite, bne_iff_ne, ne_eq]
    by_cases hlen : (a.length : Int) = b.length
    rotate_left
    · rw [if_pos hlen, decide_eq_false fun H => hlen (by rw [H])]
    rw [if_neg (not_not_intro hlen)]
    refine (fix3 (T := fun k => laws_eqIntS_T4 k) (fun i b' a' => b' = b ∧ a' = a ∧ 0 ≤ i ∧ i ≤ a.length) (fun i _ _ => a.length - i.toNat) (fun i _ _ => ([B (decide (a.drop i.toNat = b.drop i.toNat))], [])) ?_ _ _ _ _ ⟨rfl, rfl, by omega, by omega⟩ (by omega)).trans (by rw [Int.toNat_zero]; rfl)
    rintro i b' a' K ⟨rfl, rfl, q0, q1⟩ hK
    unfold laws_eqIntS_T4
    simp only [Bool.cond_eq_ite, decide_eq_true_eq, bne_iff_ne, ne_eq]
    by_cases hi : i < a'.length
    · have hlt : i.toNat < a'.length := by omega
      rw [if_pos hi, if_pos q0, if_pos hi, if_pos q0, if_pos (by omega), w64i q0 (by omega), list_eq_at a' b' 0 (by omega) i.toNat hlt]
      by_cases c : a'.getD i.toNat 0 = b'.getD i.toNat 0
      · rw [if_neg (not_not_intro c), if_pos c, hK _ _ _ ⟨rfl, rfl, by omega, by omega⟩ (by omega), toNat_succ q0]
      · rw [if_pos c, if_neg c]
    · rw [if_neg hi, List.drop_eq_nil_of_le (by omega), List.drop_eq_nil_of_le (by omega)]; rfl
  · cases h
theorem K_laws_szPlan : Sound1 Tryd.prog EKs F_laws_szPlan.f S_laws_szPlan := snd ok_laws_szPlan [(F_laws_szIntS.f, S_laws_szIntS)] (tabF_cons K_laws_szIntS (tabF_nil _ _)) fun args sp h hp => by
  unfold S_laws_szPlan at h
  split at h
  · rename_i L Z W G left
    cases h
    simp only [Bool.and_eq_true] at hp
    have hl := leftOk_of hp.1
    refine ⟨rfl, 0, (laws_szPlan_run _ _ _ _ _ _).trans ?_⟩
    unfold laws_szPlan_T
    rw [hp.1, hp.2.1, hp.2.2, szN_two]
    by_cases hneg : szN left W.length < 0
    · rw [decide_eq_true hneg, if_pos hneg]; rfl
    · have h2 := szN_left hl (show 0 ≤ szN left W.length by omega)
      rw [decide_eq_false hneg, if_neg hneg, show leftOk (szN left W.length) = true from decide_eq_true h2]
      by_cases hn : szN (szN left W.length) G.length < 0
      · have : szN (szN left W.length) G.length = -1 := by
          generalize szN left W.length = x at *
          unfold szN at hn ⊢
          split at hn
          · omega
          · rename_i h; rw [if_neg h]
        rw [decide_eq_true hn, this]; rfl
      · rw [decide_eq_false hn]; rfl
  · cases h
theorem K_laws_toPlan : Sound1 Tryd.prog EKs F_laws_toPlan.f S_laws_toPlan := snd ok_laws_toPlan [(F_laws_toIntS.f, S_laws_toIntS)] (tabF_cons K_laws_toIntS (tabF_nil _ _)) fun args sp h hp => by
  unfold S_laws_toPlan at h
  split at h
  · rename_i L Z W G
    cases h
    have hp : (sm W.length && sm G.length) = true := hp
    rw [Bool.and_eq_true] at hp
    refine ⟨rfl, 0, (laws_toPlan_run _ _ _ _ _).trans ?_⟩
    unfold laws_toPlan_T
    rw [hp.1, hp.2]; rfl
  · cases h
theorem K_laws_eqPlan : Sound1 Tryd.prog EKs F_laws_eqPlan.f S_laws_eqPlan := snd ok_laws_eqPlan [(F_laws_eqIntS.f, S_laws_eqIntS)] (tabF_cons K_laws_eqIntS (tabF_nil _ _)) fun args sp h hp => by
  unfold S_laws_eqPlan at h
  split at h
  · rename_i L Z W G L' Z' W' G'
    cases h
    have hp : (sm W.length && sm G.length) = true := hp
    rw [Bool.and_eq_true] at hp
    refine ⟨rfl, 0, (laws_eqPlan_run _ _ _ _ _ _ _ _ _).trans ?_⟩
    unfold laws_eqPlan_T
    rw [hp.1, hp.2]
    simp only [Bool.cond_eq_ite, bne_iff_ne, ne_eq, Bool.not_eq_true', decide_eq_false_iff_not]
    by_cases h1 : L = L' <;> by_cases h2 : Z = Z' <;> by_cases h3 : W = W' <;> by_cases h4 : G = G' <;> simp [h1, h2, h3, h4]
  · cases h
theorem strOf_app (a b : List Int) : strOf a ++ strOf b = strOf (a ++ b) := by
  apply ByteArray.ext
  apply Array.toList_inj.1
  rw [ByteArray.data_append, Array.toList_append, strOf_data, strOf_data, strOf_data, List.map_append]
theorem tdiv_10 {n : Int} (h0 : 0 ≤ n) (h1 : n < 1000) : IntKind.wrap .i64 (Int.tdiv n 10) = n / 10 := by
  rw [Int.tdiv_eq_ediv_of_nonneg h0]; exact w64 (by omega) (by omega)
theorem dig_1 {n : Int} (h0 : 0 ≤ n) (h1 : n < 10) : IntKind.wrap IntKind.u8 (IntKind.wrap IntKind.i64 (48 + n)) = 48 + n := by
  rw [w64 (x := 48 + n) (by omega) (by omega)]; exact u8wrap (by omega) (by omega)
theorem dig_2 {n : Int} (h0 : 0 ≤ n) : IntKind.wrap IntKind.u8 (IntKind.wrap IntKind.i64 (48 + Int.tmod n 10)) = 48 + n % 10 := by
  rw [Int.tmod_eq_emod_of_nonneg h0]; exact dig_1 (by omega) (by omega)
theorem decL_step {n : Int} (h0 : 10 ≤ n) (h1 : n < 1000) : decB (n / 10) ++ strOf [48 + n % 10] = decB n := by
  unfold decB
  rw [strOf_app]
  congr 1
  unfold decL
  by_cases h2 : n < 100
  · rw [if_pos (show n / 10 < 10 by omega), if_neg (show ¬ n < 10 by omega), if_pos h2]; rfl
  · rw [if_neg (show ¬ n / 10 < 10 by omega), if_pos (show n / 10 < 100 by omega), if_neg (show ¬ n < 10 by omega), if_neg h2, show n / 10 / 10 = n / 100 by omega]; rfl
theorem decB_size (n : Int) : (decB n).size ≤ 3 := by
  unfold decB decL
  rw [strOf_size]
  split
  · exact (by decide : (1 : Nat) ≤ 3)
  split
  · exact (by decide : (2 : Nat) ≤ 3)
  · exact Nat.le_refl 3
theorem K_spec_l1Dec : Sound1 Tryd.prog EKs F_spec_l1Dec.f S_spec_l1Dec := snd ok_spec_l1Dec [] (tabF_nil _ _) fun args sp h hp => by
  unfold S_spec_l1Dec at h
  split at h
  · rename_i n
    cases h
    obtain ⟨h0, h1⟩ := of_decide_eq_true hp
    refine ⟨rfl, 0, (spec_l1Dec_run _ _).trans ?_⟩
    unfold spec_l1Dec_T
    rw [decide_eq_false (show ¬ n < -9223372036854775807 by omega), decide_eq_false (show ¬ n < 0 by omega), decide_eq_true h1, dig_1 h0 h1]
    unfold decB decL
    rw [if_pos h1]; rfl
  · cases h
theorem K_spec_l1Dec1 : Sound1 Tryd.prog EKs F_spec_l1Dec1.f S_spec_l1Dec1 := snd ok_spec_l1Dec1 [(F_spec_l1Dec.f, S_spec_l1Dec)] (tabF_cons K_spec_l1Dec (tabF_nil _ _)) fun args sp h hp => by
  unfold S_spec_l1Dec1 at h
  split at h
  · rename_i n
    cases h
    obtain ⟨h0, h1⟩ := of_decide_eq_true hp
    refine ⟨rfl, 0, (spec_l1Dec1_run _ _).trans ?_⟩
    unfold spec_l1Dec1_T
    rw [decide_eq_false (show ¬ n < -9223372036854775807 by omega), decide_eq_false (show ¬ n < 0 by omega)]
    by_cases h2 : n < 10
    · rw [decide_eq_true h2, dig_1 h0 h2]
      unfold decB decL
      rw [if_pos h2]; rfl
    · have h3 := decB_size (n / 10)
      rw [decide_eq_false h2, tdiv_10 h0 (by omega), dig_2 h0, decide_eq_true (show 0 ≤ n / 10 ∧ n / 10 < 10 by omega), decide_eq_true (by rw [strOf_size]; simp only [List.length_cons, List.length_nil]; omega), decL_step (by omega) (by omega)]; rfl
  · cases h
theorem K_spec_l1Dec2 : Sound1 Tryd.prog EKs F_spec_l1Dec2.f S_spec_l1Dec2 := snd ok_spec_l1Dec2 [(F_spec_l1Dec1.f, S_spec_l1Dec1)] (tabF_cons K_spec_l1Dec1 (tabF_nil _ _)) fun args sp h hp => by
  unfold S_spec_l1Dec2 at h
  split at h
  · rename_i n
    cases h
    obtain ⟨h0, h1⟩ := of_decide_eq_true hp
    refine ⟨rfl, 0, (spec_l1Dec2_run _ _).trans ?_⟩
    unfold spec_l1Dec2_T
    rw [decide_eq_false (show ¬ n < -9223372036854775807 by omega), decide_eq_false (show ¬ n < 0 by omega)]
    by_cases h2 : n < 10
    · rw [decide_eq_true h2, dig_1 h0 h2]
      unfold decB decL
      rw [if_pos h2]; rfl
    · have h3 := decB_size (n / 10)
      rw [decide_eq_false h2, tdiv_10 h0 (by omega), dig_2 h0, decide_eq_true (show 0 ≤ n / 10 ∧ n / 10 < 100 by omega), decide_eq_true (by rw [strOf_size]; simp only [List.length_cons, List.length_nil]; omega), decL_step (by omega) (by omega)]; rfl
  · cases h
theorem numsOk_of {l : List Int} (h : numsOk l = true) : l.length ≤ 3 ∧ ∀ i, i < l.length → 0 ≤ l.getD i 0 ∧ l.getD i 0 < 1000 := by
  unfold numsOk at h
  rw [Bool.and_eq_true, List.all_eq_true] at h
  exact ⟨of_decide_eq_true h.1, fun i hi => by rw [getD_lt hi]; exact of_decide_eq_true (h.2 _ (List.getElem_mem hi))⟩
theorem getD_decB {l : List Int} {i : Nat} (h : i < l.length) : (l.map decB).getD i ⟨#[]⟩ = decB (l.getD i 0) := by
  rw [getD_lt (by simpa using h), getD_lt h, List.getElem_map]
theorem decs_le (l : List Int) : ∀ s ∈ l.map decB, s.size ≤ 10 := fun s h => by
  obtain ⟨n, _, rfl⟩ := List.mem_map.1 h
  have := decB_size n
  omega
theorem decs_len (l : List Int) (n : Nat) : (joinN (l.map decB) comma n).size ≤ 20 * n := joinN_len _ _ (by decide) (decs_le l) n
theorem K_spec_l5List : Sound1 Tryd.prog EKs F_spec_l5List.f S_spec_l5List := snd ok_spec_l5List [(F_spec_l1Dec2.f, S_spec_l1Dec2)] (tabF_cons K_spec_l1Dec2 (tabF_nil _ _)) fun args sp h hp => by
  unfold S_spec_l5List at h
  split at h
  · rename_i l
    cases h
    obtain ⟨hl, hn⟩ := numsOk_of hp
    refine ⟨rfl, 5, (spec_l5List_run _ _).trans ?_⟩
    unfold spec_l5List_T
    refine (fix3 (T := fun k => spec_l5List_T3 k) (fun i o l' => l' = l ∧ (0 ≤ i ∧ i ≤ l.length) ∧ o = joinN (l.map decB) comma i.toNat) (fun i _ _ => l.length - i.toNat) (fun _ _ _ => ([T (listB l)], [])) ?_ _ _ _ _ ⟨rfl, ⟨by omega, by omega⟩, rfl⟩ (by omega))
    rintro i o l' K ⟨rfl, ⟨q0, q1⟩, rfl⟩ hK
    unfold spec_l5List_T3
    simp only [Bool.cond_eq_ite, decide_eq_true_eq]
    have hj := decs_len l' i.toNat
    by_cases hi : i < l'.length
    · have hlt : i.toNat < l'.length := by omega
      have hd := decB_size (l'.getD i.toNat 0)
      have hstep : joinN (l'.map decB) comma (i.toNat + 1) = (if 0 < i.toNat then joinN (l'.map decB) comma i.toNat ++ comma else joinN (l'.map decB) comma i.toNat) ++ decB (l'.getD i.toNat 0) := by
        rw [joinN, getD_decB hlt]
      have hc : comma.size = 1 := rfl
      rw [if_pos hi]
      by_cases hp : i > 0
      · rw [if_pos (show 0 < i.toNat by omega)] at hstep
        rw [if_pos hp, if_pos (by show _ + comma.size < _; omega), if_pos q0, if_pos hi, if_pos (hn _ hlt), if_pos (by rw [ByteArray.size_append]; show _ + comma.size + _ < _; omega), w64i q0 (by omega)]
        exact hK _ _ _ ⟨rfl, ⟨by omega, by omega⟩, by rw [toNat_succ q0, hstep]; rfl⟩ (by omega)
      · rw [if_neg (show ¬ 0 < i.toNat by omega)] at hstep
        rw [if_neg hp, if_pos q0, if_pos hi, if_pos (hn _ hlt), if_pos (by omega), w64i q0 (by omega)]
        exact hK _ _ _ ⟨rfl, ⟨by omega, by omega⟩, by rw [toNat_succ q0, hstep]⟩ (by omega)
    · rw [if_neg hi]
      unfold listB joinB
      rw [show i.toNat = (l'.map decB).length by rw [List.length_map]; omega]
  · cases h
theorem K_impl_listText : Sound1 Tryd.prog EKs F_impl_listText.f S_impl_listText := snd ok_impl_listText [(F_strconv_Itoa.f, S_strconv_Itoa), (F_strings_Join.f, S_strings_Join)] (tabF_cons K_strconv_Itoa (tabF_cons K_strings_Join (tabF_nil _ _))) fun args sp h hp => by
  unfold S_impl_listText S_spec_l5List at h
  split at h
  · rename_i l
    cases h
    obtain ⟨hl, hn⟩ := numsOk_of hp
    refine ⟨rfl, 5, (impl_listText_run _ _).trans ?_⟩
    unfold impl_listText_T
    refine (fix4 (T := fun k => impl_listText_T3 k) (fun i m l' r => (l' = l ∧ m = (l.length : Int)) ∧ (0 ≤ i ∧ i ≤ l.length) ∧ r = (l.take i.toNat).map decB) (fun i _ _ _ => l.length - i.toNat) (fun _ _ _ _ => ([T (listB l)], [])) ?_ _ _ _ _ _ ⟨⟨rfl, rfl⟩, ⟨by omega, by omega⟩, rfl⟩ (by omega))
    rintro i m l' r K ⟨⟨rfl, rfl⟩, ⟨q0, q1⟩, rfl⟩ hK
    unfold impl_listText_T3
    simp only [Bool.cond_eq_ite, decide_eq_true_eq]
    by_cases hi : i < l'.length
    · have hlt : i.toNat < l'.length := by omega
      have hr : ((l'.take i.toNat).map decB).length = i.toNat := by rw [List.length_map, List.length_take]; omega
      rw [if_pos hi, if_pos q0, if_pos hi, if_pos (hn _ hlt), if_pos (by rw [hr]; omega), w64i q0 (by omega)]
      exact hK _ _ _ _ ⟨⟨rfl, rfl⟩, ⟨by omega, by omega⟩, by rw [toNat_succ q0, List.take_succ_eq_append_getElem hlt, List.map_append, getD_lt hlt]; rfl⟩ (by omega)
    · have he : (l'.take i.toNat).map decB = l'.map decB := by rw [List.take_of_length_le (by omega)]
      rw [if_neg hi, he, if_pos (by
        rw [Bool.and_eq_true, List.all_eq_true]
        exact ⟨decide_eq_true ⟨by rw [List.length_map]; omega, by decide⟩, fun s hs => decide_eq_true (decs_le l' s hs)⟩)]
      rfl
  · cases h
theorem planNums {L Z : Int} {W G : List Int} (h : PlanP L Z W G) : (0 ≤ L ∧ L < 1000) ∧ (0 ≤ Z ∧ Z < 1000) ∧ numsOk W = true ∧ numsOk G = true := by
  obtain ⟨h1, h2, h3, h4, h5, h6, h7⟩ := h
  have key : ∀ l : List Int, l.length ≤ 3 → (∀ j, j < l.length → 0 ≤ l.getD j 0 ∧ l.getD j 0 < 1000) → numsOk l = true := fun l ha hb => by
    unfold numsOk
    rw [Bool.and_eq_true, List.all_eq_true]
    refine ⟨decide_eq_true ha, fun x hx => ?_⟩
    obtain ⟨j, hj, rfl⟩ := List.getElem_of_mem hx
    have := hb j hj
    rw [getD_lt hj] at this
    exact decide_eq_true this
  refine ⟨by omega, by omega, key W (by omega) fun j hj => ?_, key G (by omega) fun j hj => ?_⟩
  · have := (h6 j (Nat.zero_le _) hj).1
    omega
  · have := (h6 j (Nat.zero_le _) (by omega)).2.2
    omega
theorem listB_size {l : List Int} (h : numsOk l = true) : (listB l).size ≤ 60 := by
  have h1 := decs_len l (l.map decB).length
  have h2 := (numsOk_of h).1
  rw [List.length_map] at h1
  unfold listB joinB
  rw [List.length_map]
  omega
theorem K_spec_PlanWrite : Sound1 Tryd.prog EKs F_spec_PlanWrite.f S_spec_PlanWrite := snd ok_spec_PlanWrite [(F_spec_PlanOk.f, S_spec_PlanOk), (F_spec_l1Dec2.f, S_spec_l1Dec2), (F_spec_l5List.f, S_spec_l5List)] (tabF_cons K_spec_PlanOk (tabF_cons K_spec_l1Dec2 (tabF_cons K_spec_l5List (tabF_nil _ _)))) fun args sp h hp => by
  unfold S_spec_PlanWrite at h
  split at h
  · rename_i L Z W G
    cases h
    have hp : (sm W.length && sm G.length) = true := hp
    refine ⟨rfl, 0, (spec_PlanWrite_run _ _ _ _ _).trans ?_⟩
    unfold spec_PlanWrite_T
    rw [hp]
    cases hb : planB L Z W G with
    | false =>
      have hw : writeB L Z W G = ⟨#[]⟩ := by unfold writeB; rw [hb]
      rw [hw]; rfl
    | true =>
      have hw : writeB L Z W G = decB L ++ ⟨#[47]⟩ ++ decB Z ++ ⟨#[58]⟩ ++ listB W ++ ⟨#[58]⟩ ++ listB G := by unfold writeB; rw [hb]
      obtain ⟨h1, h2, h3, h4⟩ := planNums (cdec_iff.1 hb)
      have s1 := decB_size L
      have s2 := decB_size Z
      have s3 := listB_size h3
      have s4 := listB_size h4
      rw [hw]
      simp only [Bool.cond_eq_ite, decide_eq_true_eq, Bool.not_true, Bool.false_eq_true, if_false, if_true, ByteArray.size_append]
      have e1 : (⟨#[47]⟩ : ByteArray).size = 1 := rfl
      have e2 : (⟨#[58]⟩ : ByteArray).size = 1 := rfl
      rw [if_pos h1, if_pos (by omega), if_pos h2, if_pos (by omega), if_pos (by omega), if_pos h3, if_pos (by omega), if_pos (by omega), if_pos h4, if_pos (by omega)]
  · cases h
theorem K_impl_PlanWrite : Sound1 Tryd.prog EKs F_impl_PlanWrite.f S_impl_PlanWrite := snd ok_impl_PlanWrite [(F_impl_PlanOk.f, S_impl_PlanOk), (F_strconv_Itoa.f, S_strconv_Itoa), (F_impl_listText.f, S_impl_listText)] (tabF_cons K_impl_PlanOk (tabF_cons K_strconv_Itoa (tabF_cons K_impl_listText (tabF_nil _ _)))) fun args sp h hp => by
  unfold S_impl_PlanWrite S_spec_PlanWrite at h
  split at h
  · rename_i L Z W G
    cases h
    have hp : (sm W.length && sm G.length) = true := hp
    refine ⟨rfl, 0, (impl_PlanWrite_run _ _ _ _ _).trans ?_⟩
    unfold impl_PlanWrite_T
    rw [hp]
    cases hb : planB L Z W G with
    | false =>
      have hw : writeB L Z W G = ⟨#[]⟩ := by unfold writeB; rw [hb]
      rw [hw]; rfl
    | true =>
      have hw : writeB L Z W G = decB L ++ ⟨#[47]⟩ ++ decB Z ++ ⟨#[58]⟩ ++ listB W ++ ⟨#[58]⟩ ++ listB G := by unfold writeB; rw [hb]
      obtain ⟨h1, h2, h3, h4⟩ := planNums (cdec_iff.1 hb)
      have s1 := decB_size L
      have s2 := decB_size Z
      have s3 := listB_size h3
      have s4 := listB_size h4
      rw [hw]
      simp only [Bool.cond_eq_ite, decide_eq_true_eq, Bool.not_true, Bool.false_eq_true, if_false, if_true, ByteArray.size_append]
      have e1 : (⟨#[47]⟩ : ByteArray).size = 1 := rfl
      have e2 : (⟨#[58]⟩ : ByteArray).size = 1 := rfl
      rw [if_pos h1, if_pos (by omega), if_pos h2, if_pos (by omega), if_pos (by omega), if_pos h3, if_pos (by omega), if_pos (by omega), if_pos h4, if_pos (by omega)]
  · cases h
end Go.Proofs.YtbgheffgkncpgaaDoor.V
