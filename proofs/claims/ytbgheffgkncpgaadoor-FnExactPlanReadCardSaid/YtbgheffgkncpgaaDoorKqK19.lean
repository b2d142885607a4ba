/- What functions come to, and that they do so; conditions: those that each theorem states. -/
import Derived.Test.YtbgheffgkncpgaaDoorKqShe2G
import Derived.Lib.BufferMore
import Derived.WalkKit
import Derived.ProofKit
import Derived.Handy
set_option linter.unusedVariables false
set_option linter.unusedSimpArgs false
namespace Go.Proofs.YtbgheffgkncpgaaDoor.V
open Go Vx Vx.N
/-! ### Plans read -/
def glue (p : List UInt8) : List (List UInt8) → List (List UInt8)
  | [] => [p]
  | x :: t => (p ++ x) :: t
theorem glue_nil (b : UInt8) (l : List UInt8) : glue [] (cutL b l) = cutL b l := by
  obtain ⟨x, t, e⟩ := cutL_some b l
  rw [e]; rfl
theorem glue_same (b : UInt8) (p r : List UInt8) : glue p (cutL b (b :: r)) = p :: cutL b r := by rw [cutL_same, glue, List.append_nil]
theorem glue_other {b c : UInt8} (h : c ≠ b) (p r : List UInt8) : glue p (cutL b (c :: r)) = glue (p ++ [c]) (cutL b r) := by
  obtain ⟨x, t, e⟩ := cutL_some b r
  rw [cutL_other h, e]
  simp [glue]
theorem ba_extract (s : ByteArray) (i j : Nat) : s.extract i j = ba ((s.data.toList.take j).drop i) := by
  apply ByteArray.ext
  apply Array.toList_inj.1
  show (s.extract i j).data.toList = _
  rw [ByteArray.data_extract]
  simp [ba, List.drop_take]
theorem size_len (s : ByteArray) : s.data.toList.length = s.size := by rw [Array.length_toList]; rfl
theorem bt_nat (s : ByteArray) {i : Int} (h : i.toNat < s.data.toList.length) : bt s i = ((s.data.toList[i.toNat].toNat : Nat) : Int) := by
  rw [bt_bA]
  unfold bA
  rw [getD_lt h]
theorem take_drop_snoc {l : List UInt8} {f i : Nat} (h : f ≤ i) (hi : i < l.length) : (l.take (i + 1)).drop f = (l.take i).drop f ++ [l[i]] := by
  rw [List.take_succ_eq_append_getElem hi, List.drop_append_of_le_length (by rw [List.length_take]; omega)]
theorem K_spec_l5Cuts : Sound1 Tryd.prog EKs F_spec_l5Cuts.f S_spec_l5Cuts := snd ok_spec_l5Cuts [] (tabF_nil _ _) fun args sp h hp => by
  unfold S_spec_l5Cuts at h
  split at h
  · rename_i s b
    cases h
    obtain ⟨hs, hb0, hb1⟩ := of_decide_eq_true hp
    refine ⟨rfl, s.size + 1, (spec_l5Cuts_run _ _ _).trans ?_⟩
    unfold spec_l5Cuts_T
    have hl := size_len s
    refine (fix5 (T := fun k => spec_l5Cuts_T4 k) (fun i f b' s' r => (b' = b ∧ s' = s) ∧ (0 ≤ f ∧ f ≤ i ∧ i ≤ s.size) ∧ (r.length : Int) ≤ i) (fun i _ _ _ _ => s.size - i.toNat) (fun i f _ _ r => ([Ts (r ++ (glue ((s.data.toList.take i.toNat).drop f.toNat) (cutL (UInt8.ofNat b.toNat) (s.data.toList.drop i.toNat))).map ba)], [])) ?_ _ _ _ _ _ _ ⟨⟨rfl, rfl⟩, ⟨by omega, by omega, by omega⟩, by simp⟩ (by omega)).trans ?_
    rotate_left
    · rw [show (0 : Int).toNat = 0 from rfl, List.take_zero, List.drop_nil, List.drop_zero, glue_nil, List.nil_append]; rfl
    rintro i f b' s' r K ⟨⟨rfl, rfl⟩, ⟨q0, q1, q2⟩, q3⟩ hK
    unfold spec_l5Cuts_T4
    simp only [Bool.cond_eq_ite, decide_eq_true_eq, beq_iff_eq]
    have e1 : (i + 1).toNat = i.toNat + 1 := by omega
    by_cases hi : i < s'.size
    · have hlt : i.toNat < s'.data.toList.length := by omega
      have hd : s'.data.toList.drop i.toNat = s'.data.toList[i.toNat] :: s'.data.toList.drop (i.toNat + 1) := List.drop_eq_getElem_cons hlt
      rw [if_pos hi, if_pos (by omega), if_pos hi, bt_nat s' hlt, hd]
      by_cases hc : ((s'.data.toList[i.toNat].toNat : Nat) : Int) = b'
      · have hcb : s'.data.toList[i.toNat] = UInt8.ofNat b'.toNat := by rw [← hc, Int.toNat_natCast, ofNat_toNat]
        rw [if_pos hc, if_pos (by omega), if_pos q1, if_pos (by omega), if_pos (by omega), w64i (by omega) (by omega), hcb, glue_same]
        rw [hK _ _ _ _ _ ⟨⟨rfl, rfl⟩, ⟨by omega, by omega, by omega⟩, by rw [List.length_append, List.length_singleton]; omega⟩ (by omega), e1, show (s'.data.toList.take (i.toNat + 1)).drop (i.toNat + 1) = [] from List.drop_eq_nil_of_le (by rw [List.length_take]; omega), glue_nil, ba_extract, List.append_assoc]
        rfl
      · have hcb : s'.data.toList[i.toNat] ≠ UInt8.ofNat b'.toNat := fun e => hc (by rw [e, UInt8.toNat_ofNat']; omega)
        rw [if_neg hc, w64i (by omega) (by omega), glue_other hcb, ← take_drop_snoc (by omega) hlt]
        rw [hK _ _ _ _ _ ⟨⟨rfl, rfl⟩, ⟨by omega, by omega, by omega⟩, by omega⟩ (by omega), e1]
    · rw [if_neg hi, if_pos (by omega), if_pos (by omega), if_pos (by omega), if_pos (by omega), ba_extract, show s'.data.toList.drop i.toNat = [] from List.drop_eq_nil_of_le (by omega), show ((s'.size : Int)).toNat = i.toNat by omega]
      simp [cutL, glue]
  · cases h
theorem figs_nn : ∀ (l : List UInt8) (n : Int), 0 ≤ n → -1 ≤ figs n l
  | [], n, h => by rw [figs]; omega
  | c :: r, n, h => by
    rw [figs]
    split
    · exact figs_nn r _ (by omega)
    · omega
theorem K_spec_l5Num : Sound1 Tryd.prog EKs F_spec_l5Num.f S_spec_l5Num := snd ok_spec_l5Num [(F_spec_l1In.f, S_spec_l1In)] (tabF_cons K_spec_l1In (tabF_nil _ _)) fun args sp h hp => by
  unfold S_spec_l5Num at h
  split at h
  · rename_i s
    cases h
    have hs := of_decide_eq_true hp
    refine ⟨rfl, 8, (spec_l5Num_run _ _).trans ?_⟩
    unfold spec_l5Num_T
    have hl := size_len s
    simp only [Bool.cond_eq_ite, decide_eq_true_eq, Bool.not_eq_true', beq_iff_eq]
    by_cases h1 : 1 ≤ (s.size : Int) ∧ (s.size : Int) ≤ 6
    rotate_left
    · rw [if_pos (inBf h1)]
      have : numB s = -1 := by unfold numB numL; rw [if_pos (by omega)]
      rw [this]
    rw [if_neg (by rw [inBt h1]; simp)]
    have loop : ¬ (s.data.toList.length = 0 ∨ 6 < s.data.toList.length ∨ (1 < s.data.toList.length ∧ s.data.toList.head? = some 48)) → spec_l5Num_W5 8 8 (0, 0, s) = some ([I (numB s)], []) := fun hnb => by
      refine (fix3 (T := fun k => spec_l5Num_T5 k) (fun i n s' => s' = s ∧ (0 ≤ i ∧ i ≤ s.size) ∧ 0 ≤ n ∧ n < 10 ^ i.toNat) (fun i _ _ => s.size - i.toNat) (fun i n _ => ([I (figs n (s.data.toList.drop i.toNat))], [])) ?_ _ _ _ _ ⟨rfl, ⟨by omega, by omega⟩, by omega, by decide⟩ (by omega)).trans (by unfold numB numL; rw [if_neg hnb]; rfl)
      rintro i n s' K ⟨rfl, ⟨q0, q1⟩, n0, n1⟩ hK
      unfold spec_l5Num_T5
      simp only [Bool.cond_eq_ite, decide_eq_true_eq]
      by_cases hi : i < s'.size
      · have hlt : i.toNat < s'.data.toList.length := by omega
        have hd : s'.data.toList.drop i.toNat = s'.data.toList[i.toNat] :: s'.data.toList.drop (i.toNat + 1) := List.drop_eq_getElem_cons hlt
        have hp6 : (10 : Int) ^ i.toNat ≤ 100000 := by
          have : (10 : Nat) ^ i.toNat ≤ 10 ^ 5 := Nat.pow_le_pow_right (by decide) (by omega)
          have h5 : ((10 ^ i.toNat : Nat) : Int) = (10 : Int) ^ i.toNat := Int.natCast_pow 10 i.toNat
          have h6 : (10 : Nat) ^ 5 = 100000 := rfl
          rw [← h5]
          omega
        have hc256 := UInt8.toNat_lt s'.data.toList[i.toNat]
        rw [if_pos hi, if_pos q0, if_pos hi, bt_nat s' hlt, hd]
        generalize s'.data.toList[i.toNat] = c at *
        by_cases hlo : ((c.toNat : Nat) : Int) < 48
        · rw [if_pos hlo, figs_bad (by omega)]
        rw [if_neg hlo, if_pos q0, if_pos hi]
        by_cases hhi : ((c.toNat : Nat) : Int) > 57
        · rw [if_pos hhi, figs_bad (by omega)]
        rw [if_neg hhi, if_pos q0, if_pos hi, figs, if_pos (by omega), w64i q0 (by omega), u8wrap (x := (c.toNat : Int) - 48) (by omega) (by omega), w64 (x := (c.toNat : Int) - 48) (by omega) (by omega), w64 (x := n * 10) (by omega) (by omega), w64 (by omega) (by omega)]
        rw [hK _ _ _ ⟨rfl, ⟨by omega, by omega⟩, by omega, by rw [toNat_succ q0, Int.pow_succ]; omega⟩ (by omega), toNat_succ q0]
      · rw [if_neg hi, List.drop_eq_nil_of_le (by omega), figs]
    by_cases h2 : (s.size : Int) > 1
    · rw [if_pos h2, if_pos (by omega)]
      have hlt : (0 : Int).toNat < s.data.toList.length := by show 0 < _; omega
      rw [bt_nat s hlt]
      have hh : s.data.toList.head? = some s.data.toList[(0 : Int).toNat] := by
        rw [List.head?_eq_getElem?]; exact List.getElem?_eq_getElem hlt
      by_cases h3 : ((s.data.toList[(0 : Int).toNat].toNat : Nat) : Int) = 48
      · rw [if_pos h3]
        have : numB s = -1 := by
          unfold numB numL
          rw [if_pos (.inr (.inr ⟨by omega, by rw [hh]; exact congrArg some (UInt8.toNat_inj.1 (by show _ = 48; omega))⟩))]
        rw [this]
      · rw [if_neg h3]
        exact loop (by
          rintro (h4 | h4 | ⟨_, h4⟩)
          · omega
          · omega
          · rw [hh] at h4
            exact h3 (by rw [Option.some.inj h4]; rfl))
    · rw [if_neg h2]
      exact loop (by rintro (h4 | h4 | ⟨h4, _⟩) <;> omega)
  · cases h
theorem piece_size {b : UInt8} {s : ByteArray} {i : Nat} (h : i < (cutB b s).length) (hs : s.size < 100000000) : ((cutB b s).getD i ⟨#[]⟩).size < 100000000 := by
  rw [getD_lt h]
  have := cutB_size b s _ (List.getElem_mem h)
  omega
theorem K_spec_l5Nums : Sound1 Tryd.prog EKs F_spec_l5Nums.f S_spec_l5Nums := snd ok_spec_l5Nums [(F_spec_l5Cuts.f, S_spec_l5Cuts), (F_spec_l5Num.f, S_spec_l5Num)] (tabF_cons K_spec_l5Cuts (tabF_cons K_spec_l5Num (tabF_nil _ _))) fun args sp h hp => by
  unfold S_spec_l5Nums at h
  split at h
  · rename_i s
    cases h
    have hs := of_decide_eq_true hp
    refine ⟨rfl, 6, (spec_l5Nums_run _ _).trans ?_⟩
    unfold spec_l5Nums_T
    rw [show decide (s.size < 100000000 ∧ (0 : Int) ≤ 44 ∧ (44 : Int) < 256) = true from decide_eq_true ⟨hs, by decide, by decide⟩, cond_true]
    have h44 : UInt8.ofNat 44 = 44 := rfl
    refine (fix3 (T := fun k => spec_l5Nums_T4 k) (fun i l r => l = cutB 44 s ∧ (0 ≤ i ∧ i ≤ l.length ∧ i ≤ 4) ∧ r = (l.take i.toNat).map numB) (fun i _ _ => 4 - i.toNat) (fun _ _ _ => ([Is (numsB s)], [])) ?_ _ _ _ _ ⟨rfl, ⟨by omega, by omega, by omega⟩, rfl⟩ (by decide))
    rintro i l r K ⟨rfl, ⟨q0, q1, q2⟩, rfl⟩ hK
    unfold spec_l5Nums_T4
    simp only [Bool.cond_eq_ite, decide_eq_true_eq]
    by_cases hi : i < (cutB 44 s).length
    · have hlt : i.toNat < (cutB 44 s).length := by omega
      rw [if_pos hi]
      by_cases h3 : i ≤ 3
      · rw [if_pos h3, if_pos q0, if_pos hi, if_pos (piece_size hlt hs), if_pos (by rw [List.length_map, List.length_take]; omega), w64i q0 (by omega)]
        exact hK _ _ _ ⟨rfl, ⟨by omega, by omega, by omega⟩, by rw [toNat_succ q0, List.take_succ_eq_append_getElem hlt, List.map_append, getD_lt hlt]; rfl⟩ (by omega)
      · rw [if_neg h3]
        unfold numsB
        rw [show i.toNat = 4 by omega]
    · rw [if_neg hi]
      unfold numsB
      rw [List.take_of_length_le (by omega), List.take_of_length_le (by omega)]
  · cases h
theorem K_impl_listRead : Sound1 Tryd.prog EKs F_impl_listRead.f S_impl_listRead := snd ok_impl_listRead [(F_strings_Split.f, S_strings_Split), (F_impl_number.f, S_impl_number)] (tabF_cons K_strings_Split (tabF_cons K_impl_number (tabF_nil _ _))) fun args sp h hp => by
  unfold S_impl_listRead at h
  split at h
  · rename_i s
    cases h
    have hs := of_decide_eq_true hp
    have hlen := cutB_len 44 s
    refine ⟨rfl, s.size + 3, (impl_listRead_run _ _).trans ?_⟩
    unfold impl_listRead_T
    rw [show decide (s.size < 100000000 ∧ ByteArray.size { data := #[44] } = 1) = true from decide_eq_true ⟨hs, rfl⟩, cond_true]
    have h44 : UInt8.ofNat (bA { data := #[44] } 0) = 44 := rfl
    rw [h44]
    refine (fix4 (T := fun k => impl_listRead_T3 k) (fun i m l r => (l = cutB 44 s ∧ m = ((cutB 44 s).length : Int)) ∧ (0 ≤ i ∧ i ≤ (cutB 44 s).length) ∧ r = (l.take i.toNat).map fun x => if numB x < 0 then 0 else numB x) (fun i _ _ _ => (cutB 44 s).length - i.toNat) (fun _ _ _ _ => ([Is (nums0 s)], [])) ?_ _ _ _ _ _ ⟨⟨rfl, rfl⟩, ⟨by omega, by omega⟩, rfl⟩ (by omega))
    rintro i m l r K ⟨⟨rfl, rfl⟩, ⟨q0, q1⟩, rfl⟩ hK
    unfold impl_listRead_T3
    simp only [Bool.cond_eq_ite, decide_eq_true_eq]
    by_cases hi : i < (cutB 44 s).length
    · have hlt : i.toNat < (cutB 44 s).length := by omega
      rw [if_pos hi, if_pos q0, if_pos hi, if_pos (piece_size hlt hs), if_pos (by rw [List.length_map, List.length_take]; omega), w64i q0 (by omega)]
      exact hK _ _ _ _ ⟨⟨rfl, rfl⟩, ⟨by omega, by omega⟩, by rw [toNat_succ q0, List.take_succ_eq_append_getElem hlt, List.map_append, getD_lt hlt]; rfl⟩ (by omega)
    · rw [if_neg hi, List.take_of_length_le (by omega)]; rfl
  · cases h
end Go.Proofs.YtbgheffgkncpgaaDoor.V
namespace Go.Proofs.YtbgheffgkncpgaaDoor.V
open Go Vx Vx.N
/-! ### Numbers in turn: held -/
theorem upL_len : ∀ (n : Nat) (k : Int), (upL k n).length = n
  | 0, _ => rfl
  | n + 1, k => by rw [upL, List.length_cons, upL_len n]
theorem heldV_nil (k : Int) : heldV [] k = k := by unfold heldV; rw [decide_eq_true (show ([] : List Int) = upL k ([] : List Int).length from rfl)]; simp
theorem heldV_cons (x k : Int) (l : List Int) (hk : 0 ≤ k) : heldV (x :: l) k = if x = k then (heldV l (k + 1)) else -1 := by
  unfold heldV
  rw [List.length_cons, upL]
  by_cases h : x = k
  · subst h
    rw [if_pos rfl]
    by_cases h2 : l = upL (x + 1) l.length
    · rw [decide_eq_true h2, decide_eq_true (by rw [← h2])]
      show x + ((l.length + 1 : Nat) : Int) = x + 1 + (l.length : Int)
      omega
    · rw [decide_eq_false h2, decide_eq_false fun e => h2 (List.cons.inj e).2]
  · rw [if_neg h, decide_eq_false fun e => h (List.cons.inj e).1]
theorem K_laws_heldIntS : Sound1 Tryd.prog EKs F_laws_heldIntS.f S_laws_heldIntS := snd ok_laws_heldIntS [] (tabF_nil _ _) fun args sp h hp => by
  unfold S_laws_heldIntS at h
  split at h
  · rename_i a k
    cases h
    have hp : (sm a.length && decide (0 ≤ k ∧ k < 10000000000)) = true := hp
    rw [Bool.and_eq_true] at hp
    have hl : a.length < 1000000000 := of_decide_eq_true hp.1
    obtain ⟨k0, k1⟩ := of_decide_eq_true hp.2
    refine ⟨rfl, a.length + 1, (laws_heldIntS_run _ _ _).trans ?_⟩
    unfold laws_heldIntS_T
    refine (fix3 (T := fun k => laws_heldIntS_T2 k) (fun i m a' => a' = a ∧ (0 ≤ i ∧ i ≤ a.length) ∧ m = k + i) (fun i _ _ => a.length - i.toNat) (fun i m _ => ([I (heldV (a.drop i.toNat) m)], [])) ?_ _ _ _ _ ⟨rfl, ⟨by omega, by omega⟩, by omega⟩ (by omega))
    rintro i m a' K ⟨rfl, ⟨q0, q1⟩, rfl⟩ hK
    unfold laws_heldIntS_T2
    simp only [Bool.cond_eq_ite, decide_eq_true_eq, bne_iff_ne, ne_eq]
    by_cases hi : i < a'.length
    · have hlt : i.toNat < a'.length := by omega
      rw [if_pos hi, if_pos q0, if_pos hi, w64i q0 (by omega), List.drop_eq_getElem_cons hlt, heldV_cons _ _ _ (by omega), getD_lt hlt]
      by_cases hc : a'[i.toNat] = k + i
      · rw [if_neg (not_not_intro hc), if_pos hc, w64i (i := k + i) (by omega) (by omega), hK _ _ _ ⟨rfl, ⟨by omega, by omega⟩, by omega⟩ (by omega), toNat_succ q0]
      · rw [if_pos hc, if_neg hc]
    · rw [if_neg hi, List.drop_eq_nil_of_le (by omega), heldV_nil]
  · cases h
theorem heldV_in {l : List Int} {k : Int} (h0 : 0 ≤ k) (h : ¬ heldV l k < 0) : heldV l k = k + l.length := by
  unfold heldV at h ⊢
  split at h
  · rfl
  · omega
theorem heldV_neg {l : List Int} {k : Int} (h0 : 0 ≤ k) (h : heldV l k < 0) : heldV l k = -1 := by
  unfold heldV at h ⊢
  split at h
  · omega
  · rfl
theorem K_laws_heldPlan : Sound1 Tryd.prog EKs F_laws_heldPlan.f S_laws_heldPlan := snd ok_laws_heldPlan [(F_laws_heldIntS.f, S_laws_heldIntS)] (tabF_cons K_laws_heldIntS (tabF_nil _ _)) fun args sp h hp => by
  unfold S_laws_heldPlan at h
  split at h
  · rename_i L Z W G k
    cases h
    have hp : ((sm W.length && sm G.length) && decide (0 ≤ k ∧ k < 10)) = true := hp
    rw [Bool.and_eq_true, Bool.and_eq_true] at hp
    have hW : W.length < 1000000000 := of_decide_eq_true hp.1.1
    have hG : G.length < 1000000000 := of_decide_eq_true hp.1.2
    obtain ⟨k0, k1⟩ := of_decide_eq_true hp.2
    refine ⟨rfl, 0, (laws_heldPlan_run _ _ _ _ _ _).trans ?_⟩
    unfold laws_heldPlan_T
    rw [hp.1.1, hp.1.2, show decide (0 ≤ k ∧ k < 10000000000) = true from decide_eq_true ⟨k0, by omega⟩]
    unfold heldP
    by_cases h1 : heldV W k < 0
    · rw [decide_eq_true h1]; rfl
    · have e1 := heldV_in k0 h1
      rw [decide_eq_false h1, show decide (0 ≤ heldV W k ∧ heldV W k < 10000000000) = true from decide_eq_true ⟨by omega, by omega⟩]
      by_cases h2 : heldV G (heldV W k) < 0
      · rw [decide_eq_true h2, heldV_neg (by omega) h2]; rfl
      · rw [decide_eq_false h2]; rfl
  · cases h
end Go.Proofs.YtbgheffgkncpgaaDoor.V
namespace Go.Proofs.YtbgheffgkncpgaaDoor.V
open Go Vx Vx.N
/-! ### Plans read: both ways -/
theorem planB_t {L Z : Int} {W G : List Int} (h : planB L Z W G = true) : PlanP L Z W G := cdec_iff.1 h
theorem writeB_f {L Z : Int} {W G : List Int} (h : planB L Z W G = false) : writeB L Z W G = ⟨#[]⟩ := by unfold writeB; rw [h]
/-- A number, or nought. -/
def nn (n : Int) : Int := if n < 0 then 0 else n
theorem nn_one {n : Int} (h : 1 ≤ nn n) : nn n = n := by
  unfold nn at h ⊢
  split at h
  · omega
  · rename_i e; rw [if_neg e]
theorem map_nn {α : Type} (f : α → Int) : ∀ (l : List α), (∀ j, j < (l.map fun x => nn (f x)).length → 1 ≤ (l.map fun x => nn (f x)).getD j 0) → (l.map fun x => nn (f x)) = l.map f
  | [], _ => rfl
  | x :: l, h => by
    have h0 := h 0 (by simp)
    have h0 : 1 ≤ nn (f x) := by simpa using h0
    have h1 := map_nn f l (fun j hj => by
      have := h (j + 1) (by simp at hj ⊢; omega)
      simpa using this)
    rw [List.map_cons, List.map_cons, h1, nn_one h0]
theorem nums0_len (s : ByteArray) : (nums0 s).length = (cutB 44 s).length := by unfold nums0; rw [List.length_map]
theorem nums_same {s : ByteArray} (hl : (nums0 s).length ≤ 3) (h : ∀ j, j < (nums0 s).length → 1 ≤ (nums0 s).getD j 0) : nums0 s = numsB s := by
  rw [nums0_len] at hl
  have h1 : nums0 s = (cutB 44 s).map numB := map_nn numB (cutB 44 s) h
  unfold numsB
  rw [h1, List.take_of_length_le (by omega)]
/-- A plan in order has numbers above nought. -/
theorem planP_pos {L Z : Int} {W G : List Int} (h : PlanP L Z W G) : 1 ≤ L ∧ 1 ≤ Z ∧ (W.length ≤ 3 ∧ ∀ j, j < W.length → 1 ≤ W.getD j 0) ∧ G.length ≤ 3 ∧ ∀ j, j < G.length → 1 ≤ G.getD j 0 := by
  obtain ⟨h1, h2, h3, h4, h5, h6, h7⟩ := h
  exact ⟨h1.1, h2.1, ⟨h4.2, fun j hj => (h6 j (Nat.zero_le _) hj).1.1⟩, by omega, fun j hj => (h6 j (Nat.zero_le _) (by omega)).2.2.1⟩
theorem numB_ge (s : ByteArray) : -1 ≤ numB s := by
  unfold numB numL
  split
  · omega
  · exact figs_nn _ _ (Int.le_refl _)
theorem nums_one {s : ByteArray} (hl : (numsB s).length ≤ 3) (h : ∀ j, j < (numsB s).length → 1 ≤ (numsB s).getD j 0) : nums0 s = numsB s := by
  have hlen : (cutB 44 s).length ≤ 3 := by
    unfold numsB at hl
    rw [List.length_map, List.length_take] at hl
    omega
  have e : numsB s = (cutB 44 s).map numB := by unfold numsB; rw [List.take_of_length_le (by omega)]
  rw [e] at h ⊢
  unfold nums0
  apply List.map_congr_left
  intro x hx
  obtain ⟨j, hj, rfl⟩ := List.getElem_of_mem hx
  have := h j (by rw [List.length_map]; exact hj)
  rw [getD_lt (by rw [List.length_map]; exact hj), List.getElem_map] at this
  rw [if_neg (by omega)]
/-- Written, the plans of both are the same; or none is in order. -/
theorem both_same (a b w g : ByteArray) : (planB (nn (numB a)) (nn (numB b)) (nums0 w) (nums0 g) = false ∧ planB (numB a) (numB b) (numsB w) (numsB g) = false) ∨ (nn (numB a) = numB a ∧ nn (numB b) = numB b ∧ nums0 w = numsB w ∧ nums0 g = numsB g) := by
  cases h1 : planB (nn (numB a)) (nn (numB b)) (nums0 w) (nums0 g) with
  | true =>
    obtain ⟨p1, p2, p3, p4⟩ := planP_pos (planB_t h1)
    exact .inr ⟨nn_one p1, nn_one p2, nums_same p3.1 p3.2, nums_same p4.1 p4.2⟩
  | false =>
    cases h2 : planB (numB a) (numB b) (numsB w) (numsB g) with
    | false => exact .inl ⟨rfl, rfl⟩
    | true =>
      obtain ⟨p1, p2, p3, p4⟩ := planP_pos (planB_t h2)
      exact .inr ⟨by unfold nn; rw [if_neg (by omega)], by unfold nn; rw [if_neg (by omega)], nums_one p3.1 p3.2, nums_one p4.1 p4.2⟩
theorem ba_nil_size {s : ByteArray} (h : (⟨#[]⟩ : ByteArray) = s) : s.size = 0 := by rw [← h]; rfl
theorem three_pos {s h w g : ByteArray} (e : cutB 58 s = [h, w, g]) : (⟨#[]⟩ : ByteArray) ≠ s := fun hs => by
  have h1 := cutB_len 58 s
  rw [e, ba_nil_size hs] at h1
  simp at h1
theorem three_of {l : List ByteArray} (h : l.length = 3) : ∃ x y z, l = [x, y, z] := by
  match l, h with
  | [x, y, z], _ => exact ⟨x, y, z, rfl⟩
theorem two_of {l : List ByteArray} (h : l.length = 2) : ∃ x y, l = [x, y] := by
  match l, h with
  | [x, y], _ => exact ⟨x, y, rfl⟩
theorem numsB_len (s : ByteArray) : (numsB s).length ≤ 4 := by unfold numsB; rw [List.length_map, List.length_take]; omega
theorem readP_three {s h w g : ByteArray} (e : cutB 58 s = [h, w, g]) : readP s = match cutB 47 h with
    | [a, b] => match decide (writeB (numB a) (numB b) (numsB w) (numsB g) = s) with
      | true => (numB a, numB b, numsB w, numsB g, true)
      | false => (0, 0, [], [], false)
    | _ => (0, 0, [], [], false) := by unfold readP; rw [e]; rfl
theorem readP_not {s : ByteArray} (h : (cutB 58 s).length ≠ 3) : readP s = (0, 0, [], [], false) := by
  unfold readP
  split
  · rename_i e; rw [e] at h; exact absurd rfl h
  · rfl
theorem not_two {h : ByteArray} {P : ByteArray → ByteArray → PlR} (h2 : (cutB 47 h).length ≠ 2) : (match cutB 47 h with
    | [a, b] => P a b
    | _ => (0, 0, [], [], false)) = ((0, 0, [], [], false) : PlR) := by
  split
  · rename_i e; rw [e] at h2; exact absurd rfl h2
  · rfl
theorem K_spec_PlanRead : Sound1 Tryd.prog EKs F_spec_PlanRead.f S_spec_PlanRead := snd ok_spec_PlanRead [(F_spec_l5Cuts.f, S_spec_l5Cuts), (F_spec_l5Num.f, S_spec_l5Num), (F_spec_l5Nums.f, S_spec_l5Nums), (F_spec_PlanWrite.f, S_spec_PlanWrite)] (tabF_cons K_spec_l5Cuts (tabF_cons K_spec_l5Num (tabF_cons K_spec_l5Nums (tabF_cons K_spec_PlanWrite (tabF_nil _ _))))) fun args sp h hp => by
  unfold S_spec_PlanRead at h
  split at h
  · rename_i s
    cases h
    have hs := of_decide_eq_true hp
    refine ⟨rfl, 0, (spec_PlanRead_run _ _).trans ?_⟩
    unfold spec_PlanRead_T
    have e58 : UInt8.ofNat 58 = 58 := rfl
    have e47 : UInt8.ofNat 47 = 47 := rfl
    simp only [Bool.cond_eq_ite, decide_eq_true_eq, Bool.not_eq_true', bne_iff_ne, ne_eq, e58, e47]
    rw [if_pos ⟨by omega, by decide, by decide⟩]
    by_cases h3 : (cutB 58 s).length = 3
    rotate_left
    · rw [if_pos (by omega), readP_not h3]
    obtain ⟨h, w, g, e⟩ := three_of h3
    have hsz := cutB_size 58 s
    rw [e] at hsz
    have z1 := hsz h (by simp)
    have z2 := hsz w (by simp)
    have z3 := hsz g (by simp)
    rw [readP_three e, e]
    simp only [List.length_cons, List.length_nil, List.getD_cons_zero, List.getD_cons_succ]
    rw [if_neg (by decide), if_pos (by decide), if_pos ⟨by omega, by decide, by decide⟩]
    by_cases h2 : (cutB 47 h).length = 2
    rotate_left
    · rw [if_pos (by omega), not_two h2]
    obtain ⟨a, b, e2⟩ := two_of h2
    have hsz2 := cutB_size 47 h
    rw [e2] at hsz2
    have z4 := hsz2 a (by simp)
    have z5 := hsz2 b (by simp)
    rw [e2]
    simp only [List.length_cons, List.length_nil, List.getD_cons_zero, List.getD_cons_succ]
    have l1 := numsB_len w
    have l2 := numsB_len g
    rw [if_neg (by decide), if_pos (by decide), if_pos (by omega), if_pos (by decide), if_pos (by omega), if_pos (by decide), if_pos (by omega), if_pos (by decide), if_pos (by omega), if_pos (by rw [Bool.and_eq_true]; exact ⟨decide_eq_true (by omega), decide_eq_true (by omega)⟩), ba_toList_eq]
    cases hd : decide (writeB (numB a) (numB b) (numsB w) (numsB g) = s) with
    | true => rfl
    | false => rfl
  · cases h
theorem ahead_two {h : ByteArray} : (∃ a b, cutB 47 h = [a, b] ∧ ba (aheadL 47 h.data.toList) = a ∧ ba (behindL 47 h.data.toList) = b) ∨ ((cutB 47 h).length ≠ 2 ∧ numB (ba (behindL 47 h.data.toList)) = -1) := by
  unfold cutB aheadL
  generalize h.data.toList = l
  rcases idx_cut 47 l with ⟨h1, h2, h3, h4⟩ | ⟨i, h1, h2, h3, h4, h5⟩
  · rw [h2, h4]
    exact .inr ⟨by simp, rfl⟩
  · rw [h3, h5]
    rcases idx_cut 47 (l.drop (i + 1)) with ⟨g1, g2, g3, g4⟩ | ⟨j, g1, g2, g3, g4, g5⟩
    · rw [g2]
      exact .inl ⟨_, _, rfl, rfl, rfl⟩
    · refine .inr ⟨?_, ?_⟩
      · rw [g3]
        obtain ⟨x, t, e⟩ := cutL_some 47 ((l.drop (i + 1)).drop (j + 1))
        rw [e]; simp
      · have hmem : (47 : UInt8) ∈ l.drop (i + 1) := by simpa using g4
        show numL (l.drop (i + 1)) = -1
        generalize l.drop (i + 1) = m at hmem
        unfold numL
        split
        · rfl
        · have bad : ∀ (m : List UInt8) (n : Int), (47 : UInt8) ∈ m → figs n m = -1 := by
            intro m
            induction m with
            | nil => intro n hm; cases hm
            | cons c r ih =>
              intro n hm
              rw [figs]
              split
              · rename_i hc
                rcases List.mem_cons.1 hm with e | hm
                · rw [← e] at hc
                  exact absurd hc (by decide)
                · exact ih _ hm
              · rfl
          exact bad m 0 hmem
theorem K_impl_PlanRead : Sound1 Tryd.prog EKs F_impl_PlanRead.f S_impl_PlanRead := snd ok_impl_PlanRead [(F_strings_Split.f, S_strings_Split), (F_strings_Cut.f, S_strings_Cut), (F_impl_listRead.f, S_impl_listRead), (F_impl_number.f, S_impl_number), (F_impl_PlanWrite.f, S_impl_PlanWrite)] (tabF_cons K_strings_Split (tabF_cons K_strings_Cut (tabF_cons K_impl_listRead (tabF_cons K_impl_number (tabF_cons K_impl_PlanWrite (tabF_nil _ _)))))) fun args sp h hp => by
  unfold S_impl_PlanRead S_spec_PlanRead at h
  split at h
  · rename_i s
    cases h
    have hs := of_decide_eq_true hp
    refine ⟨rfl, 0, (impl_PlanRead_run _ _).trans ?_⟩
    unfold impl_PlanRead_T
    have e58 : UInt8.ofNat (bA { data := #[58] } 0) = 58 := rfl
    have e47 : UInt8.ofNat (bA { data := #[47] } 0) = 47 := rfl
    have o58 : ByteArray.size { data := #[58] } = 1 := rfl
    have o47 : ByteArray.size { data := #[47] } = 1 := rfl
    simp only [Bool.cond_eq_ite, decide_eq_true_eq, Bool.not_eq_true', bne_iff_ne, ne_eq, e58, e47, o58, o47, and_true]
    rw [if_pos (by omega)]
    by_cases h3 : (cutB 58 s).length = 3
    rotate_left
    · rw [if_pos (by omega), readP_not h3]
    obtain ⟨h, w, g, e⟩ := three_of h3
    have hsz := cutB_size 58 s
    rw [e] at hsz
    have z1 := hsz h (by simp)
    have z2 := hsz w (by simp)
    have z3 := hsz g (by simp)
    have hpos := three_pos e
    rw [readP_three e, e]
    simp only [List.length_cons, List.length_nil, List.getD_cons_zero, List.getD_cons_succ]
    have l1 : (nums0 w).length ≤ w.size + 1 := by rw [nums0_len]; exact cutB_len 44 w
    have l2 : (nums0 g).length ≤ g.size + 1 := by rw [nums0_len]; exact cutB_len 44 g
    have hsm : (sm (nums0 w).length && sm (nums0 g).length) = true := by rw [Bool.and_eq_true]; exact ⟨decide_eq_true (by omega), decide_eq_true (by omega)⟩
    have za : (ba (aheadL 47 h.data.toList)).size ≤ h.size := by
      rw [ba_size]
      unfold aheadL
      obtain ⟨x, t, ex⟩ := cutL_some 47 h.data.toList
      have := (cutL_le 47 h.data.toList).2 x (by rw [ex]; simp)
      rw [ex, ← size_len]; exact this
    have zb : (ba (behindL 47 h.data.toList)).size ≤ h.size := by
      rw [ba_size, ← size_len]
      rcases idx_cut 47 h.data.toList with ⟨_, _, _, h4⟩ | ⟨i, _, _, _, _, h5⟩
      · rw [h4]; simp
      · rw [h5, List.length_drop]; omega
    rw [if_neg (by decide), if_pos (by decide), if_pos (by omega), if_pos (by decide), if_pos (by omega), if_pos (by decide), if_pos (by omega), if_pos (by omega), if_pos (by omega), if_pos hsm, ba_toList_eq]
    have en : ∀ x : ByteArray, (if numB x < 0 then 0 else numB x) = nn (numB x) := fun _ => rfl
    simp only [en]
    rcases ahead_two (h := h) with ⟨a, b, e2, ea, eb⟩ | ⟨h2, hb⟩
    · rw [e2, ea, eb]
      dsimp only
      rcases both_same a b w g with ⟨p1, p2⟩ | ⟨p1, p2, p3, p4⟩
      · rw [writeB_f p1, writeB_f p2, decide_eq_false hpos]; rfl
      · rw [p1, p2, p3, p4]
        cases hd : decide (writeB (numB a) (numB b) (numsB w) (numsB g) = s) with
        | true => rfl
        | false => rfl
    · rw [not_two h2, hb]
      have hz : planB (nn (numB (ba (aheadL 47 h.data.toList)))) (nn (-1)) (nums0 w) (nums0 g) = false := by
        cases hz : planB (nn (numB (ba (aheadL 47 h.data.toList)))) (nn (-1)) (nums0 w) (nums0 g) with
        | false => rfl
        | true =>
          have := (planP_pos (planB_t hz)).2.1
          exact absurd this (by decide)
      rw [writeB_f hz, decide_eq_false hpos]; rfl
  · cases h
end Go.Proofs.YtbgheffgkncpgaaDoor.V
namespace Go.Proofs.YtbgheffgkncpgaaDoor.V
open Go Vx Vx.N
/-! ### Numbers in turn: written -/
section
open Go.RowKit
theorem upL_snoc : ∀ (n : Nat) (k : Int), upL k (n + 1) = upL k n ++ [k + n]
  | 0, k => by simp [upL]
  | n + 1, k => by
    rw [upL, upL_snoc n (k + 1), upL, List.cons_append]
    congr 2
    simp
    omega
theorem own_ints {w : World} {B : Nat → Prop} {e : TypeId} {u : Value} {l : List Int} (h : OwnRep w B e u (.ints .i64 l)) : ownsM w false e 1 u l.length (l.map (Value.int .i64)) := by
  obtain ⟨cs, h1, h2⟩ := h
  have hl : cs.length = l.length := (h1.1).trans (Nat.mul_one _)
  have hc : cs = l.map (Value.int .i64) := by
    apply List.ext_getElem?
    intro j
    by_cases hj : j < l.length
    · obtain ⟨a, ha, hr⟩ := h2 j (.sc (.int .i64 l[j])) (by simp [Row.flat, hj])
      rw [ha, (hr : a = _)]
      simp [hj]
    · rw [List.getElem?_eq_none (by omega), List.getElem?_eq_none (by rw [List.length_map]; omega)]
  rw [hc] at h1
  exact h1
theorem ints_own {w : World} {B : Nat → Prop} {e : TypeId} {u : Value} {l : List Int} (h : ownsM w false e 1 u l.length (l.map (Value.int .i64))) : OwnRep w B e u (.ints .i64 l) :=
  ⟨_, h, fun j c hj => by
    simp only [Row.flat, List.getElem?_map, Option.map_eq_some_iff] at hj ⊢
    obtain ⟨x, hx, rfl⟩ := hj
    exact ⟨_, ⟨x, hx, rfl⟩, rfl⟩⟩
structure AsideC (p : Prop) : Prop where mk :: (out : p)
def cellsN (w : World) (g cap : Nat) (e : TypeId) (n : Nat) (l : List Int) : Prop := ∃ cs, w.heap[g]? = some (.cells cs e (0, 0)) ∧ cs.size = cap ∧ cs.toList.take n = l.map (Value.int .i64)
theorem cellsN_at {w : World} {g cap n : Nat} {e : TypeId} {l : List Int} (h : cellsN w g cap e n l) {j : Nat} (hj : j < l.length) : w.cell? ⟨g, j, none⟩ = some (.int .i64 l[j]) ∧ w.frozen? ⟨g, j, none⟩ = false := by
  obtain ⟨cs, h1, h2, h3⟩ := h
  constructor
  · have h4 : (cs.toList.take n)[j]? = some (.int .i64 l[j]) := by rw [h3]; simp [hj]
    rw [List.getElem?_take] at h4
    split at h4
    · simp [World.cell?, h1]
      simpa using h4
    · cases h4
  · simp [World.frozen?, h1]
theorem cellsN_set {w : World} {g cap n : Nat} {e : TypeId} {l : List Int} (h : cellsN w g cap e n l) (j : Nat) (x : Int) : cellsN (w.setCell ⟨g, j, none⟩ (.int .i64 x)) g cap e n (l.set j x) := by
  obtain ⟨cs, h1, h2, h3⟩ := h
  refine ⟨_, Lib.heap_setCell_same h1 _, by simp [h2], ?_⟩
  rw [List.map_set, ← h3, Array.toList_setIfInBounds, List.take_set]
theorem up_set {l : List Int} {k : Int} {n : Nat} (h : n < l.length) : (upL k n ++ l.drop n).set n (k + n) = upL k (n + 1) ++ l.drop (n + 1) := by
  rw [List.set_append_right _ _ (by rw [upL_len]; exact Nat.le_refl _), upL_len, Nat.sub_self, List.drop_eq_getElem_cons h, List.set_cons_zero, upL_snoc, List.append_assoc]
  rfl
theorem chg_set {w w' : World} {g : Nat} (h : Chg (fun j => j = g) w w') (n : Nat) (v : Value) : Chg (fun j => j = g) w (w'.setCell ⟨g, n, none⟩ v) :=
  h.trans ⟨rfl, rfl, rfl, by simp [World.setCell], fun j _ hj => Below.heap_setCell _ _ _ j hj⟩
set_option maxHeartbeats 4000000 in
set_option maxRecDepth 100000 in
theorem mark_walk (g cap : Nat) (l : List Int) (k : Int) (e : TypeId) (w : World) (hb : cellsN w g cap e l.length l) (hc : l.length ≤ cap) (hl : l.length < 1000000000) (hk0 : 0 ≤ k) (hk1 : k < 10000000000) : Calls Tryd.prog 40 #[.slice (some ⟨g, 0, none⟩) l.length cap, .int .i64 k] w fun e' w' => e' = .returned (.int .i64 (k + l.length)) ∧ Chg (fun j => j = g) w w' ∧ cellsN w' g cap e l.length (upL k l.length) := by
  go_enter Tryd.func40, Tryd.ntmps40
  go_wp2
  go_loopg [1, 5] l.length (fun q v1 v5 w' => ∃ n : Nat, v5 = .int .i64 (n : Int) ∧ v1 = .int .i64 (k + n) ∧ n + q = l.length ∧ cellsN w' g cap e l.length (upL k n ++ l.drop n) ∧ AsideC (Chg (fun j => j = g) w w'))
  case atStart => exact ⟨0, rfl, by simp, by omega, hb, ⟨Chg.refl _ _⟩⟩
  case round =>
    obtain ⟨n, rfl, rfl, hn, hC, HB⟩ := hrel
    by_cases hlt : n < l.length
    · have hd : decide ((n : Int) < (l.length : Int)) = true := decide_eq_true (by omega)
      have hnl : n < (upL k n ++ l.drop n).length := by rw [List.length_append, upL_len, List.length_drop]; omega
      obtain ⟨hc1, hf1⟩ := cellsN_at hC hnl
      go_wp2
      cases gk with
      | zero => omega
      | succ q =>
        go_roundg q
        case measure => omega
        case rel =>
          refine ⟨n + 1, ?_, ?_, by omega, ?_, ⟨?_⟩⟩
          · congr 1
          · congr 1
            omega
          · rw [← up_set hlt]
            exact cellsN_set hC n (k + n)
          · exact chg_set HB.out _ _
    · have hd : decide ((n : Int) < (l.length : Int)) = false := decide_eq_false (by omega)
      go_wp2
      go_ret
      have : n = l.length := by omega
      subst this
      rw [List.drop_length, List.append_nil] at hC
      exact ⟨rfl, HB.out, hC⟩
set_option maxHeartbeats 4000000 in
set_option maxRecDepth 100000 in
theorem mark_nil (k : Int) (w : World) : Calls Tryd.prog 40 #[.slice none 0 0, .int .i64 k] w fun e' w' => e' = .returned (.int .i64 k) ∧ w' = w := by
  go_enter Tryd.func40, Tryd.ntmps40
  go_wp2
  go_loopg [1, 5] 0 (fun q v1 v5 w' => v5 = .int .i64 0 ∧ v1 = .int .i64 k ∧ w' = w)
  case atStart => exact ⟨rfl, rfl, rfl⟩
  case round =>
    obtain ⟨rfl, rfl, rfl⟩ := hrel
    go_wp2
    go_ret
    exact ⟨rfl, rfl⟩
/-- A row of one's own, written with numbers in turn. -/
theorem mark_own {B : Nat → Prop} {u : Value} {l : List Int} {k : Int} {e : TypeId} {w : World} (h : OwnRep w B e u (.ints .i64 l)) (hl : l.length < 1000000000) (hk0 : 0 ≤ k) (hk1 : k < 10000000000) : Calls Tryd.prog 40 #[u, .int .i64 k] w fun e' w' => e' = .returned (.int .i64 (k + l.length)) ∧ Chg (fun j => u.ownBlock = some j) w w' ∧ OwnRep w' B e u (.ints .i64 (upL k l.length)) := by
  have ho := own_ints h
  rcases ho.2 with ⟨rfl, h0⟩ | ⟨g, cap, cur, fz, rfl, hg, hf, hn, hm, hs, ht⟩
  · have hnil : l = [] := List.eq_nil_of_length_eq_zero h0
    subst hnil
    refine (mark_nil k w).mono fun e' w' he => ?_
    obtain ⟨rfl, rfl⟩ := he
    exact ⟨by simp, Chg.refl _ _, h⟩
  · have hfz : fz = (0, 0) := by
      rcases hf with hf | ⟨hf, _⟩
      · exact hf
      · cases hf
    subst hfz
    refine (mark_walk g cap l k e w ⟨cur, hg, by rw [hs, Nat.mul_one], by rw [← ht, Nat.mul_one]⟩ hn hl hk0 hk1).mono fun e' w' he => ?_
    obtain ⟨rfl, hch, cs, h1, h2, h3⟩ := he
    refine ⟨rfl, hch.mono fun j _ hj => by rw [hj]; rfl, ints_own ⟨by simp, .inr ⟨g, cap, cs, (0, 0), by rw [upL_len], h1, .inl rfl, by rw [upL_len]; exact hn, hm, by rw [h2, Nat.mul_one], by rw [upL_len, Nat.mul_one]; exact h3⟩⟩⟩
theorem K_laws_markIntS : Sound1 Tryd.prog EKs F_laws_markIntS.f S_laws_markIntS := by
  intro f args sp hsp hpre
  unfold tabF alook at hsp
  cases hb : Nat.beq f F_laws_markIntS.f with
  | false => rw [hb] at hsp; cases hsp
  | true =>
    rw [hb] at hsp
    have he := Nat.eq_of_beq_eq_true hb
    subst he
    have hsp : S_laws_markIntS args = some sp := hsp
    unfold S_laws_markIntS at hsp
    split at hsp
    · rename_i l k _
      cases hsp
      have hpre : (sm l.length && decide (0 ≤ k ∧ k < 10000000000)) = true := hpre
      rw [Bool.and_eq_true] at hpre
      have hl : l.length < 1000000000 := of_decide_eq_true hpre.1
      obtain ⟨k0, k1⟩ := of_decide_eq_true hpre.2
      refine ⟨⟨_, Tryd.func40, by kernel_rfl, by kernel_rfl⟩, fun hg => (by cases hg), fun _ w B vals os hargs hnd hB hlt => ?_⟩
      cases hargs with
      | c g1 t1 => cases g1 with
        | own he1 ho1 g1' =>
          cases g1'
          cases t1 with
          | c g2 t2 =>
            cases t2
            cases g2 with
            | sc g2' =>
              cases g2'
              refine (mark_own ho1 hl k0 k1).mono fun e' w' hp => ?_
              obtain ⟨rfl, hch, ho⟩ := hp
              exact ⟨_, rfl, hch.mono fun j _ hj => ⟨_, by simp, hj⟩, ⟨[_], rfl, .cons rfl .nil⟩, .cons ⟨_, he1, ho⟩ .nil⟩
    · cases hsp
set_option maxHeartbeats 4000000 in
set_option maxRecDepth 100000 in
theorem plan_walk {B : Nat → Prop} {u1 u2 : Value} {W G : List Int} {k L Z : Int} {e1 e2 : TypeId} {w : World} (h1 : OwnRep w B e1 u1 (.ints .i64 W)) (h2 : OwnRep w B e2 u2 (.ints .i64 G)) (hW : W.length < 1000000000) (hG : G.length < 1000000000) (hk0 : 0 ≤ k) (hk1 : k < 10) (hne : ∀ j, u1.ownBlock = some j → ¬ u2.ownBlock = some j) (hB1 : ∀ j, u1.ownBlock = some j → ¬ B j) (hB2 : ∀ j, u2.ownBlock = some j → ¬ B j) :
    Calls Tryd.prog 17 #[.agg #[.int .i64 L, .int .i64 Z, u1, u2], .int .i64 k] w fun e' w' => e' = .returned (.int .i64 (k + W.length + G.length)) ∧ Chg (fun j => u1.ownBlock = some j ∨ u2.ownBlock = some j) w w' ∧ OwnRep w' B e1 u1 (.ints .i64 (upL k W.length)) ∧ OwnRep w' B e2 u2 (.ints .i64 (upL (k + W.length) G.length)) := by
  have hs : ∀ {w : World} {e : TypeId} {u : Value} {l : List Int}, OwnRep w B e u (.ints .i64 l) → ∃ A n c, u = .slice A n c := fun h => by
    rcases (own_ints h).2 with ⟨rfl, _⟩ | ⟨g, cap, _, _, rfl, _⟩
    · exact ⟨_, _, _, rfl⟩
    · exact ⟨_, _, _, rfl⟩
  obtain ⟨A1, n1, x1, rfl⟩ := hs h1
  obtain ⟨A2, n2, x2, rfl⟩ := hs h2
  generalize ho : Obj.cells #[.int .i64 L, .int .i64 Z, .slice A1 n1 x1, .slice A2 n2 x2] 32 = o
  have ca := Chg.alloc (fun _ => False) w o
  have h1a : OwnRep (w.alloc o) B e1 (.slice A1 n1 x1) (.ints .i64 W) := OwnRep.chg ca (fun _ _ h => h) (fun _ h => h) h1 fun _ _ h => h
  have h2a : OwnRep (w.alloc o) B e2 (.slice A2 n2 x2) (.ints .i64 G) := OwnRep.chg ca (fun _ _ h => h) (fun _ h => h) h2 fun _ _ h => h
  have lt1 := ownsM_lt (own_ints h1)
  have hc0 : (w.alloc o).cell? ⟨w.heap.size, 3, none⟩ = some (.slice A2 n2 x2) := by
    unfold World.cell?
    rw [show (w.alloc o).heap[w.heap.size]? = some o from Array.getElem?_push_size, ← ho]
    rfl
  have m1 := (mark_own h1a hW hk0 (by omega)).mono fun e' w' h => (⟨h.1, h.2.1, h.2.2, h.2.1.cell (p := ⟨w.heap.size, 3, none⟩) hc0 fun hu => Nat.lt_irrefl _ (lt1 _ hu).2, mark_own (OwnRep.chg h.2.1 (fun j hb hu => hB1 j hu hb) (fun _ h => h) h2a fun j hj hu => hne j hu hj) hG (show 0 ≤ k + W.length by omega) (by omega)⟩ : e' = .returned (.int .i64 (k + W.length)) ∧ Chg (fun j => (Value.slice A1 n1 x1).ownBlock = some j) (w.alloc o) w' ∧ OwnRep w' B e1 (.slice A1 n1 x1) (.ints .i64 (upL k W.length)) ∧ w'.cell? ⟨w.heap.size, 3, none⟩ = some (.slice A2 n2 x2) ∧ Calls Tryd.prog 40 #[.slice A2 n2 x2, .int .i64 (k + W.length)] w' fun e2' w2 => e2' = .returned (.int .i64 (k + W.length + G.length)) ∧ Chg (fun j => (Value.slice A2 n2 x2).ownBlock = some j) w' w2 ∧ OwnRep w2 B e2 (.slice A2 n2 x2) (.ints .i64 (upL (k + W.length) G.length)))
  subst ho
  go_enter Tryd.func17, Tryd.ntmps17
  go_wp2_with (go_at_call 40; go_fit m1; rintro e w1 ⟨rfl, c1, r1, hc3, m2⟩)
  go_wp2_with (go_loud (go_at_call 40; go_fit m2; rintro e w2 ⟨rfl, c2, r2⟩))
  go_ret
  exact ⟨rfl, ((ca.mono fun _ _ h => h.elim).trans (c1.mono fun _ _ h => .inl h)).trans (c2.mono fun _ _ h => .inr h), OwnRep.chg c2 (fun j hb hu => hB2 j hu hb) (fun _ h => h) r1 fun j hj hu => hne j hj hu, r2⟩
theorem K_laws_markPlan : Sound1 Tryd.prog EKs F_laws_markPlan.f S_laws_markPlan := by
  intro f args sp hsp hpre
  unfold tabF alook at hsp
  cases hb : Nat.beq f F_laws_markPlan.f with
  | false => rw [hb] at hsp; cases hsp
  | true =>
    rw [hb] at hsp
    have he := Nat.eq_of_beq_eq_true hb
    subst he
    have hsp : S_laws_markPlan args = some sp := hsp
    unfold S_laws_markPlan at hsp
    split at hsp
    · rename_i L Z W G k _
      cases hsp
      have hpre : ((sm W.length && sm G.length) && decide (0 ≤ k ∧ k < 10)) = true := hpre
      rw [Bool.and_eq_true, Bool.and_eq_true] at hpre
      have hW : W.length < 1000000000 := of_decide_eq_true hpre.1.1
      have hG : G.length < 1000000000 := of_decide_eq_true hpre.1.2
      obtain ⟨k0, k1⟩ := of_decide_eq_true hpre.2
      refine ⟨⟨_, Tryd.func17, by kernel_rfl, by kernel_rfl⟩, fun hg => (by cases hg), fun _ w B vals os hargs hnd hB hlt => ?_⟩
      cases hargs with
      | agg g1 t1 => cases g1 with
        | sc g1 => cases g1 with
          | sc g1 => cases g1 with
            | own he1 ho1 g1 => cases g1 with
              | own he2 ho2 g1 =>
                cases g1
                cases t1 with
                | c g2 t2 =>
                  cases t2
                  cases g2 with
                  | sc g2' =>
                    cases g2'
                    rename_i u1 e1 u2 e2
                    refine (plan_walk ho1 ho2 hW hG k0 k1 (fun j h1 h2 => by simp [h1, h2] at hnd) (fun j h1 => hB j (by simp [h1])) (fun j h1 => hB j (by simp [h1]))).mono fun e' w' hp => ?_
                    obtain ⟨rfl, hch, hr1, hr2⟩ := hp
                    exact ⟨_, rfl, hch.mono fun j _ hj => hj.elim (fun h => ⟨_, by simp, h⟩) (fun h => ⟨_, by simp, h⟩), ⟨[_], rfl, .cons rfl .nil⟩, .cons ⟨_, he1, hr1⟩ (.cons ⟨_, he2, hr2⟩ .nil)⟩
    · cases hsp
end
end Go.Proofs.YtbgheffgkncpgaaDoor.V
