/- What functions come to, and that they do so; conditions: those that each theorem states. -/
import Derived.Test.YtbolcmcjniiieaaDg5G
set_option linter.unusedVariables false
set_option linter.unusedSimpArgs false
namespace Go.Proofs.Ytbolcmcjniiieaa.V
open Go Vx Vx.N
theorem leftOk_of {left : Int} (h : leftOk left = true) : 0 ≤ left ∧ left ≤ 1048576 := of_decide_eq_true h
theorem lenOk_of {n : Nat} (h : lenOk n = true) : n ≤ 9223372036854775807 := of_decide_eq_true h
theorem szN_ok {left : Int} {n : Nat} (hl : 0 ≤ left ∧ left ≤ 1048576) (hn : n ≤ 9223372036854775807) : (if IntKind.wrap .i64 (left - (n : Int)) < 0 then (-1 : Int) else IntKind.wrap .i64 (left - (n : Int))) = szN left n := by
  rw [w64 (x := left - n) (by omega) (by omega)]
  unfold szN
  by_cases h : (n : Int) ≤ left
  · rw [if_neg (by omega), if_pos h]
  · rw [if_pos (by omega), if_neg h]
theorem szN_left {left : Int} {n : Nat} (hl : 0 ≤ left ∧ left ≤ 1048576) (h : 0 ≤ szN left n) : 0 ≤ szN left n ∧ szN left n ≤ 1048576 := by
  unfold szN at *
  split at h <;> simp_all <;> omega
theorem szN_two {left : Int} {m n : Nat} : szN left (m + n) = if szN left m < 0 then -1 else szN (szN left m) n := by
  unfold szN
  by_cases h : (m : Int) ≤ left
  · rw [if_pos h]
    by_cases h2 : (n : Int) ≤ left - m
    · rw [if_pos (by omega), if_neg (by omega), if_pos h2]; omega
    · rw [if_neg (by omega), if_neg (by omega), if_neg h2]
  · rw [if_neg h, if_neg (by omega), if_pos (by omega)]
theorem K_laws_szIntS : Sound1 Try.prog EKs F_laws_szIntS.f S_laws_szIntS := snd ok_laws_szIntS [] (tabF_nil _ _) fun args sp h hp => by
  unfold S_laws_szIntS at h
  split at h
  · rename_i a left
    cases h
    simp only [Bool.and_eq_true] at hp
    have hl := leftOk_of hp.1
    have hn := lenOk_of hp.2
    refine ⟨rfl, 0, (laws_szIntS_run _ _ _).trans ?_⟩
    unfold laws_szIntS_T
    simp only [Bool.cond_eq_ite, decide_eq_true_eq]
    rw [← szN_ok hl hn]
    split <;> rfl
  · cases h
theorem K_laws_szEq : Sound1 Try.prog EKs F_laws_szEq.f S_laws_szEq := snd ok_laws_szEq [(F_laws_szIntS.f, S_laws_szIntS)] (tabF_cons K_laws_szIntS (tabF_nil _ _)) fun args sp h hp => by
  unfold S_laws_szEq at h
  split at h
  · rename_i r t left
    cases h
    simp only [Bool.and_eq_true, lenE] at hp
    have hl := leftOk_of hp.1
    have h2 := lenOk_of hp.2.2
    refine ⟨rfl, 0, (laws_szEq_run _ _ _ _).trans ?_⟩
    unfold laws_szEq_T
    simp only [Bool.cond_eq_ite, decide_eq_true_eq, Bool.and_eq_true]
    rw [if_pos ⟨hp.1, hp.2.1⟩, show szE1 (r, t) = r.length + t.size from rfl, szN_two]
    by_cases hneg : szN left r.length < 0
    · rw [if_pos hneg, if_pos hneg]
    · rw [if_neg hneg, if_neg hneg, ← szN_ok (szN_left hl (by omega)) h2]
      split <;> rfl
  · cases h
theorem K_laws_szEqS : Sound1 Try.prog EKs F_laws_szEqS.f S_laws_szEqS := snd ok_laws_szEqS [(F_laws_szEq.f, S_laws_szEq)] (tabF_cons K_laws_szEq (tabF_nil _ _)) fun args sp h hp => by
  unfold S_laws_szEqS at h
  split at h
  · rename_i es left
    cases h
    simp only [Bool.and_eq_true, List.all_eq_true] at hp
    have hl := leftOk_of hp.1
    have h2 := lenOk_of hp.2.1
    refine ⟨rfl, es.length + 1, (laws_szEqS_run _ _ _).trans ?_⟩
    unfold laws_szEqS_T
    simp only [Bool.cond_eq_ite, decide_eq_true_eq]
    have e0 := szN_ok hl h2
    rw [show szE es = es.length + sumE es from rfl, szN_two]
    by_cases hneg : szN left es.length < 0
    · rw [if_pos hneg]
      rw [if_pos (by rw [w64 (by omega) (by omega)]; unfold szN at hneg; split at hneg <;> omega)]
    · have hle : (es.length : Int) ≤ left := by
        unfold szN at hneg
        split at hneg
        · assumption
        · omega
      rw [if_neg hneg, w64 (x := left - es.length) (by omega) (by omega), if_neg (by omega)]
      have e1 : szN left es.length = left - es.length := by unfold szN; rw [if_pos hle]
      rw [e1]
      refine (fix3 (T := fun k => laws_szEqS_T5 k) (fun i l es' => es' = es ∧ (0 ≤ i ∧ i ≤ es.length) ∧ 0 ≤ l ∧ l ≤ 1048576) (fun i _ _ => es.length - i.toNat) (fun i l _ => ([I (szN l (sumE (es.drop i.toNat)))], [])) ?_ _ _ _ _ ⟨rfl, ⟨by omega, by omega⟩, by omega, by omega⟩ (by omega))
      rintro i l es' K ⟨rfl, ⟨q0, q1⟩, l0, l1⟩ hK
      unfold laws_szEqS_T5
      simp only [Bool.cond_eq_ite, decide_eq_true_eq, Bool.and_eq_true]
      by_cases hi : i < es'.length
      · have hlt : i.toNat < es'.length := by omega
        rw [if_pos hi, if_pos q0, if_pos hi, if_pos ⟨decide_eq_true ⟨l0, l1⟩, hp.2.2 _ (getE_mem hlt)⟩, List.drop_eq_getElem_cons hlt, w64i q0 (by omega)]
        rw [show sumE (es'[i.toNat] :: es'.drop (i.toNat + 1)) = szE1 es'[i.toNat] + sumE (es'.drop (i.toNat + 1)) from rfl, szN_two, ← getD_lt hlt eqD]
        by_cases hn : szN l (szE1 (es'.getD i.toNat eqD)) < 0
        · rw [if_pos hn, if_pos hn]
        · have hb := szN_left ⟨l0, l1⟩ (show 0 ≤ szN l (szE1 (es'.getD i.toNat eqD)) by omega)
          rw [if_neg hn, if_neg hn]
          rw [hK _ _ _ ⟨rfl, ⟨by omega, by omega⟩, hb.1, hb.2⟩ (by omega), toNat_succ q0]
      · rw [if_neg hi, List.drop_eq_nil_of_le (by omega)]
        show some ([I l], []) = some ([I (szN l 0)], [])
        unfold szN
        rw [if_pos (by omega)]; simp
  · cases h
theorem K_laws_szSolver : Sound1 Try.prog EKs F_laws_szSolver.f S_laws_szSolver := snd ok_laws_szSolver [(F_laws_szEqS.f, S_laws_szEqS)] (tabF_cons K_laws_szEqS (tabF_nil _ _)) fun args sp h hp => by
  unfold S_laws_szSolver at h
  split at h
  · rename_i c z es left
    cases h
    refine ⟨rfl, 0, (laws_szSolver_run _ _ _ _ _).trans ?_⟩
    unfold laws_szSolver_T
    have hp' : (leftOk left && (lenOk es.length && es.all lenE)) = true := hp
    simp only [Bool.and_eq_true] at hp
    rw [hp']
    by_cases hn : szN left (szE es) < 0
    · have : szN left (szE es) = -1 := by
        unfold szN at hn ⊢
        split at hn
        · omega
        · rename_i h; rw [if_neg h]
      rw [decide_eq_true hn, this]; rfl
    · rw [decide_eq_false hn]; rfl
  · cases h
/-! ### Copies -/
theorem set_copy {α : Type} (a : List α) (z : α) (i : Nat) (h : i < a.length) : (a.take i ++ List.replicate (a.length - i) z).set i (a.getD i z) = a.take (i + 1) ++ List.replicate (a.length - (i + 1)) z := by
  have e : a.length - i = (a.length - (i + 1)) + 1 := by omega
  have l1 : (a.take i).length = i := by rw [List.length_take]; omega
  rw [e, List.replicate_succ, List.set_append_right _ _ (by omega), l1, Nat.sub_self, List.set_cons_zero, List.take_succ_eq_append_getElem h, List.append_assoc, getD_lt h]
  rfl
theorem K_laws_toIntS : Sound1 Try.prog EKs F_laws_toIntS.f S_laws_toIntS := snd ok_laws_toIntS [] (tabF_nil _ _) fun args sp h hp => by
  unfold S_laws_toIntS at h
  split at h
  · rename_i a
    cases h
    have hl : a.length < 1000000000 := of_decide_eq_true hp
    refine ⟨rfl, a.length + 1, (laws_toIntS_run _ _).trans ?_⟩
    unfold laws_toIntS_T
    simp only [Bool.cond_eq_ite, decide_eq_true_eq]
    rw [if_pos trivial, if_pos (by omega)]
    refine (fix3 (T := fun k => laws_toIntS_T3 k) (fun i a' r => a' = a ∧ (0 ≤ i ∧ i ≤ a.length) ∧ r = a.take i.toNat ++ List.replicate (a.length - i.toNat) 0) (fun i _ _ => a.length - i.toNat) (fun _ _ _ => ([Is a], [])) ?_ _ _ _ _ ⟨rfl, ⟨by omega, by omega⟩, by simp⟩ (by omega))
    rintro i a' r K ⟨rfl, ⟨q0, q1⟩, rfl⟩ hK
    unfold laws_toIntS_T3
    simp only [Bool.cond_eq_ite, decide_eq_true_eq]
    have hrl : (a'.take i.toNat ++ List.replicate (a'.length - i.toNat) 0).length = a'.length := by rw [List.length_append, List.length_take, List.length_replicate]; omega
    by_cases hi : i < a'.length
    · have hlt : i.toNat < a'.length := by omega
      rw [if_pos hi, if_pos q0, if_pos hi, if_pos q0, if_pos (by rw [hrl]; exact hi), w64i q0 (by omega), set_copy a' 0 i.toNat hlt]
      exact hK _ _ _ ⟨rfl, ⟨by omega, by omega⟩, by rw [toNat_succ q0]⟩ (by omega)
    · rw [if_neg hi, List.take_of_length_le (by omega), show a'.length - i.toNat = 0 by omega, List.replicate_zero, List.append_nil]
  · cases h
theorem K_laws_toEq : Sound1 Try.prog EKs F_laws_toEq.f S_laws_toEq := sndD ok_laws_toEq [(F_laws_toIntS.f, S_laws_toIntS)] (tabF_cons K_laws_toIntS (tabF_nil _ _)) fun args sp h hp => by
  unfold S_laws_toEq at h
  split at h
  · rename_i r t
    cases h
    have hp : sm r.length = true := hp
    refine ⟨rfl, 0, (laws_toEq_run _ _ _).trans ?_⟩
    unfold laws_toEq_T
    rw [hp]; rfl
  · cases h
theorem K_laws_toEqS : Sound1 Try.prog EKs F_laws_toEqS.f S_laws_toEqS := sndD ok_laws_toEqS [(F_laws_toEq.f, S_laws_toEq)] (tabF_cons K_laws_toEq (tabF_nil _ _)) fun args sp h hp => by
  unfold S_laws_toEqS at h
  split at h
  · rename_i a
    cases h
    obtain ⟨hl, hs⟩ := smE_of hp
    refine ⟨rfl, a.length + 1, (laws_toEqS_run _ _).trans ?_⟩
    unfold laws_toEqS_T
    simp only [Bool.cond_eq_ite, decide_eq_true_eq]
    rw [if_pos trivial, if_pos (by omega)]
    refine (fix3 (T := fun k => laws_toEqS_T3 k) (fun i a' r => a' = a ∧ (0 ≤ i ∧ i ≤ a.length) ∧ r = a.take i.toNat ++ List.replicate (a.length - i.toNat) eqD) (fun i _ _ => a.length - i.toNat) (fun _ _ _ => ([EsD a], [])) ?_ _ _ _ _ ⟨rfl, ⟨by omega, by omega⟩, by simp⟩ (by omega))
    rintro i a' r K ⟨rfl, ⟨q0, q1⟩, rfl⟩ hK
    unfold laws_toEqS_T3
    simp only [Bool.cond_eq_ite, decide_eq_true_eq]
    have hrl : (a'.take i.toNat ++ List.replicate (a'.length - i.toNat) eqD).length = a'.length := by rw [List.length_append, List.length_take, List.length_replicate]; omega
    by_cases hi : i < a'.length
    · have hlt : i.toNat < a'.length := by omega
      rw [if_pos hi, if_pos q0, if_pos hi, if_pos (hs _ hlt), if_pos q0, if_pos (by rw [hrl]; exact hi), w64i q0 (by omega)]
      exact hK _ _ _ ⟨rfl, ⟨by omega, by omega⟩, by rw [toNat_succ q0]; exact set_copy a' eqD i.toNat hlt⟩ (by omega)
    · rw [if_neg hi, List.take_of_length_le (by omega), show a'.length - i.toNat = 0 by omega, List.replicate_zero, List.append_nil]
  · cases h
theorem K_laws_toSolver : Sound1 Try.prog EKs F_laws_toSolver.f S_laws_toSolver := sndD ok_laws_toSolver [(F_laws_toEqS.f, S_laws_toEqS)] (tabF_cons K_laws_toEqS (tabF_nil _ _)) fun args sp h hp => by
  unfold S_laws_toSolver at h
  split at h
  · rename_i c z es
    cases h
    have hp : smE es = true := hp
    refine ⟨rfl, 0, (laws_toSolver_run _ _ _ _).trans ?_⟩
    unfold laws_toSolver_T
    rw [hp]; rfl
  · cases h
/-! ### Comparing -/
theorem K_laws_eqIntS : Sound1 Try.prog EKs F_laws_eqIntS.f S_laws_eqIntS := snd ok_laws_eqIntS [] (tabF_nil _ _) fun args sp h hp => by
  unfold S_laws_eqIntS at h
  split at h
  · rename_i a b
    cases h
    have hl : a.length < 1000000000 := of_decide_eq_true hp
    refine ⟨rfl, a.length + 1, (laws_eqIntS_run _ _ _).trans ?_⟩
    unfold laws_eqIntS_T
    simp only [Bool.cond_eq_ite, bne_iff_ne, ne_eq]
    by_cases hlen : (a.length : Int) = b.length
    rotate_left
    · rw [if_pos hlen, decide_eq_false fun H => hlen (by rw [H])]
    rw [if_neg (not_not_intro hlen)]
    refine (fix3 (T := fun k => laws_eqIntS_T4 k) (fun i b' a' => b' = b ∧ a' = a ∧ 0 ≤ i ∧ i ≤ a.length) (fun i _ _ => a.length - i.toNat) (fun i _ _ => ([B (decide (a.drop i.toNat = b.drop i.toNat))], [])) ?_ _ _ _ _ ⟨rfl, rfl, by omega, by omega⟩ (by omega)).trans (by rw [Int.toNat_zero]; rfl)
    rintro i b' a' K ⟨rfl, rfl, q0, q1⟩ hK
    unfold laws_eqIntS_T4
    simp only [Bool.cond_eq_ite, decide_eq_true_eq, bne_iff_ne, ne_eq]
    by_cases hi : i < a'.length
    · have hlt : i.toNat < a'.length := by omega
      rw [if_pos hi, if_pos q0, if_pos hi, if_pos q0, if_pos (by omega), w64i q0 (by omega), list_eq_at a' b' 0 (by omega) i.toNat hlt]
      by_cases c : a'.getD i.toNat 0 = b'.getD i.toNat 0
      · rw [if_neg (not_not_intro c), if_pos c, hK _ _ _ ⟨rfl, rfl, by omega, by omega⟩ (by omega), toNat_succ q0]
      · rw [if_pos c, if_neg c]
    · rw [if_neg hi, List.drop_eq_nil_of_le (by omega), List.drop_eq_nil_of_le (by omega)]; rfl
  · cases h
theorem K_laws_eqEq : Sound1 Try.prog EKs F_laws_eqEq.f S_laws_eqEq := snd ok_laws_eqEq [(F_laws_eqIntS.f, S_laws_eqIntS)] (tabF_cons K_laws_eqIntS (tabF_nil _ _)) fun args sp h hp => by
  unfold S_laws_eqEq at h
  split at h
  · rename_i r t r' t'
    cases h
    have hp : sm r.length = true := hp
    refine ⟨rfl, 0, (laws_eqEq_run _ _ _ _ _).trans ?_⟩
    unfold laws_eqEq_T
    rw [hp, ba_toList_eq]
    by_cases h1 : r = r' <;> by_cases h2 : t = t' <;> simp [h1, h2]
  · cases h
theorem K_laws_eqEqS : Sound1 Try.prog EKs F_laws_eqEqS.f S_laws_eqEqS := snd ok_laws_eqEqS [(F_laws_eqEq.f, S_laws_eqEq)] (tabF_cons K_laws_eqEq (tabF_nil _ _)) fun args sp h hp => by
  unfold S_laws_eqEqS at h
  split at h
  · rename_i a b
    cases h
    obtain ⟨hl, hs⟩ := smE_of hp
    refine ⟨rfl, a.length + 1, (laws_eqEqS_run _ _ _).trans ?_⟩
    unfold laws_eqEqS_T
    simp only [Bool.cond_eq_ite, bne_iff_ne, ne_eq]
    by_cases hlen : (a.length : Int) = b.length
    rotate_left
    · rw [if_pos hlen, decide_eq_false fun H => hlen (by rw [H])]
    rw [if_neg (not_not_intro hlen)]
    refine (fix3 (T := fun k => laws_eqEqS_T4 k) (fun i b' a' => b' = b ∧ a' = a ∧ 0 ≤ i ∧ i ≤ a.length) (fun i _ _ => a.length - i.toNat) (fun i _ _ => ([B (decide (a.drop i.toNat = b.drop i.toNat))], [])) ?_ _ _ _ _ ⟨rfl, rfl, by omega, by omega⟩ (by omega)).trans (by rw [Int.toNat_zero]; rfl)
    rintro i b' a' K ⟨rfl, rfl, q0, q1⟩ hK
    unfold laws_eqEqS_T4
    simp only [Bool.cond_eq_ite, decide_eq_true_eq, Bool.not_eq_true', decide_eq_false_iff_not]
    by_cases hi : i < a'.length
    · have hlt : i.toNat < a'.length := by omega
      rw [if_pos hi, if_pos q0, if_pos hi, if_pos q0, if_pos (by omega), if_pos (hs _ hlt), w64i q0 (by omega), list_eq_at a' b' eqD (by omega) i.toNat hlt]
      by_cases c : a'.getD i.toNat eqD = b'.getD i.toNat eqD
      · rw [if_neg (not_not_intro c), if_pos c, hK _ _ _ ⟨rfl, rfl, by omega, by omega⟩ (by omega), toNat_succ q0]
      · rw [if_pos c, if_neg c]
    · rw [if_neg hi, List.drop_eq_nil_of_le (by omega), List.drop_eq_nil_of_le (by omega)]; rfl
  · cases h
theorem K_laws_eqSolver : Sound1 Try.prog EKs F_laws_eqSolver.f S_laws_eqSolver := snd ok_laws_eqSolver [(F_laws_eqEqS.f, S_laws_eqEqS)] (tabF_cons K_laws_eqEqS (tabF_nil _ _)) fun args sp h hp => by
  unfold S_laws_eqSolver at h
  split at h
  · rename_i c z es c' z' es'
    cases h
    have hp : smE es = true := hp
    refine ⟨rfl, 0, (laws_eqSolver_run _ _ _ _ _ _ _).trans ?_⟩
    unfold laws_eqSolver_T
    simp only [Bool.cond_eq_ite, bne_iff_ne, ne_eq]
    rw [hp]
    by_cases h1 : c = c' <;> by_cases h2 : z = z' <;> by_cases h3 : es = es' <;> simp [h1, h2, h3]
  · cases h
end Go.Proofs.Ytbolcmcjniiieaa.V
namespace Go.Proofs.Ytbolcmcjniiieaa.V
open Go Vx Vx.N
/-! ### Equations put together: a space over two -/
structure EqP (c z : Int) (e : Eqn) : Prop where
  r : RowP e.1 c
  t : (e.2.size : Int) = z
def ad (a b : Eqn) : Eqn := (xorL a.1 b.1, xorB a.2 b.2)
def zr (z : Int) : Eqn := ([], zerosB z.toNat)
theorem rowP_nil {c : Int} (h0 : 0 ≤ c) (h1 : c ≤ 24) : RowP [] c := ⟨h0, h1, .nil, fun x hx => by cases hx⟩
theorem zr_ok {c z : Int} (hc : 1 ≤ c ∧ c ≤ 24) (hz : 1 ≤ z ∧ z ≤ 16) : EqP c z (zr z) := ⟨rowP_nil (by omega) hc.2, by show ((zerosB z.toNat).size : Int) = z; rw [zerosB_size]; omega⟩
section
variable {c z : Int}
theorem EqP.ad {a b : Eqn} (ha : EqP c z a) (hb : EqP c z b) : EqP c z (ad a b) := ⟨xor_rows ha.r hb.r, by
  show ((xorB a.2 b.2).size : Int) = z
  rw [xorB_size _ _ (by have := ha.t; have := hb.t; omega)]; exact ha.t⟩
theorem ad_mem {a b : Eqn} (ha : EqP c z a) (hb : EqP c z b) (x : Int) : x ∈ (ad a b).1 ↔ ¬ (x ∈ a.1 ↔ x ∈ b.1) := (xorL_mem a.1 b.1 ha.r.2.2.1 hb.r.2.2.1).1 x
theorem size_eq {a b : Eqn} (ha : EqP c z a) (hb : EqP c z b) : a.2.size = b.2.size := by have := ha.t; have := hb.t; omega
theorem eqn_ext {a b : Eqn} (ha : EqP c z a) (hb : EqP c z b) (h1 : ∀ x, x ∈ a.1 ↔ x ∈ b.1) (h2 : a.2 = b.2) : a = b := Prod.ext (asc_ext ha.r.2.2.1 hb.r.2.2.1 h1) h2
theorem ad_comm {a b : Eqn} (ha : EqP c z a) (hb : EqP c z b) : ad a b = ad b a := by
  refine eqn_ext (ha.ad hb) (hb.ad ha) (fun x => ?_) (xorB_self_comm (size_eq ha hb))
  rw [ad_mem ha hb, ad_mem hb ha]
  by_cases h1 : x ∈ a.1 <;> by_cases h2 : x ∈ b.1 <;> simp [h1, h2]
theorem ad_assoc {a b d : Eqn} (ha : EqP c z a) (hb : EqP c z b) (hd : EqP c z d) : ad (ad a b) d = ad a (ad b d) := by
  refine eqn_ext ((ha.ad hb).ad hd) (ha.ad (hb.ad hd)) (fun x => ?_) (xorB_assoc (size_eq ha hb) (size_eq hb hd))
  rw [ad_mem (ha.ad hb) hd, ad_mem ha hb, ad_mem ha (hb.ad hd), ad_mem hb hd]
  by_cases h1 : x ∈ a.1 <;> by_cases h2 : x ∈ b.1 <;> by_cases h3 : x ∈ d.1 <;> simp [h1, h2, h3]
theorem xorB_zr (t : ByteArray) (n : Nat) (h : t.size = n) : xorB t (zerosB n) = t := by
  have hs := zerosB_size n
  refine ba_ext (xorB_size _ _ (by omega)) fun j hj => ?_
  rw [xorB_size _ _ (by omega)] at hj
  rw [bA_xorB _ _ _ hj (by omega), bA_zeros, Nat.xor_zero]
theorem xorB_self (t : ByteArray) : xorB t t = zerosB t.size := by
  refine ba_ext (by rw [xorB_size _ _ (by omega), zerosB_size]) fun j hj => ?_
  rw [xorB_size _ _ (by omega)] at hj
  rw [bA_xorB _ _ _ hj (by omega), bA_zeros, Nat.xor_self]
theorem ad_zr {a : Eqn} (ha : EqP c z a) : ad a (zr z) = a := Prod.ext (xorL_nil_right _) (xorB_zr _ _ (by have := ha.t; omega))
theorem zr_ad {a : Eqn} (hc : 1 ≤ c ∧ c ≤ 24) (hz : 1 ≤ z ∧ z ≤ 16) (ha : EqP c z a) : ad (zr z) a = a := by rw [ad_comm (zr_ok hc hz) ha, ad_zr ha]
theorem ad_self {a : Eqn} (ha : EqP c z a) : ad a a = zr z := by
  refine Prod.ext ?_ ?_
  · cases h : (ad a a).1 with
    | nil => rfl
    | cons x l =>
      have := (ad_mem ha ha x).1 (by rw [h]; exact List.mem_cons_self)
      exact absurd Iff.rfl this
  · show xorB a.2 a.2 = zerosB z.toNat
    rw [xorB_self]
    have := ha.t
    rw [show a.2.size = z.toNat by omega]
theorem ad_back {a b : Eqn} (ha : EqP c z a) (hb : EqP c z b) : ad (ad a b) b = a := by rw [ad_assoc ha hb hb, ad_self hb, ad_zr ha]
theorem ad_swap {a b d : Eqn} (ha : EqP c z a) (hb : EqP c z b) (hd : EqP c z d) : ad (ad a b) d = ad (ad a d) b := by rw [ad_assoc ha hb hd, ad_comm hb hd, ← ad_assoc ha hd hb]
theorem ad_four {a b d e : Eqn} (ha : EqP c z a) (hb : EqP c z b) (hd : EqP c z d) (he : EqP c z e) : ad (ad a b) (ad d e) = ad (ad a d) (ad b e) := by
  rw [← ad_assoc (ha.ad hb) hd he, ad_swap ha hb hd, ad_assoc (ha.ad hd) hb he]
theorem ad_zero {a b : Eqn} (hc : 1 ≤ c ∧ c ≤ 24) (hz : 1 ≤ z ∧ z ≤ 16) (ha : EqP c z a) (hb : EqP c z b) (h : ad a b = zr z) : a = b := by
  have := ad_back ha hb
  rw [h, zr_ad hc hz hb] at this
  exact this.symm
/-! what is left of an equation -/
def red (es : List Eqn) (v : Eqn) : Eqn := redE es v.1 v.2
theorem red_cons (e : Eqn) (es : List Eqn) (v : Eqn) : red (e :: es) v = if piv e ∈ v.1 then red es (ad v e) else red es v := redE_cons e es v.1 v.2
structure EsP (c z : Int) (es : List Eqn) : Prop where
  m : ∀ f ∈ es, EqP c z f ∧ f.1 ≠ []
  s : es.Pairwise Apart
theorem EsP.tail {e : Eqn} {es : List Eqn} (h : EsP c z (e :: es)) : EsP c z es := ⟨fun f hf => h.m f (List.mem_cons_of_mem _ hf), (List.pairwise_cons.1 h.s).2⟩
theorem EsP.head {e : Eqn} {es : List Eqn} (h : EsP c z (e :: es)) : EqP c z e ∧ piv e ∈ e.1 ∧ ∀ f ∈ es, piv e ∉ f.1 ∧ piv f ∉ e.1 := ⟨(h.m e List.mem_cons_self).1, mem_of_piv (h.m e List.mem_cons_self).2, fun f hf => (List.pairwise_cons.1 h.s).1 f hf⟩
theorem esP_of {es : List Eqn} (h : SolverP c z es) : EsP c z es := ⟨fun f hf => ⟨⟨((solverL_of h).m f hf).1, ((solverL_of h).m f hf).2.2⟩, ((solverL_of h).m f hf).2.1⟩, (solverL_of h).s⟩
theorem red_ok {es : List Eqn} : ∀ (_ : EsP c z es) {v : Eqn} (_ : EqP c z v), EqP c z (red es v) := by
  induction es with
  | nil => exact fun _ v hv => hv
  | cons e es ih =>
    intro h v hv
    rw [red_cons]
    split
    · exact ih h.tail (hv.ad h.head.1)
    · exact ih h.tail hv
theorem red_id {es : List Eqn} {v : Eqn} (h : ∀ f ∈ es, piv f ∉ v.1) : red es v = v := by
  induction es with
  | nil => rfl
  | cons e es ih => rw [red_cons, if_neg (h e List.mem_cons_self)]; exact ih fun f hf => h f (List.mem_cons_of_mem _ hf)
theorem red_np {es : List Eqn} : ∀ (_ : EsP c z es) {v : Eqn} (_ : EqP c z v), ∀ f ∈ es, piv f ∉ (red es v).1 := by
  induction es with
  | nil => exact fun _ v _ f hf => by cases hf
  | cons e es ih =>
    intro h v hv f hf
    have keep : ∀ (l : List Eqn) (_ : EsP c z l) (x : Int) (_ : ∀ g ∈ l, x ∉ g.1) (u : Eqn) (_ : EqP c z u), (x ∈ (red l u).1 ↔ x ∈ u.1) := by
      intro l
      induction l with
      | nil => exact fun _ x _ u _ => Iff.rfl
      | cons g l ihl =>
        intro hl x hx u hu
        rw [red_cons]
        split
        · rw [ihl hl.tail x (fun g' hg' => hx g' (List.mem_cons_of_mem _ hg')) _ (hu.ad hl.head.1), ad_mem hu hl.head.1]
          have := hx g List.mem_cons_self
          simp [this]
        · exact ihl hl.tail x (fun g' hg' => hx g' (List.mem_cons_of_mem _ hg')) _ hu
    obtain ⟨h1, h2, h3⟩ := h.head
    rw [red_cons]
    rcases List.mem_cons.1 hf with rfl | hf
    · split
      · rename_i hp
        rw [keep es h.tail _ (fun g hg => (h3 g hg).1) _ (hv.ad h1), ad_mem hv h1]
        exact not_not_intro ⟨fun _ => h2, fun _ => hp⟩
      · rename_i hp
        rw [keep es h.tail _ (fun g hg => (h3 g hg).1) _ hv]
        exact hp
    · split
      · exact ih h.tail (hv.ad h1) f hf
      · exact ih h.tail hv f hf
theorem red_ad_mem {es : List Eqn} : ∀ (_ : EsP c z es) {e : Eqn} (_ : e ∈ es) {v : Eqn} (_ : EqP c z v), red es (ad v e) = red es v := by
  induction es with
  | nil => exact fun _ e he => by cases he
  | cons f es ih =>
    intro h e he v hv
    obtain ⟨h1, h2, h3⟩ := h.head
    rw [red_cons, red_cons]
    rcases List.mem_cons.1 he with rfl | he
    · have hi := ad_mem hv h1 (piv e)
      by_cases hp : piv e ∈ v.1
      · rw [if_neg fun H => hi.1 H ⟨fun _ => h2, fun _ => hp⟩, if_pos hp]
      · rw [if_pos (hi.2 fun H => hp (H.2 h2)), if_neg hp, ad_back hv h1]
    · have hee := (h.m e (List.mem_cons_of_mem _ he)).1
      have hne := (h3 e he).1
      have hi := ad_mem hv hee (piv f)
      by_cases hp : piv f ∈ v.1
      · rw [if_pos (hi.2 fun H => hne (H.1 hp)), if_pos hp, ad_swap hv hee h1]
        exact ih h.tail he (hv.ad h1)
      · rw [if_neg fun H => hi.1 H ⟨fun h => absurd h hp, fun h => absurd h hne⟩, if_neg hp]
        exact ih h.tail he hv
/-- What equations say together. -/
inductive Span (c z : Int) (es : List Eqn) : Eqn → Prop where
  | zero : Span c z es (zr z)
  | add {v e : Eqn} (h : Span c z es v) (he : e ∈ es) : Span c z es (ad v e)
variable {es : List Eqn}
theorem Span.ok (hc : 1 ≤ c ∧ c ≤ 24) (hz : 1 ≤ z ∧ z ≤ 16) (hm : ∀ f ∈ es, EqP c z f) {v : Eqn} (h : Span c z es v) : EqP c z v := by
  induction h with
  | zero => exact zr_ok hc hz
  | add _ he ih => exact ih.ad (hm _ he)
theorem Span.sum (hc : 1 ≤ c ∧ c ≤ 24) (hz : 1 ≤ z ∧ z ≤ 16) (hm : ∀ f ∈ es, EqP c z f) {u v : Eqn} (hu : Span c z es u) (hv : Span c z es v) : Span c z es (ad u v) := by
  induction hv with
  | zero => rw [ad_zr (hu.ok hc hz hm)]; exact hu
  | add h he ih => rw [← ad_assoc (hu.ok hc hz hm) (h.ok hc hz hm) (hm _ he)]; exact .add ih he
theorem Span.mem (hc : 1 ≤ c ∧ c ≤ 24) (hz : 1 ≤ z ∧ z ≤ 16) (hm : ∀ f ∈ es, EqP c z f) {e : Eqn} (he : e ∈ es) : Span c z es e := by
  have := Span.add (.zero (c := c) (z := z) (es := es)) he
  rwa [zr_ad hc hz (hm e he)] at this
theorem Span.sub (hc : 1 ≤ c ∧ c ≤ 24) (hz : 1 ≤ z ∧ z ≤ 16) {es' : List Eqn} (hm : ∀ f ∈ es, EqP c z f) (hm' : ∀ f ∈ es', EqP c z f) (hsub : ∀ f ∈ es, Span c z es' f) {v : Eqn} (h : Span c z es v) : Span c z es' v := by
  induction h with
  | zero => exact .zero
  | add _ he ih => exact ih.sum hc hz hm' (hsub _ he)
/-- Solvers: their parts. -/
structure Sol (c z : Int) (es : List Eqn) : Prop where
  hc : 1 ≤ c ∧ c ≤ 24
  hz : 1 ≤ z ∧ z ≤ 16
  e : EsP c z es
theorem sol_of (h : SolverP c z es) : Sol c z es := ⟨h.1, h.2.1, esP_of h⟩
theorem Sol.mm (h : Sol c z es) : ∀ f ∈ es, EqP c z f := fun f hf => (h.e.m f hf).1
theorem Sol.z0 (h : Sol c z es) : EqP c z (zr z) := zr_ok h.hc h.hz
theorem Sol.red_span (h : Sol c z es) {s v : Eqn} (hv : EqP c z v) (hs : Span c z es s) : red es (ad v s) = red es v := by
  induction hs with
  | zero => rw [ad_zr hv]
  | add h1 he ih => rw [← ad_assoc hv (h1.ok h.hc h.hz h.mm) (h.mm _ he), red_ad_mem h.e he (hv.ad (h1.ok h.hc h.hz h.mm)), ih]
theorem Sol.diff (h : Sol c z es) : ∀ {v : Eqn} (_ : EqP c z v), Span c z es (ad v (red es v)) := by
  have key : ∀ (l : List Eqn), (∀ f ∈ l, f ∈ es) → EsP c z l → ∀ v, EqP c z v → Span c z es (ad v (red l v)) := by
    intro l
    induction l with
    | nil => intro _ _ v hv; show Span c z es (ad v v); rw [ad_self hv]; exact .zero
    | cons f l ih =>
      intro hsub hl v hv
      have hf := hl.head.1
      rw [red_cons]
      split
      · have := ih (fun g hg => hsub g (List.mem_cons_of_mem _ hg)) hl.tail (ad v f) (hv.ad hf)
        have h2 := this.sum h.hc h.hz h.mm (.mem h.hc h.hz h.mm (hsub f List.mem_cons_self))
        have hr := red_ok hl.tail (hv.ad hf)
        rwa [ad_swap (hv.ad hf) hr hf, ad_back hv hf] at h2
      · exact ih (fun g hg => hsub g (List.mem_cons_of_mem _ hg)) hl.tail v hv
  exact fun {v} hv => key es (fun _ h => h) h.e v hv
theorem Sol.red_zr (h : Sol c z es) : red es (zr z) = zr z := red_id fun f _ hf => by cases hf
theorem Sol.red_uni (h : Sol c z es) {u w : Eqn} (hu : EqP c z u) (hw : EqP c z w) (hn : ∀ f ∈ es, piv f ∉ w.1) (hs : Span c z es (ad u w)) : red es u = w := by
  have := h.red_span hw hs
  rw [ad_comm hu hw, ← ad_assoc hw hw hu, ad_self hw, zr_ad h.hc h.hz hu, red_id hn] at this
  exact this
theorem Sol.ker (h : Sol c z es) {v : Eqn} (hv : EqP c z v) : Span c z es v ↔ red es v = zr z := by
  constructor
  · intro hs
    have := h.red_span h.z0 hs
    rwa [zr_ad h.hc h.hz hv, h.red_zr] at this
  · intro hr
    have := h.diff hv
    rwa [hr, ad_zr hv] at this
theorem Sol.lin (h : Sol c z es) {a b : Eqn} (ha : EqP c z a) (hb : EqP c z b) : red es (ad a b) = ad (red es a) (red es b) := by
  have ra := red_ok h.e ha
  have rb := red_ok h.e hb
  refine h.red_uni (ha.ad hb) (ra.ad rb) (fun f hf hm => ?_) ?_
  · have h1 := red_np h.e ha f hf
    have h2 := red_np h.e hb f hf
    exact (ad_mem ra rb _).1 hm ⟨fun h => absurd h h1, fun h => absurd h h2⟩
  · rw [ad_four ha hb ra rb]
    exact (h.diff ha).sum h.hc h.hz h.mm (h.diff hb)
/-- The least number of a row that is implied is a pivot. -/
theorem red_least {es : List Eqn} : ∀ (_ : EsP c z es) (x : Int) (_ : ∀ f ∈ es, piv f ≠ x) (v : Eqn) (_ : EqP c z v), x ∈ v.1 → (∀ y ∈ v.1, x ≤ y) → x ∈ (red es v).1 := by
  induction es with
  | nil => exact fun _ x _ v _ hx _ => hx
  | cons e es ih =>
    intro h x hn v hv hx hle
    obtain ⟨h1, h2, h3⟩ := h.head
    have hn' : ∀ f ∈ es, piv f ≠ x := fun f hf => hn f (List.mem_cons_of_mem _ hf)
    rw [red_cons]
    split
    · rename_i hp
      have hlt : x < piv e := by
        have := hle _ hp
        have := hn e List.mem_cons_self
        omega
      have hlow : ∀ y ∈ e.1, piv e ≤ y := piv_le h1.r (h.m e List.mem_cons_self).2
      refine ih h.tail x hn' _ (hv.ad h1) ((ad_mem hv h1 x).2 fun H => ?_) fun y hy => ?_
      · have := hlow x (H.1 hx); omega
      · have := (ad_mem hv h1 y).1 hy
        by_cases c1 : y ∈ v.1
        · exact hle y c1
        · by_cases c2 : y ∈ e.1
          · have := hlow y c2; omega
          · exact absurd ⟨fun h => absurd h c1, fun h => absurd h c2⟩ this
    · exact ih h.tail x hn' v hv hx hle
theorem Sol.pivot (h : Sol c z es) {v : Eqn} (hv : EqP c z v) (hs : Span c z es v) (hn : v.1 ≠ []) : ∃ f ∈ es, piv f = piv v := by
  by_cases hex : ∃ f ∈ es, piv f = piv v
  · exact hex
  · exfalso
    have := red_least h.e (piv v) (fun f hf e => hex ⟨f, hf, e⟩) v hv (mem_of_piv hn) (piv_le hv.r hn)
    rw [(h.ker hv).1 hs] at this
    cases this
/-- Two solvers that say the same are the same. -/
theorem solver_uni {es es' : List Eqn} (h : SolverP c z es) (h' : SolverP c z es') (hs : ∀ v, EqP c z v → (Span c z es v ↔ Span c z es' v)) : es = es' := by
  have A := sol_of h
  have A' := sol_of h'
  have hpm : es.map piv = es'.map piv := by
    refine asc_ext (asc_piv h) (asc_piv h') fun p => ?_
    simp only [List.mem_map]
    constructor
    · rintro ⟨f, hf, rfl⟩
      have hm := A.e.m f hf
      exact A'.pivot hm.1 ((hs f hm.1).1 (.mem A.hc A.hz A.mm hf)) hm.2
    · rintro ⟨f, hf, rfl⟩
      have hm := A'.e.m f hf
      exact A.pivot hm.1 ((hs f hm.1).2 (.mem A'.hc A'.hz A'.mm hf)) hm.2
  have key : ∀ f ∈ es, ∀ f' ∈ es', piv f = piv f' → f = f' := by
    intro f hf f' hf' hp
    have m := (A.e.m f hf).1
    have m' := (A'.e.m f' hf').1
    have hspan : Span c z es (ad f f') := (Span.mem A.hc A.hz A.mm hf).sum A.hc A.hz A.mm ((hs f' m').2 (.mem A'.hc A'.hz A'.mm hf'))
    have own : ∀ {l : List Eqn}, SolverP c z l → ∀ g ∈ l, ∀ k ∈ l, (piv g ∈ k.1 ↔ piv g = piv k) := by
      intro l hl g hg k hk
      have L := solverL_of hl
      constructor
      · intro hgk
        by_cases e : g = k
        · rw [e]
        · exfalso
          have hs2 := L.s
          obtain ⟨i, hi, rfl⟩ := List.mem_iff_getElem.1 hg
          obtain ⟨j, hj, rfl⟩ := List.mem_iff_getElem.1 hk
          rcases Nat.lt_trichotomy i j with hij | hij | hij
          · exact (List.pairwise_iff_getElem.1 hs2 i j hi hj hij).1 hgk
          · subst hij; exact e rfl
          · exact (List.pairwise_iff_getElem.1 hs2 j i hj hi hij).2 hgk
      · intro e
        rw [e]
        exact mem_of_piv (L.m k hk).2.1
    have hnp : ∀ g ∈ es, piv g ∉ (ad f f').1 := by
      intro g hg hm
      refine (ad_mem m m' (piv g)).1 hm ?_
      have : piv g ∈ es'.map piv := by rw [← hpm]; exact List.mem_map.2 ⟨g, hg, rfl⟩
      obtain ⟨g', hg', e⟩ := List.mem_map.1 this
      rw [own h g hg f hf, ← e, own h' g' hg' f' hf', e, hp]
    have := red_id hnp
    rw [(A.ker (m.ad m')).1 hspan] at this
    exact ad_zero A.hc A.hz m m' this.symm
  have hlen : es.length = es'.length := by
    have := congrArg List.length hpm
    simpa using this
  refine List.ext_getElem hlen fun i h1 h2 => key _ (List.getElem_mem h1) _ (List.getElem_mem h2) ?_
  have := congrArg (fun l : List Int => l[i]?) hpm
  simp only [List.getElem?_map, List.getElem?_eq_getElem h1, List.getElem?_eq_getElem h2, Option.map_some, Option.some.injEq] at this
  exact this
/-- What is said with an equation learned. -/
theorem learn_span {e : Eqn} (h : AddP c z es e) (v : Eqn) (hv : EqP c z v) : Span c z (learnE es e) v ↔ Span c z es v ∨ Span c z es (ad v e) := by
  have A := sol_of h.s
  have A2 := sol_of (learn_ok h)
  have he : EqP c z e := ⟨h.r, h.t⟩
  have hin : ∀ f, f ∈ learnE es e ↔ f = e ∨ ∃ g ∈ es, clearE e g = f := by
    intro f
    unfold learnE
    rw [putE_mem, List.mem_map]
  have hcl : ∀ g, clearE e g = g ∨ clearE e g = ad g e := by
    intro g
    rw [clearE_eq]
    split
    · exact .inr rfl
    · exact .inl rfl
  constructor
  · intro hs
    clear hv
    induction hs with
    | zero => exact .inl .zero
    | add h1 hf ih =>
      rename_i v f
      have hv := h1.ok A2.hc A2.hz A2.mm
      have step : ∀ g, Span c z es g → EqP c z g → (Span c z es (ad v g) ∨ Span c z es (ad (ad v g) e)) ∧ (Span c z es (ad v (ad g e)) ∨ Span c z es (ad (ad v (ad g e)) e)) := by
        intro g hg hge
        rcases ih with ih | ih
        · refine ⟨.inl (ih.sum A.hc A.hz A.mm hg), .inr ?_⟩
          rw [ad_assoc hv (hge.ad he) he, ad_back hge he]
          exact ih.sum A.hc A.hz A.mm hg
        · have := ih.sum A.hc A.hz A.mm hg
          rw [ad_swap hv he hge] at this
          refine ⟨.inr this, .inl ?_⟩
          rw [← ad_assoc hv hge he]
          exact this
      rcases (hin f).1 hf with rfl | ⟨g, hg, rfl⟩
      · have := (step (zr z) .zero A.z0).2
        rwa [zr_ad A.hc A.hz he] at this
      · rcases hcl g with e1 | e1 <;> rw [e1]
        · exact (step g (.mem A.hc A.hz A.mm hg) (A.mm g hg)).1
        · exact (step g (.mem A.hc A.hz A.mm hg) (A.mm g hg)).2
  · have h1 : Span c z (learnE es e) e := .mem A2.hc A2.hz A2.mm ((hin e).2 (.inl rfl))
    have hsub : ∀ g ∈ es, Span c z (learnE es e) g := by
      intro g hg
      have hm : Span c z (learnE es e) (clearE e g) := .mem A2.hc A2.hz A2.mm ((hin _).2 (.inr ⟨g, hg, rfl⟩))
      rcases hcl g with e1 | e1
      · rwa [e1] at hm
      · rw [e1] at hm
        have := hm.sum A2.hc A2.hz A2.mm h1
        rwa [ad_back (A.mm g hg) he] at this
    rintro (hs | hs)
    · exact hs.sub A.hc A.hz A.mm A2.mm hsub
    · have := (hs.sub A.hc A.hz A.mm A2.mm hsub).sum A2.hc A2.hz A2.mm h1
      rwa [ad_back hv he] at this
end
end Go.Proofs.Ytbolcmcjniiieaa.V
namespace Go.Proofs.Ytbolcmcjniiieaa.V
open Go Vx Vx.N
/-! ### What solvers say, and blocks that are known -/
theorem lenE_wf {es : List Eqn} (h : es.length ≤ maxLen) (h2 : ∀ e ∈ es, e.1.length ≤ maxLen ∧ e.2.size ≤ maxLen) : (lenOk es.length && es.all lenE) = true := by
  simp only [Bool.and_eq_true, List.all_eq_true]
  exact ⟨decide_eq_true h, fun e he => by
    have := h2 e he
    simp only [lenE, Bool.and_eq_true]
    exact ⟨decide_eq_true this.1, decide_eq_true this.2⟩⟩
theorem says_t {c z : Int} {es : List Eqn} {row : List Int} {d : ByteArray} (hS : SolverP c z es) (hr : RowP row c) (h : red es (row, zerosB z.toNat) = ([], d)) : saysE c z es row = (d, true) := by
  have h' : redE es row (zerosB z.toNat) = ([], d) := h
  rw [saysE_yes hS hr, h', if_pos rfl]
theorem says_f {c z : Int} {es : List Eqn} {row : List Int} (h : (saysE c z es row).2 = true) : SolverP c z es ∧ RowP row c ∧ red es (row, zerosB z.toNat) = ([], (saysE c z es row).1) := by
  by_cases hc : SolverP c z es ∧ RowP row c
  · rw [saysE_yes hc.1 hc.2] at h ⊢
    by_cases h0 : (redE es row (zerosB z.toNat)).1 = []
    · rw [if_pos h0] at h ⊢
      exact ⟨hc.1, hc.2, Prod.ext h0 rfl⟩
    · rw [if_neg h0] at h; cases h
  · rw [saysE_no hc] at h; cases h
theorem eq0 {c z : Int} {row : List Int} (hz : 1 ≤ z ∧ z ≤ 16) (hr : RowP row c) : EqP c z (row, zerosB z.toNat) := ⟨hr, by show ((zerosB z.toNat).size : Int) = z; rw [zerosB_size]; omega⟩
theorem ad0 (a b : List Int) (n : Nat) : ad (a, zerosB n) (b, zerosB n) = (xorL a b, zerosB n) := Prod.ext rfl (xorB_zr _ _ (zerosB_size n))
theorem rowP_le {l : List Int} {c d : Int} (h : RowP l c) (h1 : c ≤ d) (h2 : d ≤ 24) : RowP l d := ⟨by have := h.1; omega, h2, h.2.2.1, fun x hx => by have := h.2.2.2 x hx; omega⟩
theorem rowXorR_eq {a b : List Int} {c : Int} (ha : RowP a c) (hb : RowP b c) : rowXorR a b = xorL a b := by
  unfold rowXorR
  have hc := ha.2.1
  rw [decide_eq_true ⟨rowP_le ha hc (by omega), rowP_le hb hc (by omega)⟩]
theorem says_lin {c z : Int} {es : List Eqn} {a b : List Int} (hS : SolverP c z es) (ha : RowP a c) (hb : RowP b c) : red es (xorL a b, zerosB z.toNat) = ad (red es (a, zerosB z.toNat)) (red es (b, zerosB z.toNat)) := by
  rw [← (sol_of hS).lin (eq0 hS.2.1 ha) (eq0 hS.2.1 hb), ad0]
theorem piv_own {c z : Int} {l : List Eqn} (hl : SolverP c z l) {g k : Eqn} (hg : g ∈ l) (hk : k ∈ l) (h : piv g ∈ k.1) : g = k := by
  by_cases e : g = k
  · exact e
  · exfalso
    have hs2 := (solverL_of hl).s
    obtain ⟨i, hi, rfl⟩ := List.mem_iff_getElem.1 hg
    obtain ⟨j, hj, rfl⟩ := List.mem_iff_getElem.1 hk
    rcases Nat.lt_trichotomy i j with hij | hij | hij
    · exact (List.pairwise_iff_getElem.1 hs2 i j hi hj hij).1 h
    · subst hij; exact e rfl
    · exact (List.pairwise_iff_getElem.1 hs2 j i hj hi hij).2 h
theorem getE_some {es : List Eqn} {x : Int} (h : (getE es x).2 = true) : ∃ e ∈ es, e.1 = [x] ∧ (getE es x).1 = e.2 := by
  induction es with
  | nil => cases h
  | cons e es ih =>
    rw [getE_cons] at h ⊢
    by_cases he : e.1 = [x]
    · rw [if_pos he]; exact ⟨e, List.mem_cons_self, he, rfl⟩
    · rw [if_neg he] at h ⊢
      obtain ⟨f, h1, h2⟩ := ih h
      exact ⟨f, List.mem_cons_of_mem _ h1, h2⟩
theorem getE_mem_iff {es : List Eqn} {x : Int} : (getE es x).2 = true ↔ ∃ e ∈ es, e.1 = [x] := by
  constructor
  · intro h; obtain ⟨e, h1, h2, _⟩ := getE_some h; exact ⟨e, h1, h2⟩
  · rintro ⟨e, he, h1⟩
    induction es with
    | nil => cases he
    | cons f es ih =>
      rw [getE_cons]
      split
      · rfl
      · rcases List.mem_cons.1 he with rfl | he
        · contradiction
        · exact ih he
theorem unit_row {c x : Int} (h : 0 ≤ x ∧ x < c) (hc : c ≤ 24) : RowP [x] c := ⟨by omega, hc, List.pairwise_singleton _ _, fun y hy => by rw [List.mem_singleton.1 hy]; exact h⟩
theorem zr_xorB (t : ByteArray) (n : Nat) (h : t.size = n) : xorB (zerosB n) t = t := by
  rw [xorB_self_comm (by rw [zerosB_size, h]), xorB_zr _ _ h]
/-- A block is known exactly if it is implied. -/
theorem unit_says {c z : Int} {es : List Eqn} (hS : SolverP c z es) {x : Int} (hx : 0 ≤ x ∧ x < c) : (saysE c z es [x]).2 = (getE es x).2 ∧ ((getE es x).2 = true → (saysE c z es [x]).1 = (getE es x).1) := by
  have A := sol_of hS
  have hr := unit_row hx hS.1.2
  have hv := eq0 hS.2.1 hr
  cases hg : (getE es x).2 with
  | true =>
    obtain ⟨e, he, h1, h2⟩ := getE_some hg
    have hm := A.mm e he
    have hsz : e.2.size = z.toNat := by have := hm.t; omega
    have e1 : ad ([x], zerosB z.toNat) e = ([], e.2) := by
      refine Prod.ext ?_ (zr_xorB _ _ hsz)
      show xorL [x] e.1 = []
      rw [h1, xorL_cons, if_neg (by omega), if_neg (by omega), xorL_nil_left]
    have : red es ([x], zerosB z.toNat) = ([], e.2) := by
      rw [← red_ad_mem A.e he hv, e1]
      exact red_id fun f _ hf => by cases hf
    rw [says_t hS hr this]
    exact ⟨rfl, fun _ => h2.symm⟩
  | false =>
    refine ⟨?_, fun h => by cases h⟩
    cases hs : (saysE c z es [x]).2 with
    | false => rfl
    | true =>
      exfalso
      obtain ⟨_, _, h3⟩ := says_f hs
      have hrd := red_ok A.e hv
      have hsp := A.diff hv
      have hrow : ∀ y, y ∈ (ad ([x], zerosB z.toNat) (red es ([x], zerosB z.toNat))).1 ↔ y = x := fun y => by
        rw [ad_mem hv hrd, h3]; simp
      have hne : (ad ([x], zerosB z.toNat) (red es ([x], zerosB z.toNat))).1 ≠ [] := fun e => by
        have := (hrow x).2 rfl
        rw [e] at this; cases this
      have hu := hv.ad hrd
      obtain ⟨f, hf, hp⟩ := A.pivot hu hsp hne
      have hpx : piv f = x := by rw [hp]; exact (hrow _).1 (mem_of_piv hne)
      have hfm := A.e.m f hf
      have hs2 := hsp.sum A.hc A.hz A.mm (.mem A.hc A.hz A.mm hf)
      have hu2 := hu.ad hfm.1
      have hmem := ad_mem hu hfm.1
      refine absurd (getE_mem_iff.2 ⟨f, hf, ?_⟩) (by rw [hg]; simp)
      by_cases hn2 : (ad (ad ([x], zerosB z.toNat) (red es ([x], zerosB z.toNat))) f).1 = []
      · refine asc_ext hfm.1.r.2.2.1 (List.pairwise_singleton _ _) fun y => ?_
        have : y ∉ (ad (ad ([x], zerosB z.toNat) (red es ([x], zerosB z.toNat))) f).1 := by rw [hn2]; simp
        rw [hmem, hrow] at this
        rw [List.mem_singleton]
        exact (Decidable.not_not.1 this).symm
      · exfalso
        obtain ⟨g, hgm, hgp⟩ := A.pivot hu2 hs2 hn2
        have h5 := (hmem _).1 (mem_of_piv hn2)
        rw [← hgp, hrow] at h5
        by_cases hgx : piv g = x
        · exact h5 ⟨fun _ => by rw [hgx, ← hpx]; exact mem_of_piv hfm.2, fun _ => hgx⟩
        · have hin : piv g ∈ f.1 := by
            by_cases h6 : piv g ∈ f.1
            · exact h6
            · exact absurd ⟨fun h => absurd h hgx, fun h => absurd h h6⟩ h5
          have := piv_own hS hgm hf hin
          exact hgx (by rw [this, hpx])
/-! how many of the first blocks are known -/
theorem preN_spec (es : List Eqn) : ∀ (k n : Nat), n ≤ preN es k n ∧ preN es k n ≤ n + k ∧ (∀ m, n ≤ m → m < preN es k n → (getE es (m : Nat)).2 = true) ∧ (preN es k n < n + k → (getE es (preN es k n : Nat)).2 = false) := by
  intro k
  induction k with
  | zero => exact fun n => ⟨Nat.le_refl _, Nat.le_refl _, fun m h1 h2 => by have : m < n := h2; omega, fun h => by have : n < n := h; omega⟩
  | succ k ih =>
    intro n
    cases hg : (getE es (n : Nat)).2 with
    | true =>
      rw [preN_step hg]
      obtain ⟨h1, h2, h3, h4⟩ := ih (n + 1)
      refine ⟨by omega, by omega, fun m hm1 hm2 => ?_, fun h => h4 (by omega)⟩
      by_cases e : m = n
      · rw [e]; exact hg
      · exact h3 m (by omega) hm2
    | false =>
      rw [preN_stop hg]
      exact ⟨Nat.le_refl _, by omega, fun m h1 h2 => by omega, fun _ => hg⟩
theorem range_asc (n : Nat) : ((List.range n).map fun j : Nat => (j : Int)).Pairwise (· < ·) := by
  rw [List.pairwise_map]
  exact List.pairwise_lt_range.imp fun h => by omega
theorem asc_covers {l : List Int} (ha : l.Pairwise (· < ·)) {n : Nat} (h : ∀ j : Nat, j < n → (j : Int) ∈ l) (h0 : ∀ x ∈ l, 0 ≤ x) : n ≤ l.length := by
  have e : l.filter (fun x : Int => decide (x < (n : Int))) = (List.range n).map fun j : Nat => (j : Int) := by
    refine asc_ext (ha.filter _) (range_asc n) fun x => ?_
    simp only [List.mem_filter, decide_eq_true_eq, List.mem_map, List.mem_range]
    constructor
    · rintro ⟨h1, h2⟩
      have := h0 x h1
      exact ⟨x.toNat, by omega, by omega⟩
    · rintro ⟨j, hj, rfl⟩
      exact ⟨h j hj, by omega⟩
  have := congrArg List.length e
  rw [List.length_map, List.length_range] at this
  rw [← this]
  exact List.length_filter_le _ _
theorem asc_full {l : List Int} (ha : l.Pairwise (· < ·)) {c : Nat} (h0 : ∀ x ∈ l, 0 ≤ x ∧ x < c) (hl : l.length = c) : ∀ j : Nat, j < c → (j : Int) ∈ l := by
  have e : l = ((List.range c).filter fun j : Nat => decide ((j : Int) ∈ l)).map fun j : Nat => (j : Int) := by
    refine asc_ext ha ?_ fun x => ?_
    · rw [List.pairwise_map]
      exact (List.pairwise_lt_range.filter _).imp fun h => by omega
    · simp only [List.mem_map, List.mem_filter, List.mem_range, decide_eq_true_eq]
      constructor
      · intro hx
        have := h0 x hx
        exact ⟨x.toNat, ⟨by omega, by rw [Int.toNat_of_nonneg this.1]; exact hx⟩, by omega⟩
      · rintro ⟨j, ⟨_, h2⟩, rfl⟩; exact h2
  have hlen := congrArg List.length e
  rw [List.length_map, hl] at hlen
  have hall := List.length_filter_eq_length_iff.1 (hlen.symm.trans List.length_range.symm)
  intro j hj
  have := hall j (List.mem_range.2 hj)
  simpa using this
theorem pref_ok {c z : Int} {es : List Eqn} (hS : SolverP c z es) : (∀ m : Nat, m < prefE es → (getE es (m : Nat)).2 = true) ∧ (getE es (prefE es : Nat)).2 = false ∧ prefE es ≤ es.length ∧ (prefE es : Int) ≤ c ∧ ((es.length : Int) < c ∨ (prefE es : Int) = c) ∧ (es.length : Int) ≤ c := by
  obtain ⟨_, h2, h3, h4⟩ := preN_spec es 25 0
  have L := solverL_of hS
  have hpiv : ∀ x ∈ es.map piv, 0 ≤ x ∧ x < c := by
    intro x hx
    obtain ⟨f, hf, rfl⟩ := List.mem_map.1 hx
    exact (L.m f hf).1.2.2.2 _ (mem_of_piv (L.m f hf).2.1)
  have hin : ∀ m : Nat, (getE es (m : Nat)).2 = true → (m : Int) ∈ es.map piv := by
    intro m hm
    obtain ⟨e, he, h1, _⟩ := getE_some hm
    refine List.mem_map.2 ⟨e, he, ?_⟩
    show e.1.getD 0 0 = m
    rw [h1]; rfl
  have hlen : prefE es ≤ es.length := by
    have := asc_covers (asc_piv hS) (n := prefE es) (fun j hj => hin j (h3 j (Nat.zero_le _) hj)) fun x hx => (hpiv x hx).1
    rwa [List.length_map] at this
  have hlc : (es.length : Int) ≤ c := by
    have := asc_length (es.map piv) (asc_piv hS) c.toNat (fun x hx => by have := hpiv x hx; omega)
    rw [List.length_map] at this
    have := hS.1
    omega
  have hc := hS.1.2
  have hstop : (getE es (prefE es : Nat)).2 = false := h4 (by have : preN es 25 0 = prefE es := rfl; omega)
  refine ⟨fun m hm => h3 m (Nat.zero_le _) hm, hstop, hlen, by omega, ?_, hlc⟩
  by_cases hfull : (es.length : Int) = c
  · right
    have hall := asc_full (asc_piv hS) (c := es.length) (fun x hx => by have := hpiv x hx; omega) (by rw [List.length_map])
    have hunit : ∀ f ∈ es, f.1 = [piv f] := by
      intro f hf
      have hm := L.m f hf
      refine asc_ext hm.1.2.2.1 (List.pairwise_singleton _ _) fun y => ?_
      rw [List.mem_singleton]
      constructor
      · intro hy
        have hb := hm.1.2.2.2 y hy
        have := hall y.toNat (by omega)
        rw [Int.toNat_of_nonneg hb.1] at this
        obtain ⟨g, hg, hgy⟩ := List.mem_map.1 this
        have := piv_own hS hg hf (by rw [hgy]; exact hy)
        rw [← hgy, this]
      · rintro rfl; exact mem_of_piv hm.2.1
    by_cases hlt : prefE es < es.length
    · exfalso
      obtain ⟨g, hg, hgy⟩ := List.mem_map.1 (hall _ hlt)
      have := getE_mem_iff.2 ⟨g, hg, by rw [hunit g hg, hgy]⟩
      rw [hstop] at this; cases this
    · omega
  · left; omega
end Go.Proofs.Ytbolcmcjniiieaa.V
