/- What functions come to, and that they do so; conditions: those that each theorem states. -/
import Derived.Test.YtbgheffgkncpgaaDoorDhh3G
set_option linter.unusedVariables false
set_option linter.unusedSimpArgs false
namespace Go.Proofs.YtbgheffgkncpgaaDoor.V
open Go Vx Vx.N
/-! ### HashSum -/
theorem blksW_len : ∀ (n : Nat) (h b : List Int), h.length = 8 → (blksW n h b).length = 8
  | 0, _, _, hh => hh
  | n + 1, h, b, _ => blksW_len n _ _ rfl
theorem outW_len (h : List Int) : (outW h).length = 4 * h.length := by
  induction h with
  | nil => rfl
  | cons x h ih =>
    unfold outW at ih ⊢
    rw [List.flatMap_cons, List.length_append, ih]
    simp only [List.length_cons, List.length_nil]; omega
theorem strOf_size (l : List Int) : (strOf l).size = l.length := by
  show (strOf l).data.size = _
  simp [strOf]
theorem sumS_size (s : ByteArray) : (sumS s).size = 32 := by
  unfold sumS
  rw [strOf_size, outW_len, blksW_len _ _ _ rfl]
theorem hexS_size (s : ByteArray) : (hexS s).size = 2 * s.size := by
  unfold hexS
  rw [strOf_size, hexL_len, bytesL_len]
theorem K_spec_HashSum : Sound1 Tryd.prog EKs F_spec_HashSum.f S_spec_HashSum := snd ok_spec_HashSum [(F_spec_l1Sum.f, S_spec_l1Sum), (F_spec_l1Hex.f, S_spec_l1Hex)] (tabF_cons K_spec_l1Sum (tabF_cons K_spec_l1Hex (tabF_nil _ _))) fun args sp h hp => by
  unfold S_spec_HashSum at h
  split at h
  · rename_i s
    cases h
    have hm : s.size < 100000000 := of_decide_eq_true hp
    refine ⟨rfl, 0, (spec_HashSum_run _ _).trans ?_⟩
    unfold spec_HashSum_T
    rw [decide_eq_true (show s.size < 1000000000 by omega), sumS_size]; rfl
  · cases h
theorem K_impl_HashSum : Sound1 Tryd.prog EKs F_impl_HashSum.f S_impl_HashSum := snd ok_impl_HashSum [(F_impl_sha256Of.f, S_impl_sha256Of), (F_impl_hexOf.f, S_impl_hexOf)] (tabF_cons K_impl_sha256Of (tabF_cons K_impl_hexOf (tabF_nil _ _))) fun args sp h hp => by
  unfold S_impl_HashSum S_spec_HashSum at h
  split at h
  · rename_i s
    cases h
    have hm : s.size < 100000000 := of_decide_eq_true hp
    refine ⟨rfl, 0, (impl_HashSum_run _ _).trans ?_⟩
    unfold impl_HashSum_T
    rw [decide_eq_true (show s.size < 1000000000 by omega), sumS_size]; rfl
  · cases h
theorem K_spec_l1Many : Sound1 Tryd.prog EKs F_spec_l1Many.f S_spec_l1Many := snd ok_spec_l1Many [] (tabF_nil _ _) fun args sp h hp => by
  unfold S_spec_l1Many at h
  split at h
  · rename_i s n
    cases h
    obtain ⟨⟨h1, h3⟩, hs⟩ := of_decide_eq_true hp
    refine ⟨rfl, 5, (spec_l1Many_run _ _ _).trans ?_⟩
    unfold spec_l1Many_T
    have turn : ∀ (m : Nat) (out s : ByteArray) (n : Int), out.size < 100000000 → s.size < 100000000 → 0 < n → n ≤ 3 → spec_l1Many_W2 5 (m + 1) (out, n, s) = spec_l1Many_W2 5 m (if n = 2 then out else out ++ s, if n = 1 then 0 else 1, s ++ s) := by
      intro m out s n ho hs h0 h3
      show spec_l1Many_T2 (spec_l1Many_W2 5 m) (out, n, s) = _
      generalize spec_l1Many_W2 5 m = F
      unfold spec_l1Many_T2
      dsimp only
      rw [decide_eq_true (show n > 0 from h0), decide_eq_true (show s.size + s.size < 1099511627776 by omega), decide_eq_true (show out.size + s.size < 1099511627776 by omega)]
      have hn : n = 1 ∨ n = 2 ∨ n = 3 := by omega
      rcases hn with rfl | rfl | rfl <;> rfl
    have stop : ∀ (m : Nat) (out s : ByteArray), spec_l1Many_W2 5 (m + 1) (out, 0, s) = some ([T out], []) := by
      intro m out s
      show spec_l1Many_T2 (spec_l1Many_W2 5 m) (out, 0, s) = _
      generalize spec_l1Many_W2 5 m = F
      rfl
    have hn : n = 1 ∨ n = 2 ∨ n = 3 := by omega
    have e0 : ((⟨#[]⟩ : ByteArray)).size = 0 := rfl
    have ap : ∀ a b : ByteArray, (a ++ b).size = a.size + b.size := fun a b => ByteArray.size_append
    rcases hn with rfl | rfl | rfl
    · rw [turn 4 _ s 1 (by omega) (by omega) (by omega) (by omega)]
      exact stop 3 _ _
    · rw [turn 4 _ s 2 (by omega) (by omega) (by omega) (by omega)]
      refine (turn 3 _ (s ++ s) 1 (by rw [if_pos rfl]; omega) (by rw [ap]; omega) (by omega) (by omega)).trans ?_
      exact stop 2 _ _
    · rw [turn 4 _ s 3 (by omega) (by omega) (by omega) (by omega)]
      refine (turn 3 _ (s ++ s) 1 (by rw [if_neg (by omega), ap]; omega) (by rw [ap]; omega) (by omega) (by omega)).trans ?_
      exact stop 2 _ _
  · cases h
theorem K_spec_DrawHashSum : Sound1 Tryd.prog EKs F_spec_DrawHashSum.f S_spec_DrawHashSum := snd ok_spec_DrawHashSum [(F_spec_l1Many.f, S_spec_l1Many)] (tabF_cons K_spec_l1Many (tabF_nil _ _)) fun args sp h hp => by
  unfold S_spec_DrawHashSum at h
  split at h
  · rename_i b
    cases h
    have hb : b.length < 10000000 := of_decide_eq_true hp
    refine ⟨rfl, 0, (spec_DrawHashSum_run _ _).trans ?_⟩
    unfold spec_DrawHashSum_T drawH
    have e : Int.tmod (b.length : Int) 3 = ((b.length % 3 : Nat) : Int) := by rw [Int.tmod_eq_emod_of_nonneg (by omega)]; omega
    rw [e, w64 (by omega) (by omega), strOf_size, decide_eq_true (show (1 ≤ 1 + ((b.length % 3 : Nat) : Int) ∧ 1 + ((b.length % 3 : Nat) : Int) ≤ 3) ∧ b.length < 10000000 from ⟨⟨by omega, by omega⟩, hb⟩)]; rfl
  · cases h
theorem drawH_size (b : List Int) : (drawH b).size ≤ 3 * b.length := by
  have ap : ∀ a b : ByteArray, (a ++ b).size = a.size + b.size := fun a b => ByteArray.size_append
  have e0 : ((⟨#[]⟩ : ByteArray)).size = 0 := rfl
  unfold drawH manyD
  split
  · rw [ap, strOf_size]; omega
  · split
    · rw [ap, ap, strOf_size]; omega
    · rw [ap, ap, ap, strOf_size]; omega
end Go.Proofs.YtbgheffgkncpgaaDoor.V
