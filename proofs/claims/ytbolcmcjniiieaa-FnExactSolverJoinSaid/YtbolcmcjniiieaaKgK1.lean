/- What functions come to, and that they do so; conditions: those that each theorem states. -/
import Derived.Test.YtbolcmcjniiieaaSgG
set_option linter.unusedVariables false
set_option linter.unusedSimpArgs false
namespace Go.Proofs.Ytbolcmcjniiieaa.V
open Go Vx Vx.N
/-! ### Small functions -/
def inB (n lo hi : Int) : Bool := decide (lo ≤ n ∧ n ≤ hi)
theorem inB_of {n lo hi : Int} : inB n lo hi = true ↔ lo ≤ n ∧ n ≤ hi := by simp [inB]
noncomputable def S_impl_within : List DA → Option Sp
  | [.c (.sc (.int .i64 n)), .c (.sc (.int .i64 a)), .c (.sc (.int .i64 b))] => some ⟨true, [B (inB n a b)], [], .fresh⟩
  | _ => none
theorem K_impl_within : Sound1 Try.prog EKs F_impl_within.f S_impl_within := snd ok_impl_within [] (tabF_nil _ _) fun args sp h hp => by
  unfold S_impl_within at h
  split at h
  · cases h
    refine ⟨rfl, 0, (impl_within_run 0 _ _ _).trans ?_⟩
    unfold impl_within_T inB
    rename_i n a b
    by_cases h1 : a ≤ n <;> by_cases h2 : n ≤ b <;> simp [h1, h2]
  · cases h
noncomputable def S_spec_l1In : List DA → Option Sp := S_impl_within
theorem K_spec_l1In : Sound1 Try.prog EKs F_spec_l1In.f S_spec_l1In := snd ok_spec_l1In [] (tabF_nil _ _) fun args sp h hp => by
  unfold S_spec_l1In S_impl_within at h
  split at h
  · cases h
    refine ⟨rfl, 0, (spec_l1In_run 0 _ _ _).trans ?_⟩
    unfold spec_l1In_T inB
    rename_i n a b
    by_cases h1 : a ≤ n <;> by_cases h2 : n ≤ b <;> simp [h1, h2]
  · cases h
/-! blocks -/
noncomputable def S_spec_l2Block : List DA → Option Sp
  | [.c (.sc (.string a)), .c (.sc (.string b))] => some ⟨decide (a.size ≤ b.size ∧ a.size < 1000000000), [T (xorB a b)], [], .fresh⟩
  | _ => none
theorem K_spec_l2Block : Sound1 Try.prog EKs F_spec_l2Block.f S_spec_l2Block := snd ok_spec_l2Block [] (tabF_nil _ _) fun args sp h hp => by
  unfold S_spec_l2Block at h
  split at h
  · rename_i a b
    cases h
    obtain ⟨hs, hm⟩ := of_decide_eq_true hp
    refine ⟨rfl, a.size + 1, (spec_l2Block_run _ _ _).trans ?_⟩
    refine fix4 (T := fun k => spec_l2Block_T3 k) (fun i t1 t0 r0 => t1 = b ∧ t0 = a ∧ 0 ≤ i ∧ i ≤ a.size ∧ r0 = xorN a b i.toNat) (fun i _ _ _ => a.size - i.toNat) (fun _ _ _ _ => ([T (xorB a b)], [])) ?_ _ _ _ _ _ ⟨rfl, rfl, by omega, by omega, rfl⟩ (by omega)
    rintro i t1 t0 r0 K ⟨rfl, rfl, h0, h1, rfl⟩ hK
    unfold spec_l2Block_T3
    simp only [Bool.cond_eq_ite, decide_eq_true_eq]
    by_cases hi : i < t0.size
    · rw [if_pos hi, if_pos h0, if_pos hi, if_pos h0, if_pos (by omega), if_pos (by simp [xorN]; omega), bt_bA, bt_bA, xor8 _ _ (bA_lt _ _) (bA_lt _ _), w64i h0 (by omega)]
      refine hK _ _ _ _ ⟨rfl, rfl, by omega, by omega, ?_⟩ (by omega)
      rw [show (i + 1).toNat = i.toNat + 1 by omega, xorN_succ]
    · rw [if_neg hi]
      have e : i.toNat = t0.size := by omega
      rw [e, xorN_str _ _ hs]
  · cases h
noncomputable def S_impl_zeros : List DA → Option Sp
  | [.c (.sc (.int .i64 n))] => some ⟨decide (0 ≤ n ∧ n < 1000000000), [T (zerosB n.toNat)], [], .fresh⟩
  | _ => none
theorem K_impl_zeros : Sound1 Try.prog EKs F_impl_zeros.f S_impl_zeros := snd ok_impl_zeros [] (tabF_nil _ _) fun args sp h hp => by
  unfold S_impl_zeros at h
  split at h
  · rename_i n
    cases h
    obtain ⟨hs, hm⟩ := of_decide_eq_true hp
    refine ⟨rfl, 0, (impl_zeros_run _ _).trans ?_⟩
    unfold impl_zeros_T
    simp only [Bool.cond_eq_ite, decide_eq_true_eq]
    rw [if_pos hs, if_pos trivial, if_pos (by omega)]
    rfl
  · cases h
/-! rows as bits -/
theorem mem_up (m n : Nat) (h : n < 24) : ((List.range (n + 1)).filter fun j => m.testBit j).map (fun j : Nat => (j : Int)) = ((List.range n).filter fun j => m.testBit j).map (fun j : Nat => (j : Int)) ++ (if m.testBit n then [(n : Int)] else []) := by
  rw [List.range_succ, List.filter_append, List.map_append]
  congr 1
  cases hb : m.testBit n <;> simp [hb]
noncomputable def S_impl_rowOf : List DA → Option Sp
  | [.c (.sc (.int .u32 m))] => some ⟨decide (0 ≤ m ∧ m < 4294967296), [Is (rowN m.toNat)], [], .mix [.own]⟩
  | _ => none
theorem K_impl_rowOf : Sound1 Try.prog EKs F_impl_rowOf.f S_impl_rowOf := snd ok_impl_rowOf [] (tabF_nil _ _) fun args sp h hp => by
  unfold S_impl_rowOf at h
  split at h
  · rename_i m
    cases h
    obtain ⟨hs, hm⟩ := of_decide_eq_true hp
    refine ⟨rfl, 25, (impl_rowOf_run _ _).trans ?_⟩
    have em : m = ((m.toNat : Nat) : Int) := by omega
    have hmn : m.toNat < 2 ^ 32 := by omega
    refine fix3 (T := fun k => impl_rowOf_T3 k) (fun t m' r0 => m' = m ∧ 0 ≤ t ∧ t ≤ 24 ∧ r0 = ((List.range t.toNat).filter fun j => m.toNat.testBit j).map (fun j : Nat => (j : Int))) (fun t _ _ => 24 - t.toNat) (fun _ _ _ => ([Is (rowN m.toNat)], [])) ?_ _ _ _ _ ⟨rfl, by omega, by omega, rfl⟩ (by omega)
    rintro t m' r0 K ⟨rfl, h0, h1, hr⟩ hK
    have hl : r0.length ≤ 24 := by
      rw [hr, List.length_map]
      exact Nat.le_trans (List.length_filter_le _ _) (by rw [List.length_range]; omega)
    unfold impl_rowOf_T3
    simp only [Bool.cond_eq_ite, decide_eq_true_eq]
    by_cases ht : t < 24
    · rw [if_pos ht, if_pos h0, w64i h0 (by omega)]
      rw [show (IntKind.wrap .u32 ↑(BitVec.toNat (BitVec.ofInt (IntKind.bits .u32) (Int.fdiv m' (2 ^ min t.toNat (IntKind.bits .u32))) &&& BitVec.ofInt (IntKind.bits .u32) 1)) == 1) = m'.toNat.testBit t.toNat from by
        have := bit32 m'.toNat hmn t h0 (by omega)
        rw [← em] at this
        exact this]
      have hu := mem_up m'.toNat t.toNat (by omega)
      have hte : ((t.toNat : Nat) : Int) = t := by omega
      rw [hte] at hu
      cases hb : m'.toNat.testBit t.toNat with
      | true =>
        rw [if_pos rfl, if_pos (by omega)]
        refine hK _ _ _ ⟨rfl, by omega, by omega, ?_⟩ (by omega)
        rw [show (t + 1).toNat = t.toNat + 1 by omega, hu, hb, ← hr]; rfl
      | false =>
        rw [if_neg (by simp)]
        refine hK _ _ _ ⟨rfl, by omega, by omega, ?_⟩ (by omega)
        rw [show (t + 1).toNat = t.toNat + 1 by omega, hu, hb, ← hr]; simp
    · rw [if_neg ht]
      have e : t.toNat = 24 := by omega
      rw [e] at hr
      rw [hr]; rfl
  · cases h
noncomputable def S_impl_mask : List DA → Option Sp
  | [.c (.row (.ints .i64 l))] => some ⟨decide (l.length < 1000000000) && l.all fun x => decide (0 ≤ x ∧ x < 32), [U (maskN l : Nat)], [], .fresh⟩
  | _ => none
theorem maskFrom_step (m : Nat) (l : List Int) (i : Nat) (h : i < l.length) : maskFrom m (l.drop i) = maskFrom (m ||| 2 ^ l[i].toNat) (l.drop (i + 1)) := by
  rw [List.drop_eq_getElem_cons h]; rfl
theorem K_impl_mask : Sound1 Try.prog EKs F_impl_mask.f S_impl_mask := snd ok_impl_mask [] (tabF_nil _ _) fun args sp h hp => by
  unfold S_impl_mask at h
  split at h
  · rename_i l
    cases h
    simp only [Bool.and_eq_true, decide_eq_true_eq, List.all_eq_true] at hp
    obtain ⟨hs, hm⟩ := hp
    refine ⟨rfl, l.length + 1, (impl_mask_run _ _).trans ?_⟩
    refine (fix4 (T := fun k => impl_mask_T3 k) (fun t8 t7 t6 m => t7 = l.length ∧ t6 = l ∧ 0 ≤ t8 ∧ t8 ≤ l.length ∧ ∃ k : Nat, m = (k : Int) ∧ k < 2 ^ 32) (fun t8 _ _ _ => l.length - t8.toNat) (fun t8 _ _ m => ([U (maskFrom m.toNat (l.drop t8.toNat) : Nat)], [])) ?_ _ _ _ _ _ ⟨rfl, rfl, by omega, by omega, 0, rfl, by decide⟩ (by omega)).trans ?_
    · rintro t8 t7 t6 m K ⟨rfl, rfl, h0, h1, k, rfl, hk⟩ hK
      unfold impl_mask_T3
      simp only [Bool.cond_eq_ite, decide_eq_true_eq]
      by_cases hi : t8 < t6.length
      · have hlt : t8.toNat < t6.length := by omega
        have hx := hm _ (List.getElem_mem hlt)
        rw [if_pos hi, if_pos h0, if_pos hi, getD_lt hlt, if_pos hx.1, w64i h0 (by omega), shl32 _ hx.1 hx.2]
        have hp : 2 ^ (t6[t8.toNat]).toNat < 2 ^ 32 := Nat.pow_lt_pow_right (by decide) (by omega)
        rw [or32 k _ hk hp]
        refine (hK _ _ _ _ ⟨rfl, rfl, by omega, by omega, _, rfl, Nat.or_lt_two_pow hk hp⟩ (by omega)).trans ?_
        show some ([U (maskFrom (((k ||| 2 ^ (t6[t8.toNat]).toNat : Nat) : Int).toNat) (t6.drop (t8 + 1).toNat) : Nat)], []) = some ([U (maskFrom ((k : Int).toNat) (t6.drop t8.toNat) : Nat)], [])
        rw [maskFrom_step _ _ _ hlt, Int.toNat_natCast, Int.toNat_natCast, show (t8 + 1).toNat = t8.toNat + 1 by omega]
      · rw [if_neg hi]
        show some ([U (k : Int)], []) = some ([U (maskFrom ((k : Int).toNat) (t6.drop t8.toNat) : Nat)], [])
        rw [List.drop_eq_nil_of_le (by omega), Int.toNat_natCast]; rfl
    · rfl
  · cases h
noncomputable def S_spec_l3Has : List DA → Option Sp
  | [.c (.row (.ints .i64 l)), .c (.sc (.int .i64 n))] => some ⟨decide (l.length < 1000000000), [B (decide (n ∈ l))], [], .fresh⟩
  | _ => none
theorem K_spec_l3Has : Sound1 Try.prog EKs F_spec_l3Has.f S_spec_l3Has := snd ok_spec_l3Has [] (tabF_nil _ _) fun args sp h hp => by
  unfold S_spec_l3Has at h
  split at h
  · rename_i l n
    cases h
    have hs := of_decide_eq_true hp
    refine ⟨rfl, l.length + 1, (spec_l3Has_run _ _ _).trans ?_⟩
    refine fix3 (T := fun k => spec_l3Has_T2 k) (fun i n' l' => n' = n ∧ l' = l ∧ 0 ≤ i ∧ i ≤ l.length) (fun i _ _ => l.length - i.toNat) (fun i _ _ => ([B (decide (n ∈ l.drop i.toNat))], [])) ?_ _ _ _ _ ⟨rfl, rfl, by omega, by omega⟩ (by omega)
    rintro i n' l' K ⟨rfl, rfl, h0, h1⟩ hK
    unfold spec_l3Has_T2
    simp only [Bool.cond_eq_ite, decide_eq_true_eq, beq_iff_eq]
    by_cases hi : i < l'.length
    · have hlt : i.toNat < l'.length := by omega
      rw [if_pos hi, if_pos h0, if_pos hi, getD_lt hlt, w64i h0 (by omega), List.drop_eq_getElem_cons hlt]
      by_cases he : l'[i.toNat] = n'
      · rw [if_pos he]
        have : n' ∈ l'[i.toNat] :: l'.drop (i.toNat + 1) := by rw [he]; exact List.mem_cons_self
        rw [decide_eq_true this]
      · rw [if_neg he]
        refine (hK _ _ _ ⟨rfl, rfl, by omega, by omega⟩ (by omega)).trans ?_
        have : (n' ∈ l'[i.toNat] :: l'.drop (i.toNat + 1)) ↔ n' ∈ l'.drop (i.toNat + 1) := by
          rw [List.mem_cons]; exact ⟨fun h => h.resolve_left fun e => he e.symm, .inr⟩
        rw [show (i + 1).toNat = i.toNat + 1 by omega, decide_eq_decide.2 this]
    · rw [if_neg hi, List.drop_eq_nil_of_le (by omega)]
      simp
  · cases h
noncomputable def S_spec_l2Xor : List DA → Option Sp
  | [.c (.row (.ints .i64 a)), .c (.row (.ints .i64 b))] => some ⟨decide (a.length + b.length < 1000000000), [Is (xorL a b)], [], .mix [.own]⟩
  | _ => none
theorem K_spec_l2Xor : Sound1 Try.prog EKs F_spec_l2Xor.f S_spec_l2Xor := snd ok_spec_l2Xor [] (tabF_nil _ _) fun args sp h hp => by
  unfold S_spec_l2Xor at h
  split at h
  · rename_i a b
    cases h
    have hs := of_decide_eq_true hp
    refine ⟨rfl, a.length + b.length + 1, (spec_l2Xor_run _ _ _).trans ?_⟩
    refine fix5 (T := fun k => spec_l2Xor_T4 k) (fun k i b' a' r => b' = b ∧ a' = a ∧ 0 ≤ i ∧ i ≤ a.length ∧ 0 ≤ k ∧ k ≤ b.length ∧ (r.length : Int) ≤ i + k) (fun k i _ _ _ => (a.length - i.toNat) + (b.length - k.toNat)) (fun k i _ _ r => ([Is (r ++ xorL (a.drop i.toNat) (b.drop k.toNat))], [])) ?_ _ _ _ _ _ _ ⟨rfl, rfl, by omega, by omega, by omega, by omega, by simp⟩ (by omega)
    rintro k i b' a' r K ⟨rfl, rfl, h0, h1, h2, h3, h4⟩ hK
    have n1 : (i + 1).toNat = i.toNat + 1 := by omega
    have n2 : (k + 1).toNat = k.toNat + 1 := by omega
    have e1 : (r ++ [a'.getD i.toNat 0]).length = r.length + 1 := by simp
    have e2 : (r ++ [b'.getD k.toNat 0]).length = r.length + 1 := by simp
    unfold spec_l2Xor_T4
    simp only [Bool.cond_eq_ite, decide_eq_true_eq]
    by_cases hi : i < a'.length <;> by_cases hk : k < b'.length
    · have hli : i.toNat < a'.length := by omega
      have hlk : k.toNat < b'.length := by omega
      have x1 : a'.drop i.toNat = a'.getD i.toNat 0 :: a'.drop (i.toNat + 1) := by rw [getD_lt hli]; exact List.drop_eq_getElem_cons hli
      have x2 : b'.drop k.toNat = b'.getD k.toNat 0 :: b'.drop (k.toNat + 1) := by rw [getD_lt hlk]; exact List.drop_eq_getElem_cons hlk
      rw [if_pos hi, if_neg (by omega), if_pos hi, if_pos h0, if_pos hi, if_pos h2, if_pos hk]
      by_cases hlt : a'.getD i.toNat 0 < b'.getD k.toNat 0
      · rw [if_pos hlt, if_pos h0, if_pos hi, if_pos (by omega), w64i h0 (by omega)]
        refine (hK _ _ _ _ _ ⟨rfl, rfl, by omega, by omega, h2, h3, by rw [e1]; omega⟩ (by omega)).trans ?_
        rw [n1, x1, x2, xorL_cons, if_pos hlt, List.append_assoc]; rfl
      · rw [if_neg hlt, if_neg (by omega), if_pos h2, if_pos hk, if_pos h0, if_pos hi]
        by_cases hgt : b'.getD k.toNat 0 < a'.getD i.toNat 0
        · rw [if_pos hgt, if_pos h2, if_pos hk, if_pos (by omega), w64i h2 (by omega)]
          refine (hK _ _ _ _ _ ⟨rfl, rfl, h0, h1, by omega, by omega, by rw [e2]; omega⟩ (by omega)).trans ?_
          rw [n2, x1, x2, xorL_cons, if_neg hlt, if_pos hgt, List.append_assoc]; rfl
        · rw [if_neg hgt, w64i h0 (by omega), w64i h2 (by omega)]
          refine (hK _ _ _ _ _ ⟨rfl, rfl, by omega, by omega, by omega, by omega, by omega⟩ (by omega)).trans ?_
          rw [n1, n2, x1, x2, xorL_cons, if_neg hlt, if_neg hgt]
    · have hli : i.toNat < a'.length := by omega
      have x1 : a'.drop i.toNat = a'.getD i.toNat 0 :: a'.drop (i.toNat + 1) := by rw [getD_lt hli]; exact List.drop_eq_getElem_cons hli
      have x2 : b'.drop k.toNat = [] := List.drop_eq_nil_of_le (by omega)
      rw [if_pos hi, if_pos (by omega), if_pos h0, if_pos hi, if_pos (by omega), w64i h0 (by omega)]
      refine (hK _ _ _ _ _ ⟨rfl, rfl, by omega, by omega, h2, h3, by rw [e1]; omega⟩ (by omega)).trans ?_
      rw [n1, x1, x2, xorL_nil_right, xorL_nil_right, List.append_assoc]; rfl
    · have hlk : k.toNat < b'.length := by omega
      have x2 : b'.drop k.toNat = b'.getD k.toNat 0 :: b'.drop (k.toNat + 1) := by rw [getD_lt hlk]; exact List.drop_eq_getElem_cons hlk
      have x1 : a'.drop i.toNat = [] := List.drop_eq_nil_of_le (by omega)
      rw [if_neg hi, if_pos hk, if_neg (by omega), if_neg (by omega), if_pos (by omega), if_pos h2, if_pos hk, if_pos (by omega), w64i h2 (by omega)]
      refine (hK _ _ _ _ _ ⟨rfl, rfl, h0, h1, by omega, by omega, by rw [e2]; omega⟩ (by omega)).trans ?_
      rw [n2, x1, x2, xorL_nil_left, xorL_nil_left, List.append_assoc]; rfl
    · rw [if_neg hi, if_neg hk, List.drop_eq_nil_of_le (by omega), List.drop_eq_nil_of_le (by omega), xorL_nil_left, List.append_nil]
  · cases h
end Go.Proofs.Ytbolcmcjniiieaa.V
