/- What functions come to, and that they do so; conditions: those that each theorem states. -/
import Derived.Test.YtbgheffgkncpgaaDoorSqG
set_option linter.unusedVariables false
set_option linter.unusedSimpArgs false
namespace Go.Proofs.YtbgheffgkncpgaaDoor.V
open Go Vx Vx.N
/-! ### Small things -/
theorem toNat_succ {i : Int} (h : 0 ≤ i) : (i + 1).toNat = i.toNat + 1 := by omega
theorem list_eq_at {α : Type} [DecidableEq α] (a b : List α) (z : α) (hl : a.length = b.length) (i : Nat) (h : i < a.length) : decide (a.drop i = b.drop i) = if a.getD i z = b.getD i z then decide (a.drop (i + 1) = b.drop (i + 1)) else false := by
  rw [List.drop_eq_getElem_cons h, List.drop_eq_getElem_cons (show i < b.length by omega), getD_lt h, getD_lt (show i < b.length by omega)]
  by_cases c : a[i] = b[i]
  · rw [if_pos c]
    exact decide_eq_decide.2 ⟨fun h => (List.cons.inj h).2, fun h => by rw [c, h]⟩
  · rw [if_neg c, decide_eq_false fun h => c (List.cons.inj h).1]
theorem ba_toList_eq {a b : ByteArray} : (a.toList == b.toList) = decide (a = b) := by
  rw [Bool.eq_iff_iff, beq_iff_eq, decide_eq_true_iff]
  constructor
  · intro h
    apply ByteArray.ext
    apply Array.toList_inj.1
    rw [← Go.ByteArray.toList_eq, ← Go.ByteArray.toList_eq]
    exact h
  · rintro rfl; rfl

theorem set_copy {α : Type} (a : List α) (z : α) (i : Nat) (h : i < a.length) : (a.take i ++ List.replicate (a.length - i) z).set i (a.getD i z) = a.take (i + 1) ++ List.replicate (a.length - (i + 1)) z := by
  have e : a.length - i = (a.length - (i + 1)) + 1 := by omega
  have l1 : (a.take i).length = i := by rw [List.length_take]; omega
  rw [e, List.replicate_succ, List.set_append_right _ _ (by omega), l1, Nat.sub_self, List.set_cons_zero, List.take_succ_eq_append_getElem h, List.append_assoc, getD_lt h]
  rfl
end Go.Proofs.YtbgheffgkncpgaaDoor.V
namespace Go.Proofs.YtbgheffgkncpgaaDoor.V
open Go Vx Vx.N
/-! ### Small functions -/
def inB (n lo hi : Int) : Bool := decide (lo ≤ n ∧ n ≤ hi)
theorem inB_of {n lo hi : Int} : inB n lo hi = true ↔ lo ≤ n ∧ n ≤ hi := by simp [inB]
noncomputable def S_impl_within : List DA → Option Sp
  | [.c (.sc (.int .i64 n)), .c (.sc (.int .i64 a)), .c (.sc (.int .i64 b))] => some ⟨true, [B (inB n a b)], [], .fresh⟩
  | _ => none
theorem K_impl_within : Sound1 Tryd.prog EKs F_impl_within.f S_impl_within := snd ok_impl_within [] (tabF_nil _ _) fun args sp h hp => by
  unfold S_impl_within at h
  split at h
  · cases h
    refine ⟨rfl, 0, (impl_within_run 0 _ _ _).trans ?_⟩
    unfold impl_within_T inB
    rename_i n a b
    by_cases h1 : a ≤ n <;> by_cases h2 : n ≤ b <;> simp [h1, h2]
  · cases h
noncomputable def S_spec_l1In : List DA → Option Sp := S_impl_within
theorem K_spec_l1In : Sound1 Tryd.prog EKs F_spec_l1In.f S_spec_l1In := snd ok_spec_l1In [] (tabF_nil _ _) fun args sp h hp => by
  unfold S_spec_l1In S_impl_within at h
  split at h
  · cases h
    refine ⟨rfl, 0, (spec_l1In_run 0 _ _ _).trans ?_⟩
    unfold spec_l1In_T inB
    rename_i n a b
    by_cases h1 : a ≤ n <;> by_cases h2 : n ≤ b <;> simp [h1, h2]
  · cases h
/-! blocks -/
noncomputable def S_spec_l2Block : List DA → Option Sp
  | [.c (.sc (.string a)), .c (.sc (.string b))] => some ⟨decide (a.size ≤ b.size ∧ a.size < 1000000000), [T (xorB a b)], [], .fresh⟩
  | _ => none
noncomputable def S_impl_zeros : List DA → Option Sp
  | [.c (.sc (.int .i64 n))] => some ⟨decide (0 ≤ n ∧ n < 1000000000), [T (zerosB n.toNat)], [], .fresh⟩
  | _ => none
/-! rows as bits -/
theorem mem_up (m n : Nat) (h : n < 24) : ((List.range (n + 1)).filter fun j => m.testBit j).map (fun j : Nat => (j : Int)) = ((List.range n).filter fun j => m.testBit j).map (fun j : Nat => (j : Int)) ++ (if m.testBit n then [(n : Int)] else []) := by
  rw [List.range_succ, List.filter_append, List.map_append]
  congr 1
  cases hb : m.testBit n <;> simp [hb]
noncomputable def S_impl_rowOf : List DA → Option Sp
  | [.c (.sc (.int .u32 m))] => some ⟨decide (0 ≤ m ∧ m < 4294967296), [Is (rowN m.toNat)], [], .mix [.own]⟩
  | _ => none
noncomputable def S_impl_mask : List DA → Option Sp
  | [.c (.row (.ints .i64 l))] => some ⟨decide (l.length < 1000000000) && l.all fun x => decide (0 ≤ x ∧ x < 32), [U (maskN l : Nat)], [], .fresh⟩
  | _ => none
theorem maskFrom_step (m : Nat) (l : List Int) (i : Nat) (h : i < l.length) : maskFrom m (l.drop i) = maskFrom (m ||| 2 ^ l[i].toNat) (l.drop (i + 1)) := by
  rw [List.drop_eq_getElem_cons h]; rfl
noncomputable def S_spec_l3Has : List DA → Option Sp
  | [.c (.row (.ints .i64 l)), .c (.sc (.int .i64 n))] => some ⟨decide (l.length < 1000000000), [B (decide (n ∈ l))], [], .fresh⟩
  | _ => none
noncomputable def S_spec_l2Xor : List DA → Option Sp
  | [.c (.row (.ints .i64 a)), .c (.row (.ints .i64 b))] => some ⟨decide (a.length + b.length < 1000000000), [Is (xorL a b)], [], .mix [.own]⟩
  | _ => none
end Go.Proofs.YtbgheffgkncpgaaDoor.V
