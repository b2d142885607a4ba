/- Plain facts about lists and numbers that the claim's proof uses. Conditions: those that each theorem states. -/
import Derived.Test.YtbgheffgkncpgaaXx9
import Derived.Test.YtbgheffgkncpgaaXx16
import Derived.Test.YtbgheffgkncpgaaXx17
import Derived.Test.YtbgheffgkncpgaaXx23
import Derived.Test.YtbgheffgkncpgaaQRows
import Derived.Test.YtbgheffgkncpgaaQRowOk
import Derived.Test.YtbgheffgkncpgaaQMask
set_option linter.unusedVariables false
set_option linter.unusedSimpArgs false
namespace Go.Proofs.Ytbgheffgkncpgaa.X
open Go.RowKit Go.Proofs.YtbgheffgkncpgaaW.PrintWords Go.Proofs.YtbgheffgkncpgaaW.PrintLast Go.Proofs.YtbgheffgkncpgaaW.PrintMore

theorem impl_rowOf.from_ (m : Nat) (hm : m < 2 ^ 32) (d : Nat) : ∀ (k i : Nat) (x : List Int), 24 - i = d → i ≤ 24 → d < k → x.length ≤ i →
    impl_rowOf.l0 k (m : Int) x i = some (x ++ ((List.range' i (24 - i)).filter fun j => m.testBit j).map fun j : Nat => (j : Int)) := by
  induction d with
  | zero =>
    intro k i x hd hi hk hx
    obtain ⟨k, rfl, _⟩ := pos_of hk
    simp only [impl_rowOf.l0]
    rw [if_neg (by omega), hd]
    simp
  | succ d ih =>
    intro k i x hd hi hk hx
    obtain ⟨k, rfl, hk'⟩ := pos_of hk
    simp only [impl_rowOf.l0]
    rw [if_pos (by omega), if_pos (by omega), w64n (by omega), show 24 - i = (24 - (i + 1)) + 1 by omega, List.range'_succ]
    have hb := bit32 m hm (i : Int) (by omega) (by omega)
    rw [Int.toNat_natCast] at hb
    by_cases h : m.testBit i = true
    · rw [if_pos (hb.2 h), if_pos (by omega), ih k (i + 1) _ (by omega) (by omega) (by omega) (by simp; omega)]
      simp [List.filter_cons, h]
    · rw [if_neg (fun h' => h (hb.1 h')), ih k (i + 1) _ (by omega) (by omega) (by omega) (by omega)]
      simp [List.filter_cons, h]
theorem impl_rowOf.eq (m : Nat) (hm : m < 2 ^ 32) (k : Nat) (hk : 24 < k) : impl_rowOf.f k (m : Int) = some (rowN m) := by
  unfold impl_rowOf.f
  have := impl_rowOf.from_ m hm 24 k 0 [] (by omega) (by omega) hk (by simp)
  refine Eq.trans this ?_
  rw [List.nil_append, rowN, List.range_eq_range']
theorem impl_RowXor.eq (a b : List Int) (hla : a.length < 9223372036854775807) (hlb : b.length < 9223372036854775807) (k : Nat) (hk : a.length + b.length + 26 < k) :
    impl_RowXor.f k a b = some (if RowP a 24 ∧ RowP b 24 then xorL a b else []) := by
  obtain ⟨k, rfl, _⟩ := pos_of hk
  unfold impl_RowXor.f
  rw [impl_RowOk.eq a 24 hla _ (by omega), Option.bind_some]
  by_cases h1 : RowP a 24
  · rw [if_pos (by simpa using h1), impl_RowOk.eq b 24 hlb _ (by omega), Option.bind_some]
    simp only [impl_RowXor.j0]
    by_cases h2 : RowP b 24
    · have ha : ∀ x ∈ a, 0 ≤ x ∧ x < 24 := h1.2.2.2
      have hb : ∀ x ∈ b, 0 ≤ x ∧ x < 24 := h2.2.2.2
      rw [if_neg (by simpa using h2), if_pos ⟨h1, h2⟩, impl_mask.eq a (fun x hx => ⟨(ha x hx).1, by have := (ha x hx).2; omega⟩) hla _ (by omega), Option.bind_some,
        impl_mask.eq b (fun x hx => ⟨(hb x hx).1, by have := (hb x hx).2; omega⟩) hlb _ (by omega), Option.bind_some]
      have ma := maskN_lt a 24 ha
      have mb := maskN_lt b 24 hb
      rw [xor32 _ _ (by omega) (by omega), impl_rowOf.eq _ (Nat.xor_lt_two_pow (by omega) (by omega)) _ (by omega), Option.bind_some, xorL_rowN a b h1.2.2.1 h2.2.2.1 ha hb]
    · rw [if_pos (by simpa using h2), if_neg (fun h => h2 h.2)]
  · rw [if_neg (by simpa using h1), if_neg (fun h => h1 h.1)]
    simp only [impl_RowXor.j0]
    rfl
theorem spec_l2Xor.from_ (a b : List Int) (ha : a.length < 4611686018427387904) (hb : b.length < 4611686018427387904) (d : Nat) : ∀ (k i j : Nat) (x : List Int), (a.length - i) + (b.length - j) = d → i ≤ a.length → j ≤ b.length → 3 * d + 1 < k → x.length + d < 17592186044416 →
    spec_l2Xor.l0 k a b x i j = some (x ++ xorL (a.drop i) (b.drop j)) := by
  induction d using Nat.strongRecOn with
  | _ d ih =>
  intro k i j x hd hi hj hk hx
  obtain ⟨k, rfl, _⟩ := pos_of hk
  obtain ⟨k, rfl, _⟩ := pos_of (show 0 < k by omega)
  simp only [spec_l2Xor.l0]
  rcases Nat.lt_or_ge i a.length with h1 | h1
  · rw [if_pos (by omega)]
    obtain ⟨k, rfl, _⟩ := pos_of (show 0 < k by omega)
    simp only [spec_l2Xor.j1, if_true]
    rcases Nat.lt_or_ge j b.length with h2 | h2
    · rw [if_neg (by omega), if_pos (by omega), if_pos (by omega), if_pos (by omega), if_pos (by omega), rd_lt h1, rd_lt h2, List.drop_eq_getElem_cons h1, List.drop_eq_getElem_cons h2, xorL_cons]
      simp only [spec_l2Xor.j2]
      by_cases h3 : a[i] < b[j]
      · rw [if_pos (by simpa using h3), if_pos (by omega), if_pos (by omega), if_pos (by omega), if_pos h3, rd_lt h1, w64n (by omega)]
        rw [ih (d - 1) (by omega) k (i + 1) j _ (by omega) (by omega) (by omega) (by omega) (by simp; omega), List.drop_eq_getElem_cons h2]
        simp
      · rw [if_neg (by simpa using h3), if_neg (by omega), if_pos (by omega), if_pos (by omega), if_pos (by omega), if_pos (by omega), rd_lt h1, rd_lt h2, if_neg h3]
        by_cases h4 : b[j] < a[i]
        · rw [if_pos h4, if_pos (by omega), if_pos h4, w64n (by omega)]
          rw [ih (d - 1) (by omega) k i (j + 1) _ (by omega) (by omega) (by omega) (by omega) (by simp; omega), List.drop_eq_getElem_cons h1]
          simp
        · rw [if_neg h4, if_neg h4, w64n (by omega), w64n (by omega)]
          rw [ih (d - 2) (by omega) k (i + 1) (j + 1) _ (by omega) (by omega) (by omega) (by omega) (by omega)]
    · rw [if_pos (by omega)]
      simp only [spec_l2Xor.j2, if_true]
      rw [if_pos (by omega), if_pos (by omega), if_pos (by omega), rd_lt h1, w64n (by omega)]
      rw [ih (d - 1) (by omega) k (i + 1) j _ (by omega) (by omega) (by omega) (by omega) (by simp; omega), List.drop_eq_nil_of_le h2, xorL_nil_right, xorL_nil_right, List.drop_eq_getElem_cons h1]
      simp
  · rw [if_neg (by omega)]
    rcases Nat.lt_or_ge j b.length with h2 | h2
    · obtain ⟨k, rfl, _⟩ := pos_of (show 0 < k by omega)
      simp only [spec_l2Xor.j1]
      rw [if_pos (by simpa using h2), if_neg (by omega), if_neg (by omega)]
      simp only [spec_l2Xor.j2]
      rw [if_neg (by simp), if_pos (by omega), if_pos (by omega), if_pos (by omega), if_pos (by omega), rd_lt h2, w64n (by omega)]
      rw [ih (d - 1) (by omega) k i (j + 1) _ (by omega) (by omega) (by omega) (by omega) (by simp; omega), List.drop_eq_nil_of_le h1, xorL_nil_left, xorL_nil_left, List.drop_eq_getElem_cons h2]
      simp
    · simp only [spec_l2Xor.j1]
      rw [if_neg (by simp; omega), List.drop_eq_nil_of_le h1, List.drop_eq_nil_of_le h2, xorL_nil_left]
      simp
theorem spec_l2Xor.eq (a b : List Int) (ha : a.length < 4611686018427) (hb : b.length < 4611686018427) (k : Nat) (hk : 3 * (a.length + b.length) + 1 < k) : spec_l2Xor.f k a b = some (xorL a b) := by
  unfold spec_l2Xor.f
  have := spec_l2Xor.from_ a b (by omega) (by omega) (a.length + b.length) k 0 0 [] (by omega) (by omega) (by omega) hk (by simp; omega)
  simpa using this

end Go.Proofs.Ytbgheffgkncpgaa.X
