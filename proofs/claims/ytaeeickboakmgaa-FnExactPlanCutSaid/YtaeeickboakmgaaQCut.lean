/- Plain facts about lists and numbers that the claim's proof uses. Conditions: those that each theorem states. -/
import Derived.Test.YtaeeickboakmgaaXx15
import Derived.Test.YtaeeickboakmgaaXx18
import Derived.Test.YtaeeickboakmgaaQPlan
import Derived.Test.YtaeeickboakmgaaQZeroS
set_option linter.unusedVariables false
set_option linter.unusedSimpArgs false
namespace Go.Proofs.Ytaeeickboakmgaa.X
open Go.RowKit Go.Proofs.YtaeeickboakmgaaW.PrintWords Go.Proofs.YtaeeickboakmgaaW.PrintLast Go.Proofs.YtaeeickboakmgaaW.PrintMore

/-- The text in pieces of S bytes. -/
def pieces (t : ByteArray) (S : Nat) (i : Nat) : List ByteArray := (List.range i).map fun j => t.extract (j * S) ((j + 1) * S)
theorem pieces_succ (t : ByteArray) (S i : Nat) : pieces t S (i + 1) = pieces t S i ++ [t.extract (i * S) ((i + 1) * S)] := by
  unfold pieces
  rw [List.range_succ, List.map_append]
  rfl
theorem pieces_length (t : ByteArray) (S i : Nat) : (pieces t S i).length = i := by simp [pieces]
theorem cnt_bounds {L S : Int} (hL : 1 ≤ L ∧ L ≤ 300) (hS : 1 ≤ S ∧ S ≤ 16) : L ≤ cntP L S * S ∧ cntP L S * S < L + S := by
  unfold cntP
  have h1 := Int.mul_ediv_add_emod (L + S - 1) S
  have h2 := Int.emod_nonneg (L + S - 1) (show S ≠ 0 by omega)
  have h3 := Int.emod_lt_of_pos (L + S - 1) (show 0 < S by omega)
  rw [Int.mul_comm] at h1
  omega
theorem w64mul (a b : Nat) (h : a * b ≤ 1000000) : wrap64 ((a : Int) * (b : Int)) = ((a * b : Nat) : Int) := by
  rw [← Int.natCast_mul]
  generalize a * b = n at h ⊢
  exact w64 (by omega) (by omega)
theorem w64add (a b c : Nat) (h : a + b = c) (hc : c ≤ 1000000) : wrap64 ((a : Int) + (b : Int)) = (c : Int) := by
  subst h
  rw [← Int.natCast_add]
  generalize a + b = n at hc ⊢
  exact w64 (by omega) (by omega)
theorem spec_l5Cut.from_ (L : Int) (S : Nat) (ws gs : List Int) (hL : 1 ≤ L ∧ L ≤ 300) (hS : 1 ≤ (S : Int) ∧ (S : Int) ≤ 16) (c : Nat) (hc : (c : Int) = cntP L S) (hc2 : c ≤ 24) (t : ByteArray) (ht : t.size = c * S) (d : Nat) : ∀ (k i : Nat), c - i = d → i ≤ c → d < k →
    spec_l5Cut.l0 k t (pieces t S i) i L S ws gs = some (pieces t S c) := by
  induction d with
  | zero =>
    intro k i hd hi hk
    obtain ⟨k, rfl, _⟩ := pos_of hk
    simp only [spec_l5Cut.l0]
    rw [spec_l5Count.eq L S ws gs hL hS, Option.bind_some, if_neg (by omega), show i = c by omega]
  | succ d ih =>
    intro k i hd hi hk
    obtain ⟨k, rfl, hk'⟩ := pos_of hk
    have h1 : i * S ≤ 24 * 16 := Nat.mul_le_mul (by omega) (by omega)
    have h2 : (i + 1) * S ≤ c * S := Nat.mul_le_mul_right _ (by omega)
    have h3 : (i + 1) * S ≤ 24 * 16 := Nat.mul_le_mul (by omega) (by omega)
    have h4 : i * S ≤ (i + 1) * S := Nat.mul_le_mul_right _ (by omega)
    have e1 : wrap64 ((i : Int) * (S : Int)) = ((i * S : Nat) : Int) := w64mul i S (Nat.le_trans h1 (by decide))
    have e2 : wrap64 (((i + 1 : Nat) : Int) * (S : Int)) = (((i + 1) * S : Nat) : Int) := w64mul (i + 1) S (Nat.le_trans h3 (by decide))
    have h6 : ((i * S : Nat) : Int) ≤ (((i + 1) * S : Nat) : Int) := Int.ofNat_le.2 h4
    have h7 : (((i + 1) * S : Nat) : Int) ≤ ((t.size : Nat) : Int) := Int.ofNat_le.2 (by rw [ht]; exact h2)
    simp only [spec_l5Cut.l0]
    rw [spec_l5Count.eq L S ws gs hL hS, Option.bind_some, if_pos (by omega), w64n (by omega), e1, e2, if_pos (Int.natCast_nonneg _), if_pos h6, if_pos h7, if_pos (by rw [pieces_length]; omega), Int.toNat_natCast, Int.toNat_natCast, ← pieces_succ]
    exact ih k (i + 1) (by omega) (by omega) (by omega)
theorem impl_PlanCut.from_ (L : Int) (S : Nat) (ws gs : List Int) (hS : 1 ≤ (S : Int) ∧ (S : Int) ≤ 16) (c : Nat) (hc2 : c ≤ 24) (t : ByteArray) (ht : t.size = c * S) (d : Nat) : ∀ (k i : Nat), c - i = d → i ≤ c → d < k →
    impl_PlanCut.l0 k t (pieces t S i) ((i * S : Nat) : Int) L S ws gs = some (pieces t S c) := by
  induction d with
  | zero =>
    intro k i hd hi hk
    obtain ⟨k, rfl, _⟩ := pos_of hk
    have e : i = c := by omega
    subst e
    simp only [impl_PlanCut.l0]
    rw [if_neg (by rw [ht]; exact Int.lt_irrefl _)]
  | succ d ih =>
    intro k i hd hi hk
    obtain ⟨k, rfl, hk'⟩ := pos_of hk
    have hS0 : 0 < S := by omega
    have a1 : i < 8796093022208 := by omega
    have a2 : c - (i + 1) = d := by omega
    have a3 : i + 1 ≤ c := by omega
    have a4 : d < k := by omega
    have h1 : i * S ≤ 24 * 16 := Nat.mul_le_mul (by omega) (by omega)
    have h2 : (i + 1) * S ≤ c * S := Nat.mul_le_mul_right _ (by omega)
    have h3 : (i + 1) * S ≤ 24 * 16 := Nat.mul_le_mul (by omega) (by omega)
    have h5 : (i + 1) * S = i * S + S := by rw [Nat.add_mul, Nat.one_mul]
    have e2 : wrap64 (((i * S : Nat) : Int) + (S : Int)) = (((i + 1) * S : Nat) : Int) := w64add (i * S) S ((i + 1) * S) h5.symm (Nat.le_trans h3 (by decide))
    have h6 : ((i * S : Nat) : Int) ≤ (((i + 1) * S : Nat) : Int) := Int.ofNat_le.2 (by rw [h5]; exact Nat.le_add_right _ _)
    have h7 : (((i + 1) * S : Nat) : Int) ≤ ((t.size : Nat) : Int) := Int.ofNat_le.2 (by rw [ht]; exact h2)
    have h8n : i * S < (i + 1) * S := Nat.mul_lt_mul_of_pos_right (Nat.lt_succ_self i) hS0
    have h8 : ((i * S : Nat) : Int) < ((t.size : Nat) : Int) := Int.ofNat_lt.2 (Nat.lt_of_lt_of_le h8n (Int.ofNat_le.1 h7))
    simp only [impl_PlanCut.l0]
    rw [e2, if_pos h8, if_pos (Int.natCast_nonneg _), if_pos h6, if_pos h7, if_pos (by rw [pieces_length]; exact a1), Int.toNat_natCast, Int.toNat_natCast, ← pieces_succ]
    exact ih k (i + 1) a2 a3 a4

end Go.Proofs.Ytaeeickboakmgaa.X
