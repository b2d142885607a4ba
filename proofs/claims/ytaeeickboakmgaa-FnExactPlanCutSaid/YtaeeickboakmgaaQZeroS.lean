/- Plain facts about lists and numbers that the claim's proof uses. Conditions: those that each theorem states. -/
import Derived.Test.YtaeeickboakmgaaXx18
import Derived.Test.YtaeeickboakmgaaQM
set_option linter.unusedVariables false
set_option linter.unusedSimpArgs false
namespace Go.Proofs.Ytaeeickboakmgaa.X
open Go.RowKit Go.Proofs.YtaeeickboakmgaaW.PrintWords Go.Proofs.YtaeeickboakmgaaW.PrintLast Go.Proofs.YtaeeickboakmgaaW.PrintMore

/-- n bytes that are 0. -/
def zerosB (n : Nat) : ByteArray := strOfNums (List.replicate n 0)
theorem zerosB_size (n : Nat) : (zerosB n).size = n := by
  unfold zerosB
  rw [strOfNums_size, List.length_replicate]
theorem zerosB_add (m n : Nat) : zerosB m ++ zerosB n = zerosB (m + n) := by
  apply ByteArray.ext
  apply Array.toList_inj.1
  rw [ByteArray.data_append, Array.toList_append]
  unfold zerosB
  rw [strOfNums_data, strOfNums_data, strOfNums_data, ← List.map_append, List.replicate_append_replicate]
theorem spec_l1Many.from_ (n : Nat) : ∀ (k p q : Nat), n < k → n ≤ 4000 → p * n ≤ 4000 → p ≤ 4000 → q ≤ 100000 → q + n * p ≤ 100000 → spec_l1Many.l0 k (zerosB p) n (zerosB q) = some (zerosB (q + n * p)) := by
  induction n using Nat.strongRecOn with
  | ind n ih =>
    intro k p q hk hn hpn hp hq hqn
    obtain ⟨k, rfl, _⟩ := pos_of (show 0 < k by omega)
    simp only [spec_l1Many.l0]
    by_cases h0 : n = 0
    · subst h0
      rw [if_neg (by omega), Nat.zero_mul, Nat.add_zero]
    · have hm : Int.tmod (n : Int) 2 = ((n % 2 : Nat) : Int) := by
        rw [Int.tmod_eq_emod_of_nonneg (by omega)]
        omega
      have hd : wrap64 (Int.tdiv (n : Int) 2) = ((n / 2 : Nat) : Int) := by
        rw [Int.tdiv_eq_ediv_of_nonneg (by omega), w64 (by omega) (by omega)]
        omega
      have e2 : n = 2 * (n / 2) + n % 2 := by omega
      have e3 : n * p = n / 2 * (p + p) + n % 2 * p := by
        calc n * p = (2 * (n / 2) + n % 2) * p := by rw [← e2]
          _ = n / 2 * (p + p) + n % 2 * p := by rw [Nat.add_mul, ← Nat.two_mul, ← Nat.mul_assoc, Nat.mul_comm (n / 2) 2]
      have e4 : (p + p) * (n / 2) ≤ 4000 := by
        rw [Nat.mul_comm]
        rw [Nat.mul_comm] at hpn
        omega
      rw [if_pos (by omega), hm, hd, zerosB_add, zerosB_add, zerosB_size, zerosB_size]
      have hp2 : n / 2 = 0 ∨ p + p ≤ 4000 := by
        rcases Nat.eq_zero_or_pos (n / 2) with h | h
        · exact .inl h
        · refine .inr (Nat.le_trans ?_ e4)
          exact Nat.le_mul_of_pos_right _ h
      have fin : ∀ q', q' ≤ 100000 → q' + n / 2 * (p + p) ≤ 100000 → spec_l1Many.l0 k (zerosB (p + p)) ((n / 2 : Nat) : Int) (zerosB q') = some (zerosB (q' + n / 2 * (p + p))) := by
        intro q' h1 h2
        rcases hp2 with h | h
        · rw [h, Nat.zero_mul, Nat.add_zero]
          obtain ⟨k, rfl, _⟩ := pos_of (show 0 < k by omega)
          simp only [spec_l1Many.l0]
          rw [if_neg (by omega)]
        · exact ih (n / 2) (by omega) k (p + p) q' (by omega) (by omega) e4 h h1 h2
      rcases Nat.mod_two_eq_zero_or_one n with h | h
      · rw [h] at e3
        rw [h, if_neg (by omega), if_pos (by omega), fin q (by omega) (by omega)]
        congr 2
        omega
      · rw [h] at e3
        rw [h, if_pos (by omega), if_pos (by omega), if_pos (by omega), fin (q + p) (by omega) (by omega)]
        congr 2
        omega
theorem spec_l1Many.zero (n : Int) (h0 : 0 ≤ n) (h1 : n ≤ 1000) (k : Nat) (hk : n.toNat < k) : spec_l1Many.f k (strOfNums (([0] : List Int))) n = some (zerosB n.toNat) := by
  unfold spec_l1Many.f
  have := spec_l1Many.from_ n.toNat k 1 0 hk (by omega) (by omega) (by omega) (by omega) (by omega)
  rw [Int.toNat_of_nonneg h0, Nat.mul_one, Nat.zero_add] at this
  exact this
theorem impl_zeros.eq (n : Int) (h0 : 0 ≤ n) (h1 : n ≤ 1000) : impl_zeros.f n = some (zerosB n.toNat) := by
  unfold impl_zeros.f
  rw [if_pos h0, if_pos (by omega)]
  rfl

end Go.Proofs.Ytaeeickboakmgaa.X
