/- What functions come to, and that they do so; conditions: those that each theorem states. -/
import Derived.Test.YthcahoeoofggjaaKeK4b
set_option linter.unusedVariables false
set_option linter.unusedSimpArgs false
namespace Go.Proofs.Ythcahoeoofggjaa.V
open Go Vx Vx.N
/-! ### Drawn solvers -/
theorem rowD_row (b : List Int) (p : Int) (n : Nat) (hn : n ≤ 24) : RowP (rowD b p n) n := by
  refine ⟨by omega, by omega, ?_, fun x hx => ?_⟩
  · unfold rowD
    rw [List.pairwise_map]
    exact ((List.pairwise_lt_range (n := n)).filter _).imp fun h => by omega
  · obtain ⟨i, hi, rfl⟩ := List.mem_map.1 hx
    have := List.mem_range.1 (List.mem_filter.1 hi).1
    omega
theorem trOk_of {tr : List ByteArray} (h : trOk tr = true) : (1 ≤ tr.length ∧ tr.length ≤ 24 ∧ 1 ≤ (tr.getD 0 ⟨#[]⟩).size ∧ (tr.getD 0 ⟨#[]⟩).size ≤ 16) ∧ ∀ x ∈ tr, x.size = (tr.getD 0 ⟨#[]⟩).size := by
  simp only [trOk, Bool.and_eq_true, decide_eq_true_eq, List.all_eq_true] at h
  exact h
theorem sumB_size {bl : List ByteArray} {z : Nat} (hb : ∀ b ∈ bl, b.size = z) : ∀ (row : List Int) (a : ByteArray), (∀ x ∈ row, 0 ≤ x ∧ x < bl.length) → a.size = z → (sumB bl row a).size = z := by
  intro row
  induction row with
  | nil => intro a _ ha; exact ha
  | cons x row ih =>
    intro a hr ha
    have hx := hr x List.mem_cons_self
    have hlt : x.toNat < bl.length := by omega
    have hs := hb _ (List.getElem_mem hlt)
    rw [← getD_lt hlt ⟨#[]⟩] at hs
    exact ih (xorB a (bl.getD x.toNat ⟨#[]⟩)) (fun y hy => hr y (List.mem_cons_of_mem _ hy)) (by rw [xorB_size _ _ (by omega)]; exact ha)
theorem solvL_ok (b : List Int) {tr : List ByteArray} (h : trOk tr = true) : ∀ (n : Nat) (p : Int) (es : List Eqn), SolverP tr.length (tr.getD 0 ⟨#[]⟩).size es → SolverP tr.length (tr.getD 0 ⟨#[]⟩).size (solvL b tr tr.length (tr.getD 0 ⟨#[]⟩).size n p es) := by
  obtain ⟨⟨l1, l2, z1, z2⟩, hs⟩ := trOk_of h
  intro n
  induction n with
  | zero => exact fun p es hS => hS
  | succ n ih =>
    intro p es hS
    have hr := rowD_row b p tr.length l2
    exact ih _ _ (add_ok hS hr (by rw [sumB_size hs _ _ (fun x hx => ⟨(hr.2.2.2 x hx).1, (hr.2.2.2 x hx).2⟩) (zerosB_size _)]))
theorem solvD_ok (b : List Int) (p : Int) {tr : List ByteArray} (h : trOk tr = true) : SolverP tr.length (tr.getD 0 ⟨#[]⟩).size (solvD b p tr) := by
  obtain ⟨⟨l1, l2, z1, z2⟩, hs⟩ := trOk_of h
  exact solvL_ok b h _ _ _ (solver_nil ⟨by omega, by omega⟩ ⟨by omega, by omega⟩)
theorem solvP_in {b : List Int} {p : Int} {tr : List ByteArray} (h : rdOk b p = true) (ht : trOk tr = true) : p + 1 ≤ solvP b p tr ∧ solvP b p tr ≤ p + 300 := by
  have hp := (pick_eq (n := 12) h).2
  have h1 := hp.1
  have h2 := hp.2.1 (by omega)
  have hl := (trOk_of ht).1
  have a1 : pickV b p 12 * tr.length ≤ 12 * 24 := Int.mul_le_mul (by omega) (by omega) (by omega) (by omega)
  have a2 : 0 ≤ pickV b p 12 * tr.length := Int.mul_nonneg h1 (by omega)
  unfold solvP
  omega
end Go.Proofs.Ythcahoeoofggjaa.V
