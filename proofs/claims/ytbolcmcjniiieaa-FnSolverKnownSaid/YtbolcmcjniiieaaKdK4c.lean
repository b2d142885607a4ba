/- What functions come to, and that they do so; conditions: those that each theorem states. -/
import Derived.Test.YtbolcmcjniiieaaKdK4b
set_option linter.unusedVariables false
set_option linter.unusedSimpArgs false
namespace Go.Proofs.Ytbolcmcjniiieaa.V
open Go Vx Vx.N
/-! ### Drawn solvers -/
theorem rowD_row (b : List Int) (p : Int) (n : Nat) (hn : n ≤ 24) : RowP (rowD b p n) n := by
  refine ⟨by omega, by omega, ?_, fun x hx => ?_⟩
  · unfold rowD
    rw [List.pairwise_map]
    exact ((List.pairwise_lt_range (n := n)).filter _).imp fun h => by omega
  · obtain ⟨i, hi, rfl⟩ := List.mem_map.1 hx
    have := List.mem_range.1 (List.mem_filter.1 hi).1
    omega
theorem trOk_of {tr : List ByteArray} (h : trOk tr = true) : (1 ≤ tr.length ∧ tr.length ≤ 24 ∧ 1 ≤ (tr.getD 0 ⟨#[]⟩).size ∧ (tr.getD 0 ⟨#[]⟩).size ≤ 16) ∧ ∀ x ∈ tr, x.size = (tr.getD 0 ⟨#[]⟩).size := by
  simp only [trOk, Bool.and_eq_true, decide_eq_true_eq, List.all_eq_true] at h
  exact h
theorem sumB_size {bl : List ByteArray} {z : Nat} (hb : ∀ b ∈ bl, b.size = z) : ∀ (row : List Int) (a : ByteArray), (∀ x ∈ row, 0 ≤ x ∧ x < bl.length) → a.size = z → (sumB bl row a).size = z := by
  intro row
  induction row with
  | nil => intro a _ ha; exact ha
  | cons x row ih =>
    intro a hr ha
    have hx := hr x List.mem_cons_self
    have hlt : x.toNat < bl.length := by omega
    have hs := hb _ (List.getElem_mem hlt)
    rw [← getD_lt hlt ⟨#[]⟩] at hs
    exact ih (xorB a (bl.getD x.toNat ⟨#[]⟩)) (fun y hy => hr y (List.mem_cons_of_mem _ hy)) (by rw [xorB_size _ _ (by omega)]; exact ha)
theorem solvL_ok (b : List Int) {tr : List ByteArray} (h : trOk tr = true) : ∀ (n : Nat) (p : Int) (es : List Eqn), SolverP tr.length (tr.getD 0 ⟨#[]⟩).size es → SolverP tr.length (tr.getD 0 ⟨#[]⟩).size (solvL b tr tr.length (tr.getD 0 ⟨#[]⟩).size n p es) := by
  obtain ⟨⟨l1, l2, z1, z2⟩, hs⟩ := trOk_of h
  intro n
  induction n with
  | zero => exact fun p es hS => hS
  | succ n ih =>
    intro p es hS
    have hr := rowD_row b p tr.length l2
    exact ih _ _ (add_ok hS hr (by rw [sumB_size hs _ _ (fun x hx => ⟨(hr.2.2.2 x hx).1, (hr.2.2.2 x hx).2⟩) (zerosB_size _)]))
theorem solvD_ok (b : List Int) (p : Int) {tr : List ByteArray} (h : trOk tr = true) : SolverP tr.length (tr.getD 0 ⟨#[]⟩).size (solvD b p tr) := by
  obtain ⟨⟨l1, l2, z1, z2⟩, hs⟩ := trOk_of h
  exact solvL_ok b h _ _ _ (solver_nil ⟨by omega, by omega⟩ ⟨by omega, by omega⟩)
theorem solvP_in {b : List Int} {p : Int} {tr : List ByteArray} (h : rdOk b p = true) (ht : trOk tr = true) : p + 1 ≤ solvP b p tr ∧ solvP b p tr ≤ p + 300 := by
  have hp := (pick_eq (n := 12) h).2
  have h1 := hp.1
  have h2 := hp.2.1 (by omega)
  have hl := (trOk_of ht).1
  have a1 : pickV b p 12 * tr.length ≤ 12 * 24 := Int.mul_le_mul (by omega) (by omega) (by omega) (by omega)
  have a2 : 0 ≤ pickV b p 12 * tr.length := Int.mul_nonneg h1 (by omega)
  unfold solvP
  omega
theorem K_spec_l15Solver : Sound1 Try.prog EKs F_spec_l15Solver.f S_spec_l15Solver := snd ok_spec_l15Solver [(F_spec_SolverNew.f, S_spec_SolverNew), (F_spec_l1Rd_pick.f, S_spec_l1Rd_pick), (F_spec_l15Row.f, S_spec_l15Row), (F_spec_l3Add.f, S_spec_l3Add), (F_spec_l2Sum.f, S_spec_l2Sum)] (tabF_cons K_spec_SolverNew (tabF_cons K_spec_l1Rd_pick (tabF_cons K_spec_l15Row (tabF_cons K_spec_l3Add (tabF_cons K_spec_l2Sum (tabF_nil _ _)))))) fun args sp h hp => by
  unfold S_spec_l15Solver at h
  split at h
  · rename_i b p tr
    cases h
    simp only [Bool.and_eq_true, decide_eq_true_eq] at hp
    obtain ⟨h1, ht, h2⟩ := hp
    obtain ⟨⟨l1, l2, z1, z2⟩, hs⟩ := trOk_of ht
    have hpk := (pick_eq (n := 12) h1).2
    have k0 := hpk.1
    have k1 := hpk.2.1 (by omega)
    have p0 := (rdOk_of h1).1.2.1
    have hbig := solvP_in h1 ht
    refine ⟨rfl, 13, (spec_l15Solver_run _ _ _ _).trans ?_⟩
    unfold spec_l15Solver_T
    simp only [Bool.cond_eq_ite, decide_eq_true_eq]
    rw [if_pos (by omega), if_pos ⟨⟨by omega, by omega⟩, by omega, by omega⟩, if_pos h1]
    unfold solvP at hbig
    unfold solvD solvP
    generalize pickV b p 12 = n at *
    refine (fix10 (T := fun k => spec_l15Solver_T3 k) (fun m tr' c z es x y b' q r0 => tr' = tr ∧ c = tr.length ∧ z = (tr.getD 0 ⟨#[]⟩).size ∧ b' = b ∧ (0 ≤ m ∧ m ≤ n) ∧ q = p + 1 + (n - m) * tr.length ∧ SolverP c z es) (fun m _ _ _ _ _ _ _ _ _ => m.toNat) (fun m tr' c z es x y b' q r0 => ([So tr.length (tr.getD 0 ⟨#[]⟩).size (solvL b tr tr.length (tr.getD 0 ⟨#[]⟩).size m.toNat q es)], [rdC b (p + 1 + n * tr.length)])) ?_ _ _ _ _ _ _ _ _ _ _ _ ⟨rfl, rfl, rfl, rfl, ⟨k0, Int.le_refl _⟩, by rw [Int.sub_self, Int.zero_mul]; omega, solver_nil ⟨by omega, by omega⟩ ⟨by omega, by omega⟩⟩ (by omega))
    rintro m tr' c z es x y b' q r0 K ⟨rfl, rfl, rfl, rfl, ⟨q0, q1⟩, rfl, hS⟩ hK
    unfold spec_l15Solver_T3
    simp only [Bool.cond_eq_ite, decide_eq_true_eq, Bool.and_eq_true, List.all_eq_true]
    simp only [Int.toNat_natCast, Int.toNat_zero]
    have g1 : (n - m) * (tr'.length : Int) ≤ n * tr'.length := Int.mul_le_mul_of_nonneg_right (by omega) (by omega)
    have g0 : 0 ≤ (n - m) * (tr'.length : Int) := Int.mul_nonneg (by omega) (by omega)
    by_cases hm : m > 0
    · have em : m.toNat = (m - 1).toNat + 1 := by omega
      have e1 : (n - (m - 1)) * (tr'.length : Int) = (n - m) * tr'.length + tr'.length := by rw [show n - (m - 1) = (n - m) + 1 by omega, Int.add_mul, Int.one_mul]
      have hr := rowD_row b' (p + 1 + (n - m) * tr'.length) tr'.length l2
      have hrl := rowP_short hr
      have hsz := sumB_size hs _ (zerosB (tr'.getD 0 ⟨#[]⟩).size) (fun x hx => ⟨(hr.2.2.2 x hx).1, (hr.2.2.2 x hx).2⟩) (zerosB_size _)
      rw [if_pos hm, if_pos ⟨rdOk_mk h1 (by omega) (by omega), rdOk_mk h1 (by omega) (by omega), by omega, by omega⟩, if_pos (by omega),
        if_pos ⟨⟨by omega, by omega, by omega⟩, fun x hx => by rw [hs x hx], fun x hx => ⟨(hr.2.2.2 x hx).1, (hr.2.2.2 x hx).2⟩⟩,
        if_pos ⟨solvB_iff.2 hS, hr, by rw [hsz]⟩, w64 (by omega) (by omega), em]
      rw [hK _ _ _ _ _ _ _ _ _ _ ⟨rfl, rfl, rfl, rfl, ⟨by omega, by omega⟩, by rw [e1]; omega, add_ok hS hr (by rw [hsz])⟩ (by omega)]
      rfl
    · rw [if_neg hm, show m = 0 by omega, Int.sub_zero]; rfl
  · cases h
end Go.Proofs.Ytbolcmcjniiieaa.V
