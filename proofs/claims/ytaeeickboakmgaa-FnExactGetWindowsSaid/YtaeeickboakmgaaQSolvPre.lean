/- Plain facts about lists and numbers that the claim's proof uses. Conditions: those that each theorem states. -/
import Derived.Test.YtaeeickboakmgaaXx31
import Derived.Test.YtaeeickboakmgaaXx33
import Derived.Test.YtaeeickboakmgaaXx35
import Derived.Test.YtaeeickboakmgaaXx37
import Derived.Test.YtaeeickboakmgaaQSolvGet
set_option linter.unusedVariables false
set_option linter.unusedSimpArgs false
namespace Go.Proofs.Ytaeeickboakmgaa.X
open Go.RowKit Go.Proofs.YtaeeickboakmgaaW.PrintWords Go.Proofs.YtaeeickboakmgaaW.PrintLast Go.Proofs.YtaeeickboakmgaaW.PrintMore

theorem solver_lt {c z : Int} {es : List EqE} (h : SolverP c z es) {x : Int} (hx : (getE es x).2 = true) : 0 ≤ x ∧ x < c := by
  obtain ⟨i, h1, h2⟩ := (getE_iff es x).1 hx
  exact (h.2.2.1 i (Nat.zero_le _) h1).1.2.2.2 x (by rw [h2]; exact List.mem_cons_self)
theorem prefix_from (c z : Int) (es : List EqE) (h : SolverP c z es) (hl : es.length < 1073741824) (d : Nat) : ∀ (k n : Nat), (n : Int) + d = c → es.length + d + 1 < k →
    ∃ r : Nat, spec_l3Prefix.l0 k n c z es = some (r : Int) ∧ impl_Solver_prefix.l0 k n c z es = some (r : Int) ∧ n ≤ r ∧ (r : Int) ≤ c ∧ (∀ j : Nat, n ≤ j → j < r → (getE es j).2 = true) ∧ ((r : Int) = c ∨ (getE es r).2 = false) := by
  have hc := h.1
  induction d with
  | zero =>
    intro k n hd hk
    obtain ⟨k, rfl, _⟩ := pos_of (show 0 < k by omega)
    have no : (getE es n).2 = false := by
      cases h2 : (getE es n).2 with
      | false => rfl
      | true => have := solver_lt h h2; omega
    refine ⟨n, ?_, ?_, Nat.le_refl _, by omega, fun j h1 h2 => by omega, .inl (by omega)⟩
    · simp only [spec_l3Prefix.l0]
      rw [spec_l3Get.eq c z n es hl k (by omega), Option.bind_some, no]
      rfl
    · simp only [impl_Solver_prefix.l0]
      rw [if_neg (by omega)]
  | succ d ih =>
    intro k n hd hk
    obtain ⟨k, rfl, _⟩ := pos_of (show 0 < k by omega)
    simp only [spec_l3Prefix.l0, impl_Solver_prefix.l0]
    rw [if_pos (by omega), spec_l3Get.eq c z n es hl k (by omega), impl_Solver_get.eq c z n es hl k (by omega), Option.bind_some, w64n (by omega)]
    cases h2 : (getE es n).2 with
    | false =>
      refine ⟨n, ?_, ?_, Nat.le_refl _, by omega, fun j h1 h2 => by omega, .inr h2⟩
      · rfl
      · simp only [Option.bind_some, h2]
        rfl
    | true =>
      simp only [Option.bind_some, h2, if_true]
      obtain ⟨r, e1, e2, h3, h4, h5, h6⟩ := ih k (n + 1) (by omega) (by omega)
      refine ⟨r, e1, e2, by omega, h4, fun j h7 h8 => ?_, h6⟩
      rcases Nat.eq_or_lt_of_le h7 with rfl | h9
      · exact h2
      · exact h5 j h9 h8
/-- The number of blocks at the beginning that are known. -/
theorem prefix_ok (c z : Int) (es : List EqE) (h : SolverP c z es) (hl : es.length < 1073741824) (k : Nat) (hk : es.length + 26 < k) :
    ∃ r : Nat, spec_l3Prefix.f k c z es = some (r : Int) ∧ impl_Solver_prefix.f k c z es = some (r : Int) ∧ (r : Int) ≤ c ∧ (∀ j : Nat, j < r → (getE es j).2 = true) ∧ ((r : Int) = c ∨ (getE es r).2 = false) := by
  have hc := h.1
  obtain ⟨r, e1, e2, _, h4, h5, h6⟩ := prefix_from c z es h hl c.toNat k 0 (by omega) (by omega)
  exact ⟨r, e1, e2, h4, fun j hj => h5 j (Nat.zero_le _) hj, h6⟩
/-! A solver with as many equations as blocks knows them all. -/
theorem piv_ge {c z : Int} {es : List EqE} (h : SolverP c z es) (i : Nat) (hi : i < es.length) : (i : Int) ≤ piv (es.getD i zE) := by
  induction i with
  | zero => exact (piv_in (h.2.2.1 0 (Nat.zero_le _) hi)).1
  | succ i ih =>
    have h1 := ih (by omega)
    have h2 := (h.2.2.1 (i + 1) (Nat.zero_le _) hi).2.2.2 (by omega)
    rw [Nat.add_sub_cancel] at h2
    omega
theorem rank_le {c z : Int} {es : List EqE} (h : SolverP c z es) : (es.length : Int) ≤ c := by
  rcases Nat.eq_zero_or_pos es.length with h0 | h0
  · have := h.1; omega
  · have h1 := piv_ge h (es.length - 1) (by omega)
    have h2 := (piv_in (h.2.2.1 (es.length - 1) (Nat.zero_le _) (by omega))).2
    omega
theorem piv_gap {c z : Int} {es : List EqE} (h : SolverP c z es) (i d : Nat) (hd : i + d < es.length) : piv (es.getD i zE) + d ≤ piv (es.getD (i + d) zE) := by
  induction d with
  | zero => exact Int.le_of_eq (by simp)
  | succ d ih =>
    have h1 := ih (by omega)
    have h2 := (h.2.2.1 (i + (d + 1)) (Nat.zero_le _) hd).2.2.2 (by omega)
    rw [show i + (d + 1) - 1 = i + d by omega] at h2
    omega
theorem full_known {c z : Int} {es : List EqE} (h : SolverP c z es) (hf : (es.length : Int) = c) (j : Nat) (hj : j < es.length) : (getE es j).2 = true := by
  have hp : ∀ i, i < es.length → piv (es.getD i zE) = i := fun i hi => by
    have h1 := piv_ge h i hi
    have h2 := piv_gap h i (es.length - 1 - i) (by omega)
    have h3 := (piv_in (h.2.2.1 (i + (es.length - 1 - i)) (Nat.zero_le _) (by omega))).2
    omega
  refine (getE_iff es j).2 ⟨j, hj, ?_⟩
  have hE := h.2.2.1 j (Nat.zero_le _) hj
  rw [piv_cons hE.2.1, hp j hj]
  congr 1
  refine List.eq_nil_iff_forall_not_mem.2 fun x hx => ?_
  have ht := tail_in hE x hx
  have hm : x ∈ (es.getD j zE).f0 := by
    rw [piv_cons hE.2.1]
    exact List.mem_cons_of_mem _ hx
  have hxn : x.toNat < es.length := by omega
  rw [hp j hj] at ht
  refine h.2.2.2 x.toNat j hxn hj (by omega) ?_
  rw [hp _ hxn, Int.toNat_of_nonneg ht.1.1]
  exact hm
theorem known_full {c z : Int} {es : List EqE} (h : SolverP c z es) (hk : ∀ j : Nat, (j : Int) < c → (getE es j).2 = true) : (es.length : Int) = c := by
  have hc := h.1
  have key : ∀ j : Nat, (j : Int) < c → ∀ i, i < es.length → (es.getD i zE).f0 = [(j : Int)] → j ≤ i := by
    intro j
    induction j with
    | zero => exact fun _ i _ _ => Nat.zero_le _
    | succ j ih =>
      intro hj i hi he
      obtain ⟨i2, h2, h3⟩ := (getE_iff es j).1 (hk j (by omega))
      have h4 := ih (by omega) i2 h2 h3
      have p1 : piv (es.getD i zE) = ((j + 1 : Nat) : Int) := by unfold piv; rw [he]; rfl
      have p2 : piv (es.getD i2 zE) = (j : Int) := by unfold piv; rw [h3]; rfl
      rcases Nat.lt_or_ge i2 i with h5 | h5
      · omega
      · rcases Nat.eq_or_lt_of_le h5 with h6 | h6
        · rw [h6] at p1; omega
        · have := piv_mono h.2.2.1 i (i2 - i - 1) (by omega)
          rw [show i + (i2 - i - 1) + 1 = i2 by omega] at this
          omega
  have h1 := rank_le h
  obtain ⟨i, h2, h3⟩ := (getE_iff es ((c - 1).toNat : Nat)).1 (hk (c - 1).toNat (by omega))
  have h4 := key (c - 1).toNat (by omega) i h2 h3
  omega

end Go.Proofs.Ytaeeickboakmgaa.X
