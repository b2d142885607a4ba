/- Plain facts about lists and numbers that the claim's proof uses. Conditions: those that each theorem states. -/
import Derived.Test.YtaeeickboakmgaaXx4
import Derived.Test.YtaeeickboakmgaaXx5
import Derived.Test.YtaeeickboakmgaaXx8
import Derived.Test.YtaeeickboakmgaaXx9
import Derived.Test.YtaeeickboakmgaaXx11
import Derived.Test.YtaeeickboakmgaaQMask
import Derived.Test.YtaeeickboakmgaaQEqE
set_option linter.unusedVariables false
set_option linter.unusedSimpArgs false
namespace Go.Proofs.Ytaeeickboakmgaa.X
open Go.RowKit Go.Proofs.YtaeeickboakmgaaW.PrintWords Go.Proofs.YtaeeickboakmgaaW.PrintLast Go.Proofs.YtaeeickboakmgaaW.PrintMore

/-- An equation's first number. -/
def piv (e : EqE) : Int := rd e.f0 0
def eqAt (c z : Int) (es : List EqE) (j : Nat) : Prop := RowP (es.getD j zE).f0 c ∧ (es.getD j zE).f0 ≠ [] ∧ ((es.getD j zE).f1.size : Int) = z ∧ (0 < j → piv (es.getD (j - 1) zE) < piv (es.getD j zE))
def eqsFrom (c z : Int) (es : List EqE) (i : Nat) : Prop := ∀ j, i ≤ j → j < es.length → eqAt c z es j
theorem eqsFrom_end {c z : Int} {es : List EqE} {i : Nat} (h : es.length ≤ i) : eqsFrom c z es i := fun j h1 h2 => by omega
theorem eqsFrom_step {c z : Int} {es : List EqE} {i : Nat} (h : i < es.length) : eqsFrom c z es i ↔ eqAt c z es i ∧ eqsFrom c z es (i + 1) := by
  constructor
  · exact fun H => ⟨H i (Nat.le_refl _) h, fun j h1 h2 => H j (by omega) h2⟩
  · rintro ⟨h0, H⟩ j h1 h2
    rcases Nat.eq_or_lt_of_le h1 with rfl | h3
    · exact h0
    · exact H j h3 h2
def apart (es : List EqE) : Prop := ∀ i j, i < es.length → j < es.length → j ≠ i → piv (es.getD i zE) ∉ (es.getD j zE).f0
/-- A solver in order. -/
def SolverP (c z : Int) (es : List EqE) : Prop := (1 ≤ c ∧ c ≤ 24) ∧ (1 ≤ z ∧ z ≤ 16) ∧ eqsFrom c z es 0 ∧ apart es
theorem ne_len {l : List Int} (h : l ≠ []) : 0 < (l.length : Int) := by
  cases l with
  | nil => exact absurd rfl h
  | cons x l => simp only [List.length_cons]; omega
theorem spec_l3Has.from_ (l : List Int) (n : Int) (hl : l.length < 9223372036854775807) (d : Nat) : ∀ (k i : Nat), l.length - i = d → i ≤ l.length → d < k →
    ∃ b, spec_l3Has.l0 k l n i = some b ∧ (b = true ↔ n ∈ l.drop i) := by
  induction d with
  | zero =>
    intro k i hd hi hk
    obtain ⟨k, rfl, _⟩ := pos_of hk
    simp only [spec_l3Has.l0]
    rw [if_neg (by omega), List.drop_eq_nil_of_le (by omega)]
    exact ⟨_, rfl, by simp⟩
  | succ d ih =>
    intro k i hd hi hk
    obtain ⟨k, rfl, hk'⟩ := pos_of hk
    have hlt : i < l.length := by omega
    simp only [spec_l3Has.l0]
    rw [if_pos (by omega), if_pos (by omega), rd_lt hlt, List.drop_eq_getElem_cons hlt, w64n (by omega)]
    by_cases h : l[i] = n
    · rw [if_pos h]
      exact ⟨_, rfl, by simp [h]⟩
    · rw [if_neg h]
      obtain ⟨b, hb, hb2⟩ := ih k (i + 1) (by omega) (by omega) (by omega)
      refine ⟨b, hb, hb2.trans ?_⟩
      rw [List.mem_cons]
      exact ⟨fun h2 => .inr h2, fun h2 => h2.resolve_left (fun h3 => h h3.symm)⟩
theorem spec_l3Has.eq (l : List Int) (n : Int) (hl : l.length < 9223372036854775807) (k : Nat) (hk : l.length < k) : spec_l3Has.f k l n = some (decide (n ∈ l)) := by
  obtain ⟨b, hb, hb2⟩ := spec_l3Has.from_ l n hl l.length k 0 (by omega) (by omega) hk
  unfold spec_l3Has.f
  refine Eq.trans hb (congrArg some (bool_eq ?_))
  rw [hb2, decide_eq_true_iff, List.drop_zero]
/-! The second look: the reference's. -/
theorem spec_SolverOk.inner (c z : Int) (es : List EqE) (hl : es.length < 1073741824) (R : Nat) (hR : ∀ e ∈ es, e.f0.length < R) (hR2 : R < 1073741824) (i : Nat) (hi : i < es.length) (hne : ∀ j, j < es.length → (es.getD j zE).f0 ≠ []) (d : Nat) : ∀ (k j : Nat), es.length - j = d → j ≤ es.length → R + d + 1 < k →
    (∃ r, j ≤ r ∧ r < es.length ∧ r ≠ i ∧ piv (es.getD i zE) ∈ (es.getD r zE).f0 ∧ spec_SolverOk.l2 k i j c z es = some false) ∨
    ((∀ r, j ≤ r → r < es.length → r ≠ i → piv (es.getD i zE) ∉ (es.getD r zE).f0) ∧ ∃ k', k = k' + d + 1 ∧ spec_SolverOk.l2 k i j c z es = spec_SolverOk.l1 k' ((i + 1 : Nat) : Int) c z es) := by
  induction d with
  | zero =>
    intro k j hd hj hk
    obtain ⟨k, rfl, _⟩ := pos_of (show 0 < k by omega)
    refine .inr ⟨fun r h1 h2 => by omega, k, by omega, ?_⟩
    simp only [spec_SolverOk.l2]
    rw [if_neg (by omega), w64n (by omega)]
  | succ d ih =>
    intro k j hd hj hk
    obtain ⟨k, rfl, _⟩ := pos_of (show 0 < k by omega)
    have hlt : j < es.length := by omega
    simp only [spec_SolverOk.l2]
    rw [if_pos (by omega), w64n (by omega)]
    have nx := ih k (j + 1) (by omega) (by omega) (by omega)
    by_cases hji : j = i
    · rw [if_pos (by omega)]
      rcases nx with ⟨r, h1, h2, h3, h4, h5⟩ | ⟨h1, k', h2, h3⟩
      · exact .inl ⟨r, by omega, h2, h3, h4, h5⟩
      · refine .inr ⟨fun r h4 h5 h6 => ?_, k', by omega, h3⟩
        exact h1 r (by omega) h5 h6
    · rw [if_neg (by omega), if_pos (by omega), if_pos (by omega), if_pos (by omega), rdE_nat, rdE_nat, if_pos (ne_len (hne i hi)), spec_l3Has.eq _ _ (by have := hR _ (getD_mem hlt); omega) _ (by have := hR _ (getD_mem hlt); omega), Option.bind_some]
      by_cases hm : piv (es.getD i zE) ∈ (es.getD j zE).f0
      · rw [if_pos (by simpa [piv] using hm)]
        exact .inl ⟨j, Nat.le_refl _, hlt, hji, hm, rfl⟩
      · rw [if_neg (by simpa [piv] using hm)]
        rcases nx with ⟨r, h1, h2, h3, h4, h5⟩ | ⟨h1, k', h2, h3⟩
        · exact .inl ⟨r, by omega, h2, h3, h4, h5⟩
        · refine .inr ⟨fun r h4 h5 h6 => ?_, k', by omega, h3⟩
          rcases Nat.eq_or_lt_of_le h4 with rfl | h7
          · exact hm
          · exact h1 r (by omega) h5 h6
theorem spec_SolverOk.second (c z : Int) (es : List EqE) (hl : es.length < 1073741824) (R : Nat) (hR : ∀ e ∈ es, e.f0.length < R) (hR2 : R < 1073741824) (hne : ∀ j, j < es.length → (es.getD j zE).f0 ≠ []) (d : Nat) : ∀ (k i : Nat), es.length - i = d → i ≤ es.length → R + (d + 1) * (es.length + 2) + 1 < k →
    ∃ b, spec_SolverOk.l1 k i c z es = some b ∧ (b = true ↔ ∀ i' j, i ≤ i' → i' < es.length → j < es.length → j ≠ i' → piv (es.getD i' zE) ∉ (es.getD j zE).f0) := by
  induction d with
  | zero =>
    intro k i hd hi hk
    obtain ⟨k, rfl, _⟩ := pos_of (show 0 < k by omega)
    simp only [spec_SolverOk.l1]
    rw [if_neg (by omega)]
    exact ⟨_, rfl, by simp; intro i' j h1 h2; omega⟩
  | succ d ih =>
    intro k i hd hi hk
    obtain ⟨k, rfl, _⟩ := pos_of (show 0 < k by omega)
    have hlt : i < es.length := by omega
    have e1 : (d + 1 + 1) * (es.length + 2) = (d + 1) * (es.length + 2) + (es.length + 2) := by rw [Nat.add_mul (d + 1) 1, Nat.one_mul]
    simp only [spec_SolverOk.l1]
    rw [if_pos (by omega)]
    rcases spec_SolverOk.inner c z es hl R hR hR2 i hlt hne es.length k 0 (by omega) (by omega) (by omega) with ⟨r, _, h2, h3, h4, h5⟩ | ⟨h1, k', h2, h3⟩
    · refine ⟨false, h5, ?_⟩
      simp only [Bool.false_eq_true, false_iff]
      exact fun H => H i r (Nat.le_refl _) hlt h2 h3 h4
    · obtain ⟨b, hb, hb2⟩ := ih k' (i + 1) (by omega) (by omega) (by omega)
      refine ⟨b, h3.trans hb, hb2.trans ⟨fun H i' j h4 h5 h6 h7 => ?_, fun H i' j h4 h5 h6 h7 => H i' j (by omega) h5 h6 h7⟩⟩
      rcases Nat.eq_or_lt_of_le h4 with rfl | h8
      · exact h1 j (Nat.zero_le _) h6 h7
      · exact H i' j h8 h5 h6 h7
theorem spec_SolverOk.first (c z : Int) (es : List EqE) (hl : es.length < 1073741824) (R : Nat) (hR : ∀ e ∈ es, e.f0.length < R) (hR2 : R < 1073741824) (d : Nat) : ∀ (k i : Nat), es.length - i = d → i ≤ es.length → R + (es.length + 1) * (es.length + 2) + 2 * d + 4 < k → (∀ j, j < i → eqAt c z es j) →
    ∃ b, spec_SolverOk.l0 k i c z es = some b ∧ (b = true ↔ eqsFrom c z es i ∧ apart es) := by
  induction d with
  | zero =>
    intro k i hd hi hk hp
    obtain ⟨k, rfl, _⟩ := pos_of (show 0 < k by omega)
    have e : i = es.length := by omega
    subst e
    simp only [spec_SolverOk.l0]
    rw [if_neg (by omega)]
    obtain ⟨b, hb, hb2⟩ := spec_SolverOk.second c z es hl R hR hR2 (fun j hj => (hp j hj).2.1) es.length k 0 (by omega) (by omega) (by omega)
    refine ⟨b, hb, hb2.trans ?_⟩
    unfold apart
    constructor
    · exact fun H => ⟨eqsFrom_end (Nat.le_refl _), fun i j h1 h2 h3 => H i j (Nat.zero_le _) h1 h2 h3⟩
    · exact fun H i' j _ h1 h2 h3 => H.2 i' j h1 h2 h3
  | succ d ih =>
    intro k i hd hi hk hp
    obtain ⟨k, rfl, _⟩ := pos_of (show 0 < k by omega)
    have hlt : i < es.length := by omega
    have hRi := hR _ (getD_mem hlt)
    obtain ⟨k, rfl, _⟩ := pos_of (show 0 < k by omega)
    have no : spec_SolverOk.j2 (k + 1) i true c z es = some false := by simp only [spec_SolverOk.j2]; rfl
    have go : spec_SolverOk.j2 (k + 1) i false c z es = spec_SolverOk.l0 k ((i + 1 : Nat) : Int) c z es := by
      simp only [spec_SolverOk.j2]
      rw [if_neg (by simp), w64n (by omega)]
    have bad : ¬ eqAt c z es i → ∃ b, some false = some b ∧ (b = true ↔ eqsFrom c z es i ∧ apart es) := fun h => ⟨false, rfl, by
      simp only [Bool.false_eq_true, false_iff]
      rw [eqsFrom_step hlt]
      exact fun H => h H.1.1⟩
    have good : eqAt c z es i → ∃ b, spec_SolverOk.l0 k ((i + 1 : Nat) : Int) c z es = some b ∧ (b = true ↔ eqsFrom c z es i ∧ apart es) := fun h => by
      obtain ⟨b, hb, hb2⟩ := ih k (i + 1) (by omega) (by omega) (by omega) (fun j hj => by
        rcases Nat.lt_or_ge j i with h1 | h1
        · exact hp j h1
        · rw [show j = i by omega]; exact h)
      refine ⟨b, hb, hb2.trans ?_⟩
      rw [eqsFrom_step hlt]
      simp [h]
    simp only [spec_SolverOk.l0]
    rw [if_pos (by omega), if_pos (by omega), rdE_nat, spec_RowOk.eq _ _ (by omega) _ (by omega), Option.bind_some]
    by_cases h1 : RowP (es.getD i zE).f0 c
    rotate_left
    · rw [if_neg (by simpa using h1), no]
      exact bad (fun h => h1 h.1)
    rw [if_pos (by simpa using h1)]
    by_cases h2 : (es.getD i zE).f0 = []
    · rw [if_pos (by rw [h2]; rfl), no]
      exact bad (fun h => h.2.1 h2)
    rw [if_neg (by have := ne_len h2; omega)]
    by_cases h3 : ((es.getD i zE).f1.size : Int) = z
    rotate_left
    · rw [if_neg h3, no]
      exact bad (fun h => h3 h.2.2.1)
    rw [if_pos h3]
    by_cases h4 : (i : Int) > 0
    · rw [if_pos h4, w64p (by omega) (by omega), if_pos (by omega), if_pos (by omega), rdE_nat, if_pos (ne_len (hp (i - 1) (by omega)).2.1), if_pos (ne_len h2)]
      by_cases h5 : piv (es.getD (i - 1) zE) ≥ piv (es.getD i zE)
      · rw [show decide (rd (es.getD (i - 1) zE).f0 0 ≥ rd (es.getD i zE).f0 0) = true from decide_eq_true h5, no]
        exact bad (fun h => by have := h.2.2.2 (by omega); omega)
      · rw [show decide (rd (es.getD (i - 1) zE).f0 0 ≥ rd (es.getD i zE).f0 0) = false from decide_eq_false h5, go]
        exact good ⟨h1, h2, h3, fun _ => by omega⟩
    · rw [if_neg h4, go]
      exact good ⟨h1, h2, h3, fun h => by omega⟩
theorem spec_SolverOk.ok (c z : Int) (es : List EqE) (hl : es.length < 1073741824) (R : Nat) (hR : ∀ e ∈ es, e.f0.length < R) (hR2 : R < 1073741824) (k : Nat) (hk : R + (es.length + 1) * (es.length + 2) + 2 * es.length + 6 < k) :
    ∃ b, spec_SolverOk.f k c z es = some b ∧ (b = true ↔ SolverP c z es) := by
  obtain ⟨k, rfl, _⟩ := pos_of (show 0 < k by omega)
  have no : spec_SolverOk.j0 (k + 1) true c z es = some false := by simp only [spec_SolverOk.j0]; rfl
  unfold spec_SolverOk.f SolverP
  rw [spec_l1In.eq, Option.bind_some]
  by_cases h1 : 1 ≤ c ∧ c ≤ 24
  · rw [if_pos (by simpa using h1), spec_l1In.eq, Option.bind_some]
    by_cases h2 : 1 ≤ z ∧ z ≤ 16
    · rw [decide_eq_true h2]
      simp only [spec_SolverOk.j0]
      rw [if_neg (by simp)]
      obtain ⟨b, hb, hb2⟩ := spec_SolverOk.first c z es hl R hR hR2 es.length k 0 (by omega) (by omega) (by omega) (fun j hj => by omega)
      exact ⟨b, hb, hb2.trans (by simp [h1, h2])⟩
    · rw [decide_eq_false h2]
      exact ⟨false, no, by simp only [Bool.false_eq_true, false_iff]; exact fun H => h2 H.2.1⟩
  · rw [if_neg (by simpa using h1)]
    exact ⟨false, no, by simp only [Bool.false_eq_true, false_iff]; exact fun H => h1 H.1⟩
/-! The second look: the program's. -/
theorem piv_cons {e : EqE} (h : e.f0 ≠ []) : e.f0 = piv e :: e.f0.drop 1 := by
  unfold piv rd
  cases hl : e.f0 with
  | nil => exact absurd hl h
  | cons x l => rfl
theorem piv_mono {c z : Int} {es : List EqE} (h : eqsFrom c z es 0) (i d : Nat) : i + d + 1 < es.length → piv (es.getD i zE) < piv (es.getD (i + d + 1) zE) := by
  induction d with
  | zero => exact fun hd => (h (i + 1) (Nat.zero_le _) hd).2.2.2 (by omega)
  | succ d ih =>
    intro hd
    have h1 := ih (by omega)
    have h2 := (h (i + d + 2) (Nat.zero_le _) (by omega)).2.2.2 (by omega)
    have e1 : i + (d + 1) + 1 = i + d + 2 := by omega
    rw [e1]
    have e2 : i + d + 2 - 1 = i + d + 1 := by omega
    rw [e2] at h2
    omega
theorem piv_ne {c z : Int} {es : List EqE} (h : eqsFrom c z es 0) {i j : Nat} (hi : i < es.length) (hj : j < es.length) (hij : i ≠ j) : piv (es.getD i zE) ≠ piv (es.getD j zE) := by
  rcases Nat.lt_or_ge i j with h1 | h1
  · have := piv_mono h i (j - i - 1) (by omega)
    rw [show i + (j - i - 1) + 1 = j by omega] at this
    omega
  · have := piv_mono h j (i - j - 1) (by omega)
    rw [show j + (i - j - 1) + 1 = i by omega] at this
    omega
theorem and_zero (a b : List Int) (ha : ∀ x ∈ a, 0 ≤ x) (hb : ∀ x ∈ b, 0 ≤ x) : maskN a &&& maskN b = 0 ↔ ∀ y, y ∈ a → y ∉ b := by
  constructor
  · intro h y h1 h2
    have h3 : (maskN a &&& maskN b).testBit y.toNat = true := by
      rw [Nat.testBit_and, maskN_bit a ha, maskN_bit b hb, Int.toNat_of_nonneg (ha y h1)]
      simp [h1, h2]
    rw [h] at h3
    simp at h3
  · intro h
    refine Nat.eq_of_testBit_eq fun j => ?_
    rw [Nat.testBit_and, maskN_bit a ha, maskN_bit b hb, Nat.zero_testBit]
    by_cases h1 : (j : Int) ∈ a
    · simp [h1, h _ h1]
    · simp [h1]
theorem piv_in {c z : Int} {es : List EqE} {j : Nat} (h : eqAt c z es j) : 0 ≤ piv (es.getD j zE) ∧ piv (es.getD j zE) < c := by
  have := h.1.2.2.2 (piv (es.getD j zE)) (by rw [piv_cons h.2.1]; exact List.mem_cons_self)
  exact this
theorem tail_in {c z : Int} {es : List EqE} {j : Nat} (h : eqAt c z es j) : ∀ x ∈ (es.getD j zE).f0.drop 1, (0 ≤ x ∧ x < c) ∧ piv (es.getD j zE) < x := by
  intro x hx
  have h1 := h.1.2.2
  rw [piv_cons h.2.1] at h1
  exact ⟨h1.2 x (List.mem_cons_of_mem _ hx), (List.pairwise_cons.1 h1.1).1 x hx⟩
theorem piv_mem (es : List EqE) (p : Int) : p ∈ es.map piv ↔ ∃ i, i < es.length ∧ piv (es.getD i zE) = p := by
  rw [List.mem_map]
  constructor
  · rintro ⟨e, he, rfl⟩
    obtain ⟨i, hi, rfl⟩ := List.getElem_of_mem he
    exact ⟨i, hi, by rw [List.getD_eq_getElem?_getD, List.getElem?_eq_getElem hi]; rfl⟩
  · rintro ⟨i, hi, rfl⟩
    exact ⟨_, getD_mem hi, rfl⟩
theorem apart_iff {c z : Int} {es : List EqE} (h : eqsFrom c z es 0) : (∀ j, j < es.length → maskN ((es.getD j zE).f0.drop 1) &&& maskN (es.map piv) = 0) ↔ apart es := by
  have hp : ∀ x ∈ es.map piv, 0 ≤ x := fun x hx => by
    obtain ⟨i, hi, rfl⟩ := (piv_mem es x).1 hx
    exact (piv_in (h i (Nat.zero_le _) hi)).1
  constructor
  · intro H i j hi hj hij hm
    have ej := h j (Nat.zero_le _) hj
    rw [piv_cons ej.2.1] at hm
    rcases List.mem_cons.1 hm with hm | hm
    · exact piv_ne h hi hj (Ne.symm hij) hm
    · exact (and_zero _ _ (fun x hx => (tail_in ej x hx).1.1) hp).1 (H j hj) _ hm ((piv_mem es _).2 ⟨i, hi, rfl⟩)
  · intro H j hj
    have ej := h j (Nat.zero_le _) hj
    rw [and_zero _ _ (fun x hx => (tail_in ej x hx).1.1) hp]
    intro y hy hy2
    obtain ⟨i, hi, rfl⟩ := (piv_mem es y).1 hy2
    by_cases hij : j = i
    · subst hij
      have := (tail_in ej _ hy).2
      omega
    · refine H i j hi hj hij ?_
      rw [piv_cons ej.2.1]
      exact List.mem_cons_of_mem _ hy
theorem impl_SolverOk.second (c z : Int) (es : List EqE) (hl : es.length < 1073741824) (R : Nat) (hR : ∀ e ∈ es, e.f0.length < R) (hR2 : R < 1073741824) (hok : eqsFrom c z es 0) (hc : c ≤ 24) (P : Nat) (hP : P < 2 ^ 32) (d : Nat) : ∀ (k i : Nat), es.length - i = d → i ≤ es.length → R + d + 1 < k →
    ∃ b, impl_SolverOk.l1 k (P : Int) es (es.length : Int) i = some b ∧ (b = true ↔ ∀ j, i ≤ j → j < es.length → maskN ((es.getD j zE).f0.drop 1) &&& P = 0) := by
  induction d with
  | zero =>
    intro k i hd hi hk
    obtain ⟨k, rfl, _⟩ := pos_of (show 0 < k by omega)
    simp only [impl_SolverOk.l1]
    rw [if_neg (by omega)]
    exact ⟨_, rfl, by simp; intro j h1 h2; omega⟩
  | succ d ih =>
    intro k i hd hi hk
    obtain ⟨k, rfl, _⟩ := pos_of (show 0 < k by omega)
    have hlt : i < es.length := by omega
    have ej := hok i (Nat.zero_le _) hlt
    have hRi := hR _ (getD_mem hlt)
    have ht := tail_in ej
    have hdl : ((es.getD i zE).f0.drop 1).length < R := by rw [List.length_drop]; omega
    simp only [impl_SolverOk.l1]
    rw [if_pos (by omega), if_pos (by omega), if_pos (by omega), rdE_nat, if_pos (by have := ne_len ej.2.1; omega), impl_mask.eq _ (fun x hx => ⟨(ht x hx).1.1, by have := (ht x hx).1.2; omega⟩) (by omega) _ (by omega), Option.bind_some, w64n (by omega)]
    have hm := maskN_lt ((es.getD i zE).f0.drop 1) 24 (fun x hx => ⟨(ht x hx).1.1, by have := (ht x hx).1.2; omega⟩)
    rw [and32 _ _ (by omega) hP]
    obtain ⟨b, hb, hb2⟩ := ih k (i + 1) (by omega) (by omega) (by omega)
    by_cases h : maskN ((es.getD i zE).f0.drop 1) &&& P = 0
    · rw [if_pos (by rw [h]; rfl)]
      refine ⟨b, hb, hb2.trans ⟨fun H j h1 h2 => ?_, fun H j h1 h2 => H j (by omega) h2⟩⟩
      rcases Nat.eq_or_lt_of_le h1 with rfl | h3
      · exact h
      · exact H j h3 h2
    · rw [if_neg (by omega)]
      refine ⟨_, rfl, ?_⟩
      simp only [Bool.false_eq_true, false_iff]
      exact fun H => h (H i (Nat.le_refl _) hlt)
theorem impl_SolverOk.first (c z : Int) (es : List EqE) (hl : es.length < 1073741824) (R : Nat) (hR : ∀ e ∈ es, e.f0.length < R) (hR2 : R < 1073741824) (hc : c ≤ 24) (d : Nat) : ∀ (k i : Nat), es.length - i = d → i ≤ es.length → R + es.length + 2 * d + 4 < k → (∀ j, j < i → eqAt c z es j) →
    ∃ b, impl_SolverOk.l0 k ((maskN ((es.take i).map piv) : Nat) : Int) es (es.length : Int) i c z es = some b ∧ (b = true ↔ eqsFrom c z es i ∧ apart es) := by
  induction d with
  | zero =>
    intro k i hd hi hk hp
    obtain ⟨k, rfl, _⟩ := pos_of (show 0 < k by omega)
    have e : i = es.length := by omega
    subst e
    have hok : eqsFrom c z es 0 := fun j _ hj => hp j hj
    rw [List.take_of_length_le (Nat.le_refl _)]
    simp only [impl_SolverOk.l0]
    rw [if_neg (by omega)]
    have hP := maskN_lt (es.map piv) 24 (fun x hx => by
      obtain ⟨i, hi, rfl⟩ := (piv_mem es x).1 hx
      have := piv_in (hok i (Nat.zero_le _) hi)
      omega)
    obtain ⟨b, hb, hb2⟩ := impl_SolverOk.second c z es hl R hR hR2 hok hc _ (show maskN (es.map piv) < 2 ^ 32 by omega) es.length k 0 (by omega) (by omega) (by omega)
    refine ⟨b, hb, hb2.trans ?_⟩
    rw [← apart_iff hok]
    constructor
    · exact fun H => ⟨eqsFrom_end (Nat.le_refl _), fun j hj => H j (Nat.zero_le _) hj⟩
    · exact fun H j _ hj => H.2 j hj
  | succ d ih =>
    intro k i hd hi hk hp
    obtain ⟨k, rfl, _⟩ := pos_of (show 0 < k by omega)
    have hlt : i < es.length := by omega
    have hRi := hR _ (getD_mem hlt)
    obtain ⟨k, rfl, _⟩ := pos_of (show 0 < k by omega)
    have no : impl_SolverOk.j2 (k + 1) ((maskN ((es.take i).map piv) : Nat) : Int) es (es.length : Int) i true c z es (es.getD i zE).f0 (es.getD i zE).f1 = some false := by simp only [impl_SolverOk.j2]; rfl
    have bad : ¬ eqAt c z es i → ∃ b, some false = some b ∧ (b = true ↔ eqsFrom c z es i ∧ apart es) := fun h => ⟨false, rfl, by
      simp only [Bool.false_eq_true, false_iff]
      rw [eqsFrom_step hlt]
      exact fun H => h H.1.1⟩
    have good : eqAt c z es i → ∃ b, impl_SolverOk.j2 (k + 1) ((maskN ((es.take i).map piv) : Nat) : Int) es (es.length : Int) i false c z es (es.getD i zE).f0 (es.getD i zE).f1 = some b ∧ (b = true ↔ eqsFrom c z es i ∧ apart es) := fun h => by
      have hpi := piv_in h
      obtain ⟨b, hb, hb2⟩ := ih k (i + 1) (by omega) (by omega) (by omega) (fun j hj => by
        rcases Nat.lt_or_ge j i with h1 | h1
        · exact hp j h1
        · rw [show j = i by omega]; exact h)
      have hm := maskN_lt ((es.take i).map piv) 24 (fun x hx => by
        obtain ⟨e, he, rfl⟩ := List.mem_map.1 hx
        obtain ⟨j, hj, rfl⟩ := List.getElem_of_mem he
        have hj' : j < i := by rw [List.length_take] at hj; omega
        have := piv_in (hp j hj')
        rw [List.getD_eq_getElem?_getD, List.getElem?_eq_getElem (by omega)] at this
        rw [List.getElem_take]
        simp only [Option.getD_some] at this
        omega)
      have e1 : (es.take (i + 1)).map piv = (es.take i).map piv ++ [piv (es.getD i zE)] := by
        rw [List.take_succ_eq_append_getElem hlt, List.map_append, List.map_cons, List.map_nil, List.getD_eq_getElem?_getD, List.getElem?_eq_getElem hlt]
        rfl
      have e2 : maskN ((es.take (i + 1)).map piv) = maskN ((es.take i).map piv) ||| 2 ^ (piv (es.getD i zE)).toNat := by
        rw [e1]
        unfold maskN
        rw [List.foldl_append]
        rfl
      simp only [impl_SolverOk.j2]
      rw [if_neg (by simp), if_pos (ne_len h.2.1)]
      show ∃ b, (if 0 ≤ piv (es.getD i zE) then impl_SolverOk.l0 k (Go.bits .or .u32 ((maskN ((es.take i).map piv) : Nat) : Int) (shl .u32 1 (piv (es.getD i zE)))) es (es.length : Int) (wrap64 ((i : Int) + 1)) c z es else none) = some b ∧ _
      rw [if_pos hpi.1, shl32 _ hpi.1 (by omega), or32 _ _ (by omega) (Nat.pow_lt_pow_right (by decide) (by omega)), ← e2, w64n (by omega)]
      refine ⟨b, hb, hb2.trans ?_⟩
      rw [eqsFrom_step hlt]
      simp [h]
    simp only [impl_SolverOk.l0]
    rw [if_pos (by omega), if_pos (by omega), if_pos (by omega), rdE_nat]
    by_cases h2 : (es.getD i zE).f0 = []
    · rw [if_pos (by rw [h2]; rfl), no]
      exact bad (fun h => h.2.1 h2)
    rw [if_neg (by have := ne_len h2; omega), impl_RowOk.eq _ _ (by omega) _ (by omega), Option.bind_some]
    by_cases h1 : RowP (es.getD i zE).f0 c
    rotate_left
    · rw [if_neg (by simpa using h1), no]
      exact bad (fun h => h1 h.1)
    rw [if_pos (by simpa using h1)]
    by_cases h3 : ((es.getD i zE).f1.size : Int) = z
    rotate_left
    · rw [if_neg h3, no]
      exact bad (fun h => h3 h.2.2.1)
    rw [if_pos h3]
    by_cases h4 : (i : Int) > 0
    · rw [if_pos h4, w64p (by omega) (by omega), if_pos (by omega), if_pos (by omega), rdE_nat, if_pos (ne_len (hp (i - 1) (by omega)).2.1), if_pos (ne_len h2)]
      by_cases h5 : piv (es.getD (i - 1) zE) ≥ piv (es.getD i zE)
      · rw [show decide (rd (es.getD (i - 1) zE).f0 0 ≥ rd (es.getD i zE).f0 0) = true from decide_eq_true h5, no]
        exact bad (fun h => by have := h.2.2.2 (by omega); omega)
      · rw [show decide (rd (es.getD (i - 1) zE).f0 0 ≥ rd (es.getD i zE).f0 0) = false from decide_eq_false h5]
        exact good ⟨h1, h2, h3, fun _ => by omega⟩
    · rw [if_neg h4]
      exact good ⟨h1, h2, h3, fun h => by omega⟩
theorem impl_SolverOk.ok (c z : Int) (es : List EqE) (hl : es.length < 1073741824) (R : Nat) (hR : ∀ e ∈ es, e.f0.length < R) (hR2 : R < 1073741824) (k : Nat) (hk : R + 3 * es.length + 6 < k) :
    ∃ b, impl_SolverOk.f k c z es = some b ∧ (b = true ↔ SolverP c z es) := by
  obtain ⟨k, rfl, _⟩ := pos_of (show 0 < k by omega)
  have no : impl_SolverOk.j0 (k + 1) true c z es = some false := by simp only [impl_SolverOk.j0]; rfl
  unfold impl_SolverOk.f SolverP
  rw [impl_within.eq, Option.bind_some]
  by_cases h1 : 1 ≤ c ∧ c ≤ 24
  · rw [if_pos (by simpa using h1), impl_within.eq, Option.bind_some]
    by_cases h2 : 1 ≤ z ∧ z ≤ 16
    · rw [decide_eq_true h2]
      simp only [impl_SolverOk.j0]
      rw [if_neg (by simp)]
      obtain ⟨b, hb, hb2⟩ := impl_SolverOk.first c z es hl R hR hR2 h1.2 es.length k 0 (by omega) (by omega) (by omega) (fun j hj => by omega)
      exact ⟨b, hb, hb2.trans (by simp [h1, h2])⟩
    · rw [decide_eq_false h2]
      exact ⟨false, no, by simp only [Bool.false_eq_true, false_iff]; exact fun H => h2 H.2.1⟩
  · rw [if_neg (by simpa using h1)]
    exact ⟨false, no, by simp only [Bool.false_eq_true, false_iff]; exact fun H => h1 H.1⟩
open Classical in
noncomputable instance (c z : Int) (es : List EqE) : Decidable (SolverP c z es) := inferInstance
theorem spec_SolverOk.eq (c z : Int) (es : List EqE) (hl : es.length < 1073741824) (R : Nat) (hR : ∀ e ∈ es, e.f0.length < R) (hR2 : R < 1073741824) (k : Nat) (hk : R + (es.length + 1) * (es.length + 2) + 2 * es.length + 6 < k) : spec_SolverOk.f k c z es = some (decide (SolverP c z es)) := by
  obtain ⟨b, hb, hb2⟩ := spec_SolverOk.ok c z es hl R hR hR2 k hk
  rw [hb]
  exact congrArg some (bool_eq (hb2.trans (decide_eq_true_iff).symm))
theorem impl_SolverOk.eq (c z : Int) (es : List EqE) (hl : es.length < 1073741824) (R : Nat) (hR : ∀ e ∈ es, e.f0.length < R) (hR2 : R < 1073741824) (k : Nat) (hk : R + 3 * es.length + 6 < k) : impl_SolverOk.f k c z es = some (decide (SolverP c z es)) := by
  obtain ⟨b, hb, hb2⟩ := impl_SolverOk.ok c z es hl R hR hR2 k hk
  rw [hb]
  exact congrArg some (bool_eq (hb2.trans (decide_eq_true_iff).symm))

end Go.Proofs.Ytaeeickboakmgaa.X
