/- Plain facts about lists and numbers that the claim's proof uses. Conditions: those that each theorem states. -/
import Derived.Test.YtaeeickboakmgaaXx4
import Derived.Test.YtaeeickboakmgaaXx5
import Derived.Test.YtaeeickboakmgaaQM
set_option linter.unusedVariables false
set_option linter.unusedSimpArgs false
namespace Go.Proofs.Ytaeeickboakmgaa.X
open Go.RowKit Go.Proofs.YtaeeickboakmgaaW.PrintWords Go.Proofs.YtaeeickboakmgaaW.PrintLast Go.Proofs.YtaeeickboakmgaaW.PrintMore

/-- A row of c blocks. -/
def RowP (l : List Int) (c : Int) : Prop := 0 ≤ c ∧ c ≤ 24 ∧ l.Pairwise (· < ·) ∧ ∀ x ∈ l, 0 ≤ x ∧ x < c
instance (l : List Int) (c : Int) : Decidable (RowP l c) := by unfold RowP; infer_instance
def rowAt (l : List Int) (hi : Int) (i : Nat) : Prop := 0 ≤ l.getD i 0 ∧ l.getD i 0 ≤ hi ∧ (0 < i → l.getD (i - 1) 0 < l.getD i 0)
def rowFrom (l : List Int) (hi : Int) (i : Nat) : Prop := ∀ j, i ≤ j → j < l.length → rowAt l hi j
theorem rowFrom_end {l : List Int} {hi : Int} {i : Nat} (h : l.length ≤ i) : rowFrom l hi i := fun j h1 h2 => by omega
theorem rowFrom_step {l : List Int} {hi : Int} {i : Nat} (h : i < l.length) : rowFrom l hi i ↔ rowAt l hi i ∧ rowFrom l hi (i + 1) := by
  constructor
  · exact fun H => ⟨H i (Nat.le_refl _) h, fun j h1 h2 => H j (by omega) h2⟩
  · rintro ⟨h0, H⟩ j h1 h2
    rcases Nat.eq_or_lt_of_le h1 with rfl | h3
    · exact h0
    · exact H j h3 h2
theorem rowAll (l : List Int) (c : Int) : (rowFrom l (wrap64 (c - 1)) 0 ∧ 0 ≤ c ∧ c ≤ 24) ↔ RowP l c := by
  unfold RowP
  constructor
  · rintro ⟨H, h0, h1⟩
    have e : wrap64 (c - 1) = c - 1 := w64 (by omega) (by omega)
    rw [e] at H
    refine ⟨h0, h1, ?_, ?_⟩
    · rw [List.pairwise_iff_getElem]
      intro i j hi hj hij
      have key : ∀ d, i + d + 1 < l.length → l[i]! < l[i + d + 1]! := by
        intro d
        induction d with
        | zero =>
          intro hd
          have := (H (i + 1) (by omega) hd).2.2 (by omega)
          simpa [List.getD, hi, hd] using this
        | succ d ih =>
          intro hd
          have h2 := ih (by omega)
          have h3 := (H (i + d + 2) (by omega) (by omega)).2.2 (by omega)
          have h4 : i + d + 1 < l.length := by omega
          have h5 : i + d + 2 < l.length := by omega
          simp [List.getD, h4, h5] at h3
          rw [getElem!_pos l i hi, getElem!_pos l (i + d + 1) h4] at h2
          rw [getElem!_pos l i hi, getElem!_pos l (i + (d + 1) + 1) (by omega)]
          have : l[i + (d + 1) + 1] = l[i + d + 2] := rfl
          omega
      have := key (j - i - 1) (by omega)
      have e2 : i + (j - i - 1) + 1 = j := by omega
      rw [e2] at this
      rwa [getElem!_pos l _ hi, getElem!_pos l _ hj] at this
    · intro x hx
      obtain ⟨i, hi, rfl⟩ := List.getElem_of_mem hx
      have := H i (Nat.zero_le _) hi
      simp [rowAt, List.getD, hi] at this
      omega
  · rintro ⟨h0, h1, hp, hm⟩
    have e : wrap64 (c - 1) = c - 1 := w64 (by omega) (by omega)
    rw [e]
    refine ⟨fun j _ hj => ?_, h0, h1⟩
    have hmj := hm l[j] (List.getElem_mem hj)
    refine ⟨by simp [List.getD, hj]; omega, by simp [List.getD, hj]; omega, fun hj0 => ?_⟩
    have hj1 : j - 1 < l.length := by omega
    have := (List.pairwise_iff_getElem.1 hp) (j - 1) j hj1 hj (by omega)
    simpa [List.getD, hj, hj1] using this
theorem spec_l1In.eq (a b c : Int) : spec_l1In.f a b c = some (decide (b ≤ a ∧ a ≤ c)) := by
  unfold spec_l1In.f
  by_cases h : a ≥ b
  · rw [if_pos h]; congr 1; simp; intro _; omega
  · rw [if_neg h]; congr 1; simp; omega
theorem impl_within.eq (a b c : Int) : impl_within.f a b c = some (decide (b ≤ a ∧ a ≤ c)) := by
  unfold impl_within.f
  by_cases h : a ≥ b
  · rw [if_pos h]; congr 1; simp; intro _; omega
  · rw [if_neg h]; congr 1; simp; omega
theorem spec_RowOk.from_ (l : List Int) (c : Int) (hl : l.length < 9223372036854775807) (d : Nat) : ∀ (k i : Nat), l.length - i = d → i ≤ l.length → d < k →
    ∃ b, spec_RowOk.l0 k l c i = some b ∧ (b = true ↔ rowFrom l (wrap64 (c - 1)) i ∧ 0 ≤ c ∧ c ≤ 24) := by
  induction d with
  | zero =>
    intro k i hd hi hk
    obtain ⟨k, rfl, _⟩ := pos_of hk
    have : i = l.length := by omega
    subst this
    simp only [spec_RowOk.l0]
    rw [if_neg (by omega), spec_l1In.eq]
    exact ⟨_, rfl, by simp [rowFrom_end (Nat.le_refl _)]⟩
  | succ d ih =>
    intro k i hd hi hk
    obtain ⟨k, rfl, hk'⟩ := pos_of hk
    have hlt : i < l.length := by omega
    have ih' := ih k (i + 1) (by omega) (by omega) (by omega)
    rw [← w64n (show i < 9223372036854775807 by omega)] at ih'
    simp only [spec_RowOk.l0, rowFrom_step hlt]
    rw [if_pos (by omega), if_pos (by omega), spec_l1In.eq, Option.bind_some, rd_nat]
    by_cases h1 : 0 ≤ l.getD i 0 ∧ l.getD i 0 ≤ wrap64 (c - 1)
    · rw [if_pos (by simpa using h1)]
      obtain ⟨b, hb, hb2⟩ := ih'
      by_cases h2 : (i : Int) > 0
      · have e := w64p (i := i) (by omega) (by omega)
        rw [if_pos h2, e, if_pos (by omega), if_pos (by omega), rd_nat]
        by_cases h3 : l.getD (i - 1) 0 ≥ l.getD i 0
        · rw [if_pos h3]
          refine ⟨_, rfl, ?_⟩
          simp only [Bool.false_eq_true, false_iff]
          rintro ⟨⟨⟨_, _, h4⟩, _⟩, _⟩
          have := h4 (by omega)
          omega
        · rw [if_neg h3]
          refine ⟨b, hb, hb2.trans ?_⟩
          have : rowAt l (wrap64 (c - 1)) i := ⟨h1.1, h1.2, fun _ => by omega⟩
          simp [this]
      · rw [if_neg h2]
        refine ⟨b, hb, hb2.trans ?_⟩
        have : rowAt l (wrap64 (c - 1)) i := ⟨h1.1, h1.2, fun _ => by omega⟩
        simp [this]
    · rw [if_neg (by simpa using h1)]
      refine ⟨_, rfl, ?_⟩
      simp only [Bool.false_eq_true, false_iff]
      rintro ⟨⟨⟨h4, h5, _⟩, _⟩, _⟩
      exact h1 ⟨h4, h5⟩
theorem spec_RowOk.eq (l : List Int) (c : Int) (hl : l.length < 9223372036854775807) (k : Nat) (hk : l.length < k) : spec_RowOk.f k l c = some (decide (RowP l c)) := by
  obtain ⟨b, hb, hb2⟩ := spec_RowOk.from_ l c hl l.length k 0 (by omega) (by omega) hk
  unfold spec_RowOk.f
  refine Eq.trans hb (congrArg some (bool_eq ?_))
  rw [hb2, rowAll, decide_eq_true_iff]
theorem impl_RowOk.from_ (l : List Int) (c : Int) (hl : l.length < 9223372036854775807) (d : Nat) : ∀ (k i : Nat), l.length - i = d → i ≤ l.length → d < k →
    ∃ b, impl_RowOk.l0 k l c l (l.length : Int) i = some b ∧ (b = true ↔ rowFrom l (wrap64 (c - 1)) i ∧ 0 ≤ c ∧ c ≤ 24) := by
  induction d with
  | zero =>
    intro k i hd hi hk
    obtain ⟨k, rfl, _⟩ := pos_of hk
    have : i = l.length := by omega
    subst this
    simp only [impl_RowOk.l0]
    rw [if_neg (by omega), impl_within.eq]
    exact ⟨_, rfl, by simp [rowFrom_end (Nat.le_refl _)]⟩
  | succ d ih =>
    intro k i hd hi hk
    obtain ⟨k, rfl, hk'⟩ := pos_of hk
    have hlt : i < l.length := by omega
    have ih' := ih k (i + 1) (by omega) (by omega) (by omega)
    rw [← w64n (show i < 9223372036854775807 by omega)] at ih'
    simp only [impl_RowOk.l0, rowFrom_step hlt]
    rw [if_pos (by omega), if_pos (by omega), if_pos (by omega), impl_within.eq, Option.bind_some, rd_nat]
    by_cases h1 : 0 ≤ l.getD i 0 ∧ l.getD i 0 ≤ wrap64 (c - 1)
    · rw [if_pos (by simpa using h1)]
      obtain ⟨b, hb, hb2⟩ := ih'
      by_cases h2 : (i : Int) > 0
      · have e := w64p (i := i) (by omega) (by omega)
        rw [if_pos h2, e, if_pos (by omega), if_pos (by omega), rd_nat]
        by_cases h3 : l.getD (i - 1) 0 ≥ l.getD i 0
        · rw [if_pos h3]
          refine ⟨_, rfl, ?_⟩
          simp only [Bool.false_eq_true, false_iff]
          rintro ⟨⟨⟨_, _, h4⟩, _⟩, _⟩
          have := h4 (by omega)
          omega
        · rw [if_neg h3]
          refine ⟨b, hb, hb2.trans ?_⟩
          have : rowAt l (wrap64 (c - 1)) i := ⟨h1.1, h1.2, fun _ => by omega⟩
          simp [this]
      · rw [if_neg h2]
        refine ⟨b, hb, hb2.trans ?_⟩
        have : rowAt l (wrap64 (c - 1)) i := ⟨h1.1, h1.2, fun _ => by omega⟩
        simp [this]
    · rw [if_neg (by simpa using h1)]
      refine ⟨_, rfl, ?_⟩
      simp only [Bool.false_eq_true, false_iff]
      rintro ⟨⟨⟨h4, h5, _⟩, _⟩, _⟩
      exact h1 ⟨h4, h5⟩
theorem impl_RowOk.eq (l : List Int) (c : Int) (hl : l.length < 9223372036854775807) (k : Nat) (hk : l.length < k) : impl_RowOk.f k l c = some (decide (RowP l c)) := by
  obtain ⟨b, hb, hb2⟩ := impl_RowOk.from_ l c hl l.length k 0 (by omega) (by omega) hk
  unfold impl_RowOk.f
  refine Eq.trans hb (congrArg some (bool_eq ?_))
  rw [hb2, rowAll, decide_eq_true_iff]

end Go.Proofs.Ytaeeickboakmgaa.X
