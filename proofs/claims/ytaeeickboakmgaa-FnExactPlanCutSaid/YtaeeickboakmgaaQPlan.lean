/- Plain facts about lists and numbers that the claim's proof uses. Conditions: those that each theorem states. -/
import Derived.Test.YtaeeickboakmgaaXx4
import Derived.Test.YtaeeickboakmgaaXx15
import Derived.Test.YtaeeickboakmgaaXx16
import Derived.Test.YtaeeickboakmgaaXx17
import Derived.Test.YtaeeickboakmgaaQM
import Derived.Test.YtaeeickboakmgaaQRowOk
set_option linter.unusedVariables false
set_option linter.unusedSimpArgs false
namespace Go.Proofs.Ytaeeickboakmgaa.X
open Go.RowKit Go.Proofs.YtaeeickboakmgaaW.PrintWords Go.Proofs.YtaeeickboakmgaaW.PrintLast Go.Proofs.YtaeeickboakmgaaW.PrintMore

/-- How many blocks a plan has. -/
def cntP (L S : Int) : Int := (L + S - 1) / S
def winAt (ws gs : List Int) (c : Int) (i : Nat) : Prop := (1 ≤ ws.getD i 0 ∧ ws.getD i 0 ≤ c) ∧ (0 < i → ws.getD (i - 1) 0 < ws.getD i 0) ∧ 1 ≤ gs.getD i 0 ∧ gs.getD i 0 ≤ 99
def winFrom (ws gs : List Int) (c : Int) (i : Nat) : Prop := ∀ j, i ≤ j → j < ws.length → winAt ws gs c j
theorem winFrom_end {ws gs : List Int} {c : Int} {i : Nat} (h : ws.length ≤ i) : winFrom ws gs c i := fun j h1 h2 => by omega
theorem winFrom_step {ws gs : List Int} {c : Int} {i : Nat} (h : i < ws.length) : winFrom ws gs c i ↔ winAt ws gs c i ∧ winFrom ws gs c (i + 1) := by
  constructor
  · exact fun H => ⟨H i (Nat.le_refl _) h, fun j h1 h2 => H j (by omega) h2⟩
  · rintro ⟨h0, H⟩ j h1 h2
    rcases Nat.eq_or_lt_of_le h1 with rfl | h3
    · exact h0
    · exact H j h3 h2
/-- A plan in order. -/
def PlanP (L S : Int) (ws gs : List Int) : Prop := (1 ≤ L ∧ L ≤ 300) ∧ (1 ≤ S ∧ S ≤ 16) ∧ cntP L S ≤ 24 ∧ (1 ≤ ws.length ∧ ws.length ≤ 3) ∧ gs.length = ws.length ∧ winFrom ws gs (cntP L S) 0 ∧ ws.getD (ws.length - 1) 0 = cntP L S
theorem cntP_pos {L S : Int} (hL : 1 ≤ L ∧ L ≤ 300) (hS : 1 ≤ S ∧ S ≤ 16) : 1 ≤ cntP L S ∧ cntP L S ≤ 300 := by
  unfold cntP
  constructor
  · exact Int.le_ediv_of_mul_le (by omega) (by omega)
  · have h2 : (L + S - 1) / S < 301 := Int.ediv_lt_of_lt_mul (by omega) (by
      have : 301 * S = 300 * S + S := by omega
      have : 300 ≤ 300 * S := by omega
      omega)
    omega
theorem cnt_ok {L S : Int} (hL : 1 ≤ L ∧ L ≤ 300) (hS : 1 ≤ S ∧ S ≤ 16) : wrap64 (Int.tdiv (wrap64 (wrap64 (L + S) - 1)) S) = cntP L S := by
  rw [w64 (x := L + S) (by omega) (by omega), w64 (x := L + S - 1) (by omega) (by omega), Int.tdiv_eq_ediv_of_nonneg (by omega)]
  have := cntP_pos hL hS
  exact w64 (x := cntP L S) (by omega) (by omega)
theorem spec_l5Count.eq (L S : Int) (ws gs : List Int) (hL : 1 ≤ L ∧ L ≤ 300) (hS : 1 ≤ S ∧ S ≤ 16) : spec_l5Count.f L S ws gs = some (cntP L S) := by
  unfold spec_l5Count.f
  rw [if_neg (by omega), cnt_ok hL hS]
theorem impl_Plan_count.eq (L S : Int) (ws gs : List Int) (hL : 1 ≤ L ∧ L ≤ 300) (hS : 1 ≤ S ∧ S ≤ 16) : impl_Plan_count.f L S ws gs = some (cntP L S) := by
  unfold impl_Plan_count.f
  rw [if_neg (by omega), cnt_ok hL hS]
open Classical in
noncomputable instance (L S : Int) (ws gs : List Int) : Decidable (PlanP L S ws gs) := inferInstance
theorem spec_PlanOk.from_ (L S : Int) (ws gs : List Int) (hL : 1 ≤ L ∧ L ≤ 300) (hS : 1 ≤ S ∧ S ≤ 16) (hl : ws.length < 9223372036854775807) (h0 : 0 < ws.length) (he : gs.length = ws.length) (d : Nat) : ∀ (k i : Nat), ws.length - i = d → i ≤ ws.length → d < k →
    ∃ b, spec_PlanOk.l0 k i L S ws gs = some b ∧ (b = true ↔ winFrom ws gs (cntP L S) i ∧ ws.getD (ws.length - 1) 0 = cntP L S) := by
  induction d with
  | zero =>
    intro k i hd hi hk
    obtain ⟨k, rfl, _⟩ := pos_of hk
    have e : i = ws.length := by omega
    subst e
    simp only [spec_PlanOk.l0]
    rw [if_neg (by omega), w64p (i := ws.length) (by omega) (by omega), if_pos (by omega), if_pos (by omega), spec_l5Count.eq L S _ _ hL hS, Option.bind_some, rd_nat]
    refine ⟨_, rfl, ?_⟩
    simp [winFrom_end (Nat.le_refl _)]
  | succ d ih =>
    intro k i hd hi hk
    obtain ⟨k, rfl, hk'⟩ := pos_of hk
    have hlt : i < ws.length := by omega
    have ih' := ih k (i + 1) (by omega) (by omega) (by omega)
    rw [← w64n (show i < 9223372036854775807 by omega)] at ih'
    obtain ⟨b, hb, hb2⟩ := ih'
    simp only [spec_PlanOk.l0]
    rw [if_pos (by omega), if_pos (by omega), spec_l5Count.eq L S _ _ hL hS, Option.bind_some, spec_l1In.eq, Option.bind_some, rd_nat]
    by_cases h1 : 1 ≤ ws.getD i 0 ∧ ws.getD i 0 ≤ cntP L S
    · rw [if_pos (by simpa using h1)]
      have fin : (¬ (0 < i) ∨ ws.getD (i - 1) 0 < ws.getD i 0) → ∃ b, (if (i : Int) < (gs.length : Int) then (spec_l1In.f (rd gs i) 1 99).bind fun t => if t = true then spec_PlanOk.l0 k (wrap64 (i + 1)) L S ws gs else some false else none) = some b ∧ (b = true ↔ winFrom ws gs (cntP L S) i ∧ ws.getD (ws.length - 1) 0 = cntP L S) := by
        intro h2
        rw [if_pos (by omega), spec_l1In.eq, Option.bind_some, rd_nat]
        by_cases h3 : 1 ≤ gs.getD i 0 ∧ gs.getD i 0 ≤ 99
        · rw [if_pos (by simpa using h3)]
          refine ⟨b, hb, hb2.trans ?_⟩
          have hw : winAt ws gs (cntP L S) i := ⟨h1, fun h4 => h2.resolve_left (fun h5 => h5 h4), h3⟩
          rw [winFrom_step hlt]
          simp [hw]
        · rw [if_neg (by simpa using h3)]
          refine ⟨_, rfl, ?_⟩
          simp only [Bool.false_eq_true, false_iff]
          rw [winFrom_step hlt]
          intro H
          exact h3 H.1.1.2.2
      by_cases h2 : (i : Int) > 0
      · have e := w64p (i := i) (by omega) (by omega)
        rw [if_pos h2, e, if_pos (by omega), if_pos (by omega), rd_nat]
        by_cases h3 : ws.getD (i - 1) 0 ≥ ws.getD i 0
        · rw [if_pos h3]
          refine ⟨_, rfl, ?_⟩
          simp only [Bool.false_eq_true, false_iff]
          rw [winFrom_step hlt]
          intro H
          have := H.1.1.2.1 (by omega)
          omega
        · rw [if_neg h3]
          exact fin (.inr (by omega))
      · rw [if_neg h2]
        exact fin (.inl (by omega))
    · rw [if_neg (by simpa using h1)]
      refine ⟨_, rfl, ?_⟩
      simp only [Bool.false_eq_true, false_iff]
      rw [winFrom_step hlt]
      intro H
      exact h1 H.1.1.1
theorem impl_PlanOk.from_ (L S : Int) (ws gs : List Int) (hL : 1 ≤ L ∧ L ≤ 300) (hS : 1 ≤ S ∧ S ≤ 16) (hl : ws.length < 9223372036854775807) (h0 : 0 < ws.length) (he : gs.length = ws.length) (d : Nat) : ∀ (k i : Nat), ws.length - i = d → i ≤ ws.length → d < k →
    ∃ b, impl_PlanOk.l0 k ws (ws.length : Int) i L S ws gs = some b ∧ (b = true ↔ winFrom ws gs (cntP L S) i) := by
  induction d with
  | zero =>
    intro k i hd hi hk
    obtain ⟨k, rfl, _⟩ := pos_of hk
    have e : i = ws.length := by omega
    subst e
    simp only [impl_PlanOk.l0]
    rw [if_neg (by omega)]
    refine ⟨_, rfl, ?_⟩
    simp [winFrom_end (Nat.le_refl _)]
  | succ d ih =>
    intro k i hd hi hk
    obtain ⟨k, rfl, hk'⟩ := pos_of hk
    have hlt : i < ws.length := by omega
    have ih' := ih k (i + 1) (by omega) (by omega) (by omega)
    rw [← w64n (show i < 9223372036854775807 by omega)] at ih'
    obtain ⟨b, hb, hb2⟩ := ih'
    simp only [impl_PlanOk.l0]
    rw [if_pos (by omega), if_pos (by omega), if_pos (by omega), impl_Plan_count.eq L S _ _ hL hS, Option.bind_some, impl_within.eq, Option.bind_some, rd_nat]
    by_cases h1 : 1 ≤ ws.getD i 0 ∧ ws.getD i 0 ≤ cntP L S
    · rw [if_pos (by simpa using h1)]
      have fin : (¬ (0 < i) ∨ ws.getD (i - 1) 0 < ws.getD i 0) → ∃ b, (if (i : Int) < (gs.length : Int) then (impl_within.f (rd gs i) 1 99).bind fun t => if t = true then impl_PlanOk.l0 k ws (ws.length : Int) (wrap64 (i + 1)) L S ws gs else some false else none) = some b ∧ (b = true ↔ winFrom ws gs (cntP L S) i) := by
        intro h2
        rw [if_pos (by omega), impl_within.eq, Option.bind_some, rd_nat]
        by_cases h3 : 1 ≤ gs.getD i 0 ∧ gs.getD i 0 ≤ 99
        · rw [if_pos (by simpa using h3)]
          refine ⟨b, hb, hb2.trans ?_⟩
          have hw : winAt ws gs (cntP L S) i := ⟨h1, fun h4 => h2.resolve_left (fun h5 => h5 h4), h3⟩
          rw [winFrom_step hlt]
          simp [hw]
        · rw [if_neg (by simpa using h3)]
          refine ⟨_, rfl, ?_⟩
          simp only [Bool.false_eq_true, false_iff]
          rw [winFrom_step hlt]
          intro H
          exact h3 H.1.2.2
      by_cases h2 : (i : Int) > 0
      · have e := w64p (i := i) (by omega) (by omega)
        rw [if_pos h2, e, if_pos (by omega), if_pos (by omega), rd_nat]
        by_cases h3 : ws.getD (i - 1) 0 ≥ ws.getD i 0
        · rw [if_pos h3]
          refine ⟨_, rfl, ?_⟩
          simp only [Bool.false_eq_true, false_iff]
          rw [winFrom_step hlt]
          intro H
          have := H.1.2.1 (by omega)
          omega
        · rw [if_neg h3]
          exact fin (.inr (by omega))
      · rw [if_neg h2]
        exact fin (.inl (by omega))
    · rw [if_neg (by simpa using h1)]
      refine ⟨_, rfl, ?_⟩
      simp only [Bool.false_eq_true, false_iff]
      rw [winFrom_step hlt]
      intro H
      exact h1 H.1.1
theorem spec_PlanOk.eq (L S : Int) (ws gs : List Int) (hl : ws.length < 4611686018427387904) (hg : gs.length < 4611686018427387904) (k : Nat) (hk : ws.length + 1 < k) : spec_PlanOk.f k L S ws gs = some (decide (PlanP L S ws gs)) := by
  obtain ⟨k, rfl, hk'⟩ := pos_of hk
  have no : spec_PlanOk.j0 (k + 1) true L S ws gs = some false := by simp only [spec_PlanOk.j0]; rfl
  unfold spec_PlanOk.f
  rw [spec_l1In.eq, Option.bind_some]
  by_cases hL : 1 ≤ L ∧ L ≤ 300
  rotate_left
  · rw [if_neg (by simpa using hL), no, decide_eq_false (fun h => hL h.1)]
  rw [if_pos (by simpa using hL), spec_l1In.eq, Option.bind_some]
  by_cases hS : 1 ≤ S ∧ S ≤ 16
  rotate_left
  · rw [if_neg (by simpa using hS), no, decide_eq_false (fun h => hS h.2.1)]
  rw [if_pos (by simpa using hS), spec_l5Count.eq L S _ _ hL hS, Option.bind_some, spec_l1In.eq, Option.bind_some]
  have hc := cntP_pos hL hS
  by_cases hC : 1 ≤ cntP L S ∧ cntP L S ≤ 24
  rotate_left
  · rw [if_neg (by simpa using hC), no, decide_eq_false (fun h => hC ⟨hc.1, h.2.2.1⟩)]
  rw [if_pos (by simpa using hC), spec_l1In.eq, Option.bind_some]
  by_cases hW : 1 ≤ (ws.length : Int) ∧ (ws.length : Int) ≤ 3
  rotate_left
  · rw [if_neg (by simpa using hW), no, decide_eq_false (fun h => hW (by have := h.2.2.2.1; omega))]
  rw [if_pos (by simpa using hW)]
  simp only [spec_PlanOk.j0]
  by_cases hE : gs.length = ws.length
  rotate_left
  · rw [if_pos (by rw [bne_iff_ne]; omega), decide_eq_false (fun h => hE h.2.2.2.2.1)]
  rw [if_neg (by rw [hE]; simp)]
  obtain ⟨b, hb, hb2⟩ := spec_PlanOk.from_ L S ws gs hL hS (by omega) (by omega) hE ws.length k 0 (by omega) (by omega) (by omega)
  refine Eq.trans hb (congrArg some (bool_eq ?_))
  rw [hb2, decide_eq_true_iff]
  exact ⟨fun h => ⟨hL, hS, hC.2, by omega, hE, h.1, h.2⟩, fun h => ⟨h.2.2.2.2.2.1, h.2.2.2.2.2.2⟩⟩
theorem impl_PlanOk.eq (L S : Int) (ws gs : List Int) (hl : ws.length < 4611686018427387904) (hg : gs.length < 4611686018427387904) (k : Nat) (hk : ws.length + 2 < k) : impl_PlanOk.f k L S ws gs = some (decide (PlanP L S ws gs)) := by
  obtain ⟨k, rfl, hk'⟩ := pos_of hk
  obtain ⟨k, rfl, hk''⟩ := pos_of (show ws.length + 1 < k by omega)
  have no : impl_PlanOk.j0 (k + 1 + 1) true L S ws gs = some false := by simp only [impl_PlanOk.j0]; rfl
  have no1 : impl_PlanOk.j1 (k + 1) true L S ws gs = some false := by simp only [impl_PlanOk.j1]; rfl
  unfold impl_PlanOk.f
  rw [impl_within.eq, Option.bind_some]
  by_cases hL : 1 ≤ L ∧ L ≤ 300
  rotate_left
  · rw [if_neg (by simpa using hL), no, decide_eq_false (fun h => hL h.1)]
  rw [if_pos (by simpa using hL), impl_within.eq, Option.bind_some]
  by_cases hS : 1 ≤ S ∧ S ≤ 16
  rotate_left
  · rw [if_neg (by simpa using hS), no, decide_eq_false (fun h => hS h.2.1)]
  rw [if_pos (by simpa using hS), impl_Plan_count.eq L S _ _ hL hS, Option.bind_some]
  have hc := cntP_pos hL hS
  by_cases hC : cntP L S ≤ 24
  rotate_left
  · rw [decide_eq_true (show cntP L S > 24 by omega), no, decide_eq_false (fun h => hC h.2.2.1)]
  rw [decide_eq_false (show ¬ cntP L S > 24 by omega)]
  simp only [impl_PlanOk.j0]
  rw [if_neg (by simp), impl_within.eq, Option.bind_some]
  by_cases hW : 1 ≤ (ws.length : Int) ∧ (ws.length : Int) ≤ 3
  rotate_left
  · rw [if_neg (by simpa using hW), no1, decide_eq_false (fun h => hW (by have := h.2.2.2.1; omega))]
  rw [if_pos (by simpa using hW)]
  by_cases hE : gs.length = ws.length
  rotate_left
  · rw [if_neg (by omega), no1, decide_eq_false (fun h => hE h.2.2.2.2.1)]
  rw [if_pos (by omega), w64p (i := ws.length) (by omega) (by omega), if_pos (by omega), if_pos (by omega), impl_Plan_count.eq L S _ _ hL hS, Option.bind_some, rd_nat]
  by_cases hT : ws.getD (ws.length - 1) 0 = cntP L S
  rotate_left
  · rw [show (ws.getD (ws.length - 1) 0 != cntP L S) = true from bne_iff_ne.2 hT, no1, decide_eq_false (fun h => hT h.2.2.2.2.2.2)]
  rw [show (ws.getD (ws.length - 1) 0 != cntP L S) = false by rw [hT]; simp]
  simp only [impl_PlanOk.j1]
  rw [if_neg (by simp)]
  obtain ⟨b, hb, hb2⟩ := impl_PlanOk.from_ L S ws gs hL hS (by omega) (by omega) hE ws.length k 0 (by omega) (by omega) (by omega)
  refine Eq.trans hb (congrArg some (bool_eq ?_))
  rw [hb2, decide_eq_true_iff]
  exact ⟨fun h => ⟨hL, hS, hC, by omega, hE, h, hT⟩, fun h => h.2.2.2.2.2.1⟩

end Go.Proofs.Ytaeeickboakmgaa.X
