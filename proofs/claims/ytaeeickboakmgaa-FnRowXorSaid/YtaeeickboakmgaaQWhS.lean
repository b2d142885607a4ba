/- Plain facts about lists and numbers that the claim's proof uses. Conditions: those that each theorem states. -/
import Derived.Test.YtaeeickboakmgaaXx2
import Derived.Test.YtaeeickboakmgaaQM
import Derived.Test.YtaeeickboakmgaaQRowOk
set_option linter.unusedVariables false
set_option linter.unusedSimpArgs false
namespace Go.Proofs.Ytaeeickboakmgaa.X
open Go.RowKit Go.Proofs.YtaeeickboakmgaaW.PrintWords Go.Proofs.YtaeeickboakmgaaW.PrintLast Go.Proofs.YtaeeickboakmgaaW.PrintMore

theorem laws_whInts.from_ (a b : List Int) (hl : a.length < 9223372036854775807) (he : a.length = b.length) (d : Nat) : ∀ (k i : Nat), a.length - i = d → i ≤ a.length → d < k →
    ∃ r, laws_whInts.l0 k a b i = some r ∧ (r = true ↔ ∀ j, i ≤ j → a[j]? = b[j]?) := by
  induction d with
  | zero =>
    intro k i hd hi hk
    obtain ⟨k, rfl, _⟩ := pos_of hk
    simp only [laws_whInts.l0]
    rw [if_neg (by omega)]
    refine ⟨_, rfl, by simp; intro j hj; rw [List.getElem?_eq_none (by omega), List.getElem?_eq_none (by omega)]⟩
  | succ d ih =>
    intro k i hd hi hk
    obtain ⟨k, rfl, hk'⟩ := pos_of hk
    simp only [laws_whInts.l0]
    rw [if_pos (by omega), if_pos (by omega), if_pos (by omega), rd_lt (show i < a.length by omega), rd_lt (show i < b.length by omega)]
    by_cases h : a[i] = b[i]'(by omega)
    · rw [if_pos h, w64n (by omega)]
      obtain ⟨r, hr, hr2⟩ := ih k (i + 1) (by omega) (by omega) (by omega)
      refine ⟨r, hr, hr2.trans ⟨fun H j hj => ?_, fun H j hj => H j (by omega)⟩⟩
      rcases Nat.eq_or_lt_of_le hj with rfl | h3
      · rw [List.getElem?_eq_getElem (by omega), List.getElem?_eq_getElem (by omega), h]
      · exact H j h3
    · rw [if_neg h]
      refine ⟨_, rfl, ?_⟩
      simp only [Bool.false_eq_true, false_iff]
      intro H
      have := H i (Nat.le_refl _)
      rw [List.getElem?_eq_getElem (by omega), List.getElem?_eq_getElem (by omega)] at this
      exact h (Option.some.inj this)
theorem laws_whInts.eq (a b : List Int) (hl : a.length < 9223372036854775807) (k : Nat) (hk : a.length < k) : laws_whInts.f k a b = some (decide (a = b)) := by
  unfold laws_whInts.f
  by_cases he : (a.length : Int) = (b.length : Int)
  · rw [if_pos he]
    obtain ⟨r, hr, hr2⟩ := laws_whInts.from_ a b hl (by omega) a.length k 0 (by omega) (by omega) hk
    refine Eq.trans hr (congrArg some (bool_eq ?_))
    rw [hr2, decide_eq_true_iff]
    exact ⟨fun H => List.ext_getElem? fun j => H j (Nat.zero_le _), fun H j _ => by rw [H]⟩
  · rw [if_neg he]
    congr 1
    symm
    rw [decide_eq_false_iff_not]
    intro h
    exact he (by rw [h])

end Go.Proofs.Ytaeeickboakmgaa.X
