/- Plain facts about lists and numbers that the claim's proof uses. Conditions: those that each theorem states. -/
import Derived.Test.YtaeeickboakmgaaXx7
import Derived.Test.YtaeeickboakmgaaQM
set_option linter.unusedVariables false
set_option linter.unusedSimpArgs false
namespace Go.Proofs.Ytaeeickboakmgaa.X
open Go.RowKit Go.Proofs.YtaeeickboakmgaaW.PrintWords Go.Proofs.YtaeeickboakmgaaW.PrintLast Go.Proofs.YtaeeickboakmgaaW.PrintMore

theorem laws_toIntS.from_ (l : List Int) (hl : l.length < 9223372036854775807) (d : Nat) : ∀ (k i : Nat) (x : List Int), l.length - i = d → i ≤ l.length → d < k → x.length = l.length → (∀ j, j < i → x[j]? = l[j]?) →
    laws_toIntS.l0 k l x i = some l := by
  induction d with
  | zero =>
    intro k i x hd hi hk hx hj
    obtain ⟨k, rfl, _⟩ := pos_of hk
    simp only [laws_toIntS.l0]
    rw [if_neg (by omega)]
    congr 1
    refine List.ext_getElem? fun j => ?_
    rcases Nat.lt_or_ge j l.length with h | h
    · exact hj j (by omega)
    · rw [List.getElem?_eq_none h, List.getElem?_eq_none (by omega)]
  | succ d ih =>
    intro k i x hd hi hk hx hj
    obtain ⟨k, rfl, hk'⟩ := pos_of hk
    simp only [laws_toIntS.l0]
    rw [if_pos (by omega), if_pos (by omega), if_pos (by omega), w64n (by omega)]
    refine ih k (i + 1) _ (by omega) (by omega) (by omega) (by simpa using hx) fun j hj' => ?_
    rw [List.getElem?_set]
    by_cases e : (i : Int).toNat = j
    · have e2 : i = j := by omega
      subst e2
      rw [if_pos e, if_pos (by omega), rd_lt (by omega), List.getElem?_eq_getElem (by omega)]
    · rw [if_neg e]
      exact hj j (by omega)
theorem laws_toIntS.eq (l : List Int) (hl : l.length ≤ 35184372088832) (k : Nat) (hk : l.length < k) : laws_toIntS.f k l = some l := by
  unfold laws_toIntS.f
  rw [if_pos (by omega), if_pos (by omega)]
  exact laws_toIntS.from_ l (by omega) l.length k 0 _ (by omega) (by omega) hk (by simp) (fun j hj => by omega)
theorem laws_eqIntS.from_ (a b : List Int) (hl : a.length < 9223372036854775807) (he : a.length = b.length) (d : Nat) : ∀ (k i : Nat), a.length - i = d → i ≤ a.length → d < k →
    ∃ r, laws_eqIntS.l0 k a b i = some r ∧ (r = true ↔ ∀ j, i ≤ j → a[j]? = b[j]?) := by
  induction d with
  | zero =>
    intro k i hd hi hk
    obtain ⟨k, rfl, _⟩ := pos_of hk
    simp only [laws_eqIntS.l0]
    rw [if_neg (by omega)]
    refine ⟨_, rfl, by simp; intro j hj; rw [List.getElem?_eq_none (by omega), List.getElem?_eq_none (by omega)]⟩
  | succ d ih =>
    intro k i hd hi hk
    obtain ⟨k, rfl, hk'⟩ := pos_of hk
    simp only [laws_eqIntS.l0]
    rw [if_pos (by omega), if_pos (by omega), if_pos (by omega), rd_lt (show i < a.length by omega), rd_lt (show i < b.length by omega)]
    by_cases h : a[i] = b[i]'(by omega)
    · rw [if_pos h, w64n (by omega)]
      obtain ⟨r, hr, hr2⟩ := ih k (i + 1) (by omega) (by omega) (by omega)
      refine ⟨r, hr, hr2.trans ⟨fun H j hj => ?_, fun H j hj => H j (by omega)⟩⟩
      rcases Nat.eq_or_lt_of_le hj with rfl | h3
      · rw [List.getElem?_eq_getElem (by omega), List.getElem?_eq_getElem (by omega), h]
      · exact H j h3
    · rw [if_neg h]
      refine ⟨_, rfl, ?_⟩
      simp only [Bool.false_eq_true, false_iff]
      intro H
      have := H i (Nat.le_refl _)
      rw [List.getElem?_eq_getElem (by omega), List.getElem?_eq_getElem (by omega)] at this
      exact h (Option.some.inj this)
theorem laws_eqIntS.eq (a b : List Int) (hl : a.length < 9223372036854775807) (k : Nat) (hk : a.length < k) : laws_eqIntS.f k a b = some (decide (a = b)) := by
  unfold laws_eqIntS.f
  by_cases he : (a.length : Int) = (b.length : Int)
  · rw [if_pos he]
    obtain ⟨r, hr, hr2⟩ := laws_eqIntS.from_ a b hl (by omega) a.length k 0 (by omega) (by omega) hk
    refine Eq.trans hr (congrArg some (bool_eq ?_))
    rw [hr2, decide_eq_true_iff]
    exact ⟨fun H => List.ext_getElem? fun j => H j (Nat.zero_le _), fun H j _ => by rw [H]⟩
  · rw [if_neg he]
    congr 1
    symm
    rw [decide_eq_false_iff_not]
    intro h
    exact he (by rw [h])
/-- The numbers m, m + 1, .., n of them. -/
def marks (m : Int) (n : Nat) : List Int := (List.range n).map fun j : Nat => m + (j : Int)
theorem marks_length (m : Int) (n : Nat) : (marks m n).length = n := by simp [marks]
theorem marks_get (m : Int) (n j : Nat) (h : j < n) : (marks m n)[j]? = some (m + (j : Int)) := by simp [marks, h]

end Go.Proofs.Ytaeeickboakmgaa.X
