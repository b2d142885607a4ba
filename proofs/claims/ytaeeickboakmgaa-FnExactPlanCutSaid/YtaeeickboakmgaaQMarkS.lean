/- Plain facts about lists and numbers that the claim's proof uses. Conditions: those that each theorem states. -/
import Derived.Test.YtaeeickboakmgaaXx20
import Derived.Test.YtaeeickboakmgaaXx40
import Derived.Test.YtaeeickboakmgaaQM
import Derived.Test.YtaeeickboakmgaaQIntS
set_option linter.unusedVariables false
set_option linter.unusedSimpArgs false
namespace Go.Proofs.Ytaeeickboakmgaa.X
open Go.RowKit Go.Proofs.YtaeeickboakmgaaW.PrintWords Go.Proofs.YtaeeickboakmgaaW.PrintLast Go.Proofs.YtaeeickboakmgaaW.PrintMore

theorem laws_markIntS.from_ (n : Nat) (m : Int) (h0 : 0 ≤ m) (h1 : m + n < 9223372036854775807) (d : Nat) : ∀ (k i : Nat) (x : List Int), n - i = d → i ≤ n → d < k → x.length = n → (∀ j, j < i → x[j]? = some (m + (j : Int))) →
    laws_markIntS.l0 k x (m + i) i = some (m + n, marks m n) := by
  induction d with
  | zero =>
    intro k i x hd hi hk hx hj
    obtain ⟨k, rfl, _⟩ := pos_of hk
    have e : i = n := by omega
    subst e
    simp only [laws_markIntS.l0]
    rw [if_neg (by omega)]
    congr 2
    refine List.ext_getElem? fun j => ?_
    rcases Nat.lt_or_ge j i with h | h
    · rw [hj j h, marks_get _ _ _ h]
    · rw [List.getElem?_eq_none (by omega), List.getElem?_eq_none (by rw [marks_length]; omega)]
  | succ d ih =>
    intro k i x hd hi hk hx hj
    obtain ⟨k, rfl, hk'⟩ := pos_of hk
    simp only [laws_markIntS.l0]
    rw [if_pos (by omega), if_pos (by omega), w64n (by omega), w64 (x := m + i + 1) (by omega) (by omega)]
    rw [show m + (i : Int) + 1 = m + ((i + 1 : Nat) : Int) by omega]
    refine ih k (i + 1) _ (by omega) (by omega) (by omega) (by simpa using hx) fun j hj' => ?_
    rw [List.getElem?_set]
    by_cases e : (i : Int).toNat = j
    · have e2 : i = j := by omega
      subst e2
      rw [if_pos e, if_pos (by omega)]
    · rw [if_neg e]
      exact hj j (by omega)
theorem laws_markIntS.eq (x : List Int) (m : Int) (h0 : 0 ≤ m) (h1 : m + x.length < 9223372036854775807) (k : Nat) (hk : x.length < k) : laws_markIntS.f k x m = some (m + x.length, marks m x.length) := by
  unfold laws_markIntS.f
  have := laws_markIntS.from_ x.length m h0 h1 x.length k 0 x (by omega) (by omega) hk rfl (fun j hj => by omega)
  simpa using this
theorem laws_heldIntS.from_ (n : Nat) (m : Int) (h0 : 0 ≤ m) (h1 : m + n < 9223372036854775807) (d : Nat) : ∀ (k i : Nat), n - i = d → i ≤ n → d < k →
    laws_heldIntS.l0 k (marks m n) (m + i) i = some (m + n) := by
  induction d with
  | zero =>
    intro k i hd hi hk
    obtain ⟨k, rfl, _⟩ := pos_of hk
    have e : i = n := by omega
    subst e
    simp only [laws_heldIntS.l0]
    rw [if_neg (by rw [marks_length]; omega)]
  | succ d ih =>
    intro k i hd hi hk
    obtain ⟨k, rfl, hk'⟩ := pos_of hk
    have hlt : i < (marks m n).length := by rw [marks_length]; omega
    have hv : (marks m n)[i] = m + (i : Int) := by
      have := marks_get m n i (by omega)
      rw [List.getElem?_eq_getElem hlt] at this
      exact Option.some.inj this
    simp only [laws_heldIntS.l0]
    rw [if_pos (by omega), if_pos (by omega), rd_lt hlt, if_pos hv, w64n (by omega), w64 (x := m + i + 1) (by omega) (by omega)]
    rw [show m + (i : Int) + 1 = m + ((i + 1 : Nat) : Int) by omega]
    exact ih k (i + 1) (by omega) (by omega) (by omega)
theorem laws_heldIntS.eq (n : Nat) (m : Int) (h0 : 0 ≤ m) (h1 : m + n < 9223372036854775807) (k : Nat) (hk : n < k) : laws_heldIntS.f k (marks m n) m = some (m + n) := by
  unfold laws_heldIntS.f
  have := laws_heldIntS.from_ n m h0 h1 n k 0 (by omega) (by omega) hk
  simpa using this

end Go.Proofs.Ytaeeickboakmgaa.X
