/- Plain facts about lists and numbers that the claim's proof uses. Conditions: those that each theorem states. -/
import Derived.Test.YtaeeickboakmgaaXx31
import Derived.Test.YtaeeickboakmgaaXx33
import Derived.Test.YtaeeickboakmgaaQSolvOk
set_option linter.unusedVariables false
set_option linter.unusedSimpArgs false
namespace Go.Proofs.Ytaeeickboakmgaa.X
open Go.RowKit Go.Proofs.YtaeeickboakmgaaW.PrintWords Go.Proofs.YtaeeickboakmgaaW.PrintLast Go.Proofs.YtaeeickboakmgaaW.PrintMore

/-- The data of a block that is known. -/
def getE (es : List EqE) (x : Int) : ByteArray × Bool := match es.find? (fun e => decide (e.f0 = [x])) with | some e => (e.f1, true) | none => ((⟨#[]⟩ : ByteArray), false)
theorem getE_cons (e : EqE) (es : List EqE) (x : Int) : getE (e :: es) x = if e.f0 = [x] then (e.f1, true) else getE es x := by
  unfold getE
  rw [List.find?_cons]
  by_cases h : e.f0 = [x]
  · rw [decide_eq_true h, if_pos h]
  · rw [decide_eq_false h, if_neg h]
theorem one_iff (l : List Int) (x : Int) : l = [x] ↔ (l.length : Int) = 1 ∧ rd l 0 = x := by
  match l with
  | [] => simp
  | [y] => simp [rd]
  | y :: y2 :: l => simp; omega
theorem getE_iff (es : List EqE) (x : Int) : (getE es x).2 = true ↔ ∃ i, i < es.length ∧ (es.getD i zE).f0 = [x] := by
  induction es with
  | nil => simp [getE]
  | cons e es ih =>
    rw [getE_cons]
    by_cases h : e.f0 = [x]
    · rw [if_pos h]
      exact ⟨fun _ => ⟨0, by simp, h⟩, fun _ => rfl⟩
    · rw [if_neg h, ih]
      constructor
      · rintro ⟨i, h1, h2⟩
        exact ⟨i + 1, by simpa using h1, by simpa using h2⟩
      · rintro ⟨i, h1, h2⟩
        cases i with
        | zero => exact absurd h2 h
        | succ i => exact ⟨i, by simpa using h1, by simpa using h2⟩
theorem spec_l3Get.from_ (c z x : Int) (es : List EqE) (hl : es.length < 1073741824) (d : Nat) : ∀ (k i : Nat), es.length - i = d → i ≤ es.length → d < k → spec_l3Get.l0 k x i c z es = some (getE (es.drop i) x) := by
  induction d with
  | zero =>
    intro k i hd hi hk
    obtain ⟨k, rfl, _⟩ := pos_of hk
    simp only [spec_l3Get.l0]
    rw [if_neg (by omega), List.drop_eq_nil_of_le (by omega)]
    rfl
  | succ d ih =>
    intro k i hd hi hk
    obtain ⟨k, rfl, hk'⟩ := pos_of hk
    have hlt : i < es.length := by omega
    simp only [spec_l3Get.l0]
    rw [if_pos (by omega), if_pos (by omega), rdE_nat, getD_lt hlt, List.drop_eq_getElem_cons hlt, getE_cons, w64n (by omega), ih k (i + 1) (by omega) (by omega) (by omega)]
    by_cases h1 : (es[i].f0.length : Int) = 1
    · rw [if_pos h1, if_pos (by omega)]
      by_cases h2 : rd es[i].f0 0 = x
      · rw [if_pos h2, if_pos ((one_iff _ _).2 ⟨h1, h2⟩)]
      · rw [if_neg h2, if_neg (fun h => h2 ((one_iff _ _).1 h).2)]
    · rw [if_neg h1, if_neg (fun h => h1 ((one_iff _ _).1 h).1)]
theorem spec_l3Get.eq (c z x : Int) (es : List EqE) (hl : es.length < 1073741824) (k : Nat) (hk : es.length < k) : spec_l3Get.f k c z es x = some (getE es x) := spec_l3Get.from_ c z x es hl es.length k 0 (by omega) (by omega) hk
theorem impl_Solver_get.from_ (x : Int) (es : List EqE) (hl : es.length < 1073741824) (d : Nat) : ∀ (k i : Nat), es.length - i = d → i ≤ es.length → d < k → impl_Solver_get.l0 k x es (es.length : Int) i = some (getE (es.drop i) x) := by
  induction d with
  | zero =>
    intro k i hd hi hk
    obtain ⟨k, rfl, _⟩ := pos_of hk
    simp only [impl_Solver_get.l0]
    rw [if_neg (by omega), List.drop_eq_nil_of_le (by omega)]
    rfl
  | succ d ih =>
    intro k i hd hi hk
    obtain ⟨k, rfl, hk'⟩ := pos_of hk
    have hlt : i < es.length := by omega
    simp only [impl_Solver_get.l0]
    rw [if_pos (by omega), if_pos (by omega), if_pos (by omega), rdE_nat, getD_lt hlt, List.drop_eq_getElem_cons hlt, getE_cons, w64n (by omega), ih k (i + 1) (by omega) (by omega) (by omega)]
    by_cases h1 : (es[i].f0.length : Int) = 1
    · rw [if_pos h1, if_pos (by omega)]
      by_cases h2 : rd es[i].f0 0 = x
      · rw [if_pos h2, if_pos ((one_iff _ _).2 ⟨h1, h2⟩)]
      · rw [if_neg h2, if_neg (fun h => h2 ((one_iff _ _).1 h).2)]
    · rw [if_neg h1, if_neg (fun h => h1 ((one_iff _ _).1 h).1)]
theorem impl_Solver_get.eq (c z x : Int) (es : List EqE) (hl : es.length < 1073741824) (k : Nat) (hk : es.length < k) : impl_Solver_get.f k c z es x = some (getE es x) := impl_Solver_get.from_ x es hl es.length k 0 (by omega) (by omega) hk

end Go.Proofs.Ytaeeickboakmgaa.X
