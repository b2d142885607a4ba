/- Plain facts about lists and numbers that the claim's proof uses. Conditions: those that each theorem states. -/
import Derived.Test.YtaeeickboakmgaaXx0
import Derived.Test.YtaeeickboakmgaaXx7
import Derived.Test.YtaeeickboakmgaaXx8
import Derived.Test.YtaeeickboakmgaaXx10
import Derived.Test.YtaeeickboakmgaaQIntS
import Derived.Test.YtaeeickboakmgaaQSolvOk
import Derived.Test.YtaeeickboakmgaaQPlanSz
set_option linter.unusedVariables false
set_option linter.unusedSimpArgs false
namespace Go.Proofs.Ytaeeickboakmgaa.X
open Go.RowKit Go.Proofs.YtaeeickboakmgaaW.PrintWords Go.Proofs.YtaeeickboakmgaaW.PrintLast Go.Proofs.YtaeeickboakmgaaW.PrintMore

abbrev LawE := S102
abbrev zL : LawE := z102
def toE (x : LawE) : EqE := ⟨x.f0, x.f1⟩
theorem rdL_nat (ls : List LawE) (i : Nat) : rd_T102 ls (i : Int) = ls.getD i zL := by simp [rd_T102]
theorem getDL {ls : List LawE} {i : Nat} (h : i < ls.length) : ls.getD i zL = ls[i] := by
  rw [List.getD_eq_getElem?_getD, List.getElem?_eq_getElem h]
  rfl
def goodL (x : LawE) : Prop := (x.f0.length ≤ maxLen ∧ ∀ y ∈ x.f0, (Lit.int .i64 y).wf = true) ∧ x.f1.size ≤ maxLen
theorem laws_szEq.ok (l : List Int) (a : ByteArray) (n : Int) (h0 : 0 ≤ n) (h1 : n ≤ 1048576) (hl : l.length ≤ maxLen) (ha : a.size ≤ maxLen) :
    ∃ r, laws_szEq.f l a n = some r ∧ (r < 0 ∨ (0 ≤ r ∧ r = n - l.length - a.size)) := by
  have ha' := ha
  unfold maxLen at ha'
  unfold laws_szEq.f
  rw [laws_szIntS.eq l n h0 h1 hl, Option.bind_some]
  by_cases h : n - (l.length : Int) < 0
  · rw [if_pos h, if_pos (by omega)]
    exact ⟨_, rfl, .inl (by omega)⟩
  · rw [if_neg h, if_neg h, w64 (by omega) (by omega)]
    by_cases h2 : n - (l.length : Int) - (a.size : Int) < 0
    · rw [if_pos h2]
      exact ⟨_, rfl, .inl (by omega)⟩
    · rw [if_neg h2]
      exact ⟨_, rfl, .inr ⟨by omega, rfl⟩⟩
theorem laws_szEqS.from_ (ls : List LawE) (hl : ls.length ≤ maxLen) (hg : ∀ x ∈ ls, goodL x) (d : Nat) : ∀ (k i : Nat) (n : Int), 0 ≤ n → n ≤ 1048576 → ls.length - i = d → i ≤ ls.length → d < k →
    ∃ r, laws_szEqS.l0 k ls n i = some r ∧ (r < 0 ∨ (0 ≤ r ∧ r ≤ n ∧ ∀ j, i ≤ j → (hj : j < ls.length) → ls[j].f0.length ≤ n ∧ ls[j].f1.size ≤ n)) := by
  unfold maxLen at hl
  induction d with
  | zero =>
    intro k i n h0 h1 hd hi hk
    obtain ⟨k, rfl, _⟩ := pos_of hk
    simp only [laws_szEqS.l0]
    rw [if_neg (by omega)]
    exact ⟨_, rfl, .inr ⟨h0, Int.le_refl _, fun j h2 h3 => by omega⟩⟩
  | succ d ih =>
    intro k i n h0 h1 hd hi hk
    obtain ⟨k, rfl, hk'⟩ := pos_of hk
    have hlt : i < ls.length := by omega
    have gi := hg _ (List.getElem_mem hlt)
    simp only [laws_szEqS.l0]
    rw [if_pos (by omega), if_pos (by omega), rdL_nat, getDL hlt]
    obtain ⟨r, e, hr⟩ := laws_szEq.ok ls[i].f0 ls[i].f1 n h0 h1 gi.1.1 gi.2
    rw [e, Option.bind_some]
    by_cases h : r < 0
    · rw [if_pos h]
      exact ⟨_, rfl, .inl (by omega)⟩
    · rw [if_neg h, w64n (by omega)]
      have hr' := hr.resolve_left h
      obtain ⟨q, e2, hq⟩ := ih k (i + 1) r hr'.1 (by omega) (by omega) (by omega) (by omega)
      refine ⟨q, e2, hq.imp id fun ⟨h3, h4, h5⟩ => ⟨h3, by omega, fun j h6 h7 => ?_⟩⟩
      rcases Nat.eq_or_lt_of_le h6 with rfl | h8
      · omega
      · have := h5 j h8 h7
        omega
theorem laws_szSolver.ok (c z : Int) (ls : List LawE) (n : Int) (h0 : 0 ≤ n) (h1 : n ≤ 1048576) (hl : ls.length ≤ maxLen) (hg : ∀ x ∈ ls, goodL x) (k : Nat) (hk : ls.length < k) :
    ∃ r, laws_szSolver.f k c z ls n = some r ∧ (r < 0 ∨ (0 ≤ r ∧ r ≤ n ∧ ls.length ≤ n ∧ ∀ x ∈ ls, x.f0.length ≤ n ∧ x.f1.size ≤ n)) := by
  have hl' := hl
  unfold maxLen at hl'
  unfold laws_szSolver.f laws_szEqS.f
  rw [w64 (by omega) (by omega)]
  by_cases h : n - (ls.length : Int) < 0
  · rw [if_pos h, Option.bind_some, if_pos (by omega)]
    exact ⟨_, rfl, .inl (by omega)⟩
  · rw [if_neg h]
    obtain ⟨r, e, hr⟩ := laws_szEqS.from_ ls hl hg ls.length k 0 (n - (ls.length : Int)) (by omega) (by omega) (by omega) (by omega) hk
    have e' : laws_szEqS.l0 k ls (n - (ls.length : Int)) 0 = some r := e
    rw [e', Option.bind_some]
    by_cases h2 : r < 0
    · rw [if_pos h2]
      exact ⟨_, rfl, .inl (by omega)⟩
    · rw [if_neg h2]
      obtain ⟨h3, h4, h5⟩ := hr.resolve_left h2
      refine ⟨_, rfl, .inr ⟨h3, by omega, by omega, fun x hx => ?_⟩⟩
      obtain ⟨j, hj, rfl⟩ := List.getElem_of_mem hx
      have := h5 j (Nat.zero_le _) hj
      omega
theorem laws_toEq.eq (l : List Int) (a : ByteArray) (k : Nat) (hl : l.length ≤ 1048576) (hk : l.length < k) : laws_toEq.f k l a = some (l, a) := by
  unfold laws_toEq.f
  rw [laws_toIntS.eq l (by omega) _ hk]
  rfl
theorem laws_toEqS.from_ (ls : List LawE) (hl : ls.length ≤ 1048576) (R : Nat) (hR : ∀ x ∈ ls, x.f0.length < R) (hR2 : R ≤ 1048577) (d : Nat) : ∀ (k i : Nat) (x : List EqE), ls.length - i = d → i ≤ ls.length → R + d < k → x.length = ls.length → (∀ j, j < i → x[j]? = (ls.map toE)[j]?) →
    laws_toEqS.l0 k ls x i = some (ls.map toE) := by
  induction d with
  | zero =>
    intro k i x hd hi hk hx hj
    obtain ⟨k, rfl, _⟩ := pos_of (show 0 < k by omega)
    simp only [laws_toEqS.l0]
    rw [if_neg (by omega)]
    congr 1
    refine List.ext_getElem? fun j => ?_
    rcases Nat.lt_or_ge j ls.length with h | h
    · exact hj j (by omega)
    · rw [List.getElem?_eq_none (by omega), List.getElem?_eq_none (by simpa using h)]
  | succ d ih =>
    intro k i x hd hi hk hx hj
    obtain ⟨k, rfl, hk'⟩ := pos_of (show 0 < k by omega)
    have hlt : i < ls.length := by omega
    have hr := hR _ (List.getElem_mem hlt)
    simp only [laws_toEqS.l0]
    rw [if_pos (by omega), if_pos (by omega), rdL_nat, getDL hlt, laws_toEq.eq _ _ _ (by omega) (by omega), Option.bind_some, if_pos (by omega), w64n (by omega)]
    refine ih k (i + 1) _ (by omega) (by omega) (by omega) (by simpa using hx) fun j hj' => ?_
    rw [List.getElem?_set]
    by_cases e : (i : Int).toNat = j
    · have e2 : i = j := by omega
      subst e2
      rw [if_pos e, if_pos (by omega), List.getElem?_map, List.getElem?_eq_getElem hlt]
      rfl
    · rw [if_neg e]
      exact hj j (by omega)
theorem laws_toSolver.eq (c z : Int) (ls : List LawE) (hl : ls.length ≤ 1048576) (R : Nat) (hR : ∀ x ∈ ls, x.f0.length < R) (hR2 : R ≤ 1048577) (k : Nat) (hk : R + ls.length < k) : laws_toSolver.f k c z ls = some (c, z, ls.map toE) := by
  unfold laws_toSolver.f laws_toEqS.f
  rw [if_pos (by omega), if_pos (by omega)]
  have := laws_toEqS.from_ ls hl R hR hR2 ls.length k 0 (List.replicate (ls.length : Int).toNat zE) (by omega) (by omega) hk (by simp) (fun j hj => by omega)
  have e : laws_toEqS.l0 k ls (List.replicate (ls.length : Int).toNat z84) 0 = some (ls.map toE) := this
  rw [e]
  rfl

end Go.Proofs.Ytaeeickboakmgaa.X
