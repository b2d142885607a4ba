/- Plain facts about lists and numbers that the claim's proof uses. Conditions: those that each theorem states. -/
import Derived.Test.YtbgheffgkncpgaaXx8
import Derived.Test.YtbgheffgkncpgaaQM
set_option linter.unusedVariables false
set_option linter.unusedSimpArgs false
namespace Go.Proofs.Ytbgheffgkncpgaa.X
open Go.RowKit Go.Proofs.YtbgheffgkncpgaaW.PrintWords Go.Proofs.YtbgheffgkncpgaaW.PrintLast Go.Proofs.YtbgheffgkncpgaaW.PrintMore

theorem rdOfS (l : List ByteArray) (i : Nat) : rdOf ByteArray.empty l (i : Int) = l.getD i ByteArray.empty := rfl
theorem getDS {l : List ByteArray} {i : Nat} (h : i < l.length) : l.getD i ByteArray.empty = l[i] := by
  rw [List.getD_eq_getElem?_getD, List.getElem?_eq_getElem h]
  rfl
theorem laws_szStringS.from_ (l : List ByteArray) (hl : l.length ≤ maxLen) (hg : ∀ x ∈ l, x.size ≤ maxLen) (d : Nat) : ∀ (k i : Nat) (n : Int), 0 ≤ n → n ≤ 1048576 → l.length - i = d → i ≤ l.length → d < k →
    ∃ r, laws_szStringS.l0 k l n i = some r ∧ (r < 0 ∨ (0 ≤ r ∧ r ≤ n)) := by
  unfold maxLen at hl hg
  induction d with
  | zero =>
    intro k i n h0 h1 hd hi hk
    obtain ⟨k, rfl, _⟩ := pos_of hk
    simp only [laws_szStringS.l0]
    rw [if_neg (by omega)]
    exact ⟨_, rfl, .inr ⟨h0, Int.le_refl _⟩⟩
  | succ d ih =>
    intro k i n h0 h1 hd hi hk
    obtain ⟨k, rfl, hk'⟩ := pos_of hk
    have hlt : i < l.length := by omega
    have gi := hg _ (List.getElem_mem hlt)
    simp only [laws_szStringS.l0]
    rw [if_pos (by omega), if_pos (by omega), rdOfS, getDS hlt, w64 (by omega) (by omega)]
    by_cases h : n - (l[i].size : Int) < 0
    · rw [if_pos h]
      exact ⟨_, rfl, .inl (by omega)⟩
    · rw [if_neg h, w64n (by omega)]
      obtain ⟨r, e, hr⟩ := ih k (i + 1) (n - (l[i].size : Int)) (by omega) (by omega) (by omega) (by omega) (by omega)
      exact ⟨r, e, hr.imp id fun ⟨h2, h3⟩ => ⟨h2, by omega⟩⟩
theorem laws_szStringS.ok (l : List ByteArray) (hl : l.length ≤ maxLen) (hg : ∀ x ∈ l, x.size ≤ maxLen) (k : Nat) (hk : l.length < k) :
    ∃ r, laws_szStringS.f k l 1048576 = some r ∧ (r < 0 ∨ (¬ r < 0 ∧ l.length ≤ 1048576)) := by
  have hl' := hl
  unfold maxLen at hl'
  unfold laws_szStringS.f
  rw [w64 (by omega) (by omega)]
  by_cases h : 1048576 - (l.length : Int) < 0
  · rw [if_pos h]
    exact ⟨_, rfl, .inl (by omega)⟩
  · rw [if_neg h]
    obtain ⟨r, e, hr⟩ := laws_szStringS.from_ l hl hg l.length k 0 (1048576 - (l.length : Int)) (by omega) (by omega) (by omega) (by omega) hk
    refine ⟨r, e, hr.imp id fun ⟨h2, h3⟩ => ⟨by omega, by omega⟩⟩
theorem laws_toStringS.from_ (l : List ByteArray) (hl : l.length < 9223372036854775807) (d : Nat) : ∀ (k i : Nat) (x : List ByteArray), l.length - i = d → i ≤ l.length → d < k → x.length = l.length → (∀ j, j < i → x[j]? = l[j]?) →
    laws_toStringS.l0 k l x i = some l := by
  induction d with
  | zero =>
    intro k i x hd hi hk hx hj
    obtain ⟨k, rfl, _⟩ := pos_of hk
    simp only [laws_toStringS.l0]
    rw [if_neg (by omega)]
    congr 1
    refine List.ext_getElem? fun j => ?_
    rcases Nat.lt_or_ge j l.length with h | h
    · exact hj j (by omega)
    · rw [List.getElem?_eq_none (by omega), List.getElem?_eq_none h]
  | succ d ih =>
    intro k i x hd hi hk hx hj
    obtain ⟨k, rfl, hk'⟩ := pos_of hk
    have hlt : i < l.length := by omega
    simp only [laws_toStringS.l0]
    rw [if_pos (by omega), if_pos (by omega), if_pos (by omega), rdOfS, getDS hlt, w64n (by omega)]
    refine ih k (i + 1) _ (by omega) (by omega) (by omega) (by simpa using hx) fun j hj' => ?_
    rw [List.getElem?_set]
    by_cases e : (i : Int).toNat = j
    · have e2 : i = j := by omega
      subst e2
      rw [if_pos e, if_pos (by omega), List.getElem?_eq_getElem hlt]
    · rw [if_neg e]
      exact hj j (by omega)
theorem laws_toStringS.eq (l : List ByteArray) (hl : l.length ≤ 1048576) (k : Nat) (hk : l.length < k) : laws_toStringS.f k l = some l := by
  unfold laws_toStringS.f
  rw [if_pos (by omega), if_pos (by omega)]
  exact laws_toStringS.from_ l (by omega) l.length k 0 _ (by omega) (by omega) hk (by simp) (fun j hj => by omega)
theorem laws_eqStringS.from_ (l : List ByteArray) (hl : l.length < 9223372036854775807) (d : Nat) : ∀ (k i : Nat), l.length - i = d → i ≤ l.length → d < k → laws_eqStringS.l0 k l l i = some true := by
  induction d with
  | zero =>
    intro k i hd hi hk
    obtain ⟨k, rfl, _⟩ := pos_of hk
    simp only [laws_eqStringS.l0]
    rw [if_neg (by omega)]
  | succ d ih =>
    intro k i hd hi hk
    obtain ⟨k, rfl, hk'⟩ := pos_of hk
    simp only [laws_eqStringS.l0]
    rw [if_pos (by omega), if_pos (by omega), if_pos (by omega), if_pos trivial, w64n (by omega)]
    exact ih k (i + 1) (by omega) (by omega) (by omega)
theorem laws_eqStringS.refl (l : List ByteArray) (hl : l.length < 9223372036854775807) (k : Nat) (hk : l.length < k) : laws_eqStringS.f k l l = some true := by
  unfold laws_eqStringS.f
  rw [if_pos rfl]
  exact laws_eqStringS.from_ l hl l.length k 0 (by omega) (by omega) hk

end Go.Proofs.Ytbgheffgkncpgaa.X
