/- Plain facts about lists and numbers that the claim's proof uses. Conditions: those that each theorem states. -/
import Derived.Test.YtaeeickboakmgaaXx19
import Derived.Test.YtaeeickboakmgaaXx20
import Derived.Test.YtaeeickboakmgaaQM
set_option linter.unusedVariables false
set_option linter.unusedSimpArgs false
namespace Go.Proofs.Ytaeeickboakmgaa.X
open Go.RowKit Go.Proofs.YtaeeickboakmgaaW.PrintWords Go.Proofs.YtaeeickboakmgaaW.PrintLast Go.Proofs.YtaeeickboakmgaaW.PrintMore

theorem laws_markText.from_ (n : Nat) : ∀ (x : ByteArray), x.size + n < 1000000 → ∃ t, ∀ k, n < k → laws_markText.l0 k (n : Int) x = some t := by
  induction n using Nat.strongRecOn with
  | ind n ih =>
    intro x hx
    by_cases h : n = 0
    · refine ⟨(⟨#[109]⟩ : ByteArray) ++ x, fun k hk => ?_⟩
      obtain ⟨k, rfl, _⟩ := pos_of hk
      simp only [laws_markText.l0]
      rw [if_neg (by omega), if_pos (by omega)]
    · have hd : wrap64 (Int.tdiv (n : Int) 10) = ((n / 10 : Nat) : Int) := by
        rw [Int.tdiv_eq_ediv_of_nonneg (by omega), w64 (by omega) (by omega)]
        omega
      have hs : (strOfNums ([(wrap64 (48 + (Int.tmod (n : Int) 10))) % 256] : List Int)).size = 1 := strOfNums_size _
      obtain ⟨t, ht⟩ := ih (n / 10) (by omega) (strOfNums ([(wrap64 (48 + (Int.tmod (n : Int) 10))) % 256] : List Int) ++ x) (by rw [ByteArray.size_append, hs]; omega)
      refine ⟨t, fun k hk => ?_⟩
      obtain ⟨k, rfl, _⟩ := pos_of hk
      simp only [laws_markText.l0]
      rw [if_pos (by omega), Option.bind_some, if_pos (by rw [hs]; omega), hd]
      exact ht k (by omega)
theorem laws_markText.ok (m : Int) (h0 : 0 ≤ m) (h1 : m < 100000) : ∃ t, ∀ k, m.toNat < k → laws_markText.f k m = some t := by
  by_cases h : m ≤ 0
  · exact ⟨_, fun k _ => by unfold laws_markText.f; rw [if_pos h]⟩
  · obtain ⟨t, ht⟩ := laws_markText.from_ m.toNat (⟨#[]⟩ : ByteArray) (by simp [ByteArray.size]; omega)
    refine ⟨t, fun k hk => ?_⟩
    unfold laws_markText.f
    rw [if_neg h]
    have := ht k hk
    rw [Int.toNat_of_nonneg h0] at this
    exact this
open Classical in
/-- The text that marks number m. -/
noncomputable def mT (m : Int) : ByteArray := if h : ∃ t, ∀ k, m.toNat < k → laws_markText.f k m = some t then h.choose else ByteArray.empty
theorem mT_eq (m : Int) (h0 : 0 ≤ m) (h1 : m < 100000) (k : Nat) (hk : m.toNat < k) : laws_markText.f k m = some (mT m) := by
  have h := laws_markText.ok m h0 h1
  unfold mT
  rw [dif_pos h]
  exact h.choose_spec k hk
noncomputable def marksT (m : Int) (n : Nat) : List ByteArray := (List.range n).map fun j : Nat => mT (m + (j : Int))
theorem marksT_length (m : Int) (n : Nat) : (marksT m n).length = n := by simp [marksT]
theorem marksT_get (m : Int) (n j : Nat) (h : j < n) : (marksT m n)[j]? = some (mT (m + (j : Int))) := by simp [marksT, h]
theorem laws_markStringS.from_ (n : Nat) (m : Int) (h0 : 0 ≤ m) (h1 : m + n < 100000) (d : Nat) : ∀ (k i : Nat) (x : List ByteArray), n - i = d → i ≤ n → 100000 + d < k → x.length = n → (∀ j, j < i → x[j]? = some (mT (m + (j : Int)))) →
    laws_markStringS.l0 k x (m + i) i = some (m + n, marksT m n) := by
  induction d with
  | zero =>
    intro k i x hd hi hk hx hj
    obtain ⟨k, rfl, _⟩ := pos_of (show 0 < k by omega)
    have e : i = n := by omega
    subst e
    simp only [laws_markStringS.l0]
    rw [if_neg (by omega)]
    congr 2
    refine List.ext_getElem? fun j => ?_
    rcases Nat.lt_or_ge j i with h | h
    · rw [hj j h, marksT_get _ _ _ h]
    · rw [List.getElem?_eq_none (by omega), List.getElem?_eq_none (by rw [marksT_length]; omega)]
  | succ d ih =>
    intro k i x hd hi hk hx hj
    obtain ⟨k, rfl, hk'⟩ := pos_of (show 0 < k by omega)
    simp only [laws_markStringS.l0]
    rw [if_pos (by omega), mT_eq (m + i) (by omega) (by omega) k (by omega), Option.bind_some, if_pos (by omega), w64n (by omega), w64 (x := m + i + 1) (by omega) (by omega)]
    rw [show m + (i : Int) + 1 = m + ((i + 1 : Nat) : Int) by omega]
    refine ih k (i + 1) _ (by omega) (by omega) (by omega) (by simpa using hx) fun j hj' => ?_
    rw [List.getElem?_set]
    by_cases e : (i : Int).toNat = j
    · have e2 : i = j := by omega
      subst e2
      rw [if_pos e, if_pos (by omega)]
    · rw [if_neg e]
      exact hj j (by omega)
theorem laws_markStringS.eq (x : List ByteArray) (m : Int) (h0 : 0 ≤ m) (h1 : m + x.length < 100000) (k : Nat) (hk : 100000 + x.length < k) : laws_markStringS.f k x m = some (m + x.length, marksT m x.length) := by
  unfold laws_markStringS.f
  have := laws_markStringS.from_ x.length m h0 h1 x.length k 0 x (by omega) (by omega) hk rfl (fun j hj => by omega)
  simpa using this
theorem laws_heldStringS.from_ (n : Nat) (m : Int) (h0 : 0 ≤ m) (h1 : m + n < 100000) (d : Nat) : ∀ (k i : Nat), n - i = d → i ≤ n → 100000 + d < k →
    laws_heldStringS.l0 k (marksT m n) (m + i) i = some (m + n) := by
  induction d with
  | zero =>
    intro k i hd hi hk
    obtain ⟨k, rfl, _⟩ := pos_of (show 0 < k by omega)
    have e : i = n := by omega
    subst e
    simp only [laws_heldStringS.l0]
    rw [if_neg (by rw [marksT_length]; omega)]
  | succ d ih =>
    intro k i hd hi hk
    obtain ⟨k, rfl, hk'⟩ := pos_of (show 0 < k by omega)
    have hlt : i < (marksT m n).length := by rw [marksT_length]; omega
    have hv : rdOf ByteArray.empty (marksT m n) (i : Int) = mT (m + (i : Int)) := by
      have := marksT_get m n i (by omega)
      show (marksT m n).getD i ByteArray.empty = _
      rw [List.getD_eq_getElem?_getD, this]
      rfl
    simp only [laws_heldStringS.l0]
    rw [if_pos (by omega), if_pos (by omega), hv, mT_eq (m + i) (by omega) (by omega) k (by omega), Option.bind_some, if_pos rfl, w64n (by omega), w64 (x := m + i + 1) (by omega) (by omega)]
    rw [show m + (i : Int) + 1 = m + ((i + 1 : Nat) : Int) by omega]
    exact ih k (i + 1) (by omega) (by omega) (by omega)
theorem laws_heldStringS.eq (n : Nat) (m : Int) (h0 : 0 ≤ m) (h1 : m + n < 100000) (k : Nat) (hk : 100000 + n < k) : laws_heldStringS.f k (marksT m n) m = some (m + n) := by
  unfold laws_heldStringS.f
  have := laws_heldStringS.from_ n m h0 h1 n k 0 (by omega) (by omega) hk
  simpa using this

end Go.Proofs.Ytaeeickboakmgaa.X
