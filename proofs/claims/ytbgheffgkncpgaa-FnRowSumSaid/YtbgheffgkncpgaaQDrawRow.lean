/- Plain facts about lists and numbers that the claim's proof uses. Conditions: those that each theorem states. -/
import Derived.Test.YtbgheffgkncpgaaXx14
import Derived.Test.YtbgheffgkncpgaaQDraw
set_option linter.unusedVariables false
set_option linter.unusedSimpArgs false
namespace Go.Proofs.Ytbgheffgkncpgaa.X
open Go.RowKit Go.Proofs.YtbgheffgkncpgaaW.PrintWords Go.Proofs.YtbgheffgkncpgaaW.PrintLast Go.Proofs.YtbgheffgkncpgaaW.PrintMore

theorem spec_l15Row.from_ (b : List Int) (hb : Bytes b) (c : Nat) (hc : c ≤ 1000) (d : Nat) : ∀ (k i : Nat) (x : List Int) (p : Int), c - i = d → i ≤ c → d + 1 < k → 0 ≤ p → p + d < 900000000 → x.length ≤ i →
    ∃ l : List Int, spec_l15Row.l0 k c x i b p = some (l, p + d) ∧ l.length ≤ c := by
  induction d with
  | zero =>
    intro k i x p hd hi hk hp hp2 hx
    obtain ⟨k, rfl, _⟩ := pos_of (show 0 < k by omega)
    simp only [spec_l15Row.l0]
    rw [if_neg (by omega)]
    exact ⟨x, by simp, by omega⟩
  | succ d ih =>
    intro k i x p hd hi hk hp hp2 hx
    obtain ⟨k, rfl, _⟩ := pos_of (show 0 < k by omega)
    simp only [spec_l15Row.l0]
    obtain ⟨v, e, _⟩ := draws b hb p 3 hp (by omega) (by omega) k (by omega)
    rw [if_pos (by omega), e, Option.bind_some, w64n (by omega)]
    have ep : p + 1 + (d : Int) = p + ((d + 1 : Nat) : Int) := by omega
    by_cases h : v = 0
    · rw [if_pos h, if_pos (by omega), ← ep]
      exact ih k (i + 1) _ _ (by omega) (by omega) (by omega) (by omega) (by omega) (by simp; omega)
    · rw [if_neg h, ← ep]
      exact ih k (i + 1) _ _ (by omega) (by omega) (by omega) (by omega) (by omega) (by omega)
theorem spec_l15Row.ok (b : List Int) (hb : Bytes b) (c : Int) (h0 : 0 ≤ c) (hc : c ≤ 1000) (p : Int) (hp : 0 ≤ p) (hp2 : p < 800000000) (k : Nat) (hk : 1002 < k) :
    ∃ l : List Int, spec_l15Row.f k b p c = some (l, p + c) ∧ l.length ≤ c.toNat := by
  obtain ⟨l, e, h⟩ := spec_l15Row.from_ b hb c.toNat (by omega) c.toNat k 0 [] p (by omega) (by omega) (by omega) hp (by omega) (by simp)
  rw [Int.toNat_of_nonneg h0] at e
  exact ⟨l, e, h⟩
theorem spec_l15BadRow.ok (b : List Int) (hb : Bytes b) (c : Int) (h0 : 0 ≤ c) (hc : c ≤ 1000) (p : Int) (hp : 0 ≤ p) (hp2 : p < 800000000) (k : Nat) (hk : 1002 < k) :
    ∃ l : List Int, spec_l15BadRow.f k b p c = some (l, p + c + 1) ∧ l.length ≤ c.toNat + 1 := by
  obtain ⟨l, e, h⟩ := spec_l15Row.ok b hb c h0 hc p hp hp2 k hk
  obtain ⟨v, e2, _⟩ := draws b hb (p + c) 16 (by omega) (by omega) (by omega) k (by omega)
  unfold spec_l15BadRow.f
  rw [e, Option.bind_some, e2, Option.bind_some]
  dsimp only
  by_cases h1 : v = 0
  · rw [if_pos h1, if_pos (by omega)]
    exact ⟨_, rfl, by simp; omega⟩
  rw [if_neg h1]
  by_cases h2 : v = 1
  · rw [if_pos h2, Option.bind_some, if_pos (by simp; omega)]
    exact ⟨_, rfl, by simp; omega⟩
  rw [if_neg h2]
  by_cases h3 : v = 2
  · rw [if_pos h3, if_pos (by omega)]
    exact ⟨_, rfl, by simp; omega⟩
  rw [if_neg h3]
  exact ⟨_, rfl, by omega⟩

end Go.Proofs.Ytbgheffgkncpgaa.X
