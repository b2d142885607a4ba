/- Plain facts about lists and numbers that the claim's proof uses. Conditions: those that each theorem states. -/
import Derived.Test.YtbgheffgkncpgaaXx5
import Derived.Test.YtbgheffgkncpgaaQDraw
import Derived.Test.YtbgheffgkncpgaaQXor
set_option linter.unusedVariables false
set_option linter.unusedSimpArgs false
namespace Go.Proofs.Ytbgheffgkncpgaa.X
open Go.RowKit Go.Proofs.YtbgheffgkncpgaaW.PrintWords Go.Proofs.YtbgheffgkncpgaaW.PrintLast Go.Proofs.YtbgheffgkncpgaaW.PrintMore

theorem spec_l15Block.from_ (b : List Int) (hb : Bytes b) (c : Nat) (hc : c ≤ 100) (d : Nat) : ∀ (k i : Nat) (x : List Int) (p : Int), c - i = d → i ≤ c → d + 1 < k → 0 ≤ p → p + 2 * d < 900000000 → x.length = i →
    ∃ t : ByteArray, spec_l15Block.l0 k c x i b p = some (t, p + 2 * d) ∧ t.size = c := by
  induction d with
  | zero =>
    intro k i x p hd hi hk hp hp2 hx
    obtain ⟨k, rfl, _⟩ := pos_of (show 0 < k by omega)
    simp only [spec_l15Block.l0]
    rw [if_neg (by omega)]
    exact ⟨strOfNums x, by simp, by rw [strOfNums_size]; omega⟩
  | succ d ih =>
    intro k i x p hd hi hk hp hp2 hx
    obtain ⟨k, rfl, _⟩ := pos_of (show 0 < k by omega)
    simp only [spec_l15Block.l0]
    obtain ⟨v, e, _⟩ := draws b hb p 4 hp (by omega) (by omega) k (by omega)
    obtain ⟨u, e2, _⟩ := draws b hb (p + 1) 80 (by omega) (by omega) (by omega) k (by omega)
    rw [if_pos (by omega), e, Option.bind_some]
    dsimp only
    rw [e2, Option.bind_some, w64n (by omega), if_pos (by omega)]
    have ep : p + 1 + 1 + 2 * (d : Int) = p + 2 * ((d + 1 : Nat) : Int) := by omega
    rw [← ep]
    exact ih k (i + 1) _ _ (by omega) (by omega) (by omega) (by omega) (by omega) (by simp; omega)
theorem spec_l15Block.ok (b : List Int) (hb : Bytes b) (c : Int) (h0 : 0 ≤ c) (hc : c ≤ 100) (p : Int) (hp : 0 ≤ p) (hp2 : p < 800000000) (k : Nat) (hk : 200 < k) :
    ∃ t : ByteArray, spec_l15Block.f k b p c = some (t, p + 2 * c) ∧ (t.size : Int) = c := by
  obtain ⟨t, e, h⟩ := spec_l15Block.from_ b hb c.toNat (by omega) c.toNat k 0 [] p (by omega) (by omega) (by omega) hp (by omega) (by simp)
  rw [Int.toNat_of_nonneg h0] at e
  exact ⟨t, e, by omega⟩

end Go.Proofs.Ytbgheffgkncpgaa.X
