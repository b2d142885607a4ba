/- Plain facts about lists and numbers that the claim's proof uses. Conditions: those that each theorem states. -/
import Derived.Test.YtbgheffgkncpgaaXx5
import Derived.Test.YtbgheffgkncpgaaXx14
import Derived.Test.YtbgheffgkncpgaaXx15
import Derived.Test.YtbgheffgkncpgaaQDrawRow
import Derived.Test.YtbgheffgkncpgaaQDrawBlk
set_option linter.unusedVariables false
set_option linter.unusedSimpArgs false
namespace Go.Proofs.Ytbgheffgkncpgaa.X
open Go.RowKit Go.Proofs.YtbgheffgkncpgaaW.PrintWords Go.Proofs.YtbgheffgkncpgaaW.PrintLast Go.Proofs.YtbgheffgkncpgaaW.PrintMore

theorem spec_DrawRowSum.j1_ok (b : List Int) (hb : Bytes b) (c : Int) (h0 : 0 ≤ c) (hc : c ≤ 20) (bs : List ByteArray) (hbs : bs.length ≤ 20) (t : Bool) (ht : t = true → 0 < bs.length) (p : Int) (hp : 0 ≤ p) (hp2 : p < 700000000) (k : Nat) (hk : 2000 < k) :
    ∃ (ys : List ByteArray) (row : List Int), spec_DrawRowSum.j1 k c bs t b p = some (ys, row) ∧ ys.length ≤ 20 ∧ row.length ≤ 100 := by
  obtain ⟨k, rfl, _⟩ := pos_of (show 0 < k by omega)
  cases t with
  | false =>
    simp only [spec_DrawRowSum.j1, Bool.false_eq_true, if_false]
    obtain ⟨l, e, h⟩ := spec_l15BadRow.ok b hb (bs.length : Int) (by omega) (by omega) p hp (by omega) k (by omega)
    rw [e]
    exact ⟨bs, l, rfl, hbs, by omega⟩
  | true =>
    have hpos := ht rfl
    simp only [spec_DrawRowSum.j1, if_true]
    obtain ⟨v, e, h1, h2⟩ := draws b hb p (bs.length : Int) hp (by omega) (by omega) k (by omega)
    rw [e, Option.bind_some]
    dsimp only
    obtain ⟨x, e2, _⟩ := spec_l15Block.ok b hb (c + 1) (by omega) (by omega) (p + 1) (by omega) (by omega) k (by omega)
    rw [w64 (by omega) (by omega), e2, Option.bind_some]
    dsimp only
    obtain ⟨l, e3, h⟩ := spec_l15BadRow.ok b hb (bs.length : Int) (by omega) (by omega) (p + 1 + 2 * (c + 1)) (by omega) (by omega) k (by omega)
    rw [if_pos h1, if_pos h2, e3]
    exact ⟨_, l, rfl, by rw [List.length_set]; exact hbs, by omega⟩
theorem spec_DrawRowSum.from_ (b : List Int) (hb : Bytes b) (c : Int) (h0 : 0 ≤ c) (hc : c ≤ 20) (n : Nat) : ∀ (k : Nat) (bs : List ByteArray) (p : Int), bs.length + n ≤ 20 → 2010 + n < k → 0 ≤ p → p + 50 * n < 600000000 →
    ∃ (ys : List ByteArray) (row : List Int), spec_DrawRowSum.l0 k c bs n b p = some (ys, row) ∧ ys.length ≤ 20 ∧ row.length ≤ 100 := by
  induction n with
  | zero =>
    intro k bs p hbs hk hp hp2
    obtain ⟨k, rfl, _⟩ := pos_of (show 0 < k by omega)
    simp only [spec_DrawRowSum.l0]
    rw [if_neg (by omega)]
    by_cases h : (bs.length : Int) > 0
    · rw [if_pos h]
      obtain ⟨v, e, h1, h2⟩ := draws b hb p 12 hp (by omega) (by omega) k (by omega)
      rw [e, Option.bind_some]
      exact spec_DrawRowSum.j1_ok b hb c h0 hc bs (by omega) (v == 0) (fun _ => by omega) (p + 1) (by omega) (by omega) k (by omega)
    · rw [if_neg h]
      exact spec_DrawRowSum.j1_ok b hb c h0 hc bs (by omega) false (fun h => by cases h) p hp (by omega) k (by omega)
  | succ n ih =>
    intro k bs p hbs hk hp hp2
    obtain ⟨k, rfl, _⟩ := pos_of (show 0 < k by omega)
    simp only [spec_DrawRowSum.l0]
    obtain ⟨x, e2, _⟩ := spec_l15Block.ok b hb c h0 (by omega) p hp (by omega) k (by omega)
    rw [if_pos (by omega), e2, Option.bind_some]
    dsimp only
    have e : wrap64 (((n + 1 : Nat) : Int) - 1) = (n : Int) := by rw [w64 (by omega) (by omega)]; omega
    rw [if_pos (by omega), e]
    exact ih k _ _ (by simp; omega) (by omega) (by omega) (by omega)
theorem spec_DrawRowSum.ok (l : List Int) (h : ∀ x ∈ l, (Lit.int .u8 x).wf = true) (k : Nat) (hk : 3000 < k) : ∃ (ys : List ByteArray) (row : List Int), spec_DrawRowSum.f k l = some (ys, row) ∧ ys.length ≤ 20 ∧ row.length ≤ 100 := by
  have hb := Bytes.open h
  unfold spec_DrawRowSum.f
  rw [spec_l1Open.eq, Option.bind_some]
  dsimp only
  obtain ⟨v, e, h1, h2⟩ := draws _ hb 0 17 (by omega) (by omega) (by omega) k (by omega)
  obtain ⟨u, e2, h3, h4⟩ := draws _ hb (0 + 1) 9 (by omega) (by omega) (by omega) k (by omega)
  rw [e, Option.bind_some]
  dsimp only
  rw [e2, Option.bind_some]
  dsimp only
  have q := spec_DrawRowSum.from_ _ hb v h1 (by omega) u.toNat k [] (0 + 1 + 1) (by simp; omega) (by omega) (by omega) (by omega)
  rw [Int.toNat_of_nonneg h3] at q
  exact q

end Go.Proofs.Ytbgheffgkncpgaa.X
