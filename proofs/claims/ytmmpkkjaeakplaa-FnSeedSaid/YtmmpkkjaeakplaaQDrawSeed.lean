/- Plain facts about lists and numbers that the claim's proof uses. Conditions: those that each theorem states. -/
import Derived.Test.YtmmpkkjaeakplaaXx8
import Derived.Test.YtmmpkkjaeakplaaXx9
import Derived.Test.YtmmpkkjaeakplaaQDraw
import Derived.Test.YtmmpkkjaeakplaaQSeeds
set_option linter.unusedVariables false
set_option linter.unusedSimpArgs false
namespace Go.Proofs.Ytmmpkkjaeakplaa.X
open Go.RowKit Go.Proofs.YtmmpkkjaeakplaaW.PrintWords Go.Proofs.YtmmpkkjaeakplaaW.PrintLast Go.Proofs.YtmmpkkjaeakplaaW.PrintMore

theorem spec_l15Seed.ok (b : List Int) (hb : Bytes b) (p : Int) (hp0 : 0 ≤ p) (hp : p < 900000000) (k : Nat) (hk : 0 < k) : ∃ s, spec_l15Seed.f k b p = some (s, p + 4) ∧ -1 ≤ s ∧ s ≤ 2147483648 := by
  obtain ⟨v1, e1, a1, b1⟩ := draws b hb p 256 hp0 (by omega) (by decide) k hk
  obtain ⟨v2, e2, a2, b2⟩ := draws b hb (p + 1) 256 (by omega) (by omega) (by decide) k hk
  obtain ⟨v3, e3, a3, b3⟩ := draws b hb (p + 1 + 1) 256 (by omega) (by omega) (by decide) k hk
  obtain ⟨v4, e4, a4, b4⟩ := draws b hb (p + 1 + 1 + 1) 16 (by omega) (by omega) (by decide) k hk
  unfold spec_l15Seed.f
  simp only [e1, e2, e3, e4, Option.bind_some]
  rw [w64 (x := v4 * 5) (by omega) (by omega), Int.tdiv_eq_ediv_of_nonneg (by omega), w64 (x := v4 * 5 / 16) (by omega) (by omega)]
  rw [w64 (x := v1 * 65536) (by omega) (by omega), w64 (x := v2 * 256) (by omega) (by omega), w64 (x := v1 * 65536 + v2 * 256) (by omega) (by omega), w64 (x := v1 * 65536 + v2 * 256 + v3) (by omega) (by omega)]
  rw [if_pos (by omega), if_pos (by simp; omega)]
  refine ⟨_, by rw [show p + 1 + 1 + 1 + 1 = p + 4 by omega], ?_⟩
  obtain ⟨x, hx, e⟩ := rd_ok (l := [v1 * 65536 + v2 * 256 + v3, 2147483647, 0, -1, 2147483648]) (i := v4 * 5 / 16) (by omega) (by simp; omega)
  rw [e]
  simp at hx
  omega
theorem spec_DrawSeedPick.ok (l : List Int) (h : ∀ x ∈ l, (Lit.int .u8 x).wf = true) (k : Nat) (hk : 0 < k) : ∃ s n, spec_DrawSeedPick.f k l = some (s, n) ∧ -1 ≤ s ∧ s ≤ 2147483648 ∧ 0 ≤ n ∧ n ≤ 65537 := by
  have hb := Bytes.open h
  obtain ⟨s, e1, s0, s1⟩ := spec_l15Seed.ok _ hb 0 (by omega) (by omega) k hk
  obtain ⟨v1, e2, a1, b1⟩ := draws _ hb (0 + 4) 30 (by omega) (by omega) (by decide) k hk
  obtain ⟨v2, e3, a2, b2⟩ := draws _ hb (0 + 4 + 1) 12 (by omega) (by omega) (by decide) k hk
  unfold spec_DrawSeedPick.f
  simp only [spec_l1Open.eq, e1, e2, e3, Option.bind_some]
  rw [w64 (x := v2 * 4) (by omega) (by omega), Int.tdiv_eq_ediv_of_nonneg (by omega), w64 (x := v2 * 4 / 12) (by omega) (by omega), w64 (x := 1 + v1) (by omega) (by omega)]
  rw [if_pos (by omega), if_pos (by simp; omega)]
  refine ⟨s, _, rfl, s0, s1, ?_⟩
  obtain ⟨x, hx, e⟩ := rd_ok (l := [1 + v1, 65536, 0, 65537]) (i := v2 * 4 / 12) (by omega) (by simp; omega)
  rw [e]
  simp at hx
  omega

end Go.Proofs.Ytmmpkkjaeakplaa.X
