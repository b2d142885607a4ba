/- The statement FnSeed over numbers and lists alone: its function answers true. Conditions: those of its statement. -/
import Derived.Test.YtmmpkkjaeakplaaXx2
import Derived.Test.YtmmpkkjaeakplaaXx4
import Derived.Test.YtmmpkkjaeakplaaXx9
import Derived.Test.YtmmpkkjaeakplaaXx10
import Derived.Test.YtmmpkkjaeakplaaQDrawSeed
set_option linter.unusedVariables false
set_option linter.unusedSimpArgs false
namespace Go.Proofs.Ytmmpkkjaeakplaa.Pure
open Go.Proofs.Ytmmpkkjaeakplaa.X
open Go.RowKit Go.Proofs.YtmmpkkjaeakplaaW.PrintWords Go.Proofs.YtmmpkkjaeakplaaW.PrintLast Go.Proofs.YtmmpkkjaeakplaaW.PrintMore

theorem whIn_eq (a b c : Int) : laws_whIn.f a b c = some (decide (b ≤ a ∧ a ≤ c)) := by
  unfold laws_whIn.f
  by_cases h : a ≥ b
  · rw [if_pos h]; congr 1; simp; intro _; omega
  · rw [if_neg h]; congr 1; simp; omega
theorem FnSeed : laws_FnSeed.Pure := by
  intro l _ _ hw
  refine ⟨2, ?_⟩
  unfold laws_FnSeed.f
  by_cases h : (l.length : Int) > 1048576
  · rw [if_pos h]
  · rw [if_neg h]
    obtain ⟨s, n, e, s0, s1, n0, n1⟩ := spec_DrawSeedPick.ok l hw 2 (by decide)
    simp only [e, Option.bind_some, impl_SeedNext.eq, impl_SeedPick.eq, spec_SeedNext.eq, spec_SeedPick.eq, if_true]
    simp only [laws_FnSeed.j0]
    rw [if_neg (by simp)]
    simp only [whIn_eq, Option.bind_some, impl_SeedNext.eq]
    have hx : 0 ≤ (if 0 ≤ s ∧ s ≤ 2147483647 then (s * 1103515245 + 12345) % 2147483648 else 0) ∧ (if 0 ≤ s ∧ s ≤ 2147483647 then (s * 1103515245 + 12345) % 2147483648 else 0) ≤ 2147483647 := by
      split <;> omega
    rw [if_pos (by simpa using hx)]
    have last : (if s < 1 then some true else if s > 2147483647 then some true else some ((if 0 ≤ wrap64 (s - 1) ∧ wrap64 (s - 1) ≤ 2147483647 then (wrap64 (s - 1) * 1103515245 + 12345) % 2147483648 else 0) != (if 0 ≤ s ∧ s ≤ 2147483647 then (s * 1103515245 + 12345) % 2147483648 else 0))) = some true := by
      by_cases h1 : s < 1
      · rw [if_pos h1]
      · rw [if_neg h1]
        by_cases h2 : s > 2147483647
        · rw [if_pos h2]
        · rw [if_neg h2, w64 (by omega) (by omega), if_pos (by omega), if_pos (by omega)]
          congr 1
          rw [bne_iff_ne]
          omega
    by_cases h3 : (if (0 ≤ s ∧ s ≤ 2147483647) ∧ 1 ≤ n ∧ n ≤ 65536 then s / 256 % n else 0) = 0
    · rw [if_pos h3]
      exact last
    · rw [if_neg h3, w64 (by omega) (by omega)]
      have hin : 0 ≤ (if (0 ≤ s ∧ s ≤ 2147483647) ∧ 1 ≤ n ∧ n ≤ 65536 then s / 256 % n else 0) ∧ (if (0 ≤ s ∧ s ≤ 2147483647) ∧ 1 ≤ n ∧ n ≤ 65536 then s / 256 % n else 0) ≤ n - 1 := by
        by_cases h4 : (0 ≤ s ∧ s ≤ 2147483647) ∧ 1 ≤ n ∧ n ≤ 65536
        · rw [if_pos h4]
          have h5 := Int.emod_nonneg (s / 256) (show n ≠ 0 by omega)
          have h6 := Int.emod_lt_of_pos (s / 256) (show 0 < n by omega)
          omega
        · rw [if_neg h4] at h3
          omega
      rw [if_pos (by simpa using hin)]
      exact last

end Go.Proofs.Ytmmpkkjaeakplaa.Pure
