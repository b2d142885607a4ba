/- Plain facts about lists and numbers that the claim's proof uses. Conditions: those that each theorem states. -/
import Derived.Test.YtmmpkkjaeakplaaXx2
import Derived.Test.YtmmpkkjaeakplaaXx4
import Derived.Test.YtmmpkkjaeakplaaQM
import Derived.Test.YtmmpkkjaeakplaaQRowOk
set_option linter.unusedVariables false
set_option linter.unusedSimpArgs false
namespace Go.Proofs.Ytmmpkkjaeakplaa.X
open Go.RowKit Go.Proofs.YtmmpkkjaeakplaaW.PrintWords Go.Proofs.YtmmpkkjaeakplaaW.PrintLast Go.Proofs.YtmmpkkjaeakplaaW.PrintMore

theorem spec_l4Next.eq (s : Int) (h0 : 0 ≤ s) (h1 : s ≤ 2147483647) : spec_l4Next.f s = some ((s * 1103515245 + 12345) % 2147483648) := by
  unfold spec_l4Next.f
  rw [w64 (x := s * 1103515245) (by omega) (by omega), w64 (by omega) (by omega), Int.tmod_eq_emod_of_nonneg (by omega)]
theorem spec_SeedNext.eq (s : Int) : spec_SeedNext.f s = some (if 0 ≤ s ∧ s ≤ 2147483647 then (s * 1103515245 + 12345) % 2147483648 else 0) := by
  unfold spec_SeedNext.f
  rw [spec_l1In.eq, Option.bind_some]
  by_cases h : 0 ≤ s ∧ s ≤ 2147483647
  · rw [if_pos (by simpa using h), spec_l4Next.eq s h.1 h.2, if_pos h]; rfl
  · rw [if_neg (by simpa using h), if_neg h]
theorem impl_SeedNext.eq (s : Int) : impl_SeedNext.f s = some (if 0 ≤ s ∧ s ≤ 2147483647 then (s * 1103515245 + 12345) % 2147483648 else 0) := by
  unfold impl_SeedNext.f
  rw [impl_within.eq, Option.bind_some]
  by_cases h : 0 ≤ s ∧ s ≤ 2147483647
  · rw [if_pos (by simpa using h), if_pos h, w64 (x := s * 1103515245) (by omega) (by omega), w64 (by omega) (by omega), Int.tmod_eq_emod_of_nonneg (by omega)]
  · rw [if_neg (by simpa using h), if_neg h]
theorem spec_l4Pick.eq (s n : Int) (h0 : 0 ≤ s) (h1 : s ≤ 2147483647) (hn : 1 ≤ n) : spec_l4Pick.f s n = some (s / 256 % n) := by
  unfold spec_l4Pick.f
  rw [if_neg (by omega), Int.tdiv_eq_ediv_of_nonneg h0, w64 (by omega) (by omega), Int.tmod_eq_emod_of_nonneg (by omega)]
theorem spec_SeedPick.eq (s n : Int) : spec_SeedPick.f s n = some (if (0 ≤ s ∧ s ≤ 2147483647) ∧ 1 ≤ n ∧ n ≤ 65536 then s / 256 % n else 0) := by
  unfold spec_SeedPick.f
  rw [spec_l1In.eq, Option.bind_some]
  by_cases h : 0 ≤ s ∧ s ≤ 2147483647
  · rw [if_pos (by simpa using h), spec_l1In.eq, Option.bind_some]
    by_cases hn : 1 ≤ n ∧ n ≤ 65536
    · rw [if_pos (by simpa using hn), spec_l4Pick.eq s n h.1 h.2 hn.1, if_pos ⟨h, hn⟩]; rfl
    · rw [if_neg (by simpa using hn), if_neg (fun x => hn x.2)]
  · rw [if_neg (by simpa using h), if_neg (fun x => h x.1)]
theorem impl_SeedPick.eq (s n : Int) : impl_SeedPick.f s n = some (if (0 ≤ s ∧ s ≤ 2147483647) ∧ 1 ≤ n ∧ n ≤ 65536 then s / 256 % n else 0) := by
  unfold impl_SeedPick.f
  rw [impl_within.eq, Option.bind_some]
  by_cases h : 0 ≤ s ∧ s ≤ 2147483647
  · rw [if_pos (by simpa using h), impl_within.eq, Option.bind_some]
    by_cases hn : 1 ≤ n ∧ n ≤ 65536
    · rw [if_pos (by simpa using hn), if_neg (by omega), if_pos ⟨h, hn⟩, Int.tdiv_eq_ediv_of_nonneg h.1, w64 (by omega) (by omega), Int.tmod_eq_emod_of_nonneg (by omega)]
    · rw [if_neg (by simpa using hn), if_neg (fun x => hn x.2)]
  · rw [if_neg (by simpa using h), if_neg (fun x => h x.1)]

end Go.Proofs.Ytmmpkkjaeakplaa.X
