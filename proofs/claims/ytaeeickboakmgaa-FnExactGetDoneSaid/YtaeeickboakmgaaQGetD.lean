/- Plain facts about lists and numbers that the claim's proof uses. Conditions: those that each theorem states. -/
import Derived.Test.YtaeeickboakmgaaXx15
import Derived.Test.YtaeeickboakmgaaXx43
import Derived.Test.YtaeeickboakmgaaXx44
import Derived.Test.YtaeeickboakmgaaXx46
import Derived.Test.YtaeeickboakmgaaQGetS
import Derived.Test.YtaeeickboakmgaaQSolvPre
set_option linter.unusedVariables false
set_option linter.unusedSimpArgs false
namespace Go.Proofs.Ytaeeickboakmgaa.X
open Go.RowKit Go.Proofs.YtaeeickboakmgaaW.PrintWords Go.Proofs.YtaeeickboakmgaaW.PrintLast Go.Proofs.YtaeeickboakmgaaW.PrintMore

theorem prefix_full {c z : Int} {es : List EqE} (h : SolverP c z es) {r : Nat} (hr : (r : Int) ≤ c) (h1 : ∀ j : Nat, j < r → (getE es j).2 = true) (h2 : (r : Int) = c ∨ (getE es r).2 = false) : (r : Int) = c ↔ (es.length : Int) = c := by
  constructor
  · intro e
    exact known_full h (fun j hj => h1 j (by omega))
  · intro e
    rcases h2 with h2 | h2
    · exact h2
    · rcases Int.lt_or_eq_of_le hr with h3 | h3
      · have := full_known h e r (by omega)
        rw [h2] at this
        exact absurd this (by simp)
      · exact h3
theorem GetDone.eq (L S : Int) (ws gs : List Int) (c z : Int) (ls : List LawE) (hw : ws.length ≤ 1048576) (hg : gs.length ≤ 1048576) (hl : ls.length ≤ 1048576) (h2 : ∀ x ∈ ls, x.f0.length < 1048577) :
    ∃ b, spec_GetDone.f (bigG ws.length gs.length ls.length) L S ws gs c z (ls.map toE) = some b ∧ impl_GetDone.f (bigG ws.length gs.length ls.length) L S ws gs c z (ls.map toE) = some b := by
  obtain ⟨_, _, _, _, b5⟩ := bigK_ge ls.length
  unfold spec_GetDone.f impl_GetDone.f
  rw [spec_GetOk.eq L S ws gs c z ls hw hg hl h2, impl_GetOk.eq L S ws gs c z ls hw hg hl h2, Option.bind_some, Option.bind_some]
  by_cases hp : GettingP L S ws gs c z (ls.map toE)
  · rw [if_pos (by simpa using hp), if_pos (by simpa using hp), spec_l5Count.eq L S ws gs hp.1.1 hp.1.2.1, Option.bind_some]
    unfold impl_Getting_done.f
    obtain ⟨r, _, p2, p3, p4, p5⟩ := prefix_ok c z _ hp.2.1 (by rw [List.length_map]; omega) (bigG ws.length gs.length ls.length) (by rw [List.length_map]; unfold bigG; omega)
    rw [p2, Option.bind_some, Option.bind_some]
    refine ⟨_, rfl, congrArg some (bool_eq ?_)⟩
    rw [beq_iff_eq, beq_iff_eq, ← hp.2.2.1]
    exact prefix_full hp.2.1 p3 p4 p5
  · rw [if_neg (by simpa using hp), if_neg (by simpa using hp)]
    exact ⟨_, rfl, rfl⟩

end Go.Proofs.Ytaeeickboakmgaa.X
