/- The statement FnExactRowSum over numbers and lists alone: its function answers true. Conditions: those of its statement. -/
import Derived.Test.YtbgheffgkncpgaaXx8
import Derived.Test.YtbgheffgkncpgaaXx11
import Derived.Test.YtbgheffgkncpgaaXx12
import Derived.Test.YtbgheffgkncpgaaXx13
import Derived.Test.YtbgheffgkncpgaaQRSum
import Derived.Test.YtbgheffgkncpgaaQStrS
import Derived.Test.YtbgheffgkncpgaaQIntS
set_option linter.unusedVariables false
set_option linter.unusedSimpArgs false
namespace Go.Proofs.Ytbgheffgkncpgaa.Pure
open Go.Proofs.Ytbgheffgkncpgaa.X
open Go.RowKit Go.Proofs.YtbgheffgkncpgaaW.PrintWords Go.Proofs.YtbgheffgkncpgaaW.PrintLast Go.Proofs.YtbgheffgkncpgaaW.PrintMore

theorem FnExactRowSum (bs : List ByteArray) (row : List Int) (hb : bs.length ≤ maxLen ∧ ∀ x ∈ bs, x.size ≤ maxLen) (hr : row.length ≤ maxLen ∧ ∀ x ∈ row, (Lit.int .i64 x).wf = true) : ∃ k, laws_FnExactRowSum.f k bs row = some true := by
  refine ⟨bs.length + row.length + 101, ?_⟩
  unfold laws_FnExactRowSum.f
  by_cases h1 : (row.length : Int) > 1048576
  · rw [if_pos h1]
  rw [if_neg h1]
  obtain ⟨r, e, hr⟩ := laws_szStringS.ok bs hb.1 hb.2 (bs.length + row.length + 101) (by omega)
  rw [e, Option.bind_some]
  rcases hr with h | ⟨h, h2⟩
  · rw [if_pos h]
  rw [if_neg h]
  have e1 := laws_toStringS.eq bs h2 (bs.length + row.length + 101) (by omega)
  have e2 := laws_toIntS.eq row (by omega) (bs.length + row.length + 101) (by omega)
  have e3 := spec_RowSum.eq bs row (by omega) (by omega) (bs.length + row.length + 101) (by omega)
  have e4 := impl_RowSum.eq bs row (by omega) (by omega) (bs.length + row.length + 101) (by omega)
  simp only [e1, e2, e3, e4, Option.bind_some, if_true, bne_self_eq_false]
  simp only [laws_FnExactRowSum.j0, Bool.false_eq_true, if_false]
  rw [laws_toStringS.eq bs h2 _ (by omega), Option.bind_some, laws_eqStringS.refl bs (by omega) _ (by omega), Option.bind_some, if_pos rfl, laws_toIntS.eq row (by omega) _ (by omega), Option.bind_some, laws_eqIntS.eq row row (by omega) _ (by omega), Option.bind_some]
  simp

end Go.Proofs.Ytbgheffgkncpgaa.Pure
