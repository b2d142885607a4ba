/- The statement FnRowSum over numbers and lists alone: its function answers true. Conditions: those of its statement. -/
import Derived.Test.YtbgheffgkncpgaaXx1
import Derived.Test.YtbgheffgkncpgaaXx3
import Derived.Test.YtbgheffgkncpgaaXx11
import Derived.Test.YtbgheffgkncpgaaXx15
import Derived.Test.YtbgheffgkncpgaaXx16
import Derived.Test.YtbgheffgkncpgaaXx18
import Derived.Test.YtbgheffgkncpgaaQDrawSum
import Derived.Test.YtbgheffgkncpgaaQRLin
import Derived.Test.YtbgheffgkncpgaaQBXor
set_option linter.unusedVariables false
set_option linter.unusedSimpArgs false
namespace Go.Proofs.Ytbgheffgkncpgaa.Pure
open Go.Proofs.Ytbgheffgkncpgaa.X
open Go.RowKit Go.Proofs.YtbgheffgkncpgaaW.PrintWords Go.Proofs.YtbgheffgkncpgaaW.PrintLast Go.Proofs.YtbgheffgkncpgaaW.PrintMore

theorem FnRowSum : laws_FnRowSum.Pure := by
  intro l m _ _ hl _ _ hm
  refine ⟨5000, ?_⟩
  have skip : laws_FnRowSum.j0 5000 l m true = some true := by simp only [laws_FnRowSum.j0, if_true]
  unfold laws_FnRowSum.f
  by_cases g1 : (l.length : Int) > 1048576
  · rw [if_pos g1]
    exact skip
  rw [if_neg g1]
  by_cases g2 : (m.length : Int) > 1048576
  · rw [decide_eq_true g2]
    exact skip
  rw [decide_eq_false g2]
  simp only [laws_FnRowSum.j0, Bool.false_eq_true, if_false]
  obtain ⟨bs, a, e, hb, ha⟩ := spec_DrawRowSum.ok l hl 4999 (by omega)
  obtain ⟨bs2, b, e2, hb2, hb3⟩ := spec_DrawRowSum.ok m hm 4999 (by omega)
  simp only [e, e2, Option.bind_some, impl_RowSum.eq bs a (by omega) (by omega) 4999 (by omega), spec_RowSum.eq bs a (by omega) (by omega) 4999 (by omega), if_true, bne_self_eq_false, Bool.false_eq_true, if_false]
  simp only [laws_FnRowSum.j1]
  by_cases pa : SumP bs a
  · have r1 : (rsum bs a).2 = true := by unfold rsum; rw [if_pos pa]
    simp only [r1, Bool.not_true, Bool.false_eq_true, if_false]
    rw [impl_RowSum.eq bs b (by omega) (by omega) 4998 (by omega), Option.bind_some]
    by_cases pb : RowP b bs.length
    · obtain ⟨p1, p2, p3, p4⟩ := rsum_xorL pa pb
      have r2 : (rsum bs b).2 = true := by unfold rsum; rw [if_pos p1]
      have ra := row_up pa.2.1
      have rb := row_up pb
      have lx : (xorL a b).length ≤ 24 := asc_length _ (xor_row ra rb).2.2.1 24 (xor_row ra rb).2.2.2
      rw [r2, if_pos rfl, impl_RowXor.eq a b (by omega) (by omega) 4998 (by omega), if_pos ⟨ra, rb⟩, Option.bind_some, impl_RowSum.eq bs _ (by omega) (by omega) 4998 (by omega), Option.bind_some, impl_BlockXor.eq, Option.bind_some, p2]
      have q : bxor (rsum bs a).1 (rsum bs b).1 = (xorB (rsum bs a).1 (rsum bs b).1, true) := if_pos ⟨p3, p4⟩
      rw [q]
      simp
    · have nb : ¬ SumP bs b := fun h => pb h.2.1
      rw [rsum_no nb]
      simp
  · rw [rsum_no pa]
    simp

end Go.Proofs.Ytbgheffgkncpgaa.Pure
