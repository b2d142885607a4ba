/- The statement FnBlockXor over numbers and lists alone: its function answers true. Conditions: those of its statement. -/
import Derived.Test.YtbgheffgkncpgaaXx1
import Derived.Test.YtbgheffgkncpgaaXx2
import Derived.Test.YtbgheffgkncpgaaXx3
import Derived.Test.YtbgheffgkncpgaaXx5
import Derived.Test.YtbgheffgkncpgaaXx6
import Derived.Test.YtbgheffgkncpgaaXx7
import Derived.Test.YtbgheffgkncpgaaQBXor
import Derived.Test.YtbgheffgkncpgaaQDrawBlk
set_option linter.unusedVariables false
set_option linter.unusedSimpArgs false
namespace Go.Proofs.Ytbgheffgkncpgaa.Pure
open Go.Proofs.Ytbgheffgkncpgaa.X
open Go.RowKit Go.Proofs.YtbgheffgkncpgaaW.PrintWords Go.Proofs.YtbgheffgkncpgaaW.PrintLast Go.Proofs.YtbgheffgkncpgaaW.PrintMore

theorem drawn_blocks (l : List Int) (h : ∀ x ∈ l, (Lit.int .u8 x).wf = true) (k : Nat) (hk : 1002 < k) : ∃ a b : ByteArray, spec_DrawBlockXor.f k l = some (a, b) := by
  have hb := Bytes.open h
  unfold spec_DrawBlockXor.f
  rw [spec_l1Open.eq, Option.bind_some]
  obtain ⟨v, e, h1, h2⟩ := draws _ hb 0 17 (by omega) (by omega) (by omega) k (by omega)
  obtain ⟨u, e2, _, _⟩ := draws _ hb (0 + 1) 10 (by omega) (by omega) (by omega) k (by omega)
  rw [e, Option.bind_some]
  dsimp only
  rw [e2, Option.bind_some]
  dsimp only
  obtain ⟨a, e3, _⟩ := spec_l15Block.ok _ hb v h1 (by omega) (0 + 1 + 1) (by omega) (by omega) k (by omega)
  obtain ⟨c, e4, _⟩ := spec_l15Block.ok _ hb (v + 1) (by omega) (by omega) (0 + 1 + 1 + 2 * v) (by omega) (by omega) k (by omega)
  obtain ⟨c', e5, _⟩ := spec_l15Block.ok _ hb v (by omega) (by omega) (0 + 1 + 1 + 2 * v) (by omega) (by omega) k (by omega)
  by_cases hu : u = 0
  · rw [if_pos hu, e3, Option.bind_some]
    dsimp only
    rw [w64 (by omega) (by omega), e4]
    exact ⟨_, _, rfl⟩
  · rw [if_neg hu, e3, Option.bind_some]
    dsimp only
    rw [e5]
    exact ⟨_, _, rfl⟩
theorem FnBlockXor : laws_FnBlockXor.Pure := by
  intro l _ _ hl
  refine ⟨3000, ?_⟩
  unfold laws_FnBlockXor.f
  by_cases h1 : (l.length : Int) > 1048576
  · rw [if_pos h1]
  rw [if_neg h1]
  obtain ⟨a, b, e⟩ := drawn_blocks l hl 3000 (by omega)
  simp only [e, Option.bind_some, impl_BlockXor.eq, spec_BlockXor.eq a b 3000 (by omega), if_true, bne_self_eq_false, Bool.false_eq_true, if_false]
  simp only [laws_FnBlockXor.j0]
  unfold bxor
  by_cases h : a.size = b.size ∧ a.size ≤ 16
  · have s := xorB_size a b (by omega)
    simp only [if_pos h, Bool.not_true, Bool.false_eq_true, if_false, impl_BlockXor.eq, Option.bind_some, if_true]
    unfold bxor
    rw [if_pos (show (xorB a b).size = b.size ∧ (xorB a b).size ≤ 16 by omega), if_pos (show b.size = a.size ∧ b.size ≤ 16 by omega), xorB_back h.1, xorB_self_comm h.1.symm]
    simp [s]
  · simp only [if_neg h, Bool.not_false, if_true]
    simp

end Go.Proofs.Ytbgheffgkncpgaa.Pure
