/- What functions come to, and that they do so; conditions: those that each theorem states. -/
import Derived.Test.YtbgheffgkncpgaaDoorSq
set_option linter.unusedVariables false
set_option linter.unusedSimpArgs false
namespace Go.Proofs.YtbgheffgkncpgaaDoor.V
open Go Vx Vx.N
noncomputable def impl_within_T (n : Int) (low : Int) (high : Int) : Rs := cond (decide (n ≥ low)) (some ([DA.c (SC.sc (Value.bool (decide (n ≤ high))))], [])) (some ([DA.c (SC.sc (Value.bool false))], []))
theorem impl_within_run (N : Nat) (n : Int) (low : Int) (high : Int) : runF (cxOf []) F_impl_within N [DA.c (SC.sc (Value.int IntKind.i64 n)), DA.c (SC.sc (Value.int IntKind.i64 low)), DA.c (SC.sc (Value.int IntKind.i64 high))] = impl_within_T  n low high := by kernel_rfl
end Go.Proofs.YtbgheffgkncpgaaDoor.V
namespace Go.Proofs.YtbgheffgkncpgaaDoor.V
open Go Vx Vx.N
noncomputable def spec_l1In_T (n : Int) (low : Int) (high : Int) : Rs := cond (decide (n ≥ low)) (some ([DA.c (SC.sc (Value.bool (decide (n ≤ high))))], [])) (some ([DA.c (SC.sc (Value.bool false))], []))
theorem spec_l1In_run (N : Nat) (n : Int) (low : Int) (high : Int) : runF (cxOf []) F_spec_l1In N [DA.c (SC.sc (Value.int IntKind.i64 n)), DA.c (SC.sc (Value.int IntKind.i64 low)), DA.c (SC.sc (Value.int IntKind.i64 high))] = spec_l1In_T  n low high := by kernel_rfl
end Go.Proofs.YtbgheffgkncpgaaDoor.V
