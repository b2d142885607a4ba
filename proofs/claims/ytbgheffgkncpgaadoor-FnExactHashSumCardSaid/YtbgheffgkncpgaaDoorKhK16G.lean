/- What functions come to, and that they do so; conditions: those that each theorem states. -/
import Derived.Test.YtbgheffgkncpgaaDoorKhK16
set_option linter.unusedVariables false
set_option linter.unusedSimpArgs false
namespace Go.Proofs.YtbgheffgkncpgaaDoor.V
open Go Vx Vx.N
noncomputable def laws_FnExactHashSum_T (aText : ByteArray) : Rs := cond (decide ((↑(ByteArray.size aText) : Int) > 1048576)) (some ([DA.c (SC.sc (Value.bool true))], [])) (cond (decide (ByteArray.size aText < 100000000)) (cond (decide (ByteArray.size aText < 100000000)) (cond (!ByteArray.toList (hexS (sumS aText)) == ByteArray.toList (hexS (sumS aText))) (some ([DA.c (SC.sc (Value.bool false))], [])) (some ([DA.c (SC.sc (Value.bool true))], []))) (none)) (none))
theorem laws_FnExactHashSum_run (N : Nat) (aText : ByteArray) : runF (cxOf [(F_spec_HashSum.f, S_spec_HashSum), (F_impl_HashSum.f, S_impl_HashSum)]) F_laws_FnExactHashSum N [DA.c (SC.sc (Value.string aText))] = laws_FnExactHashSum_T  aText := by kernel_rfl
end Go.Proofs.YtbgheffgkncpgaaDoor.V
