/- What functions come to, and that they do so; conditions: those that each theorem states. -/
import Derived.Test.YtbgheffgkncpgaaDoorKhK16
set_option linter.unusedVariables false
set_option linter.unusedSimpArgs false
namespace Go.Proofs.YtbgheffgkncpgaaDoor.V
open Go Vx Vx.N
noncomputable def laws_FnHashSum_T (code : List Int) : Rs := cond (decide ((↑(List.length code) : Int) > 1048576)) (some ([DA.c (SC.sc (Value.bool true))], [])) (cond (decide (List.length code < 10000000)) (cond (decide (ByteArray.size (drawH code) < 100000000)) (cond (decide (ByteArray.size (drawH code) < 100000000)) (cond (ByteArray.toList (hexS (sumS (drawH code))) == ByteArray.toList (hexS (sumS (drawH code)))) (cond (decide (ByteArray.size (drawH code) < 100000000)) (cond ((↑(ByteArray.size (hexS (sumS (drawH code)))) : Int) == 64) (some ([DA.c (SC.sc (Value.bool true))], [])) (some ([DA.c (SC.sc (Value.bool false))], []))) (none)) (some ([DA.c (SC.sc (Value.bool false))], []))) (none)) (none)) (none))
theorem laws_FnHashSum_run (N : Nat) (code : List Int) : runF (cxOf [(F_spec_DrawHashSum.f, S_spec_DrawHashSum), (F_impl_HashSum.f, S_impl_HashSum), (F_spec_HashSum.f, S_spec_HashSum)]) F_laws_FnHashSum N [DA.c (SC.row (Row.ints IntKind.u8 code))] = laws_FnHashSum_T  code := by kernel_rfl
end Go.Proofs.YtbgheffgkncpgaaDoor.V
