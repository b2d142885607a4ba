/- What functions come to, and that they do so; conditions: those that each theorem states. -/
import Derived.Test.YtbolcmcjniiieaaKdK7a
set_option linter.unusedVariables false
set_option linter.unusedSimpArgs false
namespace Go.Proofs.Ytbolcmcjniiieaa.V
open Go Vx Vx.N
/-! drawn -/
noncomputable def drawAdd (b : List Int) : Int × Int × List Eqn × List Int × ByteArray := match spec_DrawSolverAdd_T b with
  | some ([.agg [.sc (.int .i64 c), .sc (.int .i64 z), .row (.eqs es)], .c (.row (.ints .i64 row)), .c (.sc (.string t))], _) => (c, z, es, row, t)
  | _ => (0, 0, [], [], ⟨#[]⟩)
noncomputable def S_spec_DrawSolverAdd : List DA → Option Sp
  | [.c (.row (.ints .u8 b))] => some ⟨byOk b, [So (drawAdd b).1 (drawAdd b).2.1 (drawAdd b).2.2.1, Is (drawAdd b).2.2.2.1, T (drawAdd b).2.2.2.2], [], .alias⟩
  | _ => none
end Go.Proofs.Ytbolcmcjniiieaa.V
