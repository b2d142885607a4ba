/- What functions come to, and that they do so; conditions: those that each theorem states. -/
import Derived.Test.YtbolcmcjniiieaaKdK5
set_option linter.unusedVariables false
set_option linter.unusedSimpArgs false
namespace Go.Proofs.Ytbolcmcjniiieaa.V
open Go Vx Vx.N
/-! ### Drawn solvers, spoilt or not: read off what the function comes to -/
abbrev SolR := Int × Int × List Eqn × Int
noncomputable def spoilR (b : List Int) (p c z : Int) (es : List Eqn) : SolR := match spec_l15SpoilSolver_T b p c z es with
  | some ([.agg [.sc (.int .i64 c), .sc (.int .i64 z), .row (.eqs es)]], [[_, .sc (.int .i64 p)]]) => (c, z, es, p)
  | _ => (0, 0, [], 0)
noncomputable def S_spec_l15SpoilSolver : List DA → Option Sp
  | [.bx [.row (.ints .u8 b), .sc (.int .i64 p)], .agg [.sc (.int .i64 c), .sc (.int .i64 z), .row (.eqs es)]] => some ⟨rdOk b p && (solvB c z es && decide (p < 900000)), [So (spoilR b p c z es).1 (spoilR b p c z es).2.1 (spoilR b p c z es).2.2.1], [rdC b (spoilR b p c z es).2.2.2], .alias⟩
  | _ => none
/-- Where the reader stands behind a drawn solver. -/
noncomputable def anyP (b : List Int) (p : Int) : Int := solvP b (truthP b p) (truthD b p)
noncomputable def anyR (b : List Int) (p : Int) : SolR := match pickV b (anyP b p) 12 == 0 with
  | true => spoilR b (anyP b p + 1) (truthD b p).length ((truthD b p).getD 0 ⟨#[]⟩).size (solvD b (truthP b p) (truthD b p))
  | false => ((truthD b p).length, ((truthD b p).getD 0 ⟨#[]⟩).size, solvD b (truthP b p) (truthD b p), anyP b p + 1)
noncomputable def S_spec_l15AnySolver : List DA → Option Sp
  | [.bx [.row (.ints .u8 b), .sc (.int .i64 p)]] => some ⟨rdOk b p && decide (p < 800000), [So (anyR b p).1 (anyR b p).2.1 (anyR b p).2.2.1, Ts (truthD b p)], [rdC b (anyR b p).2.2.2], .mix [.any, .own]⟩
  | _ => none
noncomputable def saysR (b : List Int) : Int × Int × List Eqn × List Int :=
  ((anyR (b.take 2000) 0).1, (anyR (b.take 2000) 0).2.1, (anyR (b.take 2000) 0).2.2.1, badRowD (b.take 2000) (anyR (b.take 2000) 0).2.2.2 (truthD (b.take 2000) 0).length)
noncomputable def S_spec_DrawSolverSays : List DA → Option Sp
  | [.c (.row (.ints .u8 b))] => some ⟨byOk b, [So (saysR b).1 (saysR b).2.1 (saysR b).2.2.1, Is (saysR b).2.2.2], [], .alias⟩
  | _ => none
noncomputable def getR (b : List Int) : Int × Int × List Eqn × Int :=
  ((anyR (b.take 2000) 0).1, (anyR (b.take 2000) 0).2.1, (anyR (b.take 2000) 0).2.2.1, pickV (b.take 2000) (anyR (b.take 2000) 0).2.2.2 ((truthD (b.take 2000) 0).length + 2) - 1)
noncomputable def S_spec_DrawSolverGet : List DA → Option Sp
  | [.c (.row (.ints .u8 b))] => some ⟨byOk b, [So (getR b).1 (getR b).2.1 (getR b).2.2.1, I (getR b).2.2.2], [], .alias⟩
  | _ => none
end Go.Proofs.Ytbolcmcjniiieaa.V
