/- What functions come to, and that they do so; conditions: those that each theorem states. -/
import Derived.Test.YtbolcmcjniiieaaKdK7c
set_option linter.unusedVariables false
set_option linter.unusedSimpArgs false
namespace Go.Proofs.Ytbolcmcjniiieaa.V
open Go Vx Vx.N
/-! ### Two drawn solvers -/
noncomputable def jQ (b : List Int) : Int := (anyR b 0).2.2.2
noncomputable def jT (b : List Int) : List ByteArray × Int := match pickV b (jQ b) 6 == 0 with
  | true => ((truthD b 0).set (pickV b (jQ b + 1) (truthD b 0).length).toNat (blockD b (jQ b + 1 + 1) ((truthD b 0).getD 0 ⟨#[]⟩).size), jQ b + 1 + 1 + 2 * (((truthD b 0).getD 0 ⟨#[]⟩).size : Int))
  | false => (truthD b 0, jQ b + 1)
noncomputable def jT2 (b : List Int) : List ByteArray × Int := match pickV b (jT b).2 12 == 0 with
  | true => (truthD b ((jT b).2 + 1), truthP b ((jT b).2 + 1))
  | false => ((jT b).1, (jT b).2 + 1)
noncomputable def jB (b : List Int) : Int × Int × List Eqn := ((jT2 b).1.length, ((jT2 b).1.getD 0 ⟨#[]⟩).size, solvD b (jT2 b).2 (jT2 b).1)
noncomputable def drawJ (b : List Int) : (Int × Int × List Eqn) × (Int × Int × List Eqn) := (((anyR (b.take 2000) 0).1, (anyR (b.take 2000) 0).2.1, (anyR (b.take 2000) 0).2.2.1), jB (b.take 2000))
noncomputable def S_spec_DrawSolverJoin : List DA → Option Sp
  | [.c (.row (.ints .u8 b))] => some ⟨byOk b, [So (drawJ b).1.1 (drawJ b).1.2.1 (drawJ b).1.2.2, So (drawJ b).2.1 (drawJ b).2.2.1 (drawJ b).2.2.2], [], .alias⟩
  | _ => none
end Go.Proofs.Ytbolcmcjniiieaa.V
