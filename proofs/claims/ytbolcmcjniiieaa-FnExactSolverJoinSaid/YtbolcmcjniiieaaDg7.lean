/- What functions come to, and that they do so; conditions: those that each theorem states. -/
import Derived.Test.YtbolcmcjniiieaaKgK5
set_option linter.unusedVariables false
set_option linter.unusedSimpArgs false
namespace Go.Proofs.Ytbolcmcjniiieaa.V
open Go Vx Vx.N
/-! ### Learning: the program's way and the reference's -/
noncomputable def S_impl_cloneSolver : List DA → Option Sp
  | [.agg [.sc (.int .i64 c), .sc (.int .i64 z), .row (.eqs es)]] => some ⟨smE es, [SoD c z es], [], .mix [.own]⟩
  | _ => none
/-- An equation told to a solver in order. -/
noncomputable def addI (c z : Int) (es : List Eqn) (row : List Int) (t : ByteArray) : List Eqn × Int := match decide (RowP row c ∧ (t.size : Int) = z) with
  | true => addE z es row t
  | false => (es, 3)
noncomputable def S_impl_Solver_add : List DA → Option Sp
  | [.agg [.sc (.int .i64 c), .sc (.int .i64 z), .row (.eqs es)], .c (.row (.ints .i64 row)), .c (.sc (.string t))] => some ⟨solvB c z es && sm row.length, [SoD c z (addI c z es row t).1, I (addI c z es row t).2], [], .mix [.own]⟩
  | _ => none
noncomputable def addS (c z : Int) (es : List Eqn) (row : List Int) (t : ByteArray) : Int × Int × List Eqn × Int := match solvB c z es with
  | true => (c, z, (addI c z es row t).1, (addI c z es row t).2)
  | false => (0, 0, [], 3)
noncomputable def S_spec_SolverAdd : List DA → Option Sp
  | [.agg [.sc (.int .i64 c), .sc (.int .i64 z), .row (.eqs es)], .c (.row (.ints .i64 row)), .c (.sc (.string t))] => some ⟨smE es && sm row.length, [So (addS c z es row t).1 (addS c z es row t).2.1 (addS c z es row t).2.2.1, I (addS c z es row t).2.2.2], [], .alias⟩
  | _ => none
noncomputable def S_impl_SolverAdd : List DA → Option Sp
  | [.agg [.sc (.int .i64 c), .sc (.int .i64 z), .row (.eqs es)], .c (.row (.ints .i64 row)), .c (.sc (.string t))] => some ⟨smE es && sm row.length, [SoD (addS c z es row t).1 (addS c z es row t).2.1 (addS c z es row t).2.2.1, I (addS c z es row t).2.2.2], [], .mix [.own]⟩
  | _ => none
noncomputable def S_impl_SolverNew : List DA → Option Sp := S_spec_SolverNew
noncomputable def S_laws_whInts : List DA → Option Sp
  | [.c (.row (.ints .i64 a)), .c (.row (.ints .i64 b))] => some ⟨sm a.length, [B (decide (a = b))], [], .fresh⟩
  | _ => none
noncomputable def S_laws_whSolver : List DA → Option Sp
  | [.agg [.sc (.int .i64 c), .sc (.int .i64 z), .row (.eqs es)], .agg [.sc (.int .i64 c'), .sc (.int .i64 z'), .row (.eqs es')]] => some ⟨smE es, [B (decide ((c, z, es) = (c', z', es')))], [], .fresh⟩
  | _ => none
/-! joined -/
/-- Told one behind the other; none if one is wrong. -/
noncomputable def joinE (z : Int) : List Eqn → List Eqn → Option (List Eqn)
  | es, [] => some es
  | es, f :: fs => match (addE z es f.1 f.2).2 == 2 with
    | true => none
    | false => joinE z (addE z es f.1 f.2).1 fs
noncomputable def joinS (c z : Int) (es : List Eqn) (c' z' : Int) (es' : List Eqn) : Int × Int × List Eqn × Bool :=
  match (solvB c z es && solvB c' z' es') && decide (c = c' ∧ z = z') with
  | true => match joinE z es es' with
    | some l => (c, z, l, true)
    | none => (0, 0, [], false)
  | false => (0, 0, [], false)
noncomputable def S_spec_SolverJoin : List DA → Option Sp
  | [.agg [.sc (.int .i64 c), .sc (.int .i64 z), .row (.eqs es)], .agg [.sc (.int .i64 c'), .sc (.int .i64 z'), .row (.eqs es')]] => some ⟨smE es && smE es', [So (joinS c z es c' z' es').1 (joinS c z es c' z' es').2.1 (joinS c z es c' z' es').2.2.1, B (joinS c z es c' z' es').2.2.2], [], .alias⟩
  | _ => none
noncomputable def S_impl_SolverJoin : List DA → Option Sp
  | [.agg [.sc (.int .i64 c), .sc (.int .i64 z), .row (.eqs es)], .agg [.sc (.int .i64 c'), .sc (.int .i64 z'), .row (.eqs es')]] => some ⟨smE es && smE es', [SoD (joinS c z es c' z' es').1 (joinS c z es c' z' es').2.1 (joinS c z es c' z' es').2.2.1, B (joinS c z es c' z' es').2.2.2], [], .mix [.own]⟩
  | _ => none
end Go.Proofs.Ytbolcmcjniiieaa.V
