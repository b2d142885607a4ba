/- What functions come to, and that they do so; conditions: those that each theorem states. -/
import Derived.Test.YtbolcmcjniiieaaKgK4a
set_option linter.unusedVariables false
set_option linter.unusedSimpArgs false
namespace Go.Proofs.Ytbolcmcjniiieaa.V
open Go Vx Vx.N
/-! ### Data of a law: measured, copied, compared -/
/-- What is left, or -1. -/
def szN (left : Int) (n : Nat) : Int := if (n : Int) ≤ left then left - n else -1
def lenOk (n : Nat) : Bool := decide (n ≤ 9223372036854775807)
def leftOk (left : Int) : Bool := decide (0 ≤ left ∧ left ≤ 1048576)
noncomputable def S_laws_szIntS : List DA → Option Sp
  | [.c (.row (.ints .i64 a)), .c (.sc (.int .i64 left))] => some ⟨leftOk left && lenOk a.length, [I (szN left a.length)], [], .fresh⟩
  | _ => none
def szE1 (e : Eqn) : Nat := e.1.length + e.2.size
def lenE (e : Eqn) : Bool := lenOk e.1.length && lenOk e.2.size
noncomputable def S_laws_szEq : List DA → Option Sp
  | [.agg [.row (.ints .i64 r), .sc (.string t)], .c (.sc (.int .i64 left))] => some ⟨leftOk left && lenE (r, t), [I (szN left (szE1 (r, t)))], [], .fresh⟩
  | _ => none
def sumE : List Eqn → Nat
  | [] => 0
  | e :: es => szE1 e + sumE es
def szE (es : List Eqn) : Nat := es.length + sumE es
noncomputable def S_laws_szEqS : List DA → Option Sp
  | [.c (.row (.eqs es)), .c (.sc (.int .i64 left))] => some ⟨leftOk left && (lenOk es.length && es.all lenE), [I (szN left (szE es))], [], .fresh⟩
  | _ => none
noncomputable def S_laws_szSolver : List DA → Option Sp
  | [.agg [.sc (.int .i64 _), .sc (.int .i64 _), .row (.eqs es)], .c (.sc (.int .i64 left))] => some ⟨leftOk left && (lenOk es.length && es.all lenE), [I (szN left (szE es))], [], .fresh⟩
  | _ => none
noncomputable def S_laws_toIntS : List DA → Option Sp
  | [.c (.row (.ints .i64 a))] => some ⟨sm a.length, [Is a], [], .mix [.own]⟩
  | _ => none
noncomputable def S_laws_toEq : List DA → Option Sp
  | [.agg [.row (.ints .i64 r), .sc (.string t)]] => some ⟨sm r.length, [Eq1 r t], [], .mix [.own]⟩
  | _ => none
noncomputable def S_laws_toEqS : List DA → Option Sp
  | [.c (.row (.eqs es))] => some ⟨smE es, [EsD es], [], .mix [.own]⟩
  | _ => none
noncomputable def S_laws_toSolver : List DA → Option Sp
  | [.agg [.sc (.int .i64 c), .sc (.int .i64 z), .row (.eqs es)]] => some ⟨smE es, [SoD c z es], [], .mix [.own]⟩
  | _ => none
noncomputable def S_laws_eqIntS : List DA → Option Sp
  | [.c (.row (.ints .i64 a)), .c (.row (.ints .i64 b))] => some ⟨sm a.length, [B (decide (a = b))], [], .fresh⟩
  | _ => none
noncomputable def S_laws_eqEq : List DA → Option Sp
  | [.agg [.row (.ints .i64 r), .sc (.string t)], .agg [.row (.ints .i64 r'), .sc (.string t')]] => some ⟨sm r.length, [B (decide ((r, t) = (r', t')))], [], .fresh⟩
  | _ => none
noncomputable def S_laws_eqEqS : List DA → Option Sp
  | [.c (.row (.eqs es)), .c (.row (.eqs es'))] => some ⟨smE es, [B (decide (es = es'))], [], .fresh⟩
  | _ => none
noncomputable def S_laws_eqSolver : List DA → Option Sp
  | [.agg [.sc (.int .i64 c), .sc (.int .i64 z), .row (.eqs es)], .agg [.sc (.int .i64 c'), .sc (.int .i64 z'), .row (.eqs es')]] => some ⟨smE es, [B (decide ((c, z, es) = (c', z', es')))], [], .fresh⟩
  | _ => none
end Go.Proofs.Ytbolcmcjniiieaa.V
