/- What functions come to, and that they do so; conditions: those that each theorem states. -/
import Derived.Test.YtbolcmcjniiieaaKgK7c
set_option linter.unusedVariables false
set_option linter.unusedSimpArgs false
namespace Go.Proofs.Ytbolcmcjniiieaa.V
open Go Vx Vx.N
/-! ### Marks: numbers in turn, texts of numbers -/
/-- Numbers in turn. -/
def upL (k : Int) : Nat → List Int
  | 0 => []
  | n + 1 => k :: upL (k + 1) n
noncomputable def S_laws_markIntS : List DA → Option Sp
  | [.c (.row (.ints .i64 l)), .c (.sc (.int .i64 k))] => some ⟨sm l.length && decide (0 ≤ k ∧ k < 10000000000), [I (k + l.length)], [[.row (.ints .i64 (upL k l.length))]], .write⟩
  | _ => none
noncomputable def heldV (l : List Int) (k : Int) : Int := match decide (l = upL k l.length) with
  | true => k + l.length
  | false => -1
noncomputable def S_laws_heldIntS : List DA → Option Sp
  | [.c (.row (.ints .i64 l)), .c (.sc (.int .i64 k))] => some ⟨sm l.length && decide (0 ≤ k ∧ k < 10000000000), [I (heldV l k)], [], .fresh⟩
  | _ => none
/-- A figure ahead of a text, while there are figures. -/
def digK : Nat → Int → ByteArray → ByteArray
  | 0, _, out => out
  | n + 1, k, out => if k > 0 then digK n (k.tdiv 10) (strOf [IntKind.wrap .u8 (48 + k.tmod 10)] ++ out) else out
def textK (k : Int) : ByteArray := if k ≤ 0 then ⟨#[109, 48]⟩ else ⟨#[109]⟩ ++ digK 20 k ⟨#[]⟩
noncomputable def S_laws_markText : List DA → Option Sp
  | [.c (.sc (.int .i64 k))] => some ⟨decide (0 ≤ k ∧ k < 100000000000), [T (textK k)], [], .fresh⟩
  | _ => none
/-- Equations marked from k on, and the number behind. -/
def markE : List Eqn → Int → List Eqn
  | [], _ => []
  | e :: es, k => (upL k e.1.length, textK (k + e.1.length)) :: markE es (k + e.1.length + 1)
def markK : List Eqn → Int → Int
  | [], k => k
  | e :: es, k => markK es (k + e.1.length + 1)
noncomputable def heldE : List Eqn → Int → Int
  | [], k => k
  | e :: es, k => match decide (heldV e.1 k < 0) with
    | true => -1
    | false => match decide (e.2 = textK (k + e.1.length)) with
      | true => heldE es (k + e.1.length + 1)
      | false => -1
/-- Whole numbers in equations, and the equations. -/
def cntE : List Eqn → Nat
  | [] => 0
  | e :: es => e.1.length + 1 + cntE es
def mkOk (es : List Eqn) (k : Int) : Bool := decide (0 ≤ k ∧ k + cntE es < 1000000000)
noncomputable def S_laws_markEqS : List DA → Option Sp
  | [.c (.row (.deqs es)), .c (.sc (.int .i64 k))] => some ⟨mkOk es k, [I (markK es k)], [[.row (.deqs (markE es k))]], .write⟩
  | _ => none
noncomputable def S_laws_markSolver : List DA → Option Sp
  | [.agg [.sc (.int .i64 _), .sc (.int .i64 _), .row (.deqs es)], .c (.sc (.int .i64 k))] => some ⟨mkOk es k, [I (markK es k)], [[.row (.deqs (markE es k))]], .write⟩
  | _ => none
noncomputable def S_laws_heldEqS : List DA → Option Sp
  | [.c (.row (.eqs es)), .c (.sc (.int .i64 k))] => some ⟨mkOk es k, [I (heldE es k)], [], .fresh⟩
  | _ => none
noncomputable def S_laws_heldSolver : List DA → Option Sp
  | [.agg [.sc (.int .i64 _), .sc (.int .i64 _), .row (.eqs es)], .c (.sc (.int .i64 k))] => some ⟨mkOk es k, [I (heldE es k)], [], .fresh⟩
  | _ => none
end Go.Proofs.Ytbolcmcjniiieaa.V
