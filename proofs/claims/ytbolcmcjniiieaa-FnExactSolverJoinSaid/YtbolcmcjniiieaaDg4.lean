/- What functions come to, and that they do so; conditions: those that each theorem states. -/
import Derived.Test.YtbolcmcjniiieaaKgK3a
set_option linter.unusedVariables false
set_option linter.unusedSimpArgs false
namespace Go.Proofs.Ytbolcmcjniiieaa.V
open Go Vx Vx.N
/-! ### What is known at the beginning -/
def preN (es : List Eqn) : Nat → Nat → Nat
  | 0, n => n
  | k + 1, n => match (getE es n).2 with
    | true => preN es k (n + 1)
    | false => n
/-- How many of the first blocks are known. -/
def prefE (es : List Eqn) : Nat := preN es 25 0
noncomputable def S_spec_l3Prefix : List DA → Option Sp
  | [.agg [.sc (.int .i64 c), .sc (.int .i64 z), .row (.eqs es)]] => some ⟨solvB c z es, [I (prefE es : Nat)], [], .fresh⟩
  | _ => none
noncomputable def S_impl_Solver_prefix : List DA → Option Sp := S_spec_l3Prefix
noncomputable def getS (c z : Int) (es : List Eqn) (x : Int) : ByteArray × Bool := match solvB c z es with
  | true => getE es x
  | false => (⟨#[]⟩, false)
noncomputable def S_spec_SolverGet : List DA → Option Sp
  | [.agg [.sc (.int .i64 c), .sc (.int .i64 z), .row (.eqs es)], .c (.sc (.int .i64 x))] => some ⟨smE es, [T (getS c z es x).1, B (getS c z es x).2], [], .fresh⟩
  | _ => none
noncomputable def S_impl_SolverGet : List DA → Option Sp := S_spec_SolverGet
noncomputable def prefS (c z : Int) (es : List Eqn) : Nat := match solvB c z es with
  | true => prefE es
  | false => 0
noncomputable def S_spec_SolverPrefix : List DA → Option Sp
  | [.agg [.sc (.int .i64 c), .sc (.int .i64 z), .row (.eqs es)]] => some ⟨smE es, [I (prefS c z es : Nat)], [], .fresh⟩
  | _ => none
noncomputable def S_impl_SolverPrefix : List DA → Option Sp := S_spec_SolverPrefix
noncomputable def rankS (c z : Int) (es : List Eqn) : Nat := match solvB c z es with
  | true => es.length
  | false => 0
noncomputable def S_spec_SolverRank : List DA → Option Sp
  | [.agg [.sc (.int .i64 c), .sc (.int .i64 z), .row (.eqs es)]] => some ⟨smE es, [I (rankS c z es : Nat)], [], .fresh⟩
  | _ => none
noncomputable def S_impl_SolverRank : List DA → Option Sp := S_spec_SolverRank
def rowXorR (a b : List Int) : List Int := match decide (RowP a 24 ∧ RowP b 24) with
  | true => xorL a b
  | false => []
noncomputable def S_impl_RowXor : List DA → Option Sp
  | [.c (.row (.ints .i64 a)), .c (.row (.ints .i64 b))] => some ⟨sm a.length && sm b.length, [Is (rowXorR a b)], [], .mix [.own]⟩
  | _ => none
def blockXorR (a b : ByteArray) : ByteArray × Bool := match decide (a.size = b.size ∧ a.size ≤ 16) with
  | true => (xorB a b, true)
  | false => (⟨#[]⟩, false)
noncomputable def S_impl_BlockXor : List DA → Option Sp
  | [.c (.sc (.string a)), .c (.sc (.string b))] => some ⟨true, [T (blockXorR a b).1, B (blockXorR a b).2], [], .fresh⟩
  | _ => none
noncomputable def S_spec_BlockXor : List DA → Option Sp := S_impl_BlockXor
noncomputable def S_spec_SolverNew : List DA → Option Sp
  | [.c (.sc (.int .i64 c)), .c (.sc (.int .i64 z))] => some ⟨decide ((1 ≤ c ∧ c ≤ 24) ∧ 1 ≤ z ∧ z ≤ 16), [So c z []], [], .fresh⟩
  | _ => none
/-! ### Drawn truths and solvers -/
noncomputable def truthZ (b : List Int) (p : Int) : Int := 1 + pickV b p 4
noncomputable def truthN (b : List Int) (p : Int) : Int := 1 + pickV b (p + 1) 9
noncomputable def truthL (b : List Int) (p z : Int) (n : Nat) : List ByteArray := (List.range n).map fun k => blockD b (p + 2 * z * (k : Nat)) z.toNat
noncomputable def truthD (b : List Int) (p : Int) : List ByteArray := truthL b (p + 2) (truthZ b p) (truthN b p).toNat
noncomputable def truthP (b : List Int) (p : Int) : Int := p + 2 + 2 * truthZ b p * truthN b p
noncomputable def S_spec_l15Truth : List DA → Option Sp
  | [.bx [.row (.ints .u8 b), .sc (.int .i64 p)]] => some ⟨rdOk b p && decide (p < 900000), [Ts (truthD b p)], [rdC b (truthP b p)], .mix [.own]⟩
  | _ => none
noncomputable def solvL (b : List Int) (tr : List ByteArray) (c z : Nat) : Nat → Int → List Eqn → List Eqn
  | 0, _, es => es
  | n + 1, p, es => solvL b tr c z n (p + c) (addE z es (rowD b p c) (sumB tr (rowD b p c) (zerosB z))).1
/-- Blocks that are told of. -/
def trOk (tr : List ByteArray) : Bool := decide (1 ≤ tr.length ∧ tr.length ≤ 24 ∧ 1 ≤ (tr.getD 0 ⟨#[]⟩).size ∧ (tr.getD 0 ⟨#[]⟩).size ≤ 16) && tr.all fun x => decide (x.size = (tr.getD 0 ⟨#[]⟩).size)
noncomputable def solvD (b : List Int) (p : Int) (tr : List ByteArray) : List Eqn := solvL b tr tr.length (tr.getD 0 ⟨#[]⟩).size (pickV b p 12).toNat (p + 1) []
noncomputable def solvP (b : List Int) (p : Int) (tr : List ByteArray) : Int := p + 1 + pickV b p 12 * tr.length
noncomputable def S_spec_l15Solver : List DA → Option Sp
  | [.bx [.row (.ints .u8 b), .sc (.int .i64 p)], .c (.row (.strs tr))] => some ⟨rdOk b p && (trOk tr && decide (p < 900000)), [So tr.length (tr.getD 0 ⟨#[]⟩).size (solvD b p tr)], [rdC b (solvP b p tr)], .fresh⟩
  | _ => none
end Go.Proofs.Ytbolcmcjniiieaa.V
