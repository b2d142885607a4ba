/- What functions come to, and that they do so; conditions: those that each theorem states. -/
import Derived.Test.YtbolcmcjniiieaaKgK1
set_option linter.unusedVariables false
set_option linter.unusedSimpArgs false
namespace Go.Proofs.Ytbolcmcjniiieaa.V
open Go Vx Vx.N
/-! ### Drawing: what a reader is asked -/
/-- A reader that can be asked. -/
def rdOk (b : List Int) (p : Int) : Bool := decide (b.length ≤ 2000 ∧ 0 ≤ p ∧ p < 1000000) && b.all fun x => decide (0 ≤ x ∧ x < 256)
noncomputable def pickV (b : List Int) (p n : Int) : Int := match spec_l1Rd_pick_T b p n with
  | some ([.c (.sc (.int _ x))], _) => x
  | _ => 0
noncomputable def S_spec_l1Rd_pick : List DA → Option Sp
  | [.bx [.row (.ints .u8 b), .sc (.int .i64 p)], .c (.sc (.int .i64 n))] => some ⟨rdOk b p, [I (pickV b p n)], [rdC b (p + 1)], .fresh⟩
  | _ => none
noncomputable def S_spec_l1Open : List DA → Option Sp
  | [.c (.row (.ints .u8 b))] => some ⟨true, [Rd1 (b.take 2000) 0], [], .alias⟩
  | _ => none
/-- A drawn row. -/
noncomputable def rowD (b : List Int) (p : Int) (n : Nat) : List Int := ((List.range n).filter fun i => decide (pickV b (p + (i : Nat)) 3 = 0)).map fun i : Nat => (i : Int)
noncomputable def S_spec_l15Row : List DA → Option Sp
  | [.bx [.row (.ints .u8 b), .sc (.int .i64 p)], .c (.sc (.int .i64 n))] => some ⟨rdOk b p && (rdOk b (p + n) && decide (0 ≤ n ∧ n < 1000)), [Is (rowD b p n.toNat)], [rdC b (p + n)], .mix [.own]⟩
  | _ => none
noncomputable def badRowD (b : List Int) (p : Int) (n : Nat) : List Int :=
  match (pickV b (p + n) 16).toNat with
  | 0 => rowD b p n ++ [(n : Int)]
  | 1 => -1 :: rowD b p n
  | 2 => rowD b p n ++ [0]
  | _ => rowD b p n
noncomputable def S_spec_l15BadRow : List DA → Option Sp
  | [.bx [.row (.ints .u8 b), .sc (.int .i64 p)], .c (.sc (.int .i64 n))] => some ⟨rdOk b p && (rdOk b (p + n) && decide (0 ≤ n ∧ n < 1000)), [Is (badRowD b p n.toNat)], [rdC b (p + n + 1)], .mix [.own]⟩
  | _ => none
/-- A drawn block. -/
noncomputable def blockL (b : List Int) (p : Int) (n : Nat) : List Int := (List.range n).map fun i => IntKind.wrap .u8 (IntKind.wrap .i64 (pickV b (p + 2 * (i : Nat)) 4 * pickV b (p + 2 * (i : Nat) + 1) 80))
noncomputable def blockD (b : List Int) (p : Int) (n : Nat) : ByteArray := strOf (blockL b p n)
noncomputable def S_spec_l15Block : List DA → Option Sp
  | [.bx [.row (.ints .u8 b), .sc (.int .i64 p)], .c (.sc (.int .i64 n))] => some ⟨rdOk b p && (rdOk b (p + 2 * n) && decide (0 ≤ n ∧ n < 1000)), [T (blockD b p n.toNat)], [rdC b (p + 2 * n)], .fresh⟩
  | _ => none
/-! ### Rows and blocks -/
/-- A row of c blocks. -/
def RowP (l : List Int) (c : Int) : Prop := 0 ≤ c ∧ c ≤ 24 ∧ l.Pairwise (· < ·) ∧ ∀ x ∈ l, 0 ≤ x ∧ x < c
instance (l : List Int) (c : Int) : Decidable (RowP l c) := by unfold RowP; infer_instance
noncomputable def S_spec_RowOk : List DA → Option Sp
  | [.c (.row (.ints .i64 l)), .c (.sc (.int .i64 c))] => some ⟨sm l.length, [B (decide (RowP l c))], [], .fresh⟩
  | _ => none
noncomputable def S_impl_RowOk : List DA → Option Sp := S_spec_RowOk
noncomputable def S_spec_l1Many : List DA → Option Sp
  | [.c (.sc (.string s)), .c (.sc (.int .i64 n))] => some ⟨decide (s.data.toList = [0] ∧ 0 ≤ n ∧ n < 100000000), [T (zerosB n.toNat)], [], .fresh⟩
  | _ => none
noncomputable def S_spec_l3Zero : List DA → Option Sp
  | [.c (.sc (.int .i64 n))] => some ⟨decide (0 ≤ n ∧ n < 100000000), [T (zerosB n.toNat)], [], .fresh⟩
  | _ => none
/-- All blocks of a row. -/
def sumB (bl : List ByteArray) (row : List Int) (z : ByteArray) : ByteArray := row.foldl (fun a n => xorB a (bl.getD n.toNat ⟨#[]⟩)) z
noncomputable def S_spec_l2Sum : List DA → Option Sp
  | [.c (.row (.strs bl)), .c (.row (.ints .i64 row)), .c (.sc (.int .i64 n))] => some ⟨decide (0 ≤ n ∧ n < 1000000 ∧ row.length < 1000000) && ((bl.all fun b => decide ((b.size : Int) = n)) && row.all fun x => decide (0 ≤ x ∧ x < bl.length)), [T (sumB bl row (zerosB n.toNat))], [], .fresh⟩
  | _ => none
/-! ### Solvers -/
abbrev Eqn := List Int × ByteArray
/-- An equation's first number. -/
abbrev piv (e : Eqn) : Int := e.1.getD 0 0
def eqAt (c z : Int) (es : List Eqn) (j : Nat) : Prop := RowP (es.getD j eqD).1 c ∧ (es.getD j eqD).1 ≠ [] ∧ ((es.getD j eqD).2.size : Int) = z ∧ (0 < j → piv (es.getD (j - 1) eqD) < piv (es.getD j eqD))
def eqsFrom (c z : Int) (es : List Eqn) (i : Nat) : Prop := ∀ j, i ≤ j → j < es.length → eqAt c z es j
def apart (es : List Eqn) : Prop := ∀ i j, i < es.length → j < es.length → j ≠ i → piv (es.getD i eqD) ∉ (es.getD j eqD).1
/-- A solver in order. -/
def SolverP (c z : Int) (es : List Eqn) : Prop := (1 ≤ c ∧ c ≤ 24) ∧ (1 ≤ z ∧ z ≤ 16) ∧ eqsFrom c z es 0 ∧ apart es
noncomputable def solvB (c z : Int) (es : List Eqn) : Bool := @decide (SolverP c z es) (Classical.propDecidable _)
theorem solvB_iff {c z : Int} {es : List Eqn} : solvB c z es = true ↔ SolverP c z es := by
  unfold solvB
  exact @decide_eq_true_iff _ (Classical.propDecidable _)
/-- Not too long to look at. -/
def smE (es : List Eqn) : Bool := sm es.length && es.all fun e => sm e.1.length
noncomputable def S_spec_SolverOk : List DA → Option Sp
  | [.agg [.sc (.int .i64 c), .sc (.int .i64 z), .row (.eqs es)]] => some ⟨smE es, [B (solvB c z es)], [], .fresh⟩
  | _ => none
noncomputable def S_impl_SolverOk : List DA → Option Sp := S_spec_SolverOk
/-- An equation without the pivots of those before. -/
def redE : List Eqn → List Int → ByteArray → List Int × ByteArray
  | [], r, t => (r, t)
  | e :: es, r, t => match decide (piv e ∈ r) with
    | true => redE es (xorL r e.1) (xorB t e.2)
    | false => redE es r t
noncomputable def S_spec_l3Less : List DA → Option Sp
  | [.agg [.sc (.int .i64 c), .sc (.int .i64 z), .row (.eqs es)], .agg [.row (.ints .i64 r), .sc (.string t)]] => some ⟨solvB c z es && decide (RowP r c ∧ (t.size : Int) = z), [Eq1 (redE es r t).1 (redE es r t).2], [], .alias⟩
  | _ => none
noncomputable def S_impl_Solver_reduce : List DA → Option Sp
  | [.agg [.sc (.int .i64 c), .sc (.int .i64 z), .row (.eqs es)], .c (.sc (.int .u32 m)), .c (.sc (.string t))] => some ⟨solvB c z es && decide ((0 ≤ m ∧ m < 4294967296) ∧ RowP (rowN m.toNat) c ∧ (t.size : Int) = z ∧ m.toNat < 2 ^ 24), [U (maskN (redE es (rowN m.toNat) t).1 : Nat), T (redE es (rowN m.toNat) t).2], [], .fresh⟩
  | _ => none
noncomputable def S_spec_l3Copy : List DA → Option Sp
  | [.agg [.sc (.int .i64 c), .sc (.int .i64 z), .row (.eqs es)]] => some ⟨smE es, [So c z es], [], .mix [.own]⟩
  | _ => none
/-- The data of a block that is known. -/
def getE : List Eqn → Int → ByteArray × Bool
  | [], _ => (⟨#[]⟩, false)
  | e :: es, x => match decide (e.1 = [x]) with
    | true => (e.2, true)
    | false => getE es x
noncomputable def S_spec_l3Get : List DA → Option Sp
  | [.agg [.sc (.int .i64 c), .sc (.int .i64 z), .row (.eqs es)], .c (.sc (.int .i64 x))] => some ⟨smE es, [T (getE es x).1, B (getE es x).2], [], .fresh⟩
  | _ => none
noncomputable def S_impl_Solver_get : List DA → Option Sp := S_spec_l3Get
/-- What a solver says of a row. -/
noncomputable def saysE (c z : Int) (es : List Eqn) (row : List Int) : ByteArray × Bool :=
  match solvB c z es && decide (RowP row c) && decide ((redE es row (zerosB z.toNat)).1 = []) with
  | true => ((redE es row (zerosB z.toNat)).2, true)
  | false => (⟨#[]⟩, false)
noncomputable def S_spec_SolverSays : List DA → Option Sp
  | [.agg [.sc (.int .i64 c), .sc (.int .i64 z), .row (.eqs es)], .c (.row (.ints .i64 row))] => some ⟨smE es && sm row.length, [T (saysE c z es row).1, B (saysE c z es row).2], [], .fresh⟩
  | _ => none
noncomputable def S_impl_SolverSays : List DA → Option Sp := S_spec_SolverSays
/-! an equation learned -/
/-- Rows put together with one, where they hold its pivot. -/
def clearE (e : Eqn) (f : Eqn) : Eqn := match decide (piv e ∈ f.1) with
  | true => (xorL f.1 e.1, xorB f.2 e.2)
  | false => f
/-- Put in, in order. -/
def putE (e : Eqn) : List Eqn → List Eqn
  | [] => [e]
  | f :: fs => match decide (piv f > piv e) with
    | true => e :: f :: fs
    | false => f :: putE e fs
def learnE (es : List Eqn) (e : Eqn) : List Eqn := putE e (es.map (clearE e))
noncomputable def addE (z : Int) (es : List Eqn) (row : List Int) (t : ByteArray) : List Eqn × Int :=
  match decide ((redE es row t).1 = []) with
  | true => (es, match decide ((redE es row t).2 = zerosB z.toNat) with
    | true => 1
    | false => 2)
  | false => (learnE es (redE es row t), 0)
noncomputable def S_spec_l3Add : List DA → Option Sp
  | [.agg [.sc (.int .i64 c), .sc (.int .i64 z), .row (.eqs es)], .c (.row (.ints .i64 row)), .c (.sc (.string t))] => some ⟨solvB c z es && decide (RowP row c ∧ (t.size : Int) = z), [So c z (addE z es row t).1, I (addE z es row t).2], [], .alias⟩
  | _ => none
/-- Bytes as they come in. -/
def byOk (b : List Int) : Bool := b.all fun x => decide (0 ≤ x ∧ x < 256)
end Go.Proofs.Ytbolcmcjniiieaa.V
