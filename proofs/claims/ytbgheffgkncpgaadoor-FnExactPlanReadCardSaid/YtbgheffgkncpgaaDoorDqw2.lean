/- What functions come to, and that they do so; conditions: those that each theorem states. -/
import Derived.Test.YtbgheffgkncpgaaDoorKqK8a
set_option linter.unusedVariables false
set_option linter.unusedSimpArgs false
namespace Go.Proofs.YtbgheffgkncpgaaDoor.V
open Go Vx Vx.N
/-! ### Plans written: what it comes to -/
/-- What is left, or -1. -/
def szN (left : Int) (n : Nat) : Int := if (n : Int) ≤ left then left - n else -1
def lenOk (n : Nat) : Bool := decide (n ≤ 9223372036854775807)
def leftOk (left : Int) : Bool := decide (0 ≤ left ∧ left ≤ 1048576)
noncomputable def S_laws_szIntS : List DA → Option Sp
  | [.c (.row (.ints .i64 a)), .c (.sc (.int .i64 left))] => some ⟨leftOk left && lenOk a.length, [I (szN left a.length)], [], .fresh⟩
  | _ => none
noncomputable def S_laws_szPlan : List DA → Option Sp
  | [.agg [.sc (.int .i64 _), .sc (.int .i64 _), .row (.ints .i64 W), .row (.ints .i64 G)], .c (.sc (.int .i64 left))] => some ⟨leftOk left && (lenOk W.length && lenOk G.length), [I (szN left (W.length + G.length))], [], .fresh⟩
  | _ => none
noncomputable def S_laws_toIntS : List DA → Option Sp
  | [.c (.row (.ints .i64 a))] => some ⟨sm a.length, [Is a], [], .mix [.own]⟩
  | _ => none
noncomputable def S_laws_toPlan : List DA → Option Sp
  | [.agg [.sc (.int .i64 L), .sc (.int .i64 Z), .row (.ints .i64 W), .row (.ints .i64 G)]] => some ⟨sm W.length && sm G.length, [Pl L Z W G], [], .mix [.own, .own]⟩
  | _ => none
noncomputable def S_laws_eqIntS : List DA → Option Sp
  | [.c (.row (.ints .i64 a)), .c (.row (.ints .i64 b))] => some ⟨sm a.length, [B (decide (a = b))], [], .fresh⟩
  | _ => none
noncomputable def S_laws_eqPlan : List DA → Option Sp
  | [.agg [.sc (.int .i64 L), .sc (.int .i64 Z), .row (.ints .i64 W), .row (.ints .i64 G)], .agg [.sc (.int .i64 L'), .sc (.int .i64 Z'), .row (.ints .i64 W'), .row (.ints .i64 G')]] => some ⟨sm W.length && sm G.length, [B (decide ((L, Z, W, G) = (L', Z', W', G')))], [], .fresh⟩
  | _ => none
/-- A number below a thousand in decimals. -/
def decL (n : Int) : List Int := if n < 10 then [48 + n] else if n < 100 then [48 + n / 10, 48 + n % 10] else [48 + n / 100, 48 + n / 10 % 10, 48 + n % 10]
def decB (n : Int) : ByteArray := strOf (decL n)
noncomputable def S_spec_l1Dec : List DA → Option Sp
  | [.c (.sc (.int .i64 n))] => some ⟨decide (0 ≤ n ∧ n < 10), [T (decB n)], [], .fresh⟩
  | _ => none
noncomputable def S_spec_l1Dec1 : List DA → Option Sp
  | [.c (.sc (.int .i64 n))] => some ⟨decide (0 ≤ n ∧ n < 100), [T (decB n)], [], .fresh⟩
  | _ => none
noncomputable def S_spec_l1Dec2 : List DA → Option Sp
  | [.c (.sc (.int .i64 n))] => some ⟨decide (0 ≤ n ∧ n < 1000), [T (decB n)], [], .fresh⟩
  | _ => none
noncomputable def S_strconv_Itoa : List DA → Option Sp := S_spec_l1Dec2
/-- Texts with another between. -/
def joinN (l : List ByteArray) (sep : ByteArray) : Nat → ByteArray
  | 0 => ⟨#[]⟩
  | n + 1 => (if 0 < n then joinN l sep n ++ sep else joinN l sep n) ++ l.getD n ⟨#[]⟩
def joinB (l : List ByteArray) (sep : ByteArray) : ByteArray := joinN l sep l.length
noncomputable def S_strings_Join : List DA → Option Sp
  | [.c (.row (.strs l)), .c (.sc (.string sep))] => some ⟨decide (l.length ≤ 10 ∧ sep.size ≤ 10) && l.all fun s => decide (s.size ≤ 10), [T (joinB l sep)], [], .fresh⟩
  | _ => none
def comma : ByteArray := ⟨#[44]⟩
def listB (l : List Int) : ByteArray := joinB (l.map decB) comma
def numsOk (l : List Int) : Bool := decide (l.length ≤ 3) && l.all fun n => decide (0 ≤ n ∧ n < 1000)
noncomputable def S_spec_l5List : List DA → Option Sp
  | [.c (.row (.ints .i64 l))] => some ⟨numsOk l, [T (listB l)], [], .fresh⟩
  | _ => none
noncomputable def S_impl_listText : List DA → Option Sp := S_spec_l5List
noncomputable def writeB (L Z : Int) (W G : List Int) : ByteArray := match planB L Z W G with
  | true => decB L ++ ⟨#[47]⟩ ++ decB Z ++ ⟨#[58]⟩ ++ listB W ++ ⟨#[58]⟩ ++ listB G
  | false => ⟨#[]⟩
noncomputable def S_spec_PlanWrite : List DA → Option Sp
  | [.agg [.sc (.int .i64 L), .sc (.int .i64 Z), .row (.ints .i64 W), .row (.ints .i64 G)]] => some ⟨sm W.length && sm G.length, [T (writeB L Z W G)], [], .fresh⟩
  | _ => none
noncomputable def S_impl_PlanWrite : List DA → Option Sp := S_spec_PlanWrite
end Go.Proofs.YtbgheffgkncpgaaDoor.V
