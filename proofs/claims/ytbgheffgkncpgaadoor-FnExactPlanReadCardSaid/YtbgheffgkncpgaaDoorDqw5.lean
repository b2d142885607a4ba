/- What functions come to, and that they do so; conditions: those that each theorem states. -/
import Derived.Test.YtbgheffgkncpgaaDoorKqK17
set_option linter.unusedVariables false
set_option linter.unusedSimpArgs false
namespace Go.Proofs.YtbgheffgkncpgaaDoor.V
open Go Vx Vx.N
/-! ### Plans read: what it comes to -/
/-- A text cut at each byte b. -/
def cutL (b : UInt8) : List UInt8 → List (List UInt8)
  | [] => [[]]
  | c :: r => if c = b then [] :: cutL b r else (c :: (cutL b r).headD []) :: (cutL b r).tail
def ba (l : List UInt8) : ByteArray := ⟨l.toArray⟩
def cutB (b : UInt8) (s : ByteArray) : List ByteArray := (cutL b s.data.toList).map ba
noncomputable def S_spec_l5Cuts : List DA → Option Sp
  | [.c (.sc (.string s)), .c (.sc (.int .u8 b))] => some ⟨decide (s.size < 100000000 ∧ 0 ≤ b ∧ b < 256), [Ts (cutB (UInt8.ofNat b.toNat) s)], [], .mix [.own]⟩
  | _ => none
noncomputable def S_strings_Split : List DA → Option Sp
  | [.c (.sc (.string s)), .c (.sc (.string sep))] => some ⟨decide (s.size < 100000000 ∧ sep.size = 1), [Ts (cutB (UInt8.ofNat (bA sep 0)) s)], [], .fresh⟩
  | _ => none
/-- What lies ahead of the first byte b, and behind it. -/
def aheadL (b : UInt8) (l : List UInt8) : List UInt8 := (cutL b l).headD []
def behindL (b : UInt8) : List UInt8 → List UInt8
  | [] => []
  | c :: r => if c = b then r else behindL b r
noncomputable def S_strings_Cut : List DA → Option Sp
  | [.c (.sc (.string s)), .c (.sc (.string sep))] => some ⟨decide (s.size < 100000000 ∧ sep.size = 1), [T (ba (aheadL (UInt8.ofNat (bA sep 0)) s.data.toList)), T (ba (behindL (UInt8.ofNat (bA sep 0)) s.data.toList)), B (s.data.toList.contains (UInt8.ofNat (bA sep 0)))], [], .fresh⟩
  | _ => none
/-- Figures, from the left. -/
def figs (n : Int) : List UInt8 → Int
  | [] => n
  | c :: r => if 48 ≤ c.toNat ∧ c.toNat ≤ 57 then figs (n * 10 + ((c.toNat : Int) - 48)) r else -1
/-- A number of at most six figures, without noughts ahead; -1 of any other text. -/
def numL (l : List UInt8) : Int := if l.length = 0 ∨ 6 < l.length ∨ (1 < l.length ∧ l.head? = some 48) then -1 else figs 0 l
def numB (s : ByteArray) : Int := numL s.data.toList
noncomputable def S_spec_l5Num : List DA → Option Sp
  | [.c (.sc (.string s))] => some ⟨decide (s.size < 100000000), [I (numB s)], [], .fresh⟩
  | _ => none
noncomputable def S_impl_number : List DA → Option Sp
  | [.c (.sc (.string s))] => some ⟨decide (s.size < 100000000), [I (if numB s < 0 then 0 else numB s), B (decide (0 ≤ numB s))], [], .fresh⟩
  | _ => none
def numsB (s : ByteArray) : List Int := ((cutB 44 s).take 4).map numB
noncomputable def S_spec_l5Nums : List DA → Option Sp
  | [.c (.sc (.string s))] => some ⟨decide (s.size < 100000000), [Is (numsB s)], [], .mix [.own]⟩
  | _ => none
def nums0 (s : ByteArray) : List Int := (cutB 44 s).map fun x => if numB x < 0 then 0 else numB x
noncomputable def S_impl_listRead : List DA → Option Sp
  | [.c (.sc (.string s))] => some ⟨decide (s.size < 100000000), [Is (nums0 s)], [], .mix [.own]⟩
  | _ => none
abbrev PlR := Int × Int × List Int × List Int × Bool
noncomputable def readP (s : ByteArray) : PlR :=
  match cutB 58 s with
  | [h, w, g] => match cutB 47 h with
    | [a, b] => match decide (writeB (numB a) (numB b) (numsB w) (numsB g) = s) with
      | true => (numB a, numB b, numsB w, numsB g, true)
      | false => (0, 0, [], [], false)
    | _ => (0, 0, [], [], false)
  | _ => (0, 0, [], [], false)
noncomputable def S_spec_PlanRead : List DA → Option Sp
  | [.c (.sc (.string s))] => some ⟨decide (s.size < 10000000), [Pl (readP s).1 (readP s).2.1 (readP s).2.2.1 (readP s).2.2.2.1, B (readP s).2.2.2.2], [], .mix [.own, .own]⟩
  | _ => none
noncomputable def S_impl_PlanRead : List DA → Option Sp := S_spec_PlanRead
/-- Numbers in turn. -/
def upL (k : Int) : Nat → List Int
  | 0 => []
  | n + 1 => k :: upL (k + 1) n
noncomputable def S_laws_markIntS : List DA → Option Sp
  | [.c (.row (.ints .i64 l)), .c (.sc (.int .i64 k))] => some ⟨sm l.length && decide (0 ≤ k ∧ k < 10000000000), [I (k + l.length)], [[.row (.ints .i64 (upL k l.length))]], .write⟩
  | _ => none
noncomputable def S_laws_markPlan : List DA → Option Sp
  | [.agg [.sc (.int .i64 _), .sc (.int .i64 _), .row (.ints .i64 W), .row (.ints .i64 G)], .c (.sc (.int .i64 k))] => some ⟨(sm W.length && sm G.length) && decide (0 ≤ k ∧ k < 10), [I (k + W.length + G.length)], [[.row (.ints .i64 (upL k W.length)), .row (.ints .i64 (upL (k + W.length) G.length))]], .write⟩
  | _ => none
noncomputable def heldV (l : List Int) (k : Int) : Int := match decide (l = upL k l.length) with
  | true => k + l.length
  | false => -1
noncomputable def S_laws_heldIntS : List DA → Option Sp
  | [.c (.row (.ints .i64 l)), .c (.sc (.int .i64 k))] => some ⟨sm l.length && decide (0 ≤ k ∧ k < 10000000000), [I (heldV l k)], [], .fresh⟩
  | _ => none
noncomputable def heldP (W G : List Int) (k : Int) : Int := match decide (heldV W k < 0) with
  | true => -1
  | false => heldV G (heldV W k)
noncomputable def S_laws_heldPlan : List DA → Option Sp
  | [.agg [.sc (.int .i64 _), .sc (.int .i64 _), .row (.ints .i64 W), .row (.ints .i64 G)], .c (.sc (.int .i64 k))] => some ⟨(sm W.length && sm G.length) && decide (0 ≤ k ∧ k < 10), [I (heldP W G k)], [], .fresh⟩
  | _ => none
end Go.Proofs.YtbgheffgkncpgaaDoor.V
