/- What functions come to, and that they do so; conditions: those that each theorem states. -/
import Derived.Test.YthcahoeoofggjaaKeK8a
set_option linter.unusedVariables false
set_option linter.unusedSimpArgs false
namespace Go.Proofs.Ythcahoeoofggjaa.V
open Go Vx Vx.N
/-! ### Drawn plans: read off what the functions come to -/
abbrev PlR := Int × Int × List Int × List Int × Int
noncomputable def planR (b : List Int) (p : Int) : PlR := match spec_l15Plan_T b p with
  | some ([.agg [.sc (.int .i64 L), .sc (.int .i64 Z), .row (.ints .i64 W), .row (.ints .i64 G)]], [[_, .sc (.int .i64 p)]]) => (L, Z, W, G, p)
  | _ => (0, 0, [], [], 0)
noncomputable def S_spec_l15Plan : List DA → Option Sp
  | [.bx [.row (.ints .u8 b), .sc (.int .i64 p)]] => some ⟨rdOk b p && decide (p < 900000), [Pl (planR b p).1 (planR b p).2.1 (planR b p).2.2.1 (planR b p).2.2.2.1], [rdC b (planR b p).2.2.2.2], .fresh⟩
  | _ => none
noncomputable def spoilPR (b : List Int) (p L Z : Int) (W G : List Int) : PlR := match spec_l15SpoilPlan_T b p L Z W G with
  | some ([.agg [.sc (.int .i64 L), .sc (.int .i64 Z), .row (.ints .i64 W), .row (.ints .i64 G)]], [[_, .sc (.int .i64 p)]]) => (L, Z, W, G, p)
  | _ => (0, 0, [], [], 0)
noncomputable def S_spec_l15SpoilPlan : List DA → Option Sp
  | [.bx [.row (.ints .u8 b), .sc (.int .i64 p)], .agg [.sc (.int .i64 L), .sc (.int .i64 Z), .row (.ints .i64 W), .row (.ints .i64 G)]] =>
    some ⟨rdOk b p && decide (p < 900000 ∧ (0 ≤ L ∧ L < 1000 - 20) ∧ (1 ≤ W.length ∧ W.length ≤ 3) ∧ 1 ≤ G.length ∧ G.length ≤ 3), [Pl (spoilPR b p L Z W G).1 (spoilPR b p L Z W G).2.1 (spoilPR b p L Z W G).2.2.1 (spoilPR b p L Z W G).2.2.2.1], [rdC b (spoilPR b p L Z W G).2.2.2.2], .fresh⟩
  | _ => none
noncomputable def anyPR (b : List Int) (p : Int) : PlR := match pickV b (planR b p).2.2.2.2 12 == 0 with
  | true => spoilPR b ((planR b p).2.2.2.2 + 1) (planR b p).1 (planR b p).2.1 (planR b p).2.2.1 (planR b p).2.2.2.1
  | false => ((planR b p).1, (planR b p).2.1, (planR b p).2.2.1, (planR b p).2.2.2.1, (planR b p).2.2.2.2 + 1)
noncomputable def S_spec_l15AnyPlan : List DA → Option Sp
  | [.bx [.row (.ints .u8 b), .sc (.int .i64 p)]] => some ⟨rdOk b p && decide (p < 800000), [Pl (anyPR b p).1 (anyPR b p).2.1 (anyPR b p).2.2.1 (anyPR b p).2.2.2.1], [rdC b (anyPR b p).2.2.2.2], .fresh⟩
  | _ => none
noncomputable def thingL (b : List Int) (p : Int) (n : Nat) : List Int := (List.range n).map fun i => bt ⟨#[97, 98, 99, 100, 101, 102, 103, 104]⟩ (pickV b (p + (i : Nat)) 8)
noncomputable def thingD (b : List Int) (p : Int) (n : Nat) : ByteArray := strOf (thingL b p n)
noncomputable def S_spec_l15Thing : List DA → Option Sp
  | [.bx [.row (.ints .u8 b), .sc (.int .i64 p)], .c (.sc (.int .i64 n))] => some ⟨rdOk b p && decide (n < 1000 ∧ p < 900000), [T (thingD b p n.toNat)], [rdC b (p + (n.toNat : Nat))], .fresh⟩
  | _ => none
noncomputable def cutN (b : List Int) : Int := let P := anyPR (b.take 2000) 0
  let n := match pickV (b.take 2000) P.2.2.2.2 12 == 0 with
    | true => P.1 + 1
    | false => P.1
  if n > 301 then 3 else n
noncomputable def cutR (b : List Int) : Int × Int × List Int × List Int × ByteArray :=
  ((anyPR (b.take 2000) 0).1, (anyPR (b.take 2000) 0).2.1, (anyPR (b.take 2000) 0).2.2.1, (anyPR (b.take 2000) 0).2.2.2.1, thingD (b.take 2000) ((anyPR (b.take 2000) 0).2.2.2.2 + 1) (cutN b).toNat)
noncomputable def S_spec_DrawPlanCut : List DA → Option Sp
  | [.c (.row (.ints .u8 b))] => some ⟨byOk b, [Pl (cutR b).1 (cutR b).2.1 (cutR b).2.2.1 (cutR b).2.2.2.1, T (cutR b).2.2.2.2], [], .fresh⟩
  | _ => none
/-! ### Blocks -/
def allT (L Z : Int) (t : ByteArray) : ByteArray := t ++ zerosB (cnt L Z * Z - L).toNat
def blockT (L Z : Int) (t : ByteArray) (i : Nat) : ByteArray := (allT L Z t).extract (i * Z.toNat) ((i + 1) * Z.toNat)
def cutL (L Z : Int) (t : ByteArray) : List ByteArray := (List.range (cnt L Z).toNat).map (blockT L Z t)
noncomputable def S_spec_l5Cut : List DA → Option Sp
  | [.agg [.sc (.int .i64 L), .sc (.int .i64 Z), .row (.ints .i64 W), .row (.ints .i64 G)], .c (.sc (.string t))] => some ⟨planB L Z W G && decide ((t.size : Int) = L), [Ts (cutL L Z t)], [], .fresh⟩
  | _ => none
noncomputable def cutS (L Z : Int) (W G : List Int) (t : ByteArray) : List ByteArray := match planB L Z W G && decide ((t.size : Int) = L) with
  | true => cutL L Z t
  | false => []
noncomputable def S_impl_PlanCut : List DA → Option Sp
  | [.agg [.sc (.int .i64 L), .sc (.int .i64 Z), .row (.ints .i64 W), .row (.ints .i64 G)], .c (.sc (.string t))] => some ⟨sm W.length && sm G.length, [Ts (cutS L Z W G t)], [], .fresh⟩
  | _ => none
noncomputable def S_spec_PlanCut : List DA → Option Sp := S_impl_PlanCut
noncomputable def S_laws_whWords : List DA → Option Sp
  | [.c (.row (.strs a)), .c (.row (.strs b))] => some ⟨sm a.length, [B (decide (a = b))], [], .fresh⟩
  | _ => none
end Go.Proofs.Ythcahoeoofggjaa.V
