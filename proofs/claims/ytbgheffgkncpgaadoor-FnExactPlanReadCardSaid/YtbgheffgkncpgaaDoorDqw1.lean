/- What functions come to, and that they do so; conditions: those that each theorem states. -/
import Derived.Test.YtbgheffgkncpgaaDoorKqH0
set_option linter.unusedVariables false
set_option linter.unusedSimpArgs false
namespace Go.Proofs.YtbgheffgkncpgaaDoor.V
open Go Vx Vx.N
/-! ### Plans -/
/-- How many blocks. -/
def cnt (L Z : Int) : Int := (L + Z - 1) / Z
noncomputable def S_spec_l5Count : List DA → Option Sp
  | [.agg [.sc (.int .i64 L), .sc (.int .i64 Z), .row (.ints .i64 _), .row (.ints .i64 _)]] => some ⟨decide (1 ≤ Z ∧ Z ≤ 16 ∧ 0 ≤ L ∧ L < 1000), [I (cnt L Z)], [], .fresh⟩
  | _ => none
noncomputable def S_impl_Plan_count : List DA → Option Sp := S_spec_l5Count
def planAt (n : Int) (W G : List Int) (j : Nat) : Prop := (1 ≤ W.getD j 0 ∧ W.getD j 0 ≤ n) ∧ (0 < j → W.getD (j - 1) 0 < W.getD j 0) ∧ 1 ≤ G.getD j 0 ∧ G.getD j 0 ≤ 99
def planFrom (n : Int) (W G : List Int) (i : Nat) : Prop := ∀ j, i ≤ j → j < W.length → planAt n W G j
/-- A plan in order. -/
def PlanP (L Z : Int) (W G : List Int) : Prop := (1 ≤ L ∧ L ≤ 300) ∧ (1 ≤ Z ∧ Z ≤ 16) ∧ (1 ≤ cnt L Z ∧ cnt L Z ≤ 24) ∧ (1 ≤ W.length ∧ W.length ≤ 3) ∧ G.length = W.length ∧ planFrom (cnt L Z) W G 0 ∧ W.getD (W.length - 1) 0 = cnt L Z
noncomputable def planB (L Z : Int) (W G : List Int) : Bool := cdec (PlanP L Z W G)
noncomputable def S_spec_PlanOk : List DA → Option Sp
  | [.agg [.sc (.int .i64 L), .sc (.int .i64 Z), .row (.ints .i64 W), .row (.ints .i64 G)]] => some ⟨sm W.length && sm G.length, [B (planB L Z W G)], [], .fresh⟩
  | _ => none
noncomputable def S_impl_PlanOk : List DA → Option Sp := S_spec_PlanOk
noncomputable def planCnt (L Z : Int) (W G : List Int) : Int := match planB L Z W G with
  | true => cnt L Z
  | false => 0
noncomputable def S_impl_PlanCount : List DA → Option Sp
  | [.agg [.sc (.int .i64 L), .sc (.int .i64 Z), .row (.ints .i64 W), .row (.ints .i64 G)]] => some ⟨sm W.length && sm G.length, [I (planCnt L Z W G)], [], .fresh⟩
  | _ => none
noncomputable def S_spec_l6Plan : List DA → Option Sp
  | [.agg [.sc (.int .i64 L), .sc (.int .i64 Z), .row (.ints .i64 W), .row (.ints .i64 G)]] => some ⟨sm W.length && sm G.length, [Pl L Z W G], [], .mix [.own, .own]⟩
  | _ => none
noncomputable def S_impl_clonePlan : List DA → Option Sp := S_spec_l6Plan
/-- The plan for a length. -/
def forZ (L : Int) : Int := if L ≤ 192 then 8 else (L + 23) / 24
def forK (L : Int) : Int := (cnt L (forZ L) + 3) / 4
def forW (L : Int) : List Int := if forK L < cnt L (forZ L) then [forK L, cnt L (forZ L)] else [cnt L (forZ L)]
def forG (L : Int) : List Int := if forK L < cnt L (forZ L) then [2, 3] else [1]
noncomputable def S_spec_l5For : List DA → Option Sp
  | [.c (.sc (.int .i64 L))] => some ⟨decide (1 ≤ L ∧ L ≤ 300), [Pl L (forZ L) (forW L) (forG L)], [], .fresh⟩
  | _ => none
end Go.Proofs.YtbgheffgkncpgaaDoor.V
