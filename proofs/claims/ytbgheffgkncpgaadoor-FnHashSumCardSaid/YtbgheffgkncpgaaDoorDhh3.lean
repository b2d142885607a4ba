/- What functions come to, and that they do so; conditions: those that each theorem states. -/
import Derived.Test.YtbgheffgkncpgaaDoorKhK15
set_option linter.unusedVariables false
set_option linter.unusedSimpArgs false
namespace Go.Proofs.YtbgheffgkncpgaaDoor.V
open Go Vx Vx.N
/-! ### The law: texts that are drawn -/
def manyD (s : ByteArray) (n : Int) : ByteArray := if n = 1 then ⟨#[]⟩ ++ s else if n = 2 then ⟨#[]⟩ ++ (s ++ s) else ⟨#[]⟩ ++ s ++ (s ++ s)
noncomputable def S_spec_l1Many : List DA → Option Sp
  | [.c (.sc (.string s)), .c (.sc (.int .i64 n))] => some ⟨decide ((1 ≤ n ∧ n ≤ 3) ∧ s.size < 10000000), [T (manyD s n)], [], .fresh⟩
  | _ => none
def drawH (b : List Int) : ByteArray := manyD (strOf b) (1 + Int.tmod b.length 3)
noncomputable def S_spec_DrawHashSum : List DA → Option Sp
  | [.c (.row (.ints .u8 b))] => some ⟨decide (b.length < 10000000), [T (drawH b)], [], .fresh⟩
  | _ => none
end Go.Proofs.YtbgheffgkncpgaaDoor.V
