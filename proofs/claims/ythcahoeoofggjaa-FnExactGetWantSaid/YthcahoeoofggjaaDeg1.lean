/- What functions come to, and that they do so; conditions: those that each theorem states. -/
import Derived.Test.YthcahoeoofggjaaKeK9b
set_option linter.unusedVariables false
set_option linter.unusedSimpArgs false
namespace Go.Proofs.Ythcahoeoofggjaa.V
open Go Vx Vx.N
/-! ### What is known of a thing -/
abbrev Ge (L Z : Int) (W G : List Int) (c z : Int) (es : List Eqn) : DA := .agg [.sc (.int .i64 L), .sc (.int .i64 Z), .row (.ints .i64 W), .row (.ints .i64 G), .sc (.int .i64 c), .sc (.int .i64 z), .row (.eqs es)]
abbrev smG (W G : List Int) (es : List Eqn) : Bool := (sm W.length && sm G.length) && smE es
noncomputable def getB (L Z : Int) (W G : List Int) (c z : Int) (es : List Eqn) : Bool := (planB L Z W G && solvB c z es) && decide (c = cnt L Z ∧ z = Z)
noncomputable def S_spec_GetOk : List DA → Option Sp
  | [.agg [.sc (.int .i64 L), .sc (.int .i64 Z), .row (.ints .i64 W), .row (.ints .i64 G), .sc (.int .i64 c), .sc (.int .i64 z), .row (.eqs es)]] => some ⟨smG W G es, [B (getB L Z W G c z es)], [], .fresh⟩
  | _ => none
noncomputable def S_impl_GetOk : List DA → Option Sp := S_spec_GetOk
abbrev GeR := Int × Int × List Int × List Int × Int × Int × List Eqn
noncomputable def newG (L Z : Int) (W G : List Int) : GeR := match planB L Z W G with
  | true => (L, Z, W, G, cnt L Z, Z, [])
  | false => (0, 0, [], [], 0, 0, [])
noncomputable def S_spec_GetNew : List DA → Option Sp
  | [.agg [.sc (.int .i64 L), .sc (.int .i64 Z), .row (.ints .i64 W), .row (.ints .i64 G)]] => some ⟨sm W.length && sm G.length, [Ge (newG L Z W G).1 (newG L Z W G).2.1 (newG L Z W G).2.2.1 (newG L Z W G).2.2.2.1 (newG L Z W G).2.2.2.2.1 (newG L Z W G).2.2.2.2.2.1 (newG L Z W G).2.2.2.2.2.2], [], .alias⟩
  | _ => none
noncomputable def S_impl_GetNew : List DA → Option Sp := S_spec_GetNew
noncomputable def S_spec_l6Copy : List DA → Option Sp
  | [.agg [.sc (.int .i64 L), .sc (.int .i64 Z), .row (.ints .i64 W), .row (.ints .i64 G), .sc (.int .i64 c), .sc (.int .i64 z), .row (.eqs es)]] => some ⟨smG W G es, [Ge L Z W G c z es], [], .alias⟩
  | _ => none
noncomputable def S_impl_cloneGet : List DA → Option Sp := S_spec_l6Copy
/-- A symbol told: what is known behind it, and how it was taken. -/
noncomputable def addG (L Z : Int) (W G : List Int) (c z : Int) (es : List Eqn) (id : Int) (t : ByteArray) : GeR × Int := match getB L Z W G c z es with
  | true => match inB id 0 9999 && decide ((t.size : Int) = Z) with
    | true => ((L, Z, W, G, c, z, (addE Z es (rowPl L Z W G id) t).1), (addE Z es (rowPl L Z W G id) t).2)
    | false => ((L, Z, W, G, c, z, es), 3)
  | false => ((0, 0, [], [], 0, 0, []), 3)
noncomputable def S_spec_GetAdd : List DA → Option Sp
  | [.agg [.sc (.int .i64 L), .sc (.int .i64 Z), .row (.ints .i64 W), .row (.ints .i64 G), .sc (.int .i64 c), .sc (.int .i64 z), .row (.eqs es)], .c (.sc (.int .i64 id)), .c (.sc (.string t))] =>
    some ⟨smG W G es, [Ge (addG L Z W G c z es id t).1.1 (addG L Z W G c z es id t).1.2.1 (addG L Z W G c z es id t).1.2.2.1 (addG L Z W G c z es id t).1.2.2.2.1 (addG L Z W G c z es id t).1.2.2.2.2.1 (addG L Z W G c z es id t).1.2.2.2.2.2.1 (addG L Z W G c z es id t).1.2.2.2.2.2.2, I (addG L Z W G c z es id t).2], [], .alias⟩
  | _ => none
noncomputable def S_impl_GetAdd : List DA → Option Sp := S_spec_GetAdd
/-- How many of the first windows are known. -/
def winK : List Int → Int → Nat
  | [], _ => 0
  | w :: W, k => if w ≤ k then winK W k + 1 else 0
noncomputable def S_impl_Getting_windows : List DA → Option Sp
  | [.agg [.sc (.int .i64 _), .sc (.int .i64 _), .row (.ints .i64 W), .row (.ints .i64 _), .sc (.int .i64 c), .sc (.int .i64 z), .row (.eqs es)]] => some ⟨sm W.length && solvB c z es, [I (winK W (prefE es : Nat) : Nat)], [], .fresh⟩
  | _ => none
noncomputable def windS (L Z : Int) (W G : List Int) (c z : Int) (es : List Eqn) : Nat := match getB L Z W G c z es with
  | true => winK W (prefE es : Nat)
  | false => 0
noncomputable def S_impl_GetWindows : List DA → Option Sp
  | [.agg [.sc (.int .i64 L), .sc (.int .i64 Z), .row (.ints .i64 W), .row (.ints .i64 G), .sc (.int .i64 c), .sc (.int .i64 z), .row (.eqs es)]] => some ⟨smG W G es, [I (windS L Z W G c z es : Nat)], [], .fresh⟩
  | _ => none
noncomputable def S_impl_Getting_done : List DA → Option Sp
  | [.agg [.sc (.int .i64 _), .sc (.int .i64 _), .row (.ints .i64 _), .row (.ints .i64 _), .sc (.int .i64 c), .sc (.int .i64 z), .row (.eqs es)]] => some ⟨solvB c z es, [B (decide ((prefE es : Int) = c))], [], .fresh⟩
  | _ => none
noncomputable def doneS (L Z : Int) (W G : List Int) (c z : Int) (es : List Eqn) : Bool := getB L Z W G c z es && decide ((prefE es : Int) = c)
noncomputable def S_impl_GetDone : List DA → Option Sp
  | [.agg [.sc (.int .i64 L), .sc (.int .i64 Z), .row (.ints .i64 W), .row (.ints .i64 G), .sc (.int .i64 c), .sc (.int .i64 z), .row (.eqs es)]] => some ⟨smG W G es, [B (doneS L Z W G c z es)], [], .fresh⟩
  | _ => none
/-- The first blocks that are known, behind each other. -/
def textE (es : List Eqn) : Nat → ByteArray
  | 0 => ⟨#[]⟩
  | n + 1 => textE es n ++ (getE es (n : Nat)).1
noncomputable def textS (L Z : Int) (W G : List Int) (c z : Int) (es : List Eqn) : ByteArray := match getB L Z W G c z es with
  | true => (textE es (prefE es)).extract 0 (min (textE es (prefE es)).size L.toNat)
  | false => ⟨#[]⟩
noncomputable def S_impl_GetText : List DA → Option Sp
  | [.agg [.sc (.int .i64 L), .sc (.int .i64 Z), .row (.ints .i64 W), .row (.ints .i64 G), .sc (.int .i64 c), .sc (.int .i64 z), .row (.eqs es)]] => some ⟨smG W G es, [T (textS L Z W G c z es)], [], .fresh⟩
  | _ => none
noncomputable def S_laws_whPlan : List DA → Option Sp
  | [.agg [.sc (.int .i64 L), .sc (.int .i64 Z), .row (.ints .i64 W), .row (.ints .i64 G)], .agg [.sc (.int .i64 L'), .sc (.int .i64 Z'), .row (.ints .i64 W'), .row (.ints .i64 G')]] => some ⟨sm W.length && sm G.length, [B (decide ((L, Z, W, G) = (L', Z', W', G')))], [], .fresh⟩
  | _ => none
noncomputable def S_laws_whGetting : List DA → Option Sp
  | [.agg [.sc (.int .i64 L), .sc (.int .i64 Z), .row (.ints .i64 W), .row (.ints .i64 G), .sc (.int .i64 c), .sc (.int .i64 z), .row (.eqs es)], .agg [.sc (.int .i64 L'), .sc (.int .i64 Z'), .row (.ints .i64 W'), .row (.ints .i64 G'), .sc (.int .i64 c'), .sc (.int .i64 z'), .row (.eqs es')]] =>
    some ⟨smG W G es, [B (decide ((L, Z, W, G) = (L', Z', W', G')) && decide ((c, z, es) = (c', z', es')))], [], .fresh⟩
  | _ => none
/-- The next number whose symbol tells more. -/
noncomputable def wantN (L Z : Int) (W G : List Int) (c z : Int) (es : List Eqn) : Nat → Int → Int
  | 0, _ => -1
  | k + 1, id => if 9999 < id then -1 else match (saysE c z es (rowPl L Z W G id)).2 with
    | true => wantN L Z W G c z es k (id + 1)
    | false => id
noncomputable def wantS (L Z : Int) (W G : List Int) (c z : Int) (es : List Eqn) (fr : Int) : Int := match getB L Z W G c z es && inB fr 0 9999 with
  | true => wantN L Z W G c z es 100 fr
  | false => -1
noncomputable def S_spec_GetWant : List DA → Option Sp
  | [.agg [.sc (.int .i64 L), .sc (.int .i64 Z), .row (.ints .i64 W), .row (.ints .i64 G), .sc (.int .i64 c), .sc (.int .i64 z), .row (.eqs es)], .c (.sc (.int .i64 fr))] => some ⟨smG W G es, [I (wantS L Z W G c z es fr)], [], .fresh⟩
  | _ => none
noncomputable def S_impl_GetWant : List DA → Option Sp := S_spec_GetWant
end Go.Proofs.Ythcahoeoofggjaa.V
