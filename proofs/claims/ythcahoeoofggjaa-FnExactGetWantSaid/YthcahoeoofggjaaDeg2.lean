/- What functions come to, and that they do so; conditions: those that each theorem states. -/
import Derived.Test.YthcahoeoofggjaaKeK10
set_option linter.unusedVariables false
set_option linter.unusedSimpArgs false
namespace Go.Proofs.Ythcahoeoofggjaa.V
open Go Vx Vx.N
/-! ### Drawn: what is known of a thing -/
noncomputable def idxR (b : List Int) (p base : Int) (L Z : Int) : Int := base + pickV b p (2 * cnt L Z + 4)
/-- What is known behind some drawn symbols. -/
noncomputable def getLoop (b : List Int) (L Z : Int) (W G : List Int) (t : ByteArray) (base : Int) : Nat → Int → List Eqn → List Eqn
  | 0, _, es => es
  | n + 1, p, es => getLoop b L Z W G t base n (p + 1) (addG L Z W G (cnt L Z) Z es (idxR b p base L Z) (symS L Z W G t (idxR b p base L Z)).1).1.2.2.2.2.2.2
noncomputable def gtP (b : List Int) (p : Int) : Int := (planR b p).2.2.2.2 + ((planR b p).1.toNat : Nat)
noncomputable def gtT (b : List Int) (p : Int) : ByteArray := thingD b (planR b p).2.2.2.2 (planR b p).1.toNat
noncomputable def gtB (b : List Int) (p : Int) : Int := [0, 0, pickV b (gtP b p) 200].getD (pickV b (gtP b p + 1) 3).toNat 0
noncomputable def gtN (b : List Int) (p : Int) : Nat := (pickV b (gtP b p + 1 + 1) (2 * cnt (planR b p).1 (planR b p).2.1 + 2)).toNat
noncomputable def gtE (b : List Int) (p : Int) : List Eqn := getLoop b (planR b p).1 (planR b p).2.1 (planR b p).2.2.1 (planR b p).2.2.2.1 (gtT b p) (gtB b p) (gtN b p) (gtP b p + 1 + 1 + 1) []
noncomputable def gtQ (b : List Int) (p : Int) : Int := gtP b p + 1 + 1 + 1 + (gtN b p : Nat)
noncomputable def S_spec_l15Getting : List DA → Option Sp
  | [.bx [.row (.ints .u8 b), .sc (.int .i64 p)]] => some ⟨rdOk b p && decide (p < 800000), [Ge (planR b p).1 (planR b p).2.1 (planR b p).2.2.1 (planR b p).2.2.2.1 (cnt (planR b p).1 (planR b p).2.1) (planR b p).2.1 (gtE b p), T (gtT b p)], [rdC b (gtQ b p)], .alias⟩
  | _ => none
noncomputable def anyG (b : List Int) (p : Int) : GeR × Int :=
  if pickV b (gtQ b p) 20 = 0 then (((spoilPR b (gtQ b p + 1) (planR b p).1 (planR b p).2.1 (planR b p).2.2.1 (planR b p).2.2.2.1).1, (spoilPR b (gtQ b p + 1) (planR b p).1 (planR b p).2.1 (planR b p).2.2.1 (planR b p).2.2.2.1).2.1, (spoilPR b (gtQ b p + 1) (planR b p).1 (planR b p).2.1 (planR b p).2.2.1 (planR b p).2.2.2.1).2.2.1, (spoilPR b (gtQ b p + 1) (planR b p).1 (planR b p).2.1 (planR b p).2.2.1 (planR b p).2.2.2.1).2.2.2.1, cnt (planR b p).1 (planR b p).2.1, (planR b p).2.1, gtE b p), (spoilPR b (gtQ b p + 1) (planR b p).1 (planR b p).2.1 (planR b p).2.2.1 (planR b p).2.2.2.1).2.2.2.2)
  else if pickV b (gtQ b p) 20 = 1 then (((planR b p).1, (planR b p).2.1, (planR b p).2.2.1, (planR b p).2.2.2.1, (spoilR b (gtQ b p + 1) (cnt (planR b p).1 (planR b p).2.1) (planR b p).2.1 (gtE b p)).1, (spoilR b (gtQ b p + 1) (cnt (planR b p).1 (planR b p).2.1) (planR b p).2.1 (gtE b p)).2.1, (spoilR b (gtQ b p + 1) (cnt (planR b p).1 (planR b p).2.1) (planR b p).2.1 (gtE b p)).2.2.1), (spoilR b (gtQ b p + 1) (cnt (planR b p).1 (planR b p).2.1) (planR b p).2.1 (gtE b p)).2.2.2)
  else (((planR b p).1, (planR b p).2.1, (planR b p).2.2.1, (planR b p).2.2.2.1, cnt (planR b p).1 (planR b p).2.1, (planR b p).2.1, gtE b p), gtQ b p + 1)
noncomputable def S_spec_l15AnyGetting : List DA → Option Sp
  | [.bx [.row (.ints .u8 b), .sc (.int .i64 p)]] => some ⟨rdOk b p && decide (p < 700000), [Ge (anyG b p).1.1 (anyG b p).1.2.1 (anyG b p).1.2.2.1 (anyG b p).1.2.2.2.1 (anyG b p).1.2.2.2.2.1 (anyG b p).1.2.2.2.2.2.1 (anyG b p).1.2.2.2.2.2.2, T (gtT b p)], [rdC b (anyG b p).2], .alias⟩
  | _ => none
noncomputable def drawG (b : List Int) : GeR := (anyG (b.take 2000) 0).1
noncomputable def S_spec_DrawGetWant : List DA → Option Sp
  | [.c (.row (.ints .u8 b))] => some ⟨byOk b, [Ge (drawG b).1 (drawG b).2.1 (drawG b).2.2.1 (drawG b).2.2.2.1 (drawG b).2.2.2.2.1 (drawG b).2.2.2.2.2.1 (drawG b).2.2.2.2.2.2, I (idR (b.take 2000) (anyG (b.take 2000) 0).2).1], [], .alias⟩
  | _ => none
/-! data of a law -/
noncomputable def S_laws_szPlan : List DA → Option Sp
  | [.agg [.sc (.int .i64 _), .sc (.int .i64 _), .row (.ints .i64 W), .row (.ints .i64 G)], .c (.sc (.int .i64 left))] => some ⟨leftOk left && (lenOk W.length && lenOk G.length), [I (szN left (W.length + G.length))], [], .fresh⟩
  | _ => none
noncomputable def S_laws_szGetting : List DA → Option Sp
  | [.agg [.sc (.int .i64 _), .sc (.int .i64 _), .row (.ints .i64 W), .row (.ints .i64 G), .sc (.int .i64 _), .sc (.int .i64 _), .row (.eqs es)], .c (.sc (.int .i64 left))] =>
    some ⟨leftOk left && ((lenOk W.length && lenOk G.length) && (lenOk es.length && es.all lenE)), [I (szN left ((W.length + G.length) + szE es))], [], .fresh⟩
  | _ => none
noncomputable def S_laws_toPlan : List DA → Option Sp
  | [.agg [.sc (.int .i64 L), .sc (.int .i64 Z), .row (.ints .i64 W), .row (.ints .i64 G)]] => some ⟨sm W.length && sm G.length, [Pl L Z W G], [], .fresh⟩
  | _ => none
noncomputable def S_laws_toGetting : List DA → Option Sp
  | [.agg [.sc (.int .i64 L), .sc (.int .i64 Z), .row (.ints .i64 W), .row (.ints .i64 G), .sc (.int .i64 c), .sc (.int .i64 z), .row (.eqs es)]] => some ⟨smG W G es, [Ge L Z W G c z es], [], .fresh⟩
  | _ => none
noncomputable def S_laws_eqPlan : List DA → Option Sp := S_laws_whPlan
noncomputable def S_laws_eqGetting : List DA → Option Sp := S_laws_whGetting
end Go.Proofs.Ythcahoeoofggjaa.V
