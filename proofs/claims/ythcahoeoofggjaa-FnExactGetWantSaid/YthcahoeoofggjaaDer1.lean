/- What functions come to, and that they do so; conditions: those that each theorem states. -/
import Derived.Test.YthcahoeoofggjaaKeK8b
set_option linter.unusedVariables false
set_option linter.unusedSimpArgs false
namespace Go.Proofs.Ythcahoeoofggjaa.V
open Go Vx Vx.N
/-! ### Numbers out of seeds, degrees, rows -/
def nxt (s : Int) : Int := (s * 1103515245 + 12345) % 2147483648
noncomputable def S_spec_l4Next : List DA → Option Sp
  | [.c (.sc (.int .i64 s))] => some ⟨decide (0 ≤ s ∧ s < 2147483648), [I (nxt s)], [], .fresh⟩
  | _ => none
def nextS (s : Int) : Int := match inB s 0 2147483647 with
  | true => nxt s
  | false => 0
noncomputable def S_impl_SeedNext : List DA → Option Sp
  | [.c (.sc (.int .i64 s))] => some ⟨true, [I (nextS s)], [], .fresh⟩
  | _ => none
def pck (s n : Int) : Int := s / 256 % n
noncomputable def S_spec_l4Pick : List DA → Option Sp
  | [.c (.sc (.int .i64 s)), .c (.sc (.int .i64 n))] => some ⟨decide ((0 ≤ s ∧ s < 2147483648) ∧ 1 ≤ n ∧ n ≤ 65536), [I (pck s n)], [], .fresh⟩
  | _ => none
def pickS (s n : Int) : Int := match inB s 0 2147483647 && inB n 1 65536 with
  | true => pck s n
  | false => 0
noncomputable def S_impl_SeedPick : List DA → Option Sp
  | [.c (.sc (.int .i64 s)), .c (.sc (.int .i64 n))] => some ⟨true, [I (pickS s n)], [], .fresh⟩
  | _ => none
def shareD (c d : Int) : Int := if 1 < d then 65536 / (d * (d - 1)) * 7 / 8 else 65536 / c
/-- The parts of the first numbers of blocks, and what is left. -/
def degL (c : Int) : Nat → List Int × Int
  | 0 => ([], 65536)
  | k + 1 => ((degL c k).1 ++ [min (shareD c ((k : Int) + 1)) (degL c k).2], (degL c k).2 - min (shareD c ((k : Int) + 1)) (degL c k).2)
def degs (c : Int) : List Int := (degL c (c.toNat - 1)).1 ++ [(degL c (c.toNat - 1)).2]
noncomputable def S_spec_l4Degrees : List DA → Option Sp
  | [.c (.sc (.int .i64 c))] => some ⟨decide (1 ≤ c ∧ c ≤ 24), [Is (degs c)], [], .fresh⟩
  | _ => none
def degsS (c : Int) : List Int := match inB c 1 24 with
  | true => degs c
  | false => []
noncomputable def S_impl_Degrees : List DA → Option Sp
  | [.c (.sc (.int .i64 c))] => some ⟨true, [Is (degsS c)], [], .fresh⟩
  | _ => none
def degAt : List Int → Int → Int → Int
  | [], _, _ => 0
  | x :: l, p, d => if p < x then d else degAt l (p - x) (d + 1)
noncomputable def S_spec_l4Degree : List DA → Option Sp
  | [.c (.sc (.int .i64 c)), .c (.sc (.int .i64 p))] => some ⟨decide ((1 ≤ c ∧ c ≤ 24) ∧ 0 ≤ p ∧ p < 65536), [I (degAt (degs c) p 1)], [], .fresh⟩
  | _ => none
def degS (c p : Int) : Int := match inB p 0 65535 with
  | true => degAt (degsS c) p 1
  | false => 0
noncomputable def S_impl_DegreeOf : List DA → Option Sp
  | [.c (.sc (.int .i64 c)), .c (.sc (.int .i64 p))] => some ⟨true, [I (degS c p)], [], .fresh⟩
  | _ => none
/-- A number among others, in order. -/
def into : List Int → Int → List Int
  | [], n => [n]
  | x :: l, n => if x < n then x :: into l n else n :: x :: l
noncomputable def S_spec_l4Into : List DA → Option Sp
  | [.c (.row (.ints .i64 l)), .c (.sc (.int .i64 n))] => some ⟨decide (l.length < 1000000), [Is (into l n)], [], .mix [.own]⟩
  | _ => none
def lessAt (l : List Int) (k : Nat) : List Int := l.take k ++ l.drop (k + 1)
def rowGo : Int → List Int → List Int → Nat → List Int
  | _, _, out, 0 => out
  | s, l, out, d + 1 => rowGo (nxt s) (lessAt l (pck (nxt s) l.length).toNat) (into out (l.getD (pck (nxt s) l.length).toNat 0)) d
def upTo (n : Nat) : List Int := (List.range n).map fun (i : Nat) => (i : Int)
def rowN (c seed : Int) : Nat := (degAt (degs c) (pck (nxt (nxt seed)) 65536) 1).toNat
def rowDr (c seed : Int) : List Int := rowGo (nxt (nxt seed)) (upTo c.toNat) [] (rowN c seed)
noncomputable def S_spec_l4Row : List DA → Option Sp
  | [.c (.sc (.int .i64 c)), .c (.sc (.int .i64 s))] => some ⟨decide ((1 ≤ c ∧ c ≤ 24) ∧ 0 ≤ s ∧ s < 2147483648), [Is (rowDr c s)], [], .fresh⟩
  | _ => none
def rowS (c s : Int) : List Int := match inB c 1 24 && inB s 0 2147483647 with
  | true => rowDr c s
  | false => []
noncomputable def S_spec_RowDraw : List DA → Option Sp
  | [.c (.sc (.int .i64 c)), .c (.sc (.int .i64 s))] => some ⟨true, [Is (rowS c s)], [], .fresh⟩
  | _ => none
noncomputable def S_impl_RowDraw : List DA → Option Sp := S_spec_RowDraw
/-- Sorted. -/
def sortI (l : List Int) : List Int := l.mergeSort fun x y => decide (x ≤ y)
noncomputable def S_slices_Sort : List DA → Option Sp
  | [.c (.row (.ints .i64 l))] => some ⟨decide (l.length < 1000000), [], [[.row (.ints .i64 (sortI l))]], .write⟩
  | _ => none
noncomputable def S_slices_Delete : List DA → Option Sp
  | [.c (.row (.ints .i64 l)), .c (.sc (.int .i64 i)), .c (.sc (.int .i64 j))] => some ⟨decide ((0 ≤ i ∧ i ≤ j) ∧ j ≤ l.length ∧ 0 < l.length ∧ l.length < 1000000), [Is (l.take i.toNat ++ l.drop j.toNat)], [], .take⟩
  | _ => none
/-! ### Rows of a plan -/
def winAt : List Int → List Int → Int → Int → Int
  | w :: W, g :: G, k, z => if k < g then w else winAt W G (k - g) z
  | _, _, _, z => z
def winOf (L Z : Int) (W G : List Int) (id : Int) : Int := winAt W G (pck (nxt id) G.sum) (cnt L Z)
noncomputable def S_spec_l5Window : List DA → Option Sp
  | [.agg [.sc (.int .i64 L), .sc (.int .i64 Z), .row (.ints .i64 W), .row (.ints .i64 G)], .c (.sc (.int .i64 id))] => some ⟨planB L Z W G && decide (0 ≤ id ∧ id ≤ 9999), [I (winOf L Z W G id)], [], .fresh⟩
  | _ => none
def rowPl (L Z : Int) (W G : List Int) (id : Int) : List Int := if id < cnt L Z then [id] else rowDr (winOf L Z W G id) id
noncomputable def S_spec_l5Row : List DA → Option Sp
  | [.agg [.sc (.int .i64 L), .sc (.int .i64 Z), .row (.ints .i64 W), .row (.ints .i64 G)], .c (.sc (.int .i64 id))] => some ⟨planB L Z W G && decide (0 ≤ id ∧ id ≤ 9999), [Is (rowPl L Z W G id)], [], .fresh⟩
  | _ => none
noncomputable def rowPS (L Z : Int) (W G : List Int) (id : Int) : List Int := match planB L Z W G && inB id 0 9999 with
  | true => rowPl L Z W G id
  | false => []
noncomputable def S_spec_PlanRow : List DA → Option Sp
  | [.agg [.sc (.int .i64 L), .sc (.int .i64 Z), .row (.ints .i64 W), .row (.ints .i64 G)], .c (.sc (.int .i64 id))] => some ⟨sm W.length && sm G.length, [Is (rowPS L Z W G id)], [], .fresh⟩
  | _ => none
noncomputable def S_impl_PlanRow : List DA → Option Sp := S_spec_PlanRow
/-- A symbol. -/
noncomputable def symB (L Z : Int) (W G : List Int) (t : ByteArray) (id : Int) : ByteArray := sumB (cutL L Z t) (rowPl L Z W G id) (zerosB Z.toNat)
noncomputable def symS (L Z : Int) (W G : List Int) (t : ByteArray) (id : Int) : ByteArray × Bool := match planB L Z W G && (decide ((t.size : Int) = L) && inB id 0 9999) with
  | true => (symB L Z W G t id, true)
  | false => (⟨#[]⟩, false)
noncomputable def S_spec_PlanSymbol : List DA → Option Sp
  | [.agg [.sc (.int .i64 L), .sc (.int .i64 Z), .row (.ints .i64 W), .row (.ints .i64 G)], .c (.sc (.string t)), .c (.sc (.int .i64 id))] => some ⟨sm W.length && sm G.length, [T (symS L Z W G t id).1, B (symS L Z W G t id).2], [], .fresh⟩
  | _ => none
noncomputable def S_impl_PlanSymbol : List DA → Option Sp := S_spec_PlanSymbol
/-- A sum of blocks, if the row is one and the blocks are as long as the first. -/
def SumP (bl : List ByteArray) (row : List Int) : Prop := 1 ≤ bl.length ∧ (bl.getD 0 ⟨#[]⟩).size ≤ 16 ∧ RowP row bl.length ∧ ∀ b ∈ bl, b.size = (bl.getD 0 ⟨#[]⟩).size
noncomputable def sumS (bl : List ByteArray) (row : List Int) : ByteArray × Bool := match cdec (SumP bl row) with
  | true => (sumB bl row (zerosB (bl.getD 0 ⟨#[]⟩).size), true)
  | false => (⟨#[]⟩, false)
noncomputable def S_impl_RowSum : List DA → Option Sp
  | [.c (.row (.strs bl)), .c (.row (.ints .i64 row))] => some ⟨sm bl.length && sm row.length, [T (sumS bl row).1, B (sumS bl row).2], [], .fresh⟩
  | _ => none
noncomputable def S_laws_whIn : List DA → Option Sp := S_impl_within
/-! ### Drawn seeds and numbers -/
noncomputable def seedR (b : List Int) (p : Int) : Int × Int := match spec_l15Seed_T b p with
  | some ([.c (.sc (.int .i64 s))], [[_, .sc (.int .i64 p)]]) => (s, p)
  | _ => (0, 0)
noncomputable def S_spec_l15Seed : List DA → Option Sp
  | [.bx [.row (.ints .u8 b), .sc (.int .i64 p)]] => some ⟨rdOk b p && decide (p < 900000), [I (seedR b p).1], [rdC b (seedR b p).2], .fresh⟩
  | _ => none
noncomputable def idR (b : List Int) (p : Int) : Int × Int := match spec_l15Id_T b p with
  | some ([.c (.sc (.int .i64 s))], [[_, .sc (.int .i64 p)]]) => (s, p)
  | _ => (0, 0)
noncomputable def S_spec_l15Id : List DA → Option Sp
  | [.bx [.row (.ints .u8 b), .sc (.int .i64 p)]] => some ⟨rdOk b p && decide (p < 900000), [I (idR b p).1], [rdC b (idR b p).2], .fresh⟩
  | _ => none
noncomputable def drawRow (b : List Int) : Int × Int := (pickV (b.take 2000) 0 27, (seedR (b.take 2000) 1).1)
noncomputable def S_spec_DrawRowDraw : List DA → Option Sp
  | [.c (.row (.ints .u8 b))] => some ⟨byOk b, [I (drawRow b).1, I (drawRow b).2], [], .fresh⟩
  | _ => none
noncomputable def drawPR (b : List Int) : PlR := anyPR (b.take 2000) 0
noncomputable def S_spec_DrawPlanRow : List DA → Option Sp
  | [.c (.row (.ints .u8 b))] => some ⟨byOk b, [Pl (drawPR b).1 (drawPR b).2.1 (drawPR b).2.2.1 (drawPR b).2.2.2.1, I (idR (b.take 2000) (drawPR b).2.2.2.2).1], [], .fresh⟩
  | _ => none
noncomputable def S_spec_DrawPlanSymbol : List DA → Option Sp
  | [.c (.row (.ints .u8 b))] => some ⟨byOk b, [Pl (cutR b).1 (cutR b).2.1 (cutR b).2.2.1 (cutR b).2.2.2.1, T (cutR b).2.2.2.2, I (idR (b.take 2000) 0).1], [], .fresh⟩
  | _ => none
end Go.Proofs.Ythcahoeoofggjaa.V
