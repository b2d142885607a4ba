/-
  No cell of these rows narrows 'for every input' (looked for: loops, veiled, ifaces, maps, wideKeys, modest, calm, conditions, laid).
  DERIVED. THE GIVEN ROWS OF THIS SEAT. 7 by the template 'for every input the law returns true; each argument reads behind the call as it read before'; 0 by the template 'total and deterministic' (their statements: YthcahoeoofggjaaTotals.lean).
  GIVEN WITH THE SEED: the statements are not yours to turn. If you find one false, say at which input.
  Laid BY PROGRAM, IN A SANDBOX (cutbox-rows.mjs): the forced cells as the released guide's own fill.sh prints them over the translation 326148f7133f125f… (all of the seat's roots in one cut). By AI agents, Wed Nov 11 2026. No macro, syntax, notation, axiom, sorry.
-/
import Derived.Test.YthcahoeoofggjaaChecked
import GoSem.Claim
import GoSem.ClaimJoined
import GoSem.ClaimMapViews
import Derived.JoinedTies
import Derived.KernelRfl
namespace Go.Proofs.Ythcahoeoofggjaa
/- THE CELL 'sum', in the pinned program and in every row, IS THE sha256 OF THE DUMP (.gsa) THAT YthcahoeoofggjaaProg.lean LOADS. Nothing in Lean hashes anything: it is a label: what it is worth is what the hold of that sum in a sandbox is worth. -/
noncomputable def Try.pinned : Pinned := { name := "ythcahoeoofggjaa", sum := "326148f7133f125f06392a2e35067cef3357a267fcd02784e5112a21f8990463", checked := Try.checked }
namespace Rows
def none {H : Type} : Left H := { results := [], args := [] }

/-- 'laws.FnRowDraw': WHATEVER THE INPUT: true; the input reads as it did. -/
def fnRowDrawSpec : ChangeSpec := { name := "fnRowDraw", fn := fun _ => fun
  | [d] => { results := [.lit (.bool true)], args := [d] }
  | _ => none }
def fnRowDrawRow : OpenClaim := { program := "ythcahoeoofggjaa", sum := "326148f7133f125f06392a2e35067cef3357a267fcd02784e5112a21f8990463", func := "loop.example/wellhead/laws.FnRowDraw", spec := "fnRowDraw", recurses := true, apart := false }
def FnRowDrawSaid : Prop := fnRowDrawRow.holds Try.pinned (OpenSpec.ofChange fnRowDrawSpec)

/-- ITS FALSE NEIGHBOUR: 'it returns false'. Refute it at one input. -/
def fnRowDrawWrong : ChangeSpec := { name := "fnRowDraw", fn := fun _ => fun
  | [d] => { results := [.lit (.bool false)], args := [d] }
  | _ => none }
def FnRowDrawWrongFalsely : Prop := fnRowDrawRow.holds Try.pinned (OpenSpec.ofChange fnRowDrawWrong)

/-- 'laws.FnPlanRow': WHATEVER THE INPUT: true; the input reads as it did. -/
def fnPlanRowSpec : ChangeSpec := { name := "fnPlanRow", fn := fun _ => fun
  | [d] => { results := [.lit (.bool true)], args := [d] }
  | _ => none }
def fnPlanRowRow : OpenClaim := { program := "ythcahoeoofggjaa", sum := "326148f7133f125f06392a2e35067cef3357a267fcd02784e5112a21f8990463", func := "loop.example/wellhead/laws.FnPlanRow", spec := "fnPlanRow", recurses := true, apart := false }
def FnPlanRowSaid : Prop := fnPlanRowRow.holds Try.pinned (OpenSpec.ofChange fnPlanRowSpec)

/-- ITS FALSE NEIGHBOUR: 'it returns false'. Refute it at one input. -/
def fnPlanRowWrong : ChangeSpec := { name := "fnPlanRow", fn := fun _ => fun
  | [d] => { results := [.lit (.bool false)], args := [d] }
  | _ => none }
def FnPlanRowWrongFalsely : Prop := fnPlanRowRow.holds Try.pinned (OpenSpec.ofChange fnPlanRowWrong)

/-- 'laws.FnPlanSymbol': WHATEVER THE INPUT: true; the input reads as it did. -/
def fnPlanSymbolSpec : ChangeSpec := { name := "fnPlanSymbol", fn := fun _ => fun
  | [d] => { results := [.lit (.bool true)], args := [d] }
  | _ => none }
def fnPlanSymbolRow : OpenClaim := { program := "ythcahoeoofggjaa", sum := "326148f7133f125f06392a2e35067cef3357a267fcd02784e5112a21f8990463", func := "loop.example/wellhead/laws.FnPlanSymbol", spec := "fnPlanSymbol", recurses := true, apart := false }
def FnPlanSymbolSaid : Prop := fnPlanSymbolRow.holds Try.pinned (OpenSpec.ofChange fnPlanSymbolSpec)

/-- ITS FALSE NEIGHBOUR: 'it returns false'. Refute it at one input. -/
def fnPlanSymbolWrong : ChangeSpec := { name := "fnPlanSymbol", fn := fun _ => fun
  | [d] => { results := [.lit (.bool false)], args := [d] }
  | _ => none }
def FnPlanSymbolWrongFalsely : Prop := fnPlanSymbolRow.holds Try.pinned (OpenSpec.ofChange fnPlanSymbolWrong)

/-- 'laws.FnExactGetWant': WHATEVER THE INPUT: true; the input reads as it did. -/
def fnExactGetWantSpec : ChangeSpec := { name := "fnExactGetWant", fn := fun _ => fun
  | [d1, d2] => { results := [.lit (.bool true)], args := [d1, d2] }
  | _ => none }
def fnExactGetWantRow : OpenClaim := { program := "ythcahoeoofggjaa", sum := "326148f7133f125f06392a2e35067cef3357a267fcd02784e5112a21f8990463", func := "loop.example/wellhead/laws.FnExactGetWant", spec := "fnExactGetWant", recurses := true, apart := false }
def FnExactGetWantSaid : Prop := fnExactGetWantRow.holds Try.pinned (OpenSpec.ofChange fnExactGetWantSpec)

/-- ITS FALSE NEIGHBOUR: 'it returns false'. Refute it at one input. -/
def fnExactGetWantWrong : ChangeSpec := { name := "fnExactGetWant", fn := fun _ => fun
  | [d1, d2] => { results := [.lit (.bool false)], args := [d1, d2] }
  | _ => none }
def FnExactGetWantWrongFalsely : Prop := fnExactGetWantRow.holds Try.pinned (OpenSpec.ofChange fnExactGetWantWrong)

/-- 'laws.FnGetWant': WHATEVER THE INPUT: true; the input reads as it did. -/
def fnGetWantSpec : ChangeSpec := { name := "fnGetWant", fn := fun _ => fun
  | [d] => { results := [.lit (.bool true)], args := [d] }
  | _ => none }
def fnGetWantRow : OpenClaim := { program := "ythcahoeoofggjaa", sum := "326148f7133f125f06392a2e35067cef3357a267fcd02784e5112a21f8990463", func := "loop.example/wellhead/laws.FnGetWant", spec := "fnGetWant", inPlace := ["slices.overlaps[loop.example/wellhead/impl.Eq]"], recurses := true, apart := false }
def FnGetWantSaid : Prop := fnGetWantRow.holds Try.pinned (OpenSpec.ofChange fnGetWantSpec)

/-- ITS FALSE NEIGHBOUR: 'it returns false'. Refute it at one input. -/
def fnGetWantWrong : ChangeSpec := { name := "fnGetWant", fn := fun _ => fun
  | [d] => { results := [.lit (.bool false)], args := [d] }
  | _ => none }
def FnGetWantWrongFalsely : Prop := fnGetWantRow.holds Try.pinned (OpenSpec.ofChange fnGetWantWrong)

/-- 'laws.FnGetFirst': WHATEVER THE INPUT: true; the input reads as it did. -/
def fnGetFirstSpec : ChangeSpec := { name := "fnGetFirst", fn := fun _ => fun
  | [d] => { results := [.lit (.bool true)], args := [d] }
  | _ => none }
def fnGetFirstRow : OpenClaim := { program := "ythcahoeoofggjaa", sum := "326148f7133f125f06392a2e35067cef3357a267fcd02784e5112a21f8990463", func := "loop.example/wellhead/laws.FnGetFirst", spec := "fnGetFirst", inPlace := ["slices.overlaps[loop.example/wellhead/impl.Eq]"], recurses := true, apart := false }
def FnGetFirstSaid : Prop := fnGetFirstRow.holds Try.pinned (OpenSpec.ofChange fnGetFirstSpec)

/-- ITS FALSE NEIGHBOUR: 'it returns false'. Refute it at one input. -/
def fnGetFirstWrong : ChangeSpec := { name := "fnGetFirst", fn := fun _ => fun
  | [d] => { results := [.lit (.bool false)], args := [d] }
  | _ => none }
def FnGetFirstWrongFalsely : Prop := fnGetFirstRow.holds Try.pinned (OpenSpec.ofChange fnGetFirstWrong)

/-- 'laws.FnGetTruth': WHATEVER THE INPUT: true; the input reads as it did. -/
def fnGetTruthSpec : ChangeSpec := { name := "fnGetTruth", fn := fun _ => fun
  | [d1, d2] => { results := [.lit (.bool true)], args := [d1, d2] }
  | _ => none }
def fnGetTruthRow : OpenClaim := { program := "ythcahoeoofggjaa", sum := "326148f7133f125f06392a2e35067cef3357a267fcd02784e5112a21f8990463", func := "loop.example/wellhead/laws.FnGetTruth", spec := "fnGetTruth", inPlace := ["slices.overlaps[loop.example/wellhead/impl.Eq]"], recurses := true, apart := false }
def FnGetTruthSaid : Prop := fnGetTruthRow.holds Try.pinned (OpenSpec.ofChange fnGetTruthSpec)

/-- ITS FALSE NEIGHBOUR: 'it returns false'. Refute it at one input. -/
def fnGetTruthWrong : ChangeSpec := { name := "fnGetTruth", fn := fun _ => fun
  | [d1, d2] => { results := [.lit (.bool false)], args := [d1, d2] }
  | _ => none }
def FnGetTruthWrongFalsely : Prop := fnGetTruthRow.holds Try.pinned (OpenSpec.ofChange fnGetTruthWrong)

/- THE SECOND FORM. 'bulk': how many values and letters a reading holds, each counted each time it is reached (what is shared counts as often as it is met; a slice's spare places count too). A statement '..UptoSaid' is the law's where the arguments, and the package variables that the reading takes, are together of bulk at most 1048576: NARROWER than '..Said'. Prove '..Said' where nothing that the law and all that it calls make is longer than what came in: it says more and counts as full. Else prove '..UptoSaid'. A law counts once. -/
mutual
def uptoBulk {H : Type} : DataW H → Nat
  | .lit (.string bytes) => bytes.length + 1
  | .lit _ => 1
  | .nil => 1
  | .ptr d => uptoBulk d + 1
  | .slice elems spare => uptoBulkAll elems + uptoBulkAll spare + 1
  | .agg parts => uptoBulkAll parts + 1
  | .iface _ d => uptoBulk d + 1
  | .map entries => uptoBulkEntries entries + 1
  | .held _ => 1
def uptoBulkAll {H : Type} : List (DataW H) → Nat
  | [] => 0
  | d :: r => uptoBulk d + uptoBulkAll r
def uptoBulkEntries {H : Type} : List (Lit × DataW H) → Nat
  | [] => 0
  | x :: r => uptoBulkEntry x + uptoBulkEntries r
def uptoBulkEntry {H : Type} : Lit × DataW H → Nat
  | (.string bytes, d) => bytes.length + uptoBulk d + 1
  | (_, d) => uptoBulk d + 1
 end
def uptoSmall : (H : Type) → List (DataW H) → Bool := fun _ ds => decide (uptoBulkAll ds ≤ 1048576)
def OpenSpec.upto (s : _root_.Go.ChangeSpec) : _root_.Go.OpenSpec := { _root_.Go.OpenSpec.ofChange s with cond := some uptoSmall }

/-- 'laws.FnRowDraw', WHERE WHAT IT READS IS OF BULK AT MOST 1048576: true; the input reads as it did. -/
def fnRowDrawUptoRow : OpenClaim := { program := "ythcahoeoofggjaa", sum := "326148f7133f125f06392a2e35067cef3357a267fcd02784e5112a21f8990463", func := "loop.example/wellhead/laws.FnRowDraw", spec := "fnRowDraw", recurses := true, apart := false, narrowed := true }
def FnRowDrawUptoSaid : Prop := fnRowDrawUptoRow.holds Try.pinned (OpenSpec.upto fnRowDrawSpec)

/-- 'laws.FnPlanRow', WHERE WHAT IT READS IS OF BULK AT MOST 1048576: true; the input reads as it did. -/
def fnPlanRowUptoRow : OpenClaim := { program := "ythcahoeoofggjaa", sum := "326148f7133f125f06392a2e35067cef3357a267fcd02784e5112a21f8990463", func := "loop.example/wellhead/laws.FnPlanRow", spec := "fnPlanRow", recurses := true, apart := false, narrowed := true }
def FnPlanRowUptoSaid : Prop := fnPlanRowUptoRow.holds Try.pinned (OpenSpec.upto fnPlanRowSpec)

/-- 'laws.FnPlanSymbol', WHERE WHAT IT READS IS OF BULK AT MOST 1048576: true; the input reads as it did. -/
def fnPlanSymbolUptoRow : OpenClaim := { program := "ythcahoeoofggjaa", sum := "326148f7133f125f06392a2e35067cef3357a267fcd02784e5112a21f8990463", func := "loop.example/wellhead/laws.FnPlanSymbol", spec := "fnPlanSymbol", recurses := true, apart := false, narrowed := true }
def FnPlanSymbolUptoSaid : Prop := fnPlanSymbolUptoRow.holds Try.pinned (OpenSpec.upto fnPlanSymbolSpec)

/-- 'laws.FnExactGetWant', WHERE WHAT IT READS IS OF BULK AT MOST 1048576: true; the input reads as it did. -/
def fnExactGetWantUptoRow : OpenClaim := { program := "ythcahoeoofggjaa", sum := "326148f7133f125f06392a2e35067cef3357a267fcd02784e5112a21f8990463", func := "loop.example/wellhead/laws.FnExactGetWant", spec := "fnExactGetWant", recurses := true, apart := false, narrowed := true }
def FnExactGetWantUptoSaid : Prop := fnExactGetWantUptoRow.holds Try.pinned (OpenSpec.upto fnExactGetWantSpec)

/-- 'laws.FnGetWant', WHERE WHAT IT READS IS OF BULK AT MOST 1048576: true; the input reads as it did. -/
def fnGetWantUptoRow : OpenClaim := { program := "ythcahoeoofggjaa", sum := "326148f7133f125f06392a2e35067cef3357a267fcd02784e5112a21f8990463", func := "loop.example/wellhead/laws.FnGetWant", spec := "fnGetWant", inPlace := ["slices.overlaps[loop.example/wellhead/impl.Eq]"], recurses := true, apart := false, narrowed := true }
def FnGetWantUptoSaid : Prop := fnGetWantUptoRow.holds Try.pinned (OpenSpec.upto fnGetWantSpec)

/-- 'laws.FnGetFirst', WHERE WHAT IT READS IS OF BULK AT MOST 1048576: true; the input reads as it did. -/
def fnGetFirstUptoRow : OpenClaim := { program := "ythcahoeoofggjaa", sum := "326148f7133f125f06392a2e35067cef3357a267fcd02784e5112a21f8990463", func := "loop.example/wellhead/laws.FnGetFirst", spec := "fnGetFirst", inPlace := ["slices.overlaps[loop.example/wellhead/impl.Eq]"], recurses := true, apart := false, narrowed := true }
def FnGetFirstUptoSaid : Prop := fnGetFirstUptoRow.holds Try.pinned (OpenSpec.upto fnGetFirstSpec)

/-- 'laws.FnGetTruth', WHERE WHAT IT READS IS OF BULK AT MOST 1048576: true; the input reads as it did. -/
def fnGetTruthUptoRow : OpenClaim := { program := "ythcahoeoofggjaa", sum := "326148f7133f125f06392a2e35067cef3357a267fcd02784e5112a21f8990463", func := "loop.example/wellhead/laws.FnGetTruth", spec := "fnGetTruth", inPlace := ["slices.overlaps[loop.example/wellhead/impl.Eq]"], recurses := true, apart := false, narrowed := true }
def FnGetTruthUptoSaid : Prop := fnGetTruthUptoRow.holds Try.pinned (OpenSpec.upto fnGetTruthSpec)

end Rows
end Go.Proofs.Ythcahoeoofggjaa
