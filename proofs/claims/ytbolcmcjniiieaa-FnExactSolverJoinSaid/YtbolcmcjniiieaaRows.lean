/-
  No cell of these rows narrows 'for every input' (looked for: loops, veiled, ifaces, maps, wideKeys, modest, calm, conditions, laid).
  DERIVED. THE GIVEN ROWS OF THIS SEAT. 6 by the template 'for every input the law returns true; each argument reads behind the call as it read before'; 0 by the template 'total and deterministic' (their statements: YtbolcmcjniiieaaTotals.lean).
  GIVEN WITH THE SEED: the statements are not yours to turn. If you find one false, say at which input.
  Laid BY PROGRAM, IN A SANDBOX (cutbox-rows.mjs): the forced cells as the released guide's own fill.sh prints them over the translation 69afc3e31eec3354… (all of the seat's roots in one cut). By AI agents, Wed Nov 11 2026. No macro, syntax, notation, axiom, sorry.
-/
import Derived.Test.YtbolcmcjniiieaaChecked
import GoSem.Claim
import GoSem.ClaimJoined
import GoSem.ClaimMapViews
import Derived.JoinedTies
import Derived.KernelRfl
namespace Go.Proofs.Ytbolcmcjniiieaa
/- THE CELL 'sum', in the pinned program and in every row, IS THE sha256 OF THE DUMP (.gsa) THAT YtbolcmcjniiieaaProg.lean LOADS. Nothing in Lean hashes anything: it is a label: what it is worth is what the hold of that sum in a sandbox is worth. -/
noncomputable def Try.pinned : Pinned := { name := "ytbolcmcjniiieaa", sum := "69afc3e31eec3354a2db78ed38ee45c6d7ea8095e9894776906c8b79465d2e49", checked := Try.checked }
namespace Rows
def none {H : Type} : Left H := { results := [], args := [] }

/-- 'laws.FnSolverTurn': WHATEVER THE INPUT: true; the input reads as it did. -/
def fnSolverTurnSpec : ChangeSpec := { name := "fnSolverTurn", fn := fun _ => fun
  | [d1, d2] => { results := [.lit (.bool true)], args := [d1, d2] }
  | _ => none }
def fnSolverTurnRow : OpenClaim := { program := "ytbolcmcjniiieaa", sum := "69afc3e31eec3354a2db78ed38ee45c6d7ea8095e9894776906c8b79465d2e49", func := "loop.example/wellhead/laws.FnSolverTurn", spec := "fnSolverTurn", inPlace := ["slices.overlaps[loop.example/wellhead/impl.Eq]"], apart := false }
def FnSolverTurnSaid : Prop := fnSolverTurnRow.holds Try.pinned (OpenSpec.ofChange fnSolverTurnSpec)

/-- ITS FALSE NEIGHBOUR: 'it returns false'. Refute it at one input. -/
def fnSolverTurnWrong : ChangeSpec := { name := "fnSolverTurn", fn := fun _ => fun
  | [d1, d2] => { results := [.lit (.bool false)], args := [d1, d2] }
  | _ => none }
def FnSolverTurnWrongFalsely : Prop := fnSolverTurnRow.holds Try.pinned (OpenSpec.ofChange fnSolverTurnWrong)

/-- 'laws.FnSolverKnown': WHATEVER THE INPUT: true; the input reads as it did. -/
def fnSolverKnownSpec : ChangeSpec := { name := "fnSolverKnown", fn := fun _ => fun
  | [d] => { results := [.lit (.bool true)], args := [d] }
  | _ => none }
def fnSolverKnownRow : OpenClaim := { program := "ytbolcmcjniiieaa", sum := "69afc3e31eec3354a2db78ed38ee45c6d7ea8095e9894776906c8b79465d2e49", func := "loop.example/wellhead/laws.FnSolverKnown", spec := "fnSolverKnown", inPlace := ["slices.overlaps[loop.example/wellhead/impl.Eq]"], apart := false }
def FnSolverKnownSaid : Prop := fnSolverKnownRow.holds Try.pinned (OpenSpec.ofChange fnSolverKnownSpec)

/-- ITS FALSE NEIGHBOUR: 'it returns false'. Refute it at one input. -/
def fnSolverKnownWrong : ChangeSpec := { name := "fnSolverKnown", fn := fun _ => fun
  | [d] => { results := [.lit (.bool false)], args := [d] }
  | _ => none }
def FnSolverKnownWrongFalsely : Prop := fnSolverKnownRow.holds Try.pinned (OpenSpec.ofChange fnSolverKnownWrong)

/-- 'laws.FnSolverAdd': WHATEVER THE INPUT: true; the input reads as it did. -/
def fnSolverAddSpec : ChangeSpec := { name := "fnSolverAdd", fn := fun _ => fun
  | [d] => { results := [.lit (.bool true)], args := [d] }
  | _ => none }
def fnSolverAddRow : OpenClaim := { program := "ytbolcmcjniiieaa", sum := "69afc3e31eec3354a2db78ed38ee45c6d7ea8095e9894776906c8b79465d2e49", func := "loop.example/wellhead/laws.FnSolverAdd", spec := "fnSolverAdd", inPlace := ["slices.overlaps[loop.example/wellhead/impl.Eq]"], apart := false }
def FnSolverAddSaid : Prop := fnSolverAddRow.holds Try.pinned (OpenSpec.ofChange fnSolverAddSpec)

/-- ITS FALSE NEIGHBOUR: 'it returns false'. Refute it at one input. -/
def fnSolverAddWrong : ChangeSpec := { name := "fnSolverAdd", fn := fun _ => fun
  | [d] => { results := [.lit (.bool false)], args := [d] }
  | _ => none }
def FnSolverAddWrongFalsely : Prop := fnSolverAddRow.holds Try.pinned (OpenSpec.ofChange fnSolverAddWrong)

/-- 'laws.FnExactSolverAdd': WHATEVER THE INPUT: true; the input reads as it did. -/
def fnExactSolverAddSpec : ChangeSpec := { name := "fnExactSolverAdd", fn := fun _ => fun
  | [d1, d2, d3] => { results := [.lit (.bool true)], args := [d1, d2, d3] }
  | _ => none }
def fnExactSolverAddRow : OpenClaim := { program := "ytbolcmcjniiieaa", sum := "69afc3e31eec3354a2db78ed38ee45c6d7ea8095e9894776906c8b79465d2e49", func := "loop.example/wellhead/laws.FnExactSolverAdd", spec := "fnExactSolverAdd", inPlace := ["slices.overlaps[loop.example/wellhead/impl.Eq]"], apart := false }
def FnExactSolverAddSaid : Prop := fnExactSolverAddRow.holds Try.pinned (OpenSpec.ofChange fnExactSolverAddSpec)

/-- ITS FALSE NEIGHBOUR: 'it returns false'. Refute it at one input. -/
def fnExactSolverAddWrong : ChangeSpec := { name := "fnExactSolverAdd", fn := fun _ => fun
  | [d1, d2, d3] => { results := [.lit (.bool false)], args := [d1, d2, d3] }
  | _ => none }
def FnExactSolverAddWrongFalsely : Prop := fnExactSolverAddRow.holds Try.pinned (OpenSpec.ofChange fnExactSolverAddWrong)

/-- 'laws.FnSolverJoin': WHATEVER THE INPUT: true; the input reads as it did. -/
def fnSolverJoinSpec : ChangeSpec := { name := "fnSolverJoin", fn := fun _ => fun
  | [d] => { results := [.lit (.bool true)], args := [d] }
  | _ => none }
def fnSolverJoinRow : OpenClaim := { program := "ytbolcmcjniiieaa", sum := "69afc3e31eec3354a2db78ed38ee45c6d7ea8095e9894776906c8b79465d2e49", func := "loop.example/wellhead/laws.FnSolverJoin", spec := "fnSolverJoin", inPlace := ["slices.overlaps[loop.example/wellhead/impl.Eq]"], apart := false }
def FnSolverJoinSaid : Prop := fnSolverJoinRow.holds Try.pinned (OpenSpec.ofChange fnSolverJoinSpec)

/-- ITS FALSE NEIGHBOUR: 'it returns false'. Refute it at one input. -/
def fnSolverJoinWrong : ChangeSpec := { name := "fnSolverJoin", fn := fun _ => fun
  | [d] => { results := [.lit (.bool false)], args := [d] }
  | _ => none }
def FnSolverJoinWrongFalsely : Prop := fnSolverJoinRow.holds Try.pinned (OpenSpec.ofChange fnSolverJoinWrong)

/-- 'laws.FnExactSolverJoin': WHATEVER THE INPUT: true; the input reads as it did. -/
def fnExactSolverJoinSpec : ChangeSpec := { name := "fnExactSolverJoin", fn := fun _ => fun
  | [d1, d2] => { results := [.lit (.bool true)], args := [d1, d2] }
  | _ => none }
def fnExactSolverJoinRow : OpenClaim := { program := "ytbolcmcjniiieaa", sum := "69afc3e31eec3354a2db78ed38ee45c6d7ea8095e9894776906c8b79465d2e49", func := "loop.example/wellhead/laws.FnExactSolverJoin", spec := "fnExactSolverJoin", inPlace := ["slices.overlaps[loop.example/wellhead/impl.Eq]"], apart := false }
def FnExactSolverJoinSaid : Prop := fnExactSolverJoinRow.holds Try.pinned (OpenSpec.ofChange fnExactSolverJoinSpec)

/-- ITS FALSE NEIGHBOUR: 'it returns false'. Refute it at one input. -/
def fnExactSolverJoinWrong : ChangeSpec := { name := "fnExactSolverJoin", fn := fun _ => fun
  | [d1, d2] => { results := [.lit (.bool false)], args := [d1, d2] }
  | _ => none }
def FnExactSolverJoinWrongFalsely : Prop := fnExactSolverJoinRow.holds Try.pinned (OpenSpec.ofChange fnExactSolverJoinWrong)

/- THE SECOND FORM. 'bulk': how many values and letters a reading holds, each counted each time it is reached (what is shared counts as often as it is met; a slice's spare places count too). A statement '..UptoSaid' is the law's where the arguments, and the package variables that the reading takes, are together of bulk at most 1048576: NARROWER than '..Said'. Prove '..Said' where nothing that the law and all that it calls make is longer than what came in: it says more and counts as full. Else prove '..UptoSaid'. A law counts once. -/
mutual
def uptoBulk {H : Type} : DataW H → Nat
  | .lit (.string bytes) => bytes.length + 1
  | .lit _ => 1
  | .nil => 1
  | .ptr d => uptoBulk d + 1
  | .slice elems spare => uptoBulkAll elems + uptoBulkAll spare + 1
  | .agg parts => uptoBulkAll parts + 1
  | .iface _ d => uptoBulk d + 1
  | .map entries => uptoBulkEntries entries + 1
  | .held _ => 1
def uptoBulkAll {H : Type} : List (DataW H) → Nat
  | [] => 0
  | d :: r => uptoBulk d + uptoBulkAll r
def uptoBulkEntries {H : Type} : List (Lit × DataW H) → Nat
  | [] => 0
  | x :: r => uptoBulkEntry x + uptoBulkEntries r
def uptoBulkEntry {H : Type} : Lit × DataW H → Nat
  | (.string bytes, d) => bytes.length + uptoBulk d + 1
  | (_, d) => uptoBulk d + 1
 end
def uptoSmall : (H : Type) → List (DataW H) → Bool := fun _ ds => decide (uptoBulkAll ds ≤ 1048576)
def OpenSpec.upto (s : _root_.Go.ChangeSpec) : _root_.Go.OpenSpec := { _root_.Go.OpenSpec.ofChange s with cond := some uptoSmall }

/-- 'laws.FnSolverTurn', WHERE WHAT IT READS IS OF BULK AT MOST 1048576: true; the input reads as it did. -/
def fnSolverTurnUptoRow : OpenClaim := { program := "ytbolcmcjniiieaa", sum := "69afc3e31eec3354a2db78ed38ee45c6d7ea8095e9894776906c8b79465d2e49", func := "loop.example/wellhead/laws.FnSolverTurn", spec := "fnSolverTurn", inPlace := ["slices.overlaps[loop.example/wellhead/impl.Eq]"], apart := false, narrowed := true }
def FnSolverTurnUptoSaid : Prop := fnSolverTurnUptoRow.holds Try.pinned (OpenSpec.upto fnSolverTurnSpec)

/-- 'laws.FnSolverKnown', WHERE WHAT IT READS IS OF BULK AT MOST 1048576: true; the input reads as it did. -/
def fnSolverKnownUptoRow : OpenClaim := { program := "ytbolcmcjniiieaa", sum := "69afc3e31eec3354a2db78ed38ee45c6d7ea8095e9894776906c8b79465d2e49", func := "loop.example/wellhead/laws.FnSolverKnown", spec := "fnSolverKnown", inPlace := ["slices.overlaps[loop.example/wellhead/impl.Eq]"], apart := false, narrowed := true }
def FnSolverKnownUptoSaid : Prop := fnSolverKnownUptoRow.holds Try.pinned (OpenSpec.upto fnSolverKnownSpec)

/-- 'laws.FnSolverAdd', WHERE WHAT IT READS IS OF BULK AT MOST 1048576: true; the input reads as it did. -/
def fnSolverAddUptoRow : OpenClaim := { program := "ytbolcmcjniiieaa", sum := "69afc3e31eec3354a2db78ed38ee45c6d7ea8095e9894776906c8b79465d2e49", func := "loop.example/wellhead/laws.FnSolverAdd", spec := "fnSolverAdd", inPlace := ["slices.overlaps[loop.example/wellhead/impl.Eq]"], apart := false, narrowed := true }
def FnSolverAddUptoSaid : Prop := fnSolverAddUptoRow.holds Try.pinned (OpenSpec.upto fnSolverAddSpec)

/-- 'laws.FnExactSolverAdd', WHERE WHAT IT READS IS OF BULK AT MOST 1048576: true; the input reads as it did. -/
def fnExactSolverAddUptoRow : OpenClaim := { program := "ytbolcmcjniiieaa", sum := "69afc3e31eec3354a2db78ed38ee45c6d7ea8095e9894776906c8b79465d2e49", func := "loop.example/wellhead/laws.FnExactSolverAdd", spec := "fnExactSolverAdd", inPlace := ["slices.overlaps[loop.example/wellhead/impl.Eq]"], apart := false, narrowed := true }
def FnExactSolverAddUptoSaid : Prop := fnExactSolverAddUptoRow.holds Try.pinned (OpenSpec.upto fnExactSolverAddSpec)

/-- 'laws.FnSolverJoin', WHERE WHAT IT READS IS OF BULK AT MOST 1048576: true; the input reads as it did. -/
def fnSolverJoinUptoRow : OpenClaim := { program := "ytbolcmcjniiieaa", sum := "69afc3e31eec3354a2db78ed38ee45c6d7ea8095e9894776906c8b79465d2e49", func := "loop.example/wellhead/laws.FnSolverJoin", spec := "fnSolverJoin", inPlace := ["slices.overlaps[loop.example/wellhead/impl.Eq]"], apart := false, narrowed := true }
def FnSolverJoinUptoSaid : Prop := fnSolverJoinUptoRow.holds Try.pinned (OpenSpec.upto fnSolverJoinSpec)

/-- 'laws.FnExactSolverJoin', WHERE WHAT IT READS IS OF BULK AT MOST 1048576: true; the input reads as it did. -/
def fnExactSolverJoinUptoRow : OpenClaim := { program := "ytbolcmcjniiieaa", sum := "69afc3e31eec3354a2db78ed38ee45c6d7ea8095e9894776906c8b79465d2e49", func := "loop.example/wellhead/laws.FnExactSolverJoin", spec := "fnExactSolverJoin", inPlace := ["slices.overlaps[loop.example/wellhead/impl.Eq]"], apart := false, narrowed := true }
def FnExactSolverJoinUptoSaid : Prop := fnExactSolverJoinUptoRow.holds Try.pinned (OpenSpec.upto fnExactSolverJoinSpec)

end Rows
end Go.Proofs.Ytbolcmcjniiieaa
