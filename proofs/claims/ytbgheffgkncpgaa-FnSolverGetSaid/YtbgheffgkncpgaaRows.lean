/-
  No cell of these rows narrows 'for every input' (looked for: loops, veiled, ifaces, maps, wideKeys, modest, calm, conditions, laid).
  DERIVED. THE GIVEN ROWS OF THIS SEAT. 7 by the template 'for every input the law returns true; each argument reads behind the call as it read before'; 0 by the template 'total and deterministic' (their statements: YtbgheffgkncpgaaTotals.lean).
  GIVEN WITH THE SEED: the statements are not yours to turn. If you find one false, say at which input.
  Laid BY PROGRAM, IN A SANDBOX (cutbox-rows.mjs): the forced cells as the released guide's own fill.sh prints them over the translation f18e7a453ba41bfc… (all of the seat's roots in one cut). By AI agents, Wed Nov 11 2026. No macro, syntax, notation, axiom, sorry.
-/
import Derived.Test.YtbgheffgkncpgaaChecked
import GoSem.Claim
import GoSem.ClaimJoined
import GoSem.ClaimMapViews
import Derived.JoinedTies
import Derived.KernelRfl
namespace Go.Proofs.Ytbgheffgkncpgaa
/- THE CELL 'sum', in the pinned program and in every row, IS THE sha256 OF THE DUMP (.gsa) THAT YtbgheffgkncpgaaProg.lean LOADS. Nothing in Lean hashes anything: it is a label: what it is worth is what the hold of that sum in a sandbox is worth. -/
noncomputable def Try.pinned : Pinned := { name := "ytbgheffgkncpgaa", sum := "f18e7a453ba41bfc99bd0a35d1fafa01f740d771021172670ae1539fc5ce94be", checked := Try.checked }
namespace Rows
def none {H : Type} : Left H := { results := [], args := [] }

/-- 'laws.FnExactBlockXor': WHATEVER THE INPUT: true; the input reads as it did. -/
def fnExactBlockXorSpec : ChangeSpec := { name := "fnExactBlockXor", fn := fun _ => fun
  | [d1, d2] => { results := [.lit (.bool true)], args := [d1, d2] }
  | _ => none }
def fnExactBlockXorRow : OpenClaim := { program := "ytbgheffgkncpgaa", sum := "f18e7a453ba41bfc99bd0a35d1fafa01f740d771021172670ae1539fc5ce94be", func := "loop.example/wellhead/laws.FnExactBlockXor", spec := "fnExactBlockXor", apart := false }
def FnExactBlockXorSaid : Prop := fnExactBlockXorRow.holds Try.pinned (OpenSpec.ofChange fnExactBlockXorSpec)

/-- ITS FALSE NEIGHBOUR: 'it returns false'. Refute it at one input. -/
def fnExactBlockXorWrong : ChangeSpec := { name := "fnExactBlockXor", fn := fun _ => fun
  | [d1, d2] => { results := [.lit (.bool false)], args := [d1, d2] }
  | _ => none }
def FnExactBlockXorWrongFalsely : Prop := fnExactBlockXorRow.holds Try.pinned (OpenSpec.ofChange fnExactBlockXorWrong)

/-- 'laws.FnBlockXor': WHATEVER THE INPUT: true; the input reads as it did. -/
def fnBlockXorSpec : ChangeSpec := { name := "fnBlockXor", fn := fun _ => fun
  | [d] => { results := [.lit (.bool true)], args := [d] }
  | _ => none }
def fnBlockXorRow : OpenClaim := { program := "ytbgheffgkncpgaa", sum := "f18e7a453ba41bfc99bd0a35d1fafa01f740d771021172670ae1539fc5ce94be", func := "loop.example/wellhead/laws.FnBlockXor", spec := "fnBlockXor", apart := false }
def FnBlockXorSaid : Prop := fnBlockXorRow.holds Try.pinned (OpenSpec.ofChange fnBlockXorSpec)

/-- ITS FALSE NEIGHBOUR: 'it returns false'. Refute it at one input. -/
def fnBlockXorWrong : ChangeSpec := { name := "fnBlockXor", fn := fun _ => fun
  | [d] => { results := [.lit (.bool false)], args := [d] }
  | _ => none }
def FnBlockXorWrongFalsely : Prop := fnBlockXorRow.holds Try.pinned (OpenSpec.ofChange fnBlockXorWrong)

/-- 'laws.FnExactRowSum': WHATEVER THE INPUT: true; the input reads as it did. -/
def fnExactRowSumSpec : ChangeSpec := { name := "fnExactRowSum", fn := fun _ => fun
  | [d1, d2] => { results := [.lit (.bool true)], args := [d1, d2] }
  | _ => none }
def fnExactRowSumRow : OpenClaim := { program := "ytbgheffgkncpgaa", sum := "f18e7a453ba41bfc99bd0a35d1fafa01f740d771021172670ae1539fc5ce94be", func := "loop.example/wellhead/laws.FnExactRowSum", spec := "fnExactRowSum", apart := false }
def FnExactRowSumSaid : Prop := fnExactRowSumRow.holds Try.pinned (OpenSpec.ofChange fnExactRowSumSpec)

/-- ITS FALSE NEIGHBOUR: 'it returns false'. Refute it at one input. -/
def fnExactRowSumWrong : ChangeSpec := { name := "fnExactRowSum", fn := fun _ => fun
  | [d1, d2] => { results := [.lit (.bool false)], args := [d1, d2] }
  | _ => none }
def FnExactRowSumWrongFalsely : Prop := fnExactRowSumRow.holds Try.pinned (OpenSpec.ofChange fnExactRowSumWrong)

/-- 'laws.FnRowSum': WHATEVER THE INPUT: true; the input reads as it did. -/
def fnRowSumSpec : ChangeSpec := { name := "fnRowSum", fn := fun _ => fun
  | [d1, d2] => { results := [.lit (.bool true)], args := [d1, d2] }
  | _ => none }
def fnRowSumRow : OpenClaim := { program := "ytbgheffgkncpgaa", sum := "f18e7a453ba41bfc99bd0a35d1fafa01f740d771021172670ae1539fc5ce94be", func := "loop.example/wellhead/laws.FnRowSum", spec := "fnRowSum", apart := false }
def FnRowSumSaid : Prop := fnRowSumRow.holds Try.pinned (OpenSpec.ofChange fnRowSumSpec)

/-- ITS FALSE NEIGHBOUR: 'it returns false'. Refute it at one input. -/
def fnRowSumWrong : ChangeSpec := { name := "fnRowSum", fn := fun _ => fun
  | [d1, d2] => { results := [.lit (.bool false)], args := [d1, d2] }
  | _ => none }
def FnRowSumWrongFalsely : Prop := fnRowSumRow.holds Try.pinned (OpenSpec.ofChange fnRowSumWrong)

/-- 'laws.FnExactSolverSays': WHATEVER THE INPUT: true; the input reads as it did. -/
def fnExactSolverSaysSpec : ChangeSpec := { name := "fnExactSolverSays", fn := fun _ => fun
  | [d1, d2] => { results := [.lit (.bool true)], args := [d1, d2] }
  | _ => none }
def fnExactSolverSaysRow : OpenClaim := { program := "ytbgheffgkncpgaa", sum := "f18e7a453ba41bfc99bd0a35d1fafa01f740d771021172670ae1539fc5ce94be", func := "loop.example/wellhead/laws.FnExactSolverSays", spec := "fnExactSolverSays", apart := false }
def FnExactSolverSaysSaid : Prop := fnExactSolverSaysRow.holds Try.pinned (OpenSpec.ofChange fnExactSolverSaysSpec)

/-- ITS FALSE NEIGHBOUR: 'it returns false'. Refute it at one input. -/
def fnExactSolverSaysWrong : ChangeSpec := { name := "fnExactSolverSays", fn := fun _ => fun
  | [d1, d2] => { results := [.lit (.bool false)], args := [d1, d2] }
  | _ => none }
def FnExactSolverSaysWrongFalsely : Prop := fnExactSolverSaysRow.holds Try.pinned (OpenSpec.ofChange fnExactSolverSaysWrong)

/-- 'laws.FnSolverSays': WHATEVER THE INPUT: true; the input reads as it did. -/
def fnSolverSaysSpec : ChangeSpec := { name := "fnSolverSays", fn := fun _ => fun
  | [d1, d2] => { results := [.lit (.bool true)], args := [d1, d2] }
  | _ => none }
def fnSolverSaysRow : OpenClaim := { program := "ytbgheffgkncpgaa", sum := "f18e7a453ba41bfc99bd0a35d1fafa01f740d771021172670ae1539fc5ce94be", func := "loop.example/wellhead/laws.FnSolverSays", spec := "fnSolverSays", apart := false }
def FnSolverSaysSaid : Prop := fnSolverSaysRow.holds Try.pinned (OpenSpec.ofChange fnSolverSaysSpec)

/-- ITS FALSE NEIGHBOUR: 'it returns false'. Refute it at one input. -/
def fnSolverSaysWrong : ChangeSpec := { name := "fnSolverSays", fn := fun _ => fun
  | [d1, d2] => { results := [.lit (.bool false)], args := [d1, d2] }
  | _ => none }
def FnSolverSaysWrongFalsely : Prop := fnSolverSaysRow.holds Try.pinned (OpenSpec.ofChange fnSolverSaysWrong)

/-- 'laws.FnSolverGet': WHATEVER THE INPUT: true; the input reads as it did. -/
def fnSolverGetSpec : ChangeSpec := { name := "fnSolverGet", fn := fun _ => fun
  | [d] => { results := [.lit (.bool true)], args := [d] }
  | _ => none }
def fnSolverGetRow : OpenClaim := { program := "ytbgheffgkncpgaa", sum := "f18e7a453ba41bfc99bd0a35d1fafa01f740d771021172670ae1539fc5ce94be", func := "loop.example/wellhead/laws.FnSolverGet", spec := "fnSolverGet", apart := false }
def FnSolverGetSaid : Prop := fnSolverGetRow.holds Try.pinned (OpenSpec.ofChange fnSolverGetSpec)

/-- ITS FALSE NEIGHBOUR: 'it returns false'. Refute it at one input. -/
def fnSolverGetWrong : ChangeSpec := { name := "fnSolverGet", fn := fun _ => fun
  | [d] => { results := [.lit (.bool false)], args := [d] }
  | _ => none }
def FnSolverGetWrongFalsely : Prop := fnSolverGetRow.holds Try.pinned (OpenSpec.ofChange fnSolverGetWrong)

/- THE SECOND FORM. 'bulk': how many values and letters a reading holds, each counted each time it is reached (what is shared counts as often as it is met; a slice's spare places count too). A statement '..UptoSaid' is the law's where the arguments, and the package variables that the reading takes, are together of bulk at most 1048576: NARROWER than '..Said'. Prove '..Said' where nothing that the law and all that it calls make is longer than what came in: it says more and counts as full. Else prove '..UptoSaid'. A law counts once. -/
mutual
def uptoBulk {H : Type} : DataW H → Nat
  | .lit (.string bytes) => bytes.length + 1
  | .lit _ => 1
  | .nil => 1
  | .ptr d => uptoBulk d + 1
  | .slice elems spare => uptoBulkAll elems + uptoBulkAll spare + 1
  | .agg parts => uptoBulkAll parts + 1
  | .iface _ d => uptoBulk d + 1
  | .map entries => uptoBulkEntries entries + 1
  | .held _ => 1
def uptoBulkAll {H : Type} : List (DataW H) → Nat
  | [] => 0
  | d :: r => uptoBulk d + uptoBulkAll r
def uptoBulkEntries {H : Type} : List (Lit × DataW H) → Nat
  | [] => 0
  | x :: r => uptoBulkEntry x + uptoBulkEntries r
def uptoBulkEntry {H : Type} : Lit × DataW H → Nat
  | (.string bytes, d) => bytes.length + uptoBulk d + 1
  | (_, d) => uptoBulk d + 1
 end
def uptoSmall : (H : Type) → List (DataW H) → Bool := fun _ ds => decide (uptoBulkAll ds ≤ 1048576)
def OpenSpec.upto (s : _root_.Go.ChangeSpec) : _root_.Go.OpenSpec := { _root_.Go.OpenSpec.ofChange s with cond := some uptoSmall }

/-- 'laws.FnExactBlockXor', WHERE WHAT IT READS IS OF BULK AT MOST 1048576: true; the input reads as it did. -/
def fnExactBlockXorUptoRow : OpenClaim := { program := "ytbgheffgkncpgaa", sum := "f18e7a453ba41bfc99bd0a35d1fafa01f740d771021172670ae1539fc5ce94be", func := "loop.example/wellhead/laws.FnExactBlockXor", spec := "fnExactBlockXor", apart := false, narrowed := true }
def FnExactBlockXorUptoSaid : Prop := fnExactBlockXorUptoRow.holds Try.pinned (OpenSpec.upto fnExactBlockXorSpec)

/-- 'laws.FnBlockXor', WHERE WHAT IT READS IS OF BULK AT MOST 1048576: true; the input reads as it did. -/
def fnBlockXorUptoRow : OpenClaim := { program := "ytbgheffgkncpgaa", sum := "f18e7a453ba41bfc99bd0a35d1fafa01f740d771021172670ae1539fc5ce94be", func := "loop.example/wellhead/laws.FnBlockXor", spec := "fnBlockXor", apart := false, narrowed := true }
def FnBlockXorUptoSaid : Prop := fnBlockXorUptoRow.holds Try.pinned (OpenSpec.upto fnBlockXorSpec)

/-- 'laws.FnExactRowSum', WHERE WHAT IT READS IS OF BULK AT MOST 1048576: true; the input reads as it did. -/
def fnExactRowSumUptoRow : OpenClaim := { program := "ytbgheffgkncpgaa", sum := "f18e7a453ba41bfc99bd0a35d1fafa01f740d771021172670ae1539fc5ce94be", func := "loop.example/wellhead/laws.FnExactRowSum", spec := "fnExactRowSum", apart := false, narrowed := true }
def FnExactRowSumUptoSaid : Prop := fnExactRowSumUptoRow.holds Try.pinned (OpenSpec.upto fnExactRowSumSpec)

/-- 'laws.FnRowSum', WHERE WHAT IT READS IS OF BULK AT MOST 1048576: true; the input reads as it did. -/
def fnRowSumUptoRow : OpenClaim := { program := "ytbgheffgkncpgaa", sum := "f18e7a453ba41bfc99bd0a35d1fafa01f740d771021172670ae1539fc5ce94be", func := "loop.example/wellhead/laws.FnRowSum", spec := "fnRowSum", apart := false, narrowed := true }
def FnRowSumUptoSaid : Prop := fnRowSumUptoRow.holds Try.pinned (OpenSpec.upto fnRowSumSpec)

/-- 'laws.FnExactSolverSays', WHERE WHAT IT READS IS OF BULK AT MOST 1048576: true; the input reads as it did. -/
def fnExactSolverSaysUptoRow : OpenClaim := { program := "ytbgheffgkncpgaa", sum := "f18e7a453ba41bfc99bd0a35d1fafa01f740d771021172670ae1539fc5ce94be", func := "loop.example/wellhead/laws.FnExactSolverSays", spec := "fnExactSolverSays", apart := false, narrowed := true }
def FnExactSolverSaysUptoSaid : Prop := fnExactSolverSaysUptoRow.holds Try.pinned (OpenSpec.upto fnExactSolverSaysSpec)

/-- 'laws.FnSolverSays', WHERE WHAT IT READS IS OF BULK AT MOST 1048576: true; the input reads as it did. -/
def fnSolverSaysUptoRow : OpenClaim := { program := "ytbgheffgkncpgaa", sum := "f18e7a453ba41bfc99bd0a35d1fafa01f740d771021172670ae1539fc5ce94be", func := "loop.example/wellhead/laws.FnSolverSays", spec := "fnSolverSays", apart := false, narrowed := true }
def FnSolverSaysUptoSaid : Prop := fnSolverSaysUptoRow.holds Try.pinned (OpenSpec.upto fnSolverSaysSpec)

/-- 'laws.FnSolverGet', WHERE WHAT IT READS IS OF BULK AT MOST 1048576: true; the input reads as it did. -/
def fnSolverGetUptoRow : OpenClaim := { program := "ytbgheffgkncpgaa", sum := "f18e7a453ba41bfc99bd0a35d1fafa01f740d771021172670ae1539fc5ce94be", func := "loop.example/wellhead/laws.FnSolverGet", spec := "fnSolverGet", apart := false, narrowed := true }
def FnSolverGetUptoSaid : Prop := fnSolverGetUptoRow.holds Try.pinned (OpenSpec.upto fnSolverGetSpec)

end Rows
end Go.Proofs.Ytbgheffgkncpgaa
