/-
  No cell of these rows narrows 'for every input' (looked for: loops, veiled, ifaces, maps, wideKeys, modest, calm, conditions, laid).
  DERIVED. THE GIVEN ROWS OF THIS SEAT. 12 by the template 'for every input the law returns true; each argument reads behind the call as it read before'; 0 by the template 'total and deterministic' (their statements: YtmmpkkjaeakplaaTotals.lean).
  GIVEN WITH THE SEED: the statements are not yours to turn. If you find one false, say at which input.
  Laid BY PROGRAM, IN A SANDBOX (cutbox-rows.mjs): the forced cells as the released guide's own fill.sh prints them over the translation 651caba326e07a15… (all of the seat's roots in one cut). By AI agents, Wed Nov 11 2026. No macro, syntax, notation, axiom, sorry.
-/
import Derived.Test.YtmmpkkjaeakplaaChecked
import GoSem.Claim
import GoSem.ClaimJoined
import GoSem.ClaimMapViews
import Derived.JoinedTies
import Derived.KernelRfl
namespace Go.Proofs.Ytmmpkkjaeakplaa
/- THE CELL 'sum', in the pinned program and in every row, IS THE sha256 OF THE DUMP (.gsa) THAT YtmmpkkjaeakplaaProg.lean LOADS. Nothing in Lean hashes anything: it is a label: what it is worth is what the hold of that sum in a sandbox is worth. -/
noncomputable def Try.pinned : Pinned := { name := "ytmmpkkjaeakplaa", sum := "651caba326e07a15202a9cc872a40bda154fab952c409d62baf99b276aae1049", checked := Try.checked }
namespace Rows
def none {H : Type} : Left H := { results := [], args := [] }

/-- 'laws.FnExactConstants': WHATEVER THE INPUT: true; the input reads as it did. -/
def fnExactConstantsSpec : ChangeSpec := { name := "fnExactConstants", fn := fun _ => fun
  | [] => { results := [.lit (.bool true)], args := [] }
  | _ => none }
def fnExactConstantsRow : OpenClaim := { program := "ytmmpkkjaeakplaa", sum := "651caba326e07a15202a9cc872a40bda154fab952c409d62baf99b276aae1049", func := "loop.example/wellhead/laws.FnExactConstants", spec := "fnExactConstants", apart := false }
def FnExactConstantsSaid : Prop := fnExactConstantsRow.holds Try.pinned (OpenSpec.ofChange fnExactConstantsSpec)

/-- ITS FALSE NEIGHBOUR: 'it returns false'. Refute it at one input. -/
def fnExactConstantsWrong : ChangeSpec := { name := "fnExactConstants", fn := fun _ => fun
  | [] => { results := [.lit (.bool false)], args := [] }
  | _ => none }
def FnExactConstantsWrongFalsely : Prop := fnExactConstantsRow.holds Try.pinned (OpenSpec.ofChange fnExactConstantsWrong)

/-- 'laws.FnExactSeedNext': WHATEVER THE INPUT: true; the input reads as it did. -/
def fnExactSeedNextSpec : ChangeSpec := { name := "fnExactSeedNext", fn := fun _ => fun
  | [d] => { results := [.lit (.bool true)], args := [d] }
  | _ => none }
def fnExactSeedNextRow : OpenClaim := { program := "ytmmpkkjaeakplaa", sum := "651caba326e07a15202a9cc872a40bda154fab952c409d62baf99b276aae1049", func := "loop.example/wellhead/laws.FnExactSeedNext", spec := "fnExactSeedNext", apart := false }
def FnExactSeedNextSaid : Prop := fnExactSeedNextRow.holds Try.pinned (OpenSpec.ofChange fnExactSeedNextSpec)

/-- ITS FALSE NEIGHBOUR: 'it returns false'. Refute it at one input. -/
def fnExactSeedNextWrong : ChangeSpec := { name := "fnExactSeedNext", fn := fun _ => fun
  | [d] => { results := [.lit (.bool false)], args := [d] }
  | _ => none }
def FnExactSeedNextWrongFalsely : Prop := fnExactSeedNextRow.holds Try.pinned (OpenSpec.ofChange fnExactSeedNextWrong)

/-- 'laws.FnExactSeedPick': WHATEVER THE INPUT: true; the input reads as it did. -/
def fnExactSeedPickSpec : ChangeSpec := { name := "fnExactSeedPick", fn := fun _ => fun
  | [d1, d2] => { results := [.lit (.bool true)], args := [d1, d2] }
  | _ => none }
def fnExactSeedPickRow : OpenClaim := { program := "ytmmpkkjaeakplaa", sum := "651caba326e07a15202a9cc872a40bda154fab952c409d62baf99b276aae1049", func := "loop.example/wellhead/laws.FnExactSeedPick", spec := "fnExactSeedPick", apart := false }
def FnExactSeedPickSaid : Prop := fnExactSeedPickRow.holds Try.pinned (OpenSpec.ofChange fnExactSeedPickSpec)

/-- ITS FALSE NEIGHBOUR: 'it returns false'. Refute it at one input. -/
def fnExactSeedPickWrong : ChangeSpec := { name := "fnExactSeedPick", fn := fun _ => fun
  | [d1, d2] => { results := [.lit (.bool false)], args := [d1, d2] }
  | _ => none }
def FnExactSeedPickWrongFalsely : Prop := fnExactSeedPickRow.holds Try.pinned (OpenSpec.ofChange fnExactSeedPickWrong)

/-- 'laws.FnExactRowOk': WHATEVER THE INPUT: true; the input reads as it did. -/
def fnExactRowOkSpec : ChangeSpec := { name := "fnExactRowOk", fn := fun _ => fun
  | [d1, d2] => { results := [.lit (.bool true)], args := [d1, d2] }
  | _ => none }
def fnExactRowOkRow : OpenClaim := { program := "ytmmpkkjaeakplaa", sum := "651caba326e07a15202a9cc872a40bda154fab952c409d62baf99b276aae1049", func := "loop.example/wellhead/laws.FnExactRowOk", spec := "fnExactRowOk", apart := false }
def FnExactRowOkSaid : Prop := fnExactRowOkRow.holds Try.pinned (OpenSpec.ofChange fnExactRowOkSpec)

/-- ITS FALSE NEIGHBOUR: 'it returns false'. Refute it at one input. -/
def fnExactRowOkWrong : ChangeSpec := { name := "fnExactRowOk", fn := fun _ => fun
  | [d1, d2] => { results := [.lit (.bool false)], args := [d1, d2] }
  | _ => none }
def FnExactRowOkWrongFalsely : Prop := fnExactRowOkRow.holds Try.pinned (OpenSpec.ofChange fnExactRowOkWrong)

/-- 'laws.FnSeed': WHATEVER THE INPUT: true; the input reads as it did. -/
def fnSeedSpec : ChangeSpec := { name := "fnSeed", fn := fun _ => fun
  | [d] => { results := [.lit (.bool true)], args := [d] }
  | _ => none }
def fnSeedRow : OpenClaim := { program := "ytmmpkkjaeakplaa", sum := "651caba326e07a15202a9cc872a40bda154fab952c409d62baf99b276aae1049", func := "loop.example/wellhead/laws.FnSeed", spec := "fnSeed", apart := false }
def FnSeedSaid : Prop := fnSeedRow.holds Try.pinned (OpenSpec.ofChange fnSeedSpec)

/-- ITS FALSE NEIGHBOUR: 'it returns false'. Refute it at one input. -/
def fnSeedWrong : ChangeSpec := { name := "fnSeed", fn := fun _ => fun
  | [d] => { results := [.lit (.bool false)], args := [d] }
  | _ => none }
def FnSeedWrongFalsely : Prop := fnSeedRow.holds Try.pinned (OpenSpec.ofChange fnSeedWrong)

/-- 'laws.FnExactPlanOk': WHATEVER THE INPUT: true; the input reads as it did. -/
def fnExactPlanOkSpec : ChangeSpec := { name := "fnExactPlanOk", fn := fun _ => fun
  | [d] => { results := [.lit (.bool true)], args := [d] }
  | _ => none }
def fnExactPlanOkRow : OpenClaim := { program := "ytmmpkkjaeakplaa", sum := "651caba326e07a15202a9cc872a40bda154fab952c409d62baf99b276aae1049", func := "loop.example/wellhead/laws.FnExactPlanOk", spec := "fnExactPlanOk", apart := false }
def FnExactPlanOkSaid : Prop := fnExactPlanOkRow.holds Try.pinned (OpenSpec.ofChange fnExactPlanOkSpec)

/-- ITS FALSE NEIGHBOUR: 'it returns false'. Refute it at one input. -/
def fnExactPlanOkWrong : ChangeSpec := { name := "fnExactPlanOk", fn := fun _ => fun
  | [d] => { results := [.lit (.bool false)], args := [d] }
  | _ => none }
def FnExactPlanOkWrongFalsely : Prop := fnExactPlanOkRow.holds Try.pinned (OpenSpec.ofChange fnExactPlanOkWrong)

/-- 'laws.FnExactRowXor': WHATEVER THE INPUT: true; the input reads as it did. -/
def fnExactRowXorSpec : ChangeSpec := { name := "fnExactRowXor", fn := fun _ => fun
  | [d1, d2] => { results := [.lit (.bool true)], args := [d1, d2] }
  | _ => none }
def fnExactRowXorRow : OpenClaim := { program := "ytmmpkkjaeakplaa", sum := "651caba326e07a15202a9cc872a40bda154fab952c409d62baf99b276aae1049", func := "loop.example/wellhead/laws.FnExactRowXor", spec := "fnExactRowXor", apart := false }
def FnExactRowXorSaid : Prop := fnExactRowXorRow.holds Try.pinned (OpenSpec.ofChange fnExactRowXorSpec)

/-- ITS FALSE NEIGHBOUR: 'it returns false'. Refute it at one input. -/
def fnExactRowXorWrong : ChangeSpec := { name := "fnExactRowXor", fn := fun _ => fun
  | [d1, d2] => { results := [.lit (.bool false)], args := [d1, d2] }
  | _ => none }
def FnExactRowXorWrongFalsely : Prop := fnExactRowXorRow.holds Try.pinned (OpenSpec.ofChange fnExactRowXorWrong)

/-- 'laws.FnExactPlanCount': WHATEVER THE INPUT: true; the input reads as it did. -/
def fnExactPlanCountSpec : ChangeSpec := { name := "fnExactPlanCount", fn := fun _ => fun
  | [d] => { results := [.lit (.bool true)], args := [d] }
  | _ => none }
def fnExactPlanCountRow : OpenClaim := { program := "ytmmpkkjaeakplaa", sum := "651caba326e07a15202a9cc872a40bda154fab952c409d62baf99b276aae1049", func := "loop.example/wellhead/laws.FnExactPlanCount", spec := "fnExactPlanCount", apart := false }
def FnExactPlanCountSaid : Prop := fnExactPlanCountRow.holds Try.pinned (OpenSpec.ofChange fnExactPlanCountSpec)

/-- ITS FALSE NEIGHBOUR: 'it returns false'. Refute it at one input. -/
def fnExactPlanCountWrong : ChangeSpec := { name := "fnExactPlanCount", fn := fun _ => fun
  | [d] => { results := [.lit (.bool false)], args := [d] }
  | _ => none }
def FnExactPlanCountWrongFalsely : Prop := fnExactPlanCountRow.holds Try.pinned (OpenSpec.ofChange fnExactPlanCountWrong)

/-- 'laws.FnExactPlanFor': WHATEVER THE INPUT: true; the input reads as it did. -/
def fnExactPlanForSpec : ChangeSpec := { name := "fnExactPlanFor", fn := fun _ => fun
  | [d] => { results := [.lit (.bool true)], args := [d] }
  | _ => none }
def fnExactPlanForRow : OpenClaim := { program := "ytmmpkkjaeakplaa", sum := "651caba326e07a15202a9cc872a40bda154fab952c409d62baf99b276aae1049", func := "loop.example/wellhead/laws.FnExactPlanFor", spec := "fnExactPlanFor", apart := false }
def FnExactPlanForSaid : Prop := fnExactPlanForRow.holds Try.pinned (OpenSpec.ofChange fnExactPlanForSpec)

/-- ITS FALSE NEIGHBOUR: 'it returns false'. Refute it at one input. -/
def fnExactPlanForWrong : ChangeSpec := { name := "fnExactPlanFor", fn := fun _ => fun
  | [d] => { results := [.lit (.bool false)], args := [d] }
  | _ => none }
def FnExactPlanForWrongFalsely : Prop := fnExactPlanForRow.holds Try.pinned (OpenSpec.ofChange fnExactPlanForWrong)

/-- 'laws.FnPlanFor': WHATEVER THE INPUT: true; the input reads as it did. -/
def fnPlanForSpec : ChangeSpec := { name := "fnPlanFor", fn := fun _ => fun
  | [d] => { results := [.lit (.bool true)], args := [d] }
  | _ => none }
def fnPlanForRow : OpenClaim := { program := "ytmmpkkjaeakplaa", sum := "651caba326e07a15202a9cc872a40bda154fab952c409d62baf99b276aae1049", func := "loop.example/wellhead/laws.FnPlanFor", spec := "fnPlanFor", apart := false }
def FnPlanForSaid : Prop := fnPlanForRow.holds Try.pinned (OpenSpec.ofChange fnPlanForSpec)

/-- ITS FALSE NEIGHBOUR: 'it returns false'. Refute it at one input. -/
def fnPlanForWrong : ChangeSpec := { name := "fnPlanFor", fn := fun _ => fun
  | [d] => { results := [.lit (.bool false)], args := [d] }
  | _ => none }
def FnPlanForWrongFalsely : Prop := fnPlanForRow.holds Try.pinned (OpenSpec.ofChange fnPlanForWrong)

/-- 'laws.FnDegrees': WHATEVER THE INPUT: true; the input reads as it did. -/
def fnDegreesSpec : ChangeSpec := { name := "fnDegrees", fn := fun _ => fun
  | [d] => { results := [.lit (.bool true)], args := [d] }
  | _ => none }
def fnDegreesRow : OpenClaim := { program := "ytmmpkkjaeakplaa", sum := "651caba326e07a15202a9cc872a40bda154fab952c409d62baf99b276aae1049", func := "loop.example/wellhead/laws.FnDegrees", spec := "fnDegrees", apart := false }
def FnDegreesSaid : Prop := fnDegreesRow.holds Try.pinned (OpenSpec.ofChange fnDegreesSpec)

/-- ITS FALSE NEIGHBOUR: 'it returns false'. Refute it at one input. -/
def fnDegreesWrong : ChangeSpec := { name := "fnDegrees", fn := fun _ => fun
  | [d] => { results := [.lit (.bool false)], args := [d] }
  | _ => none }
def FnDegreesWrongFalsely : Prop := fnDegreesRow.holds Try.pinned (OpenSpec.ofChange fnDegreesWrong)

/-- 'laws.FnExactSolverNew': WHATEVER THE INPUT: true; the input reads as it did. -/
def fnExactSolverNewSpec : ChangeSpec := { name := "fnExactSolverNew", fn := fun _ => fun
  | [d1, d2] => { results := [.lit (.bool true)], args := [d1, d2] }
  | _ => none }
def fnExactSolverNewRow : OpenClaim := { program := "ytmmpkkjaeakplaa", sum := "651caba326e07a15202a9cc872a40bda154fab952c409d62baf99b276aae1049", func := "loop.example/wellhead/laws.FnExactSolverNew", spec := "fnExactSolverNew", apart := false }
def FnExactSolverNewSaid : Prop := fnExactSolverNewRow.holds Try.pinned (OpenSpec.ofChange fnExactSolverNewSpec)

/-- ITS FALSE NEIGHBOUR: 'it returns false'. Refute it at one input. -/
def fnExactSolverNewWrong : ChangeSpec := { name := "fnExactSolverNew", fn := fun _ => fun
  | [d1, d2] => { results := [.lit (.bool false)], args := [d1, d2] }
  | _ => none }
def FnExactSolverNewWrongFalsely : Prop := fnExactSolverNewRow.holds Try.pinned (OpenSpec.ofChange fnExactSolverNewWrong)

/- THE SECOND FORM. 'bulk': how many values and letters a reading holds, each counted each time it is reached (what is shared counts as often as it is met; a slice's spare places count too). A statement '..UptoSaid' is the law's where the arguments, and the package variables that the reading takes, are together of bulk at most 1048576: NARROWER than '..Said'. Prove '..Said' where nothing that the law and all that it calls make is longer than what came in: it says more and counts as full. Else prove '..UptoSaid'. A law counts once. -/
mutual
def uptoBulk {H : Type} : DataW H → Nat
  | .lit (.string bytes) => bytes.length + 1
  | .lit _ => 1
  | .nil => 1
  | .ptr d => uptoBulk d + 1
  | .slice elems spare => uptoBulkAll elems + uptoBulkAll spare + 1
  | .agg parts => uptoBulkAll parts + 1
  | .iface _ d => uptoBulk d + 1
  | .map entries => uptoBulkEntries entries + 1
  | .held _ => 1
def uptoBulkAll {H : Type} : List (DataW H) → Nat
  | [] => 0
  | d :: r => uptoBulk d + uptoBulkAll r
def uptoBulkEntries {H : Type} : List (Lit × DataW H) → Nat
  | [] => 0
  | x :: r => uptoBulkEntry x + uptoBulkEntries r
def uptoBulkEntry {H : Type} : Lit × DataW H → Nat
  | (.string bytes, d) => bytes.length + uptoBulk d + 1
  | (_, d) => uptoBulk d + 1
 end
def uptoSmall : (H : Type) → List (DataW H) → Bool := fun _ ds => decide (uptoBulkAll ds ≤ 1048576)
def OpenSpec.upto (s : _root_.Go.ChangeSpec) : _root_.Go.OpenSpec := { _root_.Go.OpenSpec.ofChange s with cond := some uptoSmall }

/-- 'laws.FnExactConstants', WHERE WHAT IT READS IS OF BULK AT MOST 1048576: true; the input reads as it did. -/
def fnExactConstantsUptoRow : OpenClaim := { program := "ytmmpkkjaeakplaa", sum := "651caba326e07a15202a9cc872a40bda154fab952c409d62baf99b276aae1049", func := "loop.example/wellhead/laws.FnExactConstants", spec := "fnExactConstants", apart := false, narrowed := true }
def FnExactConstantsUptoSaid : Prop := fnExactConstantsUptoRow.holds Try.pinned (OpenSpec.upto fnExactConstantsSpec)

/-- 'laws.FnExactSeedNext', WHERE WHAT IT READS IS OF BULK AT MOST 1048576: true; the input reads as it did. -/
def fnExactSeedNextUptoRow : OpenClaim := { program := "ytmmpkkjaeakplaa", sum := "651caba326e07a15202a9cc872a40bda154fab952c409d62baf99b276aae1049", func := "loop.example/wellhead/laws.FnExactSeedNext", spec := "fnExactSeedNext", apart := false, narrowed := true }
def FnExactSeedNextUptoSaid : Prop := fnExactSeedNextUptoRow.holds Try.pinned (OpenSpec.upto fnExactSeedNextSpec)

/-- 'laws.FnExactSeedPick', WHERE WHAT IT READS IS OF BULK AT MOST 1048576: true; the input reads as it did. -/
def fnExactSeedPickUptoRow : OpenClaim := { program := "ytmmpkkjaeakplaa", sum := "651caba326e07a15202a9cc872a40bda154fab952c409d62baf99b276aae1049", func := "loop.example/wellhead/laws.FnExactSeedPick", spec := "fnExactSeedPick", apart := false, narrowed := true }
def FnExactSeedPickUptoSaid : Prop := fnExactSeedPickUptoRow.holds Try.pinned (OpenSpec.upto fnExactSeedPickSpec)

/-- 'laws.FnExactRowOk', WHERE WHAT IT READS IS OF BULK AT MOST 1048576: true; the input reads as it did. -/
def fnExactRowOkUptoRow : OpenClaim := { program := "ytmmpkkjaeakplaa", sum := "651caba326e07a15202a9cc872a40bda154fab952c409d62baf99b276aae1049", func := "loop.example/wellhead/laws.FnExactRowOk", spec := "fnExactRowOk", apart := false, narrowed := true }
def FnExactRowOkUptoSaid : Prop := fnExactRowOkUptoRow.holds Try.pinned (OpenSpec.upto fnExactRowOkSpec)

/-- 'laws.FnSeed', WHERE WHAT IT READS IS OF BULK AT MOST 1048576: true; the input reads as it did. -/
def fnSeedUptoRow : OpenClaim := { program := "ytmmpkkjaeakplaa", sum := "651caba326e07a15202a9cc872a40bda154fab952c409d62baf99b276aae1049", func := "loop.example/wellhead/laws.FnSeed", spec := "fnSeed", apart := false, narrowed := true }
def FnSeedUptoSaid : Prop := fnSeedUptoRow.holds Try.pinned (OpenSpec.upto fnSeedSpec)

/-- 'laws.FnExactPlanOk', WHERE WHAT IT READS IS OF BULK AT MOST 1048576: true; the input reads as it did. -/
def fnExactPlanOkUptoRow : OpenClaim := { program := "ytmmpkkjaeakplaa", sum := "651caba326e07a15202a9cc872a40bda154fab952c409d62baf99b276aae1049", func := "loop.example/wellhead/laws.FnExactPlanOk", spec := "fnExactPlanOk", apart := false, narrowed := true }
def FnExactPlanOkUptoSaid : Prop := fnExactPlanOkUptoRow.holds Try.pinned (OpenSpec.upto fnExactPlanOkSpec)

/-- 'laws.FnExactRowXor', WHERE WHAT IT READS IS OF BULK AT MOST 1048576: true; the input reads as it did. -/
def fnExactRowXorUptoRow : OpenClaim := { program := "ytmmpkkjaeakplaa", sum := "651caba326e07a15202a9cc872a40bda154fab952c409d62baf99b276aae1049", func := "loop.example/wellhead/laws.FnExactRowXor", spec := "fnExactRowXor", apart := false, narrowed := true }
def FnExactRowXorUptoSaid : Prop := fnExactRowXorUptoRow.holds Try.pinned (OpenSpec.upto fnExactRowXorSpec)

/-- 'laws.FnExactPlanCount', WHERE WHAT IT READS IS OF BULK AT MOST 1048576: true; the input reads as it did. -/
def fnExactPlanCountUptoRow : OpenClaim := { program := "ytmmpkkjaeakplaa", sum := "651caba326e07a15202a9cc872a40bda154fab952c409d62baf99b276aae1049", func := "loop.example/wellhead/laws.FnExactPlanCount", spec := "fnExactPlanCount", apart := false, narrowed := true }
def FnExactPlanCountUptoSaid : Prop := fnExactPlanCountUptoRow.holds Try.pinned (OpenSpec.upto fnExactPlanCountSpec)

/-- 'laws.FnExactPlanFor', WHERE WHAT IT READS IS OF BULK AT MOST 1048576: true; the input reads as it did. -/
def fnExactPlanForUptoRow : OpenClaim := { program := "ytmmpkkjaeakplaa", sum := "651caba326e07a15202a9cc872a40bda154fab952c409d62baf99b276aae1049", func := "loop.example/wellhead/laws.FnExactPlanFor", spec := "fnExactPlanFor", apart := false, narrowed := true }
def FnExactPlanForUptoSaid : Prop := fnExactPlanForUptoRow.holds Try.pinned (OpenSpec.upto fnExactPlanForSpec)

/-- 'laws.FnPlanFor', WHERE WHAT IT READS IS OF BULK AT MOST 1048576: true; the input reads as it did. -/
def fnPlanForUptoRow : OpenClaim := { program := "ytmmpkkjaeakplaa", sum := "651caba326e07a15202a9cc872a40bda154fab952c409d62baf99b276aae1049", func := "loop.example/wellhead/laws.FnPlanFor", spec := "fnPlanFor", apart := false, narrowed := true }
def FnPlanForUptoSaid : Prop := fnPlanForUptoRow.holds Try.pinned (OpenSpec.upto fnPlanForSpec)

/-- 'laws.FnDegrees', WHERE WHAT IT READS IS OF BULK AT MOST 1048576: true; the input reads as it did. -/
def fnDegreesUptoRow : OpenClaim := { program := "ytmmpkkjaeakplaa", sum := "651caba326e07a15202a9cc872a40bda154fab952c409d62baf99b276aae1049", func := "loop.example/wellhead/laws.FnDegrees", spec := "fnDegrees", apart := false, narrowed := true }
def FnDegreesUptoSaid : Prop := fnDegreesUptoRow.holds Try.pinned (OpenSpec.upto fnDegreesSpec)

/-- 'laws.FnExactSolverNew', WHERE WHAT IT READS IS OF BULK AT MOST 1048576: true; the input reads as it did. -/
def fnExactSolverNewUptoRow : OpenClaim := { program := "ytmmpkkjaeakplaa", sum := "651caba326e07a15202a9cc872a40bda154fab952c409d62baf99b276aae1049", func := "loop.example/wellhead/laws.FnExactSolverNew", spec := "fnExactSolverNew", apart := false, narrowed := true }
def FnExactSolverNewUptoSaid : Prop := fnExactSolverNewUptoRow.holds Try.pinned (OpenSpec.upto fnExactSolverNewSpec)

end Rows
end Go.Proofs.Ytmmpkkjaeakplaa
