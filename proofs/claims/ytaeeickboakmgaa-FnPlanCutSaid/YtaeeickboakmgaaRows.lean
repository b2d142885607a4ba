/-
  No cell of these rows narrows 'for every input' (looked for: loops, veiled, ifaces, maps, wideKeys, modest, calm, conditions, laid).
  DERIVED. THE GIVEN ROWS OF THIS SEAT. 12 by the template 'for every input the law returns true; each argument reads behind the call as it read before'; 0 by the template 'total and deterministic' (their statements: YtaeeickboakmgaaTotals.lean).
  GIVEN WITH THE SEED: the statements are not yours to turn. If you find one false, say at which input.
  Laid BY PROGRAM, IN A SANDBOX (cutbox-rows.mjs): the forced cells as the released guide's own fill.sh prints them over the translation 2c421a531b917c7a… (all of the seat's roots in one cut). By AI agents, Wed Nov 11 2026. No macro, syntax, notation, axiom, sorry.
-/
import Derived.Test.YtaeeickboakmgaaChecked
import GoSem.Claim
import GoSem.ClaimJoined
import GoSem.ClaimMapViews
import Derived.JoinedTies
import Derived.KernelRfl
namespace Go.Proofs.Ytaeeickboakmgaa
/- THE CELL 'sum', in the pinned program and in every row, IS THE sha256 OF THE DUMP (.gsa) THAT YtaeeickboakmgaaProg.lean LOADS. Nothing in Lean hashes anything: it is a label: what it is worth is what the hold of that sum in a sandbox is worth. -/
noncomputable def Try.pinned : Pinned := { name := "ytaeeickboakmgaa", sum := "2c421a531b917c7a00eabc1424ac79413a063e068f71f8e6a7d8b2cf0a263c5b", checked := Try.checked }
namespace Rows
def none {H : Type} : Left H := { results := [], args := [] }

/-- 'laws.FnRowXor': WHATEVER THE INPUT: true; the input reads as it did. -/
def fnRowXorSpec : ChangeSpec := { name := "fnRowXor", fn := fun _ => fun
  | [d] => { results := [.lit (.bool true)], args := [d] }
  | _ => none }
def fnRowXorRow : OpenClaim := { program := "ytaeeickboakmgaa", sum := "2c421a531b917c7a00eabc1424ac79413a063e068f71f8e6a7d8b2cf0a263c5b", func := "loop.example/wellhead/laws.FnRowXor", spec := "fnRowXor", apart := false }
def FnRowXorSaid : Prop := fnRowXorRow.holds Try.pinned (OpenSpec.ofChange fnRowXorSpec)

/-- ITS FALSE NEIGHBOUR: 'it returns false'. Refute it at one input. -/
def fnRowXorWrong : ChangeSpec := { name := "fnRowXor", fn := fun _ => fun
  | [d] => { results := [.lit (.bool false)], args := [d] }
  | _ => none }
def FnRowXorWrongFalsely : Prop := fnRowXorRow.holds Try.pinned (OpenSpec.ofChange fnRowXorWrong)

/-- 'laws.FnExactSolverOk': WHATEVER THE INPUT: true; the input reads as it did. -/
def fnExactSolverOkSpec : ChangeSpec := { name := "fnExactSolverOk", fn := fun _ => fun
  | [d] => { results := [.lit (.bool true)], args := [d] }
  | _ => none }
def fnExactSolverOkRow : OpenClaim := { program := "ytaeeickboakmgaa", sum := "2c421a531b917c7a00eabc1424ac79413a063e068f71f8e6a7d8b2cf0a263c5b", func := "loop.example/wellhead/laws.FnExactSolverOk", spec := "fnExactSolverOk", apart := false }
def FnExactSolverOkSaid : Prop := fnExactSolverOkRow.holds Try.pinned (OpenSpec.ofChange fnExactSolverOkSpec)

/-- ITS FALSE NEIGHBOUR: 'it returns false'. Refute it at one input. -/
def fnExactSolverOkWrong : ChangeSpec := { name := "fnExactSolverOk", fn := fun _ => fun
  | [d] => { results := [.lit (.bool false)], args := [d] }
  | _ => none }
def FnExactSolverOkWrongFalsely : Prop := fnExactSolverOkRow.holds Try.pinned (OpenSpec.ofChange fnExactSolverOkWrong)

/-- 'laws.FnExactPlanCut': WHATEVER THE INPUT: true; the input reads as it did. -/
def fnExactPlanCutSpec : ChangeSpec := { name := "fnExactPlanCut", fn := fun _ => fun
  | [d1, d2] => { results := [.lit (.bool true)], args := [d1, d2] }
  | _ => none }
def fnExactPlanCutRow : OpenClaim := { program := "ytaeeickboakmgaa", sum := "2c421a531b917c7a00eabc1424ac79413a063e068f71f8e6a7d8b2cf0a263c5b", func := "loop.example/wellhead/laws.FnExactPlanCut", spec := "fnExactPlanCut", apart := false }
def FnExactPlanCutSaid : Prop := fnExactPlanCutRow.holds Try.pinned (OpenSpec.ofChange fnExactPlanCutSpec)

/-- ITS FALSE NEIGHBOUR: 'it returns false'. Refute it at one input. -/
def fnExactPlanCutWrong : ChangeSpec := { name := "fnExactPlanCut", fn := fun _ => fun
  | [d1, d2] => { results := [.lit (.bool false)], args := [d1, d2] }
  | _ => none }
def FnExactPlanCutWrongFalsely : Prop := fnExactPlanCutRow.holds Try.pinned (OpenSpec.ofChange fnExactPlanCutWrong)

/-- 'laws.FnPlanCut': WHATEVER THE INPUT: true; the input reads as it did. -/
def fnPlanCutSpec : ChangeSpec := { name := "fnPlanCut", fn := fun _ => fun
  | [d] => { results := [.lit (.bool true)], args := [d] }
  | _ => none }
def fnPlanCutRow : OpenClaim := { program := "ytaeeickboakmgaa", sum := "2c421a531b917c7a00eabc1424ac79413a063e068f71f8e6a7d8b2cf0a263c5b", func := "loop.example/wellhead/laws.FnPlanCut", spec := "fnPlanCut", apart := false }
def FnPlanCutSaid : Prop := fnPlanCutRow.holds Try.pinned (OpenSpec.ofChange fnPlanCutSpec)

/-- ITS FALSE NEIGHBOUR: 'it returns false'. Refute it at one input. -/
def fnPlanCutWrong : ChangeSpec := { name := "fnPlanCut", fn := fun _ => fun
  | [d] => { results := [.lit (.bool false)], args := [d] }
  | _ => none }
def FnPlanCutWrongFalsely : Prop := fnPlanCutRow.holds Try.pinned (OpenSpec.ofChange fnPlanCutWrong)

/-- 'laws.FnExactSolverRank': WHATEVER THE INPUT: true; the input reads as it did. -/
def fnExactSolverRankSpec : ChangeSpec := { name := "fnExactSolverRank", fn := fun _ => fun
  | [d] => { results := [.lit (.bool true)], args := [d] }
  | _ => none }
def fnExactSolverRankRow : OpenClaim := { program := "ytaeeickboakmgaa", sum := "2c421a531b917c7a00eabc1424ac79413a063e068f71f8e6a7d8b2cf0a263c5b", func := "loop.example/wellhead/laws.FnExactSolverRank", spec := "fnExactSolverRank", apart := false }
def FnExactSolverRankSaid : Prop := fnExactSolverRankRow.holds Try.pinned (OpenSpec.ofChange fnExactSolverRankSpec)

/-- ITS FALSE NEIGHBOUR: 'it returns false'. Refute it at one input. -/
def fnExactSolverRankWrong : ChangeSpec := { name := "fnExactSolverRank", fn := fun _ => fun
  | [d] => { results := [.lit (.bool false)], args := [d] }
  | _ => none }
def FnExactSolverRankWrongFalsely : Prop := fnExactSolverRankRow.holds Try.pinned (OpenSpec.ofChange fnExactSolverRankWrong)

/-- 'laws.FnExactSolverGet': WHATEVER THE INPUT: true; the input reads as it did. -/
def fnExactSolverGetSpec : ChangeSpec := { name := "fnExactSolverGet", fn := fun _ => fun
  | [d1, d2] => { results := [.lit (.bool true)], args := [d1, d2] }
  | _ => none }
def fnExactSolverGetRow : OpenClaim := { program := "ytaeeickboakmgaa", sum := "2c421a531b917c7a00eabc1424ac79413a063e068f71f8e6a7d8b2cf0a263c5b", func := "loop.example/wellhead/laws.FnExactSolverGet", spec := "fnExactSolverGet", apart := false }
def FnExactSolverGetSaid : Prop := fnExactSolverGetRow.holds Try.pinned (OpenSpec.ofChange fnExactSolverGetSpec)

/-- ITS FALSE NEIGHBOUR: 'it returns false'. Refute it at one input. -/
def fnExactSolverGetWrong : ChangeSpec := { name := "fnExactSolverGet", fn := fun _ => fun
  | [d1, d2] => { results := [.lit (.bool false)], args := [d1, d2] }
  | _ => none }
def FnExactSolverGetWrongFalsely : Prop := fnExactSolverGetRow.holds Try.pinned (OpenSpec.ofChange fnExactSolverGetWrong)

/-- 'laws.FnExactSolverPrefix': WHATEVER THE INPUT: true; the input reads as it did. -/
def fnExactSolverPrefixSpec : ChangeSpec := { name := "fnExactSolverPrefix", fn := fun _ => fun
  | [d] => { results := [.lit (.bool true)], args := [d] }
  | _ => none }
def fnExactSolverPrefixRow : OpenClaim := { program := "ytaeeickboakmgaa", sum := "2c421a531b917c7a00eabc1424ac79413a063e068f71f8e6a7d8b2cf0a263c5b", func := "loop.example/wellhead/laws.FnExactSolverPrefix", spec := "fnExactSolverPrefix", apart := false }
def FnExactSolverPrefixSaid : Prop := fnExactSolverPrefixRow.holds Try.pinned (OpenSpec.ofChange fnExactSolverPrefixSpec)

/-- ITS FALSE NEIGHBOUR: 'it returns false'. Refute it at one input. -/
def fnExactSolverPrefixWrong : ChangeSpec := { name := "fnExactSolverPrefix", fn := fun _ => fun
  | [d] => { results := [.lit (.bool false)], args := [d] }
  | _ => none }
def FnExactSolverPrefixWrongFalsely : Prop := fnExactSolverPrefixRow.holds Try.pinned (OpenSpec.ofChange fnExactSolverPrefixWrong)

/-- 'laws.FnExactGetNew': WHATEVER THE INPUT: true; the input reads as it did. -/
def fnExactGetNewSpec : ChangeSpec := { name := "fnExactGetNew", fn := fun _ => fun
  | [d] => { results := [.lit (.bool true)], args := [d] }
  | _ => none }
def fnExactGetNewRow : OpenClaim := { program := "ytaeeickboakmgaa", sum := "2c421a531b917c7a00eabc1424ac79413a063e068f71f8e6a7d8b2cf0a263c5b", func := "loop.example/wellhead/laws.FnExactGetNew", spec := "fnExactGetNew", apart := false }
def FnExactGetNewSaid : Prop := fnExactGetNewRow.holds Try.pinned (OpenSpec.ofChange fnExactGetNewSpec)

/-- ITS FALSE NEIGHBOUR: 'it returns false'. Refute it at one input. -/
def fnExactGetNewWrong : ChangeSpec := { name := "fnExactGetNew", fn := fun _ => fun
  | [d] => { results := [.lit (.bool false)], args := [d] }
  | _ => none }
def FnExactGetNewWrongFalsely : Prop := fnExactGetNewRow.holds Try.pinned (OpenSpec.ofChange fnExactGetNewWrong)

/-- 'laws.FnExactGetOk': WHATEVER THE INPUT: true; the input reads as it did. -/
def fnExactGetOkSpec : ChangeSpec := { name := "fnExactGetOk", fn := fun _ => fun
  | [d] => { results := [.lit (.bool true)], args := [d] }
  | _ => none }
def fnExactGetOkRow : OpenClaim := { program := "ytaeeickboakmgaa", sum := "2c421a531b917c7a00eabc1424ac79413a063e068f71f8e6a7d8b2cf0a263c5b", func := "loop.example/wellhead/laws.FnExactGetOk", spec := "fnExactGetOk", apart := false }
def FnExactGetOkSaid : Prop := fnExactGetOkRow.holds Try.pinned (OpenSpec.ofChange fnExactGetOkSpec)

/-- ITS FALSE NEIGHBOUR: 'it returns false'. Refute it at one input. -/
def fnExactGetOkWrong : ChangeSpec := { name := "fnExactGetOk", fn := fun _ => fun
  | [d] => { results := [.lit (.bool false)], args := [d] }
  | _ => none }
def FnExactGetOkWrongFalsely : Prop := fnExactGetOkRow.holds Try.pinned (OpenSpec.ofChange fnExactGetOkWrong)

/-- 'laws.FnExactGetDone': WHATEVER THE INPUT: true; the input reads as it did. -/
def fnExactGetDoneSpec : ChangeSpec := { name := "fnExactGetDone", fn := fun _ => fun
  | [d] => { results := [.lit (.bool true)], args := [d] }
  | _ => none }
def fnExactGetDoneRow : OpenClaim := { program := "ytaeeickboakmgaa", sum := "2c421a531b917c7a00eabc1424ac79413a063e068f71f8e6a7d8b2cf0a263c5b", func := "loop.example/wellhead/laws.FnExactGetDone", spec := "fnExactGetDone", apart := false }
def FnExactGetDoneSaid : Prop := fnExactGetDoneRow.holds Try.pinned (OpenSpec.ofChange fnExactGetDoneSpec)

/-- ITS FALSE NEIGHBOUR: 'it returns false'. Refute it at one input. -/
def fnExactGetDoneWrong : ChangeSpec := { name := "fnExactGetDone", fn := fun _ => fun
  | [d] => { results := [.lit (.bool false)], args := [d] }
  | _ => none }
def FnExactGetDoneWrongFalsely : Prop := fnExactGetDoneRow.holds Try.pinned (OpenSpec.ofChange fnExactGetDoneWrong)

/-- 'laws.FnExactGetWindows': WHATEVER THE INPUT: true; the input reads as it did. -/
def fnExactGetWindowsSpec : ChangeSpec := { name := "fnExactGetWindows", fn := fun _ => fun
  | [d] => { results := [.lit (.bool true)], args := [d] }
  | _ => none }
def fnExactGetWindowsRow : OpenClaim := { program := "ytaeeickboakmgaa", sum := "2c421a531b917c7a00eabc1424ac79413a063e068f71f8e6a7d8b2cf0a263c5b", func := "loop.example/wellhead/laws.FnExactGetWindows", spec := "fnExactGetWindows", apart := false }
def FnExactGetWindowsSaid : Prop := fnExactGetWindowsRow.holds Try.pinned (OpenSpec.ofChange fnExactGetWindowsSpec)

/-- ITS FALSE NEIGHBOUR: 'it returns false'. Refute it at one input. -/
def fnExactGetWindowsWrong : ChangeSpec := { name := "fnExactGetWindows", fn := fun _ => fun
  | [d] => { results := [.lit (.bool false)], args := [d] }
  | _ => none }
def FnExactGetWindowsWrongFalsely : Prop := fnExactGetWindowsRow.holds Try.pinned (OpenSpec.ofChange fnExactGetWindowsWrong)

/-- 'laws.FnExactGetText': WHATEVER THE INPUT: true; the input reads as it did. -/
def fnExactGetTextSpec : ChangeSpec := { name := "fnExactGetText", fn := fun _ => fun
  | [d] => { results := [.lit (.bool true)], args := [d] }
  | _ => none }
def fnExactGetTextRow : OpenClaim := { program := "ytaeeickboakmgaa", sum := "2c421a531b917c7a00eabc1424ac79413a063e068f71f8e6a7d8b2cf0a263c5b", func := "loop.example/wellhead/laws.FnExactGetText", spec := "fnExactGetText", apart := false }
def FnExactGetTextSaid : Prop := fnExactGetTextRow.holds Try.pinned (OpenSpec.ofChange fnExactGetTextSpec)

/-- ITS FALSE NEIGHBOUR: 'it returns false'. Refute it at one input. -/
def fnExactGetTextWrong : ChangeSpec := { name := "fnExactGetText", fn := fun _ => fun
  | [d] => { results := [.lit (.bool false)], args := [d] }
  | _ => none }
def FnExactGetTextWrongFalsely : Prop := fnExactGetTextRow.holds Try.pinned (OpenSpec.ofChange fnExactGetTextWrong)

/- THE SECOND FORM. 'bulk': how many values and letters a reading holds, each counted each time it is reached (what is shared counts as often as it is met; a slice's spare places count too). A statement '..UptoSaid' is the law's where the arguments, and the package variables that the reading takes, are together of bulk at most 1048576: NARROWER than '..Said'. Prove '..Said' where nothing that the law and all that it calls make is longer than what came in: it says more and counts as full. Else prove '..UptoSaid'. A law counts once. -/
mutual
def uptoBulk {H : Type} : DataW H → Nat
  | .lit (.string bytes) => bytes.length + 1
  | .lit _ => 1
  | .nil => 1
  | .ptr d => uptoBulk d + 1
  | .slice elems spare => uptoBulkAll elems + uptoBulkAll spare + 1
  | .agg parts => uptoBulkAll parts + 1
  | .iface _ d => uptoBulk d + 1
  | .map entries => uptoBulkEntries entries + 1
  | .held _ => 1
def uptoBulkAll {H : Type} : List (DataW H) → Nat
  | [] => 0
  | d :: r => uptoBulk d + uptoBulkAll r
def uptoBulkEntries {H : Type} : List (Lit × DataW H) → Nat
  | [] => 0
  | x :: r => uptoBulkEntry x + uptoBulkEntries r
def uptoBulkEntry {H : Type} : Lit × DataW H → Nat
  | (.string bytes, d) => bytes.length + uptoBulk d + 1
  | (_, d) => uptoBulk d + 1
 end
def uptoSmall : (H : Type) → List (DataW H) → Bool := fun _ ds => decide (uptoBulkAll ds ≤ 1048576)
def OpenSpec.upto (s : _root_.Go.ChangeSpec) : _root_.Go.OpenSpec := { _root_.Go.OpenSpec.ofChange s with cond := some uptoSmall }

/-- 'laws.FnRowXor', WHERE WHAT IT READS IS OF BULK AT MOST 1048576: true; the input reads as it did. -/
def fnRowXorUptoRow : OpenClaim := { program := "ytaeeickboakmgaa", sum := "2c421a531b917c7a00eabc1424ac79413a063e068f71f8e6a7d8b2cf0a263c5b", func := "loop.example/wellhead/laws.FnRowXor", spec := "fnRowXor", apart := false, narrowed := true }
def FnRowXorUptoSaid : Prop := fnRowXorUptoRow.holds Try.pinned (OpenSpec.upto fnRowXorSpec)

/-- 'laws.FnExactSolverOk', WHERE WHAT IT READS IS OF BULK AT MOST 1048576: true; the input reads as it did. -/
def fnExactSolverOkUptoRow : OpenClaim := { program := "ytaeeickboakmgaa", sum := "2c421a531b917c7a00eabc1424ac79413a063e068f71f8e6a7d8b2cf0a263c5b", func := "loop.example/wellhead/laws.FnExactSolverOk", spec := "fnExactSolverOk", apart := false, narrowed := true }
def FnExactSolverOkUptoSaid : Prop := fnExactSolverOkUptoRow.holds Try.pinned (OpenSpec.upto fnExactSolverOkSpec)

/-- 'laws.FnExactPlanCut', WHERE WHAT IT READS IS OF BULK AT MOST 1048576: true; the input reads as it did. -/
def fnExactPlanCutUptoRow : OpenClaim := { program := "ytaeeickboakmgaa", sum := "2c421a531b917c7a00eabc1424ac79413a063e068f71f8e6a7d8b2cf0a263c5b", func := "loop.example/wellhead/laws.FnExactPlanCut", spec := "fnExactPlanCut", apart := false, narrowed := true }
def FnExactPlanCutUptoSaid : Prop := fnExactPlanCutUptoRow.holds Try.pinned (OpenSpec.upto fnExactPlanCutSpec)

/-- 'laws.FnPlanCut', WHERE WHAT IT READS IS OF BULK AT MOST 1048576: true; the input reads as it did. -/
def fnPlanCutUptoRow : OpenClaim := { program := "ytaeeickboakmgaa", sum := "2c421a531b917c7a00eabc1424ac79413a063e068f71f8e6a7d8b2cf0a263c5b", func := "loop.example/wellhead/laws.FnPlanCut", spec := "fnPlanCut", apart := false, narrowed := true }
def FnPlanCutUptoSaid : Prop := fnPlanCutUptoRow.holds Try.pinned (OpenSpec.upto fnPlanCutSpec)

/-- 'laws.FnExactSolverRank', WHERE WHAT IT READS IS OF BULK AT MOST 1048576: true; the input reads as it did. -/
def fnExactSolverRankUptoRow : OpenClaim := { program := "ytaeeickboakmgaa", sum := "2c421a531b917c7a00eabc1424ac79413a063e068f71f8e6a7d8b2cf0a263c5b", func := "loop.example/wellhead/laws.FnExactSolverRank", spec := "fnExactSolverRank", apart := false, narrowed := true }
def FnExactSolverRankUptoSaid : Prop := fnExactSolverRankUptoRow.holds Try.pinned (OpenSpec.upto fnExactSolverRankSpec)

/-- 'laws.FnExactSolverGet', WHERE WHAT IT READS IS OF BULK AT MOST 1048576: true; the input reads as it did. -/
def fnExactSolverGetUptoRow : OpenClaim := { program := "ytaeeickboakmgaa", sum := "2c421a531b917c7a00eabc1424ac79413a063e068f71f8e6a7d8b2cf0a263c5b", func := "loop.example/wellhead/laws.FnExactSolverGet", spec := "fnExactSolverGet", apart := false, narrowed := true }
def FnExactSolverGetUptoSaid : Prop := fnExactSolverGetUptoRow.holds Try.pinned (OpenSpec.upto fnExactSolverGetSpec)

/-- 'laws.FnExactSolverPrefix', WHERE WHAT IT READS IS OF BULK AT MOST 1048576: true; the input reads as it did. -/
def fnExactSolverPrefixUptoRow : OpenClaim := { program := "ytaeeickboakmgaa", sum := "2c421a531b917c7a00eabc1424ac79413a063e068f71f8e6a7d8b2cf0a263c5b", func := "loop.example/wellhead/laws.FnExactSolverPrefix", spec := "fnExactSolverPrefix", apart := false, narrowed := true }
def FnExactSolverPrefixUptoSaid : Prop := fnExactSolverPrefixUptoRow.holds Try.pinned (OpenSpec.upto fnExactSolverPrefixSpec)

/-- 'laws.FnExactGetNew', WHERE WHAT IT READS IS OF BULK AT MOST 1048576: true; the input reads as it did. -/
def fnExactGetNewUptoRow : OpenClaim := { program := "ytaeeickboakmgaa", sum := "2c421a531b917c7a00eabc1424ac79413a063e068f71f8e6a7d8b2cf0a263c5b", func := "loop.example/wellhead/laws.FnExactGetNew", spec := "fnExactGetNew", apart := false, narrowed := true }
def FnExactGetNewUptoSaid : Prop := fnExactGetNewUptoRow.holds Try.pinned (OpenSpec.upto fnExactGetNewSpec)

/-- 'laws.FnExactGetOk', WHERE WHAT IT READS IS OF BULK AT MOST 1048576: true; the input reads as it did. -/
def fnExactGetOkUptoRow : OpenClaim := { program := "ytaeeickboakmgaa", sum := "2c421a531b917c7a00eabc1424ac79413a063e068f71f8e6a7d8b2cf0a263c5b", func := "loop.example/wellhead/laws.FnExactGetOk", spec := "fnExactGetOk", apart := false, narrowed := true }
def FnExactGetOkUptoSaid : Prop := fnExactGetOkUptoRow.holds Try.pinned (OpenSpec.upto fnExactGetOkSpec)

/-- 'laws.FnExactGetDone', WHERE WHAT IT READS IS OF BULK AT MOST 1048576: true; the input reads as it did. -/
def fnExactGetDoneUptoRow : OpenClaim := { program := "ytaeeickboakmgaa", sum := "2c421a531b917c7a00eabc1424ac79413a063e068f71f8e6a7d8b2cf0a263c5b", func := "loop.example/wellhead/laws.FnExactGetDone", spec := "fnExactGetDone", apart := false, narrowed := true }
def FnExactGetDoneUptoSaid : Prop := fnExactGetDoneUptoRow.holds Try.pinned (OpenSpec.upto fnExactGetDoneSpec)

/-- 'laws.FnExactGetWindows', WHERE WHAT IT READS IS OF BULK AT MOST 1048576: true; the input reads as it did. -/
def fnExactGetWindowsUptoRow : OpenClaim := { program := "ytaeeickboakmgaa", sum := "2c421a531b917c7a00eabc1424ac79413a063e068f71f8e6a7d8b2cf0a263c5b", func := "loop.example/wellhead/laws.FnExactGetWindows", spec := "fnExactGetWindows", apart := false, narrowed := true }
def FnExactGetWindowsUptoSaid : Prop := fnExactGetWindowsUptoRow.holds Try.pinned (OpenSpec.upto fnExactGetWindowsSpec)

/-- 'laws.FnExactGetText', WHERE WHAT IT READS IS OF BULK AT MOST 1048576: true; the input reads as it did. -/
def fnExactGetTextUptoRow : OpenClaim := { program := "ytaeeickboakmgaa", sum := "2c421a531b917c7a00eabc1424ac79413a063e068f71f8e6a7d8b2cf0a263c5b", func := "loop.example/wellhead/laws.FnExactGetText", spec := "fnExactGetText", apart := false, narrowed := true }
def FnExactGetTextUptoSaid : Prop := fnExactGetTextUptoRow.holds Try.pinned (OpenSpec.upto fnExactGetTextSpec)

end Rows
end Go.Proofs.Ytaeeickboakmgaa
