/-
  DERIVED. GIVEN WITH THE SEED: THE CARDS: each row of YtbgheffgkncpgaaDoorRows.lean that lists a variable, with what it lists TIED to the program's text (the seventh form; the later family's looks); each row that meets fmt, with fmt's text TOLD by the authors' own Lean function (tested against real Go, not proved from fmt's source: count such statements apart). THE CARD IS WHAT COUNTS. Prove the row's statement (the work); the ties are given (YtbgheffgkncpgaaDoorTie.lean); close each card by the builder's one call (the guide's Derived/Test/ToyasCard.lean, 'card_holds'). Laid BY PROGRAM, IN A SANDBOX (cutbox-door.mjs). By AI agents, Wed Nov 11 2026. No macro, syntax, notation, axiom, sorry.
-/
import Derived.Test.YtbgheffgkncpgaaDoorRows
import GoSem.ClaimSeven
namespace Go.Proofs.YtbgheffgkncpgaaDoor
namespace Rows

/-- THE TIED CARD OF 'laws.FnExactHashSum'. -/
def fnExactHashSumCard : Claim7 := { stood := { row := fnExactHashSumRow, standIns := [], harness := (true, "2eb39a7ae7b67c5d61c8d297bed1475fb806bd1538127287c4fed8864d978a52"), looks := true }, kinds := [], alts := [], laidByText := true, laidKinds := [.data], laidTests := true, laidLooks := .later }
def FnExactHashSumCardSaid : Prop := Claim7.holds Tryd.pinned (.plain (OpenSpec.ofChange fnExactHashSumSpec)) fnExactHashSumCard

/-- THE TIED CARD OF 'laws.FnHashSum'. -/
def fnHashSumCard : Claim7 := { stood := { row := fnHashSumRow, standIns := [], harness := (true, "2eb39a7ae7b67c5d61c8d297bed1475fb806bd1538127287c4fed8864d978a52"), looks := true }, kinds := [], alts := [], laidByText := true, laidKinds := [.data], laidTests := true, laidLooks := .later }
def FnHashSumCardSaid : Prop := Claim7.holds Tryd.pinned (.plain (OpenSpec.ofChange fnHashSumSpec)) fnHashSumCard

/-- THE TIED CARD OF 'laws.FnExactPlanWrite'. -/
def fnExactPlanWriteCard : Claim7 := { stood := { row := fnExactPlanWriteRow, standIns := [], harness := (true, "2eb39a7ae7b67c5d61c8d297bed1475fb806bd1538127287c4fed8864d978a52"), looks := true }, kinds := [], alts := [], laidByText := true, laidKinds := [.data, .data, .data], laidTests := true, laidLooks := .later }
def FnExactPlanWriteCardSaid : Prop := Claim7.holds Tryd.pinned (.plain (OpenSpec.ofChange fnExactPlanWriteSpec)) fnExactPlanWriteCard

/-- THE TIED CARD OF 'laws.FnExactPlanRead'. -/
def fnExactPlanReadCard : Claim7 := { stood := { row := fnExactPlanReadRow, standIns := [], harness := (true, "2eb39a7ae7b67c5d61c8d297bed1475fb806bd1538127287c4fed8864d978a52"), looks := true }, kinds := [], alts := [], laidByText := true, laidKinds := [.data, .data, .data, .data, .sentinel, .sentinel, .pinned], laidTests := true, laidLooks := .later }
def FnExactPlanReadCardSaid : Prop := Claim7.holds Tryd.pinned (.plain (OpenSpec.ofChange fnExactPlanReadSpec)) fnExactPlanReadCard

/-- THE SECOND FORM's CARD OF 'laws.FnExactHashSum'. -/
def fnExactHashSumUptoCard : Claim7 := { stood := { row := fnExactHashSumUptoRow, standIns := [], harness := (true, "2eb39a7ae7b67c5d61c8d297bed1475fb806bd1538127287c4fed8864d978a52"), looks := true }, kinds := [], alts := [], laidByText := true, laidKinds := [.data], laidTests := true, laidLooks := .later }
def FnExactHashSumUptoCardSaid : Prop := Claim7.holds Tryd.pinned (.plain (OpenSpec.upto fnExactHashSumSpec)) fnExactHashSumUptoCard

/-- THE SECOND FORM's CARD OF 'laws.FnHashSum'. -/
def fnHashSumUptoCard : Claim7 := { stood := { row := fnHashSumUptoRow, standIns := [], harness := (true, "2eb39a7ae7b67c5d61c8d297bed1475fb806bd1538127287c4fed8864d978a52"), looks := true }, kinds := [], alts := [], laidByText := true, laidKinds := [.data], laidTests := true, laidLooks := .later }
def FnHashSumUptoCardSaid : Prop := Claim7.holds Tryd.pinned (.plain (OpenSpec.upto fnHashSumSpec)) fnHashSumUptoCard

/-- THE SECOND FORM's CARD OF 'laws.FnExactPlanWrite'. -/
def fnExactPlanWriteUptoCard : Claim7 := { stood := { row := fnExactPlanWriteUptoRow, standIns := [], harness := (true, "2eb39a7ae7b67c5d61c8d297bed1475fb806bd1538127287c4fed8864d978a52"), looks := true }, kinds := [], alts := [], laidByText := true, laidKinds := [.data, .data, .data], laidTests := true, laidLooks := .later }
def FnExactPlanWriteUptoCardSaid : Prop := Claim7.holds Tryd.pinned (.plain (OpenSpec.upto fnExactPlanWriteSpec)) fnExactPlanWriteUptoCard

/-- THE SECOND FORM's CARD OF 'laws.FnExactPlanRead'. -/
def fnExactPlanReadUptoCard : Claim7 := { stood := { row := fnExactPlanReadUptoRow, standIns := [], harness := (true, "2eb39a7ae7b67c5d61c8d297bed1475fb806bd1538127287c4fed8864d978a52"), looks := true }, kinds := [], alts := [], laidByText := true, laidKinds := [.data, .data, .data, .data, .sentinel, .sentinel, .pinned], laidTests := true, laidLooks := .later }
def FnExactPlanReadUptoCardSaid : Prop := Claim7.holds Tryd.pinned (.plain (OpenSpec.upto fnExactPlanReadSpec)) fnExactPlanReadUptoCard
end Rows
end Go.Proofs.YtbgheffgkncpgaaDoor
