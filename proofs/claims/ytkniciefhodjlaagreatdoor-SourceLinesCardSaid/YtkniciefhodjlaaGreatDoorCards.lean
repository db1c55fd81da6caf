/-
  DERIVED. GIVEN WITH THE SEED: THE CARDS: each row of YtkniciefhodjlaaGreatDoorRows.lean that lists a variable, with what it lists TIED to the program's text (the seventh form; the later family's looks); each row that meets fmt, with fmt's text TOLD by the authors' own Lean function (tested against real Go, not proved from fmt's source: count such statements apart). THE CARD IS WHAT COUNTS. Prove the row's statement (the work); the ties are given (YtkniciefhodjlaaGreatDoorTie.lean); close each card by the builder's one call (the guide's Derived/Test/ToyasCard.lean, 'card_holds'). Laid BY PROGRAM, IN A SANDBOX (cutbox-door.mjs). By AI agents, Wed Nov 11 2026. No macro, syntax, notation, axiom, sorry.
-/
import Derived.Test.YtkniciefhodjlaaGreatDoorRows
import GoSem.ClaimSeven
namespace Go.Proofs.YtkniciefhodjlaaGreatDoor
namespace Rows

/-- THE TIED CARD OF 'analemmalaw13.SourceLines'. -/
def sourceLinesCard : Claim7 := { stood := { row := sourceLinesRow, standIns := [], harness := (true, "46a6a9c9afbb4b8e835ecfea1e6ca002fb04374ecc71e22242f0be471023cc03"), looks := true }, kinds := [], alts := [], laidByText := true, laidKinds := [.data, .data, .data, .data, .handle, .sentinel, .sentinel, .funcs, .data, .data, .data, .widerDeep, .widerDeep, .widerDeep, .widerDeep, .pinned, .pinned], laidTests := true, laidLooks := .later }
def SourceLinesCardSaid : Prop := Claim7.holds Tryz.pinned (.plain (OpenSpec.ofChange sourceLinesSpec)) sourceLinesCard

/-- THE SECOND FORM's CARD OF 'analemmalaw13.SourceLines'. -/
def sourceLinesUptoCard : Claim7 := { stood := { row := sourceLinesUptoRow, standIns := [], harness := (true, "46a6a9c9afbb4b8e835ecfea1e6ca002fb04374ecc71e22242f0be471023cc03"), looks := true }, kinds := [], alts := [], laidByText := true, laidKinds := [.data, .data, .data, .data, .handle, .sentinel, .sentinel, .funcs, .data, .data, .data, .widerDeep, .widerDeep, .widerDeep, .widerDeep, .pinned, .pinned], laidTests := true, laidLooks := .later }
def SourceLinesUptoCardSaid : Prop := Claim7.holds Tryz.pinned (.plain (OpenSpec.upto sourceLinesSpec)) sourceLinesUptoCard
end Rows
end Go.Proofs.YtkniciefhodjlaaGreatDoor
