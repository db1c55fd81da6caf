/-
  DERIVED. GIVEN WITH THE SEED: THE CARDS: each row of YtboagmbmmoomiaaGreatDoorRows.lean that lists a variable, with what it lists TIED to the program's text (the seventh form; the later family's looks); each row that meets fmt, with fmt's text TOLD by the authors' own Lean function (tested against real Go, not proved from fmt's source: count such statements apart). THE CARD IS WHAT COUNTS. Prove the row's statement (the work); the ties are given (YtboagmbmmoomiaaGreatDoorTie.lean); close each card by the builder's one call (the guide's Derived/Test/ToyasCard.lean, 'card_holds'). Laid BY PROGRAM, IN A SANDBOX (cutbox-door.mjs). By AI agents, Wed Nov 11 2026. No macro, syntax, notation, axiom, sorry.
-/
import Derived.Test.YtboagmbmmoomiaaGreatDoorRows
import GoSem.ClaimSeven
namespace Go.Proofs.YtboagmbmmoomiaaGreatDoor
namespace Rows

/-- THE TIED CARD OF 'analemmalaw13.SourceFirst'. -/
def sourceFirstCard : Claim7 := { stood := { row := sourceFirstRow, standIns := [], harness := (true, "515dd10be8422238a3c6eead5869d307b36886e2ad866b1e3bb2f8a8e0d5329d"), looks := true }, kinds := [], alts := [], laidByText := true, laidKinds := [.data, .data, .data, .data, .handle, .sentinel, .sentinel, .funcs, .data, .data, .data, .widerDeep, .widerDeep, .widerDeep, .widerDeep, .pinned, .pinned], laidTests := true, laidLooks := .later }
def SourceFirstCardSaid : Prop := Claim7.holds Tryz.pinned (.plain (OpenSpec.ofChange sourceFirstSpec)) sourceFirstCard

/-- THE SECOND FORM's CARD OF 'analemmalaw13.SourceFirst'. -/
def sourceFirstUptoCard : Claim7 := { stood := { row := sourceFirstUptoRow, standIns := [], harness := (true, "515dd10be8422238a3c6eead5869d307b36886e2ad866b1e3bb2f8a8e0d5329d"), looks := true }, kinds := [], alts := [], laidByText := true, laidKinds := [.data, .data, .data, .data, .handle, .sentinel, .sentinel, .funcs, .data, .data, .data, .widerDeep, .widerDeep, .widerDeep, .widerDeep, .pinned, .pinned], laidTests := true, laidLooks := .later }
def SourceFirstUptoCardSaid : Prop := Claim7.holds Tryz.pinned (.plain (OpenSpec.upto sourceFirstSpec)) sourceFirstUptoCard
end Rows
end Go.Proofs.YtboagmbmmoomiaaGreatDoor
