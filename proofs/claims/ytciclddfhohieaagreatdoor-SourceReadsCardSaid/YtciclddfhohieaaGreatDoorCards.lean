/-
  DERIVED. GIVEN WITH THE SEED: THE CARDS: each row of YtciclddfhohieaaGreatDoorRows.lean that lists a variable, with what it lists TIED to the program's text (the seventh form; the later family's looks); each row that meets fmt, with fmt's text TOLD by the authors' own Lean function (tested against real Go, not proved from fmt's source: count such statements apart). THE CARD IS WHAT COUNTS. Prove the row's statement (the work); the ties are given (YtciclddfhohieaaGreatDoorTie.lean); close each card by the builder's one call (the guide's Derived/Test/ToyasCard.lean, 'card_holds'). Laid BY PROGRAM, IN A SANDBOX (cutbox-door.mjs). By AI agents, Wed Nov 11 2026. No macro, syntax, notation, axiom, sorry.
-/
import Derived.Test.YtciclddfhohieaaGreatDoorRows
import GoSem.ClaimSeven
namespace Go.Proofs.YtciclddfhohieaaGreatDoor
namespace Rows

/-- THE TIED CARD OF 'analemmalaw13.SourceReads'. -/
def sourceReadsCard : Claim7 := { stood := { row := sourceReadsRow, standIns := [], harness := (true, "70bfce2a328a4c2640745830d62945c26ace04d8328c6f6553cbfa5838ecc3be"), looks := true }, kinds := [], alts := [], laidByText := true, laidKinds := [.data, .data, .data, .data, .handle, .sentinel, .sentinel, .data, .data, .data, .widerDeep, .widerDeep, .widerDeep, .widerDeep, .pinned, .pinned], laidTests := true, laidLooks := .later }
def SourceReadsCardSaid : Prop := Claim7.holds Tryz.pinned (.plain (OpenSpec.ofChange sourceReadsSpec)) sourceReadsCard

/-- THE TIED CARD OF 'analemmalaw13.SourceOpen'. -/
def sourceOpenCard : Claim7 := { stood := { row := sourceOpenRow, standIns := [], harness := (true, "70bfce2a328a4c2640745830d62945c26ace04d8328c6f6553cbfa5838ecc3be"), looks := true }, kinds := [], alts := [], laidByText := true, laidKinds := [.data, .data, .data, .data, .handle, .sentinel, .sentinel, .data, .data, .data, .widerDeep, .widerDeep, .widerDeep, .widerDeep, .pinned, .pinned], laidTests := true, laidLooks := .later }
def SourceOpenCardSaid : Prop := Claim7.holds Tryz.pinned (.plain (OpenSpec.ofChange sourceOpenSpec)) sourceOpenCard

/-- THE TIED CARD OF 'analemmalaw13.SourceMany'. -/
def sourceManyCard : Claim7 := { stood := { row := sourceManyRow, standIns := [], harness := (true, "70bfce2a328a4c2640745830d62945c26ace04d8328c6f6553cbfa5838ecc3be"), looks := true }, kinds := [], alts := [], laidByText := true, laidKinds := [.data, .data, .data, .data, .handle, .sentinel, .sentinel, .data, .data, .data, .widerDeep, .widerDeep, .widerDeep, .widerDeep, .pinned, .pinned], laidTests := true, laidLooks := .later }
def SourceManyCardSaid : Prop := Claim7.holds Tryz.pinned (.plain (OpenSpec.ofChange sourceManySpec)) sourceManyCard

/-- THE SECOND FORM's CARD OF 'analemmalaw13.SourceReads'. -/
def sourceReadsUptoCard : Claim7 := { stood := { row := sourceReadsUptoRow, standIns := [], harness := (true, "70bfce2a328a4c2640745830d62945c26ace04d8328c6f6553cbfa5838ecc3be"), looks := true }, kinds := [], alts := [], laidByText := true, laidKinds := [.data, .data, .data, .data, .handle, .sentinel, .sentinel, .data, .data, .data, .widerDeep, .widerDeep, .widerDeep, .widerDeep, .pinned, .pinned], laidTests := true, laidLooks := .later }
def SourceReadsUptoCardSaid : Prop := Claim7.holds Tryz.pinned (.plain (OpenSpec.upto sourceReadsSpec)) sourceReadsUptoCard

/-- THE SECOND FORM's CARD OF 'analemmalaw13.SourceOpen'. -/
def sourceOpenUptoCard : Claim7 := { stood := { row := sourceOpenUptoRow, standIns := [], harness := (true, "70bfce2a328a4c2640745830d62945c26ace04d8328c6f6553cbfa5838ecc3be"), looks := true }, kinds := [], alts := [], laidByText := true, laidKinds := [.data, .data, .data, .data, .handle, .sentinel, .sentinel, .data, .data, .data, .widerDeep, .widerDeep, .widerDeep, .widerDeep, .pinned, .pinned], laidTests := true, laidLooks := .later }
def SourceOpenUptoCardSaid : Prop := Claim7.holds Tryz.pinned (.plain (OpenSpec.upto sourceOpenSpec)) sourceOpenUptoCard

/-- THE SECOND FORM's CARD OF 'analemmalaw13.SourceMany'. -/
def sourceManyUptoCard : Claim7 := { stood := { row := sourceManyUptoRow, standIns := [], harness := (true, "70bfce2a328a4c2640745830d62945c26ace04d8328c6f6553cbfa5838ecc3be"), looks := true }, kinds := [], alts := [], laidByText := true, laidKinds := [.data, .data, .data, .data, .handle, .sentinel, .sentinel, .data, .data, .data, .widerDeep, .widerDeep, .widerDeep, .widerDeep, .pinned, .pinned], laidTests := true, laidLooks := .later }
def SourceManyUptoCardSaid : Prop := Claim7.holds Tryz.pinned (.plain (OpenSpec.upto sourceManySpec)) sourceManyUptoCard
end Rows
end Go.Proofs.YtciclddfhohieaaGreatDoor
