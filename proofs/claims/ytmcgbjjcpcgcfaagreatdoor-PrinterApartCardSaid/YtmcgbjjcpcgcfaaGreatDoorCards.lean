/-
  DERIVED. GIVEN WITH THE SEED: THE CARDS: each row of YtmcgbjjcpcgcfaaGreatDoorRows.lean that lists a variable, with what it lists TIED to the program's text (the seventh form; the later family's looks); each row that meets fmt, with fmt's text TOLD by the authors' own Lean function (tested against real Go, not proved from fmt's source: count such statements apart). THE CARD IS WHAT COUNTS. Prove the row's statement (the work); the ties are given (YtmcgbjjcpcgcfaaGreatDoorTie.lean); close each card by the builder's one call (the guide's Derived/Test/ToyasCard.lean, 'card_holds'). Laid BY PROGRAM, IN A SANDBOX (cutbox-door.mjs). By AI agents, Wed Nov 11 2026. No macro, syntax, notation, axiom, sorry.
-/
import Derived.Test.YtmcgbjjcpcgcfaaGreatDoorRows
import GoSem.ClaimSeven
namespace Go.Proofs.YtmcgbjjcpcgcfaaGreatDoor
namespace Rows

/-- THE TIED CARD OF 'analemmalaw14.PrinterTexts'. -/
def printerTextsCard : Claim7 := { stood := { row := printerTextsRow, standIns := [], harness := (true, "fd09e4fe97fabcf7edba2fea5576e90b4d180134d677abce2a629841bbb712a4"), looks := true }, kinds := [], alts := [], laidByText := true, laidKinds := [.data, .data, .data, .data, .funcs, .widerDeep, .widerDeep, .pinned, .pinned], laidTests := true, laidLooks := .later }
def PrinterTextsCardSaid : Prop := Claim7.holds Tryz.pinned (.plain (OpenSpec.ofChange printerTextsSpec)) printerTextsCard

/-- THE TIED CARD OF 'analemmalaw14.PrinterSames'. -/
def printerSamesCard : Claim7 := { stood := { row := printerSamesRow, standIns := [], harness := (true, "fd09e4fe97fabcf7edba2fea5576e90b4d180134d677abce2a629841bbb712a4"), looks := true }, kinds := [], alts := [], laidByText := true, laidKinds := [.data, .data, .data, .data, .funcs, .widerDeep, .widerDeep, .pinned, .pinned], laidTests := true, laidLooks := .later }
def PrinterSamesCardSaid : Prop := Claim7.holds Tryz.pinned (.plain (OpenSpec.ofChange printerSamesSpec)) printerSamesCard

/-- THE TIED CARD OF 'analemmalaw14.PrinterLines'. -/
def printerLinesCard : Claim7 := { stood := { row := printerLinesRow, standIns := [], harness := (true, "fd09e4fe97fabcf7edba2fea5576e90b4d180134d677abce2a629841bbb712a4"), looks := true }, kinds := [], alts := [], laidByText := true, laidKinds := [.data, .data, .data, .data, .funcs, .widerDeep, .widerDeep, .pinned, .pinned], laidTests := true, laidLooks := .later }
def PrinterLinesCardSaid : Prop := Claim7.holds Tryz.pinned (.plain (OpenSpec.ofChange printerLinesSpec)) printerLinesCard

/-- THE TIED CARD OF 'analemmalaw14.PrinterApart'. -/
def printerApartCard : Claim7 := { stood := { row := printerApartRow, standIns := [], harness := (true, "fd09e4fe97fabcf7edba2fea5576e90b4d180134d677abce2a629841bbb712a4"), looks := true }, kinds := [], alts := [], laidByText := true, laidKinds := [.data, .data, .data, .data, .funcs, .widerDeep, .widerDeep, .pinned, .pinned], laidTests := true, laidLooks := .later }
def PrinterApartCardSaid : Prop := Claim7.holds Tryz.pinned (.plain (OpenSpec.ofChange printerApartSpec)) printerApartCard

/-- THE TIED CARD OF 'analemmalaw14.PrinterRefuses'. -/
def printerRefusesCard : Claim7 := { stood := { row := printerRefusesRow, standIns := [], harness := (true, "fd09e4fe97fabcf7edba2fea5576e90b4d180134d677abce2a629841bbb712a4"), looks := true }, kinds := [], alts := [], laidByText := true, laidKinds := [.data, .data, .data, .data, .funcs, .widerDeep, .widerDeep, .pinned, .pinned], laidTests := true, laidLooks := .later }
def PrinterRefusesCardSaid : Prop := Claim7.holds Tryz.pinned (.plain (OpenSpec.ofChange printerRefusesSpec)) printerRefusesCard

/-- THE SECOND FORM's CARD OF 'analemmalaw14.PrinterTexts'. -/
def printerTextsUptoCard : Claim7 := { stood := { row := printerTextsUptoRow, standIns := [], harness := (true, "fd09e4fe97fabcf7edba2fea5576e90b4d180134d677abce2a629841bbb712a4"), looks := true }, kinds := [], alts := [], laidByText := true, laidKinds := [.data, .data, .data, .data, .funcs, .widerDeep, .widerDeep, .pinned, .pinned], laidTests := true, laidLooks := .later }
def PrinterTextsUptoCardSaid : Prop := Claim7.holds Tryz.pinned (.plain (OpenSpec.upto printerTextsSpec)) printerTextsUptoCard

/-- THE SECOND FORM's CARD OF 'analemmalaw14.PrinterSames'. -/
def printerSamesUptoCard : Claim7 := { stood := { row := printerSamesUptoRow, standIns := [], harness := (true, "fd09e4fe97fabcf7edba2fea5576e90b4d180134d677abce2a629841bbb712a4"), looks := true }, kinds := [], alts := [], laidByText := true, laidKinds := [.data, .data, .data, .data, .funcs, .widerDeep, .widerDeep, .pinned, .pinned], laidTests := true, laidLooks := .later }
def PrinterSamesUptoCardSaid : Prop := Claim7.holds Tryz.pinned (.plain (OpenSpec.upto printerSamesSpec)) printerSamesUptoCard

/-- THE SECOND FORM's CARD OF 'analemmalaw14.PrinterLines'. -/
def printerLinesUptoCard : Claim7 := { stood := { row := printerLinesUptoRow, standIns := [], harness := (true, "fd09e4fe97fabcf7edba2fea5576e90b4d180134d677abce2a629841bbb712a4"), looks := true }, kinds := [], alts := [], laidByText := true, laidKinds := [.data, .data, .data, .data, .funcs, .widerDeep, .widerDeep, .pinned, .pinned], laidTests := true, laidLooks := .later }
def PrinterLinesUptoCardSaid : Prop := Claim7.holds Tryz.pinned (.plain (OpenSpec.upto printerLinesSpec)) printerLinesUptoCard

/-- THE SECOND FORM's CARD OF 'analemmalaw14.PrinterApart'. -/
def printerApartUptoCard : Claim7 := { stood := { row := printerApartUptoRow, standIns := [], harness := (true, "fd09e4fe97fabcf7edba2fea5576e90b4d180134d677abce2a629841bbb712a4"), looks := true }, kinds := [], alts := [], laidByText := true, laidKinds := [.data, .data, .data, .data, .funcs, .widerDeep, .widerDeep, .pinned, .pinned], laidTests := true, laidLooks := .later }
def PrinterApartUptoCardSaid : Prop := Claim7.holds Tryz.pinned (.plain (OpenSpec.upto printerApartSpec)) printerApartUptoCard

/-- THE SECOND FORM's CARD OF 'analemmalaw14.PrinterRefuses'. -/
def printerRefusesUptoCard : Claim7 := { stood := { row := printerRefusesUptoRow, standIns := [], harness := (true, "fd09e4fe97fabcf7edba2fea5576e90b4d180134d677abce2a629841bbb712a4"), looks := true }, kinds := [], alts := [], laidByText := true, laidKinds := [.data, .data, .data, .data, .funcs, .widerDeep, .widerDeep, .pinned, .pinned], laidTests := true, laidLooks := .later }
def PrinterRefusesUptoCardSaid : Prop := Claim7.holds Tryz.pinned (.plain (OpenSpec.upto printerRefusesSpec)) printerRefusesUptoCard
end Rows
end Go.Proofs.YtmcgbjjcpcgcfaaGreatDoor
