/-
  DERIVED. GIVEN WITH THE SEED: THE CARDS: each row of YtbdmieelokmhiaaGreatDoorRows.lean that lists a variable, with what it lists TIED to the program's text (the seventh form; the later family's looks); each row that meets fmt, with fmt's text TOLD by the authors' own Lean function (tested against real Go, not proved from fmt's source: count such statements apart). THE CARD IS WHAT COUNTS. Prove the row's statement (the work); the ties are given (YtbdmieelokmhiaaGreatDoorTie.lean); close each card by the builder's one call (the guide's Derived/Test/ToyasCard.lean, 'card_holds'). Laid BY PROGRAM, IN A SANDBOX (cutbox-door.mjs). By AI agents, Wed Nov 11 2026. No macro, syntax, notation, axiom, sorry.
-/
import Derived.Test.YtbdmieelokmhiaaGreatDoorRows
import GoSem.ClaimSeven
namespace Go.Proofs.YtbdmieelokmhiaaGreatDoor
namespace Rows

/-- THE TIED CARD OF 'analemmalaw11.EralineParses'. -/
def eralineParsesCard : Claim7 := { stood := { row := eralineParsesRow, standIns := [], harness := (true, "e3e1bfd42b25e5dec01e69511c78db73d421da0dc6efda0adfb9f57ee3c07e05"), looks := true }, kinds := [], alts := [], laidByText := true, laidKinds := [.data, .data, .data, .data, .sentinel, .sentinel, .funcs, .data, .data, .data, .widerDeep, .widerDeep, .pinned, .pinned], laidTests := true, laidLooks := .later }
def EralineParsesCardSaid : Prop := Claim7.holds Tryz.pinned (.plain (OpenSpec.ofChange eralineParsesSpec)) eralineParsesCard

/-- THE TIED CARD OF 'analemmalaw11.EralinePrints'. -/
def eralinePrintsCard : Claim7 := { stood := { row := eralinePrintsRow, standIns := [], harness := (true, "e3e1bfd42b25e5dec01e69511c78db73d421da0dc6efda0adfb9f57ee3c07e05"), looks := true }, kinds := [], alts := [], laidByText := true, laidKinds := [.data, .data, .data, .data, .sentinel, .sentinel, .funcs, .data, .data, .data, .widerDeep, .widerDeep, .pinned, .pinned], laidTests := true, laidLooks := .later }
def EralinePrintsCardSaid : Prop := Claim7.holds Tryz.pinned (.plain (OpenSpec.ofChange eralinePrintsSpec)) eralinePrintsCard

/-- THE TIED CARD OF 'analemmalaw11.EralineBack'. -/
def eralineBackCard : Claim7 := { stood := { row := eralineBackRow, standIns := [], harness := (true, "e3e1bfd42b25e5dec01e69511c78db73d421da0dc6efda0adfb9f57ee3c07e05"), looks := true }, kinds := [], alts := [], laidByText := true, laidKinds := [.data, .data, .data, .data, .sentinel, .sentinel, .funcs, .data, .data, .data, .widerDeep, .widerDeep, .pinned, .pinned], laidTests := true, laidLooks := .later }
def EralineBackCardSaid : Prop := Claim7.holds Tryz.pinned (.plain (OpenSpec.ofChange eralineBackSpec)) eralineBackCard

/-- THE TIED CARD OF 'analemmalaw11.EralineRead'. -/
def eralineReadCard : Claim7 := { stood := { row := eralineReadRow, standIns := [], harness := (true, "e3e1bfd42b25e5dec01e69511c78db73d421da0dc6efda0adfb9f57ee3c07e05"), looks := true }, kinds := [], alts := [], laidByText := true, laidKinds := [.data, .data, .data, .data, .sentinel, .sentinel, .funcs, .data, .data, .data, .widerDeep, .widerDeep, .pinned, .pinned], laidTests := true, laidLooks := .later }
def EralineReadCardSaid : Prop := Claim7.holds Tryz.pinned (.plain (OpenSpec.ofChange eralineReadSpec)) eralineReadCard

/-- THE TIED CARD OF 'analemmalaw11.EralineShortest'. -/
def eralineShortestCard : Claim7 := { stood := { row := eralineShortestRow, standIns := [], harness := (true, "e3e1bfd42b25e5dec01e69511c78db73d421da0dc6efda0adfb9f57ee3c07e05"), looks := true }, kinds := [], alts := [], laidByText := true, laidKinds := [.data, .data, .data, .data, .sentinel, .sentinel, .funcs, .data, .data, .data, .widerDeep, .widerDeep, .pinned, .pinned], laidTests := true, laidLooks := .later }
def EralineShortestCardSaid : Prop := Claim7.holds Tryz.pinned (.plain (OpenSpec.ofChange eralineShortestSpec)) eralineShortestCard

/-- THE TIED CARD OF 'analemmalaw11.EralineFirst'. -/
def eralineFirstCard : Claim7 := { stood := { row := eralineFirstRow, standIns := [], harness := (true, "e3e1bfd42b25e5dec01e69511c78db73d421da0dc6efda0adfb9f57ee3c07e05"), looks := true }, kinds := [], alts := [], laidByText := true, laidKinds := [.data, .data, .data, .data, .sentinel, .sentinel, .funcs, .data, .data, .data, .widerDeep, .widerDeep, .pinned, .pinned], laidTests := true, laidLooks := .later }
def EralineFirstCardSaid : Prop := Claim7.holds Tryz.pinned (.plain (OpenSpec.ofChange eralineFirstSpec)) eralineFirstCard

/-- THE TIED CARD OF 'analemmalaw11.EralineRefuses'. -/
def eralineRefusesCard : Claim7 := { stood := { row := eralineRefusesRow, standIns := [], harness := (true, "e3e1bfd42b25e5dec01e69511c78db73d421da0dc6efda0adfb9f57ee3c07e05"), looks := true }, kinds := [], alts := [], laidByText := true, laidKinds := [.data, .data, .data, .data, .sentinel, .sentinel, .funcs, .data, .data, .data, .widerDeep, .widerDeep, .pinned, .pinned], laidTests := true, laidLooks := .later }
def EralineRefusesCardSaid : Prop := Claim7.holds Tryz.pinned (.plain (OpenSpec.ofChange eralineRefusesSpec)) eralineRefusesCard

/-- THE SECOND FORM's CARD OF 'analemmalaw11.EralineParses'. -/
def eralineParsesUptoCard : Claim7 := { stood := { row := eralineParsesUptoRow, standIns := [], harness := (true, "e3e1bfd42b25e5dec01e69511c78db73d421da0dc6efda0adfb9f57ee3c07e05"), looks := true }, kinds := [], alts := [], laidByText := true, laidKinds := [.data, .data, .data, .data, .sentinel, .sentinel, .funcs, .data, .data, .data, .widerDeep, .widerDeep, .pinned, .pinned], laidTests := true, laidLooks := .later }
def EralineParsesUptoCardSaid : Prop := Claim7.holds Tryz.pinned (.plain (OpenSpec.upto eralineParsesSpec)) eralineParsesUptoCard

/-- THE SECOND FORM's CARD OF 'analemmalaw11.EralinePrints'. -/
def eralinePrintsUptoCard : Claim7 := { stood := { row := eralinePrintsUptoRow, standIns := [], harness := (true, "e3e1bfd42b25e5dec01e69511c78db73d421da0dc6efda0adfb9f57ee3c07e05"), looks := true }, kinds := [], alts := [], laidByText := true, laidKinds := [.data, .data, .data, .data, .sentinel, .sentinel, .funcs, .data, .data, .data, .widerDeep, .widerDeep, .pinned, .pinned], laidTests := true, laidLooks := .later }
def EralinePrintsUptoCardSaid : Prop := Claim7.holds Tryz.pinned (.plain (OpenSpec.upto eralinePrintsSpec)) eralinePrintsUptoCard

/-- THE SECOND FORM's CARD OF 'analemmalaw11.EralineBack'. -/
def eralineBackUptoCard : Claim7 := { stood := { row := eralineBackUptoRow, standIns := [], harness := (true, "e3e1bfd42b25e5dec01e69511c78db73d421da0dc6efda0adfb9f57ee3c07e05"), looks := true }, kinds := [], alts := [], laidByText := true, laidKinds := [.data, .data, .data, .data, .sentinel, .sentinel, .funcs, .data, .data, .data, .widerDeep, .widerDeep, .pinned, .pinned], laidTests := true, laidLooks := .later }
def EralineBackUptoCardSaid : Prop := Claim7.holds Tryz.pinned (.plain (OpenSpec.upto eralineBackSpec)) eralineBackUptoCard

/-- THE SECOND FORM's CARD OF 'analemmalaw11.EralineRead'. -/
def eralineReadUptoCard : Claim7 := { stood := { row := eralineReadUptoRow, standIns := [], harness := (true, "e3e1bfd42b25e5dec01e69511c78db73d421da0dc6efda0adfb9f57ee3c07e05"), looks := true }, kinds := [], alts := [], laidByText := true, laidKinds := [.data, .data, .data, .data, .sentinel, .sentinel, .funcs, .data, .data, .data, .widerDeep, .widerDeep, .pinned, .pinned], laidTests := true, laidLooks := .later }
def EralineReadUptoCardSaid : Prop := Claim7.holds Tryz.pinned (.plain (OpenSpec.upto eralineReadSpec)) eralineReadUptoCard

/-- THE SECOND FORM's CARD OF 'analemmalaw11.EralineShortest'. -/
def eralineShortestUptoCard : Claim7 := { stood := { row := eralineShortestUptoRow, standIns := [], harness := (true, "e3e1bfd42b25e5dec01e69511c78db73d421da0dc6efda0adfb9f57ee3c07e05"), looks := true }, kinds := [], alts := [], laidByText := true, laidKinds := [.data, .data, .data, .data, .sentinel, .sentinel, .funcs, .data, .data, .data, .widerDeep, .widerDeep, .pinned, .pinned], laidTests := true, laidLooks := .later }
def EralineShortestUptoCardSaid : Prop := Claim7.holds Tryz.pinned (.plain (OpenSpec.upto eralineShortestSpec)) eralineShortestUptoCard

/-- THE SECOND FORM's CARD OF 'analemmalaw11.EralineFirst'. -/
def eralineFirstUptoCard : Claim7 := { stood := { row := eralineFirstUptoRow, standIns := [], harness := (true, "e3e1bfd42b25e5dec01e69511c78db73d421da0dc6efda0adfb9f57ee3c07e05"), looks := true }, kinds := [], alts := [], laidByText := true, laidKinds := [.data, .data, .data, .data, .sentinel, .sentinel, .funcs, .data, .data, .data, .widerDeep, .widerDeep, .pinned, .pinned], laidTests := true, laidLooks := .later }
def EralineFirstUptoCardSaid : Prop := Claim7.holds Tryz.pinned (.plain (OpenSpec.upto eralineFirstSpec)) eralineFirstUptoCard

/-- THE SECOND FORM's CARD OF 'analemmalaw11.EralineRefuses'. -/
def eralineRefusesUptoCard : Claim7 := { stood := { row := eralineRefusesUptoRow, standIns := [], harness := (true, "e3e1bfd42b25e5dec01e69511c78db73d421da0dc6efda0adfb9f57ee3c07e05"), looks := true }, kinds := [], alts := [], laidByText := true, laidKinds := [.data, .data, .data, .data, .sentinel, .sentinel, .funcs, .data, .data, .data, .widerDeep, .widerDeep, .pinned, .pinned], laidTests := true, laidLooks := .later }
def EralineRefusesUptoCardSaid : Prop := Claim7.holds Tryz.pinned (.plain (OpenSpec.upto eralineRefusesSpec)) eralineRefusesUptoCard
end Rows
end Go.Proofs.YtbdmieelokmhiaaGreatDoor
