/-
  DERIVED. GIVEN WITH THE SEED: THE CARDS: each row of YtgfnnmdngckmmaaGreatDoorRows.lean that lists a variable, with what it lists TIED to the program's text (the seventh form; the later family's looks); each row that meets fmt, with fmt's text TOLD by the authors' own Lean function (tested against real Go, not proved from fmt's source: count such statements apart). THE CARD IS WHAT COUNTS. Prove the row's statement (the work); the ties are given (YtgfnnmdngckmmaaGreatDoorTie.lean); close each card by the builder's one call (the guide's Derived/Test/ToyasCard.lean, 'card_holds'). Laid BY PROGRAM, IN A SANDBOX (cutbox-door.mjs). By AI agents, Wed Nov 11 2026. No macro, syntax, notation, axiom, sorry.
-/
import Derived.Test.YtgfnnmdngckmmaaGreatDoorRows
import GoSem.ClaimSeven
namespace Go.Proofs.YtgfnnmdngckmmaaGreatDoor
namespace Rows

/-- THE TIED CARD OF 'analemmalaw10.RulelineParses'. -/
def rulelineParsesCard : Claim7 := { stood := { row := rulelineParsesRow, standIns := [], harness := (true, "fbcceb6a7370c029ef3cd0508f928ca10e9259380a3821d11b5167823fc0d1a1"), looks := true }, kinds := [], alts := [], laidByText := true, laidKinds := [.data, .data, .data, .data, .sentinel, .sentinel, .funcs, .data, .data, .data, .widerDeep, .widerDeep, .widerDeep, .pinned, .pinned], laidTests := true, laidLooks := .later }
def RulelineParsesCardSaid : Prop := Claim7.holds Tryz.pinned (.plain (OpenSpec.ofChange rulelineParsesSpec)) rulelineParsesCard

/-- THE TIED CARD OF 'analemmalaw10.RulelinePrints'. -/
def rulelinePrintsCard : Claim7 := { stood := { row := rulelinePrintsRow, standIns := [], harness := (true, "fbcceb6a7370c029ef3cd0508f928ca10e9259380a3821d11b5167823fc0d1a1"), looks := true }, kinds := [], alts := [], laidByText := true, laidKinds := [.data, .data, .data, .data, .sentinel, .sentinel, .funcs, .data, .data, .data, .widerDeep, .widerDeep, .widerDeep, .pinned, .pinned], laidTests := true, laidLooks := .later }
def RulelinePrintsCardSaid : Prop := Claim7.holds Tryz.pinned (.plain (OpenSpec.ofChange rulelinePrintsSpec)) rulelinePrintsCard

/-- THE TIED CARD OF 'analemmalaw10.RulelineBack'. -/
def rulelineBackCard : Claim7 := { stood := { row := rulelineBackRow, standIns := [], harness := (true, "fbcceb6a7370c029ef3cd0508f928ca10e9259380a3821d11b5167823fc0d1a1"), looks := true }, kinds := [], alts := [], laidByText := true, laidKinds := [.data, .data, .data, .data, .sentinel, .sentinel, .funcs, .data, .data, .data, .widerDeep, .widerDeep, .widerDeep, .pinned, .pinned], laidTests := true, laidLooks := .later }
def RulelineBackCardSaid : Prop := Claim7.holds Tryz.pinned (.plain (OpenSpec.ofChange rulelineBackSpec)) rulelineBackCard

/-- THE TIED CARD OF 'analemmalaw10.RulelineReads'. -/
def rulelineReadsCard : Claim7 := { stood := { row := rulelineReadsRow, standIns := [], harness := (true, "fbcceb6a7370c029ef3cd0508f928ca10e9259380a3821d11b5167823fc0d1a1"), looks := true }, kinds := [], alts := [], laidByText := true, laidKinds := [.data, .data, .data, .data, .sentinel, .sentinel, .funcs, .data, .data, .data, .widerDeep, .widerDeep, .widerDeep, .pinned, .pinned], laidTests := true, laidLooks := .later }
def RulelineReadsCardSaid : Prop := Claim7.holds Tryz.pinned (.plain (OpenSpec.ofChange rulelineReadsSpec)) rulelineReadsCard

/-- THE TIED CARD OF 'analemmalaw10.RulelineWords'. -/
def rulelineWordsCard : Claim7 := { stood := { row := rulelineWordsRow, standIns := [], harness := (true, "fbcceb6a7370c029ef3cd0508f928ca10e9259380a3821d11b5167823fc0d1a1"), looks := true }, kinds := [], alts := [], laidByText := true, laidKinds := [.data, .data, .data, .data, .sentinel, .sentinel, .funcs, .data, .data, .data, .widerDeep, .widerDeep, .widerDeep, .pinned, .pinned], laidTests := true, laidLooks := .later }
def RulelineWordsCardSaid : Prop := Claim7.holds Tryz.pinned (.plain (OpenSpec.ofChange rulelineWordsSpec)) rulelineWordsCard

/-- THE TIED CARD OF 'analemmalaw10.RulelineFirst'. -/
def rulelineFirstCard : Claim7 := { stood := { row := rulelineFirstRow, standIns := [], harness := (true, "fbcceb6a7370c029ef3cd0508f928ca10e9259380a3821d11b5167823fc0d1a1"), looks := true }, kinds := [], alts := [], laidByText := true, laidKinds := [.data, .data, .data, .data, .sentinel, .sentinel, .funcs, .data, .data, .data, .widerDeep, .widerDeep, .widerDeep, .pinned, .pinned], laidTests := true, laidLooks := .later }
def RulelineFirstCardSaid : Prop := Claim7.holds Tryz.pinned (.plain (OpenSpec.ofChange rulelineFirstSpec)) rulelineFirstCard

/-- THE TIED CARD OF 'analemmalaw10.RulelineRefuses'. -/
def rulelineRefusesCard : Claim7 := { stood := { row := rulelineRefusesRow, standIns := [], harness := (true, "fbcceb6a7370c029ef3cd0508f928ca10e9259380a3821d11b5167823fc0d1a1"), looks := true }, kinds := [], alts := [], laidByText := true, laidKinds := [.data, .data, .data, .data, .sentinel, .sentinel, .funcs, .data, .data, .data, .widerDeep, .widerDeep, .widerDeep, .pinned, .pinned], laidTests := true, laidLooks := .later }
def RulelineRefusesCardSaid : Prop := Claim7.holds Tryz.pinned (.plain (OpenSpec.ofChange rulelineRefusesSpec)) rulelineRefusesCard

/-- THE SECOND FORM's CARD OF 'analemmalaw10.RulelineParses'. -/
def rulelineParsesUptoCard : Claim7 := { stood := { row := rulelineParsesUptoRow, standIns := [], harness := (true, "fbcceb6a7370c029ef3cd0508f928ca10e9259380a3821d11b5167823fc0d1a1"), looks := true }, kinds := [], alts := [], laidByText := true, laidKinds := [.data, .data, .data, .data, .sentinel, .sentinel, .funcs, .data, .data, .data, .widerDeep, .widerDeep, .widerDeep, .pinned, .pinned], laidTests := true, laidLooks := .later }
def RulelineParsesUptoCardSaid : Prop := Claim7.holds Tryz.pinned (.plain (OpenSpec.upto rulelineParsesSpec)) rulelineParsesUptoCard

/-- THE SECOND FORM's CARD OF 'analemmalaw10.RulelinePrints'. -/
def rulelinePrintsUptoCard : Claim7 := { stood := { row := rulelinePrintsUptoRow, standIns := [], harness := (true, "fbcceb6a7370c029ef3cd0508f928ca10e9259380a3821d11b5167823fc0d1a1"), looks := true }, kinds := [], alts := [], laidByText := true, laidKinds := [.data, .data, .data, .data, .sentinel, .sentinel, .funcs, .data, .data, .data, .widerDeep, .widerDeep, .widerDeep, .pinned, .pinned], laidTests := true, laidLooks := .later }
def RulelinePrintsUptoCardSaid : Prop := Claim7.holds Tryz.pinned (.plain (OpenSpec.upto rulelinePrintsSpec)) rulelinePrintsUptoCard

/-- THE SECOND FORM's CARD OF 'analemmalaw10.RulelineBack'. -/
def rulelineBackUptoCard : Claim7 := { stood := { row := rulelineBackUptoRow, standIns := [], harness := (true, "fbcceb6a7370c029ef3cd0508f928ca10e9259380a3821d11b5167823fc0d1a1"), looks := true }, kinds := [], alts := [], laidByText := true, laidKinds := [.data, .data, .data, .data, .sentinel, .sentinel, .funcs, .data, .data, .data, .widerDeep, .widerDeep, .widerDeep, .pinned, .pinned], laidTests := true, laidLooks := .later }
def RulelineBackUptoCardSaid : Prop := Claim7.holds Tryz.pinned (.plain (OpenSpec.upto rulelineBackSpec)) rulelineBackUptoCard

/-- THE SECOND FORM's CARD OF 'analemmalaw10.RulelineReads'. -/
def rulelineReadsUptoCard : Claim7 := { stood := { row := rulelineReadsUptoRow, standIns := [], harness := (true, "fbcceb6a7370c029ef3cd0508f928ca10e9259380a3821d11b5167823fc0d1a1"), looks := true }, kinds := [], alts := [], laidByText := true, laidKinds := [.data, .data, .data, .data, .sentinel, .sentinel, .funcs, .data, .data, .data, .widerDeep, .widerDeep, .widerDeep, .pinned, .pinned], laidTests := true, laidLooks := .later }
def RulelineReadsUptoCardSaid : Prop := Claim7.holds Tryz.pinned (.plain (OpenSpec.upto rulelineReadsSpec)) rulelineReadsUptoCard

/-- THE SECOND FORM's CARD OF 'analemmalaw10.RulelineWords'. -/
def rulelineWordsUptoCard : Claim7 := { stood := { row := rulelineWordsUptoRow, standIns := [], harness := (true, "fbcceb6a7370c029ef3cd0508f928ca10e9259380a3821d11b5167823fc0d1a1"), looks := true }, kinds := [], alts := [], laidByText := true, laidKinds := [.data, .data, .data, .data, .sentinel, .sentinel, .funcs, .data, .data, .data, .widerDeep, .widerDeep, .widerDeep, .pinned, .pinned], laidTests := true, laidLooks := .later }
def RulelineWordsUptoCardSaid : Prop := Claim7.holds Tryz.pinned (.plain (OpenSpec.upto rulelineWordsSpec)) rulelineWordsUptoCard

/-- THE SECOND FORM's CARD OF 'analemmalaw10.RulelineFirst'. -/
def rulelineFirstUptoCard : Claim7 := { stood := { row := rulelineFirstUptoRow, standIns := [], harness := (true, "fbcceb6a7370c029ef3cd0508f928ca10e9259380a3821d11b5167823fc0d1a1"), looks := true }, kinds := [], alts := [], laidByText := true, laidKinds := [.data, .data, .data, .data, .sentinel, .sentinel, .funcs, .data, .data, .data, .widerDeep, .widerDeep, .widerDeep, .pinned, .pinned], laidTests := true, laidLooks := .later }
def RulelineFirstUptoCardSaid : Prop := Claim7.holds Tryz.pinned (.plain (OpenSpec.upto rulelineFirstSpec)) rulelineFirstUptoCard

/-- THE SECOND FORM's CARD OF 'analemmalaw10.RulelineRefuses'. -/
def rulelineRefusesUptoCard : Claim7 := { stood := { row := rulelineRefusesUptoRow, standIns := [], harness := (true, "fbcceb6a7370c029ef3cd0508f928ca10e9259380a3821d11b5167823fc0d1a1"), looks := true }, kinds := [], alts := [], laidByText := true, laidKinds := [.data, .data, .data, .data, .sentinel, .sentinel, .funcs, .data, .data, .data, .widerDeep, .widerDeep, .widerDeep, .pinned, .pinned], laidTests := true, laidLooks := .later }
def RulelineRefusesUptoCardSaid : Prop := Claim7.holds Tryz.pinned (.plain (OpenSpec.upto rulelineRefusesSpec)) rulelineRefusesUptoCard
end Rows
end Go.Proofs.YtgfnnmdngckmmaaGreatDoor
