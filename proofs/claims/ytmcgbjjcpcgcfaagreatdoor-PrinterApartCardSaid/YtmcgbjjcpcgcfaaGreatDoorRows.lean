/-
  NARROWER THAN 'FOR EVERY INPUT', by the rows' own cells (each row's printed sentence says how): PrinterTexts: laid · PrinterSames: laid · PrinterLines: laid · PrinterApart: laid · PrinterRefuses: laid.
  DERIVED. THE GIVEN ROWS OF THIS SEAT. 5 by the template 'for every input the law returns true; each argument reads behind the call as it read before'; 0 by the template 'total and deterministic' (their statements: YtmcgbjjcpcgcfaaGreatDoorTotals.lean).
  GIVEN WITH THE SEED: the statements are not yours to turn. If you find one false, say at which input.
  Laid BY PROGRAM, IN A SANDBOX (cutbox-rows.mjs): the forced cells as the released guide's own fill.sh prints them over the translation 99d1ce4545a9bf54… (all of the seat's roots in one cut). By AI agents, Wed Nov 11 2026. No macro, syntax, notation, axiom, sorry.
-/
import Derived.Test.YtmcgbjjcpcgcfaaGreatDoorChecked
import GoSem.PinnedTables
import GoSem.Claim
import GoSem.ClaimJoined
import GoSem.ClaimMapViews
import Derived.JoinedTies
import Derived.KernelRfl
namespace Go.Proofs.YtmcgbjjcpcgcfaaGreatDoor
/- THE CELL 'sum', in the pinned program and in every row, IS THE sha256 OF THE DUMP (.gsa) THAT YtmcgbjjcpcgcfaaGreatDoorProg.lean LOADS. Nothing in Lean hashes anything: it is a label: what it is worth is what the hold of that sum in a sandbox is worth. -/
noncomputable def Tryz.pinned : Pinned := { name := "ytmcgbjjcpcgcfaagreatdoor", sum := "99d1ce4545a9bf54325f061ed22bac68a004ed7318f5dc119d75fad9a90c7b6c", checked := Tryz.checked }
namespace Rows
def none {H : Type} : Left H := { results := [], args := [] }

/- WHAT THE LISTED PACKAGE-LEVEL VARIABLES READ AS WHEN THE CALL BEGINS. Each datum BY PROGRAM (the guide's laid-datum.mjs) off the statement by which the dump's own 'gosem.cut.vars' lays the variable. In a bare row this is a premise. The card (YtmcgbjjcpcgcfaaGreatDoorCards.lean) ties it to the program's text. -/
def laid_math_bits_deBruijn32tab {H : Type} : DataW H := .agg [.lit (.int .u8 0), .lit (.int .u8 1), .lit (.int .u8 28), .lit (.int .u8 2), .lit (.int .u8 29), .lit (.int .u8 14), .lit (.int .u8 24), .lit (.int .u8 3), .lit (.int .u8 30), .lit (.int .u8 22), .lit (.int .u8 20), .lit (.int .u8 15), .lit (.int .u8 25), .lit (.int .u8 17), .lit (.int .u8 4), .lit (.int .u8 8), .lit (.int .u8 31), .lit (.int .u8 27), .lit (.int .u8 13), .lit (.int .u8 23), .lit (.int .u8 21), .lit (.int .u8 19), .lit (.int .u8 16), .lit (.int .u8 7), .lit (.int .u8 26), .lit (.int .u8 12), .lit (.int .u8 18), .lit (.int .u8 6), .lit (.int .u8 11), .lit (.int .u8 5), .lit (.int .u8 10), .lit (.int .u8 9)]
def laid_math_bits_deBruijn64tab {H : Type} : DataW H := .agg [.lit (.int .u8 0), .lit (.int .u8 1), .lit (.int .u8 56), .lit (.int .u8 2), .lit (.int .u8 57), .lit (.int .u8 49), .lit (.int .u8 28), .lit (.int .u8 3), .lit (.int .u8 61), .lit (.int .u8 58), .lit (.int .u8 42), .lit (.int .u8 50), .lit (.int .u8 38), .lit (.int .u8 29), .lit (.int .u8 17), .lit (.int .u8 4), .lit (.int .u8 62), .lit (.int .u8 47), .lit (.int .u8 59), .lit (.int .u8 36), .lit (.int .u8 45), .lit (.int .u8 43), .lit (.int .u8 51), .lit (.int .u8 22), .lit (.int .u8 53), .lit (.int .u8 39), .lit (.int .u8 33), .lit (.int .u8 30), .lit (.int .u8 24), .lit (.int .u8 18), .lit (.int .u8 12), .lit (.int .u8 5), .lit (.int .u8 63), .lit (.int .u8 55), .lit (.int .u8 48), .lit (.int .u8 27), .lit (.int .u8 60), .lit (.int .u8 41), .lit (.int .u8 37), .lit (.int .u8 16), .lit (.int .u8 46), .lit (.int .u8 35), .lit (.int .u8 44), .lit (.int .u8 21), .lit (.int .u8 52), .lit (.int .u8 32), .lit (.int .u8 23), .lit (.int .u8 11), .lit (.int .u8 54), .lit (.int .u8 26), .lit (.int .u8 40), .lit (.int .u8 15), .lit (.int .u8 34), .lit (.int .u8 20), .lit (.int .u8 31), .lit (.int .u8 10), .lit (.int .u8 25), .lit (.int .u8 14), .lit (.int .u8 19), .lit (.int .u8 9), .lit (.int .u8 13), .lit (.int .u8 8), .lit (.int .u8 7), .lit (.int .u8 6)]
def laid_internal_strconv_uint64pow10 {H : Type} : DataW H := .agg [.lit (.int .u64 1), .lit (.int .u64 10), .lit (.int .u64 100), .lit (.int .u64 1000), .lit (.int .u64 10000), .lit (.int .u64 100000), .lit (.int .u64 1000000), .lit (.int .u64 10000000), .lit (.int .u64 100000000), .lit (.int .u64 1000000000), .lit (.int .u64 10000000000), .lit (.int .u64 100000000000), .lit (.int .u64 1000000000000), .lit (.int .u64 10000000000000), .lit (.int .u64 100000000000000), .lit (.int .u64 1000000000000000), .lit (.int .u64 10000000000000000), .lit (.int .u64 100000000000000000), .lit (.int .u64 1000000000000000000), .lit (.int .u64 10000000000000000000)]
def laid_unicode_utf8_acceptRanges {H : Type} : DataW H := .agg [.agg [.lit (.int .u8 128), .lit (.int .u8 191)], .agg [.lit (.int .u8 160), .lit (.int .u8 191)], .agg [.lit (.int .u8 128), .lit (.int .u8 159)], .agg [.lit (.int .u8 144), .lit (.int .u8 191)], .agg [.lit (.int .u8 128), .lit (.int .u8 143)], .agg [.lit (.int .u8 0), .lit (.int .u8 0)], .agg [.lit (.int .u8 0), .lit (.int .u8 0)], .agg [.lit (.int .u8 0), .lit (.int .u8 0)], .agg [.lit (.int .u8 0), .lit (.int .u8 0)], .agg [.lit (.int .u8 0), .lit (.int .u8 0)], .agg [.lit (.int .u8 0), .lit (.int .u8 0)], .agg [.lit (.int .u8 0), .lit (.int .u8 0)], .agg [.lit (.int .u8 0), .lit (.int .u8 0)], .agg [.lit (.int .u8 0), .lit (.int .u8 0)], .agg [.lit (.int .u8 0), .lit (.int .u8 0)], .agg [.lit (.int .u8 0), .lit (.int .u8 0)]]
def laid_analemma_dayform_kinds {H : Type} : DataW H := .iface "func table" (.agg [.agg [.lit (.bool false), .lit (.bool false), .nil], .agg [.lit (.bool false), .lit (.bool true), .iface "func" (.lit (.string [97, 110, 97, 108, 101, 109, 109, 97, 47, 100, 97, 121, 102, 111, 114, 109, 46, 107, 105, 110, 100, 115, 36, 49]))], .agg [.lit (.bool true), .lit (.bool false), .iface "func" (.lit (.string [97, 110, 97, 108, 101, 109, 109, 97, 47, 100, 97, 121, 102, 111, 114, 109, 46, 107, 105, 110, 100, 115, 36, 50]))], .agg [.lit (.bool true), .lit (.bool true), .iface "func" (.lit (.string [97, 110, 97, 108, 101, 109, 109, 97, 47, 100, 97, 121, 102, 111, 114, 109, 46, 107, 105, 110, 100, 115, 36, 51]))], .agg [.lit (.bool true), .lit (.bool true), .iface "func" (.lit (.string [97, 110, 97, 108, 101, 109, 109, 97, 47, 100, 97, 121, 102, 111, 114, 109, 46, 107, 105, 110, 100, 115, 36, 52]))]])
def laid_analemma_word_months {H : Type} : DataW H := .agg [.lit (.string [106, 97, 110, 117, 97, 114, 121]), .lit (.string [102, 101, 98, 114, 117, 97, 114, 121]), .lit (.string [109, 97, 114, 99, 104]), .lit (.string [97, 112, 114, 105, 108]), .lit (.string [109, 97, 121]), .lit (.string [106, 117, 110, 101]), .lit (.string [106, 117, 108, 121]), .lit (.string [97, 117, 103, 117, 115, 116]), .lit (.string [115, 101, 112, 116, 101, 109, 98, 101, 114]), .lit (.string [111, 99, 116, 111, 98, 101, 114]), .lit (.string [110, 111, 118, 101, 109, 98, 101, 114]), .lit (.string [100, 101, 99, 101, 109, 98, 101, 114])]
def laid_analemma_word_weeks {H : Type} : DataW H := .agg [.lit (.string [115, 117, 110, 100, 97, 121]), .lit (.string [109, 111, 110, 100, 97, 121]), .lit (.string [116, 117, 101, 115, 100, 97, 121]), .lit (.string [119, 101, 100, 110, 101, 115, 100, 97, 121]), .lit (.string [116, 104, 117, 114, 115, 100, 97, 121]), .lit (.string [102, 114, 105, 100, 97, 121]), .lit (.string [115, 97, 116, 117, 114, 100, 97, 121])]
/-- One of Go's own tables, pinned by name: the form's constant. -/
def laid_unicode_CaseRanges : DataW Unit := Go.Pinned.caseRanges
/-- One of Go's own tables, pinned by name: the form's constant. -/
def laid_unicode_utf8_first : DataW Unit := Go.Pinned.utf8First

/-- 'analemmalaw14.PrinterTexts': WHATEVER THE INPUT: true; the input reads as it did. -/
def printerTextsSpec : ChangeSpec := { name := "printerTexts", fn := fun _ => fun
  | [d] => { results := [.lit (.bool true)], args := [d] }
  | _ => none }
def printerTextsRow : OpenClaim := { program := "ytmcgbjjcpcgcfaagreatdoor", sum := "99d1ce4545a9bf54325f061ed22bac68a004ed7318f5dc119d75fad9a90c7b6c", func := "analemma/analemmalaw14.PrinterTexts", spec := "printerTexts", inPlace := ["internal/abi.NoEscape", "internal/bytealg.MakeNoZero", "internal/bytealg.IndexByteString", "internal/bytealg.IndexString"], unfollowed := true, recurses := true, named := ["analemma/dayform.kinds", "internal/strconv.uint64pow10", "math/bits.deBruijn32tab", "math/bits.deBruijn64tab", "analemma/word.weeks", "unicode/utf8.first", "unicode/utf8.acceptRanges", "unicode.CaseRanges", "analemma/word.months", "internal/bytealg.MaxLen"], apart := false, laid := [("math/bits.deBruijn32tab", laid_math_bits_deBruijn32tab), ("math/bits.deBruijn64tab", laid_math_bits_deBruijn64tab), ("internal/strconv.uint64pow10", laid_internal_strconv_uint64pow10), ("unicode/utf8.acceptRanges", laid_unicode_utf8_acceptRanges), ("analemma/dayform.kinds", laid_analemma_dayform_kinds), ("analemma/word.months", laid_analemma_word_months), ("analemma/word.weeks", laid_analemma_word_weeks), ("unicode.CaseRanges", laid_unicode_CaseRanges), ("unicode/utf8.first", laid_unicode_utf8_first)] }
def PrinterTextsSaid : Prop := printerTextsRow.holds Tryz.pinned (OpenSpec.ofChange printerTextsSpec)

/-- ITS FALSE NEIGHBOUR: 'it returns false'. Refute it at one input. -/
def printerTextsWrong : ChangeSpec := { name := "printerTexts", fn := fun _ => fun
  | [d] => { results := [.lit (.bool false)], args := [d] }
  | _ => none }
def PrinterTextsWrongFalsely : Prop := printerTextsRow.holds Tryz.pinned (OpenSpec.ofChange printerTextsWrong)

/-- 'analemmalaw14.PrinterSames': WHATEVER THE INPUT: true; the input reads as it did. -/
def printerSamesSpec : ChangeSpec := { name := "printerSames", fn := fun _ => fun
  | [d1, d2] => { results := [.lit (.bool true)], args := [d1, d2] }
  | _ => none }
def printerSamesRow : OpenClaim := { program := "ytmcgbjjcpcgcfaagreatdoor", sum := "99d1ce4545a9bf54325f061ed22bac68a004ed7318f5dc119d75fad9a90c7b6c", func := "analemma/analemmalaw14.PrinterSames", spec := "printerSames", inPlace := ["internal/abi.NoEscape", "internal/bytealg.MakeNoZero", "internal/bytealg.IndexByteString", "internal/bytealg.IndexString"], unfollowed := true, recurses := true, named := ["analemma/dayform.kinds", "internal/strconv.uint64pow10", "math/bits.deBruijn32tab", "math/bits.deBruijn64tab", "analemma/word.weeks", "unicode/utf8.first", "unicode/utf8.acceptRanges", "unicode.CaseRanges", "analemma/word.months", "internal/bytealg.MaxLen"], apart := false, laid := [("math/bits.deBruijn32tab", laid_math_bits_deBruijn32tab), ("math/bits.deBruijn64tab", laid_math_bits_deBruijn64tab), ("internal/strconv.uint64pow10", laid_internal_strconv_uint64pow10), ("unicode/utf8.acceptRanges", laid_unicode_utf8_acceptRanges), ("analemma/dayform.kinds", laid_analemma_dayform_kinds), ("analemma/word.months", laid_analemma_word_months), ("analemma/word.weeks", laid_analemma_word_weeks), ("unicode.CaseRanges", laid_unicode_CaseRanges), ("unicode/utf8.first", laid_unicode_utf8_first)] }
def PrinterSamesSaid : Prop := printerSamesRow.holds Tryz.pinned (OpenSpec.ofChange printerSamesSpec)

/-- ITS FALSE NEIGHBOUR: 'it returns false'. Refute it at one input. -/
def printerSamesWrong : ChangeSpec := { name := "printerSames", fn := fun _ => fun
  | [d1, d2] => { results := [.lit (.bool false)], args := [d1, d2] }
  | _ => none }
def PrinterSamesWrongFalsely : Prop := printerSamesRow.holds Tryz.pinned (OpenSpec.ofChange printerSamesWrong)

/-- 'analemmalaw14.PrinterLines': WHATEVER THE INPUT: true; the input reads as it did. -/
def printerLinesSpec : ChangeSpec := { name := "printerLines", fn := fun _ => fun
  | [d1, d2] => { results := [.lit (.bool true)], args := [d1, d2] }
  | _ => none }
def printerLinesRow : OpenClaim := { program := "ytmcgbjjcpcgcfaagreatdoor", sum := "99d1ce4545a9bf54325f061ed22bac68a004ed7318f5dc119d75fad9a90c7b6c", func := "analemma/analemmalaw14.PrinterLines", spec := "printerLines", inPlace := ["internal/abi.NoEscape", "internal/bytealg.MakeNoZero", "internal/bytealg.IndexByteString", "internal/bytealg.IndexString"], unfollowed := true, recurses := true, named := ["analemma/dayform.kinds", "internal/strconv.uint64pow10", "math/bits.deBruijn32tab", "math/bits.deBruijn64tab", "analemma/word.weeks", "unicode/utf8.first", "unicode/utf8.acceptRanges", "unicode.CaseRanges", "analemma/word.months", "internal/bytealg.MaxLen"], apart := false, laid := [("math/bits.deBruijn32tab", laid_math_bits_deBruijn32tab), ("math/bits.deBruijn64tab", laid_math_bits_deBruijn64tab), ("internal/strconv.uint64pow10", laid_internal_strconv_uint64pow10), ("unicode/utf8.acceptRanges", laid_unicode_utf8_acceptRanges), ("analemma/dayform.kinds", laid_analemma_dayform_kinds), ("analemma/word.months", laid_analemma_word_months), ("analemma/word.weeks", laid_analemma_word_weeks), ("unicode.CaseRanges", laid_unicode_CaseRanges), ("unicode/utf8.first", laid_unicode_utf8_first)] }
def PrinterLinesSaid : Prop := printerLinesRow.holds Tryz.pinned (OpenSpec.ofChange printerLinesSpec)

/-- ITS FALSE NEIGHBOUR: 'it returns false'. Refute it at one input. -/
def printerLinesWrong : ChangeSpec := { name := "printerLines", fn := fun _ => fun
  | [d1, d2] => { results := [.lit (.bool false)], args := [d1, d2] }
  | _ => none }
def PrinterLinesWrongFalsely : Prop := printerLinesRow.holds Tryz.pinned (OpenSpec.ofChange printerLinesWrong)

/-- 'analemmalaw14.PrinterApart': WHATEVER THE INPUT: true; the input reads as it did. -/
def printerApartSpec : ChangeSpec := { name := "printerApart", fn := fun _ => fun
  | [d1, d2] => { results := [.lit (.bool true)], args := [d1, d2] }
  | _ => none }
def printerApartRow : OpenClaim := { program := "ytmcgbjjcpcgcfaagreatdoor", sum := "99d1ce4545a9bf54325f061ed22bac68a004ed7318f5dc119d75fad9a90c7b6c", func := "analemma/analemmalaw14.PrinterApart", spec := "printerApart", inPlace := ["internal/abi.NoEscape", "internal/bytealg.MakeNoZero", "internal/bytealg.IndexByteString", "internal/bytealg.IndexString"], unfollowed := true, recurses := true, named := ["analemma/dayform.kinds", "internal/strconv.uint64pow10", "math/bits.deBruijn32tab", "math/bits.deBruijn64tab", "analemma/word.weeks", "unicode/utf8.first", "unicode/utf8.acceptRanges", "unicode.CaseRanges", "analemma/word.months", "internal/bytealg.MaxLen"], apart := false, laid := [("math/bits.deBruijn32tab", laid_math_bits_deBruijn32tab), ("math/bits.deBruijn64tab", laid_math_bits_deBruijn64tab), ("internal/strconv.uint64pow10", laid_internal_strconv_uint64pow10), ("unicode/utf8.acceptRanges", laid_unicode_utf8_acceptRanges), ("analemma/dayform.kinds", laid_analemma_dayform_kinds), ("analemma/word.months", laid_analemma_word_months), ("analemma/word.weeks", laid_analemma_word_weeks), ("unicode.CaseRanges", laid_unicode_CaseRanges), ("unicode/utf8.first", laid_unicode_utf8_first)] }
def PrinterApartSaid : Prop := printerApartRow.holds Tryz.pinned (OpenSpec.ofChange printerApartSpec)

/-- ITS FALSE NEIGHBOUR: 'it returns false'. Refute it at one input. -/
def printerApartWrong : ChangeSpec := { name := "printerApart", fn := fun _ => fun
  | [d1, d2] => { results := [.lit (.bool false)], args := [d1, d2] }
  | _ => none }
def PrinterApartWrongFalsely : Prop := printerApartRow.holds Tryz.pinned (OpenSpec.ofChange printerApartWrong)

/-- 'analemmalaw14.PrinterRefuses': WHATEVER THE INPUT: true; the input reads as it did. -/
def printerRefusesSpec : ChangeSpec := { name := "printerRefuses", fn := fun _ => fun
  | [d1, d2] => { results := [.lit (.bool true)], args := [d1, d2] }
  | _ => none }
def printerRefusesRow : OpenClaim := { program := "ytmcgbjjcpcgcfaagreatdoor", sum := "99d1ce4545a9bf54325f061ed22bac68a004ed7318f5dc119d75fad9a90c7b6c", func := "analemma/analemmalaw14.PrinterRefuses", spec := "printerRefuses", inPlace := ["internal/abi.NoEscape", "internal/bytealg.MakeNoZero", "internal/bytealg.IndexByteString", "internal/bytealg.IndexString"], unfollowed := true, recurses := true, named := ["analemma/dayform.kinds", "internal/strconv.uint64pow10", "math/bits.deBruijn32tab", "math/bits.deBruijn64tab", "analemma/word.weeks", "unicode/utf8.first", "unicode/utf8.acceptRanges", "unicode.CaseRanges", "analemma/word.months", "internal/bytealg.MaxLen"], apart := false, laid := [("math/bits.deBruijn32tab", laid_math_bits_deBruijn32tab), ("math/bits.deBruijn64tab", laid_math_bits_deBruijn64tab), ("internal/strconv.uint64pow10", laid_internal_strconv_uint64pow10), ("unicode/utf8.acceptRanges", laid_unicode_utf8_acceptRanges), ("analemma/dayform.kinds", laid_analemma_dayform_kinds), ("analemma/word.months", laid_analemma_word_months), ("analemma/word.weeks", laid_analemma_word_weeks), ("unicode.CaseRanges", laid_unicode_CaseRanges), ("unicode/utf8.first", laid_unicode_utf8_first)] }
def PrinterRefusesSaid : Prop := printerRefusesRow.holds Tryz.pinned (OpenSpec.ofChange printerRefusesSpec)

/-- ITS FALSE NEIGHBOUR: 'it returns false'. Refute it at one input. -/
def printerRefusesWrong : ChangeSpec := { name := "printerRefuses", fn := fun _ => fun
  | [d1, d2] => { results := [.lit (.bool false)], args := [d1, d2] }
  | _ => none }
def PrinterRefusesWrongFalsely : Prop := printerRefusesRow.holds Tryz.pinned (OpenSpec.ofChange printerRefusesWrong)

/- THE SECOND FORM. 'bulk': how many values and letters a reading holds, each counted each time it is reached (what is shared counts as often as it is met; a slice's spare places count too). A statement '..UptoSaid' is the law's where the arguments, and the package variables that the reading takes, are together of bulk at most 1048576: NARROWER than '..Said'. Prove '..Said' where nothing that the law and all that it calls make is longer than what came in: it says more and counts as full. Else prove '..UptoSaid'. A law counts once. -/
mutual
def uptoBulk {H : Type} : DataW H → Nat
  | .lit (.string bytes) => bytes.length + 1
  | .lit _ => 1
  | .nil => 1
  | .ptr d => uptoBulk d + 1
  | .slice elems spare => uptoBulkAll elems + uptoBulkAll spare + 1
  | .agg parts => uptoBulkAll parts + 1
  | .iface _ d => uptoBulk d + 1
  | .map entries => uptoBulkEntries entries + 1
  | .held _ => 1
def uptoBulkAll {H : Type} : List (DataW H) → Nat
  | [] => 0
  | d :: r => uptoBulk d + uptoBulkAll r
def uptoBulkEntries {H : Type} : List (Lit × DataW H) → Nat
  | [] => 0
  | x :: r => uptoBulkEntry x + uptoBulkEntries r
def uptoBulkEntry {H : Type} : Lit × DataW H → Nat
  | (.string bytes, d) => bytes.length + uptoBulk d + 1
  | (_, d) => uptoBulk d + 1
 end
def uptoSmall : (H : Type) → List (DataW H) → Bool := fun _ ds => decide (uptoBulkAll ds ≤ 1048576)
def OpenSpec.upto (s : _root_.Go.ChangeSpec) : _root_.Go.OpenSpec := { _root_.Go.OpenSpec.ofChange s with cond := some uptoSmall }

/-- 'analemmalaw14.PrinterTexts', WHERE WHAT IT READS IS OF BULK AT MOST 1048576: true; the input reads as it did. -/
def printerTextsUptoRow : OpenClaim := { program := "ytmcgbjjcpcgcfaagreatdoor", sum := "99d1ce4545a9bf54325f061ed22bac68a004ed7318f5dc119d75fad9a90c7b6c", func := "analemma/analemmalaw14.PrinterTexts", spec := "printerTexts", inPlace := ["internal/abi.NoEscape", "internal/bytealg.MakeNoZero", "internal/bytealg.IndexByteString", "internal/bytealg.IndexString"], unfollowed := true, recurses := true, named := ["analemma/dayform.kinds", "internal/strconv.uint64pow10", "math/bits.deBruijn32tab", "math/bits.deBruijn64tab", "analemma/word.weeks", "unicode/utf8.first", "unicode/utf8.acceptRanges", "unicode.CaseRanges", "analemma/word.months", "internal/bytealg.MaxLen"], apart := false, laid := [("math/bits.deBruijn32tab", laid_math_bits_deBruijn32tab), ("math/bits.deBruijn64tab", laid_math_bits_deBruijn64tab), ("internal/strconv.uint64pow10", laid_internal_strconv_uint64pow10), ("unicode/utf8.acceptRanges", laid_unicode_utf8_acceptRanges), ("analemma/dayform.kinds", laid_analemma_dayform_kinds), ("analemma/word.months", laid_analemma_word_months), ("analemma/word.weeks", laid_analemma_word_weeks), ("unicode.CaseRanges", laid_unicode_CaseRanges), ("unicode/utf8.first", laid_unicode_utf8_first)], narrowed := true }
def PrinterTextsUptoSaid : Prop := printerTextsUptoRow.holds Tryz.pinned (OpenSpec.upto printerTextsSpec)

/-- 'analemmalaw14.PrinterSames', WHERE WHAT IT READS IS OF BULK AT MOST 1048576: true; the input reads as it did. -/
def printerSamesUptoRow : OpenClaim := { program := "ytmcgbjjcpcgcfaagreatdoor", sum := "99d1ce4545a9bf54325f061ed22bac68a004ed7318f5dc119d75fad9a90c7b6c", func := "analemma/analemmalaw14.PrinterSames", spec := "printerSames", inPlace := ["internal/abi.NoEscape", "internal/bytealg.MakeNoZero", "internal/bytealg.IndexByteString", "internal/bytealg.IndexString"], unfollowed := true, recurses := true, named := ["analemma/dayform.kinds", "internal/strconv.uint64pow10", "math/bits.deBruijn32tab", "math/bits.deBruijn64tab", "analemma/word.weeks", "unicode/utf8.first", "unicode/utf8.acceptRanges", "unicode.CaseRanges", "analemma/word.months", "internal/bytealg.MaxLen"], apart := false, laid := [("math/bits.deBruijn32tab", laid_math_bits_deBruijn32tab), ("math/bits.deBruijn64tab", laid_math_bits_deBruijn64tab), ("internal/strconv.uint64pow10", laid_internal_strconv_uint64pow10), ("unicode/utf8.acceptRanges", laid_unicode_utf8_acceptRanges), ("analemma/dayform.kinds", laid_analemma_dayform_kinds), ("analemma/word.months", laid_analemma_word_months), ("analemma/word.weeks", laid_analemma_word_weeks), ("unicode.CaseRanges", laid_unicode_CaseRanges), ("unicode/utf8.first", laid_unicode_utf8_first)], narrowed := true }
def PrinterSamesUptoSaid : Prop := printerSamesUptoRow.holds Tryz.pinned (OpenSpec.upto printerSamesSpec)

/-- 'analemmalaw14.PrinterLines', WHERE WHAT IT READS IS OF BULK AT MOST 1048576: true; the input reads as it did. -/
def printerLinesUptoRow : OpenClaim := { program := "ytmcgbjjcpcgcfaagreatdoor", sum := "99d1ce4545a9bf54325f061ed22bac68a004ed7318f5dc119d75fad9a90c7b6c", func := "analemma/analemmalaw14.PrinterLines", spec := "printerLines", inPlace := ["internal/abi.NoEscape", "internal/bytealg.MakeNoZero", "internal/bytealg.IndexByteString", "internal/bytealg.IndexString"], unfollowed := true, recurses := true, named := ["analemma/dayform.kinds", "internal/strconv.uint64pow10", "math/bits.deBruijn32tab", "math/bits.deBruijn64tab", "analemma/word.weeks", "unicode/utf8.first", "unicode/utf8.acceptRanges", "unicode.CaseRanges", "analemma/word.months", "internal/bytealg.MaxLen"], apart := false, laid := [("math/bits.deBruijn32tab", laid_math_bits_deBruijn32tab), ("math/bits.deBruijn64tab", laid_math_bits_deBruijn64tab), ("internal/strconv.uint64pow10", laid_internal_strconv_uint64pow10), ("unicode/utf8.acceptRanges", laid_unicode_utf8_acceptRanges), ("analemma/dayform.kinds", laid_analemma_dayform_kinds), ("analemma/word.months", laid_analemma_word_months), ("analemma/word.weeks", laid_analemma_word_weeks), ("unicode.CaseRanges", laid_unicode_CaseRanges), ("unicode/utf8.first", laid_unicode_utf8_first)], narrowed := true }
def PrinterLinesUptoSaid : Prop := printerLinesUptoRow.holds Tryz.pinned (OpenSpec.upto printerLinesSpec)

/-- 'analemmalaw14.PrinterApart', WHERE WHAT IT READS IS OF BULK AT MOST 1048576: true; the input reads as it did. -/
def printerApartUptoRow : OpenClaim := { program := "ytmcgbjjcpcgcfaagreatdoor", sum := "99d1ce4545a9bf54325f061ed22bac68a004ed7318f5dc119d75fad9a90c7b6c", func := "analemma/analemmalaw14.PrinterApart", spec := "printerApart", inPlace := ["internal/abi.NoEscape", "internal/bytealg.MakeNoZero", "internal/bytealg.IndexByteString", "internal/bytealg.IndexString"], unfollowed := true, recurses := true, named := ["analemma/dayform.kinds", "internal/strconv.uint64pow10", "math/bits.deBruijn32tab", "math/bits.deBruijn64tab", "analemma/word.weeks", "unicode/utf8.first", "unicode/utf8.acceptRanges", "unicode.CaseRanges", "analemma/word.months", "internal/bytealg.MaxLen"], apart := false, laid := [("math/bits.deBruijn32tab", laid_math_bits_deBruijn32tab), ("math/bits.deBruijn64tab", laid_math_bits_deBruijn64tab), ("internal/strconv.uint64pow10", laid_internal_strconv_uint64pow10), ("unicode/utf8.acceptRanges", laid_unicode_utf8_acceptRanges), ("analemma/dayform.kinds", laid_analemma_dayform_kinds), ("analemma/word.months", laid_analemma_word_months), ("analemma/word.weeks", laid_analemma_word_weeks), ("unicode.CaseRanges", laid_unicode_CaseRanges), ("unicode/utf8.first", laid_unicode_utf8_first)], narrowed := true }
def PrinterApartUptoSaid : Prop := printerApartUptoRow.holds Tryz.pinned (OpenSpec.upto printerApartSpec)

/-- 'analemmalaw14.PrinterRefuses', WHERE WHAT IT READS IS OF BULK AT MOST 1048576: true; the input reads as it did. -/
def printerRefusesUptoRow : OpenClaim := { program := "ytmcgbjjcpcgcfaagreatdoor", sum := "99d1ce4545a9bf54325f061ed22bac68a004ed7318f5dc119d75fad9a90c7b6c", func := "analemma/analemmalaw14.PrinterRefuses", spec := "printerRefuses", inPlace := ["internal/abi.NoEscape", "internal/bytealg.MakeNoZero", "internal/bytealg.IndexByteString", "internal/bytealg.IndexString"], unfollowed := true, recurses := true, named := ["analemma/dayform.kinds", "internal/strconv.uint64pow10", "math/bits.deBruijn32tab", "math/bits.deBruijn64tab", "analemma/word.weeks", "unicode/utf8.first", "unicode/utf8.acceptRanges", "unicode.CaseRanges", "analemma/word.months", "internal/bytealg.MaxLen"], apart := false, laid := [("math/bits.deBruijn32tab", laid_math_bits_deBruijn32tab), ("math/bits.deBruijn64tab", laid_math_bits_deBruijn64tab), ("internal/strconv.uint64pow10", laid_internal_strconv_uint64pow10), ("unicode/utf8.acceptRanges", laid_unicode_utf8_acceptRanges), ("analemma/dayform.kinds", laid_analemma_dayform_kinds), ("analemma/word.months", laid_analemma_word_months), ("analemma/word.weeks", laid_analemma_word_weeks), ("unicode.CaseRanges", laid_unicode_CaseRanges), ("unicode/utf8.first", laid_unicode_utf8_first)], narrowed := true }
def PrinterRefusesUptoSaid : Prop := printerRefusesUptoRow.holds Tryz.pinned (OpenSpec.upto printerRefusesSpec)

end Rows
end Go.Proofs.YtmcgbjjcpcgcfaaGreatDoor
