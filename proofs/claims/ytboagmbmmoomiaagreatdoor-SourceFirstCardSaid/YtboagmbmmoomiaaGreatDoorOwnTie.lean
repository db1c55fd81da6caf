/-
  The listed variables of the row of SourceFirst are tied to the text of the program, with no condition.
-/
import Derived.Test.YtboagmbmmoomiaaGreatDoorRows
import Derived.LaidByTextLater
import Derived.SevenTiedAt
import Derived.LaidSub
import Derived.LaidOnce
namespace Go.Proofs.YtboagmbmmoomiaaGreatDoor
open Go
set_option maxRecDepth 100000
set_option maxHeartbeats 4000000 in
theorem ownTie1 : Tryz.prog.laidByTextLater [("math/bits.deBruijn32tab", Rows.laid_math_bits_deBruijn32tab), ("math/bits.deBruijn64tab", Rows.laid_math_bits_deBruijn64tab), ("internal/strconv.uint64pow10", Rows.laid_internal_strconv_uint64pow10), ("unicode/utf8.acceptRanges", Rows.laid_unicode_utf8_acceptRanges), ("errors.errorType", Rows.laid_errors_errorType), ("strconv.ErrRange", Rows.laid_strconv_ErrRange), ("strconv.ErrSyntax", Rows.laid_strconv_ErrSyntax), ("analemma/dayform.kinds", Rows.laid_analemma_dayform_kinds), ("analemma/offset.units", Rows.laid_analemma_offset_units), ("unicode.asciiFold", Rows.laid_unicode_asciiFold), ("unicode.caseOrbit", Rows.laid_unicode_caseOrbit), ("analemma/word.lines", Rows.laid_analemma_word_lines), ("analemma/word.months", Rows.laid_analemma_word_months), ("analemma/word.weeks", Rows.laid_analemma_word_weeks), ("analemma/word.years", Rows.laid_analemma_word_years)] [.data, .data, .data, .data, .handle, .sentinel, .sentinel, .funcs, .data, .data, .data, .widerDeep, .widerDeep, .widerDeep, .widerDeep] true :=
  Program.laidByTextLater_by_one 217 8 189 (by as_aux_lemma => kernel_rfl) (by as_aux_lemma => kernel_rfl) (by as_aux_lemma => kernel_rfl) (by as_aux_lemma => kernel_rfl) (by as_aux_lemma => kernel_rfl) (by as_aux_lemma => kernel_rfl) (fun _ _ => by as_aux_lemma => kernel_rfl)
theorem ownPin_unicode_CaseRanges : Tryz.pinned.checked.prog.pinnedFits "unicode.CaseRanges" = true := by kernel_rfl
theorem ownPin_unicode_utf8_first : Tryz.pinned.checked.prog.pinnedFits "unicode/utf8.first" = true := by kernel_rfl
theorem ownNoUnsafe : Tryz.pinned.checked.prog.headLifts.contains "ownunsafe" = false := by kernel_rfl
theorem ownFits : Tryz.pinned.checked.prog.listedFits [("math/bits.deBruijn32tab", Rows.laid_math_bits_deBruijn32tab), ("math/bits.deBruijn64tab", Rows.laid_math_bits_deBruijn64tab), ("internal/strconv.uint64pow10", Rows.laid_internal_strconv_uint64pow10), ("unicode/utf8.acceptRanges", Rows.laid_unicode_utf8_acceptRanges), ("errors.errorType", Rows.laid_errors_errorType), ("strconv.ErrRange", Rows.laid_strconv_ErrRange), ("strconv.ErrSyntax", Rows.laid_strconv_ErrSyntax), ("analemma/dayform.kinds", Rows.laid_analemma_dayform_kinds), ("analemma/offset.units", Rows.laid_analemma_offset_units), ("unicode.asciiFold", Rows.laid_unicode_asciiFold), ("unicode.caseOrbit", Rows.laid_unicode_caseOrbit), ("analemma/word.lines", Rows.laid_analemma_word_lines), ("analemma/word.months", Rows.laid_analemma_word_months), ("analemma/word.weeks", Rows.laid_analemma_word_weeks), ("analemma/word.years", Rows.laid_analemma_word_years), ("unicode.CaseRanges", Rows.laid_unicode_CaseRanges), ("unicode/utf8.first", Rows.laid_unicode_utf8_first)] = true := by
  unfold Program.listedFits
  rw [ownNoUnsafe]
  kernel_rfl
theorem ownTie : Tryz.prog.laidByTextLater [("math/bits.deBruijn32tab", Rows.laid_math_bits_deBruijn32tab), ("math/bits.deBruijn64tab", Rows.laid_math_bits_deBruijn64tab), ("internal/strconv.uint64pow10", Rows.laid_internal_strconv_uint64pow10), ("unicode/utf8.acceptRanges", Rows.laid_unicode_utf8_acceptRanges), ("errors.errorType", Rows.laid_errors_errorType), ("strconv.ErrRange", Rows.laid_strconv_ErrRange), ("strconv.ErrSyntax", Rows.laid_strconv_ErrSyntax), ("analemma/dayform.kinds", Rows.laid_analemma_dayform_kinds), ("analemma/offset.units", Rows.laid_analemma_offset_units), ("unicode.asciiFold", Rows.laid_unicode_asciiFold), ("unicode.caseOrbit", Rows.laid_unicode_caseOrbit), ("analemma/word.lines", Rows.laid_analemma_word_lines), ("analemma/word.months", Rows.laid_analemma_word_months), ("analemma/word.weeks", Rows.laid_analemma_word_weeks), ("analemma/word.years", Rows.laid_analemma_word_years)] [.data, .data, .data, .data, .handle, .sentinel, .sentinel, .funcs, .data, .data, .data, .widerDeep, .widerDeep, .widerDeep, .widerDeep] true :=
  Program.laidByTextLater.sub ownTie1 ["math/bits.deBruijn32tab", "math/bits.deBruijn64tab", "internal/strconv.uint64pow10", "unicode/utf8.acceptRanges", "errors.errorType", "strconv.ErrRange", "strconv.ErrSyntax", "analemma/dayform.kinds", "analemma/offset.units", "unicode.asciiFold", "unicode.caseOrbit", "analemma/word.lines", "analemma/word.months", "analemma/word.weeks", "analemma/word.years"] (by as_aux_lemma => kernel_rfl) (by as_aux_lemma => kernel_rfl)
theorem sourceFirst_row_tied : Rows.sourceFirstRow.laidByTextAt .later Tryz.pinned [.data, .data, .data, .data, .handle, .sentinel, .sentinel, .funcs, .data, .data, .data, .widerDeep, .widerDeep, .widerDeep, .widerDeep, .pinned, .pinned] true :=
  OpenClaim.laidByTextAt_pinned rfl rfl ownTie rfl rfl rfl rfl (fun y hy _e => by
    simp only [Rows.sourceFirstRow, List.zip_cons_cons, List.zip_nil_right, List.mem_cons, List.mem_nil_iff, or_false] at hy
    rcases hy with rfl | rfl | rfl | rfl | rfl | rfl | rfl | rfl | rfl | rfl | rfl | rfl | rfl | rfl | rfl | rfl | rfl
    · cases _e
    · cases _e
    · cases _e
    · cases _e
    · cases _e
    · cases _e
    · cases _e
    · cases _e
    · cases _e
    · cases _e
    · cases _e
    · cases _e
    · cases _e
    · cases _e
    · cases _e
    · exact ⟨ownPin_unicode_CaseRanges, by kernel_rfl⟩
    · exact ⟨ownPin_unicode_utf8_first, by kernel_rfl⟩) ownFits
end Go.Proofs.YtboagmbmmoomiaaGreatDoor
