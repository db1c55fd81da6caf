/-
  The listed variables of the row of SourceLines are tied to the text of the program, with no condition.
-/
import Derived.Test.YtkniciefhodjlaaGreatDoorRows
import Derived.LaidByTextLater
import Derived.SevenTiedAt
import Derived.LaidSub
import Derived.LaidOnce
namespace Go.Proofs.YtkniciefhodjlaaGreatDoor
open Go Rows
set_option maxRecDepth 100000
set_option maxHeartbeats 4000000 in
theorem ownTie1 : Tryz.prog.laidByTextLater [("math/bits.deBruijn32tab", laid_math_bits_deBruijn32tab), ("math/bits.deBruijn64tab", laid_math_bits_deBruijn64tab), ("internal/strconv.uint64pow10", laid_internal_strconv_uint64pow10), ("unicode/utf8.acceptRanges", laid_unicode_utf8_acceptRanges), ("errors.errorType", laid_errors_errorType), ("strconv.ErrRange", laid_strconv_ErrRange), ("strconv.ErrSyntax", laid_strconv_ErrSyntax), ("analemma/dayform.kinds", laid_analemma_dayform_kinds), ("analemma/offset.units", laid_analemma_offset_units), ("unicode.asciiFold", laid_unicode_asciiFold), ("unicode.caseOrbit", laid_unicode_caseOrbit), ("analemma/word.lines", laid_analemma_word_lines), ("analemma/word.months", laid_analemma_word_months), ("analemma/word.weeks", laid_analemma_word_weeks), ("analemma/word.years", laid_analemma_word_years)] [.data, .data, .data, .data, .handle, .sentinel, .sentinel, .funcs, .data, .data, .data, .widerDeep, .widerDeep, .widerDeep, .widerDeep] true :=
  Program.laidByTextLater_by_one 217 8 189 (by as_aux_lemma => kernel_rfl) (by as_aux_lemma => kernel_rfl) (by as_aux_lemma => kernel_rfl) (by as_aux_lemma => kernel_rfl) (by as_aux_lemma => kernel_rfl) (by as_aux_lemma => kernel_rfl) (fun _ _ => by as_aux_lemma => kernel_rfl)
theorem ownPin_unicode_CaseRanges : Tryz.pinned.checked.prog.pinnedFits "unicode.CaseRanges" = true := by kernel_rfl
theorem ownPin_unicode_utf8_first : Tryz.pinned.checked.prog.pinnedFits "unicode/utf8.first" = true := by kernel_rfl
theorem ownNoUnsafe : Tryz.pinned.checked.prog.headLifts.contains "ownunsafe" = false := by kernel_rfl
theorem ownFits : Tryz.pinned.checked.prog.listedFits [("math/bits.deBruijn32tab", laid_math_bits_deBruijn32tab), ("math/bits.deBruijn64tab", laid_math_bits_deBruijn64tab), ("internal/strconv.uint64pow10", laid_internal_strconv_uint64pow10), ("unicode/utf8.acceptRanges", laid_unicode_utf8_acceptRanges), ("errors.errorType", laid_errors_errorType), ("strconv.ErrRange", laid_strconv_ErrRange), ("strconv.ErrSyntax", laid_strconv_ErrSyntax), ("analemma/dayform.kinds", laid_analemma_dayform_kinds), ("analemma/offset.units", laid_analemma_offset_units), ("unicode.asciiFold", laid_unicode_asciiFold), ("unicode.caseOrbit", laid_unicode_caseOrbit), ("analemma/word.lines", laid_analemma_word_lines), ("analemma/word.months", laid_analemma_word_months), ("analemma/word.weeks", laid_analemma_word_weeks), ("analemma/word.years", laid_analemma_word_years), ("unicode.CaseRanges", laid_unicode_CaseRanges), ("unicode/utf8.first", laid_unicode_utf8_first)] = true := by
  unfold Program.listedFits
  rw [ownNoUnsafe]
  kernel_rfl
theorem sourceLines_row_tied : Rows.sourceLinesRow.laidByTextAt .later Tryz.pinned [.data, .data, .data, .data, .handle, .sentinel, .sentinel, .funcs, .data, .data, .data, .widerDeep, .widerDeep, .widerDeep, .widerDeep, .pinned, .pinned] true :=
  OpenClaim.laidByTextAt_pinned rfl rfl ownTie1 rfl rfl rfl rfl (fun y hy _e => by
    simp only [Rows.sourceLinesRow, List.zip_cons_cons, List.zip_nil_right, List.mem_cons, List.mem_nil_iff, or_false] at hy
    rcases hy with rfl | rfl | rfl | rfl | rfl | rfl | rfl | rfl | rfl | rfl | rfl | rfl | rfl | rfl | rfl | rfl | rfl
    iterate 15 (cases _e)
    · exact ⟨ownPin_unicode_CaseRanges, by kernel_rfl⟩
    · exact ⟨ownPin_unicode_utf8_first, by kernel_rfl⟩) ownFits
end Go.Proofs.YtkniciefhodjlaaGreatDoor
