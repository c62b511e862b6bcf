/-
  DERIVED. GIVEN WITH THE SEED: THE PROGRAM's TIES (one call each: nine closed facts by the kernel) AND EACH ROW's TIE, after the 31st guide's Derived/Test/Toyas{Tie, Card}.lean. No idea stands in it: it is a product of the set-up. Laid BY PROGRAM, IN A SANDBOX (cutbox-door.mjs). By AI agents, Wed Nov 11 2026. No macro, syntax, notation, axiom, sorry.
-/
import Derived.Test.YtibkfmobofikmaaDoorRows
import Derived.LaidByTextLater
import Derived.SevenTiedAt
import Derived.LaidSub
import Derived.LaidOnce
namespace Go.Proofs.YtibkfmobofikmaaDoor
open Go
set_option maxRecDepth 100000
theorem seatTie1 : Tryd.prog.laidByTextLater [("math/bits.deBruijn32tab", Rows.laid_math_bits_deBruijn32tab), ("math/bits.deBruijn64tab", Rows.laid_math_bits_deBruijn64tab), ("internal/strconv.uint64pow10", Rows.laid_internal_strconv_uint64pow10), ("unicode/utf8.acceptRanges", Rows.laid_unicode_utf8_acceptRanges), ("errors.errorType", Rows.laid_errors_errorType), ("causeway/api.ErrText", Rows.laid_causeway_api_ErrText), ("causeway/api.ErrBound", Rows.laid_causeway_api_ErrBound), ("causeway/api.ErrShape", Rows.laid_causeway_api_ErrShape), ("causeway/api.ErrName", Rows.laid_causeway_api_ErrName), ("causeway/api.ErrNone", Rows.laid_causeway_api_ErrNone), ("causeway/api.ErrExist", Rows.laid_causeway_api_ErrExist), ("causeway/api.ErrFull", Rows.laid_causeway_api_ErrFull), ("causeway/api.ErrSum", Rows.laid_causeway_api_ErrSum), ("causeway/api.ErrOld", Rows.laid_causeway_api_ErrOld), ("causeway/api.ErrHeld", Rows.laid_causeway_api_ErrHeld), ("causeway/api.ErrWait", Rows.laid_causeway_api_ErrWait), ("causeway/api.ErrKind", Rows.laid_causeway_api_ErrKind), ("strconv.ErrRange", Rows.laid_strconv_ErrRange), ("strconv.ErrSyntax", Rows.laid_strconv_ErrSyntax)] [.data, .data, .data, .data, .handle, .sentinel, .sentinel, .sentinel, .sentinel, .sentinel, .sentinel, .sentinel, .sentinel, .sentinel, .sentinel, .sentinel, .sentinel, .sentinel, .sentinel] true :=
  Program.laidByTextLater_by_one 307 8 65 (by kernel_rfl) (by kernel_rfl) (by kernel_rfl) (by kernel_rfl) (by kernel_rfl) (by kernel_rfl) (fun _ _ => by kernel_rfl)
theorem pin_laid_unicode_utf8_first : Tryd.pinned.checked.prog.pinnedFits "unicode/utf8.first" = true := by kernel_rfl
theorem noOwnUnsafe : Tryd.pinned.checked.prog.headLifts.contains "ownunsafe" = false := by kernel_rfl
theorem tie : Tryd.prog.laidByTextLater [("math/bits.deBruijn32tab", Rows.laid_math_bits_deBruijn32tab), ("math/bits.deBruijn64tab", Rows.laid_math_bits_deBruijn64tab), ("internal/strconv.uint64pow10", Rows.laid_internal_strconv_uint64pow10), ("causeway/api.ErrBound", Rows.laid_causeway_api_ErrBound), ("causeway/api.ErrShape", Rows.laid_causeway_api_ErrShape)] [.data, .data, .data, .sentinel, .sentinel] true :=
  Program.laidByTextLater.sub seatTie1 ["math/bits.deBruijn32tab", "math/bits.deBruijn64tab", "internal/strconv.uint64pow10", "causeway/api.ErrBound", "causeway/api.ErrShape"] (by kernel_rfl) (by kernel_rfl)
theorem vectorLaws_row_tie : Rows.vectorLawsRow.laidByTextAt .later Tryd.pinned [.data, .data, .data, .sentinel, .sentinel] true :=
  OpenClaim.laidByTextAt_later rfl rfl tie noOwnUnsafe
theorem vectorWeighs_row_tie : Rows.vectorWeighsRow.laidByTextAt .later Tryd.pinned [.data, .data, .data, .sentinel, .sentinel] true :=
  OpenClaim.laidByTextAt_later rfl rfl tie noOwnUnsafe
theorem tie2 : Tryd.prog.laidByTextLater [("math/bits.deBruijn32tab", Rows.laid_math_bits_deBruijn32tab), ("math/bits.deBruijn64tab", Rows.laid_math_bits_deBruijn64tab), ("internal/strconv.uint64pow10", Rows.laid_internal_strconv_uint64pow10), ("errors.errorType", Rows.laid_errors_errorType), ("causeway/api.ErrText", Rows.laid_causeway_api_ErrText), ("causeway/api.ErrBound", Rows.laid_causeway_api_ErrBound), ("causeway/api.ErrShape", Rows.laid_causeway_api_ErrShape), ("causeway/api.ErrName", Rows.laid_causeway_api_ErrName), ("causeway/api.ErrNone", Rows.laid_causeway_api_ErrNone), ("causeway/api.ErrExist", Rows.laid_causeway_api_ErrExist), ("causeway/api.ErrFull", Rows.laid_causeway_api_ErrFull), ("causeway/api.ErrSum", Rows.laid_causeway_api_ErrSum), ("causeway/api.ErrOld", Rows.laid_causeway_api_ErrOld), ("causeway/api.ErrHeld", Rows.laid_causeway_api_ErrHeld), ("causeway/api.ErrWait", Rows.laid_causeway_api_ErrWait), ("causeway/api.ErrKind", Rows.laid_causeway_api_ErrKind)] [.data, .data, .data, .handle, .sentinel, .sentinel, .sentinel, .sentinel, .sentinel, .sentinel, .sentinel, .sentinel, .sentinel, .sentinel, .sentinel, .sentinel] true :=
  Program.laidByTextLater.sub seatTie1 ["math/bits.deBruijn32tab", "math/bits.deBruijn64tab", "internal/strconv.uint64pow10", "errors.errorType", "causeway/api.ErrText", "causeway/api.ErrBound", "causeway/api.ErrShape", "causeway/api.ErrName", "causeway/api.ErrNone", "causeway/api.ErrExist", "causeway/api.ErrFull", "causeway/api.ErrSum", "causeway/api.ErrOld", "causeway/api.ErrHeld", "causeway/api.ErrWait", "causeway/api.ErrKind"] (by kernel_rfl) (by kernel_rfl)
theorem vectorTwo_row_tie : Rows.vectorTwoRow.laidByTextAt .later Tryd.pinned [.data, .data, .data, .handle, .sentinel, .sentinel, .sentinel, .sentinel, .sentinel, .sentinel, .sentinel, .sentinel, .sentinel, .sentinel, .sentinel, .sentinel] true :=
  OpenClaim.laidByTextAt_later rfl rfl tie2 noOwnUnsafe
theorem vectorAhead_row_tie : Rows.vectorAheadRow.laidByTextAt .later Tryd.pinned [.data, .data, .data, .handle, .sentinel, .sentinel, .sentinel, .sentinel, .sentinel, .sentinel, .sentinel, .sentinel, .sentinel, .sentinel, .sentinel, .sentinel] true :=
  OpenClaim.laidByTextAt_later rfl rfl tie2 noOwnUnsafe
theorem fits3 : Tryd.pinned.checked.prog.listedFits [("math/bits.deBruijn32tab", Rows.laid_math_bits_deBruijn32tab), ("math/bits.deBruijn64tab", Rows.laid_math_bits_deBruijn64tab), ("internal/strconv.uint64pow10", Rows.laid_internal_strconv_uint64pow10), ("unicode/utf8.acceptRanges", Rows.laid_unicode_utf8_acceptRanges), ("errors.errorType", Rows.laid_errors_errorType), ("causeway/api.ErrText", Rows.laid_causeway_api_ErrText), ("causeway/api.ErrBound", Rows.laid_causeway_api_ErrBound), ("causeway/api.ErrShape", Rows.laid_causeway_api_ErrShape), ("causeway/api.ErrName", Rows.laid_causeway_api_ErrName), ("causeway/api.ErrNone", Rows.laid_causeway_api_ErrNone), ("causeway/api.ErrExist", Rows.laid_causeway_api_ErrExist), ("causeway/api.ErrFull", Rows.laid_causeway_api_ErrFull), ("causeway/api.ErrSum", Rows.laid_causeway_api_ErrSum), ("causeway/api.ErrOld", Rows.laid_causeway_api_ErrOld), ("causeway/api.ErrHeld", Rows.laid_causeway_api_ErrHeld), ("causeway/api.ErrWait", Rows.laid_causeway_api_ErrWait), ("causeway/api.ErrKind", Rows.laid_causeway_api_ErrKind), ("strconv.ErrRange", Rows.laid_strconv_ErrRange), ("strconv.ErrSyntax", Rows.laid_strconv_ErrSyntax), ("unicode/utf8.first", Rows.laid_unicode_utf8_first)] = true := by
  unfold Program.listedFits
  rw [noOwnUnsafe]
  kernel_rfl
theorem tie3 : Tryd.prog.laidByTextLater [("math/bits.deBruijn32tab", Rows.laid_math_bits_deBruijn32tab), ("math/bits.deBruijn64tab", Rows.laid_math_bits_deBruijn64tab), ("internal/strconv.uint64pow10", Rows.laid_internal_strconv_uint64pow10), ("unicode/utf8.acceptRanges", Rows.laid_unicode_utf8_acceptRanges), ("errors.errorType", Rows.laid_errors_errorType), ("causeway/api.ErrText", Rows.laid_causeway_api_ErrText), ("causeway/api.ErrBound", Rows.laid_causeway_api_ErrBound), ("causeway/api.ErrShape", Rows.laid_causeway_api_ErrShape), ("causeway/api.ErrName", Rows.laid_causeway_api_ErrName), ("causeway/api.ErrNone", Rows.laid_causeway_api_ErrNone), ("causeway/api.ErrExist", Rows.laid_causeway_api_ErrExist), ("causeway/api.ErrFull", Rows.laid_causeway_api_ErrFull), ("causeway/api.ErrSum", Rows.laid_causeway_api_ErrSum), ("causeway/api.ErrOld", Rows.laid_causeway_api_ErrOld), ("causeway/api.ErrHeld", Rows.laid_causeway_api_ErrHeld), ("causeway/api.ErrWait", Rows.laid_causeway_api_ErrWait), ("causeway/api.ErrKind", Rows.laid_causeway_api_ErrKind), ("strconv.ErrRange", Rows.laid_strconv_ErrRange), ("strconv.ErrSyntax", Rows.laid_strconv_ErrSyntax)] [.data, .data, .data, .data, .handle, .sentinel, .sentinel, .sentinel, .sentinel, .sentinel, .sentinel, .sentinel, .sentinel, .sentinel, .sentinel, .sentinel, .sentinel, .sentinel, .sentinel] true :=
  Program.laidByTextLater.sub seatTie1 ["math/bits.deBruijn32tab", "math/bits.deBruijn64tab", "internal/strconv.uint64pow10", "unicode/utf8.acceptRanges", "errors.errorType", "causeway/api.ErrText", "causeway/api.ErrBound", "causeway/api.ErrShape", "causeway/api.ErrName", "causeway/api.ErrNone", "causeway/api.ErrExist", "causeway/api.ErrFull", "causeway/api.ErrSum", "causeway/api.ErrOld", "causeway/api.ErrHeld", "causeway/api.ErrWait", "causeway/api.ErrKind", "strconv.ErrRange", "strconv.ErrSyntax"] (by kernel_rfl) (by kernel_rfl)
theorem vectorTexts_row_tie : Rows.vectorTextsRow.laidByTextAt .later Tryd.pinned [.data, .data, .data, .data, .handle, .sentinel, .sentinel, .sentinel, .sentinel, .sentinel, .sentinel, .sentinel, .sentinel, .sentinel, .sentinel, .sentinel, .sentinel, .sentinel, .sentinel, .pinned] true :=
  OpenClaim.laidByTextAt_pinned rfl rfl tie3 rfl rfl rfl rfl (fun y hy _e => by
    simp only [Rows.vectorTextsRow, List.zip_cons_cons, List.zip_nil_right, List.mem_cons, List.mem_nil_iff, or_false] at hy
    rcases hy with rfl | rfl | rfl | rfl | rfl | rfl | rfl | rfl | rfl | rfl | rfl | rfl | rfl | rfl | rfl | rfl | rfl | rfl | rfl | rfl
    · cases _e
    · cases _e
    · cases _e
    · cases _e
    · cases _e
    · cases _e
    · cases _e
    · cases _e
    · cases _e
    · cases _e
    · cases _e
    · cases _e
    · cases _e
    · cases _e
    · cases _e
    · cases _e
    · cases _e
    · cases _e
    · cases _e
    · exact ⟨pin_laid_unicode_utf8_first, by kernel_rfl⟩) fits3
theorem tie4 : Tryd.prog.laidByTextLater [("errors.errorType", Rows.laid_errors_errorType), ("causeway/api.ErrText", Rows.laid_causeway_api_ErrText), ("causeway/api.ErrBound", Rows.laid_causeway_api_ErrBound), ("causeway/api.ErrShape", Rows.laid_causeway_api_ErrShape), ("causeway/api.ErrName", Rows.laid_causeway_api_ErrName), ("causeway/api.ErrNone", Rows.laid_causeway_api_ErrNone), ("causeway/api.ErrExist", Rows.laid_causeway_api_ErrExist), ("causeway/api.ErrFull", Rows.laid_causeway_api_ErrFull), ("causeway/api.ErrSum", Rows.laid_causeway_api_ErrSum), ("causeway/api.ErrOld", Rows.laid_causeway_api_ErrOld), ("causeway/api.ErrHeld", Rows.laid_causeway_api_ErrHeld), ("causeway/api.ErrWait", Rows.laid_causeway_api_ErrWait), ("causeway/api.ErrKind", Rows.laid_causeway_api_ErrKind)] [.handle, .sentinel, .sentinel, .sentinel, .sentinel, .sentinel, .sentinel, .sentinel, .sentinel, .sentinel, .sentinel, .sentinel, .sentinel] true :=
  Program.laidByTextLater.sub seatTie1 ["errors.errorType", "causeway/api.ErrText", "causeway/api.ErrBound", "causeway/api.ErrShape", "causeway/api.ErrName", "causeway/api.ErrNone", "causeway/api.ErrExist", "causeway/api.ErrFull", "causeway/api.ErrSum", "causeway/api.ErrOld", "causeway/api.ErrHeld", "causeway/api.ErrWait", "causeway/api.ErrKind"] (by kernel_rfl) (by kernel_rfl)
theorem names_row_tie : Rows.namesRow.laidByTextAt .later Tryd.pinned [.handle, .sentinel, .sentinel, .sentinel, .sentinel, .sentinel, .sentinel, .sentinel, .sentinel, .sentinel, .sentinel, .sentinel, .sentinel] true :=
  OpenClaim.laidByTextAt_later rfl rfl tie4 noOwnUnsafe
theorem wireCodes_row_tie : Rows.wireCodesRow.laidByTextAt .later Tryd.pinned [.handle, .sentinel, .sentinel, .sentinel, .sentinel, .sentinel, .sentinel, .sentinel, .sentinel, .sentinel, .sentinel, .sentinel, .sentinel] true :=
  OpenClaim.laidByTextAt_later rfl rfl tie4 noOwnUnsafe
theorem wireReads_row_tie : Rows.wireReadsRow.laidByTextAt .later Tryd.pinned [.handle, .sentinel, .sentinel, .sentinel, .sentinel, .sentinel, .sentinel, .sentinel, .sentinel, .sentinel, .sentinel, .sentinel, .sentinel] true :=
  OpenClaim.laidByTextAt_later rfl rfl tie4 noOwnUnsafe
theorem vectorLawsUpto_row_tie : Rows.vectorLawsUptoRow.laidByTextAt .later Tryd.pinned [.data, .data, .data, .sentinel, .sentinel] true :=
  OpenClaim.laidByTextAt_later rfl rfl tie noOwnUnsafe
theorem vectorWeighsUpto_row_tie : Rows.vectorWeighsUptoRow.laidByTextAt .later Tryd.pinned [.data, .data, .data, .sentinel, .sentinel] true :=
  OpenClaim.laidByTextAt_later rfl rfl tie noOwnUnsafe
theorem vectorTwoUpto_row_tie : Rows.vectorTwoUptoRow.laidByTextAt .later Tryd.pinned [.data, .data, .data, .handle, .sentinel, .sentinel, .sentinel, .sentinel, .sentinel, .sentinel, .sentinel, .sentinel, .sentinel, .sentinel, .sentinel, .sentinel] true :=
  OpenClaim.laidByTextAt_later rfl rfl tie2 noOwnUnsafe
theorem vectorAheadUpto_row_tie : Rows.vectorAheadUptoRow.laidByTextAt .later Tryd.pinned [.data, .data, .data, .handle, .sentinel, .sentinel, .sentinel, .sentinel, .sentinel, .sentinel, .sentinel, .sentinel, .sentinel, .sentinel, .sentinel, .sentinel] true :=
  OpenClaim.laidByTextAt_later rfl rfl tie2 noOwnUnsafe
theorem vectorTextsUpto_row_tie : Rows.vectorTextsUptoRow.laidByTextAt .later Tryd.pinned [.data, .data, .data, .data, .handle, .sentinel, .sentinel, .sentinel, .sentinel, .sentinel, .sentinel, .sentinel, .sentinel, .sentinel, .sentinel, .sentinel, .sentinel, .sentinel, .sentinel, .pinned] true :=
  OpenClaim.laidByTextAt_pinned rfl rfl tie3 rfl rfl rfl rfl (fun y hy _e => by
    simp only [Rows.vectorTextsUptoRow, List.zip_cons_cons, List.zip_nil_right, List.mem_cons, List.mem_nil_iff, or_false] at hy
    rcases hy with rfl | rfl | rfl | rfl | rfl | rfl | rfl | rfl | rfl | rfl | rfl | rfl | rfl | rfl | rfl | rfl | rfl | rfl | rfl | rfl
    · cases _e
    · cases _e
    · cases _e
    · cases _e
    · cases _e
    · cases _e
    · cases _e
    · cases _e
    · cases _e
    · cases _e
    · cases _e
    · cases _e
    · cases _e
    · cases _e
    · cases _e
    · cases _e
    · cases _e
    · cases _e
    · cases _e
    · exact ⟨pin_laid_unicode_utf8_first, by kernel_rfl⟩) fits3
theorem namesUpto_row_tie : Rows.namesUptoRow.laidByTextAt .later Tryd.pinned [.handle, .sentinel, .sentinel, .sentinel, .sentinel, .sentinel, .sentinel, .sentinel, .sentinel, .sentinel, .sentinel, .sentinel, .sentinel] true :=
  OpenClaim.laidByTextAt_later rfl rfl tie4 noOwnUnsafe
theorem wireCodesUpto_row_tie : Rows.wireCodesUptoRow.laidByTextAt .later Tryd.pinned [.handle, .sentinel, .sentinel, .sentinel, .sentinel, .sentinel, .sentinel, .sentinel, .sentinel, .sentinel, .sentinel, .sentinel, .sentinel] true :=
  OpenClaim.laidByTextAt_later rfl rfl tie4 noOwnUnsafe
theorem wireReadsUpto_row_tie : Rows.wireReadsUptoRow.laidByTextAt .later Tryd.pinned [.handle, .sentinel, .sentinel, .sentinel, .sentinel, .sentinel, .sentinel, .sentinel, .sentinel, .sentinel, .sentinel, .sentinel, .sentinel] true :=
  OpenClaim.laidByTextAt_later rfl rfl tie4 noOwnUnsafe
end Go.Proofs.YtibkfmobofikmaaDoor
