/-
  DERIVED. GIVEN WITH THE SEED: THE PROGRAM's TIES (one call each: nine closed facts by the kernel) AND EACH ROW's TIE, after the 31st guide's Derived/Test/Toyas{Tie, Card}.lean. No idea stands in it: it is a product of the set-up. Laid BY PROGRAM, IN A SANDBOX (cutbox-door.mjs). By AI agents, Wed Nov 11 2026. No macro, syntax, notation, axiom, sorry.
-/
import Derived.Test.YtahbmdchcbnolaaDoorRows
import Derived.LaidByTextLater
import Derived.SevenTiedAt
import Derived.LaidSub
import Derived.LaidOnce
namespace Go.Proofs.YtahbmdchcbnolaaDoor
open Go
set_option maxRecDepth 100000
theorem seatTie1 : Tryd.prog.laidByTextLater [("math/bits.deBruijn32tab", Rows.laid_math_bits_deBruijn32tab), ("math/bits.deBruijn64tab", Rows.laid_math_bits_deBruijn64tab), ("internal/strconv.uint64pow10", Rows.laid_internal_strconv_uint64pow10), ("unicode/utf8.acceptRanges", Rows.laid_unicode_utf8_acceptRanges), ("errors.errorType", Rows.laid_errors_errorType), ("causeway/api.ErrText", Rows.laid_causeway_api_ErrText), ("causeway/api.ErrBound", Rows.laid_causeway_api_ErrBound), ("causeway/api.ErrShape", Rows.laid_causeway_api_ErrShape), ("causeway/api.ErrName", Rows.laid_causeway_api_ErrName), ("causeway/api.ErrNone", Rows.laid_causeway_api_ErrNone), ("causeway/api.ErrExist", Rows.laid_causeway_api_ErrExist), ("causeway/api.ErrFull", Rows.laid_causeway_api_ErrFull), ("causeway/api.ErrSum", Rows.laid_causeway_api_ErrSum), ("causeway/api.ErrOld", Rows.laid_causeway_api_ErrOld), ("causeway/api.ErrHeld", Rows.laid_causeway_api_ErrHeld), ("causeway/api.ErrWait", Rows.laid_causeway_api_ErrWait), ("causeway/api.ErrKind", Rows.laid_causeway_api_ErrKind), ("strconv.ErrRange", Rows.laid_strconv_ErrRange), ("strconv.ErrSyntax", Rows.laid_strconv_ErrSyntax)] [.data, .data, .data, .data, .handle, .sentinel, .sentinel, .sentinel, .sentinel, .sentinel, .sentinel, .sentinel, .sentinel, .sentinel, .sentinel, .sentinel, .sentinel, .sentinel, .sentinel] true :=
  Program.laidByTextLater_by_one 307 8 65 (by kernel_rfl) (by kernel_rfl) (by kernel_rfl) (by kernel_rfl) (by kernel_rfl) (by kernel_rfl) (fun _ _ => by kernel_rfl)
theorem pin_laid_unicode_utf8_first : Tryd.pinned.checked.prog.pinnedFits "unicode/utf8.first" = true := by kernel_rfl
theorem noOwnUnsafe : Tryd.pinned.checked.prog.headLifts.contains "ownunsafe" = false := by kernel_rfl
theorem fits1 : Tryd.pinned.checked.prog.listedFits [("math/bits.deBruijn32tab", Rows.laid_math_bits_deBruijn32tab), ("math/bits.deBruijn64tab", Rows.laid_math_bits_deBruijn64tab), ("internal/strconv.uint64pow10", Rows.laid_internal_strconv_uint64pow10), ("unicode/utf8.acceptRanges", Rows.laid_unicode_utf8_acceptRanges), ("errors.errorType", Rows.laid_errors_errorType), ("causeway/api.ErrText", Rows.laid_causeway_api_ErrText), ("causeway/api.ErrBound", Rows.laid_causeway_api_ErrBound), ("causeway/api.ErrShape", Rows.laid_causeway_api_ErrShape), ("causeway/api.ErrName", Rows.laid_causeway_api_ErrName), ("causeway/api.ErrNone", Rows.laid_causeway_api_ErrNone), ("causeway/api.ErrExist", Rows.laid_causeway_api_ErrExist), ("causeway/api.ErrFull", Rows.laid_causeway_api_ErrFull), ("causeway/api.ErrSum", Rows.laid_causeway_api_ErrSum), ("causeway/api.ErrOld", Rows.laid_causeway_api_ErrOld), ("causeway/api.ErrHeld", Rows.laid_causeway_api_ErrHeld), ("causeway/api.ErrWait", Rows.laid_causeway_api_ErrWait), ("causeway/api.ErrKind", Rows.laid_causeway_api_ErrKind), ("strconv.ErrRange", Rows.laid_strconv_ErrRange), ("strconv.ErrSyntax", Rows.laid_strconv_ErrSyntax), ("unicode/utf8.first", Rows.laid_unicode_utf8_first)] = true := by
  unfold Program.listedFits
  rw [noOwnUnsafe]
  kernel_rfl
theorem tie : Tryd.prog.laidByTextLater [("math/bits.deBruijn32tab", Rows.laid_math_bits_deBruijn32tab), ("math/bits.deBruijn64tab", Rows.laid_math_bits_deBruijn64tab), ("internal/strconv.uint64pow10", Rows.laid_internal_strconv_uint64pow10), ("unicode/utf8.acceptRanges", Rows.laid_unicode_utf8_acceptRanges), ("errors.errorType", Rows.laid_errors_errorType), ("causeway/api.ErrText", Rows.laid_causeway_api_ErrText), ("causeway/api.ErrBound", Rows.laid_causeway_api_ErrBound), ("causeway/api.ErrShape", Rows.laid_causeway_api_ErrShape), ("causeway/api.ErrName", Rows.laid_causeway_api_ErrName), ("causeway/api.ErrNone", Rows.laid_causeway_api_ErrNone), ("causeway/api.ErrExist", Rows.laid_causeway_api_ErrExist), ("causeway/api.ErrFull", Rows.laid_causeway_api_ErrFull), ("causeway/api.ErrSum", Rows.laid_causeway_api_ErrSum), ("causeway/api.ErrOld", Rows.laid_causeway_api_ErrOld), ("causeway/api.ErrHeld", Rows.laid_causeway_api_ErrHeld), ("causeway/api.ErrWait", Rows.laid_causeway_api_ErrWait), ("causeway/api.ErrKind", Rows.laid_causeway_api_ErrKind), ("strconv.ErrRange", Rows.laid_strconv_ErrRange), ("strconv.ErrSyntax", Rows.laid_strconv_ErrSyntax)] [.data, .data, .data, .data, .handle, .sentinel, .sentinel, .sentinel, .sentinel, .sentinel, .sentinel, .sentinel, .sentinel, .sentinel, .sentinel, .sentinel, .sentinel, .sentinel, .sentinel] true :=
  Program.laidByTextLater.sub seatTie1 ["math/bits.deBruijn32tab", "math/bits.deBruijn64tab", "internal/strconv.uint64pow10", "unicode/utf8.acceptRanges", "errors.errorType", "causeway/api.ErrText", "causeway/api.ErrBound", "causeway/api.ErrShape", "causeway/api.ErrName", "causeway/api.ErrNone", "causeway/api.ErrExist", "causeway/api.ErrFull", "causeway/api.ErrSum", "causeway/api.ErrOld", "causeway/api.ErrHeld", "causeway/api.ErrWait", "causeway/api.ErrKind", "strconv.ErrRange", "strconv.ErrSyntax"] (by kernel_rfl) (by kernel_rfl)
theorem vectorTexts_row_tie : Rows.vectorTextsRow.laidByTextAt .later Tryd.pinned [.data, .data, .data, .data, .handle, .sentinel, .sentinel, .sentinel, .sentinel, .sentinel, .sentinel, .sentinel, .sentinel, .sentinel, .sentinel, .sentinel, .sentinel, .sentinel, .sentinel, .pinned] true :=
  OpenClaim.laidByTextAt_pinned rfl rfl tie rfl rfl rfl rfl (fun y hy _e => by
    simp only [Rows.vectorTextsRow, List.zip_cons_cons, List.zip_nil_right, List.mem_cons, List.mem_nil_iff, or_false] at hy
    rcases hy with rfl | rfl | rfl | rfl | rfl | rfl | rfl | rfl | rfl | rfl | rfl | rfl | rfl | rfl | rfl | rfl | rfl | rfl | rfl | rfl
    · cases _e
    · cases _e
    · cases _e
    · cases _e
    · cases _e
    · cases _e
    · cases _e
    · cases _e
    · cases _e
    · cases _e
    · cases _e
    · cases _e
    · cases _e
    · cases _e
    · cases _e
    · cases _e
    · cases _e
    · cases _e
    · cases _e
    · exact ⟨pin_laid_unicode_utf8_first, by kernel_rfl⟩) fits1
theorem vectorTextsUpto_row_tie : Rows.vectorTextsUptoRow.laidByTextAt .later Tryd.pinned [.data, .data, .data, .data, .handle, .sentinel, .sentinel, .sentinel, .sentinel, .sentinel, .sentinel, .sentinel, .sentinel, .sentinel, .sentinel, .sentinel, .sentinel, .sentinel, .sentinel, .pinned] true :=
  OpenClaim.laidByTextAt_pinned rfl rfl tie rfl rfl rfl rfl (fun y hy _e => by
    simp only [Rows.vectorTextsUptoRow, List.zip_cons_cons, List.zip_nil_right, List.mem_cons, List.mem_nil_iff, or_false] at hy
    rcases hy with rfl | rfl | rfl | rfl | rfl | rfl | rfl | rfl | rfl | rfl | rfl | rfl | rfl | rfl | rfl | rfl | rfl | rfl | rfl | rfl
    · cases _e
    · cases _e
    · cases _e
    · cases _e
    · cases _e
    · cases _e
    · cases _e
    · cases _e
    · cases _e
    · cases _e
    · cases _e
    · cases _e
    · cases _e
    · cases _e
    · cases _e
    · cases _e
    · cases _e
    · cases _e
    · cases _e
    · exact ⟨pin_laid_unicode_utf8_first, by kernel_rfl⟩) fits1
end Go.Proofs.YtahbmdchcbnolaaDoor
