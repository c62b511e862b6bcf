/-
  DERIVED. GIVEN WITH THE SEED: THE PROGRAM's TIES (one call each: nine closed facts by the kernel) AND EACH ROW's TIE, after the 31st guide's Derived/Test/Toyas{Tie, Card}.lean. No idea stands in it: it is a product of the set-up. Laid BY PROGRAM, IN A SANDBOX (cutbox-door.mjs). By AI agents, Wed Nov 11 2026. No macro, syntax, notation, axiom, sorry.
-/
import Derived.Test.YtmkapocibaojdaaGreatDoorRows
import Derived.LaidByTextLater
import Derived.SevenTiedAt
import Derived.LaidSub
import Derived.LaidOnce
namespace Go.Proofs.YtmkapocibaojdaaGreatDoor
open Go
set_option maxRecDepth 100000
theorem seatTie1 : Tryz.prog.laidByTextLater [("errors.errorType", Rows.laid_errors_errorType), ("causeway/api.ErrText", Rows.laid_causeway_api_ErrText), ("causeway/api.ErrBound", Rows.laid_causeway_api_ErrBound), ("causeway/api.ErrShape", Rows.laid_causeway_api_ErrShape), ("causeway/api.ErrName", Rows.laid_causeway_api_ErrName), ("causeway/api.ErrNone", Rows.laid_causeway_api_ErrNone), ("causeway/api.ErrExist", Rows.laid_causeway_api_ErrExist), ("causeway/api.ErrFull", Rows.laid_causeway_api_ErrFull), ("causeway/api.ErrSum", Rows.laid_causeway_api_ErrSum), ("causeway/api.ErrOld", Rows.laid_causeway_api_ErrOld), ("causeway/api.ErrHeld", Rows.laid_causeway_api_ErrHeld), ("causeway/api.ErrWait", Rows.laid_causeway_api_ErrWait), ("causeway/api.ErrKind", Rows.laid_causeway_api_ErrKind)] [.handle, .sentinel, .sentinel, .sentinel, .sentinel, .sentinel, .sentinel, .sentinel, .sentinel, .sentinel, .sentinel, .sentinel, .sentinel] true :=
  Program.laidByTextLater_by_one 244 8 2 (by kernel_rfl) (by kernel_rfl) (by kernel_rfl) (by kernel_rfl) (by kernel_rfl) (by kernel_rfl) (fun _ _ => by kernel_rfl)
theorem noOwnUnsafe : Tryz.pinned.checked.prog.headLifts.contains "ownunsafe" = false := by kernel_rfl
theorem tie : Tryz.prog.laidByTextLater [("errors.errorType", Rows.laid_errors_errorType), ("causeway/api.ErrText", Rows.laid_causeway_api_ErrText), ("causeway/api.ErrBound", Rows.laid_causeway_api_ErrBound), ("causeway/api.ErrShape", Rows.laid_causeway_api_ErrShape), ("causeway/api.ErrName", Rows.laid_causeway_api_ErrName), ("causeway/api.ErrNone", Rows.laid_causeway_api_ErrNone), ("causeway/api.ErrExist", Rows.laid_causeway_api_ErrExist), ("causeway/api.ErrFull", Rows.laid_causeway_api_ErrFull), ("causeway/api.ErrSum", Rows.laid_causeway_api_ErrSum), ("causeway/api.ErrOld", Rows.laid_causeway_api_ErrOld), ("causeway/api.ErrHeld", Rows.laid_causeway_api_ErrHeld), ("causeway/api.ErrWait", Rows.laid_causeway_api_ErrWait), ("causeway/api.ErrKind", Rows.laid_causeway_api_ErrKind)] [.handle, .sentinel, .sentinel, .sentinel, .sentinel, .sentinel, .sentinel, .sentinel, .sentinel, .sentinel, .sentinel, .sentinel, .sentinel] true :=
  Program.laidByTextLater.sub seatTie1 ["errors.errorType", "causeway/api.ErrText", "causeway/api.ErrBound", "causeway/api.ErrShape", "causeway/api.ErrName", "causeway/api.ErrNone", "causeway/api.ErrExist", "causeway/api.ErrFull", "causeway/api.ErrSum", "causeway/api.ErrOld", "causeway/api.ErrHeld", "causeway/api.ErrWait", "causeway/api.ErrKind"] (by kernel_rfl) (by kernel_rfl)
theorem placeActs_row_tie : Rows.placeActsRow.laidByTextAt .later Tryz.pinned [.handle, .sentinel, .sentinel, .sentinel, .sentinel, .sentinel, .sentinel, .sentinel, .sentinel, .sentinel, .sentinel, .sentinel, .sentinel] true :=
  OpenClaim.laidByTextAt_later rfl rfl tie noOwnUnsafe
theorem placeTwo_row_tie : Rows.placeTwoRow.laidByTextAt .later Tryz.pinned [.handle, .sentinel, .sentinel, .sentinel, .sentinel, .sentinel, .sentinel, .sentinel, .sentinel, .sentinel, .sentinel, .sentinel, .sentinel] true :=
  OpenClaim.laidByTextAt_later rfl rfl tie noOwnUnsafe
theorem sessionKeeps_row_tie : Rows.sessionKeepsRow.laidByTextAt .later Tryz.pinned [.handle, .sentinel, .sentinel, .sentinel, .sentinel, .sentinel, .sentinel, .sentinel, .sentinel, .sentinel, .sentinel, .sentinel, .sentinel] true :=
  OpenClaim.laidByTextAt_later rfl rfl tie noOwnUnsafe
theorem sessionSees_row_tie : Rows.sessionSeesRow.laidByTextAt .later Tryz.pinned [.handle, .sentinel, .sentinel, .sentinel, .sentinel, .sentinel, .sentinel, .sentinel, .sentinel, .sentinel, .sentinel, .sentinel, .sentinel] true :=
  OpenClaim.laidByTextAt_later rfl rfl tie noOwnUnsafe
theorem sessionSteps_row_tie : Rows.sessionStepsRow.laidByTextAt .later Tryz.pinned [.handle, .sentinel, .sentinel, .sentinel, .sentinel, .sentinel, .sentinel, .sentinel, .sentinel, .sentinel, .sentinel, .sentinel, .sentinel] true :=
  OpenClaim.laidByTextAt_later rfl rfl tie noOwnUnsafe
theorem judgeChecks_row_tie : Rows.judgeChecksRow.laidByTextAt .later Tryz.pinned [.handle, .sentinel, .sentinel, .sentinel, .sentinel, .sentinel, .sentinel, .sentinel, .sentinel, .sentinel, .sentinel, .sentinel, .sentinel] true :=
  OpenClaim.laidByTextAt_later rfl rfl tie noOwnUnsafe
theorem tie2 : Tryz.prog.laidByTextLater [("errors.errorType", Rows.laid_errors_errorType), ("causeway/api.ErrBound", Rows.laid_causeway_api_ErrBound), ("causeway/api.ErrShape", Rows.laid_causeway_api_ErrShape), ("causeway/api.ErrName", Rows.laid_causeway_api_ErrName), ("causeway/api.ErrExist", Rows.laid_causeway_api_ErrExist), ("causeway/api.ErrFull", Rows.laid_causeway_api_ErrFull), ("causeway/api.ErrOld", Rows.laid_causeway_api_ErrOld), ("causeway/api.ErrWait", Rows.laid_causeway_api_ErrWait), ("causeway/api.ErrKind", Rows.laid_causeway_api_ErrKind)] [.handle, .sentinel, .sentinel, .sentinel, .sentinel, .sentinel, .sentinel, .sentinel, .sentinel] true :=
  Program.laidByTextLater.sub seatTie1 ["errors.errorType", "causeway/api.ErrBound", "causeway/api.ErrShape", "causeway/api.ErrName", "causeway/api.ErrExist", "causeway/api.ErrFull", "causeway/api.ErrOld", "causeway/api.ErrWait", "causeway/api.ErrKind"] (by kernel_rfl) (by kernel_rfl)
theorem placeWhole_row_tie : Rows.placeWholeRow.laidByTextAt .later Tryz.pinned [.handle, .sentinel, .sentinel, .sentinel, .sentinel, .sentinel, .sentinel, .sentinel, .sentinel] true :=
  OpenClaim.laidByTextAt_later rfl rfl tie2 noOwnUnsafe
theorem placeCause_row_tie : Rows.placeCauseRow.laidByTextAt .later Tryz.pinned [.handle, .sentinel, .sentinel, .sentinel, .sentinel, .sentinel, .sentinel, .sentinel, .sentinel] true :=
  OpenClaim.laidByTextAt_later rfl rfl tie2 noOwnUnsafe
theorem placeActsUpto_row_tie : Rows.placeActsUptoRow.laidByTextAt .later Tryz.pinned [.handle, .sentinel, .sentinel, .sentinel, .sentinel, .sentinel, .sentinel, .sentinel, .sentinel, .sentinel, .sentinel, .sentinel, .sentinel] true :=
  OpenClaim.laidByTextAt_later rfl rfl tie noOwnUnsafe
theorem placeWholeUpto_row_tie : Rows.placeWholeUptoRow.laidByTextAt .later Tryz.pinned [.handle, .sentinel, .sentinel, .sentinel, .sentinel, .sentinel, .sentinel, .sentinel, .sentinel] true :=
  OpenClaim.laidByTextAt_later rfl rfl tie2 noOwnUnsafe
theorem placeCauseUpto_row_tie : Rows.placeCauseUptoRow.laidByTextAt .later Tryz.pinned [.handle, .sentinel, .sentinel, .sentinel, .sentinel, .sentinel, .sentinel, .sentinel, .sentinel] true :=
  OpenClaim.laidByTextAt_later rfl rfl tie2 noOwnUnsafe
theorem placeTwoUpto_row_tie : Rows.placeTwoUptoRow.laidByTextAt .later Tryz.pinned [.handle, .sentinel, .sentinel, .sentinel, .sentinel, .sentinel, .sentinel, .sentinel, .sentinel, .sentinel, .sentinel, .sentinel, .sentinel] true :=
  OpenClaim.laidByTextAt_later rfl rfl tie noOwnUnsafe
theorem sessionKeepsUpto_row_tie : Rows.sessionKeepsUptoRow.laidByTextAt .later Tryz.pinned [.handle, .sentinel, .sentinel, .sentinel, .sentinel, .sentinel, .sentinel, .sentinel, .sentinel, .sentinel, .sentinel, .sentinel, .sentinel] true :=
  OpenClaim.laidByTextAt_later rfl rfl tie noOwnUnsafe
theorem sessionSeesUpto_row_tie : Rows.sessionSeesUptoRow.laidByTextAt .later Tryz.pinned [.handle, .sentinel, .sentinel, .sentinel, .sentinel, .sentinel, .sentinel, .sentinel, .sentinel, .sentinel, .sentinel, .sentinel, .sentinel] true :=
  OpenClaim.laidByTextAt_later rfl rfl tie noOwnUnsafe
theorem sessionStepsUpto_row_tie : Rows.sessionStepsUptoRow.laidByTextAt .later Tryz.pinned [.handle, .sentinel, .sentinel, .sentinel, .sentinel, .sentinel, .sentinel, .sentinel, .sentinel, .sentinel, .sentinel, .sentinel, .sentinel] true :=
  OpenClaim.laidByTextAt_later rfl rfl tie noOwnUnsafe
theorem judgeChecksUpto_row_tie : Rows.judgeChecksUptoRow.laidByTextAt .later Tryz.pinned [.handle, .sentinel, .sentinel, .sentinel, .sentinel, .sentinel, .sentinel, .sentinel, .sentinel, .sentinel, .sentinel, .sentinel, .sentinel] true :=
  OpenClaim.laidByTextAt_later rfl rfl tie noOwnUnsafe
end Go.Proofs.YtmkapocibaojdaaGreatDoor
