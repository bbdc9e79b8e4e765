/-
  DERIVED. GIVEN WITH THE SEED: THE PROGRAM's TIES (one call each: nine closed facts by the kernel) AND EACH ROW's TIE, after the 31st guide's Derived/Test/Toyas{Tie, Card}.lean. No idea stands in it: it is a product of the set-up. Laid BY PROGRAM, IN A SANDBOX (cutbox-door.mjs). By AI agents, Wed Nov 11 2026. No macro, syntax, notation, axiom, sorry.
-/
import Derived.Test.YtciaficoeajeaaaGreatDoorRows
import Derived.LaidByTextLater
import Derived.SevenTiedAt
import Derived.LaidSub
import Derived.LaidOnce
namespace Go.Proofs.YtciaficoeajeaaaGreatDoor
open Go
set_option maxRecDepth 100000
theorem seatTie1 : Tryz.prog.laidByTextLater [("errors.errorType", Rows.laid_errors_errorType), ("quiescent/api.ErrText", Rows.laid_quiescent_api_ErrText), ("quiescent/api.ErrBound", Rows.laid_quiescent_api_ErrBound), ("quiescent/api.ErrShape", Rows.laid_quiescent_api_ErrShape), ("quiescent/api.ErrName", Rows.laid_quiescent_api_ErrName), ("quiescent/api.ErrNone", Rows.laid_quiescent_api_ErrNone), ("quiescent/api.ErrFull", Rows.laid_quiescent_api_ErrFull), ("quiescent/api.ErrStale", Rows.laid_quiescent_api_ErrStale), ("quiescent/api.ErrHeld", Rows.laid_quiescent_api_ErrHeld), ("quiescent/api.ErrDone", Rows.laid_quiescent_api_ErrDone)] [.handle, .sentinel, .sentinel, .sentinel, .sentinel, .sentinel, .sentinel, .sentinel, .sentinel, .sentinel] true :=
  Program.laidByTextLater_by_one 187 8 2 (by kernel_rfl) (by kernel_rfl) (by kernel_rfl) (by kernel_rfl) (by kernel_rfl) (by kernel_rfl) (fun _ _ => by kernel_rfl)
theorem noOwnUnsafe : Tryz.pinned.checked.prog.headLifts.contains "ownunsafe" = false := by kernel_rfl
theorem tie : Tryz.prog.laidByTextLater [("errors.errorType", Rows.laid_errors_errorType), ("quiescent/api.ErrText", Rows.laid_quiescent_api_ErrText), ("quiescent/api.ErrBound", Rows.laid_quiescent_api_ErrBound), ("quiescent/api.ErrShape", Rows.laid_quiescent_api_ErrShape), ("quiescent/api.ErrName", Rows.laid_quiescent_api_ErrName), ("quiescent/api.ErrNone", Rows.laid_quiescent_api_ErrNone), ("quiescent/api.ErrFull", Rows.laid_quiescent_api_ErrFull), ("quiescent/api.ErrStale", Rows.laid_quiescent_api_ErrStale), ("quiescent/api.ErrHeld", Rows.laid_quiescent_api_ErrHeld), ("quiescent/api.ErrDone", Rows.laid_quiescent_api_ErrDone)] [.handle, .sentinel, .sentinel, .sentinel, .sentinel, .sentinel, .sentinel, .sentinel, .sentinel, .sentinel] true :=
  Program.laidByTextLater.sub seatTie1 ["errors.errorType", "quiescent/api.ErrText", "quiescent/api.ErrBound", "quiescent/api.ErrShape", "quiescent/api.ErrName", "quiescent/api.ErrNone", "quiescent/api.ErrFull", "quiescent/api.ErrStale", "quiescent/api.ErrHeld", "quiescent/api.ErrDone"] (by kernel_rfl) (by kernel_rfl)
theorem machSteps_row_tie : Rows.machStepsRow.laidByTextAt .later Tryz.pinned [.handle, .sentinel, .sentinel, .sentinel, .sentinel, .sentinel, .sentinel, .sentinel, .sentinel, .sentinel] true :=
  OpenClaim.laidByTextAt_later rfl rfl tie noOwnUnsafe
theorem machRuns_row_tie : Rows.machRunsRow.laidByTextAt .later Tryz.pinned [.handle, .sentinel, .sentinel, .sentinel, .sentinel, .sentinel, .sentinel, .sentinel, .sentinel, .sentinel] true :=
  OpenClaim.laidByTextAt_later rfl rfl tie noOwnUnsafe
theorem walkAll_row_tie : Rows.walkAllRow.laidByTextAt .later Tryz.pinned [.handle, .sentinel, .sentinel, .sentinel, .sentinel, .sentinel, .sentinel, .sentinel, .sentinel, .sentinel] true :=
  OpenClaim.laidByTextAt_later rfl rfl tie noOwnUnsafe
theorem tie2 : Tryz.prog.laidByTextLater [("errors.errorType", Rows.laid_errors_errorType), ("quiescent/api.ErrBound", Rows.laid_quiescent_api_ErrBound), ("quiescent/api.ErrShape", Rows.laid_quiescent_api_ErrShape), ("quiescent/api.ErrName", Rows.laid_quiescent_api_ErrName), ("quiescent/api.ErrNone", Rows.laid_quiescent_api_ErrNone), ("quiescent/api.ErrFull", Rows.laid_quiescent_api_ErrFull), ("quiescent/api.ErrStale", Rows.laid_quiescent_api_ErrStale), ("quiescent/api.ErrDone", Rows.laid_quiescent_api_ErrDone)] [.handle, .sentinel, .sentinel, .sentinel, .sentinel, .sentinel, .sentinel, .sentinel] true :=
  Program.laidByTextLater.sub seatTie1 ["errors.errorType", "quiescent/api.ErrBound", "quiescent/api.ErrShape", "quiescent/api.ErrName", "quiescent/api.ErrNone", "quiescent/api.ErrFull", "quiescent/api.ErrStale", "quiescent/api.ErrDone"] (by kernel_rfl) (by kernel_rfl)
theorem walkFaults_row_tie : Rows.walkFaultsRow.laidByTextAt .later Tryz.pinned [.handle, .sentinel, .sentinel, .sentinel, .sentinel, .sentinel, .sentinel, .sentinel] true :=
  OpenClaim.laidByTextAt_later rfl rfl tie2 noOwnUnsafe
theorem walkSees_row_tie : Rows.walkSeesRow.laidByTextAt .later Tryz.pinned [.handle, .sentinel, .sentinel, .sentinel, .sentinel, .sentinel, .sentinel, .sentinel] true :=
  OpenClaim.laidByTextAt_later rfl rfl tie2 noOwnUnsafe
theorem machStepsUpto_row_tie : Rows.machStepsUptoRow.laidByTextAt .later Tryz.pinned [.handle, .sentinel, .sentinel, .sentinel, .sentinel, .sentinel, .sentinel, .sentinel, .sentinel, .sentinel] true :=
  OpenClaim.laidByTextAt_later rfl rfl tie noOwnUnsafe
theorem machRunsUpto_row_tie : Rows.machRunsUptoRow.laidByTextAt .later Tryz.pinned [.handle, .sentinel, .sentinel, .sentinel, .sentinel, .sentinel, .sentinel, .sentinel, .sentinel, .sentinel] true :=
  OpenClaim.laidByTextAt_later rfl rfl tie noOwnUnsafe
theorem walkAllUpto_row_tie : Rows.walkAllUptoRow.laidByTextAt .later Tryz.pinned [.handle, .sentinel, .sentinel, .sentinel, .sentinel, .sentinel, .sentinel, .sentinel, .sentinel, .sentinel] true :=
  OpenClaim.laidByTextAt_later rfl rfl tie noOwnUnsafe
theorem walkFaultsUpto_row_tie : Rows.walkFaultsUptoRow.laidByTextAt .later Tryz.pinned [.handle, .sentinel, .sentinel, .sentinel, .sentinel, .sentinel, .sentinel, .sentinel] true :=
  OpenClaim.laidByTextAt_later rfl rfl tie2 noOwnUnsafe
theorem walkSeesUpto_row_tie : Rows.walkSeesUptoRow.laidByTextAt .later Tryz.pinned [.handle, .sentinel, .sentinel, .sentinel, .sentinel, .sentinel, .sentinel, .sentinel] true :=
  OpenClaim.laidByTextAt_later rfl rfl tie2 noOwnUnsafe
end Go.Proofs.YtciaficoeajeaaaGreatDoor
