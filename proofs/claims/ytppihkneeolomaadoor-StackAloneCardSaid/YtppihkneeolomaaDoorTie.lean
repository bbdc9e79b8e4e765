/-
  DERIVED. GIVEN WITH THE SEED: THE PROGRAM's TIES (one call each: nine closed facts by the kernel) AND EACH ROW's TIE, after the 31st guide's Derived/Test/Toyas{Tie, Card}.lean. No idea stands in it: it is a product of the set-up. Laid BY PROGRAM, IN A SANDBOX (cutbox-door.mjs). By AI agents, Wed Nov 11 2026. No macro, syntax, notation, axiom, sorry.
-/
import Derived.Test.YtppihkneeolomaaDoorRows
import Derived.LaidByTextLater
import Derived.SevenTiedAt
import Derived.LaidSub
import Derived.LaidOnce
namespace Go.Proofs.YtppihkneeolomaaDoor
open Go
set_option maxRecDepth 100000
theorem seatTie1 : Tryd.prog.laidByTextLater [("math/bits.deBruijn32tab", Rows.laid_math_bits_deBruijn32tab), ("math/bits.deBruijn64tab", Rows.laid_math_bits_deBruijn64tab), ("internal/strconv.uint64pow10", Rows.laid_internal_strconv_uint64pow10), ("errors.errorType", Rows.laid_errors_errorType), ("quiescent/api.ErrText", Rows.laid_quiescent_api_ErrText), ("quiescent/api.ErrBound", Rows.laid_quiescent_api_ErrBound), ("quiescent/api.ErrShape", Rows.laid_quiescent_api_ErrShape), ("quiescent/api.ErrName", Rows.laid_quiescent_api_ErrName), ("quiescent/api.ErrNone", Rows.laid_quiescent_api_ErrNone), ("quiescent/api.ErrFull", Rows.laid_quiescent_api_ErrFull), ("quiescent/api.ErrStale", Rows.laid_quiescent_api_ErrStale), ("quiescent/api.ErrHeld", Rows.laid_quiescent_api_ErrHeld), ("quiescent/api.ErrDone", Rows.laid_quiescent_api_ErrDone), ("quiescent/client.kinds", Rows.laid_quiescent_client_kinds)] [.data, .data, .data, .handle, .sentinel, .sentinel, .sentinel, .sentinel, .sentinel, .sentinel, .sentinel, .sentinel, .sentinel, .widerDeep] true :=
  Program.laidByTextLater_by_one 207 8 65 (by kernel_rfl) (by kernel_rfl) (by kernel_rfl) (by kernel_rfl) (by kernel_rfl) (by kernel_rfl) (fun _ _ => by kernel_rfl)
theorem noOwnUnsafe : Tryd.pinned.checked.prog.headLifts.contains "ownunsafe" = false := by kernel_rfl
theorem tie : Tryd.prog.laidByTextLater [("math/bits.deBruijn32tab", Rows.laid_math_bits_deBruijn32tab), ("math/bits.deBruijn64tab", Rows.laid_math_bits_deBruijn64tab), ("internal/strconv.uint64pow10", Rows.laid_internal_strconv_uint64pow10), ("quiescent/api.ErrBound", Rows.laid_quiescent_api_ErrBound), ("quiescent/api.ErrShape", Rows.laid_quiescent_api_ErrShape), ("quiescent/api.ErrName", Rows.laid_quiescent_api_ErrName)] [.data, .data, .data, .sentinel, .sentinel, .sentinel] true :=
  Program.laidByTextLater.sub seatTie1 ["math/bits.deBruijn32tab", "math/bits.deBruijn64tab", "internal/strconv.uint64pow10", "quiescent/api.ErrBound", "quiescent/api.ErrShape", "quiescent/api.ErrName"] (by kernel_rfl) (by kernel_rfl)
theorem queueSafe_row_tie : Rows.queueSafeRow.laidByTextAt .later Tryd.pinned [.data, .data, .data, .sentinel, .sentinel, .sentinel] true :=
  OpenClaim.laidByTextAt_later rfl rfl tie noOwnUnsafe
theorem stackAlone_row_tie : Rows.stackAloneRow.laidByTextAt .later Tryd.pinned [.data, .data, .data, .sentinel, .sentinel, .sentinel] true :=
  OpenClaim.laidByTextAt_later rfl rfl tie noOwnUnsafe
theorem tie2 : Tryd.prog.laidByTextLater [("math/bits.deBruijn32tab", Rows.laid_math_bits_deBruijn32tab), ("math/bits.deBruijn64tab", Rows.laid_math_bits_deBruijn64tab), ("internal/strconv.uint64pow10", Rows.laid_internal_strconv_uint64pow10), ("errors.errorType", Rows.laid_errors_errorType), ("quiescent/api.ErrText", Rows.laid_quiescent_api_ErrText), ("quiescent/api.ErrBound", Rows.laid_quiescent_api_ErrBound), ("quiescent/api.ErrShape", Rows.laid_quiescent_api_ErrShape), ("quiescent/api.ErrName", Rows.laid_quiescent_api_ErrName), ("quiescent/api.ErrNone", Rows.laid_quiescent_api_ErrNone), ("quiescent/api.ErrFull", Rows.laid_quiescent_api_ErrFull), ("quiescent/api.ErrStale", Rows.laid_quiescent_api_ErrStale), ("quiescent/api.ErrHeld", Rows.laid_quiescent_api_ErrHeld), ("quiescent/api.ErrDone", Rows.laid_quiescent_api_ErrDone)] [.data, .data, .data, .handle, .sentinel, .sentinel, .sentinel, .sentinel, .sentinel, .sentinel, .sentinel, .sentinel, .sentinel] true :=
  Program.laidByTextLater.sub seatTie1 ["math/bits.deBruijn32tab", "math/bits.deBruijn64tab", "internal/strconv.uint64pow10", "errors.errorType", "quiescent/api.ErrText", "quiescent/api.ErrBound", "quiescent/api.ErrShape", "quiescent/api.ErrName", "quiescent/api.ErrNone", "quiescent/api.ErrFull", "quiescent/api.ErrStale", "quiescent/api.ErrHeld", "quiescent/api.ErrDone"] (by kernel_rfl) (by kernel_rfl)
theorem queueBuilds_row_tie : Rows.queueBuildsRow.laidByTextAt .later Tryd.pinned [.data, .data, .data, .handle, .sentinel, .sentinel, .sentinel, .sentinel, .sentinel, .sentinel, .sentinel, .sentinel, .sentinel] true :=
  OpenClaim.laidByTextAt_later rfl rfl tie2 noOwnUnsafe
theorem tie3 : Tryd.prog.laidByTextLater [("math/bits.deBruijn32tab", Rows.laid_math_bits_deBruijn32tab), ("math/bits.deBruijn64tab", Rows.laid_math_bits_deBruijn64tab), ("internal/strconv.uint64pow10", Rows.laid_internal_strconv_uint64pow10), ("quiescent/api.ErrBound", Rows.laid_quiescent_api_ErrBound), ("quiescent/api.ErrShape", Rows.laid_quiescent_api_ErrShape), ("quiescent/api.ErrName", Rows.laid_quiescent_api_ErrName), ("quiescent/api.ErrNone", Rows.laid_quiescent_api_ErrNone), ("quiescent/api.ErrHeld", Rows.laid_quiescent_api_ErrHeld), ("quiescent/client.kinds", Rows.laid_quiescent_client_kinds)] [.data, .data, .data, .sentinel, .sentinel, .sentinel, .sentinel, .sentinel, .widerDeep] true :=
  Program.laidByTextLater.sub seatTie1 ["math/bits.deBruijn32tab", "math/bits.deBruijn64tab", "internal/strconv.uint64pow10", "quiescent/api.ErrBound", "quiescent/api.ErrShape", "quiescent/api.ErrName", "quiescent/api.ErrNone", "quiescent/api.ErrHeld", "quiescent/client.kinds"] (by kernel_rfl) (by kernel_rfl)
theorem clientOne_row_tie : Rows.clientOneRow.laidByTextAt .later Tryd.pinned [.data, .data, .data, .sentinel, .sentinel, .sentinel, .sentinel, .sentinel, .widerDeep] true :=
  OpenClaim.laidByTextAt_later rfl rfl tie3 noOwnUnsafe
theorem queueSafeUpto_row_tie : Rows.queueSafeUptoRow.laidByTextAt .later Tryd.pinned [.data, .data, .data, .sentinel, .sentinel, .sentinel] true :=
  OpenClaim.laidByTextAt_later rfl rfl tie noOwnUnsafe
theorem queueBuildsUpto_row_tie : Rows.queueBuildsUptoRow.laidByTextAt .later Tryd.pinned [.data, .data, .data, .handle, .sentinel, .sentinel, .sentinel, .sentinel, .sentinel, .sentinel, .sentinel, .sentinel, .sentinel] true :=
  OpenClaim.laidByTextAt_later rfl rfl tie2 noOwnUnsafe
theorem stackAloneUpto_row_tie : Rows.stackAloneUptoRow.laidByTextAt .later Tryd.pinned [.data, .data, .data, .sentinel, .sentinel, .sentinel] true :=
  OpenClaim.laidByTextAt_later rfl rfl tie noOwnUnsafe
theorem clientOneUpto_row_tie : Rows.clientOneUptoRow.laidByTextAt .later Tryd.pinned [.data, .data, .data, .sentinel, .sentinel, .sentinel, .sentinel, .sentinel, .widerDeep] true :=
  OpenClaim.laidByTextAt_later rfl rfl tie3 noOwnUnsafe
end Go.Proofs.YtppihkneeolomaaDoor
