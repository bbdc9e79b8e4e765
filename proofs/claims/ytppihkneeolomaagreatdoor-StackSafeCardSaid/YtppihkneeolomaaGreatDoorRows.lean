/-
  NARROWER THAN 'FOR EVERY INPUT', by the rows' own cells (each row's printed sentence says how): StackSafe: laid · ClientSafe: laid · StackBuilds: laid · ClientBuilds: laid · ClientChecks: laid.
  DERIVED. THE GIVEN ROWS OF THIS SEAT. 5 by the template 'for every input the law returns true; each argument reads behind the call as it read before'; 0 by the template 'total and deterministic' (their statements: YtppihkneeolomaaGreatDoorTotals.lean).
  GIVEN WITH THE SEED: the statements are not yours to turn. If you find one false, say at which input.
  Laid BY PROGRAM, IN A SANDBOX (cutbox-rows.mjs): the forced cells as the released guide's own fill.sh prints them over the translation 44ca129cde6fad01… (all of the seat's roots in one cut). By AI agents, Wed Nov 11 2026. No macro, syntax, notation, axiom, sorry.
-/
import Derived.Test.YtppihkneeolomaaGreatDoorChecked
import GoSem.Claim
import GoSem.ClaimJoined
import GoSem.ClaimMapViews
import Derived.JoinedTies
import Derived.KernelRfl
namespace Go.Proofs.YtppihkneeolomaaGreatDoor
/- THE CELL 'sum', in the pinned program and in every row, IS THE sha256 OF THE DUMP (.gsa) THAT YtppihkneeolomaaGreatDoorProg.lean LOADS. Nothing in Lean hashes anything: it is a label: what it is worth is what the hold of that sum in a sandbox is worth. -/
noncomputable def Tryz.pinned : Pinned := { name := "ytppihkneeolomaagreatdoor", sum := "44ca129cde6fad016fb40a035540d14c3f9892df67428a29295863327318f8f7", checked := Tryz.checked }
namespace Rows
def none {H : Type} : Left H := { results := [], args := [] }

/- WHAT THE LISTED PACKAGE-LEVEL VARIABLES READ AS WHEN THE CALL BEGINS. Each datum BY PROGRAM (the guide's laid-datum.mjs) off the statement by which the dump's own 'gosem.cut.vars' lays the variable. In a bare row this is a premise. The card (YtppihkneeolomaaGreatDoorCards.lean) ties it to the program's text. -/
def laid_math_bits_deBruijn32tab {H : Type} : DataW H := .agg [.lit (.int .u8 0), .lit (.int .u8 1), .lit (.int .u8 28), .lit (.int .u8 2), .lit (.int .u8 29), .lit (.int .u8 14), .lit (.int .u8 24), .lit (.int .u8 3), .lit (.int .u8 30), .lit (.int .u8 22), .lit (.int .u8 20), .lit (.int .u8 15), .lit (.int .u8 25), .lit (.int .u8 17), .lit (.int .u8 4), .lit (.int .u8 8), .lit (.int .u8 31), .lit (.int .u8 27), .lit (.int .u8 13), .lit (.int .u8 23), .lit (.int .u8 21), .lit (.int .u8 19), .lit (.int .u8 16), .lit (.int .u8 7), .lit (.int .u8 26), .lit (.int .u8 12), .lit (.int .u8 18), .lit (.int .u8 6), .lit (.int .u8 11), .lit (.int .u8 5), .lit (.int .u8 10), .lit (.int .u8 9)]
def laid_math_bits_deBruijn64tab {H : Type} : DataW H := .agg [.lit (.int .u8 0), .lit (.int .u8 1), .lit (.int .u8 56), .lit (.int .u8 2), .lit (.int .u8 57), .lit (.int .u8 49), .lit (.int .u8 28), .lit (.int .u8 3), .lit (.int .u8 61), .lit (.int .u8 58), .lit (.int .u8 42), .lit (.int .u8 50), .lit (.int .u8 38), .lit (.int .u8 29), .lit (.int .u8 17), .lit (.int .u8 4), .lit (.int .u8 62), .lit (.int .u8 47), .lit (.int .u8 59), .lit (.int .u8 36), .lit (.int .u8 45), .lit (.int .u8 43), .lit (.int .u8 51), .lit (.int .u8 22), .lit (.int .u8 53), .lit (.int .u8 39), .lit (.int .u8 33), .lit (.int .u8 30), .lit (.int .u8 24), .lit (.int .u8 18), .lit (.int .u8 12), .lit (.int .u8 5), .lit (.int .u8 63), .lit (.int .u8 55), .lit (.int .u8 48), .lit (.int .u8 27), .lit (.int .u8 60), .lit (.int .u8 41), .lit (.int .u8 37), .lit (.int .u8 16), .lit (.int .u8 46), .lit (.int .u8 35), .lit (.int .u8 44), .lit (.int .u8 21), .lit (.int .u8 52), .lit (.int .u8 32), .lit (.int .u8 23), .lit (.int .u8 11), .lit (.int .u8 54), .lit (.int .u8 26), .lit (.int .u8 40), .lit (.int .u8 15), .lit (.int .u8 34), .lit (.int .u8 20), .lit (.int .u8 31), .lit (.int .u8 10), .lit (.int .u8 25), .lit (.int .u8 14), .lit (.int .u8 19), .lit (.int .u8 9), .lit (.int .u8 13), .lit (.int .u8 8), .lit (.int .u8 7), .lit (.int .u8 6)]
def laid_internal_strconv_uint64pow10 {H : Type} : DataW H := .agg [.lit (.int .u64 1), .lit (.int .u64 10), .lit (.int .u64 100), .lit (.int .u64 1000), .lit (.int .u64 10000), .lit (.int .u64 100000), .lit (.int .u64 1000000), .lit (.int .u64 10000000), .lit (.int .u64 100000000), .lit (.int .u64 1000000000), .lit (.int .u64 10000000000), .lit (.int .u64 100000000000), .lit (.int .u64 1000000000000), .lit (.int .u64 10000000000000), .lit (.int .u64 100000000000000), .lit (.int .u64 1000000000000000), .lit (.int .u64 10000000000000000), .lit (.int .u64 100000000000000000), .lit (.int .u64 1000000000000000000), .lit (.int .u64 10000000000000000000)]
def laid_quiescent_api_ErrBound {H : Type} : DataW H := .iface "*errors.errorString" (.ptr (.agg [.lit (.string [113, 117, 105, 101, 115, 99, 101, 110, 116, 58, 32, 98, 111, 117, 110, 100])]))
def laid_quiescent_api_ErrShape {H : Type} : DataW H := .iface "*errors.errorString" (.ptr (.agg [.lit (.string [113, 117, 105, 101, 115, 99, 101, 110, 116, 58, 32, 115, 104, 97, 112, 101])]))
def laid_quiescent_api_ErrName {H : Type} : DataW H := .iface "*errors.errorString" (.ptr (.agg [.lit (.string [113, 117, 105, 101, 115, 99, 101, 110, 116, 58, 32, 110, 97, 109, 101])]))
def laid_quiescent_api_ErrNone {H : Type} : DataW H := .iface "*errors.errorString" (.ptr (.agg [.lit (.string [113, 117, 105, 101, 115, 99, 101, 110, 116, 58, 32, 110, 111, 110, 101])]))
def laid_quiescent_api_ErrHeld {H : Type} : DataW H := .iface "*errors.errorString" (.ptr (.agg [.lit (.string [113, 117, 105, 101, 115, 99, 101, 110, 116, 58, 32, 104, 101, 108, 100])]))
def laid_quiescent_client_kinds {H : Type} : DataW H := .slice [.lit (.string [101, 110, 116, 101, 114]), .lit (.string [108, 101, 97, 118, 101]), .lit (.string [114, 101, 115, 116]), .lit (.string [119, 97, 105, 116]), .lit (.string [114, 101, 97, 100]), .lit (.string [112, 117, 116]), .lit (.string [100, 114, 111, 112]), .lit (.string [108, 97, 116, 101, 114]), .lit (.string [102, 108, 117, 115, 104])] []
def laid_errors_errorType {H : Type} : DataW H := .iface "internal/reflectlite.rtype" (.agg [.ptr (.lit (.string [101, 114, 114, 111, 114]))])
def laid_quiescent_api_ErrText {H : Type} : DataW H := .iface "*errors.errorString" (.ptr (.agg [.lit (.string [113, 117, 105, 101, 115, 99, 101, 110, 116, 58, 32, 116, 101, 120, 116])]))
def laid_quiescent_api_ErrFull {H : Type} : DataW H := .iface "*errors.errorString" (.ptr (.agg [.lit (.string [113, 117, 105, 101, 115, 99, 101, 110, 116, 58, 32, 102, 117, 108, 108])]))
def laid_quiescent_api_ErrStale {H : Type} : DataW H := .iface "*errors.errorString" (.ptr (.agg [.lit (.string [113, 117, 105, 101, 115, 99, 101, 110, 116, 58, 32, 115, 116, 97, 108, 101])]))
def laid_quiescent_api_ErrDone {H : Type} : DataW H := .iface "*errors.errorString" (.ptr (.agg [.lit (.string [113, 117, 105, 101, 115, 99, 101, 110, 116, 58, 32, 100, 111, 110, 101])]))

/-- 'quiescentlaw3.StackSafe': WHATEVER THE INPUT: true; the input reads as it did. -/
def stackSafeSpec : ChangeSpec := { name := "stackSafe", fn := fun _ => fun
  | [d1, d2, d3] => { results := [.lit (.bool true)], args := [d1, d2, d3] }
  | _ => none }
def stackSafeRow : OpenClaim := { program := "ytppihkneeolomaagreatdoor", sum := "44ca129cde6fad016fb40a035540d14c3f9892df67428a29295863327318f8f7", func := "quiescent/quiescentlaw3.StackSafe", spec := "stackSafe", unfollowed := true, recurses := true, named := ["quiescent/api.ErrName", "quiescent/api.ErrBound", "quiescent/api.ErrShape", "internal/strconv.uint64pow10", "math/bits.deBruijn32tab", "math/bits.deBruijn64tab"], apart := false, laid := [("math/bits.deBruijn32tab", laid_math_bits_deBruijn32tab), ("math/bits.deBruijn64tab", laid_math_bits_deBruijn64tab), ("internal/strconv.uint64pow10", laid_internal_strconv_uint64pow10), ("quiescent/api.ErrBound", laid_quiescent_api_ErrBound), ("quiescent/api.ErrShape", laid_quiescent_api_ErrShape), ("quiescent/api.ErrName", laid_quiescent_api_ErrName)] }
def StackSafeSaid : Prop := stackSafeRow.holds Tryz.pinned (OpenSpec.ofChange stackSafeSpec)

/-- ITS FALSE NEIGHBOUR: 'it returns false'. Refute it at one input. -/
def stackSafeWrong : ChangeSpec := { name := "stackSafe", fn := fun _ => fun
  | [d1, d2, d3] => { results := [.lit (.bool false)], args := [d1, d2, d3] }
  | _ => none }
def StackSafeWrongFalsely : Prop := stackSafeRow.holds Tryz.pinned (OpenSpec.ofChange stackSafeWrong)

/-- 'quiescentlaw2.ClientSafe': WHATEVER THE INPUT: true; the input reads as it did. -/
def clientSafeSpec : ChangeSpec := { name := "clientSafe", fn := fun _ => fun
  | [d1, d2, d3] => { results := [.lit (.bool true)], args := [d1, d2, d3] }
  | _ => none }
def clientSafeRow : OpenClaim := { program := "ytppihkneeolomaagreatdoor", sum := "44ca129cde6fad016fb40a035540d14c3f9892df67428a29295863327318f8f7", func := "quiescent/quiescentlaw2.ClientSafe", spec := "clientSafe", unfollowed := true, recurses := true, named := ["quiescent/api.ErrBound", "quiescent/api.ErrHeld", "quiescent/client.kinds", "quiescent/api.ErrShape", "quiescent/api.ErrNone", "internal/strconv.uint64pow10", "math/bits.deBruijn32tab", "math/bits.deBruijn64tab", "quiescent/api.ErrName"], apart := false, laid := [("math/bits.deBruijn32tab", laid_math_bits_deBruijn32tab), ("math/bits.deBruijn64tab", laid_math_bits_deBruijn64tab), ("internal/strconv.uint64pow10", laid_internal_strconv_uint64pow10), ("quiescent/api.ErrBound", laid_quiescent_api_ErrBound), ("quiescent/api.ErrShape", laid_quiescent_api_ErrShape), ("quiescent/api.ErrName", laid_quiescent_api_ErrName), ("quiescent/api.ErrNone", laid_quiescent_api_ErrNone), ("quiescent/api.ErrHeld", laid_quiescent_api_ErrHeld), ("quiescent/client.kinds", laid_quiescent_client_kinds)] }
def ClientSafeSaid : Prop := clientSafeRow.holds Tryz.pinned (OpenSpec.ofChange clientSafeSpec)

/-- ITS FALSE NEIGHBOUR: 'it returns false'. Refute it at one input. -/
def clientSafeWrong : ChangeSpec := { name := "clientSafe", fn := fun _ => fun
  | [d1, d2, d3] => { results := [.lit (.bool false)], args := [d1, d2, d3] }
  | _ => none }
def ClientSafeWrongFalsely : Prop := clientSafeRow.holds Tryz.pinned (OpenSpec.ofChange clientSafeWrong)

/-- 'quiescentlaw3.StackBuilds': WHATEVER THE INPUT: true; the input reads as it did. -/
def stackBuildsSpec : ChangeSpec := { name := "stackBuilds", fn := fun _ => fun
  | [d1, d2] => { results := [.lit (.bool true)], args := [d1, d2] }
  | _ => none }
def stackBuildsRow : OpenClaim := { program := "ytppihkneeolomaagreatdoor", sum := "44ca129cde6fad016fb40a035540d14c3f9892df67428a29295863327318f8f7", func := "quiescent/quiescentlaw3.StackBuilds", spec := "stackBuilds", inPlace := ["internal/reflectlite.ValueOf", "(internal/reflectlite.Value).Type", "(internal/reflectlite.Value).IsNil", "internal/reflectlite.TypeOf", "(internal/reflectlite.Value).Elem", "(internal/reflectlite.Value).Set"], unfollowed := true, recurses := true, named := ["quiescent/api.ErrName", "quiescent/api.ErrBound", "quiescent/api.ErrShape", "internal/strconv.uint64pow10", "math/bits.deBruijn32tab", "math/bits.deBruijn64tab", "quiescent/api.ErrText", "quiescent/api.ErrNone", "quiescent/api.ErrFull", "quiescent/api.ErrStale", "quiescent/api.ErrHeld", "quiescent/api.ErrDone", "errors.errorType"], apart := false, laid := [("math/bits.deBruijn32tab", laid_math_bits_deBruijn32tab), ("math/bits.deBruijn64tab", laid_math_bits_deBruijn64tab), ("internal/strconv.uint64pow10", laid_internal_strconv_uint64pow10), ("errors.errorType", laid_errors_errorType), ("quiescent/api.ErrText", laid_quiescent_api_ErrText), ("quiescent/api.ErrBound", laid_quiescent_api_ErrBound), ("quiescent/api.ErrShape", laid_quiescent_api_ErrShape), ("quiescent/api.ErrName", laid_quiescent_api_ErrName), ("quiescent/api.ErrNone", laid_quiescent_api_ErrNone), ("quiescent/api.ErrFull", laid_quiescent_api_ErrFull), ("quiescent/api.ErrStale", laid_quiescent_api_ErrStale), ("quiescent/api.ErrHeld", laid_quiescent_api_ErrHeld), ("quiescent/api.ErrDone", laid_quiescent_api_ErrDone)] }
def StackBuildsSaid : Prop := stackBuildsRow.holds Tryz.pinned (OpenSpec.ofChange stackBuildsSpec)

/-- ITS FALSE NEIGHBOUR: 'it returns false'. Refute it at one input. -/
def stackBuildsWrong : ChangeSpec := { name := "stackBuilds", fn := fun _ => fun
  | [d1, d2] => { results := [.lit (.bool false)], args := [d1, d2] }
  | _ => none }
def StackBuildsWrongFalsely : Prop := stackBuildsRow.holds Tryz.pinned (OpenSpec.ofChange stackBuildsWrong)

/-- 'quiescentlaw2.ClientBuilds': WHATEVER THE INPUT: true; the input reads as it did. -/
def clientBuildsSpec : ChangeSpec := { name := "clientBuilds", fn := fun _ => fun
  | [d1, d2] => { results := [.lit (.bool true)], args := [d1, d2] }
  | _ => none }
def clientBuildsRow : OpenClaim := { program := "ytppihkneeolomaagreatdoor", sum := "44ca129cde6fad016fb40a035540d14c3f9892df67428a29295863327318f8f7", func := "quiescent/quiescentlaw2.ClientBuilds", spec := "clientBuilds", inPlace := ["internal/reflectlite.ValueOf", "(internal/reflectlite.Value).Type", "(internal/reflectlite.Value).IsNil", "internal/reflectlite.TypeOf", "(internal/reflectlite.Value).Elem", "(internal/reflectlite.Value).Set"], unfollowed := true, recurses := true, named := ["quiescent/api.ErrBound", "quiescent/api.ErrHeld", "quiescent/client.kinds", "quiescent/api.ErrShape", "quiescent/api.ErrNone", "internal/strconv.uint64pow10", "math/bits.deBruijn32tab", "math/bits.deBruijn64tab", "quiescent/api.ErrName", "quiescent/api.ErrText", "quiescent/api.ErrFull", "quiescent/api.ErrStale", "quiescent/api.ErrDone", "errors.errorType"], apart := false, laid := [("math/bits.deBruijn32tab", laid_math_bits_deBruijn32tab), ("math/bits.deBruijn64tab", laid_math_bits_deBruijn64tab), ("internal/strconv.uint64pow10", laid_internal_strconv_uint64pow10), ("errors.errorType", laid_errors_errorType), ("quiescent/api.ErrText", laid_quiescent_api_ErrText), ("quiescent/api.ErrBound", laid_quiescent_api_ErrBound), ("quiescent/api.ErrShape", laid_quiescent_api_ErrShape), ("quiescent/api.ErrName", laid_quiescent_api_ErrName), ("quiescent/api.ErrNone", laid_quiescent_api_ErrNone), ("quiescent/api.ErrFull", laid_quiescent_api_ErrFull), ("quiescent/api.ErrStale", laid_quiescent_api_ErrStale), ("quiescent/api.ErrHeld", laid_quiescent_api_ErrHeld), ("quiescent/api.ErrDone", laid_quiescent_api_ErrDone), ("quiescent/client.kinds", laid_quiescent_client_kinds)] }
def ClientBuildsSaid : Prop := clientBuildsRow.holds Tryz.pinned (OpenSpec.ofChange clientBuildsSpec)

/-- ITS FALSE NEIGHBOUR: 'it returns false'. Refute it at one input. -/
def clientBuildsWrong : ChangeSpec := { name := "clientBuilds", fn := fun _ => fun
  | [d1, d2] => { results := [.lit (.bool false)], args := [d1, d2] }
  | _ => none }
def ClientBuildsWrongFalsely : Prop := clientBuildsRow.holds Tryz.pinned (OpenSpec.ofChange clientBuildsWrong)

/-- 'quiescentlaw2.ClientChecks': WHATEVER THE INPUT: true; the input reads as it did. -/
def clientChecksSpec : ChangeSpec := { name := "clientChecks", fn := fun _ => fun
  | [d] => { results := [.lit (.bool true)], args := [d] }
  | _ => none }
def clientChecksRow : OpenClaim := { program := "ytppihkneeolomaagreatdoor", sum := "44ca129cde6fad016fb40a035540d14c3f9892df67428a29295863327318f8f7", func := "quiescent/quiescentlaw2.ClientChecks", spec := "clientChecks", inPlace := ["internal/reflectlite.ValueOf", "(internal/reflectlite.Value).Type", "(internal/reflectlite.Value).IsNil", "internal/reflectlite.TypeOf", "(internal/reflectlite.Value).Elem", "(internal/reflectlite.Value).Set"], unfollowed := true, recurses := true, named := ["quiescent/api.ErrBound", "quiescent/api.ErrHeld", "quiescent/client.kinds", "quiescent/api.ErrShape", "quiescent/api.ErrNone", "internal/strconv.uint64pow10", "math/bits.deBruijn32tab", "math/bits.deBruijn64tab", "quiescent/api.ErrName", "quiescent/api.ErrText", "quiescent/api.ErrFull", "quiescent/api.ErrStale", "quiescent/api.ErrDone", "errors.errorType"], apart := false, laid := [("math/bits.deBruijn32tab", laid_math_bits_deBruijn32tab), ("math/bits.deBruijn64tab", laid_math_bits_deBruijn64tab), ("internal/strconv.uint64pow10", laid_internal_strconv_uint64pow10), ("errors.errorType", laid_errors_errorType), ("quiescent/api.ErrText", laid_quiescent_api_ErrText), ("quiescent/api.ErrBound", laid_quiescent_api_ErrBound), ("quiescent/api.ErrShape", laid_quiescent_api_ErrShape), ("quiescent/api.ErrName", laid_quiescent_api_ErrName), ("quiescent/api.ErrNone", laid_quiescent_api_ErrNone), ("quiescent/api.ErrFull", laid_quiescent_api_ErrFull), ("quiescent/api.ErrStale", laid_quiescent_api_ErrStale), ("quiescent/api.ErrHeld", laid_quiescent_api_ErrHeld), ("quiescent/api.ErrDone", laid_quiescent_api_ErrDone), ("quiescent/client.kinds", laid_quiescent_client_kinds)] }
def ClientChecksSaid : Prop := clientChecksRow.holds Tryz.pinned (OpenSpec.ofChange clientChecksSpec)

/-- ITS FALSE NEIGHBOUR: 'it returns false'. Refute it at one input. -/
def clientChecksWrong : ChangeSpec := { name := "clientChecks", fn := fun _ => fun
  | [d] => { results := [.lit (.bool false)], args := [d] }
  | _ => none }
def ClientChecksWrongFalsely : Prop := clientChecksRow.holds Tryz.pinned (OpenSpec.ofChange clientChecksWrong)

/- THE SECOND FORM. 'bulk': how many values and letters a reading holds, each counted each time it is reached (what is shared counts as often as it is met; a slice's spare places count too). A statement '..UptoSaid' is the law's where the arguments, and the package variables that the reading takes, are together of bulk at most 1048576: NARROWER than '..Said'. Prove '..Said' where nothing that the law and all that it calls make is longer than what came in: it says more and counts as full. Else prove '..UptoSaid'. A law counts once. -/
mutual
def uptoBulk {H : Type} : DataW H → Nat
  | .lit (.string bytes) => bytes.length + 1
  | .lit _ => 1
  | .nil => 1
  | .ptr d => uptoBulk d + 1
  | .slice elems spare => uptoBulkAll elems + uptoBulkAll spare + 1
  | .agg parts => uptoBulkAll parts + 1
  | .iface _ d => uptoBulk d + 1
  | .map entries => uptoBulkEntries entries + 1
  | .held _ => 1
def uptoBulkAll {H : Type} : List (DataW H) → Nat
  | [] => 0
  | d :: r => uptoBulk d + uptoBulkAll r
def uptoBulkEntries {H : Type} : List (Lit × DataW H) → Nat
  | [] => 0
  | x :: r => uptoBulkEntry x + uptoBulkEntries r
def uptoBulkEntry {H : Type} : Lit × DataW H → Nat
  | (.string bytes, d) => bytes.length + uptoBulk d + 1
  | (_, d) => uptoBulk d + 1
 end
def uptoSmall : (H : Type) → List (DataW H) → Bool := fun _ ds => decide (uptoBulkAll ds ≤ 1048576)
def OpenSpec.upto (s : _root_.Go.ChangeSpec) : _root_.Go.OpenSpec := { _root_.Go.OpenSpec.ofChange s with cond := some uptoSmall }

/-- 'quiescentlaw3.StackSafe', WHERE WHAT IT READS IS OF BULK AT MOST 1048576: true; the input reads as it did. -/
def stackSafeUptoRow : OpenClaim := { program := "ytppihkneeolomaagreatdoor", sum := "44ca129cde6fad016fb40a035540d14c3f9892df67428a29295863327318f8f7", func := "quiescent/quiescentlaw3.StackSafe", spec := "stackSafe", unfollowed := true, recurses := true, named := ["quiescent/api.ErrName", "quiescent/api.ErrBound", "quiescent/api.ErrShape", "internal/strconv.uint64pow10", "math/bits.deBruijn32tab", "math/bits.deBruijn64tab"], apart := false, laid := [("math/bits.deBruijn32tab", laid_math_bits_deBruijn32tab), ("math/bits.deBruijn64tab", laid_math_bits_deBruijn64tab), ("internal/strconv.uint64pow10", laid_internal_strconv_uint64pow10), ("quiescent/api.ErrBound", laid_quiescent_api_ErrBound), ("quiescent/api.ErrShape", laid_quiescent_api_ErrShape), ("quiescent/api.ErrName", laid_quiescent_api_ErrName)], narrowed := true }
def StackSafeUptoSaid : Prop := stackSafeUptoRow.holds Tryz.pinned (OpenSpec.upto stackSafeSpec)

/-- 'quiescentlaw2.ClientSafe', WHERE WHAT IT READS IS OF BULK AT MOST 1048576: true; the input reads as it did. -/
def clientSafeUptoRow : OpenClaim := { program := "ytppihkneeolomaagreatdoor", sum := "44ca129cde6fad016fb40a035540d14c3f9892df67428a29295863327318f8f7", func := "quiescent/quiescentlaw2.ClientSafe", spec := "clientSafe", unfollowed := true, recurses := true, named := ["quiescent/api.ErrBound", "quiescent/api.ErrHeld", "quiescent/client.kinds", "quiescent/api.ErrShape", "quiescent/api.ErrNone", "internal/strconv.uint64pow10", "math/bits.deBruijn32tab", "math/bits.deBruijn64tab", "quiescent/api.ErrName"], apart := false, laid := [("math/bits.deBruijn32tab", laid_math_bits_deBruijn32tab), ("math/bits.deBruijn64tab", laid_math_bits_deBruijn64tab), ("internal/strconv.uint64pow10", laid_internal_strconv_uint64pow10), ("quiescent/api.ErrBound", laid_quiescent_api_ErrBound), ("quiescent/api.ErrShape", laid_quiescent_api_ErrShape), ("quiescent/api.ErrName", laid_quiescent_api_ErrName), ("quiescent/api.ErrNone", laid_quiescent_api_ErrNone), ("quiescent/api.ErrHeld", laid_quiescent_api_ErrHeld), ("quiescent/client.kinds", laid_quiescent_client_kinds)], narrowed := true }
def ClientSafeUptoSaid : Prop := clientSafeUptoRow.holds Tryz.pinned (OpenSpec.upto clientSafeSpec)

/-- 'quiescentlaw3.StackBuilds', WHERE WHAT IT READS IS OF BULK AT MOST 1048576: true; the input reads as it did. -/
def stackBuildsUptoRow : OpenClaim := { program := "ytppihkneeolomaagreatdoor", sum := "44ca129cde6fad016fb40a035540d14c3f9892df67428a29295863327318f8f7", func := "quiescent/quiescentlaw3.StackBuilds", spec := "stackBuilds", inPlace := ["internal/reflectlite.ValueOf", "(internal/reflectlite.Value).Type", "(internal/reflectlite.Value).IsNil", "internal/reflectlite.TypeOf", "(internal/reflectlite.Value).Elem", "(internal/reflectlite.Value).Set"], unfollowed := true, recurses := true, named := ["quiescent/api.ErrName", "quiescent/api.ErrBound", "quiescent/api.ErrShape", "internal/strconv.uint64pow10", "math/bits.deBruijn32tab", "math/bits.deBruijn64tab", "quiescent/api.ErrText", "quiescent/api.ErrNone", "quiescent/api.ErrFull", "quiescent/api.ErrStale", "quiescent/api.ErrHeld", "quiescent/api.ErrDone", "errors.errorType"], apart := false, laid := [("math/bits.deBruijn32tab", laid_math_bits_deBruijn32tab), ("math/bits.deBruijn64tab", laid_math_bits_deBruijn64tab), ("internal/strconv.uint64pow10", laid_internal_strconv_uint64pow10), ("errors.errorType", laid_errors_errorType), ("quiescent/api.ErrText", laid_quiescent_api_ErrText), ("quiescent/api.ErrBound", laid_quiescent_api_ErrBound), ("quiescent/api.ErrShape", laid_quiescent_api_ErrShape), ("quiescent/api.ErrName", laid_quiescent_api_ErrName), ("quiescent/api.ErrNone", laid_quiescent_api_ErrNone), ("quiescent/api.ErrFull", laid_quiescent_api_ErrFull), ("quiescent/api.ErrStale", laid_quiescent_api_ErrStale), ("quiescent/api.ErrHeld", laid_quiescent_api_ErrHeld), ("quiescent/api.ErrDone", laid_quiescent_api_ErrDone)], narrowed := true }
def StackBuildsUptoSaid : Prop := stackBuildsUptoRow.holds Tryz.pinned (OpenSpec.upto stackBuildsSpec)

/-- 'quiescentlaw2.ClientBuilds', WHERE WHAT IT READS IS OF BULK AT MOST 1048576: true; the input reads as it did. -/
def clientBuildsUptoRow : OpenClaim := { program := "ytppihkneeolomaagreatdoor", sum := "44ca129cde6fad016fb40a035540d14c3f9892df67428a29295863327318f8f7", func := "quiescent/quiescentlaw2.ClientBuilds", spec := "clientBuilds", inPlace := ["internal/reflectlite.ValueOf", "(internal/reflectlite.Value).Type", "(internal/reflectlite.Value).IsNil", "internal/reflectlite.TypeOf", "(internal/reflectlite.Value).Elem", "(internal/reflectlite.Value).Set"], unfollowed := true, recurses := true, named := ["quiescent/api.ErrBound", "quiescent/api.ErrHeld", "quiescent/client.kinds", "quiescent/api.ErrShape", "quiescent/api.ErrNone", "internal/strconv.uint64pow10", "math/bits.deBruijn32tab", "math/bits.deBruijn64tab", "quiescent/api.ErrName", "quiescent/api.ErrText", "quiescent/api.ErrFull", "quiescent/api.ErrStale", "quiescent/api.ErrDone", "errors.errorType"], apart := false, laid := [("math/bits.deBruijn32tab", laid_math_bits_deBruijn32tab), ("math/bits.deBruijn64tab", laid_math_bits_deBruijn64tab), ("internal/strconv.uint64pow10", laid_internal_strconv_uint64pow10), ("errors.errorType", laid_errors_errorType), ("quiescent/api.ErrText", laid_quiescent_api_ErrText), ("quiescent/api.ErrBound", laid_quiescent_api_ErrBound), ("quiescent/api.ErrShape", laid_quiescent_api_ErrShape), ("quiescent/api.ErrName", laid_quiescent_api_ErrName), ("quiescent/api.ErrNone", laid_quiescent_api_ErrNone), ("quiescent/api.ErrFull", laid_quiescent_api_ErrFull), ("quiescent/api.ErrStale", laid_quiescent_api_ErrStale), ("quiescent/api.ErrHeld", laid_quiescent_api_ErrHeld), ("quiescent/api.ErrDone", laid_quiescent_api_ErrDone), ("quiescent/client.kinds", laid_quiescent_client_kinds)], narrowed := true }
def ClientBuildsUptoSaid : Prop := clientBuildsUptoRow.holds Tryz.pinned (OpenSpec.upto clientBuildsSpec)

/-- 'quiescentlaw2.ClientChecks', WHERE WHAT IT READS IS OF BULK AT MOST 1048576: true; the input reads as it did. -/
def clientChecksUptoRow : OpenClaim := { program := "ytppihkneeolomaagreatdoor", sum := "44ca129cde6fad016fb40a035540d14c3f9892df67428a29295863327318f8f7", func := "quiescent/quiescentlaw2.ClientChecks", spec := "clientChecks", inPlace := ["internal/reflectlite.ValueOf", "(internal/reflectlite.Value).Type", "(internal/reflectlite.Value).IsNil", "internal/reflectlite.TypeOf", "(internal/reflectlite.Value).Elem", "(internal/reflectlite.Value).Set"], unfollowed := true, recurses := true, named := ["quiescent/api.ErrBound", "quiescent/api.ErrHeld", "quiescent/client.kinds", "quiescent/api.ErrShape", "quiescent/api.ErrNone", "internal/strconv.uint64pow10", "math/bits.deBruijn32tab", "math/bits.deBruijn64tab", "quiescent/api.ErrName", "quiescent/api.ErrText", "quiescent/api.ErrFull", "quiescent/api.ErrStale", "quiescent/api.ErrDone", "errors.errorType"], apart := false, laid := [("math/bits.deBruijn32tab", laid_math_bits_deBruijn32tab), ("math/bits.deBruijn64tab", laid_math_bits_deBruijn64tab), ("internal/strconv.uint64pow10", laid_internal_strconv_uint64pow10), ("errors.errorType", laid_errors_errorType), ("quiescent/api.ErrText", laid_quiescent_api_ErrText), ("quiescent/api.ErrBound", laid_quiescent_api_ErrBound), ("quiescent/api.ErrShape", laid_quiescent_api_ErrShape), ("quiescent/api.ErrName", laid_quiescent_api_ErrName), ("quiescent/api.ErrNone", laid_quiescent_api_ErrNone), ("quiescent/api.ErrFull", laid_quiescent_api_ErrFull), ("quiescent/api.ErrStale", laid_quiescent_api_ErrStale), ("quiescent/api.ErrHeld", laid_quiescent_api_ErrHeld), ("quiescent/api.ErrDone", laid_quiescent_api_ErrDone), ("quiescent/client.kinds", laid_quiescent_client_kinds)], narrowed := true }
def ClientChecksUptoSaid : Prop := clientChecksUptoRow.holds Tryz.pinned (OpenSpec.upto clientChecksSpec)

end Rows
end Go.Proofs.YtppihkneeolomaaGreatDoor
