/-
  NARROWER THAN 'FOR EVERY INPUT', by the rows' own cells (each row's printed sentence says how): SpinEnds: laid · SpinSafe: laid · MemoryAlone: laid · Names: laid · GraceBursts: laid · GraceEnds: laid · GraceNone: laid · GraceSafe: laid · ArenaWords: laid · StackCode: laid · SpinCode: laid · ArenaStale: laid · ArenaActs: laid · SpinNamed: laid · QueueCode: laid · MemoryActs: laid · GraceCode: laid.
  DERIVED. THE GIVEN ROWS OF THIS SEAT. 17 by the template 'for every input the law returns true; each argument reads behind the call as it read before'; 0 by the template 'total and deterministic' (their statements: YtamfbfajlfbooaaDoorTotals.lean).
  GIVEN WITH THE SEED: the statements are not yours to turn. If you find one false, say at which input.
  Laid BY PROGRAM, IN A SANDBOX (cutbox-rows.mjs): the forced cells as the released guide's own fill.sh prints them over the translation a8ea37ff63eec97b… (all of the seat's roots in one cut). By AI agents, Wed Nov 11 2026. No macro, syntax, notation, axiom, sorry.
-/
import Derived.Test.YtamfbfajlfbooaaDoorChecked
import GoSem.Claim
import GoSem.ClaimJoined
import GoSem.ClaimMapViews
import Derived.JoinedTies
import Derived.KernelRfl
namespace Go.Proofs.YtamfbfajlfbooaaDoor
/- THE CELL 'sum', in the pinned program and in every row, IS THE sha256 OF THE DUMP (.gsa) THAT YtamfbfajlfbooaaDoorProg.lean LOADS. Nothing in Lean hashes anything: it is a label: what it is worth is what the hold of that sum in a sandbox is worth. -/
noncomputable def Tryd.pinned : Pinned := { name := "ytamfbfajlfbooaadoor", sum := "a8ea37ff63eec97b958f84ddb00ba0e98e9486c8ab89e07f368b3664e0045d93", checked := Tryd.checked }
namespace Rows
def none {H : Type} : Left H := { results := [], args := [] }

/- WHAT THE LISTED PACKAGE-LEVEL VARIABLES READ AS WHEN THE CALL BEGINS. Each datum BY PROGRAM (the guide's laid-datum.mjs) off the statement by which the dump's own 'gosem.cut.vars' lays the variable. In a bare row this is a premise. The card (YtamfbfajlfbooaaDoorCards.lean) ties it to the program's text. -/
def laid_quiescent_api_ErrBound {H : Type} : DataW H := .iface "*errors.errorString" (.ptr (.agg [.lit (.string [113, 117, 105, 101, 115, 99, 101, 110, 116, 58, 32, 98, 111, 117, 110, 100])]))
def laid_quiescent_api_ErrName {H : Type} : DataW H := .iface "*errors.errorString" (.ptr (.agg [.lit (.string [113, 117, 105, 101, 115, 99, 101, 110, 116, 58, 32, 110, 97, 109, 101])]))
def laid_quiescent_api_ErrNone {H : Type} : DataW H := .iface "*errors.errorString" (.ptr (.agg [.lit (.string [113, 117, 105, 101, 115, 99, 101, 110, 116, 58, 32, 110, 111, 110, 101])]))
def laid_quiescent_api_ErrFull {H : Type} : DataW H := .iface "*errors.errorString" (.ptr (.agg [.lit (.string [113, 117, 105, 101, 115, 99, 101, 110, 116, 58, 32, 102, 117, 108, 108])]))
def laid_quiescent_api_ErrStale {H : Type} : DataW H := .iface "*errors.errorString" (.ptr (.agg [.lit (.string [113, 117, 105, 101, 115, 99, 101, 110, 116, 58, 32, 115, 116, 97, 108, 101])]))
def laid_errors_errorType {H : Type} : DataW H := .iface "internal/reflectlite.rtype" (.agg [.ptr (.lit (.string [101, 114, 114, 111, 114]))])
def laid_quiescent_api_ErrText {H : Type} : DataW H := .iface "*errors.errorString" (.ptr (.agg [.lit (.string [113, 117, 105, 101, 115, 99, 101, 110, 116, 58, 32, 116, 101, 120, 116])]))
def laid_quiescent_api_ErrShape {H : Type} : DataW H := .iface "*errors.errorString" (.ptr (.agg [.lit (.string [113, 117, 105, 101, 115, 99, 101, 110, 116, 58, 32, 115, 104, 97, 112, 101])]))
def laid_quiescent_api_ErrHeld {H : Type} : DataW H := .iface "*errors.errorString" (.ptr (.agg [.lit (.string [113, 117, 105, 101, 115, 99, 101, 110, 116, 58, 32, 104, 101, 108, 100])]))
def laid_quiescent_api_ErrDone {H : Type} : DataW H := .iface "*errors.errorString" (.ptr (.agg [.lit (.string [113, 117, 105, 101, 115, 99, 101, 110, 116, 58, 32, 100, 111, 110, 101])]))

/-- 'quiescentlaw2.SpinEnds': WHATEVER THE INPUT: true; the input reads as it did. -/
def spinEndsSpec : ChangeSpec := { name := "spinEnds", fn := fun _ => fun
  | [d1, d2] => { results := [.lit (.bool true)], args := [d1, d2] }
  | _ => none }
def spinEndsRow : OpenClaim := { program := "ytamfbfajlfbooaadoor", sum := "a8ea37ff63eec97b958f84ddb00ba0e98e9486c8ab89e07f368b3664e0045d93", func := "quiescent/quiescentlaw2.SpinEnds", spec := "spinEnds", recurses := true, named := ["quiescent/api.ErrBound", "quiescent/api.ErrName"], apart := false, laid := [("quiescent/api.ErrBound", laid_quiescent_api_ErrBound), ("quiescent/api.ErrName", laid_quiescent_api_ErrName)] }
def SpinEndsSaid : Prop := spinEndsRow.holds Tryd.pinned (OpenSpec.ofChange spinEndsSpec)

/-- ITS FALSE NEIGHBOUR: 'it returns false'. Refute it at one input. -/
def spinEndsWrong : ChangeSpec := { name := "spinEnds", fn := fun _ => fun
  | [d1, d2] => { results := [.lit (.bool false)], args := [d1, d2] }
  | _ => none }
def SpinEndsWrongFalsely : Prop := spinEndsRow.holds Tryd.pinned (OpenSpec.ofChange spinEndsWrong)

/-- 'quiescentlaw2.SpinSafe': WHATEVER THE INPUT: true; the input reads as it did. -/
def spinSafeSpec : ChangeSpec := { name := "spinSafe", fn := fun _ => fun
  | [d1, d2, d3] => { results := [.lit (.bool true)], args := [d1, d2, d3] }
  | _ => none }
def spinSafeRow : OpenClaim := { program := "ytamfbfajlfbooaadoor", sum := "a8ea37ff63eec97b958f84ddb00ba0e98e9486c8ab89e07f368b3664e0045d93", func := "quiescent/quiescentlaw2.SpinSafe", spec := "spinSafe", recurses := true, named := ["quiescent/api.ErrBound", "quiescent/api.ErrName"], apart := false, laid := [("quiescent/api.ErrBound", laid_quiescent_api_ErrBound), ("quiescent/api.ErrName", laid_quiescent_api_ErrName)] }
def SpinSafeSaid : Prop := spinSafeRow.holds Tryd.pinned (OpenSpec.ofChange spinSafeSpec)

/-- ITS FALSE NEIGHBOUR: 'it returns false'. Refute it at one input. -/
def spinSafeWrong : ChangeSpec := { name := "spinSafe", fn := fun _ => fun
  | [d1, d2, d3] => { results := [.lit (.bool false)], args := [d1, d2, d3] }
  | _ => none }
def SpinSafeWrongFalsely : Prop := spinSafeRow.holds Tryd.pinned (OpenSpec.ofChange spinSafeWrong)

/-- 'quiescentlaw1.MemoryAlone': WHATEVER THE INPUT: true; the input reads as it did. -/
def memoryAloneSpec : ChangeSpec := { name := "memoryAlone", fn := fun _ => fun
  | [d] => { results := [.lit (.bool true)], args := [d] }
  | _ => none }
def memoryAloneRow : OpenClaim := { program := "ytamfbfajlfbooaadoor", sum := "a8ea37ff63eec97b958f84ddb00ba0e98e9486c8ab89e07f368b3664e0045d93", func := "quiescent/quiescentlaw1.MemoryAlone", spec := "memoryAlone", unfollowed := true, recurses := true, named := ["quiescent/api.ErrBound", "quiescent/api.ErrFull", "quiescent/api.ErrStale", "quiescent/api.ErrNone"], apart := false, laid := [("quiescent/api.ErrBound", laid_quiescent_api_ErrBound), ("quiescent/api.ErrNone", laid_quiescent_api_ErrNone), ("quiescent/api.ErrFull", laid_quiescent_api_ErrFull), ("quiescent/api.ErrStale", laid_quiescent_api_ErrStale)] }
def MemoryAloneSaid : Prop := memoryAloneRow.holds Tryd.pinned (OpenSpec.ofChange memoryAloneSpec)

/-- ITS FALSE NEIGHBOUR: 'it returns false'. Refute it at one input. -/
def memoryAloneWrong : ChangeSpec := { name := "memoryAlone", fn := fun _ => fun
  | [d] => { results := [.lit (.bool false)], args := [d] }
  | _ => none }
def MemoryAloneWrongFalsely : Prop := memoryAloneRow.holds Tryd.pinned (OpenSpec.ofChange memoryAloneWrong)

/-- 'quiescentlaw1.Names': WHATEVER THE INPUT: true; the input reads as it did. -/
def namesSpec : ChangeSpec := { name := "names", fn := fun _ => fun
  | [] => { results := [.lit (.bool true)], args := [] }
  | _ => none }
def namesRow : OpenClaim := { program := "ytamfbfajlfbooaadoor", sum := "a8ea37ff63eec97b958f84ddb00ba0e98e9486c8ab89e07f368b3664e0045d93", func := "quiescent/quiescentlaw1.Names", spec := "names", inPlace := ["internal/reflectlite.ValueOf", "(internal/reflectlite.Value).Type", "(internal/reflectlite.Value).IsNil", "internal/reflectlite.TypeOf", "(internal/reflectlite.Value).Elem", "(internal/reflectlite.Value).Set"], unfollowed := true, recurses := true, named := ["quiescent/api.ErrText", "quiescent/api.ErrBound", "quiescent/api.ErrShape", "quiescent/api.ErrName", "quiescent/api.ErrNone", "quiescent/api.ErrFull", "quiescent/api.ErrStale", "quiescent/api.ErrHeld", "quiescent/api.ErrDone", "errors.errorType"], apart := false, laid := [("errors.errorType", laid_errors_errorType), ("quiescent/api.ErrText", laid_quiescent_api_ErrText), ("quiescent/api.ErrBound", laid_quiescent_api_ErrBound), ("quiescent/api.ErrShape", laid_quiescent_api_ErrShape), ("quiescent/api.ErrName", laid_quiescent_api_ErrName), ("quiescent/api.ErrNone", laid_quiescent_api_ErrNone), ("quiescent/api.ErrFull", laid_quiescent_api_ErrFull), ("quiescent/api.ErrStale", laid_quiescent_api_ErrStale), ("quiescent/api.ErrHeld", laid_quiescent_api_ErrHeld), ("quiescent/api.ErrDone", laid_quiescent_api_ErrDone)] }
def NamesSaid : Prop := namesRow.holds Tryd.pinned (OpenSpec.ofChange namesSpec)

/-- ITS FALSE NEIGHBOUR: 'it returns false'. Refute it at one input. -/
def namesWrong : ChangeSpec := { name := "names", fn := fun _ => fun
  | [] => { results := [.lit (.bool false)], args := [] }
  | _ => none }
def NamesWrongFalsely : Prop := namesRow.holds Tryd.pinned (OpenSpec.ofChange namesWrong)

/-- 'quiescentlaw2.GraceBursts': WHATEVER THE INPUT: true; the input reads as it did. -/
def graceBurstsSpec : ChangeSpec := { name := "graceBursts", fn := fun _ => fun
  | [d1, d2, d3, d4] => { results := [.lit (.bool true)], args := [d1, d2, d3, d4] }
  | _ => none }
def graceBurstsRow : OpenClaim := { program := "ytamfbfajlfbooaadoor", sum := "a8ea37ff63eec97b958f84ddb00ba0e98e9486c8ab89e07f368b3664e0045d93", func := "quiescent/quiescentlaw2.GraceBursts", spec := "graceBursts", unfollowed := true, recurses := true, named := ["quiescent/api.ErrBound", "quiescent/api.ErrName"], apart := false, laid := [("quiescent/api.ErrBound", laid_quiescent_api_ErrBound), ("quiescent/api.ErrName", laid_quiescent_api_ErrName)] }
def GraceBurstsSaid : Prop := graceBurstsRow.holds Tryd.pinned (OpenSpec.ofChange graceBurstsSpec)

/-- ITS FALSE NEIGHBOUR: 'it returns false'. Refute it at one input. -/
def graceBurstsWrong : ChangeSpec := { name := "graceBursts", fn := fun _ => fun
  | [d1, d2, d3, d4] => { results := [.lit (.bool false)], args := [d1, d2, d3, d4] }
  | _ => none }
def GraceBurstsWrongFalsely : Prop := graceBurstsRow.holds Tryd.pinned (OpenSpec.ofChange graceBurstsWrong)

/-- 'quiescentlaw2.GraceEnds': WHATEVER THE INPUT: true; the input reads as it did. -/
def graceEndsSpec : ChangeSpec := { name := "graceEnds", fn := fun _ => fun
  | [d1, d2] => { results := [.lit (.bool true)], args := [d1, d2] }
  | _ => none }
def graceEndsRow : OpenClaim := { program := "ytamfbfajlfbooaadoor", sum := "a8ea37ff63eec97b958f84ddb00ba0e98e9486c8ab89e07f368b3664e0045d93", func := "quiescent/quiescentlaw2.GraceEnds", spec := "graceEnds", unfollowed := true, recurses := true, named := ["quiescent/api.ErrBound", "quiescent/api.ErrName"], apart := false, laid := [("quiescent/api.ErrBound", laid_quiescent_api_ErrBound), ("quiescent/api.ErrName", laid_quiescent_api_ErrName)] }
def GraceEndsSaid : Prop := graceEndsRow.holds Tryd.pinned (OpenSpec.ofChange graceEndsSpec)

/-- ITS FALSE NEIGHBOUR: 'it returns false'. Refute it at one input. -/
def graceEndsWrong : ChangeSpec := { name := "graceEnds", fn := fun _ => fun
  | [d1, d2] => { results := [.lit (.bool false)], args := [d1, d2] }
  | _ => none }
def GraceEndsWrongFalsely : Prop := graceEndsRow.holds Tryd.pinned (OpenSpec.ofChange graceEndsWrong)

/-- 'quiescentlaw2.GraceNone': WHATEVER THE INPUT: true; the input reads as it did. -/
def graceNoneSpec : ChangeSpec := { name := "graceNone", fn := fun _ => fun
  | [d1, d2] => { results := [.lit (.bool true)], args := [d1, d2] }
  | _ => none }
def graceNoneRow : OpenClaim := { program := "ytamfbfajlfbooaadoor", sum := "a8ea37ff63eec97b958f84ddb00ba0e98e9486c8ab89e07f368b3664e0045d93", func := "quiescent/quiescentlaw2.GraceNone", spec := "graceNone", unfollowed := true, recurses := true, named := ["quiescent/api.ErrBound", "quiescent/api.ErrName"], apart := false, laid := [("quiescent/api.ErrBound", laid_quiescent_api_ErrBound), ("quiescent/api.ErrName", laid_quiescent_api_ErrName)] }
def GraceNoneSaid : Prop := graceNoneRow.holds Tryd.pinned (OpenSpec.ofChange graceNoneSpec)

/-- ITS FALSE NEIGHBOUR: 'it returns false'. Refute it at one input. -/
def graceNoneWrong : ChangeSpec := { name := "graceNone", fn := fun _ => fun
  | [d1, d2] => { results := [.lit (.bool false)], args := [d1, d2] }
  | _ => none }
def GraceNoneWrongFalsely : Prop := graceNoneRow.holds Tryd.pinned (OpenSpec.ofChange graceNoneWrong)

/-- 'quiescentlaw2.GraceSafe': WHATEVER THE INPUT: true; the input reads as it did. -/
def graceSafeSpec : ChangeSpec := { name := "graceSafe", fn := fun _ => fun
  | [d1, d2, d3] => { results := [.lit (.bool true)], args := [d1, d2, d3] }
  | _ => none }
def graceSafeRow : OpenClaim := { program := "ytamfbfajlfbooaadoor", sum := "a8ea37ff63eec97b958f84ddb00ba0e98e9486c8ab89e07f368b3664e0045d93", func := "quiescent/quiescentlaw2.GraceSafe", spec := "graceSafe", unfollowed := true, recurses := true, named := ["quiescent/api.ErrBound", "quiescent/api.ErrName"], apart := false, laid := [("quiescent/api.ErrBound", laid_quiescent_api_ErrBound), ("quiescent/api.ErrName", laid_quiescent_api_ErrName)] }
def GraceSafeSaid : Prop := graceSafeRow.holds Tryd.pinned (OpenSpec.ofChange graceSafeSpec)

/-- ITS FALSE NEIGHBOUR: 'it returns false'. Refute it at one input. -/
def graceSafeWrong : ChangeSpec := { name := "graceSafe", fn := fun _ => fun
  | [d1, d2, d3] => { results := [.lit (.bool false)], args := [d1, d2, d3] }
  | _ => none }
def GraceSafeWrongFalsely : Prop := graceSafeRow.holds Tryd.pinned (OpenSpec.ofChange graceSafeWrong)

/-- 'quiescentlaw1.ArenaWords': WHATEVER THE INPUT: true; the input reads as it did. -/
def arenaWordsSpec : ChangeSpec := { name := "arenaWords", fn := fun _ => fun
  | [d1, d2] => { results := [.lit (.bool true)], args := [d1, d2] }
  | _ => none }
def arenaWordsRow : OpenClaim := { program := "ytamfbfajlfbooaadoor", sum := "a8ea37ff63eec97b958f84ddb00ba0e98e9486c8ab89e07f368b3664e0045d93", func := "quiescent/quiescentlaw1.ArenaWords", spec := "arenaWords", inPlace := ["internal/reflectlite.ValueOf", "(internal/reflectlite.Value).Type", "(internal/reflectlite.Value).IsNil", "internal/reflectlite.TypeOf", "(internal/reflectlite.Value).Elem", "(internal/reflectlite.Value).Set"], unfollowed := true, recurses := true, named := ["quiescent/api.ErrBound", "quiescent/api.ErrFull", "quiescent/api.ErrText", "quiescent/api.ErrShape", "quiescent/api.ErrName", "quiescent/api.ErrNone", "quiescent/api.ErrStale", "quiescent/api.ErrHeld", "quiescent/api.ErrDone", "errors.errorType"], apart := false, laid := [("errors.errorType", laid_errors_errorType), ("quiescent/api.ErrText", laid_quiescent_api_ErrText), ("quiescent/api.ErrBound", laid_quiescent_api_ErrBound), ("quiescent/api.ErrShape", laid_quiescent_api_ErrShape), ("quiescent/api.ErrName", laid_quiescent_api_ErrName), ("quiescent/api.ErrNone", laid_quiescent_api_ErrNone), ("quiescent/api.ErrFull", laid_quiescent_api_ErrFull), ("quiescent/api.ErrStale", laid_quiescent_api_ErrStale), ("quiescent/api.ErrHeld", laid_quiescent_api_ErrHeld), ("quiescent/api.ErrDone", laid_quiescent_api_ErrDone)] }
def ArenaWordsSaid : Prop := arenaWordsRow.holds Tryd.pinned (OpenSpec.ofChange arenaWordsSpec)

/-- ITS FALSE NEIGHBOUR: 'it returns false'. Refute it at one input. -/
def arenaWordsWrong : ChangeSpec := { name := "arenaWords", fn := fun _ => fun
  | [d1, d2] => { results := [.lit (.bool false)], args := [d1, d2] }
  | _ => none }
def ArenaWordsWrongFalsely : Prop := arenaWordsRow.holds Tryd.pinned (OpenSpec.ofChange arenaWordsWrong)

/-- 'quiescentlaw3.StackCode': WHATEVER THE INPUT: true; the input reads as it did. -/
def stackCodeSpec : ChangeSpec := { name := "stackCode", fn := fun _ => fun
  | [d] => { results := [.lit (.bool true)], args := [d] }
  | _ => none }
def stackCodeRow : OpenClaim := { program := "ytamfbfajlfbooaadoor", sum := "a8ea37ff63eec97b958f84ddb00ba0e98e9486c8ab89e07f368b3664e0045d93", func := "quiescent/quiescentlaw3.StackCode", spec := "stackCode", inPlace := ["internal/reflectlite.ValueOf", "(internal/reflectlite.Value).Type", "(internal/reflectlite.Value).IsNil", "internal/reflectlite.TypeOf", "(internal/reflectlite.Value).Elem", "(internal/reflectlite.Value).Set"], unfollowed := true, recurses := true, named := ["quiescent/api.ErrName", "quiescent/api.ErrText", "quiescent/api.ErrBound", "quiescent/api.ErrShape", "quiescent/api.ErrNone", "quiescent/api.ErrFull", "quiescent/api.ErrStale", "quiescent/api.ErrHeld", "quiescent/api.ErrDone", "errors.errorType"], apart := false, laid := [("errors.errorType", laid_errors_errorType), ("quiescent/api.ErrText", laid_quiescent_api_ErrText), ("quiescent/api.ErrBound", laid_quiescent_api_ErrBound), ("quiescent/api.ErrShape", laid_quiescent_api_ErrShape), ("quiescent/api.ErrName", laid_quiescent_api_ErrName), ("quiescent/api.ErrNone", laid_quiescent_api_ErrNone), ("quiescent/api.ErrFull", laid_quiescent_api_ErrFull), ("quiescent/api.ErrStale", laid_quiescent_api_ErrStale), ("quiescent/api.ErrHeld", laid_quiescent_api_ErrHeld), ("quiescent/api.ErrDone", laid_quiescent_api_ErrDone)] }
def StackCodeSaid : Prop := stackCodeRow.holds Tryd.pinned (OpenSpec.ofChange stackCodeSpec)

/-- ITS FALSE NEIGHBOUR: 'it returns false'. Refute it at one input. -/
def stackCodeWrong : ChangeSpec := { name := "stackCode", fn := fun _ => fun
  | [d] => { results := [.lit (.bool false)], args := [d] }
  | _ => none }
def StackCodeWrongFalsely : Prop := stackCodeRow.holds Tryd.pinned (OpenSpec.ofChange stackCodeWrong)

/-- 'quiescentlaw2.SpinCode': WHATEVER THE INPUT: true; the input reads as it did. -/
def spinCodeSpec : ChangeSpec := { name := "spinCode", fn := fun _ => fun
  | [d1, d2, d3, d4] => { results := [.lit (.bool true)], args := [d1, d2, d3, d4] }
  | _ => none }
def spinCodeRow : OpenClaim := { program := "ytamfbfajlfbooaadoor", sum := "a8ea37ff63eec97b958f84ddb00ba0e98e9486c8ab89e07f368b3664e0045d93", func := "quiescent/quiescentlaw2.SpinCode", spec := "spinCode", inPlace := ["internal/reflectlite.ValueOf", "(internal/reflectlite.Value).Type", "(internal/reflectlite.Value).IsNil", "internal/reflectlite.TypeOf", "(internal/reflectlite.Value).Elem", "(internal/reflectlite.Value).Set"], unfollowed := true, recurses := true, named := ["quiescent/api.ErrBound", "quiescent/api.ErrName", "quiescent/api.ErrText", "quiescent/api.ErrShape", "quiescent/api.ErrNone", "quiescent/api.ErrFull", "quiescent/api.ErrStale", "quiescent/api.ErrHeld", "quiescent/api.ErrDone", "errors.errorType"], apart := false, laid := [("errors.errorType", laid_errors_errorType), ("quiescent/api.ErrText", laid_quiescent_api_ErrText), ("quiescent/api.ErrBound", laid_quiescent_api_ErrBound), ("quiescent/api.ErrShape", laid_quiescent_api_ErrShape), ("quiescent/api.ErrName", laid_quiescent_api_ErrName), ("quiescent/api.ErrNone", laid_quiescent_api_ErrNone), ("quiescent/api.ErrFull", laid_quiescent_api_ErrFull), ("quiescent/api.ErrStale", laid_quiescent_api_ErrStale), ("quiescent/api.ErrHeld", laid_quiescent_api_ErrHeld), ("quiescent/api.ErrDone", laid_quiescent_api_ErrDone)] }
def SpinCodeSaid : Prop := spinCodeRow.holds Tryd.pinned (OpenSpec.ofChange spinCodeSpec)

/-- ITS FALSE NEIGHBOUR: 'it returns false'. Refute it at one input. -/
def spinCodeWrong : ChangeSpec := { name := "spinCode", fn := fun _ => fun
  | [d1, d2, d3, d4] => { results := [.lit (.bool false)], args := [d1, d2, d3, d4] }
  | _ => none }
def SpinCodeWrongFalsely : Prop := spinCodeRow.holds Tryd.pinned (OpenSpec.ofChange spinCodeWrong)

/-- 'quiescentlaw1.ArenaStale': WHATEVER THE INPUT: true; the input reads as it did. -/
def arenaStaleSpec : ChangeSpec := { name := "arenaStale", fn := fun _ => fun
  | [d1, d2] => { results := [.lit (.bool true)], args := [d1, d2] }
  | _ => none }
def arenaStaleRow : OpenClaim := { program := "ytamfbfajlfbooaadoor", sum := "a8ea37ff63eec97b958f84ddb00ba0e98e9486c8ab89e07f368b3664e0045d93", func := "quiescent/quiescentlaw1.ArenaStale", spec := "arenaStale", inPlace := ["internal/reflectlite.ValueOf", "(internal/reflectlite.Value).Type", "(internal/reflectlite.Value).IsNil", "internal/reflectlite.TypeOf", "(internal/reflectlite.Value).Elem", "(internal/reflectlite.Value).Set"], unfollowed := true, recurses := true, named := ["quiescent/api.ErrBound", "quiescent/api.ErrFull", "quiescent/api.ErrStale", "quiescent/api.ErrText", "quiescent/api.ErrShape", "quiescent/api.ErrName", "quiescent/api.ErrNone", "quiescent/api.ErrHeld", "quiescent/api.ErrDone", "errors.errorType"], apart := false, laid := [("errors.errorType", laid_errors_errorType), ("quiescent/api.ErrText", laid_quiescent_api_ErrText), ("quiescent/api.ErrBound", laid_quiescent_api_ErrBound), ("quiescent/api.ErrShape", laid_quiescent_api_ErrShape), ("quiescent/api.ErrName", laid_quiescent_api_ErrName), ("quiescent/api.ErrNone", laid_quiescent_api_ErrNone), ("quiescent/api.ErrFull", laid_quiescent_api_ErrFull), ("quiescent/api.ErrStale", laid_quiescent_api_ErrStale), ("quiescent/api.ErrHeld", laid_quiescent_api_ErrHeld), ("quiescent/api.ErrDone", laid_quiescent_api_ErrDone)] }
def ArenaStaleSaid : Prop := arenaStaleRow.holds Tryd.pinned (OpenSpec.ofChange arenaStaleSpec)

/-- ITS FALSE NEIGHBOUR: 'it returns false'. Refute it at one input. -/
def arenaStaleWrong : ChangeSpec := { name := "arenaStale", fn := fun _ => fun
  | [d1, d2] => { results := [.lit (.bool false)], args := [d1, d2] }
  | _ => none }
def ArenaStaleWrongFalsely : Prop := arenaStaleRow.holds Tryd.pinned (OpenSpec.ofChange arenaStaleWrong)

/-- 'quiescentlaw1.ArenaActs': WHATEVER THE INPUT: true; the input reads as it did. -/
def arenaActsSpec : ChangeSpec := { name := "arenaActs", fn := fun _ => fun
  | [d1, d2] => { results := [.lit (.bool true)], args := [d1, d2] }
  | _ => none }
def arenaActsRow : OpenClaim := { program := "ytamfbfajlfbooaadoor", sum := "a8ea37ff63eec97b958f84ddb00ba0e98e9486c8ab89e07f368b3664e0045d93", func := "quiescent/quiescentlaw1.ArenaActs", spec := "arenaActs", inPlace := ["internal/reflectlite.ValueOf", "(internal/reflectlite.Value).Type", "(internal/reflectlite.Value).IsNil", "internal/reflectlite.TypeOf", "(internal/reflectlite.Value).Elem", "(internal/reflectlite.Value).Set"], unfollowed := true, recurses := true, named := ["quiescent/api.ErrBound", "quiescent/api.ErrFull", "quiescent/api.ErrText", "quiescent/api.ErrShape", "quiescent/api.ErrName", "quiescent/api.ErrNone", "quiescent/api.ErrStale", "quiescent/api.ErrHeld", "quiescent/api.ErrDone", "errors.errorType"], apart := false, laid := [("errors.errorType", laid_errors_errorType), ("quiescent/api.ErrText", laid_quiescent_api_ErrText), ("quiescent/api.ErrBound", laid_quiescent_api_ErrBound), ("quiescent/api.ErrShape", laid_quiescent_api_ErrShape), ("quiescent/api.ErrName", laid_quiescent_api_ErrName), ("quiescent/api.ErrNone", laid_quiescent_api_ErrNone), ("quiescent/api.ErrFull", laid_quiescent_api_ErrFull), ("quiescent/api.ErrStale", laid_quiescent_api_ErrStale), ("quiescent/api.ErrHeld", laid_quiescent_api_ErrHeld), ("quiescent/api.ErrDone", laid_quiescent_api_ErrDone)] }
def ArenaActsSaid : Prop := arenaActsRow.holds Tryd.pinned (OpenSpec.ofChange arenaActsSpec)

/-- ITS FALSE NEIGHBOUR: 'it returns false'. Refute it at one input. -/
def arenaActsWrong : ChangeSpec := { name := "arenaActs", fn := fun _ => fun
  | [d1, d2] => { results := [.lit (.bool false)], args := [d1, d2] }
  | _ => none }
def ArenaActsWrongFalsely : Prop := arenaActsRow.holds Tryd.pinned (OpenSpec.ofChange arenaActsWrong)

/-- 'quiescentlaw2.SpinNamed': WHATEVER THE INPUT: true; the input reads as it did. -/
def spinNamedSpec : ChangeSpec := { name := "spinNamed", fn := fun _ => fun
  | [d1, d2] => { results := [.lit (.bool true)], args := [d1, d2] }
  | _ => none }
def spinNamedRow : OpenClaim := { program := "ytamfbfajlfbooaadoor", sum := "a8ea37ff63eec97b958f84ddb00ba0e98e9486c8ab89e07f368b3664e0045d93", func := "quiescent/quiescentlaw2.SpinNamed", spec := "spinNamed", inPlace := ["internal/reflectlite.ValueOf", "(internal/reflectlite.Value).Type", "(internal/reflectlite.Value).IsNil", "internal/reflectlite.TypeOf", "(internal/reflectlite.Value).Elem", "(internal/reflectlite.Value).Set"], unfollowed := true, recurses := true, named := ["quiescent/api.ErrBound", "quiescent/api.ErrName", "quiescent/api.ErrText", "quiescent/api.ErrShape", "quiescent/api.ErrNone", "quiescent/api.ErrFull", "quiescent/api.ErrStale", "quiescent/api.ErrHeld", "quiescent/api.ErrDone", "errors.errorType"], apart := false, laid := [("errors.errorType", laid_errors_errorType), ("quiescent/api.ErrText", laid_quiescent_api_ErrText), ("quiescent/api.ErrBound", laid_quiescent_api_ErrBound), ("quiescent/api.ErrShape", laid_quiescent_api_ErrShape), ("quiescent/api.ErrName", laid_quiescent_api_ErrName), ("quiescent/api.ErrNone", laid_quiescent_api_ErrNone), ("quiescent/api.ErrFull", laid_quiescent_api_ErrFull), ("quiescent/api.ErrStale", laid_quiescent_api_ErrStale), ("quiescent/api.ErrHeld", laid_quiescent_api_ErrHeld), ("quiescent/api.ErrDone", laid_quiescent_api_ErrDone)] }
def SpinNamedSaid : Prop := spinNamedRow.holds Tryd.pinned (OpenSpec.ofChange spinNamedSpec)

/-- ITS FALSE NEIGHBOUR: 'it returns false'. Refute it at one input. -/
def spinNamedWrong : ChangeSpec := { name := "spinNamed", fn := fun _ => fun
  | [d1, d2] => { results := [.lit (.bool false)], args := [d1, d2] }
  | _ => none }
def SpinNamedWrongFalsely : Prop := spinNamedRow.holds Tryd.pinned (OpenSpec.ofChange spinNamedWrong)

/-- 'quiescentlaw3.QueueCode': WHATEVER THE INPUT: true; the input reads as it did. -/
def queueCodeSpec : ChangeSpec := { name := "queueCode", fn := fun _ => fun
  | [d] => { results := [.lit (.bool true)], args := [d] }
  | _ => none }
def queueCodeRow : OpenClaim := { program := "ytamfbfajlfbooaadoor", sum := "a8ea37ff63eec97b958f84ddb00ba0e98e9486c8ab89e07f368b3664e0045d93", func := "quiescent/quiescentlaw3.QueueCode", spec := "queueCode", inPlace := ["internal/reflectlite.ValueOf", "(internal/reflectlite.Value).Type", "(internal/reflectlite.Value).IsNil", "internal/reflectlite.TypeOf", "(internal/reflectlite.Value).Elem", "(internal/reflectlite.Value).Set"], unfollowed := true, recurses := true, named := ["quiescent/api.ErrName", "quiescent/api.ErrBound", "quiescent/api.ErrText", "quiescent/api.ErrShape", "quiescent/api.ErrNone", "quiescent/api.ErrFull", "quiescent/api.ErrStale", "quiescent/api.ErrHeld", "quiescent/api.ErrDone", "errors.errorType"], apart := false, laid := [("errors.errorType", laid_errors_errorType), ("quiescent/api.ErrText", laid_quiescent_api_ErrText), ("quiescent/api.ErrBound", laid_quiescent_api_ErrBound), ("quiescent/api.ErrShape", laid_quiescent_api_ErrShape), ("quiescent/api.ErrName", laid_quiescent_api_ErrName), ("quiescent/api.ErrNone", laid_quiescent_api_ErrNone), ("quiescent/api.ErrFull", laid_quiescent_api_ErrFull), ("quiescent/api.ErrStale", laid_quiescent_api_ErrStale), ("quiescent/api.ErrHeld", laid_quiescent_api_ErrHeld), ("quiescent/api.ErrDone", laid_quiescent_api_ErrDone)] }
def QueueCodeSaid : Prop := queueCodeRow.holds Tryd.pinned (OpenSpec.ofChange queueCodeSpec)

/-- ITS FALSE NEIGHBOUR: 'it returns false'. Refute it at one input. -/
def queueCodeWrong : ChangeSpec := { name := "queueCode", fn := fun _ => fun
  | [d] => { results := [.lit (.bool false)], args := [d] }
  | _ => none }
def QueueCodeWrongFalsely : Prop := queueCodeRow.holds Tryd.pinned (OpenSpec.ofChange queueCodeWrong)

/-- 'quiescentlaw1.MemoryActs': WHATEVER THE INPUT: true; the input reads as it did. -/
def memoryActsSpec : ChangeSpec := { name := "memoryActs", fn := fun _ => fun
  | [d1, d2, d3] => { results := [.lit (.bool true)], args := [d1, d2, d3] }
  | _ => none }
def memoryActsRow : OpenClaim := { program := "ytamfbfajlfbooaadoor", sum := "a8ea37ff63eec97b958f84ddb00ba0e98e9486c8ab89e07f368b3664e0045d93", func := "quiescent/quiescentlaw1.MemoryActs", spec := "memoryActs", inPlace := ["internal/reflectlite.ValueOf", "(internal/reflectlite.Value).Type", "(internal/reflectlite.Value).IsNil", "internal/reflectlite.TypeOf", "(internal/reflectlite.Value).Elem", "(internal/reflectlite.Value).Set"], unfollowed := true, recurses := true, named := ["quiescent/api.ErrBound", "quiescent/api.ErrFull", "quiescent/api.ErrStale", "quiescent/api.ErrText", "quiescent/api.ErrShape", "quiescent/api.ErrName", "quiescent/api.ErrNone", "quiescent/api.ErrHeld", "quiescent/api.ErrDone", "errors.errorType"], apart := false, laid := [("errors.errorType", laid_errors_errorType), ("quiescent/api.ErrText", laid_quiescent_api_ErrText), ("quiescent/api.ErrBound", laid_quiescent_api_ErrBound), ("quiescent/api.ErrShape", laid_quiescent_api_ErrShape), ("quiescent/api.ErrName", laid_quiescent_api_ErrName), ("quiescent/api.ErrNone", laid_quiescent_api_ErrNone), ("quiescent/api.ErrFull", laid_quiescent_api_ErrFull), ("quiescent/api.ErrStale", laid_quiescent_api_ErrStale), ("quiescent/api.ErrHeld", laid_quiescent_api_ErrHeld), ("quiescent/api.ErrDone", laid_quiescent_api_ErrDone)] }
def MemoryActsSaid : Prop := memoryActsRow.holds Tryd.pinned (OpenSpec.ofChange memoryActsSpec)

/-- ITS FALSE NEIGHBOUR: 'it returns false'. Refute it at one input. -/
def memoryActsWrong : ChangeSpec := { name := "memoryActs", fn := fun _ => fun
  | [d1, d2, d3] => { results := [.lit (.bool false)], args := [d1, d2, d3] }
  | _ => none }
def MemoryActsWrongFalsely : Prop := memoryActsRow.holds Tryd.pinned (OpenSpec.ofChange memoryActsWrong)

/-- 'quiescentlaw2.GraceCode': WHATEVER THE INPUT: true; the input reads as it did. -/
def graceCodeSpec : ChangeSpec := { name := "graceCode", fn := fun _ => fun
  | [d1, d2] => { results := [.lit (.bool true)], args := [d1, d2] }
  | _ => none }
def graceCodeRow : OpenClaim := { program := "ytamfbfajlfbooaadoor", sum := "a8ea37ff63eec97b958f84ddb00ba0e98e9486c8ab89e07f368b3664e0045d93", func := "quiescent/quiescentlaw2.GraceCode", spec := "graceCode", inPlace := ["internal/reflectlite.ValueOf", "(internal/reflectlite.Value).Type", "(internal/reflectlite.Value).IsNil", "internal/reflectlite.TypeOf", "(internal/reflectlite.Value).Elem", "(internal/reflectlite.Value).Set"], unfollowed := true, recurses := true, named := ["quiescent/api.ErrBound", "quiescent/api.ErrName", "quiescent/api.ErrText", "quiescent/api.ErrShape", "quiescent/api.ErrNone", "quiescent/api.ErrFull", "quiescent/api.ErrStale", "quiescent/api.ErrHeld", "quiescent/api.ErrDone", "errors.errorType"], apart := false, laid := [("errors.errorType", laid_errors_errorType), ("quiescent/api.ErrText", laid_quiescent_api_ErrText), ("quiescent/api.ErrBound", laid_quiescent_api_ErrBound), ("quiescent/api.ErrShape", laid_quiescent_api_ErrShape), ("quiescent/api.ErrName", laid_quiescent_api_ErrName), ("quiescent/api.ErrNone", laid_quiescent_api_ErrNone), ("quiescent/api.ErrFull", laid_quiescent_api_ErrFull), ("quiescent/api.ErrStale", laid_quiescent_api_ErrStale), ("quiescent/api.ErrHeld", laid_quiescent_api_ErrHeld), ("quiescent/api.ErrDone", laid_quiescent_api_ErrDone)] }
def GraceCodeSaid : Prop := graceCodeRow.holds Tryd.pinned (OpenSpec.ofChange graceCodeSpec)

/-- ITS FALSE NEIGHBOUR: 'it returns false'. Refute it at one input. -/
def graceCodeWrong : ChangeSpec := { name := "graceCode", fn := fun _ => fun
  | [d1, d2] => { results := [.lit (.bool false)], args := [d1, d2] }
  | _ => none }
def GraceCodeWrongFalsely : Prop := graceCodeRow.holds Tryd.pinned (OpenSpec.ofChange graceCodeWrong)

/- THE SECOND FORM. 'bulk': how many values and letters a reading holds, each counted each time it is reached (what is shared counts as often as it is met; a slice's spare places count too). A statement '..UptoSaid' is the law's where the arguments, and the package variables that the reading takes, are together of bulk at most 1048576: NARROWER than '..Said'. Prove '..Said' where nothing that the law and all that it calls make is longer than what came in: it says more and counts as full. Else prove '..UptoSaid'. A law counts once. -/
mutual
def uptoBulk {H : Type} : DataW H → Nat
  | .lit (.string bytes) => bytes.length + 1
  | .lit _ => 1
  | .nil => 1
  | .ptr d => uptoBulk d + 1
  | .slice elems spare => uptoBulkAll elems + uptoBulkAll spare + 1
  | .agg parts => uptoBulkAll parts + 1
  | .iface _ d => uptoBulk d + 1
  | .map entries => uptoBulkEntries entries + 1
  | .held _ => 1
def uptoBulkAll {H : Type} : List (DataW H) → Nat
  | [] => 0
  | d :: r => uptoBulk d + uptoBulkAll r
def uptoBulkEntries {H : Type} : List (Lit × DataW H) → Nat
  | [] => 0
  | x :: r => uptoBulkEntry x + uptoBulkEntries r
def uptoBulkEntry {H : Type} : Lit × DataW H → Nat
  | (.string bytes, d) => bytes.length + uptoBulk d + 1
  | (_, d) => uptoBulk d + 1
 end
def uptoSmall : (H : Type) → List (DataW H) → Bool := fun _ ds => decide (uptoBulkAll ds ≤ 1048576)
def OpenSpec.upto (s : _root_.Go.ChangeSpec) : _root_.Go.OpenSpec := { _root_.Go.OpenSpec.ofChange s with cond := some uptoSmall }

/-- 'quiescentlaw2.SpinEnds', WHERE WHAT IT READS IS OF BULK AT MOST 1048576: true; the input reads as it did. -/
def spinEndsUptoRow : OpenClaim := { program := "ytamfbfajlfbooaadoor", sum := "a8ea37ff63eec97b958f84ddb00ba0e98e9486c8ab89e07f368b3664e0045d93", func := "quiescent/quiescentlaw2.SpinEnds", spec := "spinEnds", recurses := true, named := ["quiescent/api.ErrBound", "quiescent/api.ErrName"], apart := false, laid := [("quiescent/api.ErrBound", laid_quiescent_api_ErrBound), ("quiescent/api.ErrName", laid_quiescent_api_ErrName)], narrowed := true }
def SpinEndsUptoSaid : Prop := spinEndsUptoRow.holds Tryd.pinned (OpenSpec.upto spinEndsSpec)

/-- 'quiescentlaw2.SpinSafe', WHERE WHAT IT READS IS OF BULK AT MOST 1048576: true; the input reads as it did. -/
def spinSafeUptoRow : OpenClaim := { program := "ytamfbfajlfbooaadoor", sum := "a8ea37ff63eec97b958f84ddb00ba0e98e9486c8ab89e07f368b3664e0045d93", func := "quiescent/quiescentlaw2.SpinSafe", spec := "spinSafe", recurses := true, named := ["quiescent/api.ErrBound", "quiescent/api.ErrName"], apart := false, laid := [("quiescent/api.ErrBound", laid_quiescent_api_ErrBound), ("quiescent/api.ErrName", laid_quiescent_api_ErrName)], narrowed := true }
def SpinSafeUptoSaid : Prop := spinSafeUptoRow.holds Tryd.pinned (OpenSpec.upto spinSafeSpec)

/-- 'quiescentlaw1.MemoryAlone', WHERE WHAT IT READS IS OF BULK AT MOST 1048576: true; the input reads as it did. -/
def memoryAloneUptoRow : OpenClaim := { program := "ytamfbfajlfbooaadoor", sum := "a8ea37ff63eec97b958f84ddb00ba0e98e9486c8ab89e07f368b3664e0045d93", func := "quiescent/quiescentlaw1.MemoryAlone", spec := "memoryAlone", unfollowed := true, recurses := true, named := ["quiescent/api.ErrBound", "quiescent/api.ErrFull", "quiescent/api.ErrStale", "quiescent/api.ErrNone"], apart := false, laid := [("quiescent/api.ErrBound", laid_quiescent_api_ErrBound), ("quiescent/api.ErrNone", laid_quiescent_api_ErrNone), ("quiescent/api.ErrFull", laid_quiescent_api_ErrFull), ("quiescent/api.ErrStale", laid_quiescent_api_ErrStale)], narrowed := true }
def MemoryAloneUptoSaid : Prop := memoryAloneUptoRow.holds Tryd.pinned (OpenSpec.upto memoryAloneSpec)

/-- 'quiescentlaw1.Names', WHERE WHAT IT READS IS OF BULK AT MOST 1048576: true; the input reads as it did. -/
def namesUptoRow : OpenClaim := { program := "ytamfbfajlfbooaadoor", sum := "a8ea37ff63eec97b958f84ddb00ba0e98e9486c8ab89e07f368b3664e0045d93", func := "quiescent/quiescentlaw1.Names", spec := "names", inPlace := ["internal/reflectlite.ValueOf", "(internal/reflectlite.Value).Type", "(internal/reflectlite.Value).IsNil", "internal/reflectlite.TypeOf", "(internal/reflectlite.Value).Elem", "(internal/reflectlite.Value).Set"], unfollowed := true, recurses := true, named := ["quiescent/api.ErrText", "quiescent/api.ErrBound", "quiescent/api.ErrShape", "quiescent/api.ErrName", "quiescent/api.ErrNone", "quiescent/api.ErrFull", "quiescent/api.ErrStale", "quiescent/api.ErrHeld", "quiescent/api.ErrDone", "errors.errorType"], apart := false, laid := [("errors.errorType", laid_errors_errorType), ("quiescent/api.ErrText", laid_quiescent_api_ErrText), ("quiescent/api.ErrBound", laid_quiescent_api_ErrBound), ("quiescent/api.ErrShape", laid_quiescent_api_ErrShape), ("quiescent/api.ErrName", laid_quiescent_api_ErrName), ("quiescent/api.ErrNone", laid_quiescent_api_ErrNone), ("quiescent/api.ErrFull", laid_quiescent_api_ErrFull), ("quiescent/api.ErrStale", laid_quiescent_api_ErrStale), ("quiescent/api.ErrHeld", laid_quiescent_api_ErrHeld), ("quiescent/api.ErrDone", laid_quiescent_api_ErrDone)], narrowed := true }
def NamesUptoSaid : Prop := namesUptoRow.holds Tryd.pinned (OpenSpec.upto namesSpec)

/-- 'quiescentlaw2.GraceBursts', WHERE WHAT IT READS IS OF BULK AT MOST 1048576: true; the input reads as it did. -/
def graceBurstsUptoRow : OpenClaim := { program := "ytamfbfajlfbooaadoor", sum := "a8ea37ff63eec97b958f84ddb00ba0e98e9486c8ab89e07f368b3664e0045d93", func := "quiescent/quiescentlaw2.GraceBursts", spec := "graceBursts", unfollowed := true, recurses := true, named := ["quiescent/api.ErrBound", "quiescent/api.ErrName"], apart := false, laid := [("quiescent/api.ErrBound", laid_quiescent_api_ErrBound), ("quiescent/api.ErrName", laid_quiescent_api_ErrName)], narrowed := true }
def GraceBurstsUptoSaid : Prop := graceBurstsUptoRow.holds Tryd.pinned (OpenSpec.upto graceBurstsSpec)

/-- 'quiescentlaw2.GraceEnds', WHERE WHAT IT READS IS OF BULK AT MOST 1048576: true; the input reads as it did. -/
def graceEndsUptoRow : OpenClaim := { program := "ytamfbfajlfbooaadoor", sum := "a8ea37ff63eec97b958f84ddb00ba0e98e9486c8ab89e07f368b3664e0045d93", func := "quiescent/quiescentlaw2.GraceEnds", spec := "graceEnds", unfollowed := true, recurses := true, named := ["quiescent/api.ErrBound", "quiescent/api.ErrName"], apart := false, laid := [("quiescent/api.ErrBound", laid_quiescent_api_ErrBound), ("quiescent/api.ErrName", laid_quiescent_api_ErrName)], narrowed := true }
def GraceEndsUptoSaid : Prop := graceEndsUptoRow.holds Tryd.pinned (OpenSpec.upto graceEndsSpec)

/-- 'quiescentlaw2.GraceNone', WHERE WHAT IT READS IS OF BULK AT MOST 1048576: true; the input reads as it did. -/
def graceNoneUptoRow : OpenClaim := { program := "ytamfbfajlfbooaadoor", sum := "a8ea37ff63eec97b958f84ddb00ba0e98e9486c8ab89e07f368b3664e0045d93", func := "quiescent/quiescentlaw2.GraceNone", spec := "graceNone", unfollowed := true, recurses := true, named := ["quiescent/api.ErrBound", "quiescent/api.ErrName"], apart := false, laid := [("quiescent/api.ErrBound", laid_quiescent_api_ErrBound), ("quiescent/api.ErrName", laid_quiescent_api_ErrName)], narrowed := true }
def GraceNoneUptoSaid : Prop := graceNoneUptoRow.holds Tryd.pinned (OpenSpec.upto graceNoneSpec)

/-- 'quiescentlaw2.GraceSafe', WHERE WHAT IT READS IS OF BULK AT MOST 1048576: true; the input reads as it did. -/
def graceSafeUptoRow : OpenClaim := { program := "ytamfbfajlfbooaadoor", sum := "a8ea37ff63eec97b958f84ddb00ba0e98e9486c8ab89e07f368b3664e0045d93", func := "quiescent/quiescentlaw2.GraceSafe", spec := "graceSafe", unfollowed := true, recurses := true, named := ["quiescent/api.ErrBound", "quiescent/api.ErrName"], apart := false, laid := [("quiescent/api.ErrBound", laid_quiescent_api_ErrBound), ("quiescent/api.ErrName", laid_quiescent_api_ErrName)], narrowed := true }
def GraceSafeUptoSaid : Prop := graceSafeUptoRow.holds Tryd.pinned (OpenSpec.upto graceSafeSpec)

/-- 'quiescentlaw1.ArenaWords', WHERE WHAT IT READS IS OF BULK AT MOST 1048576: true; the input reads as it did. -/
def arenaWordsUptoRow : OpenClaim := { program := "ytamfbfajlfbooaadoor", sum := "a8ea37ff63eec97b958f84ddb00ba0e98e9486c8ab89e07f368b3664e0045d93", func := "quiescent/quiescentlaw1.ArenaWords", spec := "arenaWords", inPlace := ["internal/reflectlite.ValueOf", "(internal/reflectlite.Value).Type", "(internal/reflectlite.Value).IsNil", "internal/reflectlite.TypeOf", "(internal/reflectlite.Value).Elem", "(internal/reflectlite.Value).Set"], unfollowed := true, recurses := true, named := ["quiescent/api.ErrBound", "quiescent/api.ErrFull", "quiescent/api.ErrText", "quiescent/api.ErrShape", "quiescent/api.ErrName", "quiescent/api.ErrNone", "quiescent/api.ErrStale", "quiescent/api.ErrHeld", "quiescent/api.ErrDone", "errors.errorType"], apart := false, laid := [("errors.errorType", laid_errors_errorType), ("quiescent/api.ErrText", laid_quiescent_api_ErrText), ("quiescent/api.ErrBound", laid_quiescent_api_ErrBound), ("quiescent/api.ErrShape", laid_quiescent_api_ErrShape), ("quiescent/api.ErrName", laid_quiescent_api_ErrName), ("quiescent/api.ErrNone", laid_quiescent_api_ErrNone), ("quiescent/api.ErrFull", laid_quiescent_api_ErrFull), ("quiescent/api.ErrStale", laid_quiescent_api_ErrStale), ("quiescent/api.ErrHeld", laid_quiescent_api_ErrHeld), ("quiescent/api.ErrDone", laid_quiescent_api_ErrDone)], narrowed := true }
def ArenaWordsUptoSaid : Prop := arenaWordsUptoRow.holds Tryd.pinned (OpenSpec.upto arenaWordsSpec)

/-- 'quiescentlaw3.StackCode', WHERE WHAT IT READS IS OF BULK AT MOST 1048576: true; the input reads as it did. -/
def stackCodeUptoRow : OpenClaim := { program := "ytamfbfajlfbooaadoor", sum := "a8ea37ff63eec97b958f84ddb00ba0e98e9486c8ab89e07f368b3664e0045d93", func := "quiescent/quiescentlaw3.StackCode", spec := "stackCode", inPlace := ["internal/reflectlite.ValueOf", "(internal/reflectlite.Value).Type", "(internal/reflectlite.Value).IsNil", "internal/reflectlite.TypeOf", "(internal/reflectlite.Value).Elem", "(internal/reflectlite.Value).Set"], unfollowed := true, recurses := true, named := ["quiescent/api.ErrName", "quiescent/api.ErrText", "quiescent/api.ErrBound", "quiescent/api.ErrShape", "quiescent/api.ErrNone", "quiescent/api.ErrFull", "quiescent/api.ErrStale", "quiescent/api.ErrHeld", "quiescent/api.ErrDone", "errors.errorType"], apart := false, laid := [("errors.errorType", laid_errors_errorType), ("quiescent/api.ErrText", laid_quiescent_api_ErrText), ("quiescent/api.ErrBound", laid_quiescent_api_ErrBound), ("quiescent/api.ErrShape", laid_quiescent_api_ErrShape), ("quiescent/api.ErrName", laid_quiescent_api_ErrName), ("quiescent/api.ErrNone", laid_quiescent_api_ErrNone), ("quiescent/api.ErrFull", laid_quiescent_api_ErrFull), ("quiescent/api.ErrStale", laid_quiescent_api_ErrStale), ("quiescent/api.ErrHeld", laid_quiescent_api_ErrHeld), ("quiescent/api.ErrDone", laid_quiescent_api_ErrDone)], narrowed := true }
def StackCodeUptoSaid : Prop := stackCodeUptoRow.holds Tryd.pinned (OpenSpec.upto stackCodeSpec)

/-- 'quiescentlaw2.SpinCode', WHERE WHAT IT READS IS OF BULK AT MOST 1048576: true; the input reads as it did. -/
def spinCodeUptoRow : OpenClaim := { program := "ytamfbfajlfbooaadoor", sum := "a8ea37ff63eec97b958f84ddb00ba0e98e9486c8ab89e07f368b3664e0045d93", func := "quiescent/quiescentlaw2.SpinCode", spec := "spinCode", inPlace := ["internal/reflectlite.ValueOf", "(internal/reflectlite.Value).Type", "(internal/reflectlite.Value).IsNil", "internal/reflectlite.TypeOf", "(internal/reflectlite.Value).Elem", "(internal/reflectlite.Value).Set"], unfollowed := true, recurses := true, named := ["quiescent/api.ErrBound", "quiescent/api.ErrName", "quiescent/api.ErrText", "quiescent/api.ErrShape", "quiescent/api.ErrNone", "quiescent/api.ErrFull", "quiescent/api.ErrStale", "quiescent/api.ErrHeld", "quiescent/api.ErrDone", "errors.errorType"], apart := false, laid := [("errors.errorType", laid_errors_errorType), ("quiescent/api.ErrText", laid_quiescent_api_ErrText), ("quiescent/api.ErrBound", laid_quiescent_api_ErrBound), ("quiescent/api.ErrShape", laid_quiescent_api_ErrShape), ("quiescent/api.ErrName", laid_quiescent_api_ErrName), ("quiescent/api.ErrNone", laid_quiescent_api_ErrNone), ("quiescent/api.ErrFull", laid_quiescent_api_ErrFull), ("quiescent/api.ErrStale", laid_quiescent_api_ErrStale), ("quiescent/api.ErrHeld", laid_quiescent_api_ErrHeld), ("quiescent/api.ErrDone", laid_quiescent_api_ErrDone)], narrowed := true }
def SpinCodeUptoSaid : Prop := spinCodeUptoRow.holds Tryd.pinned (OpenSpec.upto spinCodeSpec)

/-- 'quiescentlaw1.ArenaStale', WHERE WHAT IT READS IS OF BULK AT MOST 1048576: true; the input reads as it did. -/
def arenaStaleUptoRow : OpenClaim := { program := "ytamfbfajlfbooaadoor", sum := "a8ea37ff63eec97b958f84ddb00ba0e98e9486c8ab89e07f368b3664e0045d93", func := "quiescent/quiescentlaw1.ArenaStale", spec := "arenaStale", inPlace := ["internal/reflectlite.ValueOf", "(internal/reflectlite.Value).Type", "(internal/reflectlite.Value).IsNil", "internal/reflectlite.TypeOf", "(internal/reflectlite.Value).Elem", "(internal/reflectlite.Value).Set"], unfollowed := true, recurses := true, named := ["quiescent/api.ErrBound", "quiescent/api.ErrFull", "quiescent/api.ErrStale", "quiescent/api.ErrText", "quiescent/api.ErrShape", "quiescent/api.ErrName", "quiescent/api.ErrNone", "quiescent/api.ErrHeld", "quiescent/api.ErrDone", "errors.errorType"], apart := false, laid := [("errors.errorType", laid_errors_errorType), ("quiescent/api.ErrText", laid_quiescent_api_ErrText), ("quiescent/api.ErrBound", laid_quiescent_api_ErrBound), ("quiescent/api.ErrShape", laid_quiescent_api_ErrShape), ("quiescent/api.ErrName", laid_quiescent_api_ErrName), ("quiescent/api.ErrNone", laid_quiescent_api_ErrNone), ("quiescent/api.ErrFull", laid_quiescent_api_ErrFull), ("quiescent/api.ErrStale", laid_quiescent_api_ErrStale), ("quiescent/api.ErrHeld", laid_quiescent_api_ErrHeld), ("quiescent/api.ErrDone", laid_quiescent_api_ErrDone)], narrowed := true }
def ArenaStaleUptoSaid : Prop := arenaStaleUptoRow.holds Tryd.pinned (OpenSpec.upto arenaStaleSpec)

/-- 'quiescentlaw1.ArenaActs', WHERE WHAT IT READS IS OF BULK AT MOST 1048576: true; the input reads as it did. -/
def arenaActsUptoRow : OpenClaim := { program := "ytamfbfajlfbooaadoor", sum := "a8ea37ff63eec97b958f84ddb00ba0e98e9486c8ab89e07f368b3664e0045d93", func := "quiescent/quiescentlaw1.ArenaActs", spec := "arenaActs", inPlace := ["internal/reflectlite.ValueOf", "(internal/reflectlite.Value).Type", "(internal/reflectlite.Value).IsNil", "internal/reflectlite.TypeOf", "(internal/reflectlite.Value).Elem", "(internal/reflectlite.Value).Set"], unfollowed := true, recurses := true, named := ["quiescent/api.ErrBound", "quiescent/api.ErrFull", "quiescent/api.ErrText", "quiescent/api.ErrShape", "quiescent/api.ErrName", "quiescent/api.ErrNone", "quiescent/api.ErrStale", "quiescent/api.ErrHeld", "quiescent/api.ErrDone", "errors.errorType"], apart := false, laid := [("errors.errorType", laid_errors_errorType), ("quiescent/api.ErrText", laid_quiescent_api_ErrText), ("quiescent/api.ErrBound", laid_quiescent_api_ErrBound), ("quiescent/api.ErrShape", laid_quiescent_api_ErrShape), ("quiescent/api.ErrName", laid_quiescent_api_ErrName), ("quiescent/api.ErrNone", laid_quiescent_api_ErrNone), ("quiescent/api.ErrFull", laid_quiescent_api_ErrFull), ("quiescent/api.ErrStale", laid_quiescent_api_ErrStale), ("quiescent/api.ErrHeld", laid_quiescent_api_ErrHeld), ("quiescent/api.ErrDone", laid_quiescent_api_ErrDone)], narrowed := true }
def ArenaActsUptoSaid : Prop := arenaActsUptoRow.holds Tryd.pinned (OpenSpec.upto arenaActsSpec)

/-- 'quiescentlaw2.SpinNamed', WHERE WHAT IT READS IS OF BULK AT MOST 1048576: true; the input reads as it did. -/
def spinNamedUptoRow : OpenClaim := { program := "ytamfbfajlfbooaadoor", sum := "a8ea37ff63eec97b958f84ddb00ba0e98e9486c8ab89e07f368b3664e0045d93", func := "quiescent/quiescentlaw2.SpinNamed", spec := "spinNamed", inPlace := ["internal/reflectlite.ValueOf", "(internal/reflectlite.Value).Type", "(internal/reflectlite.Value).IsNil", "internal/reflectlite.TypeOf", "(internal/reflectlite.Value).Elem", "(internal/reflectlite.Value).Set"], unfollowed := true, recurses := true, named := ["quiescent/api.ErrBound", "quiescent/api.ErrName", "quiescent/api.ErrText", "quiescent/api.ErrShape", "quiescent/api.ErrNone", "quiescent/api.ErrFull", "quiescent/api.ErrStale", "quiescent/api.ErrHeld", "quiescent/api.ErrDone", "errors.errorType"], apart := false, laid := [("errors.errorType", laid_errors_errorType), ("quiescent/api.ErrText", laid_quiescent_api_ErrText), ("quiescent/api.ErrBound", laid_quiescent_api_ErrBound), ("quiescent/api.ErrShape", laid_quiescent_api_ErrShape), ("quiescent/api.ErrName", laid_quiescent_api_ErrName), ("quiescent/api.ErrNone", laid_quiescent_api_ErrNone), ("quiescent/api.ErrFull", laid_quiescent_api_ErrFull), ("quiescent/api.ErrStale", laid_quiescent_api_ErrStale), ("quiescent/api.ErrHeld", laid_quiescent_api_ErrHeld), ("quiescent/api.ErrDone", laid_quiescent_api_ErrDone)], narrowed := true }
def SpinNamedUptoSaid : Prop := spinNamedUptoRow.holds Tryd.pinned (OpenSpec.upto spinNamedSpec)

/-- 'quiescentlaw3.QueueCode', WHERE WHAT IT READS IS OF BULK AT MOST 1048576: true; the input reads as it did. -/
def queueCodeUptoRow : OpenClaim := { program := "ytamfbfajlfbooaadoor", sum := "a8ea37ff63eec97b958f84ddb00ba0e98e9486c8ab89e07f368b3664e0045d93", func := "quiescent/quiescentlaw3.QueueCode", spec := "queueCode", inPlace := ["internal/reflectlite.ValueOf", "(internal/reflectlite.Value).Type", "(internal/reflectlite.Value).IsNil", "internal/reflectlite.TypeOf", "(internal/reflectlite.Value).Elem", "(internal/reflectlite.Value).Set"], unfollowed := true, recurses := true, named := ["quiescent/api.ErrName", "quiescent/api.ErrBound", "quiescent/api.ErrText", "quiescent/api.ErrShape", "quiescent/api.ErrNone", "quiescent/api.ErrFull", "quiescent/api.ErrStale", "quiescent/api.ErrHeld", "quiescent/api.ErrDone", "errors.errorType"], apart := false, laid := [("errors.errorType", laid_errors_errorType), ("quiescent/api.ErrText", laid_quiescent_api_ErrText), ("quiescent/api.ErrBound", laid_quiescent_api_ErrBound), ("quiescent/api.ErrShape", laid_quiescent_api_ErrShape), ("quiescent/api.ErrName", laid_quiescent_api_ErrName), ("quiescent/api.ErrNone", laid_quiescent_api_ErrNone), ("quiescent/api.ErrFull", laid_quiescent_api_ErrFull), ("quiescent/api.ErrStale", laid_quiescent_api_ErrStale), ("quiescent/api.ErrHeld", laid_quiescent_api_ErrHeld), ("quiescent/api.ErrDone", laid_quiescent_api_ErrDone)], narrowed := true }
def QueueCodeUptoSaid : Prop := queueCodeUptoRow.holds Tryd.pinned (OpenSpec.upto queueCodeSpec)

/-- 'quiescentlaw1.MemoryActs', WHERE WHAT IT READS IS OF BULK AT MOST 1048576: true; the input reads as it did. -/
def memoryActsUptoRow : OpenClaim := { program := "ytamfbfajlfbooaadoor", sum := "a8ea37ff63eec97b958f84ddb00ba0e98e9486c8ab89e07f368b3664e0045d93", func := "quiescent/quiescentlaw1.MemoryActs", spec := "memoryActs", inPlace := ["internal/reflectlite.ValueOf", "(internal/reflectlite.Value).Type", "(internal/reflectlite.Value).IsNil", "internal/reflectlite.TypeOf", "(internal/reflectlite.Value).Elem", "(internal/reflectlite.Value).Set"], unfollowed := true, recurses := true, named := ["quiescent/api.ErrBound", "quiescent/api.ErrFull", "quiescent/api.ErrStale", "quiescent/api.ErrText", "quiescent/api.ErrShape", "quiescent/api.ErrName", "quiescent/api.ErrNone", "quiescent/api.ErrHeld", "quiescent/api.ErrDone", "errors.errorType"], apart := false, laid := [("errors.errorType", laid_errors_errorType), ("quiescent/api.ErrText", laid_quiescent_api_ErrText), ("quiescent/api.ErrBound", laid_quiescent_api_ErrBound), ("quiescent/api.ErrShape", laid_quiescent_api_ErrShape), ("quiescent/api.ErrName", laid_quiescent_api_ErrName), ("quiescent/api.ErrNone", laid_quiescent_api_ErrNone), ("quiescent/api.ErrFull", laid_quiescent_api_ErrFull), ("quiescent/api.ErrStale", laid_quiescent_api_ErrStale), ("quiescent/api.ErrHeld", laid_quiescent_api_ErrHeld), ("quiescent/api.ErrDone", laid_quiescent_api_ErrDone)], narrowed := true }
def MemoryActsUptoSaid : Prop := memoryActsUptoRow.holds Tryd.pinned (OpenSpec.upto memoryActsSpec)

/-- 'quiescentlaw2.GraceCode', WHERE WHAT IT READS IS OF BULK AT MOST 1048576: true; the input reads as it did. -/
def graceCodeUptoRow : OpenClaim := { program := "ytamfbfajlfbooaadoor", sum := "a8ea37ff63eec97b958f84ddb00ba0e98e9486c8ab89e07f368b3664e0045d93", func := "quiescent/quiescentlaw2.GraceCode", spec := "graceCode", inPlace := ["internal/reflectlite.ValueOf", "(internal/reflectlite.Value).Type", "(internal/reflectlite.Value).IsNil", "internal/reflectlite.TypeOf", "(internal/reflectlite.Value).Elem", "(internal/reflectlite.Value).Set"], unfollowed := true, recurses := true, named := ["quiescent/api.ErrBound", "quiescent/api.ErrName", "quiescent/api.ErrText", "quiescent/api.ErrShape", "quiescent/api.ErrNone", "quiescent/api.ErrFull", "quiescent/api.ErrStale", "quiescent/api.ErrHeld", "quiescent/api.ErrDone", "errors.errorType"], apart := false, laid := [("errors.errorType", laid_errors_errorType), ("quiescent/api.ErrText", laid_quiescent_api_ErrText), ("quiescent/api.ErrBound", laid_quiescent_api_ErrBound), ("quiescent/api.ErrShape", laid_quiescent_api_ErrShape), ("quiescent/api.ErrName", laid_quiescent_api_ErrName), ("quiescent/api.ErrNone", laid_quiescent_api_ErrNone), ("quiescent/api.ErrFull", laid_quiescent_api_ErrFull), ("quiescent/api.ErrStale", laid_quiescent_api_ErrStale), ("quiescent/api.ErrHeld", laid_quiescent_api_ErrHeld), ("quiescent/api.ErrDone", laid_quiescent_api_ErrDone)], narrowed := true }
def GraceCodeUptoSaid : Prop := graceCodeUptoRow.holds Tryd.pinned (OpenSpec.upto graceCodeSpec)

end Rows
end Go.Proofs.YtamfbfajlfbooaaDoor
