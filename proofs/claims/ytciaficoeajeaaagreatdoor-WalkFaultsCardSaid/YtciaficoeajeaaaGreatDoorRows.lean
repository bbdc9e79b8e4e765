/-
  NARROWER THAN 'FOR EVERY INPUT', by the rows' own cells (each row's printed sentence says how): MachSteps: laid · MachRuns: laid · WalkAll: laid · WalkFaults: laid · WalkSees: laid.
  DERIVED. THE GIVEN ROWS OF THIS SEAT. 5 by the template 'for every input the law returns true; each argument reads behind the call as it read before'; 0 by the template 'total and deterministic' (their statements: YtciaficoeajeaaaGreatDoorTotals.lean).
  GIVEN WITH THE SEED: the statements are not yours to turn. If you find one false, say at which input.
  Laid BY PROGRAM, IN A SANDBOX (cutbox-rows.mjs): the forced cells as the released guide's own fill.sh prints them over the translation df08fa59928ed3a5… (all of the seat's roots in one cut). By AI agents, Wed Nov 11 2026. No macro, syntax, notation, axiom, sorry.
-/
import Derived.Test.YtciaficoeajeaaaGreatDoorChecked
import GoSem.Claim
import GoSem.ClaimJoined
import GoSem.ClaimMapViews
import Derived.JoinedTies
import Derived.KernelRfl
namespace Go.Proofs.YtciaficoeajeaaaGreatDoor
/- THE CELL 'sum', in the pinned program and in every row, IS THE sha256 OF THE DUMP (.gsa) THAT YtciaficoeajeaaaGreatDoorProg.lean LOADS. Nothing in Lean hashes anything: it is a label: what it is worth is what the hold of that sum in a sandbox is worth. -/
noncomputable def Tryz.pinned : Pinned := { name := "ytciaficoeajeaaagreatdoor", sum := "df08fa59928ed3a522f9c1c4cbc431563007e09151cb8cc73f23855185c44fcb", checked := Tryz.checked }
namespace Rows
def none {H : Type} : Left H := { results := [], args := [] }

/- WHAT THE LISTED PACKAGE-LEVEL VARIABLES READ AS WHEN THE CALL BEGINS. Each datum BY PROGRAM (the guide's laid-datum.mjs) off the statement by which the dump's own 'gosem.cut.vars' lays the variable. In a bare row this is a premise. The card (YtciaficoeajeaaaGreatDoorCards.lean) ties it to the program's text. -/
def laid_errors_errorType {H : Type} : DataW H := .iface "internal/reflectlite.rtype" (.agg [.ptr (.lit (.string [101, 114, 114, 111, 114]))])
def laid_quiescent_api_ErrText {H : Type} : DataW H := .iface "*errors.errorString" (.ptr (.agg [.lit (.string [113, 117, 105, 101, 115, 99, 101, 110, 116, 58, 32, 116, 101, 120, 116])]))
def laid_quiescent_api_ErrBound {H : Type} : DataW H := .iface "*errors.errorString" (.ptr (.agg [.lit (.string [113, 117, 105, 101, 115, 99, 101, 110, 116, 58, 32, 98, 111, 117, 110, 100])]))
def laid_quiescent_api_ErrShape {H : Type} : DataW H := .iface "*errors.errorString" (.ptr (.agg [.lit (.string [113, 117, 105, 101, 115, 99, 101, 110, 116, 58, 32, 115, 104, 97, 112, 101])]))
def laid_quiescent_api_ErrName {H : Type} : DataW H := .iface "*errors.errorString" (.ptr (.agg [.lit (.string [113, 117, 105, 101, 115, 99, 101, 110, 116, 58, 32, 110, 97, 109, 101])]))
def laid_quiescent_api_ErrNone {H : Type} : DataW H := .iface "*errors.errorString" (.ptr (.agg [.lit (.string [113, 117, 105, 101, 115, 99, 101, 110, 116, 58, 32, 110, 111, 110, 101])]))
def laid_quiescent_api_ErrFull {H : Type} : DataW H := .iface "*errors.errorString" (.ptr (.agg [.lit (.string [113, 117, 105, 101, 115, 99, 101, 110, 116, 58, 32, 102, 117, 108, 108])]))
def laid_quiescent_api_ErrStale {H : Type} : DataW H := .iface "*errors.errorString" (.ptr (.agg [.lit (.string [113, 117, 105, 101, 115, 99, 101, 110, 116, 58, 32, 115, 116, 97, 108, 101])]))
def laid_quiescent_api_ErrHeld {H : Type} : DataW H := .iface "*errors.errorString" (.ptr (.agg [.lit (.string [113, 117, 105, 101, 115, 99, 101, 110, 116, 58, 32, 104, 101, 108, 100])]))
def laid_quiescent_api_ErrDone {H : Type} : DataW H := .iface "*errors.errorString" (.ptr (.agg [.lit (.string [113, 117, 105, 101, 115, 99, 101, 110, 116, 58, 32, 100, 111, 110, 101])]))

/-- 'quiescentlaw1.MachSteps': WHATEVER THE INPUT: true; the input reads as it did. -/
def machStepsSpec : ChangeSpec := { name := "machSteps", fn := fun _ => fun
  | [d1, d2, d3, d4, d5] => { results := [.lit (.bool true)], args := [d1, d2, d3, d4, d5] }
  | _ => none }
def machStepsRow : OpenClaim := { program := "ytciaficoeajeaaagreatdoor", sum := "df08fa59928ed3a522f9c1c4cbc431563007e09151cb8cc73f23855185c44fcb", func := "quiescent/quiescentlaw1.MachSteps", spec := "machSteps", inPlace := ["internal/reflectlite.ValueOf", "(internal/reflectlite.Value).Type", "(internal/reflectlite.Value).IsNil", "internal/reflectlite.TypeOf", "(internal/reflectlite.Value).Elem", "(internal/reflectlite.Value).Set"], unfollowed := true, recurses := true, named := ["quiescent/api.ErrBound", "quiescent/api.ErrName", "quiescent/api.ErrNone", "quiescent/api.ErrShape", "errors.errorType", "quiescent/api.ErrFull", "quiescent/api.ErrStale", "quiescent/api.ErrDone", "quiescent/api.ErrText", "quiescent/api.ErrHeld"], apart := false, laid := [("errors.errorType", laid_errors_errorType), ("quiescent/api.ErrText", laid_quiescent_api_ErrText), ("quiescent/api.ErrBound", laid_quiescent_api_ErrBound), ("quiescent/api.ErrShape", laid_quiescent_api_ErrShape), ("quiescent/api.ErrName", laid_quiescent_api_ErrName), ("quiescent/api.ErrNone", laid_quiescent_api_ErrNone), ("quiescent/api.ErrFull", laid_quiescent_api_ErrFull), ("quiescent/api.ErrStale", laid_quiescent_api_ErrStale), ("quiescent/api.ErrHeld", laid_quiescent_api_ErrHeld), ("quiescent/api.ErrDone", laid_quiescent_api_ErrDone)] }
def MachStepsSaid : Prop := machStepsRow.holds Tryz.pinned (OpenSpec.ofChange machStepsSpec)

/-- ITS FALSE NEIGHBOUR: 'it returns false'. Refute it at one input. -/
def machStepsWrong : ChangeSpec := { name := "machSteps", fn := fun _ => fun
  | [d1, d2, d3, d4, d5] => { results := [.lit (.bool false)], args := [d1, d2, d3, d4, d5] }
  | _ => none }
def MachStepsWrongFalsely : Prop := machStepsRow.holds Tryz.pinned (OpenSpec.ofChange machStepsWrong)

/-- 'quiescentlaw1.MachRuns': WHATEVER THE INPUT: true; the input reads as it did. -/
def machRunsSpec : ChangeSpec := { name := "machRuns", fn := fun _ => fun
  | [d1, d2, d3] => { results := [.lit (.bool true)], args := [d1, d2, d3] }
  | _ => none }
def machRunsRow : OpenClaim := { program := "ytciaficoeajeaaagreatdoor", sum := "df08fa59928ed3a522f9c1c4cbc431563007e09151cb8cc73f23855185c44fcb", func := "quiescent/quiescentlaw1.MachRuns", spec := "machRuns", inPlace := ["internal/reflectlite.ValueOf", "(internal/reflectlite.Value).Type", "(internal/reflectlite.Value).IsNil", "internal/reflectlite.TypeOf", "(internal/reflectlite.Value).Elem", "(internal/reflectlite.Value).Set"], unfollowed := true, recurses := true, named := ["quiescent/api.ErrBound", "quiescent/api.ErrName", "quiescent/api.ErrNone", "quiescent/api.ErrShape", "errors.errorType", "quiescent/api.ErrFull", "quiescent/api.ErrStale", "quiescent/api.ErrDone", "quiescent/api.ErrText", "quiescent/api.ErrHeld"], apart := false, laid := [("errors.errorType", laid_errors_errorType), ("quiescent/api.ErrText", laid_quiescent_api_ErrText), ("quiescent/api.ErrBound", laid_quiescent_api_ErrBound), ("quiescent/api.ErrShape", laid_quiescent_api_ErrShape), ("quiescent/api.ErrName", laid_quiescent_api_ErrName), ("quiescent/api.ErrNone", laid_quiescent_api_ErrNone), ("quiescent/api.ErrFull", laid_quiescent_api_ErrFull), ("quiescent/api.ErrStale", laid_quiescent_api_ErrStale), ("quiescent/api.ErrHeld", laid_quiescent_api_ErrHeld), ("quiescent/api.ErrDone", laid_quiescent_api_ErrDone)] }
def MachRunsSaid : Prop := machRunsRow.holds Tryz.pinned (OpenSpec.ofChange machRunsSpec)

/-- ITS FALSE NEIGHBOUR: 'it returns false'. Refute it at one input. -/
def machRunsWrong : ChangeSpec := { name := "machRuns", fn := fun _ => fun
  | [d1, d2, d3] => { results := [.lit (.bool false)], args := [d1, d2, d3] }
  | _ => none }
def MachRunsWrongFalsely : Prop := machRunsRow.holds Tryz.pinned (OpenSpec.ofChange machRunsWrong)

/-- 'quiescentlaw1.WalkAll': WHATEVER THE INPUT: true; the input reads as it did. -/
def walkAllSpec : ChangeSpec := { name := "walkAll", fn := fun _ => fun
  | [d1, d2, d3] => { results := [.lit (.bool true)], args := [d1, d2, d3] }
  | _ => none }
def walkAllRow : OpenClaim := { program := "ytciaficoeajeaaagreatdoor", sum := "df08fa59928ed3a522f9c1c4cbc431563007e09151cb8cc73f23855185c44fcb", func := "quiescent/quiescentlaw1.WalkAll", spec := "walkAll", inPlace := ["internal/reflectlite.ValueOf", "(internal/reflectlite.Value).Type", "(internal/reflectlite.Value).IsNil", "internal/reflectlite.TypeOf", "(internal/reflectlite.Value).Elem", "(internal/reflectlite.Value).Set"], unfollowed := true, recurses := true, named := ["quiescent/api.ErrBound", "quiescent/api.ErrName", "quiescent/api.ErrNone", "quiescent/api.ErrShape", "errors.errorType", "quiescent/api.ErrFull", "quiescent/api.ErrStale", "quiescent/api.ErrDone", "quiescent/api.ErrText", "quiescent/api.ErrHeld"], apart := false, laid := [("errors.errorType", laid_errors_errorType), ("quiescent/api.ErrText", laid_quiescent_api_ErrText), ("quiescent/api.ErrBound", laid_quiescent_api_ErrBound), ("quiescent/api.ErrShape", laid_quiescent_api_ErrShape), ("quiescent/api.ErrName", laid_quiescent_api_ErrName), ("quiescent/api.ErrNone", laid_quiescent_api_ErrNone), ("quiescent/api.ErrFull", laid_quiescent_api_ErrFull), ("quiescent/api.ErrStale", laid_quiescent_api_ErrStale), ("quiescent/api.ErrHeld", laid_quiescent_api_ErrHeld), ("quiescent/api.ErrDone", laid_quiescent_api_ErrDone)] }
def WalkAllSaid : Prop := walkAllRow.holds Tryz.pinned (OpenSpec.ofChange walkAllSpec)

/-- ITS FALSE NEIGHBOUR: 'it returns false'. Refute it at one input. -/
def walkAllWrong : ChangeSpec := { name := "walkAll", fn := fun _ => fun
  | [d1, d2, d3] => { results := [.lit (.bool false)], args := [d1, d2, d3] }
  | _ => none }
def WalkAllWrongFalsely : Prop := walkAllRow.holds Tryz.pinned (OpenSpec.ofChange walkAllWrong)

/-- 'quiescentlaw1.WalkFaults': WHATEVER THE INPUT: true; the input reads as it did. -/
def walkFaultsSpec : ChangeSpec := { name := "walkFaults", fn := fun _ => fun
  | [d1, d2, d3] => { results := [.lit (.bool true)], args := [d1, d2, d3] }
  | _ => none }
def walkFaultsRow : OpenClaim := { program := "ytciaficoeajeaaagreatdoor", sum := "df08fa59928ed3a522f9c1c4cbc431563007e09151cb8cc73f23855185c44fcb", func := "quiescent/quiescentlaw1.WalkFaults", spec := "walkFaults", inPlace := ["internal/reflectlite.ValueOf", "(internal/reflectlite.Value).Type", "(internal/reflectlite.Value).IsNil", "internal/reflectlite.TypeOf", "(internal/reflectlite.Value).Elem", "(internal/reflectlite.Value).Set"], unfollowed := true, recurses := true, named := ["quiescent/api.ErrBound", "quiescent/api.ErrName", "quiescent/api.ErrNone", "quiescent/api.ErrShape", "errors.errorType", "quiescent/api.ErrFull", "quiescent/api.ErrStale", "quiescent/api.ErrDone"], apart := false, laid := [("errors.errorType", laid_errors_errorType), ("quiescent/api.ErrBound", laid_quiescent_api_ErrBound), ("quiescent/api.ErrShape", laid_quiescent_api_ErrShape), ("quiescent/api.ErrName", laid_quiescent_api_ErrName), ("quiescent/api.ErrNone", laid_quiescent_api_ErrNone), ("quiescent/api.ErrFull", laid_quiescent_api_ErrFull), ("quiescent/api.ErrStale", laid_quiescent_api_ErrStale), ("quiescent/api.ErrDone", laid_quiescent_api_ErrDone)] }
def WalkFaultsSaid : Prop := walkFaultsRow.holds Tryz.pinned (OpenSpec.ofChange walkFaultsSpec)

/-- ITS FALSE NEIGHBOUR: 'it returns false'. Refute it at one input. -/
def walkFaultsWrong : ChangeSpec := { name := "walkFaults", fn := fun _ => fun
  | [d1, d2, d3] => { results := [.lit (.bool false)], args := [d1, d2, d3] }
  | _ => none }
def WalkFaultsWrongFalsely : Prop := walkFaultsRow.holds Tryz.pinned (OpenSpec.ofChange walkFaultsWrong)

/-- 'quiescentlaw1.WalkSees': WHATEVER THE INPUT: true; the input reads as it did. -/
def walkSeesSpec : ChangeSpec := { name := "walkSees", fn := fun _ => fun
  | [d1, d2] => { results := [.lit (.bool true)], args := [d1, d2] }
  | _ => none }
def walkSeesRow : OpenClaim := { program := "ytciaficoeajeaaagreatdoor", sum := "df08fa59928ed3a522f9c1c4cbc431563007e09151cb8cc73f23855185c44fcb", func := "quiescent/quiescentlaw1.WalkSees", spec := "walkSees", inPlace := ["internal/reflectlite.ValueOf", "(internal/reflectlite.Value).Type", "(internal/reflectlite.Value).IsNil", "internal/reflectlite.TypeOf", "(internal/reflectlite.Value).Elem", "(internal/reflectlite.Value).Set"], unfollowed := true, recurses := true, named := ["quiescent/api.ErrBound", "quiescent/api.ErrName", "quiescent/api.ErrNone", "quiescent/api.ErrShape", "errors.errorType", "quiescent/api.ErrFull", "quiescent/api.ErrStale", "quiescent/api.ErrDone"], apart := false, laid := [("errors.errorType", laid_errors_errorType), ("quiescent/api.ErrBound", laid_quiescent_api_ErrBound), ("quiescent/api.ErrShape", laid_quiescent_api_ErrShape), ("quiescent/api.ErrName", laid_quiescent_api_ErrName), ("quiescent/api.ErrNone", laid_quiescent_api_ErrNone), ("quiescent/api.ErrFull", laid_quiescent_api_ErrFull), ("quiescent/api.ErrStale", laid_quiescent_api_ErrStale), ("quiescent/api.ErrDone", laid_quiescent_api_ErrDone)] }
def WalkSeesSaid : Prop := walkSeesRow.holds Tryz.pinned (OpenSpec.ofChange walkSeesSpec)

/-- ITS FALSE NEIGHBOUR: 'it returns false'. Refute it at one input. -/
def walkSeesWrong : ChangeSpec := { name := "walkSees", fn := fun _ => fun
  | [d1, d2] => { results := [.lit (.bool false)], args := [d1, d2] }
  | _ => none }
def WalkSeesWrongFalsely : Prop := walkSeesRow.holds Tryz.pinned (OpenSpec.ofChange walkSeesWrong)

/- THE SECOND FORM. 'bulk': how many values and letters a reading holds, each counted each time it is reached (what is shared counts as often as it is met; a slice's spare places count too). A statement '..UptoSaid' is the law's where the arguments, and the package variables that the reading takes, are together of bulk at most 1048576: NARROWER than '..Said'. Prove '..Said' where nothing that the law and all that it calls make is longer than what came in: it says more and counts as full. Else prove '..UptoSaid'. A law counts once. -/
mutual
def uptoBulk {H : Type} : DataW H → Nat
  | .lit (.string bytes) => bytes.length + 1
  | .lit _ => 1
  | .nil => 1
  | .ptr d => uptoBulk d + 1
  | .slice elems spare => uptoBulkAll elems + uptoBulkAll spare + 1
  | .agg parts => uptoBulkAll parts + 1
  | .iface _ d => uptoBulk d + 1
  | .map entries => uptoBulkEntries entries + 1
  | .held _ => 1
def uptoBulkAll {H : Type} : List (DataW H) → Nat
  | [] => 0
  | d :: r => uptoBulk d + uptoBulkAll r
def uptoBulkEntries {H : Type} : List (Lit × DataW H) → Nat
  | [] => 0
  | x :: r => uptoBulkEntry x + uptoBulkEntries r
def uptoBulkEntry {H : Type} : Lit × DataW H → Nat
  | (.string bytes, d) => bytes.length + uptoBulk d + 1
  | (_, d) => uptoBulk d + 1
 end
def uptoSmall : (H : Type) → List (DataW H) → Bool := fun _ ds => decide (uptoBulkAll ds ≤ 1048576)
def OpenSpec.upto (s : _root_.Go.ChangeSpec) : _root_.Go.OpenSpec := { _root_.Go.OpenSpec.ofChange s with cond := some uptoSmall }

/-- 'quiescentlaw1.MachSteps', WHERE WHAT IT READS IS OF BULK AT MOST 1048576: true; the input reads as it did. -/
def machStepsUptoRow : OpenClaim := { program := "ytciaficoeajeaaagreatdoor", sum := "df08fa59928ed3a522f9c1c4cbc431563007e09151cb8cc73f23855185c44fcb", func := "quiescent/quiescentlaw1.MachSteps", spec := "machSteps", inPlace := ["internal/reflectlite.ValueOf", "(internal/reflectlite.Value).Type", "(internal/reflectlite.Value).IsNil", "internal/reflectlite.TypeOf", "(internal/reflectlite.Value).Elem", "(internal/reflectlite.Value).Set"], unfollowed := true, recurses := true, named := ["quiescent/api.ErrBound", "quiescent/api.ErrName", "quiescent/api.ErrNone", "quiescent/api.ErrShape", "errors.errorType", "quiescent/api.ErrFull", "quiescent/api.ErrStale", "quiescent/api.ErrDone", "quiescent/api.ErrText", "quiescent/api.ErrHeld"], apart := false, laid := [("errors.errorType", laid_errors_errorType), ("quiescent/api.ErrText", laid_quiescent_api_ErrText), ("quiescent/api.ErrBound", laid_quiescent_api_ErrBound), ("quiescent/api.ErrShape", laid_quiescent_api_ErrShape), ("quiescent/api.ErrName", laid_quiescent_api_ErrName), ("quiescent/api.ErrNone", laid_quiescent_api_ErrNone), ("quiescent/api.ErrFull", laid_quiescent_api_ErrFull), ("quiescent/api.ErrStale", laid_quiescent_api_ErrStale), ("quiescent/api.ErrHeld", laid_quiescent_api_ErrHeld), ("quiescent/api.ErrDone", laid_quiescent_api_ErrDone)], narrowed := true }
def MachStepsUptoSaid : Prop := machStepsUptoRow.holds Tryz.pinned (OpenSpec.upto machStepsSpec)

/-- 'quiescentlaw1.MachRuns', WHERE WHAT IT READS IS OF BULK AT MOST 1048576: true; the input reads as it did. -/
def machRunsUptoRow : OpenClaim := { program := "ytciaficoeajeaaagreatdoor", sum := "df08fa59928ed3a522f9c1c4cbc431563007e09151cb8cc73f23855185c44fcb", func := "quiescent/quiescentlaw1.MachRuns", spec := "machRuns", inPlace := ["internal/reflectlite.ValueOf", "(internal/reflectlite.Value).Type", "(internal/reflectlite.Value).IsNil", "internal/reflectlite.TypeOf", "(internal/reflectlite.Value).Elem", "(internal/reflectlite.Value).Set"], unfollowed := true, recurses := true, named := ["quiescent/api.ErrBound", "quiescent/api.ErrName", "quiescent/api.ErrNone", "quiescent/api.ErrShape", "errors.errorType", "quiescent/api.ErrFull", "quiescent/api.ErrStale", "quiescent/api.ErrDone", "quiescent/api.ErrText", "quiescent/api.ErrHeld"], apart := false, laid := [("errors.errorType", laid_errors_errorType), ("quiescent/api.ErrText", laid_quiescent_api_ErrText), ("quiescent/api.ErrBound", laid_quiescent_api_ErrBound), ("quiescent/api.ErrShape", laid_quiescent_api_ErrShape), ("quiescent/api.ErrName", laid_quiescent_api_ErrName), ("quiescent/api.ErrNone", laid_quiescent_api_ErrNone), ("quiescent/api.ErrFull", laid_quiescent_api_ErrFull), ("quiescent/api.ErrStale", laid_quiescent_api_ErrStale), ("quiescent/api.ErrHeld", laid_quiescent_api_ErrHeld), ("quiescent/api.ErrDone", laid_quiescent_api_ErrDone)], narrowed := true }
def MachRunsUptoSaid : Prop := machRunsUptoRow.holds Tryz.pinned (OpenSpec.upto machRunsSpec)

/-- 'quiescentlaw1.WalkAll', WHERE WHAT IT READS IS OF BULK AT MOST 1048576: true; the input reads as it did. -/
def walkAllUptoRow : OpenClaim := { program := "ytciaficoeajeaaagreatdoor", sum := "df08fa59928ed3a522f9c1c4cbc431563007e09151cb8cc73f23855185c44fcb", func := "quiescent/quiescentlaw1.WalkAll", spec := "walkAll", inPlace := ["internal/reflectlite.ValueOf", "(internal/reflectlite.Value).Type", "(internal/reflectlite.Value).IsNil", "internal/reflectlite.TypeOf", "(internal/reflectlite.Value).Elem", "(internal/reflectlite.Value).Set"], unfollowed := true, recurses := true, named := ["quiescent/api.ErrBound", "quiescent/api.ErrName", "quiescent/api.ErrNone", "quiescent/api.ErrShape", "errors.errorType", "quiescent/api.ErrFull", "quiescent/api.ErrStale", "quiescent/api.ErrDone", "quiescent/api.ErrText", "quiescent/api.ErrHeld"], apart := false, laid := [("errors.errorType", laid_errors_errorType), ("quiescent/api.ErrText", laid_quiescent_api_ErrText), ("quiescent/api.ErrBound", laid_quiescent_api_ErrBound), ("quiescent/api.ErrShape", laid_quiescent_api_ErrShape), ("quiescent/api.ErrName", laid_quiescent_api_ErrName), ("quiescent/api.ErrNone", laid_quiescent_api_ErrNone), ("quiescent/api.ErrFull", laid_quiescent_api_ErrFull), ("quiescent/api.ErrStale", laid_quiescent_api_ErrStale), ("quiescent/api.ErrHeld", laid_quiescent_api_ErrHeld), ("quiescent/api.ErrDone", laid_quiescent_api_ErrDone)], narrowed := true }
def WalkAllUptoSaid : Prop := walkAllUptoRow.holds Tryz.pinned (OpenSpec.upto walkAllSpec)

/-- 'quiescentlaw1.WalkFaults', WHERE WHAT IT READS IS OF BULK AT MOST 1048576: true; the input reads as it did. -/
def walkFaultsUptoRow : OpenClaim := { program := "ytciaficoeajeaaagreatdoor", sum := "df08fa59928ed3a522f9c1c4cbc431563007e09151cb8cc73f23855185c44fcb", func := "quiescent/quiescentlaw1.WalkFaults", spec := "walkFaults", inPlace := ["internal/reflectlite.ValueOf", "(internal/reflectlite.Value).Type", "(internal/reflectlite.Value).IsNil", "internal/reflectlite.TypeOf", "(internal/reflectlite.Value).Elem", "(internal/reflectlite.Value).Set"], unfollowed := true, recurses := true, named := ["quiescent/api.ErrBound", "quiescent/api.ErrName", "quiescent/api.ErrNone", "quiescent/api.ErrShape", "errors.errorType", "quiescent/api.ErrFull", "quiescent/api.ErrStale", "quiescent/api.ErrDone"], apart := false, laid := [("errors.errorType", laid_errors_errorType), ("quiescent/api.ErrBound", laid_quiescent_api_ErrBound), ("quiescent/api.ErrShape", laid_quiescent_api_ErrShape), ("quiescent/api.ErrName", laid_quiescent_api_ErrName), ("quiescent/api.ErrNone", laid_quiescent_api_ErrNone), ("quiescent/api.ErrFull", laid_quiescent_api_ErrFull), ("quiescent/api.ErrStale", laid_quiescent_api_ErrStale), ("quiescent/api.ErrDone", laid_quiescent_api_ErrDone)], narrowed := true }
def WalkFaultsUptoSaid : Prop := walkFaultsUptoRow.holds Tryz.pinned (OpenSpec.upto walkFaultsSpec)

/-- 'quiescentlaw1.WalkSees', WHERE WHAT IT READS IS OF BULK AT MOST 1048576: true; the input reads as it did. -/
def walkSeesUptoRow : OpenClaim := { program := "ytciaficoeajeaaagreatdoor", sum := "df08fa59928ed3a522f9c1c4cbc431563007e09151cb8cc73f23855185c44fcb", func := "quiescent/quiescentlaw1.WalkSees", spec := "walkSees", inPlace := ["internal/reflectlite.ValueOf", "(internal/reflectlite.Value).Type", "(internal/reflectlite.Value).IsNil", "internal/reflectlite.TypeOf", "(internal/reflectlite.Value).Elem", "(internal/reflectlite.Value).Set"], unfollowed := true, recurses := true, named := ["quiescent/api.ErrBound", "quiescent/api.ErrName", "quiescent/api.ErrNone", "quiescent/api.ErrShape", "errors.errorType", "quiescent/api.ErrFull", "quiescent/api.ErrStale", "quiescent/api.ErrDone"], apart := false, laid := [("errors.errorType", laid_errors_errorType), ("quiescent/api.ErrBound", laid_quiescent_api_ErrBound), ("quiescent/api.ErrShape", laid_quiescent_api_ErrShape), ("quiescent/api.ErrName", laid_quiescent_api_ErrName), ("quiescent/api.ErrNone", laid_quiescent_api_ErrNone), ("quiescent/api.ErrFull", laid_quiescent_api_ErrFull), ("quiescent/api.ErrStale", laid_quiescent_api_ErrStale), ("quiescent/api.ErrDone", laid_quiescent_api_ErrDone)], narrowed := true }
def WalkSeesUptoSaid : Prop := walkSeesUptoRow.holds Tryz.pinned (OpenSpec.upto walkSeesSpec)

end Rows
end Go.Proofs.YtciaficoeajeaaaGreatDoor
