/- The closed facts on the program that every row asks: each by itself. -/
import Derived.Test.YtciaficoeajeaaaGreatDoorRows
import Derived.Test.YtciaficoeajeaaaGreatDoorWFm3
set_option linter.unusedVariables false
set_option linter.unusedSimpArgs false
set_option linter.unusedSectionVars false
namespace Go.Proofs.YtciaficoeajeaaaGreatDoor
open Go
theorem jp1:(laidOutB Tryz.pinned.checked.prog)=true:=by kernel_rfl
theorem jp2:(mapsRowed Tryz.pinned.checked.prog)=true:=by kernel_rfl
theorem jp6:((Tryz.pinned.checked.prog.stops==[]))=true:=by kernel_rfl
theorem jp8:((Tryz.pinned.checked.prog.stopKnobs==[]))=true:=by kernel_rfl
theorem jp22:((true == Tryz.pinned.checked.prog.plainKeys))=true:=by kernel_rfl
theorem jp24:(Tryz.pinned.checked.prog.stopsHeard)=true:=by kernel_rfl
theorem jp25:(Tryz.pinned.checked.prog.mayEnter)=true:=by kernel_rfl
theorem jp26:((false == Tryz.pinned.checked.prog.liftsFinal))=true:=by kernel_rfl
theorem jp27:((Tryz.pinned.checked.prog.make==some Make.cut))=true:=by kernel_rfl
end Go.Proofs.YtciaficoeajeaaaGreatDoor
