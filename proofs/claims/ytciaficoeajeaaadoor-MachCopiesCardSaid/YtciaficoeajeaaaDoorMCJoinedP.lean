/- The closed facts on the program that every row asks: each by itself. -/
import Derived.Test.YtciaficoeajeaaaDoorRows
import Derived.Test.YtciaficoeajeaaaDoorMCm3
set_option linter.unusedVariables false
set_option linter.unusedSimpArgs false
set_option linter.unusedSectionVars false
namespace Go.Proofs.YtciaficoeajeaaaDoor
open Go
theorem jp1:(laidOutB Tryd.pinned.checked.prog)=true:=by kernel_rfl
theorem jp2:(mapsRowed Tryd.pinned.checked.prog)=true:=by kernel_rfl
theorem jp6:((Tryd.pinned.checked.prog.stops==[]))=true:=by kernel_rfl
theorem jp8:((Tryd.pinned.checked.prog.stopKnobs==[]))=true:=by kernel_rfl
theorem jp22:((true == Tryd.pinned.checked.prog.plainKeys))=true:=by kernel_rfl
theorem jp24:(Tryd.pinned.checked.prog.stopsHeard)=true:=by kernel_rfl
theorem jp25:(Tryd.pinned.checked.prog.mayEnter)=true:=by kernel_rfl
theorem jp26:((false == Tryd.pinned.checked.prog.liftsFinal))=true:=by kernel_rfl
theorem jp27:((Tryd.pinned.checked.prog.make==some Make.cut))=true:=by kernel_rfl
end Go.Proofs.YtciaficoeajeaaaDoor
