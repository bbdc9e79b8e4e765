/- Two closed facts on the program that every card asks. -/
import Derived.Test.YtamfbfajlfbooaaDoorRows
import Derived.KernelRfl
import Derived.SevenTiedAt
set_option linter.unusedVariables false
set_option linter.unusedSimpArgs false
set_option linter.unusedSectionVars false
namespace Go.Proofs.YtamfbfajlfbooaaDoor
open Go
theorem cardMain : Tryd.pinned.checked.prog.mainIs = some (((true, "c78d9768c950c5411273d3df1dce0e675f5ac73a2e1506b9ff11d1e46d704fb5") : Bool × String).1, ((true, "c78d9768c950c5411273d3df1dce0e675f5ac73a2e1506b9ff11d1e46d704fb5") : Bool × String).2.toList) := by kernel_rfl
theorem cardLooks : true = Tryd.pinned.checked.prog.looks [] := by kernel_rfl
end Go.Proofs.YtamfbfajlfbooaaDoor
