/- (*quiescentref1.Machine).Step, instruction by instruction: alloc. -/
import Derived.Test.YtciaficoeajeaaaGreatDoorWFm2
import Derived.Test.YtciaficoeajeaaaGreatDoorProg
import Derived.WalkKit
import Derived.Deep.QuietTactic
import Derived.BigQuiet
import Derived.Lib.Hide
import Derived.RowKit
import Derived.IntWalk
import Derived.Test.YtciaficoeajeaaaGreatDoorWFm4
import Derived.Deep.RegionWith
import Derived.WalkSpells
import Derived.Deep.LoopGhost
import Derived.WalkLawsBesides
import Derived.StillTailTactics
import Derived.Test.YtciaficoeajeaaaGreatDoorWFm3
import Derived.Test.YtciaficoeajeaaaGreatDoorWFm5
set_option linter.unusedVariables false
set_option linter.unusedSimpArgs false
set_option linter.unusedSectionVars false
namespace Go.Proofs.YtciaficoeajeaaaGreatDoor
open Go.RowKit Qs Qh
variable {w:World}{L:Lay}{m:M}{N:Int}
theorem wordV_fst(c g:Int):(wordV c g).1=wordOf c g:=by
 unfold wordV wordOf
 split <;> simp_all
end Go.Proofs.YtciaficoeajeaaaGreatDoor
