/- Some sentinels, as a row lays them. -/
import Derived.Test.YtciaficoeajeaaaGreatDoorWFm5
import Derived.Test.YtciaficoeajeaaaGreatDoorWFErrsLawQ
set_option linter.unusedVariables false
set_option linter.unusedSimpArgs false
set_option linter.unusedSectionVars false
namespace Go.Proofs.YtciaficoeajeaaaGreatDoor
open Go.RowKit Qs Qh
noncomputable def lstI (I : List Nat) : List (String × DataW Unit) := I.map fun i => nine.getD i ("", .nil)
noncomputable def laidI(I:List Nat):List (String × List UInt8 × Nat):=(lstI I).map fun x=>(x.1,textOf x.2,(Tryz.prog.globalNamed x.1).getD 0)
end Go.Proofs.YtciaficoeajeaaaGreatDoor
