/- quiescentref2.KindsFault: over any lists of ops. -/
import Derived.Test.YtppihkneeolomaaGreatDoorSSm7
import Derived.Test.YtppihkneeolomaaGreatDoorSSm9
set_option linter.unusedVariables false
set_option linter.unusedSimpArgs false
set_option linter.unusedSectionVars false
namespace Go.Proofs.YtppihkneeolomaaGreatDoor
open Go.RowKit Qs Qh
variable {N:Nat}{w w':World}{v u:Value}{ll:List (List ROp)}{l:List ROp}
theorem str_ne{a b:ByteArray}(h:a≠b):(a.toList==b.toList)=false:=by
 rw[beq_eq_false_iff_ne,ByteArray.toList_eq,ByteArray.toList_eq];exact fun e=>h (ByteArray.ext (Array.toList_inj.1 e))
theorem str_eq(a:ByteArray):(a.toList==a.toList)=true:=by simp
end Go.Proofs.YtppihkneeolomaaGreatDoor
