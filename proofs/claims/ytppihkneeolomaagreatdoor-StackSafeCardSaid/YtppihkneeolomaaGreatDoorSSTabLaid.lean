/- The library's table of powers, as a row lays it. -/
import Derived.Test.YtppihkneeolomaaGreatDoorSSErrsLawQ
import Derived.Test.YtppihkneeolomaaGreatDoorSSm6
import Derived.Lib.LaidTab
set_option linter.unusedVariables false
set_option linter.unusedSimpArgs false
set_option linter.unusedSectionVars false
namespace Go.Proofs.YtppihkneeolomaaGreatDoor
open Go.RowKit Qs Qh
theorem tab_of_laid0{laid:List (String × DataW Unit)}{k:Nat}{nm:String}(C0:(laid.filter fun x=>x.2.handleName?.isSome)=[])(C:(laid.drop k).take 1=[(nm,Lib.tabData .u64 Lib.pow10Tab)])(hg : Tryz.prog.globalNamed nm=some 11){W:World}(h:laidMetH Tryz.prog laid W):TabW W:=by
 unfold laidMetH at h;rw[C0]at h;have h1:=laidMet_part h k 1;rw[C]at h1;have h2:=Lib.tabIs_of_head hg (t:=218) (by kernel_rfl) Tryz.underlying218 Tryz.underlying211 (by kernel_rfl) (by kernel_rfl) h1;unfold Lib.TabIs World.var? at h2;rw[hg]at h2
 simp only[Option.bind_some]at h2;unfold TabW
 split at h2
 ·rename_i cs T fr he
  cases h2;exact ⟨T,fr,he⟩
 ·cases h2
end Go.Proofs.YtppihkneeolomaaGreatDoor
