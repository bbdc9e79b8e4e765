/- quiescentlaw1.coded at an error of one's own number. -/
import Derived.Test.YtciaficoeajeaaaDoorMCm5
import Derived.Test.YtciaficoeajeaaaDoorMCm7
set_option linter.unusedVariables false
set_option linter.unusedSimpArgs false
set_option linter.unusedSectionVars false
namespace Go.Proofs.YtciaficoeajeaaaDoor
open Go.RowKit Qs Qh
theorem coded_self{w:World}{a:Nat→Addr}(E:ErrsAt w a)(e:Int)(h0:0≤e)(h9:e≤9):Calls Tryd.prog 14 #[errOf' a e,.int .i64 e] w fun r w'=>r=.returned (.bool true)∧Mod noF w w':=by
 by_cases h:e=0
 ·subst h;exact (coded_nil 0 w).mono fun _ _ h=>⟨by rw[h.1];rfl,by rw[h.2];exact Mod.refl _ _⟩
 ·unfold errOf';rw[if_neg h];refine (coded_at E (e.toNat - 1) (by omega) e).mono fun _ _ g=>⟨?_,g.2⟩;rw[g.1]
  have:e=((e.toNat - 1:Nat):Int)+1:=by omega
  rw[decide_eq_true this]
end Go.Proofs.YtciaficoeajeaaaDoor
