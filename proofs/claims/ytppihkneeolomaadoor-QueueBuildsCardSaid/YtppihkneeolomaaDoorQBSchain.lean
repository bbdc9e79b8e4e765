/- quiescentlaw3.chain: what stands in the queue at rest, read. -/
import Derived.Test.YtppihkneeolomaaDoorQBm6
import Derived.Test.YtppihkneeolomaaDoorQBm5
import Derived.Test.YtppihkneeolomaaDoorQBm3
import Derived.Test.YtppihkneeolomaaDoorQBm2
import Derived.Test.YtppihkneeolomaaDoorQBm7
import Derived.Deep.QuietTactic
import Derived.BigQuiet
import Derived.Test.YtppihkneeolomaaDoorQBStop
set_option linter.unusedVariables false
set_option linter.unusedSimpArgs false
set_option linter.unusedSectionVars false
namespace Go.Proofs.YtppihkneeolomaaDoor
open Go.RowKit Qs Qh Qg
variable {w w' : World} {L : Lay} {m : M} {N : Int}
def lenOf : Value → Nat
  | .slice _ n _ => n
  | _ => 0
theorem IOwn.len {x : Value} {l : List Int} (h : IOwn w x l) : lenOf x = l.length := by
  rcases h.2 with ⟨rfl, h0⟩ | ⟨g, cap, cur, rfl, _⟩
  · exact h0.symm
  · rfl
theorem NodeAt.quiet {x : Int} (h : NodeAt w L m x) {w1 : World} (hM : Mod noF w w1) : NodeAt w1 L m x := by
  obtain ⟨c, hc⟩ := h.cell
  exact ⟨h.rf, h.at_, h.lo, h.hi, h.lt, ⟨c, hM.cell hc (fun e => e)⟩, hM.cell h.w0 (fun e => e), hM.cell h.w1 (fun e => e)⟩
end Go.Proofs.YtppihkneeolomaaDoor
