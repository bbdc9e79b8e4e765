/- quiescentlaw3.top, chain: what stands in the queue, read. -/
import Derived.Test.YtppihkneeolomaaDoorQBm7
import Derived.Test.YtppihkneeolomaaDoorQBm3
import Derived.Deep.QuietTactic
import Derived.BigQuiet
set_option linter.unusedVariables false
set_option linter.unusedSimpArgs false
set_option linter.unusedSectionVars false
namespace Go.Proofs.YtppihkneeolomaaDoor
open Go.RowKit Qs Qh Qg
variable {w w' : World} {L : Lay} {m : M} {N : Int}
/-- A node of the queue's chain, in memory: its words. -/
structure NodeAt (w : World) (L : Lay) (m : M) (x : Int) : Prop where
  rf : refV x = ((celOf x : Int), (x - 1) / 64, 0)
  at_ : atE m.cells (celOf x : Int) ((x - 1) / 64) 0 = 0
  lo : 0 < x
  hi : x < 4294967296
  lt : celOf x < m.cells.length
  cell : ∃ c, w.cell? ⟨L.blk 2 0, celOf x * 3, none⟩ = some (.slice (some ⟨L.blk 6 (celOf x), 0, none⟩) 4 c)
  w0 : w.cell? ⟨L.blk 6 (celOf x), 0, none⟩ = some (.int .i64 ((absM m).val x 0))
  w1 : w.cell? ⟨L.blk 6 (celOf x), 1, none⟩ = some (.int .i64 ((absM m).val x 1))
end Go.Proofs.YtppihkneeolomaaDoor
