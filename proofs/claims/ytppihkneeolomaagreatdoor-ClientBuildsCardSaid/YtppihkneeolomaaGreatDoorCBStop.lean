/- quiescentlaw3.top, chain: what stands in the queue, read. -/
import Derived.Test.YtppihkneeolomaaGreatDoorCBm7
import Derived.Test.YtppihkneeolomaaGreatDoorCBm3
import Derived.Deep.QuietTactic
import Derived.BigQuiet
set_option linter.unusedVariables false
set_option linter.unusedSimpArgs false
set_option linter.unusedSectionVars false
namespace Go.Proofs.YtppihkneeolomaaGreatDoor
open Go.RowKit Qs Qh Qg
variable {w w' : World} {L : Lay} {m : M} {N : Int}
/-- A word that names a cell that is there. -/
theorem here_facts {x : Int} (h : (absM m).here x = true) : ∃ y, m.cells[celOf x]? = some y ∧ refV x = ((celOf x : Int), (x - 1) / 64, 0) ∧ atE m.cells (celOf x : Int) ((x - 1) / 64) 0 = 0 ∧ 0 < x ∧ x < 4294967296 := by
  obtain ⟨h1, h2, y, hy, hh, hg⟩ := abs_here.1 h
  have hc : (celOf x : Int) = (x - 1) % 64 := by unfold celOf; omega
  refine ⟨y, hy, ?_, ?_, h1, h2⟩
  · have hs : (m.names x).isSome = true := h
    obtain ⟨⟨c, g⟩, hn⟩ := Option.isSome_iff_exists.1 hs
    have := (names_some.1 hn).1
    unfold refV
    have h0 : x ≠ 0 := by omega
    have hw : isWord x = true := by unfold isWord W32; simp; omega
    simp [refOf, h0, hw, hc]
  · unfold atE
    rw [if_pos (hereIn_iff.2 ⟨by omega, y, by simpa using hy, hh, hg⟩), if_pos (by omega)]
/-- A node of the queue's chain, in memory: its words. -/
structure NodeAt (w : World) (L : Lay) (m : M) (x : Int) : Prop where
  rf : refV x = ((celOf x : Int), (x - 1) / 64, 0)
  at_ : atE m.cells (celOf x : Int) ((x - 1) / 64) 0 = 0
  lo : 0 < x
  hi : x < 4294967296
  lt : celOf x < m.cells.length
  cell : ∃ c, w.cell? ⟨L.blk 2 0, celOf x * 3, none⟩ = some (.slice (some ⟨L.blk 6 (celOf x), 0, none⟩) 4 c)
  w0 : w.cell? ⟨L.blk 6 (celOf x), 0, none⟩ = some (.int .i64 ((absM m).val x 0))
  w1 : w.cell? ⟨L.blk 6 (celOf x), 1, none⟩ = some (.int .i64 ((absM m).val x 1))
theorem node_at (X : Mach ty w L m N) {x : Int} (h : (absM m).here x = true) : NodeAt w L m x := by
  obtain ⟨y, hy, hrf, hat, h0, h1⟩ := here_facts h
  have hw4 := (X.om.words _ y hy).1
  obtain ⟨c2, -, -⟩ := X.rep.cell_at rfl X.ol hy
  rw [hw4] at c2
  have hv : ∀ j, (absM m).val x j = y.words.getD j 0 := fun j => by
    rw [abs_val h]; unfold getWord; rw [hy]; rfl
  refine ⟨hrf, hat, h0, h1, (List.getElem?_eq_some_iff.1 hy).1, ⟨_, c2⟩, ?_, ?_⟩
  · rw [hv 0]; exact word_at X.rep rfl X.ol hy (by omega)
  · rw [hv 1]; exact word_at X.rep rfl X.ol hy (by omega)
end Go.Proofs.YtppihkneeolomaaGreatDoor
