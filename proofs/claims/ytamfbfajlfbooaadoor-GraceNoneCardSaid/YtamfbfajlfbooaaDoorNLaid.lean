/- A world that meets what the rows lay of the package-level variables: nine sentinels and a type's handle. -/
import Derived.Test.YtamfbfajlfbooaaDoorRows
import Derived.ProofKit
import Derived.LaidLaws
import Derived.LaidHandle
import Derived.ChangeSame
import Derived.ChangeVars
import Derived.JoinedOf
import Derived.Stop.Joined
set_option linter.unusedVariables false
set_option linter.unusedSimpArgs false
set_option linter.unusedSectionVars false
namespace Go.Proofs.YtamfbfajlfbooaaDoor
theorem own : ownKnob Tryd.prog.godebug = none := by kernel_rfl
theorem laidOut : laidOutB Tryd.prog = true := by kernel_rfl
noncomputable def low : Nat := (World.holding Tryd.prog default ⟨#[], #[], []⟩).heap.size
/-- A variable's cell, laid. -/
def setVar (v : Value) : Obj → Obj
  | .cells _ t frozen => .cells #[v] t frozen
  | o => o
noncomputable def laidWorld (os : Os) : World :=
  let w0 := World.holding Tryd.prog os ⟨#[.cells #[.string { data := #[113, 117, 105, 101, 115, 99, 101, 110, 116, 58, 32, 116, 101, 120, 116] }] 154,
    .cells #[.string { data := #[113, 117, 105, 101, 115, 99, 101, 110, 116, 58, 32, 98, 111, 117, 110, 100] }] 154,
    .cells #[.string { data := #[113, 117, 105, 101, 115, 99, 101, 110, 116, 58, 32, 115, 104, 97, 112, 101] }] 154,
    .cells #[.string { data := #[113, 117, 105, 101, 115, 99, 101, 110, 116, 58, 32, 110, 97, 109, 101] }] 154,
    .cells #[.string { data := #[113, 117, 105, 101, 115, 99, 101, 110, 116, 58, 32, 110, 111, 110, 101] }] 154,
    .cells #[.string { data := #[113, 117, 105, 101, 115, 99, 101, 110, 116, 58, 32, 102, 117, 108, 108] }] 154,
    .cells #[.string { data := #[113, 117, 105, 101, 115, 99, 101, 110, 116, 58, 32, 115, 116, 97, 108, 101] }] 154,
    .cells #[.string { data := #[113, 117, 105, 101, 115, 99, 101, 110, 116, 58, 32, 104, 101, 108, 100] }] 154,
    .cells #[.string { data := #[113, 117, 105, 101, 115, 99, 101, 110, 116, 58, 32, 100, 111, 110, 101] }] 154], #[], []⟩
  { w0 with heap := (((((((((w0.heap.modify 0 (setVar (.iface 152 (.pointer (some ⟨low + 0, 0, none⟩))))).modify 1 (setVar (.iface 152 (.pointer (some ⟨low + 1, 0, none⟩))))).modify 2 (setVar (.iface 152 (.pointer (some ⟨low + 2, 0, none⟩))))).modify 3 (setVar (.iface 152 (.pointer (some ⟨low + 3, 0, none⟩))))).modify 4 (setVar (.iface 152 (.pointer (some ⟨low + 4, 0, none⟩))))).modify 5 (setVar (.iface 152 (.pointer (some ⟨low + 5, 0, none⟩))))).modify 6 (setVar (.iface 152 (.pointer (some ⟨low + 6, 0, none⟩))))).modify 7 (setVar (.iface 152 (.pointer (some ⟨low + 7, 0, none⟩))))).modify 8 (setVar (.iface 152 (.pointer (some ⟨low + 8, 0, none⟩))))).modify 9 (setVar (.iface 231 (.agg #[.pointer (some ⟨10, 54, none⟩)]))) }
theorem laid_met2 (os : Os) (args : Array Value) : laidMetH Tryd.prog Rows.spinEndsRow.laid ((laidWorld os).forCall (fun _ _ => 0) ⟨#[], args, []⟩).memory :=
  laidMetH_of_parts (by rw [show (List.filter (fun x : String × DataW Unit => x.2.handleName?.isNone) Rows.spinEndsRow.laid) = Rows.spinEndsRow.laid by kernel_rfl]; exact laidMet_of_run (ps := [.cell 1 0, .cell (low + 1) 0, .cell 3 0, .cell (low + 3) 0]) 8 (by kernel_rfl) (by kernel_rfl) (by kernel_rfl)) (by kernel_rfl)
theorem laid_met10 (os : Os) (args : Array Value) : laidMetH Tryd.prog Rows.arenaWordsRow.laid ((laidWorld os).forCall (fun _ _ => 0) ⟨#[], args, []⟩).memory :=
  laidMetH_of_parts (by rw [show (List.filter (fun x : String × DataW Unit => x.2.handleName?.isNone) Rows.arenaWordsRow.laid) = Rows.arenaWordsRow.laid.drop 1 by kernel_rfl]; exact laidMet_of_run (ps := [.cell 0 0, .cell (low + 0) 0, .cell 1 0, .cell (low + 1) 0, .cell 2 0, .cell (low + 2) 0, .cell 3 0, .cell (low + 3) 0, .cell 4 0, .cell (low + 4) 0, .cell 5 0, .cell (low + 5) 0, .cell 6 0, .cell (low + 6) 0, .cell 7 0, .cell (low + 7) 0, .cell 8 0, .cell (low + 8) 0]) 8 (by kernel_rfl) (by kernel_rfl) (by kernel_rfl)) (by kernel_rfl)
theorem laid_met4 (os : Os) (args : Array Value) : laidMetH Tryd.prog Rows.memoryAloneRow.laid ((laidWorld os).forCall (fun _ _ => 0) ⟨#[], args, []⟩).memory :=
  laidMetH_of_parts (by rw [show (List.filter (fun x : String × DataW Unit => x.2.handleName?.isNone) Rows.memoryAloneRow.laid) = Rows.memoryAloneRow.laid by kernel_rfl]; exact laidMet_of_run (ps := [.cell 1 0, .cell (low + 1) 0, .cell 4 0, .cell (low + 4) 0, .cell 5 0, .cell (low + 5) 0, .cell 6 0, .cell (low + 6) 0]) 8 (by kernel_rfl) (by kernel_rfl) (by kernel_rfl)) (by kernel_rfl)
end Go.Proofs.YtamfbfajlfbooaaDoor
