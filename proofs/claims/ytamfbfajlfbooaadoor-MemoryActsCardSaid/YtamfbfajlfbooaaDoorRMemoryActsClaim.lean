/- MemoryActs: for every input the law returns true, and each argument reads as it did. The card of its row, the listed package-level variables tied to the program's text by the given tie. -/
import Derived.Test.YtamfbfajlfbooaaDoorRMemoryActsFrame
import Derived.Test.YtamfbfajlfbooaaDoorCards
import Derived.Test.YtamfbfajlfbooaaDoorTie
import Derived.Test.YtamfbfajlfbooaaDoorRMemActsW2
import Derived.Test.YtamfbfajlfbooaaDoorRCardP
import Derived.SevenTiedAt
set_option linter.unusedVariables false
set_option linter.unusedSimpArgs false
set_option linter.unusedSectionVars false
namespace Go.Proofs.YtamfbfajlfbooaaDoor
open Go
theorem memoryActs_wf : Rows.memoryActsRow.wfByText (OpenSpec.ofChange Rows.memoryActsSpec) = true := by kernel_rfl
theorem memoryActs_goes : false = Rows.memoryActsRow.goesBy Tryd.pinned.checked.prog := by kernel_rfl
theorem memoryActs_num : Tryd.prog.funcNamed Rows.memoryActsRow.func = some 18 := by kernel_rfl
theorem memoryActs_stand (j : Nat) (t : TypeId) (ht : Tryd.f18.params[j]? = some t) : Tryd.prog.wantsStandIn t = false := by
  rw [Tryd.params18] at ht
  have hm : t ∈ [3, 3, 51] := by simpa using Array.mem_of_getElem? ht
  have hall : ([3, 3, 51].all fun u => !Tryd.prog.wantsStandIn u) = true := by kernel_rfl
  simpa using List.all_eq_true.1 hall t hm
theorem memoryActs_card_holds : Rows.MemoryActsCardSaid :=
  Claim7.holds_tied_plain_at .later [] [.handle, .sentinel, .sentinel, .sentinel, .sentinel, .sentinel, .sentinel, .sentinel, .sentinel, .sentinel] true (true, "c78d9768c950c5411273d3df1dce0e675f5ac73a2e1506b9ff11d1e46d704fb5") true
    (memoryActs_over memoryActs_any) (fun _ h => by cases h) memoryActs_wf (fun _ h => by cases h) memoryActs_row_tie rfl ⟨rfl, rfl⟩ cardMain rfl
    (fun f fn hf hfn => by
      obtain rfl : f = 18 := Option.some.inj (memoryActs_num.symm.trans hf) |>.symm
      obtain rfl : fn = Tryd.f18 := (Option.some.inj (Tryd.func18.symm.trans hfn)).symm
      exact ⟨cardLooks, memoryActs_stand⟩)
    memoryActs_goes
#print axioms memoryActs_card_holds
end Go.Proofs.YtamfbfajlfbooaaDoor
