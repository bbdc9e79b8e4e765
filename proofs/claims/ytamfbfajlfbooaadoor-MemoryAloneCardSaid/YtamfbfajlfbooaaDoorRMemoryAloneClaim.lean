/- MemoryAlone: for every input the law returns true, and each argument reads as it did. The card of its row, the listed package-level variables tied to the program's text by the given tie. -/
import Derived.Test.YtamfbfajlfbooaaDoorRMemoryAloneFrame
import Derived.Test.YtamfbfajlfbooaaDoorCards
import Derived.Test.YtamfbfajlfbooaaDoorTie
import Derived.Test.YtamfbfajlfbooaaDoorRAloneW
import Derived.Test.YtamfbfajlfbooaaDoorRCardP
import Derived.SevenTiedAt
set_option linter.unusedVariables false
set_option linter.unusedSimpArgs false
set_option linter.unusedSectionVars false
namespace Go.Proofs.YtamfbfajlfbooaaDoor
open Go
theorem memoryAlone_wf : Rows.memoryAloneRow.wfByText (OpenSpec.ofChange Rows.memoryAloneSpec) = true := by kernel_rfl
theorem memoryAlone_goes : false = Rows.memoryAloneRow.goesBy Tryd.pinned.checked.prog := by kernel_rfl
theorem memoryAlone_num : Tryd.prog.funcNamed Rows.memoryAloneRow.func = some 5 := by kernel_rfl
theorem memoryAlone_stand (j : Nat) (t : TypeId) (ht : Tryd.f5.params[j]? = some t) : Tryd.prog.wantsStandIn t = false := by
  rw [Tryd.params5] at ht
  have hm : t ∈ [51] := by simpa using Array.mem_of_getElem? ht
  have hall : ([51].all fun u => !Tryd.prog.wantsStandIn u) = true := by kernel_rfl
  simpa using List.all_eq_true.1 hall t hm
theorem memoryAlone_card_holds : Rows.MemoryAloneCardSaid :=
  Claim7.holds_tied_plain_at .later [] [.sentinel, .sentinel, .sentinel, .sentinel] true (true, "c78d9768c950c5411273d3df1dce0e675f5ac73a2e1506b9ff11d1e46d704fb5") true
    (memoryAlone_over memoryAlone_any) (fun _ h => by cases h) memoryAlone_wf (fun _ h => by cases h) memoryAlone_row_tie rfl ⟨rfl, rfl⟩ cardMain rfl
    (fun f fn hf hfn => by
      obtain rfl : f = 5 := Option.some.inj (memoryAlone_num.symm.trans hf) |>.symm
      obtain rfl : fn = Tryd.f5 := (Option.some.inj (Tryd.func5.symm.trans hfn)).symm
      exact ⟨cardLooks, memoryAlone_stand⟩)
    memoryAlone_goes
#print axioms memoryAlone_card_holds
end Go.Proofs.YtamfbfajlfbooaaDoor
