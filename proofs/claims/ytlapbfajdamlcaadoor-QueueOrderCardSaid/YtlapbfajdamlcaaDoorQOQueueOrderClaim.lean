/- QueueOrder: for every input the law returns true, and each argument reads as it did. The card of its row, the listed package-level variables tied to the program's text by the given tie. -/
import Derived.Test.YtlapbfajdamlcaaDoorQOQueueOrderFrame
import Derived.Test.YtlapbfajdamlcaaDoorCards
import Derived.Test.YtlapbfajdamlcaaDoorTie
import Derived.Test.YtlapbfajdamlcaaDoorQOm9
import Derived.Test.YtlapbfajdamlcaaDoorQOm2
import Derived.SevenTiedAt
set_option linter.unusedVariables false
set_option linter.unusedSimpArgs false
set_option linter.unusedSectionVars false
namespace Go.Proofs.YtlapbfajdamlcaaDoor
open Go
theorem queueOrder_wf : Rows.queueOrderRow.wfByText (OpenSpec.ofChange Rows.queueOrderSpec) = true := by kernel_rfl
theorem queueOrder_goes : false = Rows.queueOrderRow.goesBy Tryd.pinned.checked.prog := by kernel_rfl
theorem queueOrder_num : Tryd.prog.funcNamed Rows.queueOrderRow.func = some 3 := by kernel_rfl
theorem queueOrder_stand (j : Nat) (t : TypeId) (ht : Tryd.f3.params[j]? = some t) : Tryd.prog.wantsStandIn t = false := by
  rw [Tryd.params3] at ht
  have hm : t ∈ [3, 3, 22] := by simpa using Array.mem_of_getElem? ht
  have hall : ([3, 3, 22].all fun u => !Tryd.prog.wantsStandIn u) = true := by kernel_rfl
  simpa using List.all_eq_true.1 hall t hm
theorem queueOrder_card_holds : Rows.QueueOrderCardSaid :=
  Claim7.holds_tied_plain_at .later [] [.data, .data, .data, .sentinel, .sentinel, .sentinel] true (true, "0be9fdb045fd8fe8847982782635fc00edfbe0a04ae8d53a75384ad0e1861a59") true
    (queueOrder_over queueOrder_any) (fun _ h => by cases h) queueOrder_wf (fun _ h => by cases h) queueOrder_row_tie rfl ⟨rfl, rfl⟩ cardMain rfl
    (fun f fn hf hfn => by
      obtain rfl : f = 3 := Option.some.inj (queueOrder_num.symm.trans hf) |>.symm
      obtain rfl : fn = Tryd.f3 := (Option.some.inj (Tryd.func3.symm.trans hfn)).symm
      exact ⟨cardLooks, queueOrder_stand⟩)
    queueOrder_goes
#print axioms queueOrder_card_holds
end Go.Proofs.YtlapbfajdamlcaaDoor
