/- QueueCode: for every input the law returns true, and each argument reads as it did. The card of its row, the listed package-level variables tied to the program's text by the given tie. -/
import Derived.Test.YtamfbfajlfbooaaDoorRQueueCodeFrame
import Derived.Test.YtamfbfajlfbooaaDoorCards
import Derived.Test.YtamfbfajlfbooaaDoorTie
import Derived.Test.YtamfbfajlfbooaaDoorRQueueCodeW
import Derived.Test.YtamfbfajlfbooaaDoorRCardP
import Derived.SevenTiedAt
set_option linter.unusedVariables false
set_option linter.unusedSimpArgs false
set_option linter.unusedSectionVars false
namespace Go.Proofs.YtamfbfajlfbooaaDoor
open Go
theorem queueCode_wf : Rows.queueCodeRow.wfByText (OpenSpec.ofChange Rows.queueCodeSpec) = true := by kernel_rfl
theorem queueCode_goes : false = Rows.queueCodeRow.goesBy Tryd.pinned.checked.prog := by kernel_rfl
theorem queueCode_num : Tryd.prog.funcNamed Rows.queueCodeRow.func = some 17 := by kernel_rfl
theorem queueCode_stand (j : Nat) (t : TypeId) (ht : Tryd.f17.params[j]? = some t) : Tryd.prog.wantsStandIn t = false := by
  rw [Tryd.params17] at ht
  have hm : t ∈ [9] := by simpa using Array.mem_of_getElem? ht
  have hall : ([9].all fun u => !Tryd.prog.wantsStandIn u) = true := by kernel_rfl
  simpa using List.all_eq_true.1 hall t hm
theorem queueCode_card_holds : Rows.QueueCodeCardSaid :=
  Claim7.holds_tied_plain_at .later [] [.handle, .sentinel, .sentinel, .sentinel, .sentinel, .sentinel, .sentinel, .sentinel, .sentinel, .sentinel] true (true, "c78d9768c950c5411273d3df1dce0e675f5ac73a2e1506b9ff11d1e46d704fb5") true
    (queueCode_over queueCode_any) (fun _ h => by cases h) queueCode_wf (fun _ h => by cases h) queueCode_row_tie rfl ⟨rfl, rfl⟩ cardMain rfl
    (fun f fn hf hfn => by
      obtain rfl : f = 17 := Option.some.inj (queueCode_num.symm.trans hf) |>.symm
      obtain rfl : fn = Tryd.f17 := (Option.some.inj (Tryd.func17.symm.trans hfn)).symm
      exact ⟨cardLooks, queueCode_stand⟩)
    queueCode_goes
#print axioms queueCode_card_holds
end Go.Proofs.YtamfbfajlfbooaaDoor
