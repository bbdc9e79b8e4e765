/- QueueSafe: for every input the law returns true, and each argument reads as it did. The card of its row, the listed package-level variables tied to the program's text by the given tie. -/
import Derived.Test.YtppihkneeolomaaDoorQSQueueSafeFrame
import Derived.Test.YtppihkneeolomaaDoorCards
import Derived.Test.YtppihkneeolomaaDoorTie
import Derived.Test.YtppihkneeolomaaDoorQSm11
import Derived.Test.YtppihkneeolomaaDoorQSm2
import Derived.SevenTiedAt
set_option linter.unusedVariables false
set_option linter.unusedSimpArgs false
set_option linter.unusedSectionVars false
namespace Go.Proofs.YtppihkneeolomaaDoor
open Go
theorem queueSafe_wf : Rows.queueSafeRow.wfByText (OpenSpec.ofChange Rows.queueSafeSpec) = true := by kernel_rfl
theorem queueSafe_goes : false = Rows.queueSafeRow.goesBy Tryd.pinned.checked.prog := by kernel_rfl
theorem queueSafe_num : Tryd.prog.funcNamed Rows.queueSafeRow.func = some 3 := by kernel_rfl
theorem queueSafe_stand (j : Nat) (t : TypeId) (ht : Tryd.f3.params[j]? = some t) : Tryd.prog.wantsStandIn t = false := by
  rw [Tryd.params3] at ht
  have hm : t ∈ [22, 23] := by simpa using Array.mem_of_getElem? ht
  have hall : ([22, 23].all fun u => !Tryd.prog.wantsStandIn u) = true := by kernel_rfl
  simpa using List.all_eq_true.1 hall t hm
theorem queueSafe_card_holds : Rows.QueueSafeCardSaid :=
  Claim7.holds_tied_plain_at .later [] [.data, .data, .data, .sentinel, .sentinel, .sentinel] true (true, "dc2d514fe0b85a83f756c3c0b8fa754428ba376abef63c3610072487699a5f0c") true
    (queueSafe_over queueSafe_any) (fun _ h => by cases h) queueSafe_wf (fun _ h => by cases h) queueSafe_row_tie rfl ⟨rfl, rfl⟩ cardMain rfl
    (fun f fn hf hfn => by
      obtain rfl : f = 3 := Option.some.inj (queueSafe_num.symm.trans hf) |>.symm
      obtain rfl : fn = Tryd.f3 := (Option.some.inj (Tryd.func3.symm.trans hfn)).symm
      exact ⟨cardLooks, queueSafe_stand⟩)
    queueSafe_goes
#print axioms queueSafe_card_holds
end Go.Proofs.YtppihkneeolomaaDoor
