/- StackSafe: for every input the law returns true, and each argument reads as it did. The card of its row, the listed package-level variables tied to the program's text by the given tie. -/
import Derived.Test.YtppihkneeolomaaGreatDoorSSStackSafeFrame
import Derived.Test.YtppihkneeolomaaGreatDoorCards
import Derived.Test.YtppihkneeolomaaGreatDoorTie
import Derived.Test.YtppihkneeolomaaGreatDoorSSm10
import Derived.Test.YtppihkneeolomaaGreatDoorSSm2
import Derived.SevenTiedAt
set_option linter.unusedVariables false
set_option linter.unusedSimpArgs false
set_option linter.unusedSectionVars false
namespace Go.Proofs.YtppihkneeolomaaGreatDoor
open Go
theorem stackSafe_wf : Rows.stackSafeRow.wfByText (OpenSpec.ofChange Rows.stackSafeSpec) = true := by kernel_rfl
theorem stackSafe_goes : false = Rows.stackSafeRow.goesBy Tryz.pinned.checked.prog := by kernel_rfl
theorem stackSafe_num : Tryz.prog.funcNamed Rows.stackSafeRow.func = some 3 := by kernel_rfl
theorem stackSafe_stand (j : Nat) (t : TypeId) (ht : Tryz.f3.params[j]? = some t) : Tryz.prog.wantsStandIn t = false := by
  rw [Tryz.params3] at ht
  have hm : t ∈ [3, 22, 23] := by simpa using Array.mem_of_getElem? ht
  have hall : ([3, 22, 23].all fun u => !Tryz.prog.wantsStandIn u) = true := by kernel_rfl
  simpa using List.all_eq_true.1 hall t hm
theorem stackSafe_card_holds : Rows.StackSafeCardSaid :=
  Claim7.holds_tied_plain_at .later [] [.data, .data, .data, .sentinel, .sentinel, .sentinel] true (true, "e8a94b9b707579927fe11eacfcf8b017beebb29064060a7a3843226d2001e800") true
    (stackSafe_over stackSafe_any) (fun _ h => by cases h) stackSafe_wf (fun _ h => by cases h) stackSafe_row_tie rfl ⟨rfl, rfl⟩ cardMain rfl
    (fun f fn hf hfn => by
      obtain rfl : f = 3 := Option.some.inj (stackSafe_num.symm.trans hf) |>.symm
      obtain rfl : fn = Tryz.f3 := (Option.some.inj (Tryz.func3.symm.trans hfn)).symm
      exact ⟨cardLooks, stackSafe_stand⟩)
    stackSafe_goes
#print axioms stackSafe_card_holds
end Go.Proofs.YtppihkneeolomaaGreatDoor
