/- StackBuilds: for every input the law returns true, and each argument reads as it did. The card of its row, the listed package-level variables tied to the program's text by the given tie. -/
import Derived.Test.YtppihkneeolomaaGreatDoorSBStackBuildsFrame
import Derived.Test.YtppihkneeolomaaGreatDoorCards
import Derived.Test.YtppihkneeolomaaGreatDoorTie
import Derived.Test.YtppihkneeolomaaGreatDoorSBm10
import Derived.Test.YtppihkneeolomaaGreatDoorSBm2
import Derived.SevenTiedAt
set_option linter.unusedVariables false
set_option linter.unusedSimpArgs false
set_option linter.unusedSectionVars false
namespace Go.Proofs.YtppihkneeolomaaGreatDoor
open Go
theorem stackBuilds_wf : Rows.stackBuildsRow.wfByText (OpenSpec.ofChange Rows.stackBuildsSpec) = true := by kernel_rfl
theorem stackBuilds_goes : false = Rows.stackBuildsRow.goesBy Tryz.pinned.checked.prog := by kernel_rfl
theorem stackBuilds_num : Tryz.prog.funcNamed Rows.stackBuildsRow.func = some 5 := by kernel_rfl
theorem stackBuilds_stand (j : Nat) (t : TypeId) (ht : Tryz.f5.params[j]? = some t) : Tryz.prog.wantsStandIn t = false := by
  rw [Tryz.params5] at ht
  have hm : t ∈ [3, 22] := by simpa using Array.mem_of_getElem? ht
  have hall : ([3, 22].all fun u => !Tryz.prog.wantsStandIn u) = true := by kernel_rfl
  simpa using List.all_eq_true.1 hall t hm
theorem stackBuilds_card_holds : Rows.StackBuildsCardSaid :=
  Claim7.holds_tied_plain_at .later [] [.data, .data, .data, .handle, .sentinel, .sentinel, .sentinel, .sentinel, .sentinel, .sentinel, .sentinel, .sentinel, .sentinel] true (true, "e8a94b9b707579927fe11eacfcf8b017beebb29064060a7a3843226d2001e800") true
    (stackBuilds_over stackBuilds_any) (fun _ h => by cases h) stackBuilds_wf (fun _ h => by cases h) stackBuilds_row_tie rfl ⟨rfl, rfl⟩ cardMain rfl
    (fun f fn hf hfn => by
      obtain rfl : f = 5 := Option.some.inj (stackBuilds_num.symm.trans hf) |>.symm
      obtain rfl : fn = Tryz.f5 := (Option.some.inj (Tryz.func5.symm.trans hfn)).symm
      exact ⟨cardLooks, stackBuilds_stand⟩)
    stackBuilds_goes
#print axioms stackBuilds_card_holds
end Go.Proofs.YtppihkneeolomaaGreatDoor
