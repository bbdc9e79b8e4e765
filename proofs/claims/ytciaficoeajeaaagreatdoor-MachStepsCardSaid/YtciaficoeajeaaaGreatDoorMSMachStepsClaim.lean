/- MachSteps: for every input the law returns true, and each argument reads as it did. The card of its row, the listed package-level variables tied to the program's text by the given tie. -/
import Derived.Test.YtciaficoeajeaaaGreatDoorMSMachStepsFrame
import Derived.Test.YtciaficoeajeaaaGreatDoorCards
import Derived.Test.YtciaficoeajeaaaGreatDoorTie
import Derived.Test.YtciaficoeajeaaaGreatDoorMSm10
import Derived.Test.YtciaficoeajeaaaGreatDoorMSm2
import Derived.SevenTiedAt
set_option linter.unusedVariables false
set_option linter.unusedSimpArgs false
set_option linter.unusedSectionVars false
namespace Go.Proofs.YtciaficoeajeaaaGreatDoor
open Go
theorem machSteps_wf : Rows.machStepsRow.wfByText (OpenSpec.ofChange Rows.machStepsSpec) = true := by kernel_rfl
theorem machSteps_goes : false = Rows.machStepsRow.goesBy Tryz.pinned.checked.prog := by kernel_rfl
theorem machSteps_num : Tryz.prog.funcNamed Rows.machStepsRow.func = some 3 := by kernel_rfl
theorem machSteps_stand (j : Nat) (t : TypeId) (ht : Tryz.f3.params[j]? = some t) : Tryz.prog.wantsStandIn t = false := by
  rw [Tryz.params3] at ht
  have hm : t ∈ [24, 25, 26, 3, 3] := by simpa using Array.mem_of_getElem? ht
  have hall : ([24, 25, 26, 3, 3].all fun u => !Tryz.prog.wantsStandIn u) = true := by kernel_rfl
  simpa using List.all_eq_true.1 hall t hm
theorem machSteps_card_holds : Rows.MachStepsCardSaid :=
  Claim7.holds_tied_plain_at .later [] [.handle, .sentinel, .sentinel, .sentinel, .sentinel, .sentinel, .sentinel, .sentinel, .sentinel, .sentinel] true (true, "f3f0b699d4c0f6d830ceaaad620d2c695ac369f0019a723d93969ca32a1cb32c") true
    (machSteps_over machSteps_any) (fun _ h => by cases h) machSteps_wf (fun _ h => by cases h) machSteps_row_tie rfl ⟨rfl, rfl⟩ cardMain rfl
    (fun f fn hf hfn => by
      obtain rfl : f = 3 := Option.some.inj (machSteps_num.symm.trans hf) |>.symm
      obtain rfl : fn = Tryz.f3 := (Option.some.inj (Tryz.func3.symm.trans hfn)).symm
      exact ⟨cardLooks, machSteps_stand⟩)
    machSteps_goes
#print axioms machSteps_card_holds
end Go.Proofs.YtciaficoeajeaaaGreatDoor
