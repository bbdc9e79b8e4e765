/- MachRuns: for every input the law returns true, and each argument reads as it did. The card of its row, the listed package-level variables tied to the program's text by the given tie. -/
import Derived.Test.YtciaficoeajeaaaGreatDoorMRMachRunsFrame
import Derived.Test.YtciaficoeajeaaaGreatDoorCards
import Derived.Test.YtciaficoeajeaaaGreatDoorTie
import Derived.Test.YtciaficoeajeaaaGreatDoorMRm10
import Derived.Test.YtciaficoeajeaaaGreatDoorMRm2
import Derived.SevenTiedAt
set_option linter.unusedVariables false
set_option linter.unusedSimpArgs false
set_option linter.unusedSectionVars false
namespace Go.Proofs.YtciaficoeajeaaaGreatDoor
open Go
theorem machRuns_wf : Rows.machRunsRow.wfByText (OpenSpec.ofChange Rows.machRunsSpec) = true := by kernel_rfl
theorem machRuns_goes : false = Rows.machRunsRow.goesBy Tryz.pinned.checked.prog := by kernel_rfl
theorem machRuns_num : Tryz.prog.funcNamed Rows.machRunsRow.func = some 4 := by kernel_rfl
theorem machRuns_stand (j : Nat) (t : TypeId) (ht : Tryz.f4.params[j]? = some t) : Tryz.prog.wantsStandIn t = false := by
  rw [Tryz.params4] at ht
  have hm : t ∈ [24, 25, 26] := by simpa using Array.mem_of_getElem? ht
  have hall : ([24, 25, 26].all fun u => !Tryz.prog.wantsStandIn u) = true := by kernel_rfl
  simpa using List.all_eq_true.1 hall t hm
theorem machRuns_card_holds : Rows.MachRunsCardSaid :=
  Claim7.holds_tied_plain_at .later [] [.handle, .sentinel, .sentinel, .sentinel, .sentinel, .sentinel, .sentinel, .sentinel, .sentinel, .sentinel] true (true, "f3f0b699d4c0f6d830ceaaad620d2c695ac369f0019a723d93969ca32a1cb32c") true
    (machRuns_over machRuns_any) (fun _ h => by cases h) machRuns_wf (fun _ h => by cases h) machRuns_row_tie rfl ⟨rfl, rfl⟩ cardMain rfl
    (fun f fn hf hfn => by
      obtain rfl : f = 4 := Option.some.inj (machRuns_num.symm.trans hf) |>.symm
      obtain rfl : fn = Tryz.f4 := (Option.some.inj (Tryz.func4.symm.trans hfn)).symm
      exact ⟨cardLooks, machRuns_stand⟩)
    machRuns_goes
#print axioms machRuns_card_holds
end Go.Proofs.YtciaficoeajeaaaGreatDoor
