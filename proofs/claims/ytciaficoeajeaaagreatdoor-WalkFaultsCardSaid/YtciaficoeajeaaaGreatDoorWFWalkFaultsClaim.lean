/- WalkFaults: for every input the law returns true, and each argument reads as it did. The card of its row, the listed package-level variables tied to the program's text by the given tie. -/
import Derived.Test.YtciaficoeajeaaaGreatDoorWFWalkFaultsFrame
import Derived.Test.YtciaficoeajeaaaGreatDoorCards
import Derived.Test.YtciaficoeajeaaaGreatDoorTie
import Derived.Test.YtciaficoeajeaaaGreatDoorWFm11
import Derived.Test.YtciaficoeajeaaaGreatDoorWFm2
import Derived.SevenTiedAt
set_option linter.unusedVariables false
set_option linter.unusedSimpArgs false
set_option linter.unusedSectionVars false
namespace Go.Proofs.YtciaficoeajeaaaGreatDoor
open Go
theorem walkFaults_wf : Rows.walkFaultsRow.wfByText (OpenSpec.ofChange Rows.walkFaultsSpec) = true := by kernel_rfl
theorem walkFaults_goes : false = Rows.walkFaultsRow.goesBy Tryz.pinned.checked.prog := by kernel_rfl
theorem walkFaults_num : Tryz.prog.funcNamed Rows.walkFaultsRow.func = some 6 := by kernel_rfl
theorem walkFaults_stand (j : Nat) (t : TypeId) (ht : Tryz.f6.params[j]? = some t) : Tryz.prog.wantsStandIn t = false := by
  rw [Tryz.params6] at ht
  have hm : t ∈ [24, 25, 26] := by simpa using Array.mem_of_getElem? ht
  have hall : ([24, 25, 26].all fun u => !Tryz.prog.wantsStandIn u) = true := by kernel_rfl
  simpa using List.all_eq_true.1 hall t hm
theorem walkFaults_card_holds : Rows.WalkFaultsCardSaid :=
  Claim7.holds_tied_plain_at .later [] [.handle, .sentinel, .sentinel, .sentinel, .sentinel, .sentinel, .sentinel, .sentinel] true (true, "f3f0b699d4c0f6d830ceaaad620d2c695ac369f0019a723d93969ca32a1cb32c") true
    (walkFaults_over walkFaults_any) (fun _ h => by cases h) walkFaults_wf (fun _ h => by cases h) walkFaults_row_tie rfl ⟨rfl, rfl⟩ cardMain rfl
    (fun f fn hf hfn => by
      obtain rfl : f = 6 := Option.some.inj (walkFaults_num.symm.trans hf) |>.symm
      obtain rfl : fn = Tryz.f6 := (Option.some.inj (Tryz.func6.symm.trans hfn)).symm
      exact ⟨cardLooks, walkFaults_stand⟩)
    walkFaults_goes
#print axioms walkFaults_card_holds
end Go.Proofs.YtciaficoeajeaaaGreatDoor
