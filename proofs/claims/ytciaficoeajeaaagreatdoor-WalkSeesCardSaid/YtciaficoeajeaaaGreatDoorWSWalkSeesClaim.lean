/- WalkSees: for every input the law returns true, and each argument reads as it did. The card of its row, the listed package-level variables tied to the program's text by the given tie. -/
import Derived.Test.YtciaficoeajeaaaGreatDoorWSWalkSeesFrame
import Derived.Test.YtciaficoeajeaaaGreatDoorCards
import Derived.Test.YtciaficoeajeaaaGreatDoorTie
import Derived.Test.YtciaficoeajeaaaGreatDoorWSm11
import Derived.Test.YtciaficoeajeaaaGreatDoorWSm2
import Derived.SevenTiedAt
set_option linter.unusedVariables false
set_option linter.unusedSimpArgs false
set_option linter.unusedSectionVars false
namespace Go.Proofs.YtciaficoeajeaaaGreatDoor
open Go
theorem walkSees_wf : Rows.walkSeesRow.wfByText (OpenSpec.ofChange Rows.walkSeesSpec) = true := by kernel_rfl
theorem walkSees_goes : false = Rows.walkSeesRow.goesBy Tryz.pinned.checked.prog := by kernel_rfl
theorem walkSees_num : Tryz.prog.funcNamed Rows.walkSeesRow.func = some 7 := by kernel_rfl
theorem walkSees_stand (j : Nat) (t : TypeId) (ht : Tryz.f7.params[j]? = some t) : Tryz.prog.wantsStandIn t = false := by
  rw [Tryz.params7] at ht
  have hm : t ∈ [4, 3] := by simpa using Array.mem_of_getElem? ht
  have hall : ([4, 3].all fun u => !Tryz.prog.wantsStandIn u) = true := by kernel_rfl
  simpa using List.all_eq_true.1 hall t hm
theorem walkSees_card_holds : Rows.WalkSeesCardSaid :=
  Claim7.holds_tied_plain_at .later [] [.handle, .sentinel, .sentinel, .sentinel, .sentinel, .sentinel, .sentinel, .sentinel] true (true, "f3f0b699d4c0f6d830ceaaad620d2c695ac369f0019a723d93969ca32a1cb32c") true
    (walkSees_over walkSees_any) (fun _ h => by cases h) walkSees_wf (fun _ h => by cases h) walkSees_row_tie rfl ⟨rfl, rfl⟩ cardMain rfl
    (fun f fn hf hfn => by
      obtain rfl : f = 7 := Option.some.inj (walkSees_num.symm.trans hf) |>.symm
      obtain rfl : fn = Tryz.f7 := (Option.some.inj (Tryz.func7.symm.trans hfn)).symm
      exact ⟨cardLooks, walkSees_stand⟩)
    walkSees_goes
#print axioms walkSees_card_holds
end Go.Proofs.YtciaficoeajeaaaGreatDoor
