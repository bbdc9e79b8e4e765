/- GraceCode: for every input the law returns true, and each argument reads as it did. The card of its row, the listed package-level variables tied to the program's text by the given tie. -/
import Derived.Test.YtamfbfajlfbooaaDoorGGraceCodeFrame
import Derived.Test.YtamfbfajlfbooaaDoorCards
import Derived.Test.YtamfbfajlfbooaaDoorTie
import Derived.Test.YtamfbfajlfbooaaDoorGGraceCodeW
import Derived.Test.YtamfbfajlfbooaaDoorGCardP
import Derived.SevenTiedAt
set_option linter.unusedVariables false
set_option linter.unusedSimpArgs false
set_option linter.unusedSectionVars false
namespace Go.Proofs.YtamfbfajlfbooaaDoor
open Go
theorem graceCode_wf : Rows.graceCodeRow.wfByText (OpenSpec.ofChange Rows.graceCodeSpec) = true := by kernel_rfl
theorem graceCode_goes : false = Rows.graceCodeRow.goesBy Tryd.pinned.checked.prog := by kernel_rfl
theorem graceCode_num : Tryd.prog.funcNamed Rows.graceCodeRow.func = some 19 := by kernel_rfl
theorem graceCode_stand (j : Nat) (t : TypeId) (ht : Tryd.f19.params[j]? = some t) : Tryd.prog.wantsStandIn t = false := by
  rw [Tryd.params19] at ht
  have hm : t ∈ [3, 9] := by simpa using Array.mem_of_getElem? ht
  have hall : ([3, 9].all fun u => !Tryd.prog.wantsStandIn u) = true := by kernel_rfl
  simpa using List.all_eq_true.1 hall t hm
theorem graceCode_card_holds : Rows.GraceCodeCardSaid :=
  Claim7.holds_tied_plain_at .later [] [.handle, .sentinel, .sentinel, .sentinel, .sentinel, .sentinel, .sentinel, .sentinel, .sentinel, .sentinel] true (true, "c78d9768c950c5411273d3df1dce0e675f5ac73a2e1506b9ff11d1e46d704fb5") true
    (graceCode_over graceCode_any) (fun _ h => by cases h) graceCode_wf (fun _ h => by cases h) graceCode_row_tie rfl ⟨rfl, rfl⟩ cardMain rfl
    (fun f fn hf hfn => by
      obtain rfl : f = 19 := Option.some.inj (graceCode_num.symm.trans hf) |>.symm
      obtain rfl : fn = Tryd.f19 := (Option.some.inj (Tryd.func19.symm.trans hfn)).symm
      exact ⟨cardLooks, graceCode_stand⟩)
    graceCode_goes
#print axioms graceCode_card_holds
end Go.Proofs.YtamfbfajlfbooaaDoor
