/- GraceEnds: for every input the law returns true, and each argument reads as it did. The card of its row, the listed package-level variables tied to the program's text by the given tie. -/
import Derived.Test.YtamfbfajlfbooaaDoorEGraceEndsFrame
import Derived.Test.YtamfbfajlfbooaaDoorCards
import Derived.Test.YtamfbfajlfbooaaDoorTie
import Derived.Test.YtamfbfajlfbooaaDoorEGraceEndsW
import Derived.Test.YtamfbfajlfbooaaDoorECardP
import Derived.SevenTiedAt
set_option linter.unusedVariables false
set_option linter.unusedSimpArgs false
set_option linter.unusedSectionVars false
namespace Go.Proofs.YtamfbfajlfbooaaDoor
open Go
theorem graceEnds_wf : Rows.graceEndsRow.wfByText (OpenSpec.ofChange Rows.graceEndsSpec) = true := by kernel_rfl
theorem graceEnds_goes : false = Rows.graceEndsRow.goesBy Tryd.pinned.checked.prog := by kernel_rfl
theorem graceEnds_num : Tryd.prog.funcNamed Rows.graceEndsRow.func = some 8 := by kernel_rfl
theorem graceEnds_stand (j : Nat) (t : TypeId) (ht : Tryd.f8.params[j]? = some t) : Tryd.prog.wantsStandIn t = false := by
  rw [Tryd.params8] at ht
  have hm : t ∈ [3, 79] := by simpa using Array.mem_of_getElem? ht
  have hall : ([3, 79].all fun u => !Tryd.prog.wantsStandIn u) = true := by kernel_rfl
  simpa using List.all_eq_true.1 hall t hm
theorem graceEnds_card_holds : Rows.GraceEndsCardSaid :=
  Claim7.holds_tied_plain_at .later [] [.sentinel, .sentinel] true (true, "c78d9768c950c5411273d3df1dce0e675f5ac73a2e1506b9ff11d1e46d704fb5") true
    (graceEnds_over graceEnds_any) (fun _ h => by cases h) graceEnds_wf (fun _ h => by cases h) graceEnds_row_tie rfl ⟨rfl, rfl⟩ cardMain rfl
    (fun f fn hf hfn => by
      obtain rfl : f = 8 := Option.some.inj (graceEnds_num.symm.trans hf) |>.symm
      obtain rfl : fn = Tryd.f8 := (Option.some.inj (Tryd.func8.symm.trans hfn)).symm
      exact ⟨cardLooks, graceEnds_stand⟩)
    graceEnds_goes
#print axioms graceEnds_card_holds
end Go.Proofs.YtamfbfajlfbooaaDoor
