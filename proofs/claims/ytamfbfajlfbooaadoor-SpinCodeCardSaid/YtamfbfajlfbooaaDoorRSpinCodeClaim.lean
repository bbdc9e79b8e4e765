/- SpinCode: for every input the law returns true, and each argument reads as it did. The card of its row, the listed package-level variables tied to the program's text by the given tie. -/
import Derived.Test.YtamfbfajlfbooaaDoorRSpinCodeFrame
import Derived.Test.YtamfbfajlfbooaaDoorCards
import Derived.Test.YtamfbfajlfbooaaDoorTie
import Derived.Test.YtamfbfajlfbooaaDoorRSpinCodeW
import Derived.Test.YtamfbfajlfbooaaDoorRCardP
import Derived.SevenTiedAt
set_option linter.unusedVariables false
set_option linter.unusedSimpArgs false
set_option linter.unusedSectionVars false
namespace Go.Proofs.YtamfbfajlfbooaaDoor
open Go
theorem spinCode_wf : Rows.spinCodeRow.wfByText (OpenSpec.ofChange Rows.spinCodeSpec) = true := by kernel_rfl
theorem spinCode_goes : false = Rows.spinCodeRow.goesBy Tryd.pinned.checked.prog := by kernel_rfl
theorem spinCode_num : Tryd.prog.funcNamed Rows.spinCodeRow.func = some 13 := by kernel_rfl
theorem spinCode_stand (j : Nat) (t : TypeId) (ht : Tryd.f13.params[j]? = some t) : Tryd.prog.wantsStandIn t = false := by
  rw [Tryd.params13] at ht
  have hm : t ∈ [9, 3, 3, 3] := by simpa using Array.mem_of_getElem? ht
  have hall : ([9, 3, 3, 3].all fun u => !Tryd.prog.wantsStandIn u) = true := by kernel_rfl
  simpa using List.all_eq_true.1 hall t hm
theorem spinCode_card_holds : Rows.SpinCodeCardSaid :=
  Claim7.holds_tied_plain_at .later [] [.handle, .sentinel, .sentinel, .sentinel, .sentinel, .sentinel, .sentinel, .sentinel, .sentinel, .sentinel] true (true, "c78d9768c950c5411273d3df1dce0e675f5ac73a2e1506b9ff11d1e46d704fb5") true
    (spinCode_over spinCode_any) (fun _ h => by cases h) spinCode_wf (fun _ h => by cases h) spinCode_row_tie rfl ⟨rfl, rfl⟩ cardMain rfl
    (fun f fn hf hfn => by
      obtain rfl : f = 13 := Option.some.inj (spinCode_num.symm.trans hf) |>.symm
      obtain rfl : fn = Tryd.f13 := (Option.some.inj (Tryd.func13.symm.trans hfn)).symm
      exact ⟨cardLooks, spinCode_stand⟩)
    spinCode_goes
#print axioms spinCode_card_holds
end Go.Proofs.YtamfbfajlfbooaaDoor
