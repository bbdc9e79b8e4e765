/- StackCode: for every input the law returns true, and each argument reads as it did. The card of its row, the listed package-level variables tied to the program's text by the given tie. -/
import Derived.Test.YtamfbfajlfbooaaDoorRStackCodeFrame
import Derived.Test.YtamfbfajlfbooaaDoorCards
import Derived.Test.YtamfbfajlfbooaaDoorTie
import Derived.Test.YtamfbfajlfbooaaDoorRStackCodeW
import Derived.Test.YtamfbfajlfbooaaDoorRCardP
import Derived.SevenTiedAt
set_option linter.unusedVariables false
set_option linter.unusedSimpArgs false
set_option linter.unusedSectionVars false
namespace Go.Proofs.YtamfbfajlfbooaaDoor
open Go
theorem stackCode_wf : Rows.stackCodeRow.wfByText (OpenSpec.ofChange Rows.stackCodeSpec) = true := by kernel_rfl
theorem stackCode_goes : false = Rows.stackCodeRow.goesBy Tryd.pinned.checked.prog := by kernel_rfl
theorem stackCode_num : Tryd.prog.funcNamed Rows.stackCodeRow.func = some 12 := by kernel_rfl
theorem stackCode_stand (j : Nat) (t : TypeId) (ht : Tryd.f12.params[j]? = some t) : Tryd.prog.wantsStandIn t = false := by
  rw [Tryd.params12] at ht
  have hm : t ∈ [9] := by simpa using Array.mem_of_getElem? ht
  have hall : ([9].all fun u => !Tryd.prog.wantsStandIn u) = true := by kernel_rfl
  simpa using List.all_eq_true.1 hall t hm
theorem stackCode_card_holds : Rows.StackCodeCardSaid :=
  Claim7.holds_tied_plain_at .later [] [.handle, .sentinel, .sentinel, .sentinel, .sentinel, .sentinel, .sentinel, .sentinel, .sentinel, .sentinel] true (true, "c78d9768c950c5411273d3df1dce0e675f5ac73a2e1506b9ff11d1e46d704fb5") true
    (stackCode_over stackCode_any) (fun _ h => by cases h) stackCode_wf (fun _ h => by cases h) stackCode_row_tie rfl ⟨rfl, rfl⟩ cardMain rfl
    (fun f fn hf hfn => by
      obtain rfl : f = 12 := Option.some.inj (stackCode_num.symm.trans hf) |>.symm
      obtain rfl : fn = Tryd.f12 := (Option.some.inj (Tryd.func12.symm.trans hfn)).symm
      exact ⟨cardLooks, stackCode_stand⟩)
    stackCode_goes
#print axioms stackCode_card_holds
end Go.Proofs.YtamfbfajlfbooaaDoor
