/- GraceSafe: for every input the law returns true, and each argument reads as it did. The card of its row, the listed package-level variables tied to the program's text by the given tie. -/
import Derived.Test.YtamfbfajlfbooaaDoorSGraceSafeFrame
import Derived.Test.YtamfbfajlfbooaaDoorCards
import Derived.Test.YtamfbfajlfbooaaDoorTie
import Derived.Test.YtamfbfajlfbooaaDoorSGraceSafeW
import Derived.Test.YtamfbfajlfbooaaDoorSCardP
import Derived.SevenTiedAt
set_option linter.unusedVariables false
set_option linter.unusedSimpArgs false
set_option linter.unusedSectionVars false
namespace Go.Proofs.YtamfbfajlfbooaaDoor
open Go
theorem graceSafe_wf : Rows.graceSafeRow.wfByText (OpenSpec.ofChange Rows.graceSafeSpec) = true := by kernel_rfl
theorem graceSafe_goes : false = Rows.graceSafeRow.goesBy Tryd.pinned.checked.prog := by kernel_rfl
theorem graceSafe_num : Tryd.prog.funcNamed Rows.graceSafeRow.func = some 10 := by kernel_rfl
theorem graceSafe_stand (j : Nat) (t : TypeId) (ht : Tryd.f10.params[j]? = some t) : Tryd.prog.wantsStandIn t = false := by
  rw [Tryd.params10] at ht
  have hm : t ∈ [3, 79, 23] := by simpa using Array.mem_of_getElem? ht
  have hall : ([3, 79, 23].all fun u => !Tryd.prog.wantsStandIn u) = true := by kernel_rfl
  simpa using List.all_eq_true.1 hall t hm
theorem graceSafe_card_holds : Rows.GraceSafeCardSaid :=
  Claim7.holds_tied_plain_at .later [] [.sentinel, .sentinel] true (true, "c78d9768c950c5411273d3df1dce0e675f5ac73a2e1506b9ff11d1e46d704fb5") true
    (graceSafe_over graceSafe_any) (fun _ h => by cases h) graceSafe_wf (fun _ h => by cases h) graceSafe_row_tie rfl ⟨rfl, rfl⟩ cardMain rfl
    (fun f fn hf hfn => by
      obtain rfl : f = 10 := Option.some.inj (graceSafe_num.symm.trans hf) |>.symm
      obtain rfl : fn = Tryd.f10 := (Option.some.inj (Tryd.func10.symm.trans hfn)).symm
      exact ⟨cardLooks, graceSafe_stand⟩)
    graceSafe_goes
#print axioms graceSafe_card_holds
end Go.Proofs.YtamfbfajlfbooaaDoor
