/- GraceBursts: for every input the law returns true, and each argument reads as it did. The card of its row, the listed package-level variables tied to the program's text by the given tie. -/
import Derived.Test.YtamfbfajlfbooaaDoorSGraceBurstsFrame
import Derived.Test.YtamfbfajlfbooaaDoorCards
import Derived.Test.YtamfbfajlfbooaaDoorTie
import Derived.Test.YtamfbfajlfbooaaDoorSGraceBurstsW
import Derived.Test.YtamfbfajlfbooaaDoorSCardP
import Derived.SevenTiedAt
set_option linter.unusedVariables false
set_option linter.unusedSimpArgs false
set_option linter.unusedSectionVars false
namespace Go.Proofs.YtamfbfajlfbooaaDoor
open Go
theorem graceBursts_wf : Rows.graceBurstsRow.wfByText (OpenSpec.ofChange Rows.graceBurstsSpec) = true := by kernel_rfl
theorem graceBursts_goes : false = Rows.graceBurstsRow.goesBy Tryd.pinned.checked.prog := by kernel_rfl
theorem graceBursts_num : Tryd.prog.funcNamed Rows.graceBurstsRow.func = some 7 := by kernel_rfl
theorem graceBursts_stand (j : Nat) (t : TypeId) (ht : Tryd.f7.params[j]? = some t) : Tryd.prog.wantsStandIn t = false := by
  rw [Tryd.params7] at ht
  have hm : t ∈ [3, 79, 23, 23] := by simpa using Array.mem_of_getElem? ht
  have hall : ([3, 79, 23, 23].all fun u => !Tryd.prog.wantsStandIn u) = true := by kernel_rfl
  simpa using List.all_eq_true.1 hall t hm
theorem graceBursts_card_holds : Rows.GraceBurstsCardSaid :=
  Claim7.holds_tied_plain_at .later [] [.sentinel, .sentinel] true (true, "c78d9768c950c5411273d3df1dce0e675f5ac73a2e1506b9ff11d1e46d704fb5") true
    (graceBursts_over graceBursts_any) (fun _ h => by cases h) graceBursts_wf (fun _ h => by cases h) graceBursts_row_tie rfl ⟨rfl, rfl⟩ cardMain rfl
    (fun f fn hf hfn => by
      obtain rfl : f = 7 := Option.some.inj (graceBursts_num.symm.trans hf) |>.symm
      obtain rfl : fn = Tryd.f7 := (Option.some.inj (Tryd.func7.symm.trans hfn)).symm
      exact ⟨cardLooks, graceBursts_stand⟩)
    graceBursts_goes
#print axioms graceBursts_card_holds
end Go.Proofs.YtamfbfajlfbooaaDoor
