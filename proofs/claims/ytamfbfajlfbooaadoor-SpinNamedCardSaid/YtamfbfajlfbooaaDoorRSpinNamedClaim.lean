/- SpinNamed: for every input the law returns true, and each argument reads as it did. The card of its row, the listed package-level variables tied to the program's text by the given tie. -/
import Derived.Test.YtamfbfajlfbooaaDoorRSpinNamedFrame
import Derived.Test.YtamfbfajlfbooaaDoorCards
import Derived.Test.YtamfbfajlfbooaaDoorTie
import Derived.Test.YtamfbfajlfbooaaDoorRSpinNamedW
import Derived.Test.YtamfbfajlfbooaaDoorRCardP
import Derived.SevenTiedAt
set_option linter.unusedVariables false
set_option linter.unusedSimpArgs false
set_option linter.unusedSectionVars false
namespace Go.Proofs.YtamfbfajlfbooaaDoor
open Go
theorem spinNamed_wf : Rows.spinNamedRow.wfByText (OpenSpec.ofChange Rows.spinNamedSpec) = true := by kernel_rfl
theorem spinNamed_goes : false = Rows.spinNamedRow.goesBy Tryd.pinned.checked.prog := by kernel_rfl
theorem spinNamed_num : Tryd.prog.funcNamed Rows.spinNamedRow.func = some 16 := by kernel_rfl
theorem spinNamed_stand (j : Nat) (t : TypeId) (ht : Tryd.f16.params[j]? = some t) : Tryd.prog.wantsStandIn t = false := by
  rw [Tryd.params16] at ht
  have hm : t ∈ [9, 28] := by simpa using Array.mem_of_getElem? ht
  have hall : ([9, 28].all fun u => !Tryd.prog.wantsStandIn u) = true := by kernel_rfl
  simpa using List.all_eq_true.1 hall t hm
theorem spinNamed_card_holds : Rows.SpinNamedCardSaid :=
  Claim7.holds_tied_plain_at .later [] [.handle, .sentinel, .sentinel, .sentinel, .sentinel, .sentinel, .sentinel, .sentinel, .sentinel, .sentinel] true (true, "c78d9768c950c5411273d3df1dce0e675f5ac73a2e1506b9ff11d1e46d704fb5") true
    (spinNamed_over spinNamed_any) (fun _ h => by cases h) spinNamed_wf (fun _ h => by cases h) spinNamed_row_tie rfl ⟨rfl, rfl⟩ cardMain rfl
    (fun f fn hf hfn => by
      obtain rfl : f = 16 := Option.some.inj (spinNamed_num.symm.trans hf) |>.symm
      obtain rfl : fn = Tryd.f16 := (Option.some.inj (Tryd.func16.symm.trans hfn)).symm
      exact ⟨cardLooks, spinNamed_stand⟩)
    spinNamed_goes
#print axioms spinNamed_card_holds
end Go.Proofs.YtamfbfajlfbooaaDoor
