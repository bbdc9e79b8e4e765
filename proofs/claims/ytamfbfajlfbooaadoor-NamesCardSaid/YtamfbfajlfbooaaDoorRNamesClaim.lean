/- Names: for every input the law returns true, and each argument reads as it did. The card of its row, the listed package-level variables tied to the program's text by the given tie. -/
import Derived.Test.YtamfbfajlfbooaaDoorRNamesFrame
import Derived.Test.YtamfbfajlfbooaaDoorCards
import Derived.Test.YtamfbfajlfbooaaDoorTie
import Derived.Test.YtamfbfajlfbooaaDoorRNamesW
import Derived.Test.YtamfbfajlfbooaaDoorRCardP
import Derived.SevenTiedAt
set_option linter.unusedVariables false
set_option linter.unusedSimpArgs false
set_option linter.unusedSectionVars false
namespace Go.Proofs.YtamfbfajlfbooaaDoor
open Go
theorem names_wf : Rows.namesRow.wfByText (OpenSpec.ofChange Rows.namesSpec) = true := by kernel_rfl
theorem names_goes : false = Rows.namesRow.goesBy Tryd.pinned.checked.prog := by kernel_rfl
theorem names_num : Tryd.prog.funcNamed Rows.namesRow.func = some 6 := by kernel_rfl
theorem names_stand (j : Nat) (t : TypeId) (ht : Tryd.f6.params[j]? = some t) : Tryd.prog.wantsStandIn t = false := by
  rw [Tryd.params6] at ht
  simp at ht
theorem names_card_holds : Rows.NamesCardSaid :=
  Claim7.holds_tied_plain_at .later [] [.handle, .sentinel, .sentinel, .sentinel, .sentinel, .sentinel, .sentinel, .sentinel, .sentinel, .sentinel] true (true, "c78d9768c950c5411273d3df1dce0e675f5ac73a2e1506b9ff11d1e46d704fb5") true
    (names_over names_any) (fun _ h => by cases h) names_wf (fun _ h => by cases h) names_row_tie rfl ⟨rfl, rfl⟩ cardMain rfl
    (fun f fn hf hfn => by
      obtain rfl : f = 6 := Option.some.inj (names_num.symm.trans hf) |>.symm
      obtain rfl : fn = Tryd.f6 := (Option.some.inj (Tryd.func6.symm.trans hfn)).symm
      exact ⟨cardLooks, names_stand⟩)
    names_goes
#print axioms names_card_holds
end Go.Proofs.YtamfbfajlfbooaaDoor
