/- GraceNone: for every input the law returns true, and each argument reads as it did. The card of its row, the listed package-level variables tied to the program's text by the given tie. -/
import Derived.Test.YtamfbfajlfbooaaDoorNGraceNoneFrame
import Derived.Test.YtamfbfajlfbooaaDoorCards
import Derived.Test.YtamfbfajlfbooaaDoorTie
import Derived.Test.YtamfbfajlfbooaaDoorNGraceNoneW
import Derived.Test.YtamfbfajlfbooaaDoorNCardP
import Derived.SevenTiedAt
set_option linter.unusedVariables false
set_option linter.unusedSimpArgs false
set_option linter.unusedSectionVars false
namespace Go.Proofs.YtamfbfajlfbooaaDoor
open Go
theorem graceNone_wf : Rows.graceNoneRow.wfByText (OpenSpec.ofChange Rows.graceNoneSpec) = true := by kernel_rfl
theorem graceNone_goes : false = Rows.graceNoneRow.goesBy Tryd.pinned.checked.prog := by kernel_rfl
theorem graceNone_num : Tryd.prog.funcNamed Rows.graceNoneRow.func = some 9 := by kernel_rfl
theorem graceNone_stand (j : Nat) (t : TypeId) (ht : Tryd.f9.params[j]? = some t) : Tryd.prog.wantsStandIn t = false := by
  rw [Tryd.params9] at ht
  have hm : t ∈ [3, 3] := by simpa using Array.mem_of_getElem? ht
  have hall : ([3, 3].all fun u => !Tryd.prog.wantsStandIn u) = true := by kernel_rfl
  simpa using List.all_eq_true.1 hall t hm
theorem graceNone_card_holds : Rows.GraceNoneCardSaid :=
  Claim7.holds_tied_plain_at .later [] [.sentinel, .sentinel] true (true, "c78d9768c950c5411273d3df1dce0e675f5ac73a2e1506b9ff11d1e46d704fb5") true
    (graceNone_over graceNone_any) (fun _ h => by cases h) graceNone_wf (fun _ h => by cases h) graceNone_row_tie rfl ⟨rfl, rfl⟩ cardMain rfl
    (fun f fn hf hfn => by
      obtain rfl : f = 9 := Option.some.inj (graceNone_num.symm.trans hf) |>.symm
      obtain rfl : fn = Tryd.f9 := (Option.some.inj (Tryd.func9.symm.trans hfn)).symm
      exact ⟨cardLooks, graceNone_stand⟩)
    graceNone_goes
#print axioms graceNone_card_holds
end Go.Proofs.YtamfbfajlfbooaaDoor
