/- StackAlone: for every input the law returns true, and each argument reads as it did. The card of its row, the listed package-level variables tied to the program's text by the given tie. -/
import Derived.Test.YtppihkneeolomaaDoorSAStackAloneFrame
import Derived.Test.YtppihkneeolomaaDoorCards
import Derived.Test.YtppihkneeolomaaDoorTie
import Derived.Test.YtppihkneeolomaaDoorSAm10
import Derived.Test.YtppihkneeolomaaDoorSAm2
import Derived.SevenTiedAt
set_option linter.unusedVariables false
set_option linter.unusedSimpArgs false
set_option linter.unusedSectionVars false
namespace Go.Proofs.YtppihkneeolomaaDoor
open Go
theorem stackAlone_wf : Rows.stackAloneRow.wfByText (OpenSpec.ofChange Rows.stackAloneSpec) = true := by kernel_rfl
theorem stackAlone_goes : false = Rows.stackAloneRow.goesBy Tryd.pinned.checked.prog := by kernel_rfl
theorem stackAlone_num : Tryd.prog.funcNamed Rows.stackAloneRow.func = some 5 := by kernel_rfl
theorem stackAlone_stand (j : Nat) (t : TypeId) (ht : Tryd.f5.params[j]? = some t) : Tryd.prog.wantsStandIn t = false := by
  rw [Tryd.params5] at ht
  have hm : t ∈ [3, 59] := by simpa using Array.mem_of_getElem? ht
  have hall : ([3, 59].all fun u => !Tryd.prog.wantsStandIn u) = true := by kernel_rfl
  simpa using List.all_eq_true.1 hall t hm
theorem stackAlone_card_holds : Rows.StackAloneCardSaid :=
  Claim7.holds_tied_plain_at .later [] [.data, .data, .data, .sentinel, .sentinel, .sentinel] true (true, "dc2d514fe0b85a83f756c3c0b8fa754428ba376abef63c3610072487699a5f0c") true
    (stackAlone_over stackAlone_any) (fun _ h => by cases h) stackAlone_wf (fun _ h => by cases h) stackAlone_row_tie rfl ⟨rfl, rfl⟩ cardMain rfl
    (fun f fn hf hfn => by
      obtain rfl : f = 5 := Option.some.inj (stackAlone_num.symm.trans hf) |>.symm
      obtain rfl : fn = Tryd.f5 := (Option.some.inj (Tryd.func5.symm.trans hfn)).symm
      exact ⟨cardLooks, stackAlone_stand⟩)
    stackAlone_goes
#print axioms stackAlone_card_holds
end Go.Proofs.YtppihkneeolomaaDoor
