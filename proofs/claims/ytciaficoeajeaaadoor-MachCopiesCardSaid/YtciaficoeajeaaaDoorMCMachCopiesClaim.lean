/- MachCopies: for every input the law returns true, and each argument reads as it did. The card of its row, the listed package-level variables tied to the program's text by the given tie. -/
import Derived.Test.YtciaficoeajeaaaDoorMCMachCopiesFrame
import Derived.Test.YtciaficoeajeaaaDoorCards
import Derived.Test.YtciaficoeajeaaaDoorTie
import Derived.Test.YtciaficoeajeaaaDoorMCm11
import Derived.Test.YtciaficoeajeaaaDoorMCm2
import Derived.SevenTiedAt
set_option linter.unusedVariables false
set_option linter.unusedSimpArgs false
set_option linter.unusedSectionVars false
namespace Go.Proofs.YtciaficoeajeaaaDoor
open Go
theorem machCopies_wf : Rows.machCopiesRow.wfByText (OpenSpec.ofChange Rows.machCopiesSpec) = true := by kernel_rfl
theorem machCopies_goes : false = Rows.machCopiesRow.goesBy Tryd.pinned.checked.prog := by kernel_rfl
theorem machCopies_num : Tryd.prog.funcNamed Rows.machCopiesRow.func = some 3 := by kernel_rfl
theorem machCopies_stand (j : Nat) (t : TypeId) (ht : Tryd.f3.params[j]? = some t) : Tryd.prog.wantsStandIn t = false := by
  rw [Tryd.params3] at ht
  have hm : t ∈ [24, 25, 26, 26] := by simpa using Array.mem_of_getElem? ht
  have hall : ([24, 25, 26, 26].all fun u => !Tryd.prog.wantsStandIn u) = true := by kernel_rfl
  simpa using List.all_eq_true.1 hall t hm
theorem machCopies_card_holds : Rows.MachCopiesCardSaid :=
  Claim7.holds_tied_plain_at .later [] [.handle, .sentinel, .sentinel, .sentinel, .sentinel, .sentinel, .sentinel, .sentinel, .sentinel, .sentinel] true (true, "4f106b0125721aff6a98e5d5713c17e11f566787474dc4eb442cc984df1c849e") true
    (machCopies_over machCopies_any) (fun _ h => by cases h) machCopies_wf (fun _ h => by cases h) machCopies_row_tie rfl ⟨rfl, rfl⟩ cardMain rfl
    (fun f fn hf hfn => by
      obtain rfl : f = 3 := Option.some.inj (machCopies_num.symm.trans hf) |>.symm
      obtain rfl : fn = Tryd.f3 := (Option.some.inj (Tryd.func3.symm.trans hfn)).symm
      exact ⟨cardLooks, machCopies_stand⟩)
    machCopies_goes
#print axioms machCopies_card_holds
end Go.Proofs.YtciaficoeajeaaaDoor
