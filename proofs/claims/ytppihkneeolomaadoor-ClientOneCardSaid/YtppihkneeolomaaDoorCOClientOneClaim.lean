/- ClientOne: for every input the law returns true, and each argument reads as it did. The card of its row, the listed package-level variables tied to the program's text by the given tie. -/
import Derived.Test.YtppihkneeolomaaDoorCOClientOneFrame
import Derived.Test.YtppihkneeolomaaDoorCards
import Derived.Test.YtppihkneeolomaaDoorTie
import Derived.Test.YtppihkneeolomaaDoorCOClientOneW
import Derived.Test.YtppihkneeolomaaDoorCOm2
import Derived.SevenTiedAt
set_option linter.unusedVariables false
set_option linter.unusedSimpArgs false
set_option linter.unusedSectionVars false
namespace Go.Proofs.YtppihkneeolomaaDoor
open Go
theorem clientOne_wf : Rows.clientOneRow.wfByText (OpenSpec.ofChange Rows.clientOneSpec) = true := by kernel_rfl
theorem clientOne_goes : false = Rows.clientOneRow.goesBy Tryd.pinned.checked.prog := by kernel_rfl
theorem clientOne_num : Tryd.prog.funcNamed Rows.clientOneRow.func = some 6 := by kernel_rfl
theorem clientOne_stand (j : Nat) (t : TypeId) (ht : Tryd.f6.params[j]? = some t) : Tryd.prog.wantsStandIn t = false := by
  rw [Tryd.params6] at ht
  have hm : t ∈ [3, 23] := by simpa using Array.mem_of_getElem? ht
  have hall : ([3, 23].all fun u => !Tryd.prog.wantsStandIn u) = true := by kernel_rfl
  simpa using List.all_eq_true.1 hall t hm
theorem clientOne_card_holds : Rows.ClientOneCardSaid :=
  Claim7.holds_tied_plain_at .later [] [.data, .data, .data, .sentinel, .sentinel, .sentinel, .sentinel, .sentinel, .widerDeep] true (true, "dc2d514fe0b85a83f756c3c0b8fa754428ba376abef63c3610072487699a5f0c") true
    (clientOne_over clientOne_any) (fun _ h => by cases h) clientOne_wf (fun _ h => by cases h) clientOne_row_tie rfl ⟨rfl, rfl⟩ cardMain rfl
    (fun f fn hf hfn => by
      obtain rfl : f = 6 := Option.some.inj (clientOne_num.symm.trans hf) |>.symm
      obtain rfl : fn = Tryd.f6 := (Option.some.inj (Tryd.func6.symm.trans hfn)).symm
      exact ⟨cardLooks, clientOne_stand⟩)
    clientOne_goes
#print axioms clientOne_card_holds
end Go.Proofs.YtppihkneeolomaaDoor
