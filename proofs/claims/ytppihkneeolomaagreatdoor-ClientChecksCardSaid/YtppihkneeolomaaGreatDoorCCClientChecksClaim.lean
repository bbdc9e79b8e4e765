/- ClientChecks: for every input the law returns true, and each argument reads as it did. The card of its row, the listed package-level variables tied to the program's text by the given tie. -/
import Derived.Test.YtppihkneeolomaaGreatDoorCCClientChecksFrame
import Derived.Test.YtppihkneeolomaaGreatDoorCards
import Derived.Test.YtppihkneeolomaaGreatDoorTie
import Derived.Test.YtppihkneeolomaaGreatDoorCCm11
import Derived.Test.YtppihkneeolomaaGreatDoorCCm2
import Derived.SevenTiedAt
set_option linter.unusedVariables false
set_option linter.unusedSimpArgs false
set_option linter.unusedSectionVars false
namespace Go.Proofs.YtppihkneeolomaaGreatDoor
open Go
theorem clientChecks_wf : Rows.clientChecksRow.wfByText (OpenSpec.ofChange Rows.clientChecksSpec) = true := by kernel_rfl
theorem clientChecks_goes : false = Rows.clientChecksRow.goesBy Tryz.pinned.checked.prog := by kernel_rfl
theorem clientChecks_num : Tryz.prog.funcNamed Rows.clientChecksRow.func = some 7 := by kernel_rfl
theorem clientChecks_stand (j : Nat) (t : TypeId) (ht : Tryz.f7.params[j]? = some t) : Tryz.prog.wantsStandIn t = false := by
  rw [Tryz.params7] at ht
  have hm : t ∈ [22] := by simpa using Array.mem_of_getElem? ht
  have hall : ([22].all fun u => !Tryz.prog.wantsStandIn u) = true := by kernel_rfl
  simpa using List.all_eq_true.1 hall t hm
theorem clientChecks_card_holds : Rows.ClientChecksCardSaid :=
  Claim7.holds_tied_plain_at .later [] [.data, .data, .data, .handle, .sentinel, .sentinel, .sentinel, .sentinel, .sentinel, .sentinel, .sentinel, .sentinel, .sentinel, .widerDeep] true (true, "e8a94b9b707579927fe11eacfcf8b017beebb29064060a7a3843226d2001e800") true
    (clientChecks_over clientChecks_any) (fun _ h => by cases h) clientChecks_wf (fun _ h => by cases h) clientChecks_row_tie rfl ⟨rfl, rfl⟩ cardMain rfl
    (fun f fn hf hfn => by
      obtain rfl : f = 7 := Option.some.inj (clientChecks_num.symm.trans hf) |>.symm
      obtain rfl : fn = Tryz.f7 := (Option.some.inj (Tryz.func7.symm.trans hfn)).symm
      exact ⟨cardLooks, clientChecks_stand⟩)
    clientChecks_goes
#print axioms clientChecks_card_holds
end Go.Proofs.YtppihkneeolomaaGreatDoor
