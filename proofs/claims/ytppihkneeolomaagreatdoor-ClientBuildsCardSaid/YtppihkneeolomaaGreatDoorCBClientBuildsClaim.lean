/- ClientBuilds: for every input the law returns true, and each argument reads as it did. The card of its row, the listed package-level variables tied to the program's text by the given tie. -/
import Derived.Test.YtppihkneeolomaaGreatDoorCBClientBuildsFrame
import Derived.Test.YtppihkneeolomaaGreatDoorCards
import Derived.Test.YtppihkneeolomaaGreatDoorTie
import Derived.Test.YtppihkneeolomaaGreatDoorCBm11
import Derived.Test.YtppihkneeolomaaGreatDoorCBm2
import Derived.SevenTiedAt
set_option linter.unusedVariables false
set_option linter.unusedSimpArgs false
set_option linter.unusedSectionVars false
namespace Go.Proofs.YtppihkneeolomaaGreatDoor
open Go
theorem clientBuilds_wf : Rows.clientBuildsRow.wfByText (OpenSpec.ofChange Rows.clientBuildsSpec) = true := by kernel_rfl
theorem clientBuilds_goes : false = Rows.clientBuildsRow.goesBy Tryz.pinned.checked.prog := by kernel_rfl
theorem clientBuilds_num : Tryz.prog.funcNamed Rows.clientBuildsRow.func = some 6 := by kernel_rfl
theorem clientBuilds_stand (j : Nat) (t : TypeId) (ht : Tryz.f6.params[j]? = some t) : Tryz.prog.wantsStandIn t = false := by
  rw [Tryz.params6] at ht
  have hm : t ∈ [3, 22] := by simpa using Array.mem_of_getElem? ht
  have hall : ([3, 22].all fun u => !Tryz.prog.wantsStandIn u) = true := by kernel_rfl
  simpa using List.all_eq_true.1 hall t hm
theorem clientBuilds_card_holds : Rows.ClientBuildsCardSaid :=
  Claim7.holds_tied_plain_at .later [] [.data, .data, .data, .handle, .sentinel, .sentinel, .sentinel, .sentinel, .sentinel, .sentinel, .sentinel, .sentinel, .sentinel, .widerDeep] true (true, "e8a94b9b707579927fe11eacfcf8b017beebb29064060a7a3843226d2001e800") true
    (clientBuilds_over clientBuilds_any) (fun _ h => by cases h) clientBuilds_wf (fun _ h => by cases h) clientBuilds_row_tie rfl ⟨rfl, rfl⟩ cardMain rfl
    (fun f fn hf hfn => by
      obtain rfl : f = 6 := Option.some.inj (clientBuilds_num.symm.trans hf) |>.symm
      obtain rfl : fn = Tryz.f6 := (Option.some.inj (Tryz.func6.symm.trans hfn)).symm
      exact ⟨cardLooks, clientBuilds_stand⟩)
    clientBuilds_goes
#print axioms clientBuilds_card_holds
end Go.Proofs.YtppihkneeolomaaGreatDoor
