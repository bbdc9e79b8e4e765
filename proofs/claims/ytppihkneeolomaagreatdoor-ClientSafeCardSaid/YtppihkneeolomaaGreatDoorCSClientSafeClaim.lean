/- ClientSafe: for every input the law returns true, and each argument reads as it did. The card of its row, the listed package-level variables tied to the program's text by the given tie. -/
import Derived.Test.YtppihkneeolomaaGreatDoorCSClientSafeFrame
import Derived.Test.YtppihkneeolomaaGreatDoorCards
import Derived.Test.YtppihkneeolomaaGreatDoorTie
import Derived.Test.YtppihkneeolomaaGreatDoorCSm11
import Derived.Test.YtppihkneeolomaaGreatDoorCSm2
import Derived.SevenTiedAt
set_option linter.unusedVariables false
set_option linter.unusedSimpArgs false
set_option linter.unusedSectionVars false
namespace Go.Proofs.YtppihkneeolomaaGreatDoor
open Go
theorem clientSafe_wf : Rows.clientSafeRow.wfByText (OpenSpec.ofChange Rows.clientSafeSpec) = true := by kernel_rfl
theorem clientSafe_goes : false = Rows.clientSafeRow.goesBy Tryz.pinned.checked.prog := by kernel_rfl
theorem clientSafe_num : Tryz.prog.funcNamed Rows.clientSafeRow.func = some 4 := by kernel_rfl
theorem clientSafe_stand (j : Nat) (t : TypeId) (ht : Tryz.f4.params[j]? = some t) : Tryz.prog.wantsStandIn t = false := by
  rw [Tryz.params4] at ht
  have hm : t ∈ [3, 22, 23] := by simpa using Array.mem_of_getElem? ht
  have hall : ([3, 22, 23].all fun u => !Tryz.prog.wantsStandIn u) = true := by kernel_rfl
  simpa using List.all_eq_true.1 hall t hm
theorem clientSafe_card_holds : Rows.ClientSafeCardSaid :=
  Claim7.holds_tied_plain_at .later [] [.data, .data, .data, .sentinel, .sentinel, .sentinel, .sentinel, .sentinel, .widerDeep] true (true, "e8a94b9b707579927fe11eacfcf8b017beebb29064060a7a3843226d2001e800") true
    (clientSafe_over clientSafe_any) (fun _ h => by cases h) clientSafe_wf (fun _ h => by cases h) clientSafe_row_tie rfl ⟨rfl, rfl⟩ cardMain rfl
    (fun f fn hf hfn => by
      obtain rfl : f = 4 := Option.some.inj (clientSafe_num.symm.trans hf) |>.symm
      obtain rfl : fn = Tryz.f4 := (Option.some.inj (Tryz.func4.symm.trans hfn)).symm
      exact ⟨cardLooks, clientSafe_stand⟩)
    clientSafe_goes
#print axioms clientSafe_card_holds
end Go.Proofs.YtppihkneeolomaaGreatDoor
