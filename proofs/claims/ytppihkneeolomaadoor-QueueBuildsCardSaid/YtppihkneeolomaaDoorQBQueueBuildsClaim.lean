/- QueueBuilds: for every input the law returns true, and each argument reads as it did. The card of its row, the listed package-level variables tied to the program's text by the given tie. -/
import Derived.Test.YtppihkneeolomaaDoorQBQueueBuildsFrame
import Derived.Test.YtppihkneeolomaaDoorCards
import Derived.Test.YtppihkneeolomaaDoorTie
import Derived.Test.YtppihkneeolomaaDoorQBm9
import Derived.Test.YtppihkneeolomaaDoorQBm2
import Derived.SevenTiedAt
set_option linter.unusedVariables false
set_option linter.unusedSimpArgs false
set_option linter.unusedSectionVars false
namespace Go.Proofs.YtppihkneeolomaaDoor
open Go
theorem queueBuilds_wf : Rows.queueBuildsRow.wfByText (OpenSpec.ofChange Rows.queueBuildsSpec) = true := by kernel_rfl
theorem queueBuilds_goes : false = Rows.queueBuildsRow.goesBy Tryd.pinned.checked.prog := by kernel_rfl
theorem queueBuilds_num : Tryd.prog.funcNamed Rows.queueBuildsRow.func = some 4 := by kernel_rfl
theorem queueBuilds_stand (j : Nat) (t : TypeId) (ht : Tryd.f4.params[j]? = some t) : Tryd.prog.wantsStandIn t = false := by
  rw [Tryd.params4] at ht
  have hm : t ∈ [22] := by simpa using Array.mem_of_getElem? ht
  have hall : ([22].all fun u => !Tryd.prog.wantsStandIn u) = true := by kernel_rfl
  simpa using List.all_eq_true.1 hall t hm
theorem queueBuilds_card_holds : Rows.QueueBuildsCardSaid :=
  Claim7.holds_tied_plain_at .later [] [.data, .data, .data, .handle, .sentinel, .sentinel, .sentinel, .sentinel, .sentinel, .sentinel, .sentinel, .sentinel, .sentinel] true (true, "dc2d514fe0b85a83f756c3c0b8fa754428ba376abef63c3610072487699a5f0c") true
    (queueBuilds_over queueBuilds_any) (fun _ h => by cases h) queueBuilds_wf (fun _ h => by cases h) queueBuilds_row_tie rfl ⟨rfl, rfl⟩ cardMain rfl
    (fun f fn hf hfn => by
      obtain rfl : f = 4 := Option.some.inj (queueBuilds_num.symm.trans hf) |>.symm
      obtain rfl : fn = Tryd.f4 := (Option.some.inj (Tryd.func4.symm.trans hfn)).symm
      exact ⟨cardLooks, queueBuilds_stand⟩)
    queueBuilds_goes
#print axioms queueBuilds_card_holds
end Go.Proofs.YtppihkneeolomaaDoor
