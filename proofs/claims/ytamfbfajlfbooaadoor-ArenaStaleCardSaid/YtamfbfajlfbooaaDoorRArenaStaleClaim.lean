/- ArenaStale: for every input the law returns true, and each argument reads as it did. The card of its row, the listed package-level variables tied to the program's text by the given tie. -/
import Derived.Test.YtamfbfajlfbooaaDoorRArenaStaleFrame
import Derived.Test.YtamfbfajlfbooaaDoorCards
import Derived.Test.YtamfbfajlfbooaaDoorTie
import Derived.Test.YtamfbfajlfbooaaDoorRStaleW2
import Derived.Test.YtamfbfajlfbooaaDoorRCardP
import Derived.SevenTiedAt
set_option linter.unusedVariables false
set_option linter.unusedSimpArgs false
set_option linter.unusedSectionVars false
namespace Go.Proofs.YtamfbfajlfbooaaDoor
open Go
theorem arenaStale_wf : Rows.arenaStaleRow.wfByText (OpenSpec.ofChange Rows.arenaStaleSpec) = true := by kernel_rfl
theorem arenaStale_goes : false = Rows.arenaStaleRow.goesBy Tryd.pinned.checked.prog := by kernel_rfl
theorem arenaStale_num : Tryd.prog.funcNamed Rows.arenaStaleRow.func = some 14 := by kernel_rfl
theorem arenaStale_stand (j : Nat) (t : TypeId) (ht : Tryd.f14.params[j]? = some t) : Tryd.prog.wantsStandIn t = false := by
  rw [Tryd.params14] at ht
  have hm : t ∈ [3, 3] := by simpa using Array.mem_of_getElem? ht
  have hall : ([3, 3].all fun u => !Tryd.prog.wantsStandIn u) = true := by kernel_rfl
  simpa using List.all_eq_true.1 hall t hm
theorem arenaStale_card_holds : Rows.ArenaStaleCardSaid :=
  Claim7.holds_tied_plain_at .later [] [.handle, .sentinel, .sentinel, .sentinel, .sentinel, .sentinel, .sentinel, .sentinel, .sentinel, .sentinel] true (true, "c78d9768c950c5411273d3df1dce0e675f5ac73a2e1506b9ff11d1e46d704fb5") true
    (arenaStale_over arenaStale_any) (fun _ h => by cases h) arenaStale_wf (fun _ h => by cases h) arenaStale_row_tie rfl ⟨rfl, rfl⟩ cardMain rfl
    (fun f fn hf hfn => by
      obtain rfl : f = 14 := Option.some.inj (arenaStale_num.symm.trans hf) |>.symm
      obtain rfl : fn = Tryd.f14 := (Option.some.inj (Tryd.func14.symm.trans hfn)).symm
      exact ⟨cardLooks, arenaStale_stand⟩)
    arenaStale_goes
#print axioms arenaStale_card_holds
end Go.Proofs.YtamfbfajlfbooaaDoor
