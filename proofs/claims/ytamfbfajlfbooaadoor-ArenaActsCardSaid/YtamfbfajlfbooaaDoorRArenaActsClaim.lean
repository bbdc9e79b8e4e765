/- ArenaActs: for every input the law returns true, and each argument reads as it did. The card of its row, the listed package-level variables tied to the program's text by the given tie. -/
import Derived.Test.YtamfbfajlfbooaaDoorRArenaActsFrame
import Derived.Test.YtamfbfajlfbooaaDoorCards
import Derived.Test.YtamfbfajlfbooaaDoorTie
import Derived.Test.YtamfbfajlfbooaaDoorRActsW2
import Derived.Test.YtamfbfajlfbooaaDoorRCardP
import Derived.SevenTiedAt
set_option linter.unusedVariables false
set_option linter.unusedSimpArgs false
set_option linter.unusedSectionVars false
namespace Go.Proofs.YtamfbfajlfbooaaDoor
open Go
theorem arenaActs_wf : Rows.arenaActsRow.wfByText (OpenSpec.ofChange Rows.arenaActsSpec) = true := by kernel_rfl
theorem arenaActs_goes : false = Rows.arenaActsRow.goesBy Tryd.pinned.checked.prog := by kernel_rfl
theorem arenaActs_num : Tryd.prog.funcNamed Rows.arenaActsRow.func = some 15 := by kernel_rfl
theorem arenaActs_stand (j : Nat) (t : TypeId) (ht : Tryd.f15.params[j]? = some t) : Tryd.prog.wantsStandIn t = false := by
  rw [Tryd.params15] at ht
  have hm : t ∈ [3, 114] := by simpa using Array.mem_of_getElem? ht
  have hall : ([3, 114].all fun u => !Tryd.prog.wantsStandIn u) = true := by kernel_rfl
  simpa using List.all_eq_true.1 hall t hm
theorem arenaActs_card_holds : Rows.ArenaActsCardSaid :=
  Claim7.holds_tied_plain_at .later [] [.handle, .sentinel, .sentinel, .sentinel, .sentinel, .sentinel, .sentinel, .sentinel, .sentinel, .sentinel] true (true, "c78d9768c950c5411273d3df1dce0e675f5ac73a2e1506b9ff11d1e46d704fb5") true
    (arenaActs_over arenaActs_any) (fun _ h => by cases h) arenaActs_wf (fun _ h => by cases h) arenaActs_row_tie rfl ⟨rfl, rfl⟩ cardMain rfl
    (fun f fn hf hfn => by
      obtain rfl : f = 15 := Option.some.inj (arenaActs_num.symm.trans hf) |>.symm
      obtain rfl : fn = Tryd.f15 := (Option.some.inj (Tryd.func15.symm.trans hfn)).symm
      exact ⟨cardLooks, arenaActs_stand⟩)
    arenaActs_goes
#print axioms arenaActs_card_holds
end Go.Proofs.YtamfbfajlfbooaaDoor
