/- ArenaWords: for every input the law returns true, and each argument reads as it did. The card of its row, the listed package-level variables tied to the program's text by the given tie. -/
import Derived.Test.YtamfbfajlfbooaaDoorRArenaWordsFrame
import Derived.Test.YtamfbfajlfbooaaDoorCards
import Derived.Test.YtamfbfajlfbooaaDoorTie
import Derived.Test.YtamfbfajlfbooaaDoorRArenaWordsW
import Derived.Test.YtamfbfajlfbooaaDoorRCardP
import Derived.SevenTiedAt
set_option linter.unusedVariables false
set_option linter.unusedSimpArgs false
set_option linter.unusedSectionVars false
namespace Go.Proofs.YtamfbfajlfbooaaDoor
open Go
theorem arenaWords_wf : Rows.arenaWordsRow.wfByText (OpenSpec.ofChange Rows.arenaWordsSpec) = true := by kernel_rfl
theorem arenaWords_goes : false = Rows.arenaWordsRow.goesBy Tryd.pinned.checked.prog := by kernel_rfl
theorem arenaWords_num : Tryd.prog.funcNamed Rows.arenaWordsRow.func = some 11 := by kernel_rfl
theorem arenaWords_stand (j : Nat) (t : TypeId) (ht : Tryd.f11.params[j]? = some t) : Tryd.prog.wantsStandIn t = false := by
  rw [Tryd.params11] at ht
  have hm : t ∈ [58, 3] := by simpa using Array.mem_of_getElem? ht
  have hall : ([58, 3].all fun u => !Tryd.prog.wantsStandIn u) = true := by kernel_rfl
  simpa using List.all_eq_true.1 hall t hm
theorem arenaWords_card_holds : Rows.ArenaWordsCardSaid :=
  Claim7.holds_tied_plain_at .later [] [.handle, .sentinel, .sentinel, .sentinel, .sentinel, .sentinel, .sentinel, .sentinel, .sentinel, .sentinel] true (true, "c78d9768c950c5411273d3df1dce0e675f5ac73a2e1506b9ff11d1e46d704fb5") true
    (arenaWords_over arenaWords_any) (fun _ h => by cases h) arenaWords_wf (fun _ h => by cases h) arenaWords_row_tie rfl ⟨rfl, rfl⟩ cardMain rfl
    (fun f fn hf hfn => by
      obtain rfl : f = 11 := Option.some.inj (arenaWords_num.symm.trans hf) |>.symm
      obtain rfl : fn = Tryd.f11 := (Option.some.inj (Tryd.func11.symm.trans hfn)).symm
      exact ⟨cardLooks, arenaWords_stand⟩)
    arenaWords_goes
#print axioms arenaWords_card_holds
end Go.Proofs.YtamfbfajlfbooaaDoor
