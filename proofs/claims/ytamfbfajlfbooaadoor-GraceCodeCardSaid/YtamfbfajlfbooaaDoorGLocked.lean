/- locked: a closed fact. -/
import Derived.Test.YtamfbfajlfbooaaDoorGRowsLaw
import Derived.Test.YtamfbfajlfbooaaDoorGSpin
set_option linter.unusedVariables false
set_option linter.unusedSimpArgs false
set_option linter.unusedSectionVars false
namespace Go.Proofs.YtamfbfajlfbooaaDoor
open Go.RowKit Qs Qh
theorem lookT : LookOk ⟨#[116]⟩ 7 0 0 := ⟨by decide, by decide, by decide, by decide, by decide, by decide, by decide, by decide, by decide, by decide⟩
theorem lookG : LookOk ⟨#[103]⟩ 7 0 0 := ⟨by decide, by decide, by decide, by decide, by decide, by decide, by decide, by decide, by decide, by decide⟩
theorem locked_any (w : World) : Calls Tryd.prog 20 #[] w fun e w' => e = .returned (.bool true) ∧ Mod noF w w' := by
  go_enter Tryd.func20, Tryd.ntmps20
  go_wp2_with fail
  refine (take_ok _ 7 0 0 w lookT).mono ?_
  rintro e w1 ⟨va, rfl, hma⟩
  obtain ⟨ga, ca, rfl, _⟩ := InsRow.src hma.1 (by simp [takeCode])
  have H1 := Lib.hid (Mod.below hma.2.1)
  clear hma
  go_wp2_with fail
  refine (give_ok _ 7 0 0 w1 lookG).mono ?_
  rintro e w2 ⟨vb, rfl, hmb⟩
  obtain ⟨gb, cb, rfl, _⟩ := InsRow.src hmb.1 (by simp [giveCode])
  have H2 := Lib.hid (Mod.below hmb.2.1)
  clear hmb
  go_wp2
  go_ret
  exact ⟨rfl, H1.out.trans0 H2.out⟩
end Go.Proofs.YtamfbfajlfbooaaDoor
