/- quiescentref1.Shape, at each op. -/
import Derived.Test.YtamfbfajlfbooaaDoorGEmitLaw
import Derived.Test.YtamfbfajlfbooaaDoorGIsName
set_option linter.unusedVariables false
set_option linter.unusedSimpArgs false
set_option linter.unusedSectionVars false
namespace Go.Proofs.YtamfbfajlfbooaaDoor
open Go.RowKit Qs Qh
theorem shape_const (w : World) : Calls Tryd.prog 149 #[.string ⟨#[99, 111, 110, 115, 116]⟩] w fun e w' => e = .returned (.tuple #[.string ⟨#[114, 118]⟩, .bool true]) ∧ w = w' := by
  go_enter Tryd.func149, Tryd.ntmps149
  go_wp2
  go_ret2
  exact ⟨rfl, rfl⟩
theorem shape_move (w : World) : Calls Tryd.prog 149 #[.string ⟨#[109, 111, 118, 101]⟩] w fun e w' => e = .returned (.tuple #[.string ⟨#[114, 114]⟩, .bool true]) ∧ w = w' := by
  go_enter Tryd.func149, Tryd.ntmps149
  go_wp2
  go_ret2
  exact ⟨rfl, rfl⟩
theorem shape_add (w : World) : Calls Tryd.prog 149 #[.string ⟨#[97, 100, 100]⟩] w fun e w' => e = .returned (.tuple #[.string ⟨#[114, 114, 114]⟩, .bool true]) ∧ w = w' := by
  go_enter Tryd.func149, Tryd.ntmps149
  go_wp2
  go_ret2
  exact ⟨rfl, rfl⟩
theorem shape_sub (w : World) : Calls Tryd.prog 149 #[.string ⟨#[115, 117, 98]⟩] w fun e w' => e = .returned (.tuple #[.string ⟨#[114, 114, 114]⟩, .bool true]) ∧ w = w' := by
  go_enter Tryd.func149, Tryd.ntmps149
  go_wp2
  go_ret2
  exact ⟨rfl, rfl⟩
theorem shape_and (w : World) : Calls Tryd.prog 149 #[.string ⟨#[97, 110, 100]⟩] w fun e w' => e = .returned (.tuple #[.string ⟨#[114, 114, 114]⟩, .bool true]) ∧ w = w' := by
  go_enter Tryd.func149, Tryd.ntmps149
  go_wp2
  go_ret2
  exact ⟨rfl, rfl⟩
theorem shape_xor (w : World) : Calls Tryd.prog 149 #[.string ⟨#[120, 111, 114]⟩] w fun e w' => e = .returned (.tuple #[.string ⟨#[114, 114, 114]⟩, .bool true]) ∧ w = w' := by
  go_enter Tryd.func149, Tryd.ntmps149
  go_wp2
  go_ret2
  exact ⟨rfl, rfl⟩
theorem shape_load (w : World) : Calls Tryd.prog 149 #[.string ⟨#[108, 111, 97, 100]⟩] w fun e w' => e = .returned (.tuple #[.string ⟨#[114, 114, 119]⟩, .bool true]) ∧ w = w' := by
  go_enter Tryd.func149, Tryd.ntmps149
  go_wp2
  go_ret2
  exact ⟨rfl, rfl⟩
theorem shape_store (w : World) : Calls Tryd.prog 149 #[.string ⟨#[115, 116, 111, 114, 101]⟩] w fun e w' => e = .returned (.tuple #[.string ⟨#[114, 114, 119]⟩, .bool true]) ∧ w = w' := by
  go_enter Tryd.func149, Tryd.ntmps149
  go_wp2
  go_ret2
  exact ⟨rfl, rfl⟩
theorem shape_swap (w : World) : Calls Tryd.prog 149 #[.string ⟨#[115, 119, 97, 112]⟩] w fun e w' => e = .returned (.tuple #[.string ⟨#[114, 114, 119]⟩, .bool true]) ∧ w = w' := by
  go_enter Tryd.func149, Tryd.ntmps149
  go_wp2
  go_ret2
  exact ⟨rfl, rfl⟩
theorem shape_cas (w : World) : Calls Tryd.prog 149 #[.string ⟨#[99, 97, 115]⟩] w fun e w' => e = .returned (.tuple #[.string ⟨#[114, 115, 119]⟩, .bool true]) ∧ w = w' := by
  go_enter Tryd.func149, Tryd.ntmps149
  go_wp2
  go_ret2
  exact ⟨rfl, rfl⟩
theorem shape_alloc (w : World) : Calls Tryd.prog 149 #[.string ⟨#[97, 108, 108, 111, 99]⟩] w fun e w' => e = .returned (.tuple #[.string ⟨#[114]⟩, .bool true]) ∧ w = w' := by
  go_enter Tryd.func149, Tryd.ntmps149
  go_wp2
  go_ret2
  exact ⟨rfl, rfl⟩
theorem shape_free (w : World) : Calls Tryd.prog 149 #[.string ⟨#[102, 114, 101, 101]⟩] w fun e w' => e = .returned (.tuple #[.string ⟨#[114]⟩, .bool true]) ∧ w = w' := by
  go_enter Tryd.func149, Tryd.ntmps149
  go_wp2
  go_ret2
  exact ⟨rfl, rfl⟩
theorem shape_fence (w : World) : Calls Tryd.prog 149 #[.string ⟨#[102, 101, 110, 99, 101]⟩] w fun e w' => e = .returned (.tuple #[.string ⟨#[]⟩, .bool true]) ∧ w = w' := by
  go_enter Tryd.func149, Tryd.ntmps149
  go_wp2
  go_ret2
  exact ⟨rfl, rfl⟩
theorem shape_force (w : World) : Calls Tryd.prog 149 #[.string ⟨#[102, 111, 114, 99, 101]⟩] w fun e w' => e = .returned (.tuple #[.string ⟨#[]⟩, .bool true]) ∧ w = w' := by
  go_enter Tryd.func149, Tryd.ntmps149
  go_wp2
  go_ret2
  exact ⟨rfl, rfl⟩
theorem shape_zero (w : World) : Calls Tryd.prog 149 #[.string ⟨#[122, 101, 114, 111]⟩] w fun e w' => e = .returned (.tuple #[.string ⟨#[114, 108]⟩, .bool true]) ∧ w = w' := by
  go_enter Tryd.func149, Tryd.ntmps149
  go_wp2
  go_ret2
  exact ⟨rfl, rfl⟩
theorem shape_same (w : World) : Calls Tryd.prog 149 #[.string ⟨#[115, 97, 109, 101]⟩] w fun e w' => e = .returned (.tuple #[.string ⟨#[114, 114, 108]⟩, .bool true]) ∧ w = w' := by
  go_enter Tryd.func149, Tryd.ntmps149
  go_wp2
  go_ret2
  exact ⟨rfl, rfl⟩
theorem shape_goto (w : World) : Calls Tryd.prog 149 #[.string ⟨#[103, 111, 116, 111]⟩] w fun e w' => e = .returned (.tuple #[.string ⟨#[108]⟩, .bool true]) ∧ w = w' := by
  go_enter Tryd.func149, Tryd.ntmps149
  go_wp2
  go_ret2
  exact ⟨rfl, rfl⟩
theorem shape_label (w : World) : Calls Tryd.prog 149 #[.string ⟨#[108, 97, 98, 101, 108]⟩] w fun e w' => e = .returned (.tuple #[.string ⟨#[108]⟩, .bool true]) ∧ w = w' := by
  go_enter Tryd.func149, Tryd.ntmps149
  go_wp2
  go_ret2
  exact ⟨rfl, rfl⟩
theorem shape_mark (w : World) : Calls Tryd.prog 149 #[.string ⟨#[109, 97, 114, 107]⟩] w fun e w' => e = .returned (.tuple #[.string ⟨#[114]⟩, .bool true]) ∧ w = w' := by
  go_enter Tryd.func149, Tryd.ntmps149
  go_wp2
  go_ret2
  exact ⟨rfl, rfl⟩
theorem shape_need (w : World) : Calls Tryd.prog 149 #[.string ⟨#[110, 101, 101, 100]⟩] w fun e w' => e = .returned (.tuple #[.string ⟨#[114]⟩, .bool true]) ∧ w = w' := by
  go_enter Tryd.func149, Tryd.ntmps149
  go_wp2
  go_ret2
  exact ⟨rfl, rfl⟩
theorem shape_stop (w : World) : Calls Tryd.prog 149 #[.string ⟨#[115, 116, 111, 112]⟩] w fun e w' => e = .returned (.tuple #[.string ⟨#[]⟩, .bool true]) ∧ w = w' := by
  go_enter Tryd.func149, Tryd.ntmps149
  go_wp2
  go_ret2
  exact ⟨rfl, rfl⟩
end Go.Proofs.YtamfbfajlfbooaaDoor
