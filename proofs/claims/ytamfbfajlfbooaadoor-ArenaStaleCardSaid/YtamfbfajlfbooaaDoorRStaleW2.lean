/- ArenaStale, walked: any numbers. -/
import Derived.Test.YtamfbfajlfbooaaDoorRStaleW
set_option linter.unusedVariables false
set_option linter.unusedSimpArgs false
set_option linter.unusedSectionVars false
namespace Go.Proofs.YtamfbfajlfbooaaDoor
open Go.RowKit Qs Qh
set_option maxHeartbeats 4000000 in
theorem stale_mod (a0 a1 : Int) (w : World) (a : Nat → Addr) (E : ErrsAt w a) :
    Calls Tryd.prog 14 #[.int .i64 a0, .int .i64 a1] w fun e w' => e = .returned (.bool true) ∧ Mod noF w w' := by
  by_cases c0 : a0 < 1
  · have d0 : decide (a0 < 1) = true := by simpa using c0
    go_enter Tryd.func14, Tryd.ntmps14
    go_wp2_with fail
    refine (first_ok w a E).mono ?_
    rintro e w1 ⟨rfl, hm1⟩
    have Hm1 := Lib.hid hm1
    clear hm1
    go_wp2
    go_ret
    exact ⟨rfl, Hm1.out⟩
  have d0 : decide (a0 < 1) = false := by simpa using c0
  by_cases c1 : 64 < a0
  · have d1 : decide (64 < a0) = true := by simpa using c1
    go_enter Tryd.func14, Tryd.ntmps14
    go_wp2_with fail
    refine (first_ok w a E).mono ?_
    rintro e w1 ⟨rfl, hm1⟩
    have Hm1 := Lib.hid hm1
    clear hm1
    go_wp2
    go_ret
    exact ⟨rfl, Hm1.out⟩
  have d1 : decide (64 < a0) = false := by simpa using c1
  by_cases c2 : a1 < 0
  · have d2 : decide (a1 < 0) = true := by simpa using c2
    go_enter Tryd.func14, Tryd.ntmps14
    go_wp2_with fail
    refine (first_ok w a E).mono ?_
    rintro e w1 ⟨rfl, hm1⟩
    have Hm1 := Lib.hid hm1
    clear hm1
    go_wp2
    go_ret
    exact ⟨rfl, Hm1.out⟩
  have d2 : decide (a1 < 0) = false := by simpa using c2
  by_cases c3 : 60 < a1
  · have d3 : decide (60 < a1) = true := by simpa using c3
    go_enter Tryd.func14, Tryd.ntmps14
    go_wp2_with fail
    refine (first_ok w a E).mono ?_
    rintro e w1 ⟨rfl, hm1⟩
    have Hm1 := Lib.hid hm1
    clear hm1
    go_wp2
    go_ret
    exact ⟨rfl, Hm1.out⟩
  have d3 : decide (60 < a1) = false := by simpa using c3
  obtain ⟨n, rfl⟩ := Int.eq_ofNat_of_zero_le (show 0 ≤ a0 by omega)
  obtain ⟨m, rfl⟩ := Int.eq_ofNat_of_zero_le (show 0 ≤ a1 by omega)
  exact stale_in n m (by omega) (by omega) (by omega) w a E
theorem arenaStale_any (a0 a1 : Int) (w : World) (_ : (Lit.int .i64 a0).wf = true) (_ : (Lit.int .i64 a1).wf = true) (h : ∃ a, ErrsAt w a) :
    Calls Tryd.prog 14 #[.int .i64 a0, .int .i64 a1] w fun e w' => e = .returned (.bool true) ∧ Below w.heap.size w w' := by
  obtain ⟨a, E⟩ := h
  exact (stale_mod a0 a1 w a E).mono fun _ _ h => ⟨h.1, h.2.toBelow⟩
end Go.Proofs.YtamfbfajlfbooaaDoor
