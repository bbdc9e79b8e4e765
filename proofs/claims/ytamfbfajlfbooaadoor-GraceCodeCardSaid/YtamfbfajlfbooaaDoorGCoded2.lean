/- quiescentlaw2.coded, bars. -/
import Derived.Test.YtamfbfajlfbooaaDoorGSpinCodeLaw
set_option linter.unusedVariables false
set_option linter.unusedSimpArgs false
set_option linter.unusedSectionVars false
namespace Go.Proofs.YtamfbfajlfbooaaDoor
open Go.RowKit Go.Extern.Stop Go.Stop Go.Extern Qh
theorem coded2_nil (n : Int) (w : World) : Calls Tryd.prog 59 #[.nilIface, .int .i64 n] w fun e w' => e = .returned (.bool (decide (n = 0))) ∧ w' = w := by
  by_cases h : n = 0
  · subst h
    go_enter Tryd.func59, Tryd.ntmps59
    go_wp2_with fail
    refine (code_nil w).mono ?_
    rintro e w' ⟨rfl, rfl⟩
    go_wp2
    go_ret
    exact ⟨rfl, rfl⟩
  · have h1 : ((0 : Int) == n) = false := by rw [beq_eq_false_iff_ne]; omega
    have h2 : decide (n = 0) = false := by simpa using h
    rw [h2]
    go_enter Tryd.func59, Tryd.ntmps59
    go_wp2_with fail
    refine (code_nil w).mono ?_
    rintro e w' ⟨rfl, rfl⟩
    go_wp2
    go_ret
    exact ⟨rfl, rfl⟩
theorem coded2_at {w : World} {a : Nat → Addr} (E : ErrsAt w a) (i : Nat) (hi : i < 9) (n : Int) : Calls Tryd.prog 59 #[errV a i, .int .i64 n] w fun e w' => e = .returned (.bool (decide (n = (i : Int) + 1))) ∧ Mod noF w w' := by
  have hcall := code_at E i hi
  by_cases h : n = (i : Int) + 1
  · subst h
    rw [show decide ((i : Int) + 1 = (i : Int) + 1) = true by simp]
    have Hcall := Lib.hid hcall
    clear hcall E
    go_enter Tryd.func59, Tryd.ntmps59
    go_wp2_with fail
    refine Hcall.out.mono ?_
    rintro e w' ⟨rfl, hm⟩
    have Hm := Lib.hid hm
    clear hm
    go_wp2
    go_ret
    exact ⟨rfl, Hm.out⟩
  · have h1 : ((i : Int) + 1 == n) = false := by rw [beq_eq_false_iff_ne]; omega
    rw [show decide (n = (i : Int) + 1) = false by simpa using h]
    have Hcall := Lib.hid hcall
    clear hcall E h
    go_enter Tryd.func59, Tryd.ntmps59
    go_wp2_with fail
    refine Hcall.out.mono ?_
    rintro e w' ⟨rfl, hm⟩
    have Hm := Lib.hid hm
    clear hm
    go_wp2
    go_ret
    exact ⟨rfl, Hm.out⟩
theorem bars_any (w : World) : Calls Tryd.prog 60 #[] w fun e w' => e = .returned (.slice (some ⟨w.heap.size, 0, none⟩) 5 5) ∧ Mod noF w w' ∧ StrsAt w' (.slice (some ⟨w.heap.size, 0, none⟩) 5 5) barsL := by
  go_enter Tryd.func60, Tryd.ntmps60
  go_wp2
  go_ret
  refine ⟨rfl, (Mod.refl _ _).alloc _, ⟨_, _, rfl, by decide, fun i x hi => ⟨_, 0, rfl, lt_of_block (heap_alloc_new w _), ?_⟩⟩⟩
  rw [cell_of_heap (heap_alloc_new w _)]
  have hi5 : i < 5 := by have := (List.getElem?_eq_some_iff.1 hi).1; simpa [barsL] using this
  rcases (by omega : i = 0 ∨ i = 1 ∨ i = 2 ∨ i = 3 ∨ i = 4) with rfl | rfl | rfl | rfl | rfl <;> (simp [barsL] at hi; subst hi; rfl)
end Go.Proofs.YtamfbfajlfbooaaDoor
