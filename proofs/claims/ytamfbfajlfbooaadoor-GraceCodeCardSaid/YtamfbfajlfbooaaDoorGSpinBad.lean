/- spin.Prefix, spin.look, spin.Take, spin.Give, where something is wrong. -/
import Derived.Test.YtamfbfajlfbooaaDoorGSpin
import Derived.Test.YtamfbfajlfbooaaDoorGm4
set_option linter.unusedVariables false
set_option linter.unusedSimpArgs false
set_option linter.unusedSectionVars false
namespace Go.Proofs.YtamfbfajlfbooaaDoor
open Go.RowKit Qs Qh
theorem prefix_bad (s : ByteArray) (most : Int) (w : World) (a : Nat → Addr) (E : ErrsAt w a) (hs : s.size ≤ maxLen) (h : nameB s.data.toList = false ∨ most < (s.size : Int)) :
    Calls Tryd.prog 101 #[.string s, .int .i64 most] w fun e w' => e = .returned (errV a 3) ∧ w = w' := by
  have hv := E.var 3 (by omega)
  clear E
  cases hn : nameB s.data.toList with
  | false =>
    have Hn := Lib.hid hn
    clear hn h
    go_enter Tryd.func101, Tryd.ntmps101
    go_wp2_with (go_at_call 109; refine (name_any s _ hs).mono ?_; rintro e w' ⟨rfl, rfl⟩; rw [Hn.out])
    go_ret
    exact ⟨rfl, rfl⟩
  | true =>
    have hm : most < (s.size : Int) := h.resolve_left (by rw [hn]; simp)
    have hd : decide (most < (s.size : Int)) = true := by simpa using hm
    have Hn := Lib.hid hn
    clear hn h
    go_enter Tryd.func101, Tryd.ntmps101
    go_wp2_with (go_at_call 109; refine (name_any s _ hs).mono ?_; rintro e w' ⟨rfl, rfl⟩; rw [Hn.out])
    go_ret
    exact ⟨rfl, rfl⟩
/-- The numbers are within their bounds. -/
def Bounds (cell word tmp : Int) : Prop := 0 ≤ cell ∧ cell < 8 ∧ 0 ≤ word ∧ word < 4 ∧ 0 ≤ tmp ∧ tmp < 7 ∧ cell ≠ tmp ∧ cell ≠ tmp + 1
set_option maxHeartbeats 4000000 in
theorem look_bound (s : ByteArray) (cell word tmp : Int) (w : World) (a : Nat → Addr) (E : ErrsAt w a) (h : ¬ Bounds cell word tmp) :
    Calls Tryd.prog 105 #[.string s, .int .i64 cell, .int .i64 word, .int .i64 tmp] w fun e w' => e = .returned (errV a 1) ∧ w = w' := by
  have hv := E.var 1 (by omega)
  clear E
  by_cases c0 : 0 ≤ cell
  rotate_left
  · have d0 : decide (0 ≤ cell) = false := by simpa using c0
    go_enter Tryd.func105, Tryd.ntmps105
    go_wp2
    go_ret
    exact ⟨rfl, rfl⟩
  have d0 : decide (0 ≤ cell) = true := by simpa using c0
  by_cases c1 : cell < 8
  rotate_left
  · have d1 : decide (cell < 8) = false := by simpa using c1
    go_enter Tryd.func105, Tryd.ntmps105
    go_wp2
    go_ret
    exact ⟨rfl, rfl⟩
  have d1 : decide (cell < 8) = true := by simpa using c1
  by_cases c2 : 0 ≤ word
  rotate_left
  · have d2 : decide (0 ≤ word) = false := by simpa using c2
    go_enter Tryd.func105, Tryd.ntmps105
    go_wp2
    go_ret
    exact ⟨rfl, rfl⟩
  have d2 : decide (0 ≤ word) = true := by simpa using c2
  by_cases c3 : word < 4
  rotate_left
  · have d3 : decide (word < 4) = false := by simpa using c3
    go_enter Tryd.func105, Tryd.ntmps105
    go_wp2
    go_ret
    exact ⟨rfl, rfl⟩
  have d3 : decide (word < 4) = true := by simpa using c3
  by_cases c4 : 0 ≤ tmp
  rotate_left
  · have d4 : decide (0 ≤ tmp) = false := by simpa using c4
    go_enter Tryd.func105, Tryd.ntmps105
    go_wp2
    go_ret
    exact ⟨rfl, rfl⟩
  have d4 : decide (0 ≤ tmp) = true := by simpa using c4
  by_cases c5 : tmp < 7
  rotate_left
  · have d5 : decide (tmp < 7) = false := by simpa using c5
    go_enter Tryd.func105, Tryd.ntmps105
    go_wp2
    go_ret
    exact ⟨rfl, rfl⟩
  have d5 : decide (tmp < 7) = true := by simpa using c5
  by_cases e0 : cell = tmp
  · have d6 : (cell == tmp) = true := by simpa using e0
    clear e0
    go_enter Tryd.func105, Tryd.ntmps105
    go_wp2
    go_ret
    exact ⟨rfl, rfl⟩
  have d6 : (cell == tmp) = false := by simpa using e0
  have e1 : cell = tmp + 1 := by
    rcases Decidable.em (cell = tmp + 1) with e | e
    · exact e
    · exact absurd ⟨c0, c1, c2, c3, c4, c5, e0, e⟩ h
  have d7 : (cell == tmp + 1) = true := by simpa using e1
  clear e0 e1
  go_enter Tryd.func105, Tryd.ntmps105
  go_wp2
  go_ret
  exact ⟨rfl, rfl⟩
theorem look_name (s : ByteArray) (cell word tmp : Int) (w : World) (a : Nat → Addr) (E : ErrsAt w a) (hs : s.size ≤ maxLen) (hb : Bounds cell word tmp) (h : nameB s.data.toList = false ∨ (8 : Int) < (s.size : Int)) :
    Calls Tryd.prog 105 #[.string s, .int .i64 cell, .int .i64 word, .int .i64 tmp] w fun e w' => e = .returned (errV a 3) ∧ w = w' := by
  obtain ⟨c0, c1, w0, w1, t0, t1, n0, n1⟩ := hb
  have d0 : (cell == tmp) = false := by simpa using n0
  have d1 : (cell == tmp + 1) = false := by simpa using n1
  have hcall := prefix_bad s 8 w a E hs h
  unfold errV at hcall
  have Hcall := Lib.hid hcall
  clear hcall E h
  go_enter Tryd.func105, Tryd.ntmps105
  go_wp2_with (go_at_call 101; refine Hcall.out.mono ?_; rintro e w' ⟨rfl, rfl⟩)
  go_ret
  exact ⟨rfl, rfl⟩
theorem take_bad (s : ByteArray) (cell word tmp : Int) (w : World) (a : Nat → Addr) (i : Nat) (h : Calls Tryd.prog 105 #[.string s, .int .i64 cell, .int .i64 word, .int .i64 tmp] w fun e w' => e = .returned (errV a i) ∧ w = w') :
    Calls Tryd.prog 57 #[.string s, .int .i64 cell, .int .i64 word, .int .i64 tmp] w fun e w' => e = .returned (.tuple #[.slice none 0 0, errV a i]) ∧ w = w' := by
  unfold errV at h
  have H := Lib.hid h
  clear h
  go_enter Tryd.func57, Tryd.ntmps57
  go_wp2_with (go_at_call 105; refine H.out.mono ?_; rintro e w' ⟨rfl, rfl⟩)
  go_ret2
  exact ⟨rfl, rfl⟩
theorem give_bad (s : ByteArray) (cell word tmp : Int) (w : World) (a : Nat → Addr) (i : Nat) (h : Calls Tryd.prog 105 #[.string s, .int .i64 cell, .int .i64 word, .int .i64 tmp] w fun e w' => e = .returned (errV a i) ∧ w = w') :
    Calls Tryd.prog 58 #[.string s, .int .i64 cell, .int .i64 word, .int .i64 tmp] w fun e w' => e = .returned (.tuple #[.slice none 0 0, errV a i]) ∧ w = w' := by
  unfold errV at h
  have H := Lib.hid h
  clear h
  go_enter Tryd.func58, Tryd.ntmps58
  go_wp2_with (go_at_call 105; refine H.out.mono ?_; rintro e w' ⟨rfl, rfl⟩)
  go_ret2
  exact ⟨rfl, rfl⟩
end Go.Proofs.YtamfbfajlfbooaaDoor
