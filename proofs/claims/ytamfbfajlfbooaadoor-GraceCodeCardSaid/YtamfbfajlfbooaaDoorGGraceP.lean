/- package grace: its parts, by flavour and number; where it has none. -/
import Derived.Test.YtamfbfajlfbooaaDoorGGraceC1
import Derived.Test.YtamfbfajlfbooaaDoorGGraceC2
import Derived.Test.YtamfbfajlfbooaaDoorGGraceC3
import Derived.Test.YtamfbfajlfbooaaDoorGGraceC4
import Derived.Test.YtamfbfajlfbooaaDoorGSpinBad
set_option linter.unusedVariables false
set_option linter.unusedSimpArgs false
set_option linter.unusedSectionVars false
namespace Go.Proofs.YtamfbfajlfbooaaDoor
open Go.RowKit Qs Qh
variable {w0 w w1 : World} {b o : Nat} {v0 : Value} {l : List Instr} {br s : ByteArray} {fe jo co : Bool} {u : Value} {c : Nat}
theorem gcode_all : ((List.range 5).all fun f => (List.range 5).all fun k => preOk (gcode f k) && decide ((gcode f k).length ≤ 70) && (List.range 8).all fun i => decide (i < 3) || !(writtenL (gcode f k)).getD i false) = true := by decide +kernel
theorem gcode_ok {f k : Nat} (hf : f < 5) (hk : k < 5) : preOk (gcode f k) = true ∧ (gcode f k).length ≤ 70 ∧ ∀ i, 3 ≤ i → i < 8 → (writtenL (gcode f k)).getD i false = false := by
  have h := List.all_eq_true.1 (List.all_eq_true.1 gcode_all f (List.mem_range.2 hf)) k (List.mem_range.2 hk)
  simp only [Bool.and_eq_true, decide_eq_true_eq, List.all_eq_true, Bool.or_eq_true, List.mem_range] at h
  obtain ⟨⟨h1, h2⟩, h3⟩ := h
  refine ⟨h1, h2, fun i hi h8 => ?_⟩
  have := h3 i h8
  simp at this
  rcases this with h | h
  · omega
  · simpa using h
theorem parts10 (s : ByteArray) (w : World) (hn : nameB s.data.toList = true) (hs : s.size ≤ 4) :
    Calls Tryd.prog 80 #[.int .i64 1, .string s, .int .i64 0] w fun e w' => ∃ v, e = .returned (.tuple #[v, .nilIface]) ∧ Made (preC s.data.toList gc10) w v w' := by
  have Hn := Lib.hid hn
  clear hn
  go_enter Tryd.func80, Tryd.ntmps80
  go_wp2_with fail
  refine (genter1_ok s w Hn.out hs).mono ?_
  rintro e x1 ⟨v, rfl, hv⟩
  have Hv := Lib.hid hv
  clear hv
  go_wp2
  go_ret2
  exact ⟨v, rfl, Hv.out⟩
theorem parts11 (s : ByteArray) (w : World) (hn : nameB s.data.toList = true) (hs : s.size ≤ 4) :
    Calls Tryd.prog 80 #[.int .i64 1, .string s, .int .i64 1] w fun e w' => ∃ v, e = .returned (.tuple #[v, .nilIface]) ∧ Made (preC s.data.toList gc11) w v w' := by
  have Hn := Lib.hid hn
  clear hn
  go_enter Tryd.func80, Tryd.ntmps80
  go_wp2_with fail
  refine (gleave1_ok s w Hn.out hs).mono ?_
  rintro e x1 ⟨v, rfl, hv⟩
  have Hv := Lib.hid hv
  clear hv
  go_wp2
  go_ret2
  exact ⟨v, rfl, Hv.out⟩
theorem parts12 (s : ByteArray) (w : World) (hn : nameB s.data.toList = true) (hs : s.size ≤ 4) :
    Calls Tryd.prog 80 #[.int .i64 1, .string s, .int .i64 2] w fun e w' => ∃ v, e = .returned (.tuple #[v, .nilIface]) ∧ Made (preC s.data.toList gc12) w v w' := by
  have Hn := Lib.hid hn
  clear hn
  go_enter Tryd.func80, Tryd.ntmps80
  go_wp2_with fail
  refine (grest1_ok s w Hn.out hs).mono ?_
  rintro e x1 ⟨v, rfl, hv⟩
  have Hv := Lib.hid hv
  clear hv
  go_wp2
  go_ret2
  exact ⟨v, rfl, Hv.out⟩
theorem parts13 (s : ByteArray) (w : World) (hn : nameB s.data.toList = true) (hs : s.size ≤ 4) :
    Calls Tryd.prog 80 #[.int .i64 1, .string s, .int .i64 3] w fun e w' => ∃ v, e = .returned (.tuple #[v, .nilIface]) ∧ Made (preC s.data.toList gc13) w v w' := by
  have Hn := Lib.hid hn
  clear hn
  go_enter Tryd.func80, Tryd.ntmps80
  go_wp2_with fail
  refine (ggone1_ok s w Hn.out hs).mono ?_
  rintro e x1 ⟨v, rfl, hv⟩
  have Hv := Lib.hid hv
  clear hv
  go_wp2
  go_ret2
  exact ⟨v, rfl, Hv.out⟩
theorem parts14 (s : ByteArray) (w : World) (hn : nameB s.data.toList = true) (hs : s.size ≤ 4) :
    Calls Tryd.prog 80 #[.int .i64 1, .string s, .int .i64 4] w fun e w' => ∃ v, e = .returned (.tuple #[v, .nilIface]) ∧ Made (preC s.data.toList gc14) w v w' := by
  have Hn := Lib.hid hn
  clear hn
  go_enter Tryd.func80, Tryd.ntmps80
  go_wp2_with fail
  refine (gwait1_ok s w Hn.out hs).mono ?_
  rintro e x1 ⟨v, rfl, hv⟩
  have Hv := Lib.hid hv
  clear hv
  go_wp2
  go_ret2
  exact ⟨v, rfl, Hv.out⟩
theorem parts20 (s : ByteArray) (w : World) (hn : nameB s.data.toList = true) (hs : s.size ≤ 4) :
    Calls Tryd.prog 80 #[.int .i64 2, .string s, .int .i64 0] w fun e w' => ∃ v, e = .returned (.tuple #[v, .nilIface]) ∧ Made (preC s.data.toList gc20) w v w' := by
  have Hn := Lib.hid hn
  clear hn
  go_enter Tryd.func80, Tryd.ntmps80
  go_wp2_with fail
  refine (genter2_ok s w Hn.out hs).mono ?_
  rintro e x1 ⟨v, rfl, hv⟩
  have Hv := Lib.hid hv
  clear hv
  go_wp2
  go_ret2
  exact ⟨v, rfl, Hv.out⟩
theorem parts21 (s : ByteArray) (w : World) (hn : nameB s.data.toList = true) (hs : s.size ≤ 4) :
    Calls Tryd.prog 80 #[.int .i64 2, .string s, .int .i64 1] w fun e w' => ∃ v, e = .returned (.tuple #[v, .nilIface]) ∧ Made (preC s.data.toList gc21) w v w' := by
  have Hn := Lib.hid hn
  clear hn
  go_enter Tryd.func80, Tryd.ntmps80
  go_wp2_with fail
  refine (gleave2_ok s w Hn.out hs).mono ?_
  rintro e x1 ⟨v, rfl, hv⟩
  have Hv := Lib.hid hv
  clear hv
  go_wp2
  go_ret2
  exact ⟨v, rfl, Hv.out⟩
theorem parts22 (s : ByteArray) (w : World) (hn : nameB s.data.toList = true) (hs : s.size ≤ 4) :
    Calls Tryd.prog 80 #[.int .i64 2, .string s, .int .i64 2] w fun e w' => ∃ v, e = .returned (.tuple #[v, .nilIface]) ∧ Made (preC s.data.toList gc22) w v w' := by
  have Hn := Lib.hid hn
  clear hn
  go_enter Tryd.func80, Tryd.ntmps80
  go_wp2_with fail
  refine (grest2_ok s w Hn.out hs).mono ?_
  rintro e x1 ⟨v, rfl, hv⟩
  have Hv := Lib.hid hv
  clear hv
  go_wp2
  go_ret2
  exact ⟨v, rfl, Hv.out⟩
theorem parts23 (s : ByteArray) (w : World) (hn : nameB s.data.toList = true) (hs : s.size ≤ 4) :
    Calls Tryd.prog 80 #[.int .i64 2, .string s, .int .i64 3] w fun e w' => ∃ v, e = .returned (.tuple #[v, .nilIface]) ∧ Made (preC s.data.toList gc23) w v w' := by
  have Hn := Lib.hid hn
  clear hn
  go_enter Tryd.func80, Tryd.ntmps80
  go_wp2_with fail
  refine (ggone2_ok s w Hn.out hs).mono ?_
  rintro e x1 ⟨v, rfl, hv⟩
  have Hv := Lib.hid hv
  clear hv
  go_wp2
  go_ret2
  exact ⟨v, rfl, Hv.out⟩
theorem parts24 (s : ByteArray) (w : World) (hn : nameB s.data.toList = true) (hs : s.size ≤ 4) :
    Calls Tryd.prog 80 #[.int .i64 2, .string s, .int .i64 4] w fun e w' => ∃ v, e = .returned (.tuple #[v, .nilIface]) ∧ Made (preC s.data.toList gc24) w v w' := by
  have Hn := Lib.hid hn
  clear hn
  go_enter Tryd.func80, Tryd.ntmps80
  go_wp2_with fail
  refine (gwait2_ok s w Hn.out hs).mono ?_
  rintro e x1 ⟨v, rfl, hv⟩
  have Hv := Lib.hid hv
  clear hv
  go_wp2
  go_ret2
  exact ⟨v, rfl, Hv.out⟩
theorem parts30 (s : ByteArray) (w : World) (hn : nameB s.data.toList = true) (hs : s.size ≤ 4) :
    Calls Tryd.prog 80 #[.int .i64 3, .string s, .int .i64 0] w fun e w' => ∃ v, e = .returned (.tuple #[v, .nilIface]) ∧ Made (preC s.data.toList gc30) w v w' := by
  have Hn := Lib.hid hn
  clear hn
  go_enter Tryd.func80, Tryd.ntmps80
  go_wp2_with fail
  refine (genter3_ok s w Hn.out hs).mono ?_
  rintro e x1 ⟨v, rfl, hv⟩
  have Hv := Lib.hid hv
  clear hv
  go_wp2
  go_ret2
  exact ⟨v, rfl, Hv.out⟩
theorem parts31 (s : ByteArray) (w : World) (hn : nameB s.data.toList = true) (hs : s.size ≤ 4) :
    Calls Tryd.prog 80 #[.int .i64 3, .string s, .int .i64 1] w fun e w' => ∃ v, e = .returned (.tuple #[v, .nilIface]) ∧ Made (preC s.data.toList gc31) w v w' := by
  have Hn := Lib.hid hn
  clear hn
  go_enter Tryd.func80, Tryd.ntmps80
  go_wp2_with fail
  refine (gleave3_ok s w Hn.out hs).mono ?_
  rintro e x1 ⟨v, rfl, hv⟩
  have Hv := Lib.hid hv
  clear hv
  go_wp2
  go_ret2
  exact ⟨v, rfl, Hv.out⟩
theorem parts32 (s : ByteArray) (w : World) (hn : nameB s.data.toList = true) (hs : s.size ≤ 4) :
    Calls Tryd.prog 80 #[.int .i64 3, .string s, .int .i64 2] w fun e w' => ∃ v, e = .returned (.tuple #[v, .nilIface]) ∧ Made (preC s.data.toList gc32) w v w' := by
  have Hn := Lib.hid hn
  clear hn
  go_enter Tryd.func80, Tryd.ntmps80
  go_wp2_with fail
  refine (grest3_ok s w Hn.out hs).mono ?_
  rintro e x1 ⟨v, rfl, hv⟩
  have Hv := Lib.hid hv
  clear hv
  go_wp2
  go_ret2
  exact ⟨v, rfl, Hv.out⟩
theorem parts33 (s : ByteArray) (w : World) (hn : nameB s.data.toList = true) (hs : s.size ≤ 4) :
    Calls Tryd.prog 80 #[.int .i64 3, .string s, .int .i64 3] w fun e w' => ∃ v, e = .returned (.tuple #[v, .nilIface]) ∧ Made (preC s.data.toList gc33) w v w' := by
  have Hn := Lib.hid hn
  clear hn
  go_enter Tryd.func80, Tryd.ntmps80
  go_wp2_with fail
  refine (ggone3_ok s w Hn.out hs).mono ?_
  rintro e x1 ⟨v, rfl, hv⟩
  have Hv := Lib.hid hv
  clear hv
  go_wp2
  go_ret2
  exact ⟨v, rfl, Hv.out⟩
theorem parts34 (s : ByteArray) (w : World) (hn : nameB s.data.toList = true) (hs : s.size ≤ 4) :
    Calls Tryd.prog 80 #[.int .i64 3, .string s, .int .i64 4] w fun e w' => ∃ v, e = .returned (.tuple #[v, .nilIface]) ∧ Made (preC s.data.toList gc34) w v w' := by
  have Hn := Lib.hid hn
  clear hn
  go_enter Tryd.func80, Tryd.ntmps80
  go_wp2_with fail
  refine (gwait3_ok s w Hn.out hs).mono ?_
  rintro e x1 ⟨v, rfl, hv⟩
  have Hv := Lib.hid hv
  clear hv
  go_wp2
  go_ret2
  exact ⟨v, rfl, Hv.out⟩
theorem parts40 (s : ByteArray) (w : World) (hn : nameB s.data.toList = true) (hs : s.size ≤ 4) :
    Calls Tryd.prog 80 #[.int .i64 4, .string s, .int .i64 0] w fun e w' => ∃ v, e = .returned (.tuple #[v, .nilIface]) ∧ Made (preC s.data.toList gc40) w v w' := by
  have Hn := Lib.hid hn
  clear hn
  go_enter Tryd.func80, Tryd.ntmps80
  go_wp2_with fail
  refine (genter4_ok s w Hn.out hs).mono ?_
  rintro e x1 ⟨v, rfl, hv⟩
  have Hv := Lib.hid hv
  clear hv
  go_wp2
  go_ret2
  exact ⟨v, rfl, Hv.out⟩
theorem parts41 (s : ByteArray) (w : World) (hn : nameB s.data.toList = true) (hs : s.size ≤ 4) :
    Calls Tryd.prog 80 #[.int .i64 4, .string s, .int .i64 1] w fun e w' => ∃ v, e = .returned (.tuple #[v, .nilIface]) ∧ Made (preC s.data.toList gc41) w v w' := by
  have Hn := Lib.hid hn
  clear hn
  go_enter Tryd.func80, Tryd.ntmps80
  go_wp2_with fail
  refine (gleave4_ok s w Hn.out hs).mono ?_
  rintro e x1 ⟨v, rfl, hv⟩
  have Hv := Lib.hid hv
  clear hv
  go_wp2
  go_ret2
  exact ⟨v, rfl, Hv.out⟩
theorem parts42 (s : ByteArray) (w : World) (hn : nameB s.data.toList = true) (hs : s.size ≤ 4) :
    Calls Tryd.prog 80 #[.int .i64 4, .string s, .int .i64 2] w fun e w' => ∃ v, e = .returned (.tuple #[v, .nilIface]) ∧ Made (preC s.data.toList gc42) w v w' := by
  have Hn := Lib.hid hn
  clear hn
  go_enter Tryd.func80, Tryd.ntmps80
  go_wp2_with fail
  refine (grest4_ok s w Hn.out hs).mono ?_
  rintro e x1 ⟨v, rfl, hv⟩
  have Hv := Lib.hid hv
  clear hv
  go_wp2
  go_ret2
  exact ⟨v, rfl, Hv.out⟩
theorem parts43 (s : ByteArray) (w : World) (hn : nameB s.data.toList = true) (hs : s.size ≤ 4) :
    Calls Tryd.prog 80 #[.int .i64 4, .string s, .int .i64 3] w fun e w' => ∃ v, e = .returned (.tuple #[v, .nilIface]) ∧ Made (preC s.data.toList gc43) w v w' := by
  have Hn := Lib.hid hn
  clear hn
  go_enter Tryd.func80, Tryd.ntmps80
  go_wp2_with fail
  refine (ggone4_ok s w Hn.out hs).mono ?_
  rintro e x1 ⟨v, rfl, hv⟩
  have Hv := Lib.hid hv
  clear hv
  go_wp2
  go_ret2
  exact ⟨v, rfl, Hv.out⟩
theorem parts44 (s : ByteArray) (w : World) (hn : nameB s.data.toList = true) (hs : s.size ≤ 4) :
    Calls Tryd.prog 80 #[.int .i64 4, .string s, .int .i64 4] w fun e w' => ∃ v, e = .returned (.tuple #[v, .nilIface]) ∧ Made (preC s.data.toList gc44) w v w' := by
  have Hn := Lib.hid hn
  clear hn
  go_enter Tryd.func80, Tryd.ntmps80
  go_wp2_with fail
  refine (gwait4_ok s w Hn.out hs).mono ?_
  rintro e x1 ⟨v, rfl, hv⟩
  have Hv := Lib.hid hv
  clear hv
  go_wp2
  go_ret2
  exact ⟨v, rfl, Hv.out⟩
theorem parts_good {f k : Nat} (h1 : 1 ≤ f) (h4 : f ≤ 4) (hk : k < 5) (s : ByteArray) (w : World) (hn : nameB s.data.toList = true) (hs : s.size ≤ 4) :
    Calls Tryd.prog 80 #[.int .i64 f, .string s, .int .i64 k] w fun e w' => ∃ v, e = .returned (.tuple #[v, .nilIface]) ∧ Made (preC s.data.toList (gcode f k)) w v w' := by
  match f, h1, h4, k, hk with
  | 1, _, _, 0, _ => exact parts10 s w hn hs
  | 1, _, _, 1, _ => exact parts11 s w hn hs
  | 1, _, _, 2, _ => exact parts12 s w hn hs
  | 1, _, _, 3, _ => exact parts13 s w hn hs
  | 1, _, _, 4, _ => exact parts14 s w hn hs
  | 2, _, _, 0, _ => exact parts20 s w hn hs
  | 2, _, _, 1, _ => exact parts21 s w hn hs
  | 2, _, _, 2, _ => exact parts22 s w hn hs
  | 2, _, _, 3, _ => exact parts23 s w hn hs
  | 2, _, _, 4, _ => exact parts24 s w hn hs
  | 3, _, _, 0, _ => exact parts30 s w hn hs
  | 3, _, _, 1, _ => exact parts31 s w hn hs
  | 3, _, _, 2, _ => exact parts32 s w hn hs
  | 3, _, _, 3, _ => exact parts33 s w hn hs
  | 3, _, _, 4, _ => exact parts34 s w hn hs
  | 4, _, _, 0, _ => exact parts40 s w hn hs
  | 4, _, _, 1, _ => exact parts41 s w hn hs
  | 4, _, _, 2, _ => exact parts42 s w hn hs
  | 4, _, _, 3, _ => exact parts43 s w hn hs
  | 4, _, _, 4, _ => exact parts44 s w hn hs
end Go.Proofs.YtamfbfajlfbooaaDoor
