/- code.Name. -/
import Derived.Test.YtamfbfajlfbooaaDoorProg
import Derived.Test.YtamfbfajlfbooaaDoorGNameLaw
import Derived.WalkKit
import Derived.Deep.QuietTactic
import Derived.BigQuiet
import Derived.Lib.Hide
import Derived.Outline
set_option linter.unusedVariables false
set_option linter.unusedSimpArgs false
set_option linter.unusedSectionVars false
namespace Go.Proofs.YtamfbfajlfbooaaDoor
open Go.RowKit Qs Qh
theorem name_any (s : ByteArray) (w : World) (hs : s.size ≤ maxLen) :
    Calls Tryd.prog 109 #[.string s] w fun e w' => e = .returned (.bool (nameB s.data.toList)) ∧ w = w' := by
  unfold maxLen at hs
  by_cases h0 : s.size = 0
  · have e0 : s.toList = [] := by rw [Lib.toList_data]; exact List.length_eq_zero_iff.1 (by rw [bytes_len]; exact h0)
    have e1 : s.toList.isEmpty = true := by rw [e0]; rfl
    have e2 : nameB s.data.toList = false := by rw [← Lib.toList_data, e0]; rfl
    rw [e2]
    clear e2 h0
    go_enter Tryd.func109, Tryd.ntmps109
    go_wp2
    go_ret
    exact ⟨rfl, rfl⟩
  · have hp : 0 < s.size := by omega
    have e1 : s.toList.isEmpty = false := by
      rw [Lib.toList_data]
      cases h : s.data.toList with
      | nil => have := bytes_len s; rw [h] at this; simp at this; omega
      | cons _ _ => rfl
    by_cases h12 : 12 < s.size
    · have e2 := nameB_len (l := s.data.toList) (by rw [bytes_len]; exact h12)
      rw [e2]
      clear e2 h0
      have hd : decide ((12 : Int) < (s.size : Int)) = true := by simp; omega
      go_enter Tryd.func109, Tryd.ntmps109
      go_wp2
      go_ret
      exact ⟨rfl, rfl⟩
    · have hd : decide ((12 : Int) < (s.size : Int)) = false := by simp; omega
      have g0 := bytes_get s 0 hp
      go_enter Tryd.func109, Tryd.ntmps109
      go_wp2
      · go_ret
        refine ⟨ret_bool (nameB_first g0 ?_).symm, rfl⟩
        have : (s[0].toNat : Int) < 97 ∨ 122 < (s[0].toNat : Int) := by assumption
        unfold lowB; simp; omega
      · have hlow : lowB s[0] = true := by
          have : 97 ≤ (s[0].toNat : Int) ∧ (s[0].toNat : Int) ≤ 122 := by assumption
          unfold lowB; simp; omega
        have Hlow := Lib.hid hlow
        have G0 := Lib.hid g0
        clear hlow g0
        go_loop [24, 3, 4] (fun i _ _ => ∃ k : Nat, k ≤ s.size ∧ i = .int .i64 k ∧ ∀ (j : Nat) d, j < k → s.data.toList[j]? = some d → chB d = true) (fun i _ _ => s.size - (intOf i).toNat)
        case atStart => exact ⟨0, Nat.zero_le _, rfl, fun j d hj => absurd hj (by omega)⟩
        case round =>
          obtain ⟨k, hk, rfl, hall⟩ := hrel
          have Hall := Lib.hid hall
          clear hall
          by_cases hlt : k < s.size
          · have gk := bytes_get s k hlt
            have Gk := Lib.hid gk
            clear gk
            go_wp2
            all_goals (try simp only [bne_iff_ne, ne_eq, bne_eq_false_iff_eq] at *)
            all_goals first
              | (go_round
                 case rel => exact ⟨k + 1, by omega, by go_num, ch_step hlt Hall.out (chB_true (by omega))⟩
                 case measure => simp [intOf]; omega)
              | (go_ret
                 exact ⟨ret_bool (nameB_ch Gk.out (chB_false (by omega))).symm, rfl⟩)
          · obtain rfl : k = s.size := by omega
            go_wp2
            go_ret
            refine ⟨ret_bool (nameB_yes G0.out Hlow.out (by rw [bytes_len]; omega) fun i d hd => Hall.out i d ?_ hd).symm, rfl⟩
            have := (List.getElem?_eq_some_iff.1 hd).1
            rw [bytes_len] at this; exact this
      · go_ret
        refine ⟨ret_bool (nameB_first g0 ?_).symm, rfl⟩
        have : (s[0].toNat : Int) < 97 := by assumption
        unfold lowB; simp; omega
end Go.Proofs.YtamfbfajlfbooaaDoor
