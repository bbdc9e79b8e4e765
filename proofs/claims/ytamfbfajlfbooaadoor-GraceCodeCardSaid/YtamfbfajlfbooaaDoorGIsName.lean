/- quiescentref1.IsName. -/
import Derived.Test.YtamfbfajlfbooaaDoorProg
import Derived.Test.YtamfbfajlfbooaaDoorGNameLaw
import Derived.WalkKit
import Derived.Deep.QuietTactic
import Derived.BigQuiet
import Derived.Lib.Hide
set_option linter.unusedVariables false
set_option linter.unusedSimpArgs false
set_option linter.unusedSectionVars false
namespace Go.Proofs.YtamfbfajlfbooaaDoor
open Go.RowKit Qs Qh
theorem nameB_low {s : ByteArray} (hp : 0 < s.size) (h : lowB s[0] = false) : nameB s.data.toList = false := nameB_first (bytes_get s 0 hp) h
theorem lowB_true {c : UInt8} (h : 97 ≤ (c.toNat : Int) ∧ (c.toNat : Int) ≤ 122) : lowB c = true := by
  unfold lowB; simp only [Bool.and_eq_true, decide_eq_true_eq]; omega
theorem lowB_false {c : UInt8} (h : ¬ (97 ≤ (c.toNat : Int) ∧ (c.toNat : Int) ≤ 122)) : lowB c = false := by
  rw [← Bool.not_eq_true]; unfold lowB; simp only [Bool.and_eq_true, decide_eq_true_eq]; omega
theorem isName_any (s : ByteArray) (w : World) (hs : s.size ≤ maxLen) :
    Calls Tryd.prog 73 #[.string s] w fun e w' => e = .returned (.bool (nameB s.data.toList)) ∧ w = w' := by
  unfold maxLen at hs
  by_cases h0 : s.size = 0
  · have e2 : nameB s.data.toList = false := by
      have : s.data.toList = [] := List.length_eq_zero_iff.1 (by rw [bytes_len]; exact h0)
      rw [this]; rfl
    rw [e2]
    have hd : decide ((s.size : Int) < 1) = true := by simp; omega
    clear e2
    go_enter Tryd.func73, Tryd.ntmps73
    go_wp2
    go_ret
    exact ⟨rfl, rfl⟩
  · have hp : 0 < s.size := by omega
    have hd0 : decide ((s.size : Int) < 1) = false := by simp; omega
    by_cases h12 : 12 < s.size
    · have e2 := nameB_len (l := s.data.toList) (by rw [bytes_len]; exact h12)
      rw [e2]
      clear e2 h0
      have hd : decide ((12 : Int) < (s.size : Int)) = true := by simp; omega
      go_enter Tryd.func73, Tryd.ntmps73
      go_wp2
      go_ret
      exact ⟨rfl, rfl⟩
    · have hd : decide ((12 : Int) < (s.size : Int)) = false := by simp; omega
      clear h0
      go_enter Tryd.func73, Tryd.ntmps73
      go_wp2
      go_loop [3, 4, 5] (fun i _ _ => ∃ k : Nat, k ≤ s.size ∧ i = .int .i64 k ∧ (0 < k → lowB s[0] = true) ∧ ∀ (j : Nat) d, j < k → s.data.toList[j]? = some d → chB d = true) (fun i _ _ => s.size - (intOf i).toNat)
      case atStart => exact ⟨0, Nat.zero_le _, rfl, fun h => absurd h (by omega), fun j d hj => absurd hj (by omega)⟩
      case round =>
        obtain ⟨k, hk, rfl, hfirst, hall⟩ := hrel
        have Hall := Lib.hid hall
        have Hfirst := Lib.hid hfirst
        clear hall hfirst
        by_cases hlt : k < s.size
        · have gk := bytes_get s k hlt
          have Gk := Lib.hid gk
          clear gk
          by_cases hk0 : k = 0
          · subst hk0
            go_wp2
            all_goals (try simp only [bne_iff_ne, ne_eq, bne_eq_false_iff_eq, Bool.not_eq_true', Bool.not_eq_false', decide_eq_false_iff_not, decide_eq_true_eq] at *)
            all_goals first
              | (go_round
                 case rel => exact ⟨1, by omega, by go_num, fun _ => lowB_true (by omega), ch_step hlt Hall.out (chB_true (by omega))⟩
                 case measure => simp [intOf]; omega)
              | (go_ret
                 exact ⟨ret_bool (nameB_low hp (lowB_false (by omega))).symm, rfl⟩)
          · have hkz : ((k : Int) == 0) = false := by rw [beq_eq_false_iff_ne]; omega
            have Hk0 := Lib.hid hk0
            clear hk0
            go_wp2
            all_goals (try simp only [bne_iff_ne, ne_eq, bne_eq_false_iff_eq, Bool.not_eq_true', Bool.not_eq_false', decide_eq_false_iff_not, decide_eq_true_eq] at *)
            all_goals first
              | (go_round
                 case rel => exact ⟨k + 1, by omega, by go_num, fun _ => Hfirst.out (by have := Hk0.out; omega), ch_step hlt Hall.out (chB_true (by omega))⟩
                 case measure => simp [intOf]; omega)
              | (go_ret
                 exact ⟨ret_bool (nameB_ch Gk.out (chB_false (by omega))).symm, rfl⟩)
        · obtain rfl : k = s.size := by omega
          go_wp2
          go_ret
          refine ⟨ret_bool (nameB_yes (bytes_get s 0 hp) (Hfirst.out hp) (by rw [bytes_len]; omega) fun i d hd => Hall.out i d ?_ hd).symm, rfl⟩
          have := (List.getElem?_eq_some_iff.1 hd).1
          rw [bytes_len] at this; exact this
end Go.Proofs.YtamfbfajlfbooaaDoor
