/- SpinCode, walked. -/
import Derived.Test.YtamfbfajlfbooaaDoorGCoded2
import Derived.Test.YtamfbfajlfbooaaDoorGLocked
set_option linter.unusedVariables false
set_option linter.unusedSimpArgs false
set_option linter.unusedSectionVars false
namespace Go.Proofs.YtamfbfajlfbooaaDoor
open Go.RowKit Qs Qh
set_option maxHeartbeats 2000000 in
theorem sc_bad00 (s : ByteArray) (cell word tmp : Int) (w : World) (a : Nat → Addr) (E : ErrsAt w a) (hl : s.size ≤ 100) (c0 : cell < 0) (t0 : tmp < 0) :
    Calls Tryd.prog 13 #[.string s, .int .i64 cell, .int .i64 word, .int .i64 tmp] w fun e w' => e = .returned (.bool true) ∧ Mod noF w w' := by
  have hl100 : decide ((100 : Int) < (s.size : Int)) = false := by simp; omega
  have hlook : ∀ w1, ErrsAt w1 a → Calls Tryd.prog 105 #[.string s, .int .i64 cell, .int .i64 word, .int .i64 tmp] w1 fun e w' => e = .returned (errV a 1) ∧ w1 = w' := fun w1 E1 => look_bound s cell word tmp w1 a E1 (fun h => by unfold Bounds at h; omega)
  have HE := Lib.hid E
  clear E
  have d0 : decide (cell < 0) = true := by simpa using c0
  have s0 : decide (tmp < 0) = true := by simpa using t0
  go_enter Tryd.func13, Tryd.ntmps13
  go_wp2_with fail
  refine (locked_any w).mono ?_
  rintro e w1 ⟨rfl, hm1⟩
  have hlk := hlook w1 (HE.out.keep hm1)
  have htk := take_bad s cell word tmp w1 a 1 hlk
  have hgv := give_bad s cell word tmp w1 a 1 hlk
  have hcd := coded2_at (HE.out.keep hm1) 1 (by omega) 2
  rw [show decide ((2 : Int) = ((1 : Nat) : Int) + 1) = true by decide] at hcd
  unfold errV at htk hgv hcd
  have Htk := Lib.hid htk
  have Hgv := Lib.hid hgv
  have Hm1 := Lib.hid hm1
  clear hlk htk hgv hm1 hlook hcd
  go_wp2_with fail
  refine Htk.out.mono ?_
  rintro e w2 ⟨rfl, rfl⟩
  go_wp2_with fail
  refine Hgv.out.mono ?_
  rintro e w2 ⟨rfl, rfl⟩
  go_wp2_with fail
  have hcd := coded2_at (HE.out.keep Hm1.out) 1 (by omega) 2
  rw [show decide ((2 : Int) = ((1 : Nat) : Int) + 1) = true by decide] at hcd
  unfold errV at hcd
  refine hcd.mono ?_
  rintro e w3 ⟨rfl, hm3⟩
  have Hm3 := Lib.hid (Hm1.out.trans0 hm3)
  clear hcd hm3
  go_wp2_with fail
  have hcd := coded2_at (HE.out.keep Hm3.out) 1 (by omega) 2
  rw [show decide ((2 : Int) = ((1 : Nat) : Int) + 1) = true by decide] at hcd
  unfold errV at hcd
  refine hcd.mono ?_
  rintro e w4 ⟨rfl, hm4⟩
  have Hm4 := Lib.hid (Hm3.out.trans0 hm4)
  clear hcd hm4
  go_wp2
  go_ret
  exact ⟨rfl, Hm4.out⟩
set_option maxHeartbeats 2000000 in
theorem sc_bad01 (s : ByteArray) (cell word tmp : Int) (w : World) (a : Nat → Addr) (E : ErrsAt w a) (hl : s.size ≤ 100) (c0 : cell < 0) (t0 : ¬ tmp < 0) (t1 : 7 ≤ tmp) :
    Calls Tryd.prog 13 #[.string s, .int .i64 cell, .int .i64 word, .int .i64 tmp] w fun e w' => e = .returned (.bool true) ∧ Mod noF w w' := by
  have hl100 : decide ((100 : Int) < (s.size : Int)) = false := by simp; omega
  have hlook : ∀ w1, ErrsAt w1 a → Calls Tryd.prog 105 #[.string s, .int .i64 cell, .int .i64 word, .int .i64 tmp] w1 fun e w' => e = .returned (errV a 1) ∧ w1 = w' := fun w1 E1 => look_bound s cell word tmp w1 a E1 (fun h => by unfold Bounds at h; omega)
  have HE := Lib.hid E
  clear E
  have d0 : decide (cell < 0) = true := by simpa using c0
  have s0 : decide (tmp < 0) = false := by simpa using t0
  have s1 : decide (7 ≤ tmp) = true := by simpa using t1
  go_enter Tryd.func13, Tryd.ntmps13
  go_wp2_with fail
  refine (locked_any w).mono ?_
  rintro e w1 ⟨rfl, hm1⟩
  have hlk := hlook w1 (HE.out.keep hm1)
  have htk := take_bad s cell word tmp w1 a 1 hlk
  have hgv := give_bad s cell word tmp w1 a 1 hlk
  have hcd := coded2_at (HE.out.keep hm1) 1 (by omega) 2
  rw [show decide ((2 : Int) = ((1 : Nat) : Int) + 1) = true by decide] at hcd
  unfold errV at htk hgv hcd
  have Htk := Lib.hid htk
  have Hgv := Lib.hid hgv
  have Hm1 := Lib.hid hm1
  clear hlk htk hgv hm1 hlook hcd
  go_wp2_with fail
  refine Htk.out.mono ?_
  rintro e w2 ⟨rfl, rfl⟩
  go_wp2_with fail
  refine Hgv.out.mono ?_
  rintro e w2 ⟨rfl, rfl⟩
  go_wp2_with fail
  have hcd := coded2_at (HE.out.keep Hm1.out) 1 (by omega) 2
  rw [show decide ((2 : Int) = ((1 : Nat) : Int) + 1) = true by decide] at hcd
  unfold errV at hcd
  refine hcd.mono ?_
  rintro e w3 ⟨rfl, hm3⟩
  have Hm3 := Lib.hid (Hm1.out.trans0 hm3)
  clear hcd hm3
  go_wp2_with fail
  have hcd := coded2_at (HE.out.keep Hm3.out) 1 (by omega) 2
  rw [show decide ((2 : Int) = ((1 : Nat) : Int) + 1) = true by decide] at hcd
  unfold errV at hcd
  refine hcd.mono ?_
  rintro e w4 ⟨rfl, hm4⟩
  have Hm4 := Lib.hid (Hm3.out.trans0 hm4)
  clear hcd hm4
  go_wp2
  go_ret
  exact ⟨rfl, Hm4.out⟩
set_option maxHeartbeats 2000000 in
theorem sc_bad02 (s : ByteArray) (cell word tmp : Int) (w : World) (a : Nat → Addr) (E : ErrsAt w a) (hl : s.size ≤ 100) (c0 : cell < 0) (t0 : ¬ tmp < 0) (t1 : ¬ 7 ≤ tmp) (t2 : cell = tmp) :
    Calls Tryd.prog 13 #[.string s, .int .i64 cell, .int .i64 word, .int .i64 tmp] w fun e w' => e = .returned (.bool true) ∧ Mod noF w w' := by
  have hl100 : decide ((100 : Int) < (s.size : Int)) = false := by simp; omega
  have hlook : ∀ w1, ErrsAt w1 a → Calls Tryd.prog 105 #[.string s, .int .i64 cell, .int .i64 word, .int .i64 tmp] w1 fun e w' => e = .returned (errV a 1) ∧ w1 = w' := fun w1 E1 => look_bound s cell word tmp w1 a E1 (fun h => by unfold Bounds at h; omega)
  have HE := Lib.hid E
  clear E
  have d0 : decide (cell < 0) = true := by simpa using c0
  have s0 : decide (tmp < 0) = false := by simpa using t0
  have s1 : decide (7 ≤ tmp) = false := by simpa using t1
  have s2 : (cell == tmp) = true := by simpa using t2
  clear t2
  go_enter Tryd.func13, Tryd.ntmps13
  go_wp2_with fail
  refine (locked_any w).mono ?_
  rintro e w1 ⟨rfl, hm1⟩
  have hlk := hlook w1 (HE.out.keep hm1)
  have htk := take_bad s cell word tmp w1 a 1 hlk
  have hgv := give_bad s cell word tmp w1 a 1 hlk
  have hcd := coded2_at (HE.out.keep hm1) 1 (by omega) 2
  rw [show decide ((2 : Int) = ((1 : Nat) : Int) + 1) = true by decide] at hcd
  unfold errV at htk hgv hcd
  have Htk := Lib.hid htk
  have Hgv := Lib.hid hgv
  have Hm1 := Lib.hid hm1
  clear hlk htk hgv hm1 hlook hcd
  go_wp2_with fail
  refine Htk.out.mono ?_
  rintro e w2 ⟨rfl, rfl⟩
  go_wp2_with fail
  refine Hgv.out.mono ?_
  rintro e w2 ⟨rfl, rfl⟩
  go_wp2_with fail
  have hcd := coded2_at (HE.out.keep Hm1.out) 1 (by omega) 2
  rw [show decide ((2 : Int) = ((1 : Nat) : Int) + 1) = true by decide] at hcd
  unfold errV at hcd
  refine hcd.mono ?_
  rintro e w3 ⟨rfl, hm3⟩
  have Hm3 := Lib.hid (Hm1.out.trans0 hm3)
  clear hcd hm3
  go_wp2_with fail
  have hcd := coded2_at (HE.out.keep Hm3.out) 1 (by omega) 2
  rw [show decide ((2 : Int) = ((1 : Nat) : Int) + 1) = true by decide] at hcd
  unfold errV at hcd
  refine hcd.mono ?_
  rintro e w4 ⟨rfl, hm4⟩
  have Hm4 := Lib.hid (Hm3.out.trans0 hm4)
  clear hcd hm4
  go_wp2
  go_ret
  exact ⟨rfl, Hm4.out⟩
set_option maxHeartbeats 2000000 in
theorem sc_bad03 (s : ByteArray) (cell word tmp : Int) (w : World) (a : Nat → Addr) (E : ErrsAt w a) (hl : s.size ≤ 100) (c0 : cell < 0) (t0 : ¬ tmp < 0) (t1 : ¬ 7 ≤ tmp) (t2 : ¬ cell = tmp) (t3 : cell = tmp + 1) :
    Calls Tryd.prog 13 #[.string s, .int .i64 cell, .int .i64 word, .int .i64 tmp] w fun e w' => e = .returned (.bool true) ∧ Mod noF w w' := by
  have hl100 : decide ((100 : Int) < (s.size : Int)) = false := by simp; omega
  have hlook : ∀ w1, ErrsAt w1 a → Calls Tryd.prog 105 #[.string s, .int .i64 cell, .int .i64 word, .int .i64 tmp] w1 fun e w' => e = .returned (errV a 1) ∧ w1 = w' := fun w1 E1 => look_bound s cell word tmp w1 a E1 (fun h => by unfold Bounds at h; omega)
  have HE := Lib.hid E
  clear E
  have d0 : decide (cell < 0) = true := by simpa using c0
  have s0 : decide (tmp < 0) = false := by simpa using t0
  have s1 : decide (7 ≤ tmp) = false := by simpa using t1
  have s2 : (cell == tmp) = false := by simpa using t2
  have s3 : (cell == tmp + 1) = true := by simpa using t3
  clear t2 t3
  go_enter Tryd.func13, Tryd.ntmps13
  go_wp2_with fail
  refine (locked_any w).mono ?_
  rintro e w1 ⟨rfl, hm1⟩
  have hlk := hlook w1 (HE.out.keep hm1)
  have htk := take_bad s cell word tmp w1 a 1 hlk
  have hgv := give_bad s cell word tmp w1 a 1 hlk
  have hcd := coded2_at (HE.out.keep hm1) 1 (by omega) 2
  rw [show decide ((2 : Int) = ((1 : Nat) : Int) + 1) = true by decide] at hcd
  unfold errV at htk hgv hcd
  have Htk := Lib.hid htk
  have Hgv := Lib.hid hgv
  have Hm1 := Lib.hid hm1
  clear hlk htk hgv hm1 hlook hcd
  go_wp2_with fail
  refine Htk.out.mono ?_
  rintro e w2 ⟨rfl, rfl⟩
  go_wp2_with fail
  refine Hgv.out.mono ?_
  rintro e w2 ⟨rfl, rfl⟩
  go_wp2_with fail
  have hcd := coded2_at (HE.out.keep Hm1.out) 1 (by omega) 2
  rw [show decide ((2 : Int) = ((1 : Nat) : Int) + 1) = true by decide] at hcd
  unfold errV at hcd
  refine hcd.mono ?_
  rintro e w3 ⟨rfl, hm3⟩
  have Hm3 := Lib.hid (Hm1.out.trans0 hm3)
  clear hcd hm3
  go_wp2_with fail
  have hcd := coded2_at (HE.out.keep Hm3.out) 1 (by omega) 2
  rw [show decide ((2 : Int) = ((1 : Nat) : Int) + 1) = true by decide] at hcd
  unfold errV at hcd
  refine hcd.mono ?_
  rintro e w4 ⟨rfl, hm4⟩
  have Hm4 := Lib.hid (Hm3.out.trans0 hm4)
  clear hcd hm4
  go_wp2
  go_ret
  exact ⟨rfl, Hm4.out⟩
set_option maxHeartbeats 2000000 in
theorem sc_bad04 (s : ByteArray) (cell word tmp : Int) (w : World) (a : Nat → Addr) (E : ErrsAt w a) (hl : s.size ≤ 100) (c0 : cell < 0) (t0 : ¬ tmp < 0) (t1 : ¬ 7 ≤ tmp) (t2 : ¬ cell = tmp) (t3 : ¬ cell = tmp + 1) :
    Calls Tryd.prog 13 #[.string s, .int .i64 cell, .int .i64 word, .int .i64 tmp] w fun e w' => e = .returned (.bool true) ∧ Mod noF w w' := by
  have hl100 : decide ((100 : Int) < (s.size : Int)) = false := by simp; omega
  have hlook : ∀ w1, ErrsAt w1 a → Calls Tryd.prog 105 #[.string s, .int .i64 cell, .int .i64 word, .int .i64 tmp] w1 fun e w' => e = .returned (errV a 1) ∧ w1 = w' := fun w1 E1 => look_bound s cell word tmp w1 a E1 (fun h => by unfold Bounds at h; omega)
  have HE := Lib.hid E
  clear E
  have d0 : decide (cell < 0) = true := by simpa using c0
  have s0 : decide (tmp < 0) = false := by simpa using t0
  have s1 : decide (7 ≤ tmp) = false := by simpa using t1
  have s2 : (cell == tmp) = false := by simpa using t2
  have s3 : (cell == tmp + 1) = false := by simpa using t3
  clear t2 t3
  go_enter Tryd.func13, Tryd.ntmps13
  go_wp2_with fail
  refine (locked_any w).mono ?_
  rintro e w1 ⟨rfl, hm1⟩
  have hlk := hlook w1 (HE.out.keep hm1)
  have htk := take_bad s cell word tmp w1 a 1 hlk
  have hgv := give_bad s cell word tmp w1 a 1 hlk
  have hcd := coded2_at (HE.out.keep hm1) 1 (by omega) 2
  rw [show decide ((2 : Int) = ((1 : Nat) : Int) + 1) = true by decide] at hcd
  unfold errV at htk hgv hcd
  have Htk := Lib.hid htk
  have Hgv := Lib.hid hgv
  have Hm1 := Lib.hid hm1
  clear hlk htk hgv hm1 hlook hcd
  go_wp2_with fail
  refine Htk.out.mono ?_
  rintro e w2 ⟨rfl, rfl⟩
  go_wp2_with fail
  refine Hgv.out.mono ?_
  rintro e w2 ⟨rfl, rfl⟩
  go_wp2_with fail
  have hcd := coded2_at (HE.out.keep Hm1.out) 1 (by omega) 2
  rw [show decide ((2 : Int) = ((1 : Nat) : Int) + 1) = true by decide] at hcd
  unfold errV at hcd
  refine hcd.mono ?_
  rintro e w3 ⟨rfl, hm3⟩
  have Hm3 := Lib.hid (Hm1.out.trans0 hm3)
  clear hcd hm3
  go_wp2_with fail
  have hcd := coded2_at (HE.out.keep Hm3.out) 1 (by omega) 2
  rw [show decide ((2 : Int) = ((1 : Nat) : Int) + 1) = true by decide] at hcd
  unfold errV at hcd
  refine hcd.mono ?_
  rintro e w4 ⟨rfl, hm4⟩
  have Hm4 := Lib.hid (Hm3.out.trans0 hm4)
  clear hcd hm4
  go_wp2
  go_ret
  exact ⟨rfl, Hm4.out⟩
set_option maxHeartbeats 2000000 in
theorem sc_bad10 (s : ByteArray) (cell word tmp : Int) (w : World) (a : Nat → Addr) (E : ErrsAt w a) (hl : s.size ≤ 100) (c0 : ¬ cell < 0) (c1 : 8 ≤ cell) (t0 : tmp < 0) :
    Calls Tryd.prog 13 #[.string s, .int .i64 cell, .int .i64 word, .int .i64 tmp] w fun e w' => e = .returned (.bool true) ∧ Mod noF w w' := by
  have hl100 : decide ((100 : Int) < (s.size : Int)) = false := by simp; omega
  have hlook : ∀ w1, ErrsAt w1 a → Calls Tryd.prog 105 #[.string s, .int .i64 cell, .int .i64 word, .int .i64 tmp] w1 fun e w' => e = .returned (errV a 1) ∧ w1 = w' := fun w1 E1 => look_bound s cell word tmp w1 a E1 (fun h => by unfold Bounds at h; omega)
  have HE := Lib.hid E
  clear E
  have d0 : decide (cell < 0) = false := by simpa using c0
  have d1 : decide (8 ≤ cell) = true := by simpa using c1
  have s0 : decide (tmp < 0) = true := by simpa using t0
  go_enter Tryd.func13, Tryd.ntmps13
  go_wp2_with fail
  refine (locked_any w).mono ?_
  rintro e w1 ⟨rfl, hm1⟩
  have hlk := hlook w1 (HE.out.keep hm1)
  have htk := take_bad s cell word tmp w1 a 1 hlk
  have hgv := give_bad s cell word tmp w1 a 1 hlk
  have hcd := coded2_at (HE.out.keep hm1) 1 (by omega) 2
  rw [show decide ((2 : Int) = ((1 : Nat) : Int) + 1) = true by decide] at hcd
  unfold errV at htk hgv hcd
  have Htk := Lib.hid htk
  have Hgv := Lib.hid hgv
  have Hm1 := Lib.hid hm1
  clear hlk htk hgv hm1 hlook hcd
  go_wp2_with fail
  refine Htk.out.mono ?_
  rintro e w2 ⟨rfl, rfl⟩
  go_wp2_with fail
  refine Hgv.out.mono ?_
  rintro e w2 ⟨rfl, rfl⟩
  go_wp2_with fail
  have hcd := coded2_at (HE.out.keep Hm1.out) 1 (by omega) 2
  rw [show decide ((2 : Int) = ((1 : Nat) : Int) + 1) = true by decide] at hcd
  unfold errV at hcd
  refine hcd.mono ?_
  rintro e w3 ⟨rfl, hm3⟩
  have Hm3 := Lib.hid (Hm1.out.trans0 hm3)
  clear hcd hm3
  go_wp2_with fail
  have hcd := coded2_at (HE.out.keep Hm3.out) 1 (by omega) 2
  rw [show decide ((2 : Int) = ((1 : Nat) : Int) + 1) = true by decide] at hcd
  unfold errV at hcd
  refine hcd.mono ?_
  rintro e w4 ⟨rfl, hm4⟩
  have Hm4 := Lib.hid (Hm3.out.trans0 hm4)
  clear hcd hm4
  go_wp2
  go_ret
  exact ⟨rfl, Hm4.out⟩
set_option maxHeartbeats 2000000 in
theorem sc_bad11 (s : ByteArray) (cell word tmp : Int) (w : World) (a : Nat → Addr) (E : ErrsAt w a) (hl : s.size ≤ 100) (c0 : ¬ cell < 0) (c1 : 8 ≤ cell) (t0 : ¬ tmp < 0) (t1 : 7 ≤ tmp) :
    Calls Tryd.prog 13 #[.string s, .int .i64 cell, .int .i64 word, .int .i64 tmp] w fun e w' => e = .returned (.bool true) ∧ Mod noF w w' := by
  have hl100 : decide ((100 : Int) < (s.size : Int)) = false := by simp; omega
  have hlook : ∀ w1, ErrsAt w1 a → Calls Tryd.prog 105 #[.string s, .int .i64 cell, .int .i64 word, .int .i64 tmp] w1 fun e w' => e = .returned (errV a 1) ∧ w1 = w' := fun w1 E1 => look_bound s cell word tmp w1 a E1 (fun h => by unfold Bounds at h; omega)
  have HE := Lib.hid E
  clear E
  have d0 : decide (cell < 0) = false := by simpa using c0
  have d1 : decide (8 ≤ cell) = true := by simpa using c1
  have s0 : decide (tmp < 0) = false := by simpa using t0
  have s1 : decide (7 ≤ tmp) = true := by simpa using t1
  go_enter Tryd.func13, Tryd.ntmps13
  go_wp2_with fail
  refine (locked_any w).mono ?_
  rintro e w1 ⟨rfl, hm1⟩
  have hlk := hlook w1 (HE.out.keep hm1)
  have htk := take_bad s cell word tmp w1 a 1 hlk
  have hgv := give_bad s cell word tmp w1 a 1 hlk
  have hcd := coded2_at (HE.out.keep hm1) 1 (by omega) 2
  rw [show decide ((2 : Int) = ((1 : Nat) : Int) + 1) = true by decide] at hcd
  unfold errV at htk hgv hcd
  have Htk := Lib.hid htk
  have Hgv := Lib.hid hgv
  have Hm1 := Lib.hid hm1
  clear hlk htk hgv hm1 hlook hcd
  go_wp2_with fail
  refine Htk.out.mono ?_
  rintro e w2 ⟨rfl, rfl⟩
  go_wp2_with fail
  refine Hgv.out.mono ?_
  rintro e w2 ⟨rfl, rfl⟩
  go_wp2_with fail
  have hcd := coded2_at (HE.out.keep Hm1.out) 1 (by omega) 2
  rw [show decide ((2 : Int) = ((1 : Nat) : Int) + 1) = true by decide] at hcd
  unfold errV at hcd
  refine hcd.mono ?_
  rintro e w3 ⟨rfl, hm3⟩
  have Hm3 := Lib.hid (Hm1.out.trans0 hm3)
  clear hcd hm3
  go_wp2_with fail
  have hcd := coded2_at (HE.out.keep Hm3.out) 1 (by omega) 2
  rw [show decide ((2 : Int) = ((1 : Nat) : Int) + 1) = true by decide] at hcd
  unfold errV at hcd
  refine hcd.mono ?_
  rintro e w4 ⟨rfl, hm4⟩
  have Hm4 := Lib.hid (Hm3.out.trans0 hm4)
  clear hcd hm4
  go_wp2
  go_ret
  exact ⟨rfl, Hm4.out⟩
set_option maxHeartbeats 2000000 in
theorem sc_bad12 (s : ByteArray) (cell word tmp : Int) (w : World) (a : Nat → Addr) (E : ErrsAt w a) (hl : s.size ≤ 100) (c0 : ¬ cell < 0) (c1 : 8 ≤ cell) (t0 : ¬ tmp < 0) (t1 : ¬ 7 ≤ tmp) (t2 : cell = tmp) :
    Calls Tryd.prog 13 #[.string s, .int .i64 cell, .int .i64 word, .int .i64 tmp] w fun e w' => e = .returned (.bool true) ∧ Mod noF w w' := by
  have hl100 : decide ((100 : Int) < (s.size : Int)) = false := by simp; omega
  have hlook : ∀ w1, ErrsAt w1 a → Calls Tryd.prog 105 #[.string s, .int .i64 cell, .int .i64 word, .int .i64 tmp] w1 fun e w' => e = .returned (errV a 1) ∧ w1 = w' := fun w1 E1 => look_bound s cell word tmp w1 a E1 (fun h => by unfold Bounds at h; omega)
  have HE := Lib.hid E
  clear E
  have d0 : decide (cell < 0) = false := by simpa using c0
  have d1 : decide (8 ≤ cell) = true := by simpa using c1
  have s0 : decide (tmp < 0) = false := by simpa using t0
  have s1 : decide (7 ≤ tmp) = false := by simpa using t1
  have s2 : (cell == tmp) = true := by simpa using t2
  clear t2
  go_enter Tryd.func13, Tryd.ntmps13
  go_wp2_with fail
  refine (locked_any w).mono ?_
  rintro e w1 ⟨rfl, hm1⟩
  have hlk := hlook w1 (HE.out.keep hm1)
  have htk := take_bad s cell word tmp w1 a 1 hlk
  have hgv := give_bad s cell word tmp w1 a 1 hlk
  have hcd := coded2_at (HE.out.keep hm1) 1 (by omega) 2
  rw [show decide ((2 : Int) = ((1 : Nat) : Int) + 1) = true by decide] at hcd
  unfold errV at htk hgv hcd
  have Htk := Lib.hid htk
  have Hgv := Lib.hid hgv
  have Hm1 := Lib.hid hm1
  clear hlk htk hgv hm1 hlook hcd
  go_wp2_with fail
  refine Htk.out.mono ?_
  rintro e w2 ⟨rfl, rfl⟩
  go_wp2_with fail
  refine Hgv.out.mono ?_
  rintro e w2 ⟨rfl, rfl⟩
  go_wp2_with fail
  have hcd := coded2_at (HE.out.keep Hm1.out) 1 (by omega) 2
  rw [show decide ((2 : Int) = ((1 : Nat) : Int) + 1) = true by decide] at hcd
  unfold errV at hcd
  refine hcd.mono ?_
  rintro e w3 ⟨rfl, hm3⟩
  have Hm3 := Lib.hid (Hm1.out.trans0 hm3)
  clear hcd hm3
  go_wp2_with fail
  have hcd := coded2_at (HE.out.keep Hm3.out) 1 (by omega) 2
  rw [show decide ((2 : Int) = ((1 : Nat) : Int) + 1) = true by decide] at hcd
  unfold errV at hcd
  refine hcd.mono ?_
  rintro e w4 ⟨rfl, hm4⟩
  have Hm4 := Lib.hid (Hm3.out.trans0 hm4)
  clear hcd hm4
  go_wp2
  go_ret
  exact ⟨rfl, Hm4.out⟩
set_option maxHeartbeats 2000000 in
theorem sc_bad13 (s : ByteArray) (cell word tmp : Int) (w : World) (a : Nat → Addr) (E : ErrsAt w a) (hl : s.size ≤ 100) (c0 : ¬ cell < 0) (c1 : 8 ≤ cell) (t0 : ¬ tmp < 0) (t1 : ¬ 7 ≤ tmp) (t2 : ¬ cell = tmp) (t3 : cell = tmp + 1) :
    Calls Tryd.prog 13 #[.string s, .int .i64 cell, .int .i64 word, .int .i64 tmp] w fun e w' => e = .returned (.bool true) ∧ Mod noF w w' := by
  have hl100 : decide ((100 : Int) < (s.size : Int)) = false := by simp; omega
  have hlook : ∀ w1, ErrsAt w1 a → Calls Tryd.prog 105 #[.string s, .int .i64 cell, .int .i64 word, .int .i64 tmp] w1 fun e w' => e = .returned (errV a 1) ∧ w1 = w' := fun w1 E1 => look_bound s cell word tmp w1 a E1 (fun h => by unfold Bounds at h; omega)
  have HE := Lib.hid E
  clear E
  have d0 : decide (cell < 0) = false := by simpa using c0
  have d1 : decide (8 ≤ cell) = true := by simpa using c1
  have s0 : decide (tmp < 0) = false := by simpa using t0
  have s1 : decide (7 ≤ tmp) = false := by simpa using t1
  have s2 : (cell == tmp) = false := by simpa using t2
  have s3 : (cell == tmp + 1) = true := by simpa using t3
  clear t2 t3
  go_enter Tryd.func13, Tryd.ntmps13
  go_wp2_with fail
  refine (locked_any w).mono ?_
  rintro e w1 ⟨rfl, hm1⟩
  have hlk := hlook w1 (HE.out.keep hm1)
  have htk := take_bad s cell word tmp w1 a 1 hlk
  have hgv := give_bad s cell word tmp w1 a 1 hlk
  have hcd := coded2_at (HE.out.keep hm1) 1 (by omega) 2
  rw [show decide ((2 : Int) = ((1 : Nat) : Int) + 1) = true by decide] at hcd
  unfold errV at htk hgv hcd
  have Htk := Lib.hid htk
  have Hgv := Lib.hid hgv
  have Hm1 := Lib.hid hm1
  clear hlk htk hgv hm1 hlook hcd
  go_wp2_with fail
  refine Htk.out.mono ?_
  rintro e w2 ⟨rfl, rfl⟩
  go_wp2_with fail
  refine Hgv.out.mono ?_
  rintro e w2 ⟨rfl, rfl⟩
  go_wp2_with fail
  have hcd := coded2_at (HE.out.keep Hm1.out) 1 (by omega) 2
  rw [show decide ((2 : Int) = ((1 : Nat) : Int) + 1) = true by decide] at hcd
  unfold errV at hcd
  refine hcd.mono ?_
  rintro e w3 ⟨rfl, hm3⟩
  have Hm3 := Lib.hid (Hm1.out.trans0 hm3)
  clear hcd hm3
  go_wp2_with fail
  have hcd := coded2_at (HE.out.keep Hm3.out) 1 (by omega) 2
  rw [show decide ((2 : Int) = ((1 : Nat) : Int) + 1) = true by decide] at hcd
  unfold errV at hcd
  refine hcd.mono ?_
  rintro e w4 ⟨rfl, hm4⟩
  have Hm4 := Lib.hid (Hm3.out.trans0 hm4)
  clear hcd hm4
  go_wp2
  go_ret
  exact ⟨rfl, Hm4.out⟩
set_option maxHeartbeats 2000000 in
theorem sc_bad14 (s : ByteArray) (cell word tmp : Int) (w : World) (a : Nat → Addr) (E : ErrsAt w a) (hl : s.size ≤ 100) (c0 : ¬ cell < 0) (c1 : 8 ≤ cell) (t0 : ¬ tmp < 0) (t1 : ¬ 7 ≤ tmp) (t2 : ¬ cell = tmp) (t3 : ¬ cell = tmp + 1) :
    Calls Tryd.prog 13 #[.string s, .int .i64 cell, .int .i64 word, .int .i64 tmp] w fun e w' => e = .returned (.bool true) ∧ Mod noF w w' := by
  have hl100 : decide ((100 : Int) < (s.size : Int)) = false := by simp; omega
  have hlook : ∀ w1, ErrsAt w1 a → Calls Tryd.prog 105 #[.string s, .int .i64 cell, .int .i64 word, .int .i64 tmp] w1 fun e w' => e = .returned (errV a 1) ∧ w1 = w' := fun w1 E1 => look_bound s cell word tmp w1 a E1 (fun h => by unfold Bounds at h; omega)
  have HE := Lib.hid E
  clear E
  have d0 : decide (cell < 0) = false := by simpa using c0
  have d1 : decide (8 ≤ cell) = true := by simpa using c1
  have s0 : decide (tmp < 0) = false := by simpa using t0
  have s1 : decide (7 ≤ tmp) = false := by simpa using t1
  have s2 : (cell == tmp) = false := by simpa using t2
  have s3 : (cell == tmp + 1) = false := by simpa using t3
  clear t2 t3
  go_enter Tryd.func13, Tryd.ntmps13
  go_wp2_with fail
  refine (locked_any w).mono ?_
  rintro e w1 ⟨rfl, hm1⟩
  have hlk := hlook w1 (HE.out.keep hm1)
  have htk := take_bad s cell word tmp w1 a 1 hlk
  have hgv := give_bad s cell word tmp w1 a 1 hlk
  have hcd := coded2_at (HE.out.keep hm1) 1 (by omega) 2
  rw [show decide ((2 : Int) = ((1 : Nat) : Int) + 1) = true by decide] at hcd
  unfold errV at htk hgv hcd
  have Htk := Lib.hid htk
  have Hgv := Lib.hid hgv
  have Hm1 := Lib.hid hm1
  clear hlk htk hgv hm1 hlook hcd
  go_wp2_with fail
  refine Htk.out.mono ?_
  rintro e w2 ⟨rfl, rfl⟩
  go_wp2_with fail
  refine Hgv.out.mono ?_
  rintro e w2 ⟨rfl, rfl⟩
  go_wp2_with fail
  have hcd := coded2_at (HE.out.keep Hm1.out) 1 (by omega) 2
  rw [show decide ((2 : Int) = ((1 : Nat) : Int) + 1) = true by decide] at hcd
  unfold errV at hcd
  refine hcd.mono ?_
  rintro e w3 ⟨rfl, hm3⟩
  have Hm3 := Lib.hid (Hm1.out.trans0 hm3)
  clear hcd hm3
  go_wp2_with fail
  have hcd := coded2_at (HE.out.keep Hm3.out) 1 (by omega) 2
  rw [show decide ((2 : Int) = ((1 : Nat) : Int) + 1) = true by decide] at hcd
  unfold errV at hcd
  refine hcd.mono ?_
  rintro e w4 ⟨rfl, hm4⟩
  have Hm4 := Lib.hid (Hm3.out.trans0 hm4)
  clear hcd hm4
  go_wp2
  go_ret
  exact ⟨rfl, Hm4.out⟩
set_option maxHeartbeats 2000000 in
theorem sc_bad20 (s : ByteArray) (cell word tmp : Int) (w : World) (a : Nat → Addr) (E : ErrsAt w a) (hl : s.size ≤ 100) (c0 : ¬ cell < 0) (c1 : ¬ 8 ≤ cell) (c2 : word < 0) (t0 : tmp < 0) :
    Calls Tryd.prog 13 #[.string s, .int .i64 cell, .int .i64 word, .int .i64 tmp] w fun e w' => e = .returned (.bool true) ∧ Mod noF w w' := by
  have hl100 : decide ((100 : Int) < (s.size : Int)) = false := by simp; omega
  have hlook : ∀ w1, ErrsAt w1 a → Calls Tryd.prog 105 #[.string s, .int .i64 cell, .int .i64 word, .int .i64 tmp] w1 fun e w' => e = .returned (errV a 1) ∧ w1 = w' := fun w1 E1 => look_bound s cell word tmp w1 a E1 (fun h => by unfold Bounds at h; omega)
  have HE := Lib.hid E
  clear E
  have d0 : decide (cell < 0) = false := by simpa using c0
  have d1 : decide (8 ≤ cell) = false := by simpa using c1
  have d2 : decide (word < 0) = true := by simpa using c2
  have s0 : decide (tmp < 0) = true := by simpa using t0
  go_enter Tryd.func13, Tryd.ntmps13
  go_wp2_with fail
  refine (locked_any w).mono ?_
  rintro e w1 ⟨rfl, hm1⟩
  have hlk := hlook w1 (HE.out.keep hm1)
  have htk := take_bad s cell word tmp w1 a 1 hlk
  have hgv := give_bad s cell word tmp w1 a 1 hlk
  have hcd := coded2_at (HE.out.keep hm1) 1 (by omega) 2
  rw [show decide ((2 : Int) = ((1 : Nat) : Int) + 1) = true by decide] at hcd
  unfold errV at htk hgv hcd
  have Htk := Lib.hid htk
  have Hgv := Lib.hid hgv
  have Hm1 := Lib.hid hm1
  clear hlk htk hgv hm1 hlook hcd
  go_wp2_with fail
  refine Htk.out.mono ?_
  rintro e w2 ⟨rfl, rfl⟩
  go_wp2_with fail
  refine Hgv.out.mono ?_
  rintro e w2 ⟨rfl, rfl⟩
  go_wp2_with fail
  have hcd := coded2_at (HE.out.keep Hm1.out) 1 (by omega) 2
  rw [show decide ((2 : Int) = ((1 : Nat) : Int) + 1) = true by decide] at hcd
  unfold errV at hcd
  refine hcd.mono ?_
  rintro e w3 ⟨rfl, hm3⟩
  have Hm3 := Lib.hid (Hm1.out.trans0 hm3)
  clear hcd hm3
  go_wp2_with fail
  have hcd := coded2_at (HE.out.keep Hm3.out) 1 (by omega) 2
  rw [show decide ((2 : Int) = ((1 : Nat) : Int) + 1) = true by decide] at hcd
  unfold errV at hcd
  refine hcd.mono ?_
  rintro e w4 ⟨rfl, hm4⟩
  have Hm4 := Lib.hid (Hm3.out.trans0 hm4)
  clear hcd hm4
  go_wp2
  go_ret
  exact ⟨rfl, Hm4.out⟩
set_option maxHeartbeats 2000000 in
theorem sc_bad21 (s : ByteArray) (cell word tmp : Int) (w : World) (a : Nat → Addr) (E : ErrsAt w a) (hl : s.size ≤ 100) (c0 : ¬ cell < 0) (c1 : ¬ 8 ≤ cell) (c2 : word < 0) (t0 : ¬ tmp < 0) (t1 : 7 ≤ tmp) :
    Calls Tryd.prog 13 #[.string s, .int .i64 cell, .int .i64 word, .int .i64 tmp] w fun e w' => e = .returned (.bool true) ∧ Mod noF w w' := by
  have hl100 : decide ((100 : Int) < (s.size : Int)) = false := by simp; omega
  have hlook : ∀ w1, ErrsAt w1 a → Calls Tryd.prog 105 #[.string s, .int .i64 cell, .int .i64 word, .int .i64 tmp] w1 fun e w' => e = .returned (errV a 1) ∧ w1 = w' := fun w1 E1 => look_bound s cell word tmp w1 a E1 (fun h => by unfold Bounds at h; omega)
  have HE := Lib.hid E
  clear E
  have d0 : decide (cell < 0) = false := by simpa using c0
  have d1 : decide (8 ≤ cell) = false := by simpa using c1
  have d2 : decide (word < 0) = true := by simpa using c2
  have s0 : decide (tmp < 0) = false := by simpa using t0
  have s1 : decide (7 ≤ tmp) = true := by simpa using t1
  go_enter Tryd.func13, Tryd.ntmps13
  go_wp2_with fail
  refine (locked_any w).mono ?_
  rintro e w1 ⟨rfl, hm1⟩
  have hlk := hlook w1 (HE.out.keep hm1)
  have htk := take_bad s cell word tmp w1 a 1 hlk
  have hgv := give_bad s cell word tmp w1 a 1 hlk
  have hcd := coded2_at (HE.out.keep hm1) 1 (by omega) 2
  rw [show decide ((2 : Int) = ((1 : Nat) : Int) + 1) = true by decide] at hcd
  unfold errV at htk hgv hcd
  have Htk := Lib.hid htk
  have Hgv := Lib.hid hgv
  have Hm1 := Lib.hid hm1
  clear hlk htk hgv hm1 hlook hcd
  go_wp2_with fail
  refine Htk.out.mono ?_
  rintro e w2 ⟨rfl, rfl⟩
  go_wp2_with fail
  refine Hgv.out.mono ?_
  rintro e w2 ⟨rfl, rfl⟩
  go_wp2_with fail
  have hcd := coded2_at (HE.out.keep Hm1.out) 1 (by omega) 2
  rw [show decide ((2 : Int) = ((1 : Nat) : Int) + 1) = true by decide] at hcd
  unfold errV at hcd
  refine hcd.mono ?_
  rintro e w3 ⟨rfl, hm3⟩
  have Hm3 := Lib.hid (Hm1.out.trans0 hm3)
  clear hcd hm3
  go_wp2_with fail
  have hcd := coded2_at (HE.out.keep Hm3.out) 1 (by omega) 2
  rw [show decide ((2 : Int) = ((1 : Nat) : Int) + 1) = true by decide] at hcd
  unfold errV at hcd
  refine hcd.mono ?_
  rintro e w4 ⟨rfl, hm4⟩
  have Hm4 := Lib.hid (Hm3.out.trans0 hm4)
  clear hcd hm4
  go_wp2
  go_ret
  exact ⟨rfl, Hm4.out⟩
set_option maxHeartbeats 2000000 in
theorem sc_bad22 (s : ByteArray) (cell word tmp : Int) (w : World) (a : Nat → Addr) (E : ErrsAt w a) (hl : s.size ≤ 100) (c0 : ¬ cell < 0) (c1 : ¬ 8 ≤ cell) (c2 : word < 0) (t0 : ¬ tmp < 0) (t1 : ¬ 7 ≤ tmp) (t2 : cell = tmp) :
    Calls Tryd.prog 13 #[.string s, .int .i64 cell, .int .i64 word, .int .i64 tmp] w fun e w' => e = .returned (.bool true) ∧ Mod noF w w' := by
  have hl100 : decide ((100 : Int) < (s.size : Int)) = false := by simp; omega
  have hlook : ∀ w1, ErrsAt w1 a → Calls Tryd.prog 105 #[.string s, .int .i64 cell, .int .i64 word, .int .i64 tmp] w1 fun e w' => e = .returned (errV a 1) ∧ w1 = w' := fun w1 E1 => look_bound s cell word tmp w1 a E1 (fun h => by unfold Bounds at h; omega)
  have HE := Lib.hid E
  clear E
  have d0 : decide (cell < 0) = false := by simpa using c0
  have d1 : decide (8 ≤ cell) = false := by simpa using c1
  have d2 : decide (word < 0) = true := by simpa using c2
  have s0 : decide (tmp < 0) = false := by simpa using t0
  have s1 : decide (7 ≤ tmp) = false := by simpa using t1
  have s2 : (cell == tmp) = true := by simpa using t2
  clear t2
  go_enter Tryd.func13, Tryd.ntmps13
  go_wp2_with fail
  refine (locked_any w).mono ?_
  rintro e w1 ⟨rfl, hm1⟩
  have hlk := hlook w1 (HE.out.keep hm1)
  have htk := take_bad s cell word tmp w1 a 1 hlk
  have hgv := give_bad s cell word tmp w1 a 1 hlk
  have hcd := coded2_at (HE.out.keep hm1) 1 (by omega) 2
  rw [show decide ((2 : Int) = ((1 : Nat) : Int) + 1) = true by decide] at hcd
  unfold errV at htk hgv hcd
  have Htk := Lib.hid htk
  have Hgv := Lib.hid hgv
  have Hm1 := Lib.hid hm1
  clear hlk htk hgv hm1 hlook hcd
  go_wp2_with fail
  refine Htk.out.mono ?_
  rintro e w2 ⟨rfl, rfl⟩
  go_wp2_with fail
  refine Hgv.out.mono ?_
  rintro e w2 ⟨rfl, rfl⟩
  go_wp2_with fail
  have hcd := coded2_at (HE.out.keep Hm1.out) 1 (by omega) 2
  rw [show decide ((2 : Int) = ((1 : Nat) : Int) + 1) = true by decide] at hcd
  unfold errV at hcd
  refine hcd.mono ?_
  rintro e w3 ⟨rfl, hm3⟩
  have Hm3 := Lib.hid (Hm1.out.trans0 hm3)
  clear hcd hm3
  go_wp2_with fail
  have hcd := coded2_at (HE.out.keep Hm3.out) 1 (by omega) 2
  rw [show decide ((2 : Int) = ((1 : Nat) : Int) + 1) = true by decide] at hcd
  unfold errV at hcd
  refine hcd.mono ?_
  rintro e w4 ⟨rfl, hm4⟩
  have Hm4 := Lib.hid (Hm3.out.trans0 hm4)
  clear hcd hm4
  go_wp2
  go_ret
  exact ⟨rfl, Hm4.out⟩
set_option maxHeartbeats 2000000 in
theorem sc_bad23 (s : ByteArray) (cell word tmp : Int) (w : World) (a : Nat → Addr) (E : ErrsAt w a) (hl : s.size ≤ 100) (c0 : ¬ cell < 0) (c1 : ¬ 8 ≤ cell) (c2 : word < 0) (t0 : ¬ tmp < 0) (t1 : ¬ 7 ≤ tmp) (t2 : ¬ cell = tmp) (t3 : cell = tmp + 1) :
    Calls Tryd.prog 13 #[.string s, .int .i64 cell, .int .i64 word, .int .i64 tmp] w fun e w' => e = .returned (.bool true) ∧ Mod noF w w' := by
  have hl100 : decide ((100 : Int) < (s.size : Int)) = false := by simp; omega
  have hlook : ∀ w1, ErrsAt w1 a → Calls Tryd.prog 105 #[.string s, .int .i64 cell, .int .i64 word, .int .i64 tmp] w1 fun e w' => e = .returned (errV a 1) ∧ w1 = w' := fun w1 E1 => look_bound s cell word tmp w1 a E1 (fun h => by unfold Bounds at h; omega)
  have HE := Lib.hid E
  clear E
  have d0 : decide (cell < 0) = false := by simpa using c0
  have d1 : decide (8 ≤ cell) = false := by simpa using c1
  have d2 : decide (word < 0) = true := by simpa using c2
  have s0 : decide (tmp < 0) = false := by simpa using t0
  have s1 : decide (7 ≤ tmp) = false := by simpa using t1
  have s2 : (cell == tmp) = false := by simpa using t2
  have s3 : (cell == tmp + 1) = true := by simpa using t3
  clear t2 t3
  go_enter Tryd.func13, Tryd.ntmps13
  go_wp2_with fail
  refine (locked_any w).mono ?_
  rintro e w1 ⟨rfl, hm1⟩
  have hlk := hlook w1 (HE.out.keep hm1)
  have htk := take_bad s cell word tmp w1 a 1 hlk
  have hgv := give_bad s cell word tmp w1 a 1 hlk
  have hcd := coded2_at (HE.out.keep hm1) 1 (by omega) 2
  rw [show decide ((2 : Int) = ((1 : Nat) : Int) + 1) = true by decide] at hcd
  unfold errV at htk hgv hcd
  have Htk := Lib.hid htk
  have Hgv := Lib.hid hgv
  have Hm1 := Lib.hid hm1
  clear hlk htk hgv hm1 hlook hcd
  go_wp2_with fail
  refine Htk.out.mono ?_
  rintro e w2 ⟨rfl, rfl⟩
  go_wp2_with fail
  refine Hgv.out.mono ?_
  rintro e w2 ⟨rfl, rfl⟩
  go_wp2_with fail
  have hcd := coded2_at (HE.out.keep Hm1.out) 1 (by omega) 2
  rw [show decide ((2 : Int) = ((1 : Nat) : Int) + 1) = true by decide] at hcd
  unfold errV at hcd
  refine hcd.mono ?_
  rintro e w3 ⟨rfl, hm3⟩
  have Hm3 := Lib.hid (Hm1.out.trans0 hm3)
  clear hcd hm3
  go_wp2_with fail
  have hcd := coded2_at (HE.out.keep Hm3.out) 1 (by omega) 2
  rw [show decide ((2 : Int) = ((1 : Nat) : Int) + 1) = true by decide] at hcd
  unfold errV at hcd
  refine hcd.mono ?_
  rintro e w4 ⟨rfl, hm4⟩
  have Hm4 := Lib.hid (Hm3.out.trans0 hm4)
  clear hcd hm4
  go_wp2
  go_ret
  exact ⟨rfl, Hm4.out⟩
set_option maxHeartbeats 2000000 in
theorem sc_bad24 (s : ByteArray) (cell word tmp : Int) (w : World) (a : Nat → Addr) (E : ErrsAt w a) (hl : s.size ≤ 100) (c0 : ¬ cell < 0) (c1 : ¬ 8 ≤ cell) (c2 : word < 0) (t0 : ¬ tmp < 0) (t1 : ¬ 7 ≤ tmp) (t2 : ¬ cell = tmp) (t3 : ¬ cell = tmp + 1) :
    Calls Tryd.prog 13 #[.string s, .int .i64 cell, .int .i64 word, .int .i64 tmp] w fun e w' => e = .returned (.bool true) ∧ Mod noF w w' := by
  have hl100 : decide ((100 : Int) < (s.size : Int)) = false := by simp; omega
  have hlook : ∀ w1, ErrsAt w1 a → Calls Tryd.prog 105 #[.string s, .int .i64 cell, .int .i64 word, .int .i64 tmp] w1 fun e w' => e = .returned (errV a 1) ∧ w1 = w' := fun w1 E1 => look_bound s cell word tmp w1 a E1 (fun h => by unfold Bounds at h; omega)
  have HE := Lib.hid E
  clear E
  have d0 : decide (cell < 0) = false := by simpa using c0
  have d1 : decide (8 ≤ cell) = false := by simpa using c1
  have d2 : decide (word < 0) = true := by simpa using c2
  have s0 : decide (tmp < 0) = false := by simpa using t0
  have s1 : decide (7 ≤ tmp) = false := by simpa using t1
  have s2 : (cell == tmp) = false := by simpa using t2
  have s3 : (cell == tmp + 1) = false := by simpa using t3
  clear t2 t3
  go_enter Tryd.func13, Tryd.ntmps13
  go_wp2_with fail
  refine (locked_any w).mono ?_
  rintro e w1 ⟨rfl, hm1⟩
  have hlk := hlook w1 (HE.out.keep hm1)
  have htk := take_bad s cell word tmp w1 a 1 hlk
  have hgv := give_bad s cell word tmp w1 a 1 hlk
  have hcd := coded2_at (HE.out.keep hm1) 1 (by omega) 2
  rw [show decide ((2 : Int) = ((1 : Nat) : Int) + 1) = true by decide] at hcd
  unfold errV at htk hgv hcd
  have Htk := Lib.hid htk
  have Hgv := Lib.hid hgv
  have Hm1 := Lib.hid hm1
  clear hlk htk hgv hm1 hlook hcd
  go_wp2_with fail
  refine Htk.out.mono ?_
  rintro e w2 ⟨rfl, rfl⟩
  go_wp2_with fail
  refine Hgv.out.mono ?_
  rintro e w2 ⟨rfl, rfl⟩
  go_wp2_with fail
  have hcd := coded2_at (HE.out.keep Hm1.out) 1 (by omega) 2
  rw [show decide ((2 : Int) = ((1 : Nat) : Int) + 1) = true by decide] at hcd
  unfold errV at hcd
  refine hcd.mono ?_
  rintro e w3 ⟨rfl, hm3⟩
  have Hm3 := Lib.hid (Hm1.out.trans0 hm3)
  clear hcd hm3
  go_wp2_with fail
  have hcd := coded2_at (HE.out.keep Hm3.out) 1 (by omega) 2
  rw [show decide ((2 : Int) = ((1 : Nat) : Int) + 1) = true by decide] at hcd
  unfold errV at hcd
  refine hcd.mono ?_
  rintro e w4 ⟨rfl, hm4⟩
  have Hm4 := Lib.hid (Hm3.out.trans0 hm4)
  clear hcd hm4
  go_wp2
  go_ret
  exact ⟨rfl, Hm4.out⟩
set_option maxHeartbeats 2000000 in
theorem sc_bad30 (s : ByteArray) (cell word tmp : Int) (w : World) (a : Nat → Addr) (E : ErrsAt w a) (hl : s.size ≤ 100) (c0 : ¬ cell < 0) (c1 : ¬ 8 ≤ cell) (c2 : ¬ word < 0) (c3 : 4 ≤ word) (t0 : tmp < 0) :
    Calls Tryd.prog 13 #[.string s, .int .i64 cell, .int .i64 word, .int .i64 tmp] w fun e w' => e = .returned (.bool true) ∧ Mod noF w w' := by
  have hl100 : decide ((100 : Int) < (s.size : Int)) = false := by simp; omega
  have hlook : ∀ w1, ErrsAt w1 a → Calls Tryd.prog 105 #[.string s, .int .i64 cell, .int .i64 word, .int .i64 tmp] w1 fun e w' => e = .returned (errV a 1) ∧ w1 = w' := fun w1 E1 => look_bound s cell word tmp w1 a E1 (fun h => by unfold Bounds at h; omega)
  have HE := Lib.hid E
  clear E
  have d0 : decide (cell < 0) = false := by simpa using c0
  have d1 : decide (8 ≤ cell) = false := by simpa using c1
  have d2 : decide (word < 0) = false := by simpa using c2
  have d3 : decide (4 ≤ word) = true := by simpa using c3
  have s0 : decide (tmp < 0) = true := by simpa using t0
  go_enter Tryd.func13, Tryd.ntmps13
  go_wp2_with fail
  refine (locked_any w).mono ?_
  rintro e w1 ⟨rfl, hm1⟩
  have hlk := hlook w1 (HE.out.keep hm1)
  have htk := take_bad s cell word tmp w1 a 1 hlk
  have hgv := give_bad s cell word tmp w1 a 1 hlk
  have hcd := coded2_at (HE.out.keep hm1) 1 (by omega) 2
  rw [show decide ((2 : Int) = ((1 : Nat) : Int) + 1) = true by decide] at hcd
  unfold errV at htk hgv hcd
  have Htk := Lib.hid htk
  have Hgv := Lib.hid hgv
  have Hm1 := Lib.hid hm1
  clear hlk htk hgv hm1 hlook hcd
  go_wp2_with fail
  refine Htk.out.mono ?_
  rintro e w2 ⟨rfl, rfl⟩
  go_wp2_with fail
  refine Hgv.out.mono ?_
  rintro e w2 ⟨rfl, rfl⟩
  go_wp2_with fail
  have hcd := coded2_at (HE.out.keep Hm1.out) 1 (by omega) 2
  rw [show decide ((2 : Int) = ((1 : Nat) : Int) + 1) = true by decide] at hcd
  unfold errV at hcd
  refine hcd.mono ?_
  rintro e w3 ⟨rfl, hm3⟩
  have Hm3 := Lib.hid (Hm1.out.trans0 hm3)
  clear hcd hm3
  go_wp2_with fail
  have hcd := coded2_at (HE.out.keep Hm3.out) 1 (by omega) 2
  rw [show decide ((2 : Int) = ((1 : Nat) : Int) + 1) = true by decide] at hcd
  unfold errV at hcd
  refine hcd.mono ?_
  rintro e w4 ⟨rfl, hm4⟩
  have Hm4 := Lib.hid (Hm3.out.trans0 hm4)
  clear hcd hm4
  go_wp2
  go_ret
  exact ⟨rfl, Hm4.out⟩
set_option maxHeartbeats 2000000 in
theorem sc_bad31 (s : ByteArray) (cell word tmp : Int) (w : World) (a : Nat → Addr) (E : ErrsAt w a) (hl : s.size ≤ 100) (c0 : ¬ cell < 0) (c1 : ¬ 8 ≤ cell) (c2 : ¬ word < 0) (c3 : 4 ≤ word) (t0 : ¬ tmp < 0) (t1 : 7 ≤ tmp) :
    Calls Tryd.prog 13 #[.string s, .int .i64 cell, .int .i64 word, .int .i64 tmp] w fun e w' => e = .returned (.bool true) ∧ Mod noF w w' := by
  have hl100 : decide ((100 : Int) < (s.size : Int)) = false := by simp; omega
  have hlook : ∀ w1, ErrsAt w1 a → Calls Tryd.prog 105 #[.string s, .int .i64 cell, .int .i64 word, .int .i64 tmp] w1 fun e w' => e = .returned (errV a 1) ∧ w1 = w' := fun w1 E1 => look_bound s cell word tmp w1 a E1 (fun h => by unfold Bounds at h; omega)
  have HE := Lib.hid E
  clear E
  have d0 : decide (cell < 0) = false := by simpa using c0
  have d1 : decide (8 ≤ cell) = false := by simpa using c1
  have d2 : decide (word < 0) = false := by simpa using c2
  have d3 : decide (4 ≤ word) = true := by simpa using c3
  have s0 : decide (tmp < 0) = false := by simpa using t0
  have s1 : decide (7 ≤ tmp) = true := by simpa using t1
  go_enter Tryd.func13, Tryd.ntmps13
  go_wp2_with fail
  refine (locked_any w).mono ?_
  rintro e w1 ⟨rfl, hm1⟩
  have hlk := hlook w1 (HE.out.keep hm1)
  have htk := take_bad s cell word tmp w1 a 1 hlk
  have hgv := give_bad s cell word tmp w1 a 1 hlk
  have hcd := coded2_at (HE.out.keep hm1) 1 (by omega) 2
  rw [show decide ((2 : Int) = ((1 : Nat) : Int) + 1) = true by decide] at hcd
  unfold errV at htk hgv hcd
  have Htk := Lib.hid htk
  have Hgv := Lib.hid hgv
  have Hm1 := Lib.hid hm1
  clear hlk htk hgv hm1 hlook hcd
  go_wp2_with fail
  refine Htk.out.mono ?_
  rintro e w2 ⟨rfl, rfl⟩
  go_wp2_with fail
  refine Hgv.out.mono ?_
  rintro e w2 ⟨rfl, rfl⟩
  go_wp2_with fail
  have hcd := coded2_at (HE.out.keep Hm1.out) 1 (by omega) 2
  rw [show decide ((2 : Int) = ((1 : Nat) : Int) + 1) = true by decide] at hcd
  unfold errV at hcd
  refine hcd.mono ?_
  rintro e w3 ⟨rfl, hm3⟩
  have Hm3 := Lib.hid (Hm1.out.trans0 hm3)
  clear hcd hm3
  go_wp2_with fail
  have hcd := coded2_at (HE.out.keep Hm3.out) 1 (by omega) 2
  rw [show decide ((2 : Int) = ((1 : Nat) : Int) + 1) = true by decide] at hcd
  unfold errV at hcd
  refine hcd.mono ?_
  rintro e w4 ⟨rfl, hm4⟩
  have Hm4 := Lib.hid (Hm3.out.trans0 hm4)
  clear hcd hm4
  go_wp2
  go_ret
  exact ⟨rfl, Hm4.out⟩
set_option maxHeartbeats 2000000 in
theorem sc_bad32 (s : ByteArray) (cell word tmp : Int) (w : World) (a : Nat → Addr) (E : ErrsAt w a) (hl : s.size ≤ 100) (c0 : ¬ cell < 0) (c1 : ¬ 8 ≤ cell) (c2 : ¬ word < 0) (c3 : 4 ≤ word) (t0 : ¬ tmp < 0) (t1 : ¬ 7 ≤ tmp) (t2 : cell = tmp) :
    Calls Tryd.prog 13 #[.string s, .int .i64 cell, .int .i64 word, .int .i64 tmp] w fun e w' => e = .returned (.bool true) ∧ Mod noF w w' := by
  have hl100 : decide ((100 : Int) < (s.size : Int)) = false := by simp; omega
  have hlook : ∀ w1, ErrsAt w1 a → Calls Tryd.prog 105 #[.string s, .int .i64 cell, .int .i64 word, .int .i64 tmp] w1 fun e w' => e = .returned (errV a 1) ∧ w1 = w' := fun w1 E1 => look_bound s cell word tmp w1 a E1 (fun h => by unfold Bounds at h; omega)
  have HE := Lib.hid E
  clear E
  have d0 : decide (cell < 0) = false := by simpa using c0
  have d1 : decide (8 ≤ cell) = false := by simpa using c1
  have d2 : decide (word < 0) = false := by simpa using c2
  have d3 : decide (4 ≤ word) = true := by simpa using c3
  have s0 : decide (tmp < 0) = false := by simpa using t0
  have s1 : decide (7 ≤ tmp) = false := by simpa using t1
  have s2 : (cell == tmp) = true := by simpa using t2
  clear t2
  go_enter Tryd.func13, Tryd.ntmps13
  go_wp2_with fail
  refine (locked_any w).mono ?_
  rintro e w1 ⟨rfl, hm1⟩
  have hlk := hlook w1 (HE.out.keep hm1)
  have htk := take_bad s cell word tmp w1 a 1 hlk
  have hgv := give_bad s cell word tmp w1 a 1 hlk
  have hcd := coded2_at (HE.out.keep hm1) 1 (by omega) 2
  rw [show decide ((2 : Int) = ((1 : Nat) : Int) + 1) = true by decide] at hcd
  unfold errV at htk hgv hcd
  have Htk := Lib.hid htk
  have Hgv := Lib.hid hgv
  have Hm1 := Lib.hid hm1
  clear hlk htk hgv hm1 hlook hcd
  go_wp2_with fail
  refine Htk.out.mono ?_
  rintro e w2 ⟨rfl, rfl⟩
  go_wp2_with fail
  refine Hgv.out.mono ?_
  rintro e w2 ⟨rfl, rfl⟩
  go_wp2_with fail
  have hcd := coded2_at (HE.out.keep Hm1.out) 1 (by omega) 2
  rw [show decide ((2 : Int) = ((1 : Nat) : Int) + 1) = true by decide] at hcd
  unfold errV at hcd
  refine hcd.mono ?_
  rintro e w3 ⟨rfl, hm3⟩
  have Hm3 := Lib.hid (Hm1.out.trans0 hm3)
  clear hcd hm3
  go_wp2_with fail
  have hcd := coded2_at (HE.out.keep Hm3.out) 1 (by omega) 2
  rw [show decide ((2 : Int) = ((1 : Nat) : Int) + 1) = true by decide] at hcd
  unfold errV at hcd
  refine hcd.mono ?_
  rintro e w4 ⟨rfl, hm4⟩
  have Hm4 := Lib.hid (Hm3.out.trans0 hm4)
  clear hcd hm4
  go_wp2
  go_ret
  exact ⟨rfl, Hm4.out⟩
set_option maxHeartbeats 2000000 in
theorem sc_bad33 (s : ByteArray) (cell word tmp : Int) (w : World) (a : Nat → Addr) (E : ErrsAt w a) (hl : s.size ≤ 100) (c0 : ¬ cell < 0) (c1 : ¬ 8 ≤ cell) (c2 : ¬ word < 0) (c3 : 4 ≤ word) (t0 : ¬ tmp < 0) (t1 : ¬ 7 ≤ tmp) (t2 : ¬ cell = tmp) (t3 : cell = tmp + 1) :
    Calls Tryd.prog 13 #[.string s, .int .i64 cell, .int .i64 word, .int .i64 tmp] w fun e w' => e = .returned (.bool true) ∧ Mod noF w w' := by
  have hl100 : decide ((100 : Int) < (s.size : Int)) = false := by simp; omega
  have hlook : ∀ w1, ErrsAt w1 a → Calls Tryd.prog 105 #[.string s, .int .i64 cell, .int .i64 word, .int .i64 tmp] w1 fun e w' => e = .returned (errV a 1) ∧ w1 = w' := fun w1 E1 => look_bound s cell word tmp w1 a E1 (fun h => by unfold Bounds at h; omega)
  have HE := Lib.hid E
  clear E
  have d0 : decide (cell < 0) = false := by simpa using c0
  have d1 : decide (8 ≤ cell) = false := by simpa using c1
  have d2 : decide (word < 0) = false := by simpa using c2
  have d3 : decide (4 ≤ word) = true := by simpa using c3
  have s0 : decide (tmp < 0) = false := by simpa using t0
  have s1 : decide (7 ≤ tmp) = false := by simpa using t1
  have s2 : (cell == tmp) = false := by simpa using t2
  have s3 : (cell == tmp + 1) = true := by simpa using t3
  clear t2 t3
  go_enter Tryd.func13, Tryd.ntmps13
  go_wp2_with fail
  refine (locked_any w).mono ?_
  rintro e w1 ⟨rfl, hm1⟩
  have hlk := hlook w1 (HE.out.keep hm1)
  have htk := take_bad s cell word tmp w1 a 1 hlk
  have hgv := give_bad s cell word tmp w1 a 1 hlk
  have hcd := coded2_at (HE.out.keep hm1) 1 (by omega) 2
  rw [show decide ((2 : Int) = ((1 : Nat) : Int) + 1) = true by decide] at hcd
  unfold errV at htk hgv hcd
  have Htk := Lib.hid htk
  have Hgv := Lib.hid hgv
  have Hm1 := Lib.hid hm1
  clear hlk htk hgv hm1 hlook hcd
  go_wp2_with fail
  refine Htk.out.mono ?_
  rintro e w2 ⟨rfl, rfl⟩
  go_wp2_with fail
  refine Hgv.out.mono ?_
  rintro e w2 ⟨rfl, rfl⟩
  go_wp2_with fail
  have hcd := coded2_at (HE.out.keep Hm1.out) 1 (by omega) 2
  rw [show decide ((2 : Int) = ((1 : Nat) : Int) + 1) = true by decide] at hcd
  unfold errV at hcd
  refine hcd.mono ?_
  rintro e w3 ⟨rfl, hm3⟩
  have Hm3 := Lib.hid (Hm1.out.trans0 hm3)
  clear hcd hm3
  go_wp2_with fail
  have hcd := coded2_at (HE.out.keep Hm3.out) 1 (by omega) 2
  rw [show decide ((2 : Int) = ((1 : Nat) : Int) + 1) = true by decide] at hcd
  unfold errV at hcd
  refine hcd.mono ?_
  rintro e w4 ⟨rfl, hm4⟩
  have Hm4 := Lib.hid (Hm3.out.trans0 hm4)
  clear hcd hm4
  go_wp2
  go_ret
  exact ⟨rfl, Hm4.out⟩
set_option maxHeartbeats 2000000 in
theorem sc_bad34 (s : ByteArray) (cell word tmp : Int) (w : World) (a : Nat → Addr) (E : ErrsAt w a) (hl : s.size ≤ 100) (c0 : ¬ cell < 0) (c1 : ¬ 8 ≤ cell) (c2 : ¬ word < 0) (c3 : 4 ≤ word) (t0 : ¬ tmp < 0) (t1 : ¬ 7 ≤ tmp) (t2 : ¬ cell = tmp) (t3 : ¬ cell = tmp + 1) :
    Calls Tryd.prog 13 #[.string s, .int .i64 cell, .int .i64 word, .int .i64 tmp] w fun e w' => e = .returned (.bool true) ∧ Mod noF w w' := by
  have hl100 : decide ((100 : Int) < (s.size : Int)) = false := by simp; omega
  have hlook : ∀ w1, ErrsAt w1 a → Calls Tryd.prog 105 #[.string s, .int .i64 cell, .int .i64 word, .int .i64 tmp] w1 fun e w' => e = .returned (errV a 1) ∧ w1 = w' := fun w1 E1 => look_bound s cell word tmp w1 a E1 (fun h => by unfold Bounds at h; omega)
  have HE := Lib.hid E
  clear E
  have d0 : decide (cell < 0) = false := by simpa using c0
  have d1 : decide (8 ≤ cell) = false := by simpa using c1
  have d2 : decide (word < 0) = false := by simpa using c2
  have d3 : decide (4 ≤ word) = true := by simpa using c3
  have s0 : decide (tmp < 0) = false := by simpa using t0
  have s1 : decide (7 ≤ tmp) = false := by simpa using t1
  have s2 : (cell == tmp) = false := by simpa using t2
  have s3 : (cell == tmp + 1) = false := by simpa using t3
  clear t2 t3
  go_enter Tryd.func13, Tryd.ntmps13
  go_wp2_with fail
  refine (locked_any w).mono ?_
  rintro e w1 ⟨rfl, hm1⟩
  have hlk := hlook w1 (HE.out.keep hm1)
  have htk := take_bad s cell word tmp w1 a 1 hlk
  have hgv := give_bad s cell word tmp w1 a 1 hlk
  have hcd := coded2_at (HE.out.keep hm1) 1 (by omega) 2
  rw [show decide ((2 : Int) = ((1 : Nat) : Int) + 1) = true by decide] at hcd
  unfold errV at htk hgv hcd
  have Htk := Lib.hid htk
  have Hgv := Lib.hid hgv
  have Hm1 := Lib.hid hm1
  clear hlk htk hgv hm1 hlook hcd
  go_wp2_with fail
  refine Htk.out.mono ?_
  rintro e w2 ⟨rfl, rfl⟩
  go_wp2_with fail
  refine Hgv.out.mono ?_
  rintro e w2 ⟨rfl, rfl⟩
  go_wp2_with fail
  have hcd := coded2_at (HE.out.keep Hm1.out) 1 (by omega) 2
  rw [show decide ((2 : Int) = ((1 : Nat) : Int) + 1) = true by decide] at hcd
  unfold errV at hcd
  refine hcd.mono ?_
  rintro e w3 ⟨rfl, hm3⟩
  have Hm3 := Lib.hid (Hm1.out.trans0 hm3)
  clear hcd hm3
  go_wp2_with fail
  have hcd := coded2_at (HE.out.keep Hm3.out) 1 (by omega) 2
  rw [show decide ((2 : Int) = ((1 : Nat) : Int) + 1) = true by decide] at hcd
  unfold errV at hcd
  refine hcd.mono ?_
  rintro e w4 ⟨rfl, hm4⟩
  have Hm4 := Lib.hid (Hm3.out.trans0 hm4)
  clear hcd hm4
  go_wp2
  go_ret
  exact ⟨rfl, Hm4.out⟩
set_option maxHeartbeats 2000000 in
theorem sc_bad40 (s : ByteArray) (cell word tmp : Int) (w : World) (a : Nat → Addr) (E : ErrsAt w a) (hl : s.size ≤ 100) (c0 : ¬ cell < 0) (c1 : ¬ 8 ≤ cell) (c2 : ¬ word < 0) (c3 : ¬ 4 ≤ word) (t0 : tmp < 0) :
    Calls Tryd.prog 13 #[.string s, .int .i64 cell, .int .i64 word, .int .i64 tmp] w fun e w' => e = .returned (.bool true) ∧ Mod noF w w' := by
  have hl100 : decide ((100 : Int) < (s.size : Int)) = false := by simp; omega
  have hlook : ∀ w1, ErrsAt w1 a → Calls Tryd.prog 105 #[.string s, .int .i64 cell, .int .i64 word, .int .i64 tmp] w1 fun e w' => e = .returned (errV a 1) ∧ w1 = w' := fun w1 E1 => look_bound s cell word tmp w1 a E1 (fun h => by unfold Bounds at h; omega)
  have HE := Lib.hid E
  clear E
  have d0 : decide (cell < 0) = false := by simpa using c0
  have d1 : decide (8 ≤ cell) = false := by simpa using c1
  have d2 : decide (word < 0) = false := by simpa using c2
  have d3 : decide (4 ≤ word) = false := by simpa using c3
  have s0 : decide (tmp < 0) = true := by simpa using t0
  go_enter Tryd.func13, Tryd.ntmps13
  go_wp2_with fail
  refine (locked_any w).mono ?_
  rintro e w1 ⟨rfl, hm1⟩
  have hlk := hlook w1 (HE.out.keep hm1)
  have htk := take_bad s cell word tmp w1 a 1 hlk
  have hgv := give_bad s cell word tmp w1 a 1 hlk
  have hcd := coded2_at (HE.out.keep hm1) 1 (by omega) 2
  rw [show decide ((2 : Int) = ((1 : Nat) : Int) + 1) = true by decide] at hcd
  unfold errV at htk hgv hcd
  have Htk := Lib.hid htk
  have Hgv := Lib.hid hgv
  have Hm1 := Lib.hid hm1
  clear hlk htk hgv hm1 hlook hcd
  go_wp2_with fail
  refine Htk.out.mono ?_
  rintro e w2 ⟨rfl, rfl⟩
  go_wp2_with fail
  refine Hgv.out.mono ?_
  rintro e w2 ⟨rfl, rfl⟩
  go_wp2_with fail
  have hcd := coded2_at (HE.out.keep Hm1.out) 1 (by omega) 2
  rw [show decide ((2 : Int) = ((1 : Nat) : Int) + 1) = true by decide] at hcd
  unfold errV at hcd
  refine hcd.mono ?_
  rintro e w3 ⟨rfl, hm3⟩
  have Hm3 := Lib.hid (Hm1.out.trans0 hm3)
  clear hcd hm3
  go_wp2_with fail
  have hcd := coded2_at (HE.out.keep Hm3.out) 1 (by omega) 2
  rw [show decide ((2 : Int) = ((1 : Nat) : Int) + 1) = true by decide] at hcd
  unfold errV at hcd
  refine hcd.mono ?_
  rintro e w4 ⟨rfl, hm4⟩
  have Hm4 := Lib.hid (Hm3.out.trans0 hm4)
  clear hcd hm4
  go_wp2
  go_ret
  exact ⟨rfl, Hm4.out⟩
set_option maxHeartbeats 2000000 in
theorem sc_bad41 (s : ByteArray) (cell word tmp : Int) (w : World) (a : Nat → Addr) (E : ErrsAt w a) (hl : s.size ≤ 100) (c0 : ¬ cell < 0) (c1 : ¬ 8 ≤ cell) (c2 : ¬ word < 0) (c3 : ¬ 4 ≤ word) (t0 : ¬ tmp < 0) (t1 : 7 ≤ tmp) :
    Calls Tryd.prog 13 #[.string s, .int .i64 cell, .int .i64 word, .int .i64 tmp] w fun e w' => e = .returned (.bool true) ∧ Mod noF w w' := by
  have hl100 : decide ((100 : Int) < (s.size : Int)) = false := by simp; omega
  have hlook : ∀ w1, ErrsAt w1 a → Calls Tryd.prog 105 #[.string s, .int .i64 cell, .int .i64 word, .int .i64 tmp] w1 fun e w' => e = .returned (errV a 1) ∧ w1 = w' := fun w1 E1 => look_bound s cell word tmp w1 a E1 (fun h => by unfold Bounds at h; omega)
  have HE := Lib.hid E
  clear E
  have d0 : decide (cell < 0) = false := by simpa using c0
  have d1 : decide (8 ≤ cell) = false := by simpa using c1
  have d2 : decide (word < 0) = false := by simpa using c2
  have d3 : decide (4 ≤ word) = false := by simpa using c3
  have s0 : decide (tmp < 0) = false := by simpa using t0
  have s1 : decide (7 ≤ tmp) = true := by simpa using t1
  go_enter Tryd.func13, Tryd.ntmps13
  go_wp2_with fail
  refine (locked_any w).mono ?_
  rintro e w1 ⟨rfl, hm1⟩
  have hlk := hlook w1 (HE.out.keep hm1)
  have htk := take_bad s cell word tmp w1 a 1 hlk
  have hgv := give_bad s cell word tmp w1 a 1 hlk
  have hcd := coded2_at (HE.out.keep hm1) 1 (by omega) 2
  rw [show decide ((2 : Int) = ((1 : Nat) : Int) + 1) = true by decide] at hcd
  unfold errV at htk hgv hcd
  have Htk := Lib.hid htk
  have Hgv := Lib.hid hgv
  have Hm1 := Lib.hid hm1
  clear hlk htk hgv hm1 hlook hcd
  go_wp2_with fail
  refine Htk.out.mono ?_
  rintro e w2 ⟨rfl, rfl⟩
  go_wp2_with fail
  refine Hgv.out.mono ?_
  rintro e w2 ⟨rfl, rfl⟩
  go_wp2_with fail
  have hcd := coded2_at (HE.out.keep Hm1.out) 1 (by omega) 2
  rw [show decide ((2 : Int) = ((1 : Nat) : Int) + 1) = true by decide] at hcd
  unfold errV at hcd
  refine hcd.mono ?_
  rintro e w3 ⟨rfl, hm3⟩
  have Hm3 := Lib.hid (Hm1.out.trans0 hm3)
  clear hcd hm3
  go_wp2_with fail
  have hcd := coded2_at (HE.out.keep Hm3.out) 1 (by omega) 2
  rw [show decide ((2 : Int) = ((1 : Nat) : Int) + 1) = true by decide] at hcd
  unfold errV at hcd
  refine hcd.mono ?_
  rintro e w4 ⟨rfl, hm4⟩
  have Hm4 := Lib.hid (Hm3.out.trans0 hm4)
  clear hcd hm4
  go_wp2
  go_ret
  exact ⟨rfl, Hm4.out⟩
set_option maxHeartbeats 2000000 in
theorem sc_bad42 (s : ByteArray) (cell word tmp : Int) (w : World) (a : Nat → Addr) (E : ErrsAt w a) (hl : s.size ≤ 100) (c0 : ¬ cell < 0) (c1 : ¬ 8 ≤ cell) (c2 : ¬ word < 0) (c3 : ¬ 4 ≤ word) (t0 : ¬ tmp < 0) (t1 : ¬ 7 ≤ tmp) (t2 : cell = tmp) :
    Calls Tryd.prog 13 #[.string s, .int .i64 cell, .int .i64 word, .int .i64 tmp] w fun e w' => e = .returned (.bool true) ∧ Mod noF w w' := by
  have hl100 : decide ((100 : Int) < (s.size : Int)) = false := by simp; omega
  have hlook : ∀ w1, ErrsAt w1 a → Calls Tryd.prog 105 #[.string s, .int .i64 cell, .int .i64 word, .int .i64 tmp] w1 fun e w' => e = .returned (errV a 1) ∧ w1 = w' := fun w1 E1 => look_bound s cell word tmp w1 a E1 (fun h => by unfold Bounds at h; omega)
  have HE := Lib.hid E
  clear E
  have d0 : decide (cell < 0) = false := by simpa using c0
  have d1 : decide (8 ≤ cell) = false := by simpa using c1
  have d2 : decide (word < 0) = false := by simpa using c2
  have d3 : decide (4 ≤ word) = false := by simpa using c3
  have s0 : decide (tmp < 0) = false := by simpa using t0
  have s1 : decide (7 ≤ tmp) = false := by simpa using t1
  have s2 : (cell == tmp) = true := by simpa using t2
  clear t2
  go_enter Tryd.func13, Tryd.ntmps13
  go_wp2_with fail
  refine (locked_any w).mono ?_
  rintro e w1 ⟨rfl, hm1⟩
  have hlk := hlook w1 (HE.out.keep hm1)
  have htk := take_bad s cell word tmp w1 a 1 hlk
  have hgv := give_bad s cell word tmp w1 a 1 hlk
  have hcd := coded2_at (HE.out.keep hm1) 1 (by omega) 2
  rw [show decide ((2 : Int) = ((1 : Nat) : Int) + 1) = true by decide] at hcd
  unfold errV at htk hgv hcd
  have Htk := Lib.hid htk
  have Hgv := Lib.hid hgv
  have Hm1 := Lib.hid hm1
  clear hlk htk hgv hm1 hlook hcd
  go_wp2_with fail
  refine Htk.out.mono ?_
  rintro e w2 ⟨rfl, rfl⟩
  go_wp2_with fail
  refine Hgv.out.mono ?_
  rintro e w2 ⟨rfl, rfl⟩
  go_wp2_with fail
  have hcd := coded2_at (HE.out.keep Hm1.out) 1 (by omega) 2
  rw [show decide ((2 : Int) = ((1 : Nat) : Int) + 1) = true by decide] at hcd
  unfold errV at hcd
  refine hcd.mono ?_
  rintro e w3 ⟨rfl, hm3⟩
  have Hm3 := Lib.hid (Hm1.out.trans0 hm3)
  clear hcd hm3
  go_wp2_with fail
  have hcd := coded2_at (HE.out.keep Hm3.out) 1 (by omega) 2
  rw [show decide ((2 : Int) = ((1 : Nat) : Int) + 1) = true by decide] at hcd
  unfold errV at hcd
  refine hcd.mono ?_
  rintro e w4 ⟨rfl, hm4⟩
  have Hm4 := Lib.hid (Hm3.out.trans0 hm4)
  clear hcd hm4
  go_wp2
  go_ret
  exact ⟨rfl, Hm4.out⟩
set_option maxHeartbeats 2000000 in
theorem sc_bad43 (s : ByteArray) (cell word tmp : Int) (w : World) (a : Nat → Addr) (E : ErrsAt w a) (hl : s.size ≤ 100) (c0 : ¬ cell < 0) (c1 : ¬ 8 ≤ cell) (c2 : ¬ word < 0) (c3 : ¬ 4 ≤ word) (t0 : ¬ tmp < 0) (t1 : ¬ 7 ≤ tmp) (t2 : ¬ cell = tmp) (t3 : cell = tmp + 1) :
    Calls Tryd.prog 13 #[.string s, .int .i64 cell, .int .i64 word, .int .i64 tmp] w fun e w' => e = .returned (.bool true) ∧ Mod noF w w' := by
  have hl100 : decide ((100 : Int) < (s.size : Int)) = false := by simp; omega
  have hlook : ∀ w1, ErrsAt w1 a → Calls Tryd.prog 105 #[.string s, .int .i64 cell, .int .i64 word, .int .i64 tmp] w1 fun e w' => e = .returned (errV a 1) ∧ w1 = w' := fun w1 E1 => look_bound s cell word tmp w1 a E1 (fun h => by unfold Bounds at h; omega)
  have HE := Lib.hid E
  clear E
  have d0 : decide (cell < 0) = false := by simpa using c0
  have d1 : decide (8 ≤ cell) = false := by simpa using c1
  have d2 : decide (word < 0) = false := by simpa using c2
  have d3 : decide (4 ≤ word) = false := by simpa using c3
  have s0 : decide (tmp < 0) = false := by simpa using t0
  have s1 : decide (7 ≤ tmp) = false := by simpa using t1
  have s2 : (cell == tmp) = false := by simpa using t2
  have s3 : (cell == tmp + 1) = true := by simpa using t3
  clear t2 t3
  go_enter Tryd.func13, Tryd.ntmps13
  go_wp2_with fail
  refine (locked_any w).mono ?_
  rintro e w1 ⟨rfl, hm1⟩
  have hlk := hlook w1 (HE.out.keep hm1)
  have htk := take_bad s cell word tmp w1 a 1 hlk
  have hgv := give_bad s cell word tmp w1 a 1 hlk
  have hcd := coded2_at (HE.out.keep hm1) 1 (by omega) 2
  rw [show decide ((2 : Int) = ((1 : Nat) : Int) + 1) = true by decide] at hcd
  unfold errV at htk hgv hcd
  have Htk := Lib.hid htk
  have Hgv := Lib.hid hgv
  have Hm1 := Lib.hid hm1
  clear hlk htk hgv hm1 hlook hcd
  go_wp2_with fail
  refine Htk.out.mono ?_
  rintro e w2 ⟨rfl, rfl⟩
  go_wp2_with fail
  refine Hgv.out.mono ?_
  rintro e w2 ⟨rfl, rfl⟩
  go_wp2_with fail
  have hcd := coded2_at (HE.out.keep Hm1.out) 1 (by omega) 2
  rw [show decide ((2 : Int) = ((1 : Nat) : Int) + 1) = true by decide] at hcd
  unfold errV at hcd
  refine hcd.mono ?_
  rintro e w3 ⟨rfl, hm3⟩
  have Hm3 := Lib.hid (Hm1.out.trans0 hm3)
  clear hcd hm3
  go_wp2_with fail
  have hcd := coded2_at (HE.out.keep Hm3.out) 1 (by omega) 2
  rw [show decide ((2 : Int) = ((1 : Nat) : Int) + 1) = true by decide] at hcd
  unfold errV at hcd
  refine hcd.mono ?_
  rintro e w4 ⟨rfl, hm4⟩
  have Hm4 := Lib.hid (Hm3.out.trans0 hm4)
  clear hcd hm4
  go_wp2
  go_ret
  exact ⟨rfl, Hm4.out⟩
set_option maxHeartbeats 2000000 in
theorem sc_name (s : ByteArray) (cell word tmp : Int) (w : World) (a : Nat → Addr) (E : ErrsAt w a) (hl : s.size ≤ 100) (c0 : ¬ cell < 0) (c1 : ¬ 8 ≤ cell) (c2 : ¬ word < 0) (c3 : ¬ 4 ≤ word) (t0 : ¬ tmp < 0) (t1 : ¬ 7 ≤ tmp) (t2 : ¬ cell = tmp) (t3 : ¬ cell = tmp + 1) (hn : (nameB s.data.toList && decide ((s.size : Int) ≤ 8)) = false) :
    Calls Tryd.prog 13 #[.string s, .int .i64 cell, .int .i64 word, .int .i64 tmp] w fun e w' => e = .returned (.bool true) ∧ Mod noF w w' := by
  have hl100 : decide ((100 : Int) < (s.size : Int)) = false := by simp; omega
  have hs : s.size ≤ maxLen := by unfold maxLen; omega
  have hnn : nameB s.data.toList = false ∨ (8 : Int) < (s.size : Int) := by
    cases h : nameB s.data.toList with
    | false => exact .inl rfl
    | true => right; rw [h] at hn; simp at hn; omega
  have hlook : ∀ w1, ErrsAt w1 a → Calls Tryd.prog 105 #[.string s, .int .i64 cell, .int .i64 word, .int .i64 tmp] w1 fun e w' => e = .returned (errV a 3) ∧ w1 = w' := fun w1 E1 => look_name s cell word tmp w1 a E1 hs ⟨by omega, by omega, by omega, by omega, by omega, by omega, t2, t3⟩ hnn
  have Hn := Lib.hid hn
  have HE := Lib.hid E
  clear E hn hnn
  have d0 : decide (cell < 0) = false := by simpa using c0
  have d1 : decide (8 ≤ cell) = false := by simpa using c1
  have d2 : decide (word < 0) = false := by simpa using c2
  have d3 : decide (4 ≤ word) = false := by simpa using c3
  have s0 : decide (tmp < 0) = false := by simpa using t0
  have s1 : decide (7 ≤ tmp) = false := by simpa using t1
  have s2 : (cell == tmp) = false := by simpa using t2
  have s3 : (cell == tmp + 1) = false := by simpa using t3
  clear t2 t3
  go_enter Tryd.func13, Tryd.ntmps13
  go_wp2_with fail
  refine (locked_any w).mono ?_
  rintro e w1 ⟨rfl, hm1⟩
  have hlk := hlook w1 (HE.out.keep hm1)
  have htk := take_bad s cell word tmp w1 a 3 hlk
  have hgv := give_bad s cell word tmp w1 a 3 hlk
  have hcd := coded2_at (HE.out.keep hm1) 3 (by omega) 4
  rw [show decide ((4 : Int) = ((3 : Nat) : Int) + 1) = true by decide] at hcd
  unfold errV at htk hgv hcd
  have Htk := Lib.hid htk
  have Hgv := Lib.hid hgv
  have Hm1 := Lib.hid hm1
  clear hlk htk hgv hm1 hlook hcd
  go_wp2_with fail
  refine Htk.out.mono ?_
  rintro e w2 ⟨rfl, rfl⟩
  go_wp2_with fail
  refine Hgv.out.mono ?_
  rintro e w2 ⟨rfl, rfl⟩
  go_wp2_with fail
  refine (isPrefix_any s 8 w1 hs).mono ?_
  rintro e w2 ⟨rfl, rfl⟩
  rw [Hn.out]
  go_wp2_with fail
  have hcd := coded2_at (HE.out.keep Hm1.out) 3 (by omega) 4
  rw [show decide ((4 : Int) = ((3 : Nat) : Int) + 1) = true by decide] at hcd
  unfold errV at hcd
  refine hcd.mono ?_
  rintro e w3 ⟨rfl, hm3⟩
  have Hm3 := Lib.hid (Hm1.out.trans0 hm3)
  clear hcd hm3
  go_wp2_with fail
  have hcd := coded2_at (HE.out.keep Hm3.out) 3 (by omega) 4
  rw [show decide ((4 : Int) = ((3 : Nat) : Int) + 1) = true by decide] at hcd
  unfold errV at hcd
  refine hcd.mono ?_
  rintro e w4 ⟨rfl, hm4⟩
  have Hm4 := Lib.hid (Hm3.out.trans0 hm4)
  clear hcd hm4
  go_wp2
  go_ret
  exact ⟨rfl, Hm4.out⟩
theorem bools_cell {w : World} {B : Nat} {o : List Bool} (h : BoolsAt w B o) (hl : o.length = 8) {k : Nat} (hk : k < 8) : w.cell? ⟨B, k, none⟩ = some (.bool (o.getD k false)) := by
  rw [cell_of_heap h]
  have : k < o.length := by omega
  simp [List.getD, this]
theorem BoolsAt.keep {w w' : World} {B : Nat} {o : List Bool} (h : BoolsAt w B o) (hM : Mod noF w w') : BoolsAt w' B o := hM.heap h (fun e => e)
set_option maxHeartbeats 8000000 in
theorem sc_good (s : ByteArray) (cell word tmp : Int) (w : World) (a : Nat → Addr) (E : ErrsAt w a) (hl : s.size ≤ 100) (c0 : ¬ cell < 0) (c1 : ¬ 8 ≤ cell) (c2 : ¬ word < 0) (c3 : ¬ 4 ≤ word) (t0 : ¬ tmp < 0) (t1 : ¬ 7 ≤ tmp) (t2 : ¬ cell = tmp) (t3 : ¬ cell = tmp + 1) (hn : (nameB s.data.toList && decide ((s.size : Int) ≤ 8)) = true) :
    Calls Tryd.prog 13 #[.string s, .int .i64 cell, .int .i64 word, .int .i64 tmp] w fun e w' => e = .returned (.bool true) ∧ Mod noF w w' := by
  have hl100 : decide ((100 : Int) < (s.size : Int)) = false := by simp; omega
  have hs : s.size ≤ maxLen := by unfold maxLen; omega
  have hlk : LookOk s cell word tmp := by
    simp only [Bool.and_eq_true, decide_eq_true_eq] at hn
    exact ⟨hn.1, by omega, by omega, by omega, by omega, by omega, by omega, by omega, t2, t3⟩
  have Hlk := Lib.hid hlk
  have Hn := Lib.hid hn
  obtain ⟨tt, htt⟩ := Int.eq_ofNat_of_zero_le (show 0 ≤ tmp by omega)
  have Htt := Lib.hid htt
  clear E hn hlk htt
  have d0 : decide (cell < 0) = false := by simpa using c0
  have d1 : decide (8 ≤ cell) = false := by simpa using c1
  have d2 : decide (word < 0) = false := by simpa using c2
  have d3 : decide (4 ≤ word) = false := by simpa using c3
  have s0 : decide (tmp < 0) = false := by simpa using t0
  have s1 : decide (7 ≤ tmp) = false := by simpa using t1
  have s2 : (cell == tmp) = false := by simpa using t2
  have s3 : (cell == tmp + 1) = false := by simpa using t3
  clear t2 t3
  go_enter Tryd.func13, Tryd.ntmps13
  go_wp2_with fail
  refine (locked_any w).mono ?_
  rintro e w1 ⟨rfl, hm1⟩
  have Hm1 := Lib.hid hm1
  clear hm1
  go_wp2_with fail
  refine (take_ok s cell word tmp w1 Hlk.out).mono ?_
  rintro e w2 ⟨va, rfl, hma⟩
  have hca := InsRow.code hma.1
  have Hm2 := Lib.hid (Hm1.out.trans0 (Mod.below hma.2.1))
  obtain ⟨ga, cca, rfl, _⟩ := hca.at_
  have Hca := Lib.hid hca
  clear hma hca
  go_wp2_with fail
  refine (give_ok s cell word tmp w2 Hlk.out).mono ?_
  rintro e w3 ⟨vb, rfl, hmb⟩
  have hcb := InsRow.code hmb.1
  have hq3 := Mod.below hmb.2.1
  have Hca3 := Lib.hid (Hca.out.frame hq3 (fun _ _ e => e))
  have Hm3 := Lib.hid (Hm2.out.trans0 hq3)
  obtain ⟨gb, ccb, rfl, _⟩ := hcb.at_
  have Hcb := Lib.hid hcb
  clear hmb hcb hq3 Hca
  go_wp2_with fail
  refine (isPrefix_any s 8 w3 hs).mono ?_
  rintro e w4 ⟨rfl, rfl⟩
  rw [Hn.out]
  go_wp2_with fail
  refine (bars_any w3).mono ?_
  rintro e w4 ⟨rfl, hq4, hb4⟩
  have hpl := plain_ok _ _ (takeCode s.data.toList cell word tmp) s 20 barsL w4 (Hca3.out.frame hq4 (fun _ _ e => e)) (takeCode_fine Hlk.out) (by simp [takeCode]) (by omega) hb4 (fun x hx => wop_bars (takeCode_wop _ _ _ _ x hx)) (takeCode_to s cell word tmp) hs
  have Hpl := Lib.hid hpl
  have Hq4 := Lib.hid hq4
  clear hpl hq4 hb4
  go_wp2_with fail
  refine Hpl.out.mono ?_
  rintro e w5 ⟨rfl, hm5⟩
  have Hq5 := Lib.hid (Hq4.out.trans0 hm5)
  clear hm5 Hpl
  go_wp2_with fail
  refine (bars_any w5).mono ?_
  rintro e w6 ⟨rfl, hq6, hb6⟩
  have hpl := plain_ok _ _ (giveCode cell word tmp) s 20 barsL w6 (Hcb.out.frame (Hq5.out.trans0 hq6) (fun _ _ e => e)) (giveCode_fine Hlk.out) (by simp [giveCode]) (by omega) hb6 (fun x hx => wop_bars (giveCode_wop _ _ _ x hx)) (giveCode_to s cell word tmp) hs
  have Hpl := Lib.hid hpl
  have Hq6 := Lib.hid (Hq5.out.trans0 hq6)
  clear hpl hq6 hb6
  go_wp2_with fail
  refine Hpl.out.mono ?_
  rintro e w7 ⟨rfl, hm7⟩
  have Hq7 := Lib.hid (Hq6.out.trans0 hm7)
  clear hm7 Hpl
  go_wp2_with fail
  have hwr := written_ok _ (takeCode s.data.toList cell word tmp) w7 (Hca3.out.frame Hq7.out (fun _ _ e => e)) (takeCode_fine Hlk.out) (takeCode_wop _ _ _ _) (by simp [takeCode])
  refine hwr.mono ?_
  rintro e w8 ⟨rfl, hq8, hB8⟩
  have Hq8 := Lib.hid (Hq7.out.trans0 hq8)
  have HB8 := Lib.hid hB8
  clear hwr hq8 hB8
  go_wp2_with fail
  have hwr := written_ok _ (giveCode cell word tmp) w8 (Hcb.out.frame Hq8.out (fun _ _ e => e)) (giveCode_fine Hlk.out) (giveCode_wop _ _ _) (by simp [giveCode])
  refine hwr.mono ?_
  rintro e w9 ⟨rfl, hq9, hB9⟩
  have Hq9 := Lib.hid (Hq8.out.trans0 hq9)
  have HB89 := Lib.hid (HB8.out.keep hq9)
  have HB9 := Lib.hid hB9
  clear hwr hq9 hB9
  go_wp2
  go_loop [17] (fun i => ∃ k : Nat, k ≤ 8 ∧ i = .int .i64 k) (fun i => 8 - (intOf i).toNat)
  case atStart => exact ⟨0, Nat.zero_le _, rfl⟩
  case round =>
    obtain ⟨k, hk, rfl⟩ := hrel
    by_cases hlt : (k : Int) < 8
    · have hd : decide ((k : Int) < 8) = true := by simp; omega
      have p0 := bools_cell HB89.out (writtenL_len _) (show k < 8 by omega)
      have p1 := bools_cell HB9.out (writtenL_len _) (show k < 8 by omega)
      have f0 : ¬ k = tt → ¬ k = tt + 1 → (writtenL (takeCode s.data.toList cell word tmp)).getD k false = false := fun h1 h2 => by rw [Htt.out]; exact takeCode_written _ _ _ tt k h1 h2
      have f1 : ¬ k = tt → (writtenL (giveCode cell word tmp)).getD k false = false := fun h1 => by rw [Htt.out]; exact giveCode_written _ _ tt k h1
      have hb0 := World.block_lt_of_cell? _ _ p0
      have hb1 := World.block_lt_of_cell? _ _ p1
      generalize (writtenL (takeCode s.data.toList cell word tmp)).getD k false = xb at p0 f0
      generalize (writtenL (giveCode cell word tmp)).getD k false = yb at p1 f1
      have htk := Htt.out
      by_cases e1 : k = tt
      · have n1 : ((k : Int) != tmp) = false := by rw [htk, e1]; simp
        clear f0 f1 htk e1
        cases xb <;> cases yb
        all_goals go_wp2
        all_goals go_round
        all_goals first | exact ⟨k + 1, by omega, by go_num⟩ | (simp [intOf]; omega)
      · have n1 : ((k : Int) != tmp) = true := by rw [htk]; simp; omega
        by_cases e2 : k = tt + 1
        · have n2 : ((k : Int) != tmp + 1) = false := by rw [htk, e2]; simp
          clear f0 f1 htk e1 e2
          cases xb <;> cases yb
          all_goals go_wp2
          all_goals go_round
          all_goals first | exact ⟨k + 1, by omega, by go_num⟩ | (simp [intOf]; omega)
        · obtain rfl := f0 e1 e2
          obtain rfl := f1 e1
          clear f0 f1 htk e1 e2
          go_wp2
          go_round
          case rel => exact ⟨k + 1, by omega, by go_num⟩
          case measure => simp [intOf]; omega
    · have hd : decide ((k : Int) < 8) = false := by simpa using hlt
      go_wp2
      go_ret
      exact ⟨rfl, Hm3.out.trans0 Hq9.out⟩
set_option maxHeartbeats 2000000 in
theorem sc_mod (s : ByteArray) (cell word tmp : Int) (w : World) (a : Nat → Addr) (E : ErrsAt w a) (hs : s.size ≤ maxLen) :
    Calls Tryd.prog 13 #[.string s, .int .i64 cell, .int .i64 word, .int .i64 tmp] w fun e w' => e = .returned (.bool true) ∧ Mod noF w w' := by
  by_cases hl : 100 < s.size
  · have hl100 : decide ((100 : Int) < (s.size : Int)) = true := by simp; omega
    go_enter Tryd.func13, Tryd.ntmps13
    go_wp2_with fail
    refine (locked_any w).mono ?_
    rintro e w1 ⟨rfl, hm1⟩
    have Hm1 := Lib.hid hm1
    clear hm1
    go_wp2
    go_ret
    exact ⟨rfl, Hm1.out⟩
  have hl : s.size ≤ 100 := by omega
  by_cases c0 : cell < 0
  · by_cases t0 : tmp < 0
    · exact (sc_bad00 s cell word tmp w a E hl c0 t0)
    by_cases t1 : 7 ≤ tmp
    · exact (sc_bad01 s cell word tmp w a E hl c0 t0 t1)
    by_cases t2 : cell = tmp
    · exact (sc_bad02 s cell word tmp w a E hl c0 t0 t1 t2)
    by_cases t3 : cell = tmp + 1
    · exact (sc_bad03 s cell word tmp w a E hl c0 t0 t1 t2 t3)
    exact (sc_bad04 s cell word tmp w a E hl c0 t0 t1 t2 t3)
  by_cases c1 : 8 ≤ cell
  · by_cases t0 : tmp < 0
    · exact (sc_bad10 s cell word tmp w a E hl c0 c1 t0)
    by_cases t1 : 7 ≤ tmp
    · exact (sc_bad11 s cell word tmp w a E hl c0 c1 t0 t1)
    by_cases t2 : cell = tmp
    · exact (sc_bad12 s cell word tmp w a E hl c0 c1 t0 t1 t2)
    by_cases t3 : cell = tmp + 1
    · exact (sc_bad13 s cell word tmp w a E hl c0 c1 t0 t1 t2 t3)
    exact (sc_bad14 s cell word tmp w a E hl c0 c1 t0 t1 t2 t3)
  by_cases c2 : word < 0
  · by_cases t0 : tmp < 0
    · exact (sc_bad20 s cell word tmp w a E hl c0 c1 c2 t0)
    by_cases t1 : 7 ≤ tmp
    · exact (sc_bad21 s cell word tmp w a E hl c0 c1 c2 t0 t1)
    by_cases t2 : cell = tmp
    · exact (sc_bad22 s cell word tmp w a E hl c0 c1 c2 t0 t1 t2)
    by_cases t3 : cell = tmp + 1
    · exact (sc_bad23 s cell word tmp w a E hl c0 c1 c2 t0 t1 t2 t3)
    exact (sc_bad24 s cell word tmp w a E hl c0 c1 c2 t0 t1 t2 t3)
  by_cases c3 : 4 ≤ word
  · by_cases t0 : tmp < 0
    · exact (sc_bad30 s cell word tmp w a E hl c0 c1 c2 c3 t0)
    by_cases t1 : 7 ≤ tmp
    · exact (sc_bad31 s cell word tmp w a E hl c0 c1 c2 c3 t0 t1)
    by_cases t2 : cell = tmp
    · exact (sc_bad32 s cell word tmp w a E hl c0 c1 c2 c3 t0 t1 t2)
    by_cases t3 : cell = tmp + 1
    · exact (sc_bad33 s cell word tmp w a E hl c0 c1 c2 c3 t0 t1 t2 t3)
    exact (sc_bad34 s cell word tmp w a E hl c0 c1 c2 c3 t0 t1 t2 t3)
  by_cases t0 : tmp < 0
  · exact (sc_bad40 s cell word tmp w a E hl c0 c1 c2 c3 t0)
  by_cases t1 : 7 ≤ tmp
  · exact (sc_bad41 s cell word tmp w a E hl c0 c1 c2 c3 t0 t1)
  by_cases t2 : cell = tmp
  · exact (sc_bad42 s cell word tmp w a E hl c0 c1 c2 c3 t0 t1 t2)
  by_cases t3 : cell = tmp + 1
  · exact (sc_bad43 s cell word tmp w a E hl c0 c1 c2 c3 t0 t1 t2 t3)
  exact (by
      cases hn : (nameB s.data.toList && decide ((s.size : Int) ≤ 8)) with
      | false => exact sc_name s cell word tmp w a E hl c0 c1 c2 c3 t0 t1 t2 t3 hn
      | true => exact sc_good s cell word tmp w a E hl c0 c1 c2 c3 t0 t1 t2 t3 hn)
theorem spinCode_any (a0 : ByteArray) (a1 a2 a3 : Int) (w : World) (h0 : a0.size ≤ maxLen) (_ : (Lit.int .i64 a1).wf = true) (_ : (Lit.int .i64 a2).wf = true) (_ : (Lit.int .i64 a3).wf = true) (h : ∃ a, ErrsAt w a) :
    Calls Tryd.prog 13 #[.string a0, .int .i64 a1, .int .i64 a2, .int .i64 a3] w fun e w' => e = .returned (.bool true) ∧ Below w.heap.size w w' := by
  obtain ⟨a, E⟩ := h
  exact (sc_mod a0 a1 a2 a3 w a E h0).mono fun _ _ h => ⟨h.1, h.2.toBelow⟩
end Go.Proofs.YtamfbfajlfbooaaDoor
