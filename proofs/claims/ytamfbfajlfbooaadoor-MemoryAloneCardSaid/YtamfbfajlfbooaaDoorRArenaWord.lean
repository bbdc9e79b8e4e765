/- arena.Word, arena.Ref, first; the law ArenaWords, walked. -/
import Derived.Test.YtamfbfajlfbooaaDoorRArenaNew
import Derived.Test.YtamfbfajlfbooaaDoorRm3
import Derived.Test.YtamfbfajlfbooaaDoorRErrsLaw
set_option linter.unusedVariables false
set_option linter.unusedSimpArgs false
set_option linter.unusedSectionVars false
namespace Go.Proofs.YtamfbfajlfbooaaDoor
open Go.RowKit Qs Qh
/-- The error of a number that 'WordOf', 'RefOf' tell. -/
def errOf (a : Nat → Addr) (e : Int) : Value := if e = 0 then .nilIface else errV a (e.toNat - 1)
set_option maxHeartbeats 1000000 in
theorem arenaWord_any (c g : Int) (w : World) (a : Nat → Addr) (E : ErrsAt w a) :
    Calls Tryd.prog 45 #[.agg #[.int .i64 c, .int .i64 g]] w fun e w' => e = .returned (.tuple #[.int .i64 (wordV c g).1, errOf a (wordV c g).2]) ∧ Mod noF w w' := by
  have hv := (E.keep ((Mod.refl noF w).alloc (.cells #[.int .i64 c, .int .i64 g] 58))).var 1 (by omega)
  clear E
  by_cases c0 : c < 0
  · have d0 : decide (c < 0) = true := by simpa using c0
    have e : wordV c g = (0, 2) := by simp only [wordV]; rw [if_neg (by omega)]
    rw [e]
    go_enter Tryd.func45, Tryd.ntmps45
    go_wp2
    go_quiet (fail)
    go_wp2
    go_ret2
    exact ⟨rfl, ((Mod.refl _ _).alloc _).drewN _⟩
  have d0 : decide (c < 0) = false := by simpa using c0
  by_cases c1 : 64 ≤ c
  · have d1 : decide (64 ≤ c) = true := by simpa using c1
    have e : wordV c g = (0, 2) := by simp only [wordV]; rw [if_neg (by omega)]
    rw [e]
    go_enter Tryd.func45, Tryd.ntmps45
    go_wp2
    go_quiet (fail)
    go_wp2
    go_ret2
    exact ⟨rfl, ((Mod.refl _ _).alloc _).drewN _⟩
  have d1 : decide (64 ≤ c) = false := by simpa using c1
  by_cases g0 : g < 0
  · have d2 : decide (g < 0) = true := by simpa using g0
    have e : wordV c g = (0, 2) := by simp only [wordV]; rw [if_neg (by omega)]
    rw [e]
    go_enter Tryd.func45, Tryd.ntmps45
    go_wp2
    go_quiet (fail)
    go_wp2
    go_ret2
    exact ⟨rfl, ((Mod.refl _ _).alloc _).drewN _⟩
  have d2 : decide (g < 0) = false := by simpa using g0
  by_cases g1 : 67108863 < g
  · have d3 : decide (67108863 < g) = true := by simpa using g1
    have e : wordV c g = (0, 2) := by
      simp only [wordV]
      rw [if_neg (fun h => by
        have h5 : isWord (g * 64 + c + 1) = true := h.2.2.2.2
        simp only [isWord, W32, Bool.and_eq_true, decide_eq_true_eq] at h5
        omega)]
    rw [e]
    go_enter Tryd.func45, Tryd.ntmps45
    go_wp2
    go_quiet (fail)
    go_wp2
    go_ret2
    exact ⟨rfl, ((Mod.refl _ _).alloc _).drewN _⟩
  have d3 : decide (67108863 < g) = false := by simpa using g1
  by_cases n1 : 4294967295 < g * 64 + c + 1
  · have d4 : decide (4294967295 < g * 64 + c + 1) = true := by simpa using n1
    have e : wordV c g = (0, 2) := by
      simp only [wordV]
      rw [if_neg (fun h => by
        have h5 : isWord (g * 64 + c + 1) = true := h.2.2.2.2
        simp only [isWord, W32, Bool.and_eq_true, decide_eq_true_eq] at h5
        omega)]
    rw [e]
    go_enter Tryd.func45, Tryd.ntmps45
    go_wp2
    go_quiet (fail)
    go_wp2
    go_ret2
    exact ⟨rfl, ((Mod.refl _ _).alloc _).drewN _⟩
  · have d4 : decide (4294967295 < g * 64 + c + 1) = false := by simpa using n1
    have hw : isWord (g * 64 + c + 1) = true := by simp only [isWord, W32, Bool.and_eq_true, decide_eq_true_eq]; omega
    have e : wordV c g = (g * 64 + c + 1, 0) := by
      simp only [wordV]
      rw [if_pos ⟨by omega, by omega, by omega, by omega, hw⟩]
    rw [e]
    go_enter Tryd.func45, Tryd.ntmps45
    go_wp2
    go_ret2
    exact ⟨rfl, (Mod.refl _ _).alloc _⟩
set_option maxHeartbeats 1000000 in
theorem arenaRef_any (n : Int) (w : World) (a : Nat → Addr) (E : ErrsAt w a) (hlo : -9223372036854775808 ≤ n) (hhi : n ≤ 9223372036854775807) :
    Calls Tryd.prog 47 #[.int .i64 n] w fun e w' => e = .returned (.tuple #[.agg #[.int .i64 (refV n).1, .int .i64 (refV n).2.1], errOf a (refV n).2.2]) ∧ Mod noF w w' := by
  have E1 := E.keep ((Mod.refl noF w).alloc (.cells #[.int .i64 0, .int .i64 0] 58))
  have hv := E1.var 1 (by omega)
  have hv4 := E1.var 4 (by omega)
  have hb := World.block_lt_of_cell? _ _ hv
  clear E E1
  by_cases h0 : n = 0
  · subst h0
    go_enter Tryd.func47, Tryd.ntmps47
    go_wp2
    go_region
    all_goals go_wp2
    refine bodyPost_ret (v := .tuple #[.agg #[.int .i64 0, .int .i64 0], errOf a 5]) (by simp [results, Tryd.results47, go_sem, errOf, errV]) rfl ⟨rfl, ((Mod.refl _ _).alloc _).drew⟩
  · have d0 : (n == 0) = false := by simpa using h0
    cases hw : isWord n with
    | false =>
      have e : refV n = (0, 0, 2) := by simp [refV, refOf, h0, hw]
      rw [e]
      have Hw := Lib.hid hw; clear hw
      go_enter Tryd.func47, Tryd.ntmps47
      go_wp2_with (go_at_call 93; refine (right_any _ _).mono ?_; rintro e w' ⟨rfl, rfl⟩; rw [Hw.out])
      go_region
      all_goals go_wp2
      refine bodyPost_ret (v := .tuple #[.agg #[.int .i64 0, .int .i64 0], errOf a 2]) (by simp [results, Tryd.results47, go_sem, errOf, errV]) rfl ⟨rfl, ((Mod.refl _ _).alloc _).drew⟩
    | true =>
      have e : refV n = ((n - 1) % 64, (n - 1) / 64, 0) := by simp [refV, refOf, h0, hw]
      have hb : 0 ≤ n ∧ n < 4294967296 := by simpa [isWord, W32] using hw
      obtain ⟨b0, b1⟩ := hb
      have b2 : 0 ≤ n - 1 := by omega
      rw [e]
      have Hw := Lib.hid hw; clear hw
      go_enter Tryd.func47, Tryd.ntmps47
      go_wp2_with (go_at_call 93; refine (right_any _ _).mono ?_; rintro e w' ⟨rfl, rfl⟩; rw [Hw.out])
      refine bodyPost_ret (v := .tuple #[.agg #[.int .i64 ((n - 1) % 64), .int .i64 ((n - 1) / 64)], .nilIface]) (by simp [results, Tryd.results47, go_sem]) rfl ⟨by simp [errOf], (Mod.refl _ _).alloc _⟩
theorem first_ok (w : World) (a : Nat → Addr) (E : ErrsAt w a) :
    Calls Tryd.prog 44 #[] w fun e w' => e = .returned (.bool true) ∧ Mod noF w w' := by
  have HE := Lib.hid E
  clear E
  go_enter Tryd.func44, Tryd.ntmps44
  go_wp2_with fail
  refine (arenaNew_ok 2 (by omega) (by omega) w).mono ?_
  rintro e w1 ⟨rfl, R1, hm1⟩
  have HR1 := Lib.hid R1
  have Hm1 := Lib.hid hm1
  clear R1 hm1
  go_wp2_with fail
  refine (arenaAlloc HR1.out (HE.out.keep Hm1.out).four (by simp) (fun i c hc => by have := List.eq_of_mem_replicate (List.mem_of_getElem? hc); subst this; simp [freshCell])).mono ?_
  rintro e w2 h2
  rcases h2 with ⟨i, c, ha, hc, rfl, R2, hm2⟩ | ⟨ha, -, -⟩
  · have hi : i = 0 ∧ c.times = 0 := by
      have : allocAt (List.replicate 2 freshCell) 0 = some (0, 0) := rfl
      rw [this] at ha; simpa using ha.symm
    obtain ⟨rfl, ht⟩ := hi
    rw [ht]
    have hcc : c = freshCell := by simpa using hc.symm
    subst hcc
    have HR2 := Lib.hid R2
    have Hm2 := Lib.hid hm2
    have hw2 := hm2.size
    clear R2 hm2 ha hc ht
    go_wp2_with fail
    refine (arenaCount (HR2.out.keep0 ((Mod.refl noF w2).alloc _)) (by simp)).mono ?_
    rintro e w3 ⟨rfl, hm3⟩
    rw [show countL ((List.replicate 2 freshCell).set 0 (givenCell freshCell)) = 1 from rfl]
    have Hm3 := Lib.hid (((Mod.refl noF w2).alloc _).trans0 hm3)
    clear hm3
    go_wp2
    go_ret
    exact ⟨rfl, (Hm1.out.trans Hm2.out (fun x hx e => by omega)).trans0 Hm3.out⟩
  · exact absurd ha (by decide)
theorem refV_err (n : Int) : (refV n).2.2 = 0 ∨ (refV n).2.2 = 5 ∨ (refV n).2.2 = 2 := by
  unfold refV
  cases refOf n with
  | some x => left; rfl
  | none => right; by_cases h : n = 0 <;> simp [h]
theorem wordV_err (c g : Int) : (wordV c g).2 = 0 ∨ (wordV c g).2 = 2 := by
  unfold wordV; split <;> simp
/-- 'coded' of an error and its own number. -/
theorem coded_own {w : World} {a : Nat → Addr} (E : ErrsAt w a) (e : Int) (h0 : 0 ≤ e) (h9 : e ≤ 9) : Calls Tryd.prog 38 #[errOf a e, .int .i64 e] w fun r w' => r = .returned (.bool true) ∧ Mod noF w w' := by
  by_cases h : e = 0
  · subst h
    exact (coded_nil 0 w).mono fun _ _ h => ⟨by rw [h.1]; rfl, by rw [h.2]; exact Mod.refl _ _⟩
  · unfold errOf
    rw [if_neg h]
    refine (coded_at E (e.toNat - 1) (by omega) e).mono fun _ _ h => ⟨by rw [h.1]; congr 2; simp; omega, h.2⟩
/-- The law's first half: a word that goes back to its ref. -/
theorem refV_back {c g : Int} (h : (wordV c g).2 = 0) : refV (wordV c g).1 = (c, g, 0) := by
  unfold wordV at h ⊢
  split at h
  · rename_i hh
    rw [if_pos hh]
    obtain ⟨h1, h2, h3, h4, h5⟩ := hh
    have hne : g * 64 + c + 1 ≠ 0 := by omega
    simp only [refV, refOf, if_neg hne]
    rw [if_pos h5]
    show ((g * 64 + c + 1 - 1) % 64, (g * 64 + c + 1 - 1) / 64, (0 : Int)) = (c, g, 0)
    rw [show (g * 64 + c + 1 - 1) % 64 = c by omega, show (g * 64 + c + 1 - 1) / 64 = g by omega]
  · cases h
end Go.Proofs.YtamfbfajlfbooaaDoor
