/- GraceNone, walked. -/
import Derived.Test.YtamfbfajlfbooaaDoorNm9
import Derived.Test.YtamfbfajlfbooaaDoorNPlayedW
import Derived.Test.YtamfbfajlfbooaaDoorNm8
import Derived.LoopTactic
set_option linter.unusedVariables false
set_option linter.unusedSimpArgs false
set_option linter.unusedSectionVars false
namespace Go.Proofs.YtamfbfajlfbooaaDoor
open Go.RowKit Qs Qh
theorem none_cast (w : World) (r : Nat) (T : TypeId) : CastAt (w.alloc (.cells #[.bool false, .int .i64 1, .int .i64 r, .bool false, .bool true, .int .i64 1, .int .i64 0, .bool false] T)) (.slice (some ⟨w.heap.size, 0, none⟩) 2 2) [⟨false, 1, r, false⟩, ⟨true, 1, 0, false⟩] := by
  refine ⟨_, _, rfl, fun i x hx => ?_⟩
  match i with
  | 0 =>
    simp at hx; subst hx
    exact ⟨_, _, rfl, by simp, by rw [World.cell?_alloc_new]; rfl, by rw [World.cell?_alloc_new]; rfl, by rw [World.cell?_alloc_new]; rfl, by rw [World.cell?_alloc_new]; rfl⟩
  | 1 =>
    simp at hx; subst hx
    exact ⟨_, _, rfl, by simp, by rw [World.cell?_alloc_new]; rfl, by rw [World.cell?_alloc_new]; rfl, by rw [World.cell?_alloc_new]; rfl, by rw [World.cell?_alloc_new]; rfl⟩
  | i + 2 => simp at hx
set_option maxRecDepth 100000 in
set_option maxHeartbeats 16000000 in
theorem graceNone_in {f r : Nat} (h1 : 1 ≤ f) (h4 : f ≤ 4) (r1 : 1 ≤ r) (r5 : r ≤ 5) (w : World) :
    Calls Tryd.prog 9 #[.int .i64 f, .int .i64 r] w fun e w' => e = .returned (.bool true) ∧ Mod noF w w' := by
  have d0 : decide ((f : Int) < 1) = false := by simp; omega
  have d1 : decide ((4 : Int) < (f : Int)) = false := by simp; omega
  have d2 : decide ((r : Int) < 1) = false := by simp; omega
  have d3 : decide ((5 : Int) < (r : Int)) = false := by simp; omega
  obtain ⟨F1, F2⟩ := none_fine h1 h4 r1 r5
  have hlaw := none_law h1 h4 r1 r5
  have hE := none_easy h1 h4 r1 r5
  have Hlaw := Lib.hid hlaw
  have HE0 := Lib.hid hE
  have HF1 := Lib.hid F1
  have HF2 := Lib.hid F2
  clear F1 F2 hlaw hE
  go_enter Tryd.func9, Tryd.ntmps9
  go_wp2_with fail
  refine (flavoured_any w).mono ?_
  rintro e w1 ⟨rfl, hm1⟩
  have Hm1 := Lib.hid hm1
  clear hm1
  go_wp2_with fail
  refine (played_ok (l := [⟨false, 1, r, false⟩, ⟨true, 1, 0, false⟩]) h1 h4 (by simp) (by simp) (fun x hx => by simp at hx; rcases hx with rfl | rfl <;> exact ⟨by simp, by simp; try omega⟩) false (fun x hx => by simp only [List.mem_cons, List.not_mem_nil, or_false] at hx; rcases hx with rfl | rfl; exact HF1.out; exact HF2.out) _ _ (none_cast w1 r _)).mono ?_
  rintro e w3 ⟨L, rfl, X, hb3, hft⟩
  have HX := Lib.hid (show Mach ty w3 L (noneM f r) 1 from X)
  have Hb3 := Lib.hid hb3
  have Hft := Lib.hid (fun j (hj : Foot ty allK L (noneM f r) j) => hft j hj)
  clear X hb3 hft
  go_wp2
  go_loopw [8] (fun i wr => ∃ q : Nat, q ≤ 2000 ∧ i = .int .i64 q ∧ ∃ Lr mr, MUp ty w3 L (noneM f r) wr Lr mr (1 + 48 * q) ∧ M.upto3 (2000 - q) mr = noneA f r) (fun i _ => 2000 - (intOf i).toNat)
  case atStart => exact ⟨0, Nat.zero_le _, rfl, L, noneM f r, by simpa using MUp.quiet HX.out (Mod.refl _ _), rfl⟩
  case round =>
    obtain ⟨q, hq, rfl, Lr, mr, Ur, hup⟩ := hrel
    have e0 := Ur.top.1
    have hE1 := HE0.out.keep Ur
    obtain ⟨h, hh⟩ : ∃ h, mr.T[0]? = some h := ⟨_, List.getElem?_eq_getElem (Ur.mach.ot.t1)⟩
    obtain ⟨t0, t1, t2, t3, t4, t5⟩ := Ur.mach.top
    obtain ⟨k0, k1, k2, k3, k4⟩ := Ur.mach.thr_at hh
    obtain ⟨g0, g1, g2⟩ := Ur.mach.reg_at hh (show 3 < 8 by omega)
    rw [e0] at t1 t5
    have hlT : (0 : Int) < (mr.T.length : Int) := by have := Ur.mach.ot.t1; omega
    have hreg : (mr.thr 0).reg 3 = h.regs.getD 3 0 := by simp [M.thr, Thr.reg, List.getD, hh]
    have Hreg := Lib.hid hreg
    have Hup := Lib.hid hup
    have HUr := Lib.hid Ur
    have HE1 := Lib.hid hE1
    generalize hv : h.regs.getD 3 0 = v3 at *
    have hcall := fun hN => turn_any HUr.out.mach HE1.out hN 0 (by omega) (by omega)
    rw [e0] at hcall
    have Hcall := Lib.hid hcall
    clear Ur hE1 hup hreg hcall t0 t2 t3 t4 k0 k2 k3
    by_cases hz : q < 2000 ∧ v3 = 0
    · obtain ⟨hlt, rfl⟩ := hz
      have hd : decide ((q : Int) < 2000) = true := by simp; omega
      go_wp2_with fail
      refine (Hcall.out (by omega)).mono ?_
      rintro e w7 ⟨rfl, L7, U7⟩
      have HU7 := Lib.hid U7
      clear U7
      obtain ⟨z, hz⟩ : ∃ z, (M.turn mr 0).2 = z := ⟨_, rfl⟩
      rw [hz]
      clear hz
      go_wp2
      go_roundw
      case rel =>
        refine ⟨q + 1, by omega, by go_num, L7, (mr.turn 0).1, ?_, ?_⟩
        · rw [show 1 + 48 * ((q + 1 : Nat) : Int) = 1 + 48 * (q : Int) + 48 from by omega]
          exact HUr.out.trans HU7.out
        · have hu := Hup.out
          rw [show 2000 - q = (2000 - (q + 1)) + 1 from by omega] at hu
          rw [← hu]
          show _ = (if (mr.thr 0).reg 3 = 0 then _ else mr)
          rw [Hreg.out, if_pos rfl]
      case measure => simp [intOf]; omega
    · have hA : mr = noneA f r := by
        rw [← Hup.out]
        by_cases e : q = 2000
        · subst e; rfl
        · rw [show 2000 - q = (2000 - (q + 1)) + 1 from by omega]
          show mr = (if (mr.thr 0).reg 3 = 0 then _ else mr)
          rw [Hreg.out, if_neg (fun hh => hz ⟨by omega, hh⟩)]
      have hcond : (decide ((q : Int) < 2000) && (v3 == 0)) = false := by
        by_cases e : q < 2000
        · have : ¬ v3 = 0 := fun hh => hz ⟨e, hh⟩
          simp [this]
        · simp; omega
      have HUA := Lib.hid (show MUp ty w3 L (noneM f r) wr Lr (noneA f r) (1 + 48 * 2000) from by rw [← hA]; exact HUr.out.mono (by omega))
      clear hz hA
      by_cases hq2 : q < 2000
      · have hd : decide ((q : Int) < 2000) = true := by simp; omega
        have hvz : (v3 == 0) = false := by simpa [hd] using hcond
        clear hcond
        go_wp2
        go_loopw [9] (fun i wr => ∃ q : Nat, q ≤ 2000 ∧ i = .int .i64 q ∧ ∃ Lr, MUp ty w3 L (noneM f r) wr Lr (M.pairs 1 3 q (noneA f r)) ((1 + 48 * 2000) + 96 * q)) (fun i _ => 2000 - (intOf i).toNat)
        case atStart => exact ⟨0, Nat.zero_le _, rfl, _, by simpa [M.pairs] using HUA.out⟩
        case round =>
          obtain ⟨q, hq, rfl, Lr, Ur⟩ := hrel
          have e0 := Ur.top.1
          have hE1 := HE0.out.keep Ur
          have HUr := Lib.hid Ur
          have HE1 := Lib.hid hE1
          clear Ur hE1
          by_cases hlt : q < 2000
          · have hd : decide ((q : Int) < 2000) = true := by simp; omega
            have hcall := turn_any HUr.out.mach HE1.out (by omega) 1 (by omega) (by omega)
            rw [e0] at hcall
            have Hcall := Lib.hid hcall
            clear hcall
            go_wp2_with fail
            refine Hcall.out.mono ?_
            rintro e w7 ⟨rfl, L7, U7⟩
            have e7 := U7.top.1.trans e0
            have hE2 := HE1.out.keep U7
            have hcall := turn_any U7.mach hE2 (by omega) 3 (by omega) (by omega)
            rw [e7] at hcall
            have Hcall2 := Lib.hid hcall
            have HU7 := Lib.hid U7
            clear hcall U7 hE2
            obtain ⟨z, hz⟩ : ∃ z, (M.turn (M.pairs 1 3 q (noneA f r)) 1).2 = z := ⟨_, rfl⟩
            rw [hz]
            clear hz
            go_wp2_with fail
            refine Hcall2.out.mono ?_
            rintro e w8 ⟨rfl, L8, U8⟩
            have HU8 := Lib.hid U8
            clear U8
            obtain ⟨z2, hz⟩ : ∃ z, (M.turn (M.turn (M.pairs 1 3 q (noneA f r)) 1).1 3).2 = z := ⟨_, rfl⟩
            rw [hz]
            clear hz
            go_wp2
            go_roundw
            case rel =>
              refine ⟨q + 1, by omega, by go_num, L8, ?_⟩
              rw [M.pairs_snoc, show (1 + 48 * 2000) + 96 * ((q + 1 : Nat) : Int) = (1 + 48 * 2000) + 96 * (q : Int) + 48 + 48 from by omega]
              exact (HUr.out.trans HU7.out).trans HU8.out
            case measure => simp [intOf]; omega
          · have hq20 : q = 2000 := by omega
            have hd : decide ((q : Int) < 2000) = false := by simp; omega
            have Hq20 := Lib.hid hq20
            clear hq20
            have hUB : MUp ty w3 L (noneM f r) wr Lr (noneB f r) (1 + 48 * 2000 + 96 * 2000) := by
              have h := HUr.out
              rw [Hq20.out] at h
              exact h
            have HUB := Lib.hid hUB
            clear hUB
            go_wp2
            go_loopw [10] (fun i wr => ∃ q : Nat, q ≤ 2000 ∧ i = .int .i64 q ∧ ∃ Lr, MUp ty w3 L (noneM f r) wr Lr (M.pairs 0 2 q (noneB f r)) ((1 + 48 * 2000 + 96 * 2000) + 96 * q)) (fun i _ => 2000 - (intOf i).toNat)
            case atStart => exact ⟨0, Nat.zero_le _, rfl, _, by simpa [M.pairs] using HUB.out⟩
            case round =>
              obtain ⟨q, hq, rfl, Lr, Ur⟩ := hrel
              have e0 := Ur.top.1
              have hE1 := HE0.out.keep Ur
              have HUr := Lib.hid Ur
              have HE1 := Lib.hid hE1
              clear Ur hE1
              by_cases hlt : q < 2000
              · have hd : decide ((q : Int) < 2000) = true := by simp; omega
                have hcall := turn_any HUr.out.mach HE1.out (by omega) 0 (by omega) (by omega)
                rw [e0] at hcall
                have Hcall := Lib.hid hcall
                clear hcall
                go_wp2_with fail
                refine Hcall.out.mono ?_
                rintro e w7 ⟨rfl, L7, U7⟩
                have e7 := U7.top.1.trans e0
                have hE2 := HE1.out.keep U7
                have hcall := turn_any U7.mach hE2 (by omega) 2 (by omega) (by omega)
                rw [e7] at hcall
                have Hcall2 := Lib.hid hcall
                have HU7 := Lib.hid U7
                clear hcall U7 hE2
                obtain ⟨z, hz⟩ : ∃ z, (M.turn (M.pairs 0 2 q (noneB f r)) 0).2 = z := ⟨_, rfl⟩
                rw [hz]
                clear hz
                go_wp2_with fail
                refine Hcall2.out.mono ?_
                rintro e w8 ⟨rfl, L8, U8⟩
                have HU8 := Lib.hid U8
                clear U8
                obtain ⟨z2, hz⟩ : ∃ z, (M.turn (M.turn (M.pairs 0 2 q (noneB f r)) 0).1 2).2 = z := ⟨_, rfl⟩
                rw [hz]
                clear hz
                go_wp2
                go_roundw
                case rel =>
                  refine ⟨q + 1, by omega, by go_num, L8, ?_⟩
                  rw [M.pairs_snoc, show (1 + 48 * 2000 + 96 * 2000) + 96 * ((q + 1 : Nat) : Int) = (1 + 48 * 2000 + 96 * 2000) + 96 * (q : Int) + 48 + 48 from by omega]
                  exact (HUr.out.trans HU7.out).trans HU8.out
                case measure => simp [intOf]; omega
              · have hq20 : q = 2000 := by omega
                have hd : decide ((q : Int) < 2000) = false := by simp; omega
                have Hq20 := Lib.hid hq20
                clear hq20
                have hfa := Hlaw.out
                have hUr0 := HUr.out
                rw [Hq20.out] at hUr0
                have HUr := Lib.hid hUr0
                clear hUr0
                generalize hmz : M.pairs 0 2 2000 (noneB f r) = mz at *
                obtain ⟨t0, t1, t2, t3, t4, t5⟩ := HUr.out.mach.top
                rw [e0] at t3 t5
                have hdf : decide (0 < mz.faults) = true := by simpa using hfa
                clear t0 t1 t2 t4
                go_wp2
                go_ret
                refine ⟨rfl, ?_⟩
                have hA := (Hm1.out.trans0 ((Mod.refl noF w1).alloc _)).trans0 (Mod.below Hb3.out)
                exact hA.trans HUr.out.mod (fun x hx hfo => by have := Hft.out x hfo; have h2 := Hm1.out.size; rw [size1] at this; omega)
      · have hd : decide ((q : Int) < 2000) = false := by simp; omega
        clear hcond
        go_wp2
        go_loopw [9] (fun i wr => ∃ q : Nat, q ≤ 2000 ∧ i = .int .i64 q ∧ ∃ Lr, MUp ty w3 L (noneM f r) wr Lr (M.pairs 1 3 q (noneA f r)) ((1 + 48 * 2000) + 96 * q)) (fun i _ => 2000 - (intOf i).toNat)
        case atStart => exact ⟨0, Nat.zero_le _, rfl, _, by simpa [M.pairs] using HUA.out⟩
        case round =>
          obtain ⟨q, hq, rfl, Lr, Ur⟩ := hrel
          have e0 := Ur.top.1
          have hE1 := HE0.out.keep Ur
          have HUr := Lib.hid Ur
          have HE1 := Lib.hid hE1
          clear Ur hE1
          by_cases hlt : q < 2000
          · have hd : decide ((q : Int) < 2000) = true := by simp; omega
            have hcall := turn_any HUr.out.mach HE1.out (by omega) 1 (by omega) (by omega)
            rw [e0] at hcall
            have Hcall := Lib.hid hcall
            clear hcall
            go_wp2_with fail
            refine Hcall.out.mono ?_
            rintro e w7 ⟨rfl, L7, U7⟩
            have e7 := U7.top.1.trans e0
            have hE2 := HE1.out.keep U7
            have hcall := turn_any U7.mach hE2 (by omega) 3 (by omega) (by omega)
            rw [e7] at hcall
            have Hcall2 := Lib.hid hcall
            have HU7 := Lib.hid U7
            clear hcall U7 hE2
            obtain ⟨z, hz⟩ : ∃ z, (M.turn (M.pairs 1 3 q (noneA f r)) 1).2 = z := ⟨_, rfl⟩
            rw [hz]
            clear hz
            go_wp2_with fail
            refine Hcall2.out.mono ?_
            rintro e w8 ⟨rfl, L8, U8⟩
            have HU8 := Lib.hid U8
            clear U8
            obtain ⟨z2, hz⟩ : ∃ z, (M.turn (M.turn (M.pairs 1 3 q (noneA f r)) 1).1 3).2 = z := ⟨_, rfl⟩
            rw [hz]
            clear hz
            go_wp2
            go_roundw
            case rel =>
              refine ⟨q + 1, by omega, by go_num, L8, ?_⟩
              rw [M.pairs_snoc, show (1 + 48 * 2000) + 96 * ((q + 1 : Nat) : Int) = (1 + 48 * 2000) + 96 * (q : Int) + 48 + 48 from by omega]
              exact (HUr.out.trans HU7.out).trans HU8.out
            case measure => simp [intOf]; omega
          · have hq20 : q = 2000 := by omega
            have hd : decide ((q : Int) < 2000) = false := by simp; omega
            have Hq20 := Lib.hid hq20
            clear hq20
            have hUB : MUp ty w3 L (noneM f r) wr Lr (noneB f r) (1 + 48 * 2000 + 96 * 2000) := by
              have h := HUr.out
              rw [Hq20.out] at h
              exact h
            have HUB := Lib.hid hUB
            clear hUB
            go_wp2
            go_loopw [10] (fun i wr => ∃ q : Nat, q ≤ 2000 ∧ i = .int .i64 q ∧ ∃ Lr, MUp ty w3 L (noneM f r) wr Lr (M.pairs 0 2 q (noneB f r)) ((1 + 48 * 2000 + 96 * 2000) + 96 * q)) (fun i _ => 2000 - (intOf i).toNat)
            case atStart => exact ⟨0, Nat.zero_le _, rfl, _, by simpa [M.pairs] using HUB.out⟩
            case round =>
              obtain ⟨q, hq, rfl, Lr, Ur⟩ := hrel
              have e0 := Ur.top.1
              have hE1 := HE0.out.keep Ur
              have HUr := Lib.hid Ur
              have HE1 := Lib.hid hE1
              clear Ur hE1
              by_cases hlt : q < 2000
              · have hd : decide ((q : Int) < 2000) = true := by simp; omega
                have hcall := turn_any HUr.out.mach HE1.out (by omega) 0 (by omega) (by omega)
                rw [e0] at hcall
                have Hcall := Lib.hid hcall
                clear hcall
                go_wp2_with fail
                refine Hcall.out.mono ?_
                rintro e w7 ⟨rfl, L7, U7⟩
                have e7 := U7.top.1.trans e0
                have hE2 := HE1.out.keep U7
                have hcall := turn_any U7.mach hE2 (by omega) 2 (by omega) (by omega)
                rw [e7] at hcall
                have Hcall2 := Lib.hid hcall
                have HU7 := Lib.hid U7
                clear hcall U7 hE2
                obtain ⟨z, hz⟩ : ∃ z, (M.turn (M.pairs 0 2 q (noneB f r)) 0).2 = z := ⟨_, rfl⟩
                rw [hz]
                clear hz
                go_wp2_with fail
                refine Hcall2.out.mono ?_
                rintro e w8 ⟨rfl, L8, U8⟩
                have HU8 := Lib.hid U8
                clear U8
                obtain ⟨z2, hz⟩ : ∃ z, (M.turn (M.turn (M.pairs 0 2 q (noneB f r)) 0).1 2).2 = z := ⟨_, rfl⟩
                rw [hz]
                clear hz
                go_wp2
                go_roundw
                case rel =>
                  refine ⟨q + 1, by omega, by go_num, L8, ?_⟩
                  rw [M.pairs_snoc, show (1 + 48 * 2000 + 96 * 2000) + 96 * ((q + 1 : Nat) : Int) = (1 + 48 * 2000 + 96 * 2000) + 96 * (q : Int) + 48 + 48 from by omega]
                  exact (HUr.out.trans HU7.out).trans HU8.out
                case measure => simp [intOf]; omega
              · have hq20 : q = 2000 := by omega
                have hd : decide ((q : Int) < 2000) = false := by simp; omega
                have Hq20 := Lib.hid hq20
                clear hq20
                have hfa := Hlaw.out
                have hUr0 := HUr.out
                rw [Hq20.out] at hUr0
                have HUr := Lib.hid hUr0
                clear hUr0
                generalize hmz : M.pairs 0 2 2000 (noneB f r) = mz at *
                obtain ⟨t0, t1, t2, t3, t4, t5⟩ := HUr.out.mach.top
                rw [e0] at t3 t5
                have hdf : decide (0 < mz.faults) = true := by simpa using hfa
                clear t0 t1 t2 t4
                go_wp2
                go_ret
                refine ⟨rfl, ?_⟩
                have hA := (Hm1.out.trans0 ((Mod.refl noF w1).alloc _)).trans0 (Mod.below Hb3.out)
                exact hA.trans HUr.out.mod (fun x hx hfo => by have := Hft.out x hfo; have h2 := Hm1.out.size; rw [size1] at this; omega)
set_option maxHeartbeats 4000000 in
theorem graceNone_mod (a0 a1 : Int) (w : World) :
    Calls Tryd.prog 9 #[.int .i64 a0, .int .i64 a1] w fun e w' => e = .returned (.bool true) ∧ Mod noF w w' := by
  by_cases c0 : a0 < 1
  · have d0 : decide (a0 < 1) = true := by simpa using c0
    go_enter Tryd.func9, Tryd.ntmps9
    go_wp2_with fail
    refine (flavoured_any w).mono ?_
    rintro e w1 ⟨rfl, hm1⟩
    have Hm1 := Lib.hid hm1
    clear hm1
    go_wp2
    go_ret
    exact ⟨rfl, Hm1.out⟩
  have d0 : decide (a0 < 1) = false := by simpa using c0
  by_cases c1 : 4 < a0
  · have d1 : decide (4 < a0) = true := by simpa using c1
    go_enter Tryd.func9, Tryd.ntmps9
    go_wp2_with fail
    refine (flavoured_any w).mono ?_
    rintro e w1 ⟨rfl, hm1⟩
    have Hm1 := Lib.hid hm1
    clear hm1
    go_wp2
    go_ret
    exact ⟨rfl, Hm1.out⟩
  have d1 : decide (4 < a0) = false := by simpa using c1
  by_cases c2 : a1 < 1
  · have d2 : decide (a1 < 1) = true := by simpa using c2
    go_enter Tryd.func9, Tryd.ntmps9
    go_wp2_with fail
    refine (flavoured_any w).mono ?_
    rintro e w1 ⟨rfl, hm1⟩
    have Hm1 := Lib.hid hm1
    clear hm1
    go_wp2
    go_ret
    exact ⟨rfl, Hm1.out⟩
  have d2 : decide (a1 < 1) = false := by simpa using c2
  by_cases c3 : 5 < a1
  · have d3 : decide (5 < a1) = true := by simpa using c3
    go_enter Tryd.func9, Tryd.ntmps9
    go_wp2_with fail
    refine (flavoured_any w).mono ?_
    rintro e w1 ⟨rfl, hm1⟩
    have Hm1 := Lib.hid hm1
    clear hm1
    go_wp2
    go_ret
    exact ⟨rfl, Hm1.out⟩
  have d3 : decide (5 < a1) = false := by simpa using c3
  obtain ⟨f, rfl⟩ := Int.eq_ofNat_of_zero_le (show 0 ≤ a0 by omega)
  obtain ⟨r, rfl⟩ := Int.eq_ofNat_of_zero_le (show 0 ≤ a1 by omega)
  exact graceNone_in (by omega) (by omega) (by omega) (by omega) w
theorem graceNone_any (a0 a1 : Int) (w : World) (_ : (Lit.int .i64 a0).wf = true) (_ : (Lit.int .i64 a1).wf = true) :
    Calls Tryd.prog 9 #[.int .i64 a0, .int .i64 a1] w fun e w' => e = .returned (.bool true) ∧ Below w.heap.size w w' :=
  (graceNone_mod a0 a1 w).mono fun _ _ h => ⟨h.1, h.2.toBelow⟩
end Go.Proofs.YtamfbfajlfbooaaDoor
