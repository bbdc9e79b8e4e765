/- GraceEnds, walked. -/
import Derived.Test.YtamfbfajlfbooaaDoorECastLaw
import Derived.Test.YtamfbfajlfbooaaDoorEPlayedW
import Derived.Test.YtamfbfajlfbooaaDoorEm6
import Derived.Test.YtamfbfajlfbooaaDoorEm7
import Derived.Test.YtamfbfajlfbooaaDoorEm3
import Derived.Test.YtamfbfajlfbooaaDoorEEnds
import Derived.LoopTactic
set_option linter.unusedVariables false
set_option linter.unusedSimpArgs false
set_option linter.unusedSectionVars false
namespace Go.Proofs.YtamfbfajlfbooaaDoor
open Go.RowKit Qs Qh
theorem countL_eq (m : M) : countL m.cells = m.count := rfl
theorem casts_tiny {l : List RCast} (F : CastsFine l) (h : ∀ x ∈ l, x.times ≤ 2 ∧ x.reads ≤ 2) : ∀ x ∈ l.map castOf, x.t ≤ 2 ∧ x.r ≤ 2 := by
  intro x hx
  obtain ⟨y, hy, rfl⟩ := List.mem_map.1 hx
  have := F.x y hy
  have := h y hy
  unfold castOf
  simp only
  omega
theorem tiny_easy {f : Nat} {l : List Cst} (h1 : 1 ≤ f) (h4 : f ≤ 4) (hl : ∀ x ∈ l, x.t ≤ 2 ∧ x.r ≤ 2) : Easy (playM f l) := by
  intro t x hx y hy
  obtain ⟨c, hc, rfl⟩ := startM_T' hx
  obtain ⟨z, hz, rfl⟩ := List.mem_map.1 (List.mem_of_getElem? hc)
  exact (small_fine h1 h4 (hl z hz).1 (hl z hz).2).2 y hy
set_option maxRecDepth 100000 in
set_option maxHeartbeats 16000000 in
theorem graceEnds_in {f : Nat} {z : List RCast} (hw0 : wrongB f z = false) (hz3 : z.length ≤ 3) (v : Value) (w : World) (R : RowsAt RCast.vals 4 w v z) :
    Calls Tryd.prog 8 #[.int .i64 f, v] w fun e w' => e = .returned (.bool true) ∧ Mod noF w w' := by
  obtain ⟨h1, h4, F⟩ := casts_fine hw0
  have h1 : 1 ≤ f := by omega
  have h4 : f ≤ 4 := by omega
  have hsm := casts_small F
  have hll : (z.map castOf).length = z.length := List.length_map ..
  have d3 : decide ((3 : Int) < (z.length : Int)) = false := by simp; omega
  obtain ⟨a, c, rfl, hlc, hcm, hn, hx⟩ := R
  have R : RowsAt RCast.vals 4 w (.slice a z.length c) z := ⟨a, c, rfl, hlc, hcm, hn, hx⟩
  clear hx hn hcm hlc
  have Hsm := Lib.hid hsm
  have HF := Lib.hid F
  have HR := Lib.hid R
  have Hw0 := Lib.hid hw0
  clear hsm F R hw0
  go_enter Tryd.func8, Tryd.ntmps8
  go_wp2_with fail
  refine (flavoured_any w).mono ?_
  rintro e w1 ⟨rfl, hm1⟩
  have R1 := Lib.hid (RowsAt.quiet HR.out hm1)
  have Hm1 := Lib.hid hm1
  clear hm1
  go_wp2_with fail
  refine (wrongCast_any f z w1 _ R1.out).mono ?_
  rintro e w2 ⟨rfl, hm2⟩
  have R2 := Lib.hid (RowsAt.quiet R1.out hm2)
  have Hm2 := Lib.hid hm2
  clear hm2
  rw [Hw0.out]
  go_wp2
  go_loopw [6] (fun i wr => ∃ k : Nat, k ≤ z.length ∧ i = .int .i64 k ∧ Mod noF w2 wr ∧ ∀ (j : Nat) x, j < k → z[j]? = some x → x.times ≤ 2 ∧ x.reads ≤ 2) (fun i _ => z.length - (intOf i).toNat)
  case atStart => exact ⟨0, Nat.zero_le _, rfl, Mod.refl _ _, fun j x h => absurd h (by omega)⟩
  case round =>
    obtain ⟨k, hk, rfl, hm, hall⟩ := hrel
    have Rr := RowsAt.quiet R2.out hm
    obtain ⟨a', c', e', _, _, _, hx⟩ := Rr
    cases e'
    have Hx := Lib.hid hx
    have Hm := Lib.hid hm
    have Hall := Lib.hid hall
    clear hall hm hx
    by_cases hlt : k < z.length
    · have hd : decide ((k : Int) < (z.length : Int)) = true := by simp; omega
      obtain ⟨x, hxk⟩ : ∃ x, z[k]? = some x := ⟨_, List.getElem?_eq_getElem hlt⟩
      obtain ⟨b, off, rfl, hbw, hcell⟩ := Hx.out k x hxk
      have q1 := hcell 1 _ rfl
      have q2 := hcell 2 _ rfl
      have hkl : (k : Int) < (z.length : Int) := by omega
      have hk0 : (0 : Int) ≤ (k : Int) := by omega
      have Hxk := Lib.hid hxk
      clear hcell hxk
      obtain ⟨xw, xt, xr, xn⟩ := x
      simp only at q1 q2
      by_cases e1 : 2 < xt
      · have f1 : decide (2 < xt) = true := by simpa using e1
        go_wp2
        go_ret
        exact ⟨rfl, (Hm1.out.trans0 Hm2.out).trans0 (by repeat (first | exact Hm.out | refine Mod.alloc ?_ _ | refine Mod.drew ?_))⟩
      have f1 : decide (2 < xt) = false := by simpa using e1
      by_cases e2 : 2 < xr
      · have f2 : decide (2 < xr) = true := by simpa using e2
        go_wp2
        go_ret
        exact ⟨rfl, (Hm1.out.trans0 Hm2.out).trans0 (by repeat (first | exact Hm.out | refine Mod.alloc ?_ _ | refine Mod.drew ?_))⟩
      have f2 : decide (2 < xr) = false := by simpa using e2
      go_wp2
      go_roundw
      case rel =>
        refine ⟨k + 1, by omega, by go_num, by repeat (first | exact Hm.out | refine Mod.alloc ?_ _ | refine Mod.drew ?_), fun j x hj hx => ?_⟩
        by_cases e : j = k
        · subst e; rw [Hxk.out] at hx; cases hx; exact ⟨by simp only; omega, by simp only; omega⟩
        · exact Hall.out j x (by omega) hx
      case measure => simp [intOf]; omega
    · have hd : decide ((k : Int) < (z.length : Int)) = false := by simp; omega
      have hti : ∀ x ∈ z, x.times ≤ 2 ∧ x.reads ≤ 2 := fun x hx => by
        obtain ⟨j, hj⟩ := List.getElem?_of_mem hx
        exact Hall.out j x (by have := (List.getElem?_eq_some_iff.1 hj).1; omega) hj
      have Htin := Lib.hid (casts_tiny HF.out hti)
      have HE := Lib.hid (tiny_easy h1 h4 Htin.out)
      have Hfine := Lib.hid (show ∀ x ∈ z.map castOf, CodeFine (castCode f true x) from fun x hx => (small_fine h1 h4 (Htin.out x hx).1 (Htin.out x hx).2).1)
      have R3 := Lib.hid (RowsAt.quiet R2.out Hm.out)
      clear hti Hall Hx
      go_wp2_with fail
      refine (played_ok (l := z.map castOf) h1 h4 (by rw [hll]; exact HF.out.l1) (by rw [hll]; exact HF.out.l4) Hsm.out true Hfine.out _ _ (castAt_of R3.out HF.out)).mono ?_
      rintro e w3 ⟨L, rfl, X, hb3, hft⟩
      have HX := Lib.hid (show Mach ty w3 L (playM f (z.map castOf)) 1 from X)
      have Hb3 := Lib.hid hb3
      have Hft := Lib.hid (fun j (hj : Foot ty allK L (playM f (z.map castOf)) j) => hft j hj)
      clear X hb3 hft
      have hlaw := ends_law h1 h4 (by rw [hll]; exact HF.out.l1) (by rw [hll]; exact hz3) Htin.out HX.out.om
      rw [hll] at hlaw
      have Hlaw := Lib.hid hlaw
      have Hm123 := Lib.hid ((Hm1.out.trans0 Hm2.out).trans0 Hm.out)
      clear hlaw
      go_wp2
      go_loopw [9] (fun i wr => ∃ q : Nat, q ≤ 20000 ∧ i = .int .i64 q ∧ ∃ Lr, MUp ty w3 L (playM f (z.map castOf)) wr Lr ((playM f (z.map castOf)).goes q 0) (1 + 48 * q)) (fun i _ => 20000 - (intOf i).toNat)
      case atStart => exact ⟨0, Nat.zero_le _, rfl, L, by simpa [M.goes] using MUp.quiet HX.out (Mod.refl _ _)⟩
      case round =>
        obtain ⟨q, hq, rfl, Lr, Ur⟩ := hrel
        have e0 := Ur.top.1
        have hE1 := HE.out.keep Ur
        have HUr := Lib.hid Ur
        have HE1 := Lib.hid hE1
        clear Ur hE1
        by_cases hlt2 : q < 20000
        · have hd2 : decide ((q : Int) < 20000) = true := by simp; omega
          have hcall := turn_any HUr.out.mach HE1.out (by omega) (q : Int) (by omega) (by omega)
          rw [e0] at hcall
          have Hcall := Lib.hid hcall
          have hsn := M.goes_snoc (playM f (z.map castOf)) q 0
          have Hsn := Lib.hid hsn
          clear hcall e0 hsn
          go_wp2_with fail
          refine Hcall.out.mono ?_
          rintro e w7 ⟨rfl, L7, U7⟩
          have HU7 := Lib.hid U7
          clear U7
          obtain ⟨zz, hzz⟩ : ∃ zz, (M.turn ((playM f (z.map castOf)).goes q 0) q).2 = zz := ⟨_, rfl⟩
          rw [hzz]
          clear hzz
          go_wp2
          go_roundw
          case rel =>
            refine ⟨q + 1, by omega, by go_num, L7, ?_⟩
            rw [Hsn.out]
            rw [show 1 + 48 * ((q + 1 : Nat) : Int) = 1 + 48 * (q : Int) + 48 from by omega, Nat.zero_add]
            exact HUr.out.trans HU7.out
          case measure => simp [intOf]; omega
        · obtain rfl : q = 20000 := by omega
          have hd2 : decide (((20000 : Nat) : Int) < 20000) = false := by decide
          have hse := Hlaw.out
          generalize (playM f (z.map castOf)).goes 20000 0 = mz at *
          obtain ⟨hs1, hs2, hs3⟩ := hse
          have hcall := rest_any HUr.out.mach
          rw [e0, hs1] at hcall
          have Hcall := Lib.hid hcall
          have Hs2 := Lib.hid hs2
          have Hs3 := Lib.hid hs3
          clear hcall hs1 hs2 hs3
          go_wp2_with fail
          refine Hcall.out.mono ?_
          rintro e w8 ⟨rfl, hm8⟩
          have X8 := HUr.out.mach.frame0 hm8
          obtain ⟨t0, t1, t2, t3, t4, t5⟩ := X8.top
          have hcnt := count_any X8.rep rfl rfl X8.om X8.ol
          rw [countL_eq, Hs3.out] at hcnt
          rw [e0] at t0 t1 t2 t3 t5
          rw [Hs2.out] at t3
          have Hcnt := Lib.hid hcnt
          have Hm8 := Lib.hid hm8
          clear X8 t4 hm8 hcnt
          go_wp2_with fail
          refine Hcnt.out.mono ?_
          rintro e w9 ⟨rfl, hm9⟩
          have Hm9 := Lib.hid hm9
          clear hm9
          go_wp2
          go_ret
          refine ⟨rfl, ?_⟩
          have hA := Hm123.out.trans0 (Mod.below Hb3.out)
          have hs := Hm123.out.size
          exact ((hA.trans HUr.out.mod (fun x hx hfo => by have := Hft.out x hfo; omega)).trans0 Hm8.out).trans0 Hm9.out
set_option maxHeartbeats 4000000 in
theorem graceEnds_mod (f : Int) (z : List RCast) (v : Value) (w : World) (R : RowsAt RCast.vals 4 w v z) :
    Calls Tryd.prog 8 #[.int .i64 f, v] w fun e w' => e = .returned (.bool true) ∧ Mod noF w w' := by
  obtain ⟨a, c, rfl, hlc, hcm, hn, hx⟩ := R
  have R : RowsAt RCast.vals 4 w (.slice a z.length c) z := ⟨a, c, rfl, hlc, hcm, hn, hx⟩
  clear hx hn hcm hlc
  cases hw0 : wrongB f z with
  | true =>
    have HR := Lib.hid R
    have Hw0 := Lib.hid hw0
    clear R hw0
    go_enter Tryd.func8, Tryd.ntmps8
    go_wp2_with fail
    refine (flavoured_any w).mono ?_
    rintro e w1 ⟨rfl, hm1⟩
    have R1 := Lib.hid (RowsAt.quiet HR.out hm1)
    have Hm1 := Lib.hid hm1
    clear hm1
    go_wp2_with fail
    refine (wrongCast_any f z w1 _ R1.out).mono ?_
    rintro e w2 ⟨rfl, hm2⟩
    have Hm2 := Lib.hid hm2
    clear hm2
    rw [Hw0.out]
    go_wp2
    go_ret
    exact ⟨rfl, Hm1.out.trans0 Hm2.out⟩
  | false =>
    by_cases c4 : 3 < (z.length : Int)
    · have d4 : decide (3 < (z.length : Int)) = true := by simpa using c4
      have HR := Lib.hid R
      have Hw0 := Lib.hid hw0
      clear R hw0
      go_enter Tryd.func8, Tryd.ntmps8
      go_wp2_with fail
      refine (flavoured_any w).mono ?_
      rintro e w1 ⟨rfl, hm1⟩
      have R1 := Lib.hid (RowsAt.quiet HR.out hm1)
      have Hm1 := Lib.hid hm1
      clear hm1
      go_wp2_with fail
      refine (wrongCast_any f z w1 _ R1.out).mono ?_
      rintro e w2 ⟨rfl, hm2⟩
      have Hm2 := Lib.hid hm2
      clear hm2
      rw [Hw0.out]
      go_wp2
      go_ret
      exact ⟨rfl, Hm1.out.trans0 Hm2.out⟩
    have hf := (casts_fine hw0).1
    obtain ⟨f, rfl⟩ := Int.eq_ofNat_of_zero_le (show 0 ≤ f by omega)
    exact graceEnds_in hw0 (by omega) _ w R
theorem graceEnds_any (a0 : Int) (a1 : Option Addr) (len1 cap1 : Nat) (z1 : List RCast) (w : World) (_ : (Lit.int .i64 a0).wf = true) (w1 : IsCast w a1 len1 cap1 z1) :
    Calls Tryd.prog 8 #[.int .i64 a0, .slice a1 len1 cap1] w fun e w' => e = .returned (.bool true) ∧ Below w.heap.size w w' :=
  (graceEnds_mod a0 z1 _ w w1.1).mono fun _ _ h => ⟨h.1, h.2.toBelow⟩
end Go.Proofs.YtamfbfajlfbooaaDoor
