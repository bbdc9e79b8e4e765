/- GraceBursts, walked. -/
import Derived.Test.YtamfbfajlfbooaaDoorSGraceSafeW
set_option linter.unusedVariables false
set_option linter.unusedSimpArgs false
set_option linter.unusedSectionVars false
namespace Go.Proofs.YtamfbfajlfbooaaDoor
open Go.RowKit Qs Qh
set_option maxRecDepth 100000 in
set_option maxHeartbeats 16000000 in
theorem graceBursts_in {f : Nat} {z : List RCast} (hw0 : wrongB f z = false) (v vs vl : Value) (l k0 : List Int) (w : World) (R : RowsAt RCast.vals 4 w v z) (hl : IntsAt w vs l) (hlen : l.length ≤ 200) (hlw : ∀ x ∈ l, -9223372036854775808 ≤ x ∧ x ≤ 9223372036854775807) (hvb : l ≠ [] → ∀ b, vs.ownBlock = some b → b < w.heap.size)
    (hk : IntsAt w vl k0) (hklen : k0.length ≤ 200) (hkw : ∀ x ∈ k0, -9223372036854775808 ≤ x ∧ x ≤ 9223372036854775807) (hkb : k0 ≠ [] → ∀ b, vl.ownBlock = some b → b < w.heap.size) :
    Calls Tryd.prog 7 #[.int .i64 f, v, vs, vl] w fun e w' => e = .returned (.bool true) ∧ Mod noF w w' := by
  obtain ⟨h1, h4, F⟩ := casts_fine hw0
  have h1 : 1 ≤ f := by omega
  have h4 : f ≤ 4 := by omega
  obtain ⟨la, lc, rfl, _⟩ := hl.at_
  obtain ⟨ka, kc, rfl, _⟩ := hk.at_
  have d4 : decide ((200 : Int) < (l.length : Int)) = false := by simp; omega
  have d5 : decide ((200 : Int) < (k0.length : Int)) = false := by simp; omega
  have hsm := casts_small F
  have hll : (z.map castOf).length = z.length := List.length_map ..
  have hE := play_easy h1 h4 hsm
  have hfine : ∀ x ∈ z.map castOf, CodeFine (castCode f true x) := fun x hx => (play_ok h1 h4 hsm x hx).fine
  have hst := Fine.start h1 h4 (by rw [hll]; exact F.l1) (by rw [hll]; exact F.l4) hsm
  have hl1 : 1 ≤ (z.map castOf).length := by rw [hll]; exact F.l1
  have Hst := Lib.hid hst
  have Hl1 := Lib.hid hl1
  have HE := Lib.hid hE
  have Hfine := Lib.hid hfine
  have Hsm := Lib.hid hsm
  have HF := Lib.hid F
  have HR := Lib.hid R
  have Hl := Lib.hid hl
  have Hlw := Lib.hid hlw
  have Hvb := Lib.hid hvb
  have Hk := Lib.hid hk
  have Hkw := Lib.hid hkw
  have Hkb := Lib.hid hkb
  have Hw0 := Lib.hid hw0
  clear hst hl1 hE hfine hsm F R hl hlw hvb hw0 hk hkw hkb
  go_enter Tryd.func7, Tryd.ntmps7
  go_wp2_with fail
  refine (flavoured_any w).mono ?_
  rintro e w1 ⟨rfl, hm1⟩
  have R1 := Lib.hid (RowsAt.quiet HR.out hm1)
  have Hm1 := Lib.hid hm1
  clear hm1
  go_wp2_with fail
  refine (wrongCast_any f z w1 v R1.out).mono ?_
  rintro e w2 ⟨rfl, hm2⟩
  have R2 := Lib.hid (RowsAt.quiet R1.out hm2)
  have Hm2 := Lib.hid hm2
  clear hm2
  rw [Hw0.out]
  go_wp2_with fail
  refine (played_ok (l := z.map castOf) h1 h4 (by rw [hll]; exact HF.out.l1) (by rw [hll]; exact HF.out.l4) Hsm.out true Hfine.out _ _ (castAt_of R2.out HF.out)).mono ?_
  rintro e w3 ⟨L, rfl, X, hb3, hft⟩
  have HX := Lib.hid (show Mach ty w3 L (playM f (z.map castOf)) 1 from X)
  have Hb3 := Lib.hid hb3
  have Hft := Lib.hid (fun j (hj : Foot ty allK L (playM f (z.map castOf)) j) => hft j hj)
  clear X hb3 hft
  have hm12 := Hm1.out.trans0 Hm2.out
  have hsz := hm12.size
  have Hl3 := Lib.hid (Hl.out.frame0 (hm12.trans0 (Mod.below Hb3.out)))
  have Hk3 := Lib.hid (Hk.out.frame0 (hm12.trans0 (Mod.below Hb3.out)))
  have Hlf := Lib.hid (fun (hne : l ≠ []) b hb (hfo : Foot ty allK L (playM f (z.map castOf)) b) => (by have := Hft.out b hfo; have := Hvb.out hne b hb; omega : False))
  have Hkf := Lib.hid (fun (hne : k0 ≠ []) b hb (hfo : Foot ty allK L (playM f (z.map castOf)) b) => (by have := Hft.out b hfo; have := Hkb.out hne b hb; omega : False))
  have Hm12 := Lib.hid hm12
  clear hm12 hsz
  go_wp2
  go_loopw [12, 13, 14] (fun st i _ wr => ∃ k s : Nat, k ≤ l.length ∧ i = .int .i64 k ∧ st = .int .i64 s ∧ s ≤ 4000 ∧ ∃ Lr mr, MUp ty w3 L (playM f (z.map castOf)) wr Lr mr (1 + 48 * s) ∧ Fine f (z.map castOf) s mr) (fun _ i _ _ => l.length - (intOf i).toNat)
  case atStart => exact ⟨0, 0, Nat.zero_le _, rfl, rfl, by omega, L, playM f (z.map castOf), by simpa using MUp.quiet HX.out (Mod.refl _ _), Hst.out⟩
  case round =>
    obtain ⟨k, s, hk, rfl, rfl, hs4, Lr, mr, Ur, Fr⟩ := hrel
    have HUr := Lib.hid Ur
    have HFr := Lib.hid Fr
    clear Ur Fr
    by_cases hlt : k < l.length
    · have hd : decide ((k : Int) < (l.length : Int)) = true := by simp; omega
      by_cases hlt2 : k < k0.length
      · have hd2 : decide ((k : Int) < (k0.length : Int)) = true := by simp; omega
        obtain ⟨x, hx⟩ : ∃ x, l[k]? = some x := ⟨_, List.getElem?_eq_getElem hlt⟩
        obtain ⟨y, hy⟩ : ∃ y, k0[k]? = some y := ⟨_, List.getElem?_eq_getElem hlt2⟩
        obtain ⟨hw0, hw1⟩ := Hlw.out x (List.mem_of_getElem? hx)
        obtain ⟨hy0, hy1⟩ := Hkw.out y (List.mem_of_getElem? hy)
        have Hx := Lib.hid hx
        have Hy := Lib.hid hy
        clear hx hy
        go_wp2
        go_loopw [12, 14] (fun st j wr => ∃ q s : Nat, q ≤ 200 ∧ j = .int .i64 q ∧ st = .int .i64 s ∧ s ≤ 4000 ∧ ∃ Lr mr, MUp ty w3 L (playM f (z.map castOf)) wr Lr mr (1 + 48 * s) ∧ Fine f (z.map castOf) s mr) (fun _ j _ => 200 - (intOf j).toNat)
        case atStart => exact ⟨0, s, Nat.zero_le _, rfl, rfl, hs4, Lr, mr, HUr.out, HFr.out⟩
        case round =>
          clear HUr HFr
          obtain ⟨q, s, hq, rfl, rfl, hs4, Lr, mr, Ur, Fr⟩ := hrel
          have e0 := Ur.top.1
          have hE1 := HE.out.keep Ur
          have hIl := frame1 Hl3.out Ur.mod Hlf.out
          have hIk := frame1 Hk3.out Ur.mod Hkf.out
          obtain ⟨a', c', e', _, hcl⟩ := hIl.at_
          cases e'
          obtain ⟨a', c', e', _, hck⟩ := hIk.at_
          cases e'
          obtain ⟨b, off, rfl, hb, hc⟩ := hcl k x Hx.out
          obtain ⟨b2, off2, rfl, hb2, hc2⟩ := hck k y Hy.out
          have hkl : (k : Int) < (l.length : Int) := by omega
          have hkk : (k : Int) < (k0.length : Int) := by omega
          have hkn : (0 : Int) ≤ (k : Int) := by omega
          have HUr := Lib.hid Ur
          have HFr := Lib.hid Fr
          have HE1 := Lib.hid hE1
          clear Ur Fr hIl hIk hcl hck hE1
          by_cases c1 : (q : Int) < y
          · have e1 : decide ((q : Int) < y) = true := by simpa using c1
            by_cases c2 : q < 200
            · have e2 : decide ((q : Int) < 200) = true := by simp; omega
              by_cases c3 : s < 4000
              · have e3 : decide ((s : Int) < 4000) = true := by simp; omega
                have hcall := turn_any HUr.out.mach HE1.out (by omega) x hw0 hw1
                rw [e0] at hcall
                have Hcall := Lib.hid hcall
                clear hcall e0
                go_wp2_with fail
                refine Hcall.out.mono ?_
                rintro e w7 ⟨rfl, L7, U7⟩
                have HU7 := Lib.hid U7
                clear U7
                obtain ⟨zz, hzz⟩ : ∃ zz, (M.turn mr x).2 = zz := ⟨_, rfl⟩
                rw [hzz]
                clear hzz
                go_wp2
                go_roundw
                case rel =>
                  refine ⟨q + 1, s + 1, by omega, by go_num, by go_num, by omega, L7, (mr.turn x).1, ?_, HFr.out.turn Hl1.out Hsm.out (by omega) x⟩
                  rw [show 1 + 48 * ((s + 1 : Nat) : Int) = 1 + 48 * (s : Int) + 48 from by omega]
                  exact HUr.out.trans HU7.out
                case measure => simp [intOf]; omega
              · have e3 : decide ((s : Int) < 4000) = false := by simp; omega
                go_wp2
                go_roundw
                case rel => exact ⟨k + 1, s, by omega, by go_num, rfl, hs4, Lr, mr, HUr.out, HFr.out⟩
                case measure => simp [intOf]; omega
            · have e2 : decide ((q : Int) < 200) = false := by simp; omega
              go_wp2
              go_roundw
              case rel => exact ⟨k + 1, s, by omega, by go_num, rfl, hs4, Lr, mr, HUr.out, HFr.out⟩
              case measure => simp [intOf]; omega
          · have e1 : decide ((q : Int) < y) = false := by simpa using c1
            go_wp2
            go_roundw
            case rel => exact ⟨k + 1, s, by omega, by go_num, rfl, hs4, Lr, mr, HUr.out, HFr.out⟩
            case measure => simp [intOf]; omega
      · have hd2 : decide ((k : Int) < (k0.length : Int)) = false := by simp; omega
        have hft0 := HFr.out.ft
        have e0 := HUr.out.top.1
        obtain ⟨t0, t1, t2, t3, t4, t5⟩ := HUr.out.mach.top
        rw [e0] at t0 t1 t2 t3 t5
        rw [hft0] at t3
        have hs := Hm12.out.size
        have hfin := (Hm12.out.trans0 (Mod.below Hb3.out)).trans HUr.out.mod (fun x hx hfo => by have := Hft.out x hfo; omega)
        have Hfin := Lib.hid hfin
        clear hfin hs hft0 t4
        go_wp2
        go_ret
        exact ⟨rfl, Hfin.out⟩
    · have hd : decide ((k : Int) < (l.length : Int)) = false := by simp; omega
      have hft0 := HFr.out.ft
      have e0 := HUr.out.top.1
      obtain ⟨t0, t1, t2, t3, t4, t5⟩ := HUr.out.mach.top
      rw [e0] at t0 t1 t2 t3 t5
      rw [hft0] at t3
      have hs := Hm12.out.size
      have hfin := (Hm12.out.trans0 (Mod.below Hb3.out)).trans HUr.out.mod (fun x hx hfo => by have := Hft.out x hfo; omega)
      have Hfin := Lib.hid hfin
      clear hfin hs hft0 t4
      go_wp2
      go_ret
      exact ⟨rfl, Hfin.out⟩
set_option maxHeartbeats 4000000 in
theorem graceBursts_mod (f : Int) (z : List RCast) (v vs vl : Value) (l k0 : List Int) (w : World) (R : RowsAt RCast.vals 4 w v z) (hl : IntsAt w vs l) (hlw : ∀ x ∈ l, -9223372036854775808 ≤ x ∧ x ≤ 9223372036854775807) (hvb : l ≠ [] → ∀ b, vs.ownBlock = some b → b < w.heap.size)
    (hk : IntsAt w vl k0) (hkw : ∀ x ∈ k0, -9223372036854775808 ≤ x ∧ x ≤ 9223372036854775807) (hkb : k0 ≠ [] → ∀ b, vl.ownBlock = some b → b < w.heap.size) :
    Calls Tryd.prog 7 #[.int .i64 f, v, vs, vl] w fun e w' => e = .returned (.bool true) ∧ Mod noF w w' := by
  obtain ⟨la, lc, rfl, hlm⟩ := hl.at_
  obtain ⟨ka, kc, rfl, hkm⟩ := hk.at_
  have hlm := hlm.1
  have hkm := hkm.1
  cases hw0 : wrongB f z with
  | true =>
    have HR := Lib.hid R
    have Hw0 := Lib.hid hw0
    clear R hw0
    go_enter Tryd.func7, Tryd.ntmps7
    go_wp2_with fail
    refine (flavoured_any w).mono ?_
    rintro e w1 ⟨rfl, hm1⟩
    have R1 := Lib.hid (RowsAt.quiet HR.out hm1)
    have Hm1 := Lib.hid hm1
    clear hm1
    go_wp2_with fail
    refine (wrongCast_any f z w1 v R1.out).mono ?_
    rintro e w2 ⟨rfl, hm2⟩
    have Hm2 := Lib.hid hm2
    clear hm2
    rw [Hw0.out]
    go_wp2
    go_ret
    exact ⟨rfl, Hm1.out.trans0 Hm2.out⟩
  | false =>
    by_cases c4 : 200 < (l.length : Int)
    · have d4 : decide (200 < (l.length : Int)) = true := by simpa using c4
      have HR := Lib.hid R
      have Hw0 := Lib.hid hw0
      clear R hw0
      go_enter Tryd.func7, Tryd.ntmps7
      go_wp2_with fail
      refine (flavoured_any w).mono ?_
      rintro e w1 ⟨rfl, hm1⟩
      have R1 := Lib.hid (RowsAt.quiet HR.out hm1)
      have Hm1 := Lib.hid hm1
      clear hm1
      go_wp2_with fail
      refine (wrongCast_any f z w1 v R1.out).mono ?_
      rintro e w2 ⟨rfl, hm2⟩
      have Hm2 := Lib.hid hm2
      clear hm2
      rw [Hw0.out]
      go_wp2
      go_ret
      exact ⟨rfl, Hm1.out.trans0 Hm2.out⟩
    have d4 : decide (200 < (l.length : Int)) = false := by simpa using c4
    by_cases c5 : 200 < (k0.length : Int)
    · have d5 : decide (200 < (k0.length : Int)) = true := by simpa using c5
      have HR := Lib.hid R
      have Hw0 := Lib.hid hw0
      clear R hw0
      go_enter Tryd.func7, Tryd.ntmps7
      go_wp2_with fail
      refine (flavoured_any w).mono ?_
      rintro e w1 ⟨rfl, hm1⟩
      have R1 := Lib.hid (RowsAt.quiet HR.out hm1)
      have Hm1 := Lib.hid hm1
      clear hm1
      go_wp2_with fail
      refine (wrongCast_any f z w1 v R1.out).mono ?_
      rintro e w2 ⟨rfl, hm2⟩
      have Hm2 := Lib.hid hm2
      clear hm2
      rw [Hw0.out]
      go_wp2
      go_ret
      exact ⟨rfl, Hm1.out.trans0 Hm2.out⟩
    have hf := (casts_fine hw0).1
    obtain ⟨f, rfl⟩ := Int.eq_ofNat_of_zero_le (show 0 ≤ f by omega)
    exact graceBursts_in hw0 v _ _ l k0 w R hl (by omega) hlw hvb hk (by omega) hkw hkb
theorem graceBursts_any (a0 : Int) (a1 : Option Addr) (len1 cap1 : Nat) (z1 : List RCast) (a2 : Option Addr) (len2 cap2 : Nat) (z2 : List Int) (a3 : Option Addr) (len3 cap3 : Nat) (z3 : List Int) (w : World) (_ : (Lit.int .i64 a0).wf = true) (w1 : IsCast w a1 len1 cap1 z1) (w2 : IsRow .i64 w a2 len2 cap2 z2) (w3 : IsRow .i64 w a3 len3 cap3 z3) :
    Calls Tryd.prog 7 #[.int .i64 a0, .slice a1 len1 cap1, .slice a2 len2 cap2, .slice a3 len3 cap3] w fun e w' => e = .returned (.bool true) ∧ Below w.heap.size w w' := by
  obtain ⟨l, hl, hlw, hvb⟩ := w2.ints
  obtain ⟨k, hk, hkw, hkb⟩ := w3.ints
  exact (graceBursts_mod a0 z1 _ _ _ l k w w1.1 hl hlw hvb hk hkw hkb).mono fun _ _ h => ⟨h.1, h.2.toBelow⟩
end Go.Proofs.YtamfbfajlfbooaaDoor
