/- GraceSafe, walked. -/
import Derived.Test.YtamfbfajlfbooaaDoorSGsafe
import Derived.Test.YtamfbfajlfbooaaDoorSPlayedW
import Derived.Test.YtamfbfajlfbooaaDoorSm7
import Derived.Test.YtamfbfajlfbooaaDoorSm8
import Derived.Test.YtamfbfajlfbooaaDoorSm3
import Derived.LoopTactic
set_option linter.unusedVariables false
set_option linter.unusedSimpArgs false
set_option linter.unusedSectionVars false
namespace Go.Proofs.YtamfbfajlfbooaaDoor
open Go.RowKit Qs Qh
theorem RowsAt.quiet {α : Type} {g : α → List Value} {n : Nat} {w w' : World} {v : Value} {l : List α} (R : RowsAt g n w v l) (h : Mod noF w w') : RowsAt g n w' v l := by
  obtain ⟨a, c, e, hlc, hcm, hn, hx⟩ := R
  refine ⟨a, c, e, hlc, hcm, hn, fun i x hi => ?_⟩
  obtain ⟨b, off, e, hb, hc⟩ := hx i x hi
  exact ⟨b, off, e, Nat.lt_of_lt_of_le hb h.size, fun j y hj => h.cell (hc j y hj) (fun e => e)⟩
set_option maxRecDepth 100000 in
set_option maxHeartbeats 16000000 in
theorem graceSafe_in {f : Nat} {z : List RCast} (hw0 : wrongB f z = false) (v vs : Value) (l : List Int) (w : World) (R : RowsAt RCast.vals 4 w v z) (hl : IntsAt w vs l) (hlen : l.length ≤ 3000) (hlw : ∀ x ∈ l, -9223372036854775808 ≤ x ∧ x ≤ 9223372036854775807) (hvb : l ≠ [] → ∀ b, vs.ownBlock = some b → b < w.heap.size) :
    Calls Tryd.prog 10 #[.int .i64 f, v, vs] w fun e w' => e = .returned (.bool true) ∧ Mod noF w w' := by
  obtain ⟨h1, h4, F⟩ := casts_fine hw0
  have h1 : 1 ≤ f := by omega
  have h4 : f ≤ 4 := by omega
  obtain ⟨la, lc, rfl, _⟩ := hl.at_
  have d4 : decide ((3000 : Int) < (l.length : Int)) = false := by simp; omega
  have hsm := casts_small F
  have hll : (z.map castOf).length = z.length := List.length_map ..
  have hsafe := play_safe h1 h4 (by rw [hll]; exact F.l1) (by rw [hll]; exact F.l4) hsm l (by omega)
  have hE := play_easy h1 h4 hsm
  have hfine : ∀ x ∈ z.map castOf, CodeFine (castCode f true x) := fun x hx => (play_ok h1 h4 hsm x hx).fine
  have Hsafe := Lib.hid hsafe
  have HE := Lib.hid hE
  have Hfine := Lib.hid hfine
  have Hsm := Lib.hid hsm
  have HF := Lib.hid F
  have HR := Lib.hid R
  have Hl := Lib.hid hl
  have Hlw := Lib.hid hlw
  have Hvb := Lib.hid hvb
  have Hw0 := Lib.hid hw0
  clear hsafe hE hfine hsm F R hl hlw hvb hw0
  go_enter Tryd.func10, Tryd.ntmps10
  go_wp2_with fail
  refine (flavoured_any w).mono ?_
  rintro e w1 ⟨rfl, hm1⟩
  have R1 := Lib.hid (RowsAt.quiet HR.out hm1)
  have Hm1 := Lib.hid hm1
  clear hm1
  go_wp2_with fail
  refine (wrongCast_any f z w1 v R1.out).mono ?_
  rintro e w2 ⟨rfl, hm2⟩
  have R2 := Lib.hid (RowsAt.quiet R1.out hm2)
  have Hm2 := Lib.hid hm2
  clear hm2
  rw [Hw0.out]
  go_wp2_with fail
  refine (played_ok (l := z.map castOf) h1 h4 (by rw [hll]; exact HF.out.l1) (by rw [hll]; exact HF.out.l4) Hsm.out true Hfine.out _ _ (castAt_of R2.out HF.out)).mono ?_
  rintro e w3 ⟨L, rfl, X, hb3, hft⟩
  have HX := Lib.hid (show Mach ty w3 L (playM f (z.map castOf)) 1 from X)
  have Hb3 := Lib.hid hb3
  have Hft := Lib.hid (fun j (hj : Foot ty allK L (playM f (z.map castOf)) j) => hft j hj)
  clear X hb3 hft
  have hm12 := Hm1.out.trans0 Hm2.out
  have hl3 := Hl.out.frame0 (hm12.trans0 (Mod.below Hb3.out))
  have hsz := hm12.size
  have hcall := run_any HX.out HE.out (by omega) _ l hl3 (by omega) Hlw.out (fun hne b hb hfo => by have := Hft.out b hfo; have := Hvb.out hne b hb; omega)
  have hss := Hsafe.out
  obtain ⟨mz, hmz⟩ : ∃ mz, (playM f (z.map castOf)).run l = mz := ⟨_, rfl⟩
  rw [hmz] at hcall hss
  obtain ⟨m1, d1⟩ := mz
  have Hcall := Lib.hid hcall
  have Hs1 := Lib.hid hss
  have Hm12 := Lib.hid hm12
  clear hl3 hsz hcall hss hmz hm12
  go_wp2_with fail
  refine Hcall.out.mono ?_
  rintro e w7 ⟨rfl, L7, U7⟩
  have e0 := U7.top.1
  obtain ⟨t0, t1, t2, t3, t4, t5⟩ := U7.mach.top
  rw [e0] at t0 t1 t2 t3 t5
  have hs1 : m1.faults = 0 := Hs1.out
  rw [hs1] at t3
  have hs := Hm12.out.size
  have hA := Hm12.out.trans0 (Mod.below Hb3.out)
  have hfin := hA.trans U7.mod (fun x hx hfo => by have := Hft.out x hfo; omega)
  have Hfin := Lib.hid hfin
  clear U7 hfin hA hs hs1 t4
  go_wp2
  go_ret
  exact ⟨rfl, Hfin.out⟩
set_option maxHeartbeats 4000000 in
theorem graceSafe_mod (f : Int) (z : List RCast) (v vs : Value) (l : List Int) (w : World) (R : RowsAt RCast.vals 4 w v z) (hl : IntsAt w vs l) (hlw : ∀ x ∈ l, -9223372036854775808 ≤ x ∧ x ≤ 9223372036854775807) (hvb : l ≠ [] → ∀ b, vs.ownBlock = some b → b < w.heap.size) :
    Calls Tryd.prog 10 #[.int .i64 f, v, vs] w fun e w' => e = .returned (.bool true) ∧ Mod noF w w' := by
  obtain ⟨la, lc, rfl, hlm⟩ := hl.at_
  have hlm := hlm.1
  cases hw0 : wrongB f z with
  | true =>
    have HR := Lib.hid R
    have Hw0 := Lib.hid hw0
    clear R hw0
    go_enter Tryd.func10, Tryd.ntmps10
    go_wp2_with fail
    refine (flavoured_any w).mono ?_
    rintro e w1 ⟨rfl, hm1⟩
    have R1 := Lib.hid (RowsAt.quiet HR.out hm1)
    have Hm1 := Lib.hid hm1
    clear hm1
    go_wp2_with fail
    refine (wrongCast_any f z w1 v R1.out).mono ?_
    rintro e w2 ⟨rfl, hm2⟩
    have Hm2 := Lib.hid hm2
    clear hm2
    rw [Hw0.out]
    go_wp2
    go_ret
    exact ⟨rfl, Hm1.out.trans0 Hm2.out⟩
  | false =>
    by_cases c4 : 3000 < (l.length : Int)
    · have d4 : decide (3000 < (l.length : Int)) = true := by simpa using c4
      have HR := Lib.hid R
      have Hw0 := Lib.hid hw0
      clear R hw0
      go_enter Tryd.func10, Tryd.ntmps10
      go_wp2_with fail
      refine (flavoured_any w).mono ?_
      rintro e w1 ⟨rfl, hm1⟩
      have R1 := Lib.hid (RowsAt.quiet HR.out hm1)
      have Hm1 := Lib.hid hm1
      clear hm1
      go_wp2_with fail
      refine (wrongCast_any f z w1 v R1.out).mono ?_
      rintro e w2 ⟨rfl, hm2⟩
      have Hm2 := Lib.hid hm2
      clear hm2
      rw [Hw0.out]
      go_wp2
      go_ret
      exact ⟨rfl, Hm1.out.trans0 Hm2.out⟩
    · have hf := (casts_fine hw0).1
      obtain ⟨f, rfl⟩ := Int.eq_ofNat_of_zero_le (show 0 ≤ f by omega)
      exact graceSafe_in hw0 v _ l w R hl (by omega) hlw hvb
theorem graceSafe_any (a0 : Int) (a1 : Option Addr) (len1 cap1 : Nat) (z1 : List RCast) (a2 : Option Addr) (len2 cap2 : Nat) (z2 : List Int) (w : World) (_ : (Lit.int .i64 a0).wf = true) (w1 : IsCast w a1 len1 cap1 z1) (w2 : IsRow .i64 w a2 len2 cap2 z2) :
    Calls Tryd.prog 10 #[.int .i64 a0, .slice a1 len1 cap1, .slice a2 len2 cap2] w fun e w' => e = .returned (.bool true) ∧ Below w.heap.size w w' := by
  obtain ⟨l, hl, hlw, hvb⟩ := w2.ints
  exact (graceSafe_mod a0 z1 _ _ l w w1.1 hl hlw hvb).mono fun _ _ h => ⟨h.1, h.2.toBelow⟩
end Go.Proofs.YtamfbfajlfbooaaDoor
