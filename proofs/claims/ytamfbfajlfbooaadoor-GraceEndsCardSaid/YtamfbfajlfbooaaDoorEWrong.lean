/- wrongCast: is a cast none? -/
import Derived.Test.YtamfbfajlfbooaaDoorECastRow
import Derived.LoopTactic
import Derived.Lib.Hide
import Derived.Deep.RegionHeld3
set_option linter.unusedVariables false
set_option linter.unusedSimpArgs false
set_option linter.unusedSectionVars false
namespace Go.Proofs.YtamfbfajlfbooaaDoor
open Go.RowKit Qh
def badC (c : RCast) : Bool := decide (c.times < 0) || decide (3 < c.times) || decide (c.reads < 0) || decide (5 < c.reads)
def wrongB (f : Int) (l : List RCast) : Bool := decide (f < 1) || decide (4 < f) || decide (l.length < 1) || decide (4 < l.length) || l.any badC
theorem wrong_head {f : Int} {l : List RCast} (h : f < 1 ∨ 4 < f ∨ l.length < 1 ∨ 4 < l.length) : wrongB f l = true := by
  unfold wrongB
  rcases h with h | h | h | h <;> simp [h]
theorem wrong_tail {f : Int} {l : List RCast} (h1 : ¬ f < 1) (h2 : ¬ 4 < f) (h3 : ¬ l.length < 1) (h4 : ¬ 4 < l.length) : wrongB f l = l.any badC := by
  unfold wrongB
  simp [h1, h2, h3, h4]
set_option maxHeartbeats 4000000 in
theorem wrongCast_any (f : Int) (l : List RCast) (w : World) (v : Value) (R : RowsAt RCast.vals 4 w v l) :
    Calls Tryd.prog 41 #[.int .i64 f, v] w fun e w' => e = .returned (.bool (wrongB f l)) ∧ Mod noF w w' := by
  obtain ⟨a, c, rfl, hlc, hcm, hn, hx⟩ := R
  have Hx := Lib.hid hx
  clear hx hn hcm hlc
  by_cases c0 : f < 1
  · have d0 : decide (f < 1) = true := by simpa using c0
    have hb := wrong_head (f := f) (l := l) (.inl c0)
    rw [hb]
    go_enter Tryd.func41, Tryd.ntmps41
    go_wp2
    go_ret
    exact ⟨rfl, Mod.refl _ _⟩
  have d0 : decide (f < 1) = false := by simpa using c0
  by_cases c1 : 4 < f
  · have d1 : decide (4 < f) = true := by simpa using c1
    have hb := wrong_head (f := f) (l := l) (.inr (.inl c1))
    rw [hb]
    go_enter Tryd.func41, Tryd.ntmps41
    go_wp2
    go_ret
    exact ⟨rfl, Mod.refl _ _⟩
  have d1 : decide (4 < f) = false := by simpa using c1
  by_cases c2 : l.length < 1
  · have d2 : decide ((l.length : Int) < 1) = true := by simp; omega
    have hb := wrong_head (f := f) (l := l) (.inr (.inr (.inl c2)))
    rw [hb]
    go_enter Tryd.func41, Tryd.ntmps41
    go_wp2
    go_ret
    exact ⟨rfl, Mod.refl _ _⟩
  have d2 : decide ((l.length : Int) < 1) = false := by simp; omega
  by_cases c3 : 4 < l.length
  · have d3 : decide ((4 : Int) < (l.length : Int)) = true := by simp; omega
    have hb := wrong_head (f := f) (l := l) (.inr (.inr (.inr c3)))
    rw [hb]
    go_enter Tryd.func41, Tryd.ntmps41
    go_wp2
    go_ret
    exact ⟨rfl, Mod.refl _ _⟩
  have d3 : decide ((4 : Int) < (l.length : Int)) = false := by simp; omega
  rw [wrong_tail c0 c1 c2 c3]
  go_enter Tryd.func41, Tryd.ntmps41
  go_wp2
  go_loopw [5, 6] (fun i _ wr => ∃ k : Nat, k ≤ l.length ∧ i = .int .i64 k ∧ Mod noF w wr ∧ ∀ (j : Nat) x, j < k → l[j]? = some x → badC x = false) (fun i _ _ => l.length - (intOf i).toNat)
  case atStart => exact ⟨0, Nat.zero_le _, rfl, Mod.refl _ _, fun j x h => absurd h (by omega)⟩
  case round =>
    obtain ⟨k, hk, rfl, hm, hall⟩ := hrel
    have Hm := Lib.hid hm
    have Hall := Lib.hid hall
    clear hall hm
    by_cases hlt : k < l.length
    · have hd : decide ((k : Int) < (l.length : Int)) = true := by simp; omega
      obtain ⟨x, hxk⟩ : ∃ x, l[k]? = some x := ⟨_, List.getElem?_eq_getElem hlt⟩
      obtain ⟨b, off, rfl, hbw, hcell⟩ := Hx.out k x hxk
      have q0 := Hm.out.cell (hcell 0 _ rfl) (fun e => e)
      have q1 := Hm.out.cell (hcell 1 _ rfl) (fun e => e)
      have q2 := Hm.out.cell (hcell 2 _ rfl) (fun e => e)
      have q3 := Hm.out.cell (hcell 3 _ rfl) (fun e => e)
      simp only [Nat.add_zero] at q0
      have hkl : (k : Int) < (l.length : Int) := by omega
      have hk0 : (0 : Int) ≤ (k : Int) := by omega
      have Hxk := Lib.hid hxk
      clear hcell hxk
      obtain ⟨xw, xt, xr, xn⟩ := x
      simp only at q0 q1 q2 q3
      cases hb : badC ⟨xw, xt, xr, xn⟩ with
      | true =>
        have hany : l.any badC = true := List.any_eq_true.2 ⟨_, List.mem_of_getElem? Hxk.out, hb⟩
        have Hany := Lib.hid hany
        clear hany
        unfold badC at hb
        by_cases e0 : xt < 0
        · have f0 : decide (xt < 0) = true := by simpa using e0
          go_wp2
          go_ret
          exact ⟨(by rw [Hany.out]; rfl), by repeat (first | exact Hm.out | refine Mod.alloc ?_ _ | refine Mod.drew ?_)⟩
        have f0 : decide (xt < 0) = false := by simpa using e0
        by_cases e1 : 3 < xt
        · have f1 : decide (3 < xt) = true := by simpa using e1
          go_wp2
          go_ret
          exact ⟨(by rw [Hany.out]; rfl), by repeat (first | exact Hm.out | refine Mod.alloc ?_ _ | refine Mod.drew ?_)⟩
        have f1 : decide (3 < xt) = false := by simpa using e1
        by_cases e2 : xr < 0
        · have f2 : decide (xr < 0) = true := by simpa using e2
          go_wp2
          go_ret
          exact ⟨(by rw [Hany.out]; rfl), by repeat (first | exact Hm.out | refine Mod.alloc ?_ _ | refine Mod.drew ?_)⟩
        have f2 : decide (xr < 0) = false := by simpa using e2
        have f3 : decide (5 < xr) = true := by simp [f0, f1, f2] at hb; simpa using hb
        go_wp2
        go_ret
        exact ⟨(by rw [Hany.out]; rfl), by repeat (first | exact Hm.out | refine Mod.alloc ?_ _ | refine Mod.drew ?_)⟩
      | false =>
        have hb2 := hb
        simp only [badC, Bool.or_eq_false_iff] at hb
        obtain ⟨⟨⟨f0, f1⟩, f2⟩, f3⟩ := hb
        have Hb2 := Lib.hid hb2
        clear hb2
        go_wp2
        go_roundw
        case rel =>
          refine ⟨k + 1, by omega, by go_num, by repeat (first | exact Hm.out | refine Mod.alloc ?_ _ | refine Mod.drew ?_), fun j x hj hx => ?_⟩
          by_cases e : j = k
          · subst e; rw [Hxk.out] at hx; cases hx; exact Hb2.out
          · exact Hall.out j x (by omega) hx
        case measure => simp [intOf]; omega
    · have hd : decide ((k : Int) < (l.length : Int)) = false := by simp; omega
      have hany : l.any badC = false := by
        rw [List.any_eq_false]
        intro x hx
        obtain ⟨j, hj⟩ := List.getElem?_of_mem hx
        have := Hall.out j x (by have := (List.getElem?_eq_some_iff.1 hj).1; omega) hj
        simp [this]
      have Hany := Lib.hid hany
      clear hany
      go_wp2
      go_ret
      exact ⟨(by rw [Hany.out]; rfl), Hm.out⟩
end Go.Proofs.YtamfbfajlfbooaaDoor
