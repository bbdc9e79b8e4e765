/- ArenaActs, walked: any number of cells. -/
import Derived.Test.YtamfbfajlfbooaaDoorRActsW
set_option linter.unusedVariables false
set_option linter.unusedSimpArgs false
set_option linter.unusedSectionVars false
namespace Go.Proofs.YtamfbfajlfbooaaDoor
open Go.RowKit Qs Qh

set_option maxRecDepth 100000 in
set_option maxHeartbeats 4000000 in
theorem acts_out (n : Int) (h : n < 1 ∨ 64 < n) (v : Value) (l : List CAct) (w : World) (a : Nat → Addr) (E : ErrsAt w a) (R : RowsAt CAct.vals 5 w v l) (hl : l.length ≤ 100) :
    Calls Tryd.prog 15 #[.int .i64 n, v] w fun e w' => e = .returned (.bool true) ∧ Mod noF w w' := by
  have d2 : decide ((100 : Int) < (l.length : Int)) = false := by simp; omega
  have HE := Lib.hid E
  obtain ⟨a0, c0, rfl, hl0, hc0, hn0, hx0⟩ := R
  have hb := arenaNew_bad n h
  have hcd := @coded_at
  simp only [errV] at hb hcd
  have Hb := Lib.hid hb
  clear E hx0 hn0 hb
  by_cases h1 : n < 1
  · have d0 : decide (n < 1) = true := by simpa using h1
    clear h h1
    go_enter Tryd.func15, Tryd.ntmps15
    go_wp2_with fail
    refine (first_ok w a HE.out).mono ?_
    rintro e w0 ⟨rfl, hm0⟩
    have Hm0 := Lib.hid hm0
    clear hm0
    go_wp2_with fail
    refine (Hb.out w0 a (HE.out.keep Hm0.out)).mono ?_
    rintro e w1 ⟨rfl, hm1⟩
    have Hm1 := Lib.hid (Hm0.out.trans0 hm1)
    clear hm1
    go_wp2_with fail
    refine (hcd (HE.out.keep Hm1.out) 1 (by omega) 2).mono ?_
    rintro e w2 ⟨rfl, hm2⟩
    have Hm2 := Lib.hid (Hm1.out.trans0 hm2)
    clear hm2
    go_wp2
    go_ret
    exact ⟨rfl, Hm2.out⟩
  · have d0 : decide (n < 1) = false := by simpa using h1
    have d1 : decide (64 < n) = true := by simp; omega
    clear h h1
    go_enter Tryd.func15, Tryd.ntmps15
    go_wp2_with fail
    refine (first_ok w a HE.out).mono ?_
    rintro e w0 ⟨rfl, hm0⟩
    have Hm0 := Lib.hid hm0
    clear hm0
    go_wp2_with fail
    refine (Hb.out w0 a (HE.out.keep Hm0.out)).mono ?_
    rintro e w1 ⟨rfl, hm1⟩
    have Hm1 := Lib.hid (Hm0.out.trans0 hm1)
    clear hm1
    go_wp2_with fail
    refine (hcd (HE.out.keep Hm1.out) 1 (by omega) 2).mono ?_
    rintro e w2 ⟨rfl, hm2⟩
    have Hm2 := Lib.hid (Hm1.out.trans0 hm2)
    clear hm2
    go_wp2
    go_ret
    exact ⟨rfl, Hm2.out⟩
set_option maxRecDepth 100000 in
set_option maxHeartbeats 4000000 in
theorem acts_long (n : Int) (v : Value) (l : List CAct) (w : World) (a : Nat → Addr) (E : ErrsAt w a) (R : RowsAt CAct.vals 5 w v l) (hl : 100 < l.length) :
    Calls Tryd.prog 15 #[.int .i64 n, v] w fun e w' => e = .returned (.bool true) ∧ Mod noF w w' := by
  have d2 : decide ((100 : Int) < (l.length : Int)) = true := by simp; omega
  have HE := Lib.hid E
  obtain ⟨a0, c0, rfl, hl0, hc0, hn0, hx0⟩ := R
  clear E hx0 hn0
  go_enter Tryd.func15, Tryd.ntmps15
  go_wp2_with fail
  refine (first_ok w a HE.out).mono ?_
  rintro e w0 ⟨rfl, hm0⟩
  have Hm0 := Lib.hid hm0
  clear hm0
  go_wp2
  go_ret
  exact ⟨rfl, Hm0.out⟩
theorem arenaActs_any (n : Int) (a : Option Addr) (len cap : Nat) (z : List CAct) (w : World) (hn : (Lit.int .i64 n).wf = true) (hz : IsCAct w a len cap z) (h : ∃ a, ErrsAt w a) :
    Calls Tryd.prog 15 #[.int .i64 n, .slice a len cap] w fun e w' => e = .returned (.bool true) ∧ Below w.heap.size w w' := by
  obtain ⟨e, he⟩ := h
  by_cases hl : z.length ≤ 100
  · by_cases hb : n < 1 ∨ 64 < n
    · exact (acts_out n hb _ z w e he hz.1 hl).mono fun e w' h => ⟨h.1, h.2.toBelow⟩
    · obtain ⟨k, rfl⟩ := Int.eq_ofNat_of_zero_le (show 0 ≤ n by omega)
      exact (acts_in k (by omega) (by omega) _ z w e he hz.1 hz.2 hl).mono fun e w' h => ⟨h.1, h.2.toBelow⟩
  · exact (acts_long n _ z w e he hz.1 (by omega)).mono fun e w' h => ⟨h.1, h.2.toBelow⟩
end Go.Proofs.YtamfbfajlfbooaaDoor
