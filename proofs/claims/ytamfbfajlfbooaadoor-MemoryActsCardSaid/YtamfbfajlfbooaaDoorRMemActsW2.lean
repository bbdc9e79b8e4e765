/- MemoryActs, walked: any number of cells, of threads. -/
import Derived.Test.YtamfbfajlfbooaaDoorRm9
import Derived.Test.YtamfbfajlfbooaaDoorRm7
set_option linter.unusedVariables false
set_option linter.unusedSimpArgs false
set_option linter.unusedSectionVars false
namespace Go.Proofs.YtamfbfajlfbooaaDoor
open Go.RowKit Qs Qh
set_option maxRecDepth 100000 in
set_option maxHeartbeats 4000000 in
theorem memacts_c0 (n t : Int) (h : n < 1) (v : Value) (l : List MAct) (w : World) (a : Nat → Addr) (E : ErrsAt w a) (R : RowsAt MAct.vals 7 w v l) (hl : l.length ≤ 100) :
    Calls Tryd.prog 18 #[.int .i64 n, .int .i64 t, v] w fun e w' => e = .returned (.bool true) ∧ Mod noF w w' := by
  have d2 : decide ((100 : Int) < (l.length : Int)) = false := by simp; omega
  have HE := Lib.hid E
  obtain ⟨a0, c0, rfl, hl0, hc0, hn0, hx0⟩ := R
  have d0 : decide (n < 1) = true := by simpa using h
  have hb := fun w0 (hm : Mod noF w w0) => pmNew_cells n t (.inl h) w0 (HE.out.four.keep hm)
  have hcd := @coded_at
  simp only [errV] at hb hcd
  have Hb := Lib.hid hb
  clear E hx0 hn0 hb
  go_enter Tryd.func18, Tryd.ntmps18
  go_wp2_with fail
  refine (waits_ok w a HE.out.four).mono ?_
  rintro e w0 ⟨rfl, hm0⟩
  have Hm0 := Lib.hid hm0
  clear hm0
  go_wp2_with fail
  refine (Hb.out w0 Hm0.out).mono ?_
  rintro e w1 ⟨rfl, hm1⟩
  have Hm1 := Lib.hid (Hm0.out.trans0 hm1)
  clear hm1
  go_wp2_with fail
  refine (hcd (HE.out.keep Hm1.out) 1 (by omega) 2).mono ?_
  rintro e w2 ⟨rfl, hm2⟩
  have Hm2 := Lib.hid (Hm1.out.trans0 hm2)
  clear hm2
  go_wp2
  go_ret
  exact ⟨rfl, Hm2.out⟩
set_option maxRecDepth 100000 in
set_option maxHeartbeats 4000000 in
theorem memacts_c1 (n t : Int) (h : 64 < n) (v : Value) (l : List MAct) (w : World) (a : Nat → Addr) (E : ErrsAt w a) (R : RowsAt MAct.vals 7 w v l) (hl : l.length ≤ 100) :
    Calls Tryd.prog 18 #[.int .i64 n, .int .i64 t, v] w fun e w' => e = .returned (.bool true) ∧ Mod noF w w' := by
  have d2 : decide ((100 : Int) < (l.length : Int)) = false := by simp; omega
  have HE := Lib.hid E
  obtain ⟨a0, c0, rfl, hl0, hc0, hn0, hx0⟩ := R
  have d0 : decide (n < 1) = false := by simp; omega
  have d1 : decide (64 < n) = true := by simpa using h
  have hb := fun w0 (hm : Mod noF w w0) => pmNew_cells n t (.inr h) w0 (HE.out.four.keep hm)
  have hcd := @coded_at
  simp only [errV] at hb hcd
  have Hb := Lib.hid hb
  clear E hx0 hn0 hb
  go_enter Tryd.func18, Tryd.ntmps18
  go_wp2_with fail
  refine (waits_ok w a HE.out.four).mono ?_
  rintro e w0 ⟨rfl, hm0⟩
  have Hm0 := Lib.hid hm0
  clear hm0
  go_wp2_with fail
  refine (Hb.out w0 Hm0.out).mono ?_
  rintro e w1 ⟨rfl, hm1⟩
  have Hm1 := Lib.hid (Hm0.out.trans0 hm1)
  clear hm1
  go_wp2_with fail
  refine (hcd (HE.out.keep Hm1.out) 1 (by omega) 2).mono ?_
  rintro e w2 ⟨rfl, hm2⟩
  have Hm2 := Lib.hid (Hm1.out.trans0 hm2)
  clear hm2
  go_wp2
  go_ret
  exact ⟨rfl, Hm2.out⟩
set_option maxRecDepth 100000 in
set_option maxHeartbeats 4000000 in
theorem memacts_t0 (n : Nat) (t : Int) (h1 : 1 ≤ n) (hn : n ≤ 64) (h : t < 1) (v : Value) (l : List MAct) (w : World) (a : Nat → Addr) (E : ErrsAt w a) (R : RowsAt MAct.vals 7 w v l) (hl : l.length ≤ 100) :
    Calls Tryd.prog 18 #[.int .i64 n, .int .i64 t, v] w fun e w' => e = .returned (.bool true) ∧ Mod noF w w' := by
  have d2 : decide ((100 : Int) < (l.length : Int)) = false := by simp; omega
  have HE := Lib.hid E
  obtain ⟨a0, c0, rfl, hl0, hc0, hn0, hx0⟩ := R
  have d0 : decide ((n : Int) < 1) = false := by simp; omega
  have d1 : decide ((64 : Int) < (n : Int)) = false := by simp; omega
  have d3 : decide (t < 1) = true := by simpa using h
  have hb := fun w0 (hm : Mod noF w w0) => pmNew_threads n t h1 hn (.inl h) w0 (HE.out.four.keep hm)
  have hcd := @coded_at
  simp only [errV] at hb hcd
  have Hb := Lib.hid hb
  clear E hx0 hn0 hb
  go_enter Tryd.func18, Tryd.ntmps18
  go_wp2_with fail
  refine (waits_ok w a HE.out.four).mono ?_
  rintro e w0 ⟨rfl, hm0⟩
  have Hm0 := Lib.hid hm0
  clear hm0
  go_wp2_with fail
  refine (Hb.out w0 Hm0.out).mono ?_
  rintro e w1 ⟨rfl, hm1⟩
  have Hm1 := Lib.hid (Hm0.out.trans0 hm1)
  clear hm1
  go_wp2_with fail
  refine (hcd (HE.out.keep Hm1.out) 1 (by omega) 2).mono ?_
  rintro e w2 ⟨rfl, hm2⟩
  have Hm2 := Lib.hid (Hm1.out.trans0 hm2)
  clear hm2
  go_wp2
  go_ret
  exact ⟨rfl, Hm2.out⟩
set_option maxRecDepth 100000 in
set_option maxHeartbeats 4000000 in
theorem memacts_t1 (n : Nat) (t : Int) (h1 : 1 ≤ n) (hn : n ≤ 64) (h : 6 < t) (v : Value) (l : List MAct) (w : World) (a : Nat → Addr) (E : ErrsAt w a) (R : RowsAt MAct.vals 7 w v l) (hl : l.length ≤ 100) :
    Calls Tryd.prog 18 #[.int .i64 n, .int .i64 t, v] w fun e w' => e = .returned (.bool true) ∧ Mod noF w w' := by
  have d2 : decide ((100 : Int) < (l.length : Int)) = false := by simp; omega
  have HE := Lib.hid E
  obtain ⟨a0, c0, rfl, hl0, hc0, hn0, hx0⟩ := R
  have d0 : decide ((n : Int) < 1) = false := by simp; omega
  have d1 : decide ((64 : Int) < (n : Int)) = false := by simp; omega
  have d3 : decide (t < 1) = false := by simp; omega
  have d4 : decide (6 < t) = true := by simpa using h
  have hb := fun w0 (hm : Mod noF w w0) => pmNew_threads n t h1 hn (.inr h) w0 (HE.out.four.keep hm)
  have hcd := @coded_at
  simp only [errV] at hb hcd
  have Hb := Lib.hid hb
  clear E hx0 hn0 hb
  go_enter Tryd.func18, Tryd.ntmps18
  go_wp2_with fail
  refine (waits_ok w a HE.out.four).mono ?_
  rintro e w0 ⟨rfl, hm0⟩
  have Hm0 := Lib.hid hm0
  clear hm0
  go_wp2_with fail
  refine (Hb.out w0 Hm0.out).mono ?_
  rintro e w1 ⟨rfl, hm1⟩
  have Hm1 := Lib.hid (Hm0.out.trans0 hm1)
  clear hm1
  go_wp2_with fail
  refine (hcd (HE.out.keep Hm1.out) 1 (by omega) 2).mono ?_
  rintro e w2 ⟨rfl, hm2⟩
  have Hm2 := Lib.hid (Hm1.out.trans0 hm2)
  clear hm2
  go_wp2
  go_ret
  exact ⟨rfl, Hm2.out⟩
set_option maxRecDepth 100000 in
set_option maxHeartbeats 4000000 in
theorem memacts_long (n t : Int) (v : Value) (l : List MAct) (w : World) (a : Nat → Addr) (E : ErrsAt w a) (R : RowsAt MAct.vals 7 w v l) (hl : 100 < l.length) :
    Calls Tryd.prog 18 #[.int .i64 n, .int .i64 t, v] w fun e w' => e = .returned (.bool true) ∧ Mod noF w w' := by
  have d2 : decide ((100 : Int) < (l.length : Int)) = true := by simp; omega
  have HE := Lib.hid E
  obtain ⟨a0, c0, rfl, hl0, hc0, hn0, hx0⟩ := R
  clear E hx0 hn0
  go_enter Tryd.func18, Tryd.ntmps18
  go_wp2_with fail
  refine (waits_ok w a HE.out.four).mono ?_
  rintro e w0 ⟨rfl, hm0⟩
  have Hm0 := Lib.hid hm0
  clear hm0
  go_wp2
  go_ret
  exact ⟨rfl, Hm0.out⟩
theorem memoryActs_any (n t : Int) (a : Option Addr) (len cap : Nat) (z : List MAct) (w : World) (hn : (Lit.int .i64 n).wf = true) (ht : (Lit.int .i64 t).wf = true) (hz : IsMAct w a len cap z) (h : ∃ a, ErrsAt w a) :
    Calls Tryd.prog 18 #[.int .i64 n, .int .i64 t, .slice a len cap] w fun e w' => e = .returned (.bool true) ∧ Below w.heap.size w w' := by
  obtain ⟨e, he⟩ := h
  by_cases hl : z.length ≤ 100
  · by_cases h0 : n < 1
    · exact (memacts_c0 n t h0 _ z w e he hz.1 hl).mono fun e w' h => ⟨h.1, h.2.toBelow⟩
    by_cases h64 : 64 < n
    · exact (memacts_c1 n t h64 _ z w e he hz.1 hl).mono fun e w' h => ⟨h.1, h.2.toBelow⟩
    obtain ⟨k, rfl⟩ := Int.eq_ofNat_of_zero_le (show 0 ≤ n by omega)
    by_cases t0 : t < 1
    · exact (memacts_t0 k t (by omega) (by omega) t0 _ z w e he hz.1 hl).mono fun e w' h => ⟨h.1, h.2.toBelow⟩
    by_cases t6 : 6 < t
    · exact (memacts_t1 k t (by omega) (by omega) t6 _ z w e he hz.1 hl).mono fun e w' h => ⟨h.1, h.2.toBelow⟩
    obtain ⟨j, rfl⟩ := Int.eq_ofNat_of_zero_le (show 0 ≤ t by omega)
    exact (memacts_in k j (by omega) (by omega) (by omega) (by omega) _ z w e he hz.1 hz.2 hl).mono fun e w' h => ⟨h.1, h.2.toBelow⟩
  · exact (memacts_long n t _ z w e he hz.1 (by omega)).mono fun e w' h => ⟨h.1, h.2.toBelow⟩
end Go.Proofs.YtamfbfajlfbooaaDoor
