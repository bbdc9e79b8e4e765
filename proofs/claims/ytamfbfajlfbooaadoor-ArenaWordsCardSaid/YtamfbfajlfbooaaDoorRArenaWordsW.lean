/- ArenaWords, walked. -/
import Derived.Test.YtamfbfajlfbooaaDoorRArenaWord
import Derived.Lib.SliceRun
set_option linter.unusedVariables false
set_option linter.unusedSimpArgs false
set_option linter.unusedSectionVars false
namespace Go.Proofs.YtamfbfajlfbooaaDoor
open Go.RowKit Qs Qh
theorem wordOf_all (c g : Int) (w : World) :
    Calls Tryd.prog 46 #[.agg #[.int .i64 c, .int .i64 g]] w fun e w' => e = .returned (.tuple #[.int .i64 (wordV c g).1, .int .i64 (wordV c g).2]) ∧ Mod noF w w' := by
  by_cases h : 0 ≤ c ∧ c < 64 ∧ 0 ≤ g ∧ g ≤ 67108864
  · obtain ⟨c0, c1, g0, g1⟩ := h
    have d0 : decide (c < 0) = false := by simpa using c0
    have d1 : decide (64 ≤ c) = false := by simp; omega
    have d2 : decide (g < 0) = false := by simpa using g0
    have d3 : decide (67108864 < g) = false := by simp; omega
    cases hw : isWord (g * 64 + c + 1) with
    | false =>
      have e : wordV c g = (0, 2) := by simp [wordV, hw]
      rw [e]
      have Hw := Lib.hid hw; clear hw
      go_enter Tryd.func46, Tryd.ntmps46
      go_wp2_with (go_at_call 31; refine (isWord_any _ _).mono ?_; rintro e w' ⟨rfl, rfl⟩; rw [Hw.out])
      go_ret2
      exact ⟨rfl, (Mod.refl _ _).alloc _⟩
    | true =>
      have e : wordV c g = (g * 64 + c + 1, 0) := by simp [wordV, hw, c0, c1, g0, g1]
      rw [e]
      have Hw := Lib.hid hw; clear hw
      go_enter Tryd.func46, Tryd.ntmps46
      go_wp2_with (go_at_call 31; refine (isWord_any _ _).mono ?_; rintro e w' ⟨rfl, rfl⟩; rw [Hw.out])
      go_ret2
      exact ⟨rfl, (Mod.refl _ _).alloc _⟩
  · have e : wordV c g = (0, 2) := by simp only [wordV]; rw [if_neg (fun hh => h ⟨hh.1, hh.2.1, hh.2.2.1, hh.2.2.2.1⟩)]
    rw [e]
    by_cases c0 : c < 0
    · have d0 : decide (c < 0) = true := by simpa using c0
      go_enter Tryd.func46, Tryd.ntmps46
      go_wp2
      go_ret2
      exact ⟨rfl, (Mod.refl _ _).alloc _⟩
    · have d0 : decide (c < 0) = false := by simpa using c0
      by_cases c1 : 64 ≤ c
      · have d1 : decide (64 ≤ c) = true := by simpa using c1
        go_enter Tryd.func46, Tryd.ntmps46
        go_wp2
        go_ret2
        exact ⟨rfl, (Mod.refl _ _).alloc _⟩
      · have d1 : decide (64 ≤ c) = false := by simpa using c1
        by_cases g0 : g < 0
        · have d2 : decide (g < 0) = true := by simpa using g0
          go_enter Tryd.func46, Tryd.ntmps46
          go_wp2
          go_ret2
          exact ⟨rfl, (Mod.refl _ _).alloc _⟩
        · have d2 : decide (g < 0) = false := by simpa using g0
          have d3 : decide (67108864 < g) = true := by simp; omega
          go_enter Tryd.func46, Tryd.ntmps46
          go_wp2
          go_ret2
          exact ⟨rfl, (Mod.refl _ _).alloc _⟩
set_option maxHeartbeats 4000000 in
theorem arenaWords_mod (c g n : Int) (w : World) (a : Nat → Addr) (E : ErrsAt w a) (hlo : -9223372036854775808 ≤ n) (hhi : n ≤ 9223372036854775807) :
    Calls Tryd.prog 11 #[.agg #[.int .i64 c, .int .i64 g], .int .i64 n] w fun e w' => e = .returned (.bool true) ∧ Mod noF w w' := by
  have HE := Lib.hid E
  clear E
  go_enter Tryd.func11, Tryd.ntmps11
  go_wp2_with fail
  refine (first_ok _ a (HE.out.keep ((Mod.refl noF w).alloc _))).mono ?_
  rintro e w1 ⟨rfl, hm0⟩
  have hm1 := ((Mod.refl noF w).alloc (.cells #[.int .i64 c, .int .i64 g] 58)).trans0 hm0
  have hx1 := hm0.heap (heap_alloc_new w (.cells #[.int .i64 c, .int .i64 g] 58)) (fun e => e)
  have b0 : w1.cell? ⟨w.heap.size, 0, none⟩ = some (.int .i64 c) := (cell_of_heap hx1 0).trans rfl
  have b1 : w1.cell? ⟨w.heap.size, 1, none⟩ = some (.int .i64 g) := (cell_of_heap hx1 1).trans rfl
  have s1 := lt_of_block hx1
  have Hm1 := Lib.hid hm1
  have Hx1 := Lib.hid hx1
  clear hm0 hm1 hx1
  go_wp2_with fail
  refine (arenaWord_any c g w1 a (HE.out.keep Hm1.out)).mono ?_
  rintro e w2 ⟨rfl, hm2⟩
  have hx2 := hm2.heap Hx1.out (fun e => e)
  have b0 : w2.cell? ⟨w.heap.size, 0, none⟩ = some (.int .i64 c) := (cell_of_heap hx2 0).trans rfl
  have b1 : w2.cell? ⟨w.heap.size, 1, none⟩ = some (.int .i64 g) := (cell_of_heap hx2 1).trans rfl
  have s2 := lt_of_block hx2
  have Hm2 := Lib.hid (Hm1.out.trans0 hm2)
  have Hx2 := Lib.hid hx2
  clear hm2 hx2 s1
  go_wp2_with fail
  refine (wordOf_all c g w2).mono ?_
  rintro e w3 ⟨rfl, hm3⟩
  have hx3 := hm3.heap Hx2.out (fun e => e)
  have s3 := lt_of_block hx3
  have Hm3 := Lib.hid (Hm2.out.trans0 hm3)
  have Hx3 := Lib.hid hx3
  clear hm3 hx3 s2
  have hwe := wordV_err c g
  have hback := @refV_back c g
  obtain ⟨v, hv⟩ : ∃ v, (wordV c g).1 = v := ⟨_, rfl⟩
  obtain ⟨q, hq⟩ : ∃ q, (wordV c g).2 = q := ⟨_, rfl⟩
  rw [hv, hq]
  rw [hv, hq] at hback
  rw [hq] at hwe
  have Hback := Lib.hid hback
  clear hback
  have hvb : -9223372036854775808 ≤ v ∧ v ≤ 9223372036854775807 := by
    rw [← hv]
    unfold wordV
    split
    · rename_i hh
      have h5 : isWord (g * 64 + c + 1) = true := hh.2.2.2.2
      simp only [isWord, W32, Bool.and_eq_true, decide_eq_true_eq] at h5
      constructor <;> omega
    · constructor <;> decide
  obtain ⟨hv0, hv1⟩ := hvb
  clear hv hq
  have hcod := coded_own (HE.out.keep Hm3.out) q (by omega) (by omega)
  have Hcod := Lib.hid hcod
  clear hcod
  go_wp2_with fail
  refine Hcod.out.mono ?_
  rintro e w4 ⟨rfl, hm4⟩
  have hx4 := hm4.heap Hx3.out (fun e => e)
  have b0 : w4.cell? ⟨w.heap.size, 0, none⟩ = some (.int .i64 c) := (cell_of_heap hx4 0).trans rfl
  have b1 : w4.cell? ⟨w.heap.size, 1, none⟩ = some (.int .i64 g) := (cell_of_heap hx4 1).trans rfl
  have s4 := lt_of_block hx4
  have Hm4 := Lib.hid (Hm3.out.trans0 hm4)
  have Hx4 := Lib.hid hx4
  clear hm4 hx4 s3 Hcod
  rcases hwe with hq0 | hq2
  · have Hq0 := Lib.hid hq0
    have hq0b : (q == 0) = true := by simpa using hq0
    clear hq0
    go_wp2_with fail
    refine (arenaRef_any v w4 a (HE.out.keep Hm4.out) hv0 hv1).mono ?_
    rintro e w5 ⟨rfl, hm5⟩
    rw [Hback.out Hq0.out]
    have hx5 := hm5.heap Hx4.out (fun e => e)
    have b0 : w5.cell? ⟨w.heap.size, 0, none⟩ = some (.int .i64 c) := (cell_of_heap hx5 0).trans rfl
    have b1 : w5.cell? ⟨w.heap.size, 1, none⟩ = some (.int .i64 g) := (cell_of_heap hx5 1).trans rfl
    have s5 := lt_of_block hx5
    have Hm5 := Lib.hid (Hm4.out.trans0 hm5)
    have Hx5 := Lib.hid hx5
    clear hm5 hx5 s4
    simp only [errOf, if_true]
    go_wp2_with fail
    refine (arenaRef_any n _ a (HE.out.keep (Hm5.out.alloc (.cells #[.int .i64 c, .int .i64 g] 58))) hlo hhi).mono ?_
    rintro e w6 ⟨rfl, hm6⟩
    have Hm6 := Lib.hid ((Hm5.out.alloc (.cells #[.int .i64 c, .int .i64 g] 58)).trans0 hm6)
    clear hm6
    have her := refV_err n
    obtain ⟨x1, hx1⟩ : ∃ x, (refV n).1 = x := ⟨_, rfl⟩
    obtain ⟨x2, hx2⟩ : ∃ x, (refV n).2.1 = x := ⟨_, rfl⟩
    obtain ⟨x3, hx3⟩ : ∃ x, (refV n).2.2 = x := ⟨_, rfl⟩
    have hro := fun W => refOf_any n W hlo hhi
    rw [hx1, hx2, hx3]
    rw [hx3] at her
    rw [hx1, hx2, hx3] at hro
    have Hro := Lib.hid hro
    clear hx1 hx2 hx3 hro
    go_wp2_with fail
    refine (Hro.out _).mono ?_
    rintro e w7 ⟨rfl, hm7⟩
    have hy7 := hm7.heap (heap_alloc_new w6 (.cells #[.int .i64 x1, .int .i64 x2] 58)) (fun e => e)
    have y7 := lt_of_block hy7
    have Hy7 := Lib.hid hy7
    have Hm7 := Lib.hid ((Hm6.out.alloc _).trans0 hm7)
    clear hm7 hy7
    go_wp2_with fail
    have hcod := coded_own (HE.out.keep (Hm7.out.alloc (.cells #[.int .i64 x1, .int .i64 x2] 58))) x3 (by omega) (by omega)
    refine hcod.mono ?_
    rintro e w8 ⟨rfl, hm8⟩
    have hz8 := hm8.heap (heap_alloc_new w7 (.cells #[.int .i64 x1, .int .i64 x2] 58)) (fun e => e)
    have hy8 := (((Mod.refl noF w7).alloc (.cells #[.int .i64 x1, .int .i64 x2] 58)).trans0 hm8).heap Hy7.out (fun e => e)
    have p0 : w8.cell? ⟨w6.heap.size, 0, none⟩ = some (.int .i64 x1) := (cell_of_heap hy8 0).trans rfl
    have p1 : w8.cell? ⟨w6.heap.size, 1, none⟩ = some (.int .i64 x2) := (cell_of_heap hy8 1).trans rfl
    have p2 : w8.cell? ⟨w7.heap.size, 0, none⟩ = some (.int .i64 x1) := (cell_of_heap hz8 0).trans rfl
    have p3 : w8.cell? ⟨w7.heap.size, 1, none⟩ = some (.int .i64 x2) := (cell_of_heap hz8 1).trans rfl
    have Hm8 := Lib.hid ((Hm7.out.alloc _).trans0 hm8)
    clear hm8 hz8 hy8 hcod
    go_wp2
    go_ret
    exact ⟨rfl, Hm8.out⟩
  · have Hq0 := Lib.hid hq2
    have hq0b : (q == 0) = false := by rw [hq2]; decide
    have hqe : errOf a q = errV a 1 := by rw [hq2]; rfl
    rw [hqe]
    unfold errV
    clear hq2 hqe
    go_wp2_with fail
    refine (arenaRef_any n _ a (HE.out.keep Hm4.out) hlo hhi).mono ?_
    rintro e w6 ⟨rfl, hm6⟩
    have Hm6 := Lib.hid ((Hm4.out).trans0 hm6)
    clear hm6
    have her := refV_err n
    obtain ⟨x1, hx1⟩ : ∃ x, (refV n).1 = x := ⟨_, rfl⟩
    obtain ⟨x2, hx2⟩ : ∃ x, (refV n).2.1 = x := ⟨_, rfl⟩
    obtain ⟨x3, hx3⟩ : ∃ x, (refV n).2.2 = x := ⟨_, rfl⟩
    have hro := fun W => refOf_any n W hlo hhi
    rw [hx1, hx2, hx3]
    rw [hx3] at her
    rw [hx1, hx2, hx3] at hro
    have Hro := Lib.hid hro
    clear hx1 hx2 hx3 hro
    go_wp2_with fail
    refine (Hro.out _).mono ?_
    rintro e w7 ⟨rfl, hm7⟩
    have hy7 := hm7.heap (heap_alloc_new w6 (.cells #[.int .i64 x1, .int .i64 x2] 58)) (fun e => e)
    have y7 := lt_of_block hy7
    have Hy7 := Lib.hid hy7
    have Hm7 := Lib.hid ((Hm6.out.alloc _).trans0 hm7)
    clear hm7 hy7
    go_wp2_with fail
    have hcod := coded_own (HE.out.keep (Hm7.out.alloc (.cells #[.int .i64 x1, .int .i64 x2] 58))) x3 (by omega) (by omega)
    refine hcod.mono ?_
    rintro e w8 ⟨rfl, hm8⟩
    have hz8 := hm8.heap (heap_alloc_new w7 (.cells #[.int .i64 x1, .int .i64 x2] 58)) (fun e => e)
    have hy8 := (((Mod.refl noF w7).alloc (.cells #[.int .i64 x1, .int .i64 x2] 58)).trans0 hm8).heap Hy7.out (fun e => e)
    have p0 : w8.cell? ⟨w6.heap.size, 0, none⟩ = some (.int .i64 x1) := (cell_of_heap hy8 0).trans rfl
    have p1 : w8.cell? ⟨w6.heap.size, 1, none⟩ = some (.int .i64 x2) := (cell_of_heap hy8 1).trans rfl
    have p2 : w8.cell? ⟨w7.heap.size, 0, none⟩ = some (.int .i64 x1) := (cell_of_heap hz8 0).trans rfl
    have p3 : w8.cell? ⟨w7.heap.size, 1, none⟩ = some (.int .i64 x2) := (cell_of_heap hz8 1).trans rfl
    have Hm8 := Lib.hid ((Hm7.out.alloc _).trans0 hm8)
    clear hm8 hz8 hy8 hcod
    go_wp2
    go_ret
    exact ⟨rfl, Hm8.out⟩
theorem arenaWords_any (a0 b0 a1 : Int) (w : World) (_ : (Lit.int .i64 a0).wf = true) (_ : (Lit.int .i64 b0).wf = true) (h1 : (Lit.int .i64 a1).wf = true) (h : ∃ a, ErrsAt w a) :
    Calls Tryd.prog 11 #[.agg #[.int .i64 a0, .int .i64 b0], .int .i64 a1] w fun e w' => e = .returned (.bool true) ∧ Below w.heap.size w w' := by
  obtain ⟨a, E⟩ := h
  simp only [Lit.wf, Bool.and_eq_true, decide_eq_true_eq] at h1
  exact (arenaWords_mod a0 b0 a1 w a E h1.1 h1.2).mono fun _ _ h => ⟨h.1, h.2.toBelow⟩
end Go.Proofs.YtamfbfajlfbooaaDoor
