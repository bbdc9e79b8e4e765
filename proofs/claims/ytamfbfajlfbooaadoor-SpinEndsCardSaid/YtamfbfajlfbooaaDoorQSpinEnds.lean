/- SpinEnds, walked. -/
import Derived.Test.YtamfbfajlfbooaaDoorQm5
import Derived.Test.YtamfbfajlfbooaaDoorQm4
import Derived.Test.YtamfbfajlfbooaaDoorQStart
import Derived.Test.YtamfbfajlfbooaaDoorQNewWalk
import Derived.Test.YtamfbfajlfbooaaDoorQm7
import Derived.Test.YtamfbfajlfbooaaDoorQm6
import Derived.Test.YtamfbfajlfbooaaDoorQm1
import Derived.Outline
set_option linter.unusedVariables false
set_option linter.unusedSimpArgs false
set_option linter.unusedSectionVars false
namespace Go.Proofs.YtamfbfajlfbooaaDoor
open Go.RowKit Qs Qh
set_option maxRecDepth 100000 in
set_option maxHeartbeats 8000000 in
theorem spinEnds_in (th n : Nat) (w : World) (ht1 : 1 ≤ th) (ht3' : th ≤ 3) (hn1 : 1 ≤ n) (hn2 : n ≤ 2) :
    Calls Tryd.prog 3 #[.int .i64 th, .int .i64 n] w fun e w' => e = .returned (.bool true) ∧ Mod noF w w' := by
  have d0 : decide ((th : Int) < 1) = false := by simp; omega
  have d1 : decide ((3 : Int) < (th : Int)) = false := by simp; omega
  have d2 : decide ((n : Int) < 1) = false := by simp; omega
  have d3 : decide ((2 : Int) < (n : Int)) = false := by simp; omega
  have ht3 : th ≤ 4 := by omega
  obtain ⟨i1, hi1, hy0, hy1, hy2⟩ := info_parts codesInfo
  obtain ⟨i2, hi2, hx0, hx1, hx2⟩ := info_parts rowsInfo
  have hfd := fault_code
  go_enter Tryd.func3, Tryd.ntmps3
  go_wp2_with fail
  refine (locked_any w).mono ?_
  rintro e w1 ⟨rfl, hm1⟩
  have Hm1 := Lib.hid hm1
  clear hm1
  go_wp2
  go_loopw [7, 8, 9, 10] (fun v i _ _ wr => ∃ k : Nat, k ≤ th ∧ i = .int .i64 k ∧ ∃ u cv rv, SetRel w1 (w1.heap.size + 1 + 1) 1 (.slice (some ⟨w1.heap.size + 1, 0, none⟩) 1 1) [[]] v u (List.replicate k (spCode n)) (List.replicate k spR) cv rv wr) (fun _ i _ _ _ => th - (intOf i).toNat)
  case atStart => exact ⟨0, Nat.zero_le _, rfl, _, _, _, spSet w1⟩
  case round =>
    obtain ⟨k, hk, rfl, u, cv, rv, T⟩ := hrel
    have hBs := lt_of_block T.box
    obtain ⟨ua, ub, uc, rfl⟩ := slice_of_own T.urow
    obtain ⟨va, vb, vc, rfl⟩ := slice_of_own T.vrow
    have HT := Lib.hid T
    by_cases hlt : k < th
    · have hd : decide ((k : Int) < (th : Int)) = true := by simp; omega
      have hwf : w1.heap.size + 1 + 1 < wr.heap.size := hBs
      clear T
      go_wp2_with fail
      refine (critical_any n wr (by omega)).mono ?_
      rintro e w2 ⟨x, rfl, hma⟩
      have hq := Mod.below hma.2.1
      have hcx := InsRow.code hma.1
      obtain ⟨xa, xc, rfl, _, _⟩ := hma.1.slice
      have T2 := HT.out.quiet hq
      have hxo : ∀ g, (Value.slice xa (spCode n).length xc).ownBlock = some g → Out (w1.heap.size + 1 + 1) (.slice va vb vc) (.slice ua ub uc) g ∧ g < w2.heap.size := fun g hg => ⟨⟨by have := hma.2.2 g hg; omega, (fun e => by have := (World.ownsRow.lt HT.out.vrow _ e).2; have := hma.2.2 g hg; omega), (fun e => by have := (World.ownsRow.lt HT.out.urow _ e).2; have := hma.2.2 g hg; omega)⟩, InsRow.lt hma.1 hg⟩
      have HT2 := Lib.hid T2
      have Hcx := Lib.hid hcx
      have Hxo := Lib.hid hxo
      have hq2 := hq.size
      clear hma hq hcx T2 hxo
      go_wp2_with (first
        | (at_builtin; refine wpList_append_mine _ rfl (.tmp 49) (.tmp 51) 27 rfl 28 i1 (.slice none 0 0) 1 24 Tryd.underlying27 hi1 hy0 hy1 hy2 rfl (by decide) _ _ ((List.range (List.replicate k (spCode n)).length).map cv) rfl (World.ownsRow.alloc HT2.out.vrow _) ⟨w2.heap.size, 0, none⟩ 1 1 [.slice xa (spCode n).length xc] rfl rfl (new_cells w2 _ _) (slice_one _ _ _) (lenk hk ht3) (lenk2 hk ht3) ?_; intro v3 w3 hown3 hgr3 hfr3 hz3; obtain ⟨xa3, xb3, xc3, rfl⟩ := slice_of_own hown3; have hq3 : Mod noF w2 (w2.alloc (.cells #[.slice xa (spCode n).length xc] 28)) := (Mod.refl noF w2).alloc _; have T3 := HT2.out.addCode (x := .slice xa (spCode n).length xc) (c := spCode n) (Hcx.out.frame hq3 (fun _ _ e => e)) (fun g hg => ⟨(Hxo.out g hg).1, by have := (Hxo.out g hg).2; simp <;> omega⟩) hq3 hown3 hgr3 hfr3; rw [rep_snoc] at T3; have c3 : w3.cell? ⟨w1.heap.size + 1 + 1, 2, none⟩ = some (.slice ua ub uc) := (cell_of_heap T3.box 2).trans rfl; have f3 := free_of_heap T3.box 2; have hs3 : w1.heap.size + 1 + 1 < w3.heap.size := lt_of_block T3.box; have HT3 := Lib.hid T3; clear T3 hown3 hgr3 hfr3 hz3 hq3)
        | (at_builtin; refine wpList_append_mine _ rfl (.tmp 54) (.tmp 56) 24 rfl 23 i2 (.slice none 0 0) 1 24 Tryd.underlying24 hi2 hx0 hx1 hx2 rfl (by decide) _ _ ((List.range (List.replicate k spR).length).map rv) rfl (World.ownsRow.alloc (World.ownsRow.alloc HT3.out.urow _) _) ⟨w3.heap.size + 1, 0, none⟩ 1 1 [.slice (some ⟨w3.heap.size, 0, none⟩) 8 8] rfl rfl (new_cells_at (w3.alloc (.cells #[.int .i64 0, .int .i64 0, .int .i64 0, .int .i64 0, .int .i64 0, .int .i64 0, .int .i64 0, .int .i64 1] 3)) _ _ (size1 _ _)) (slice_one _ _ _) (lenk hk ht3) (lenk2 hk ht3) ?_; intro v4 w4 hown4 hgr4 hfr4 hz4; obtain ⟨xa4, xb4, xc4, rfl⟩ := slice_of_own hown4; have T4 := spAddReg HT3.out hown4 hgr4 hfr4; have f4 := spAddReg_free HT3.out hgr4; have HT4 := Lib.hid T4; clear T4 hown4 hgr4 hfr4 hz4))
      go_roundw
      case rel => exact ⟨k + 1, by omega, by go_num, _, _, _, HT4.out⟩
      case measure => simp [intOf]; omega
    · have hd : decide ((k : Int) < (th : Int)) = false := by simp; omega
      obtain rfl : k = th := by omega
      have hB0 : wr.cell? ⟨w1.heap.size + 1 + 1, 0, none⟩ = some (.int .i64 1) := (cell_of_heap T.box _).trans rfl
      have hB1 : wr.cell? ⟨w1.heap.size + 1 + 1, 1, none⟩ = some (.slice (some ⟨w1.heap.size + 1, 0, none⟩) 1 1) := (cell_of_heap T.box _).trans rfl
      have hB2 : wr.cell? ⟨w1.heap.size + 1 + 1, 2, none⟩ = some (.slice ua ub uc) := (cell_of_heap T.box _).trans rfl
      have hw1 : Mod noF w1 wr := (Mod.below T.below)
      obtain ⟨wo, rfl⟩ : ∃ wo : World, wo = wr := ⟨_, rfl⟩
      have Hw1 := Lib.hid hw1
      clear T hw1
      go_wp2_with fail
      refine (startFault_ok 1 _ _ _ [[]] (List.replicate k spR) (List.replicate k (spCode n)) cv wo HT.out.ini.at HT.out.regs_ HT.out.codesAt (by omega) (by omega) (by simp; omega) (by simp; omega) (by simp) (by simp) spInit (spRegs k) (spFines hn1 (by omega))).mono ?_
      rintro e w5 ⟨rfl, hm5⟩
      have p0 := hm5.cell hB0 (fun e => e)
      have p1 := hm5.cell hB1 (fun e => e)
      have p2 := hm5.cell hB2 (fun e => e)
      have hs5 : w1.heap.size + 1 + 1 < w5.heap.size := by have := hm5.size; omega
      have Hm5 := Lib.hid hm5
      clear hm5 hB0 hB1 hB2
      go_wp2_with fail
      refine (newMachine_ok 1 _ _ _ [[]] (List.replicate k spR) (List.replicate k (spCode n)) cv w5 (HT.out.ini.at.keep Hm5.out.toBelow) (HT.out.regs_.keep Hm5.out.toBelow) (HT.out.codesAt.keep Hm5.out.toBelow) (by omega) (by omega) (by simp; omega) (by simp; omega) (by simp) (by simp) spInit (spRegs k) (spFines hn1 (by omega))).mono ?_
      rintro e w6 ⟨L, rfl, X, hb6, hft⟩
      rw [spStart_eq k n ht1 (by omega)] at X hft
      have HX := Lib.hid X
      have Hb6 := Lib.hid hb6
      have Hft := Lib.hid hft
      have hE : Easy (spStart k n) := spEasy k n hn1 (by omega)
      have HE := Lib.hid hE
      clear X hb6 hft hE
      go_wp2
      go_loopw [12] (fun i wr => ∃ q : Nat, q ≤ 5000 ∧ i = .int .i64 q ∧ ∃ Lr, MUp ty w6 L (spStart k n) wr Lr ((spStart k n).goes q 0) (1 + 48 * q)) (fun i _ => 5000 - (intOf i).toNat)
      case atStart => exact ⟨0, Nat.zero_le _, rfl, L, by simpa [M.goes] using MUp.quiet HX.out (Mod.refl _ _)⟩
      case round =>
        obtain ⟨q, hq, rfl, Lr, Ur⟩ := hrel
        have e0 := Ur.top.1
        have hE1 := HE.out.keep Ur
        have HUr := Lib.hid Ur
        have HE1 := Lib.hid hE1
        clear Ur hE1
        by_cases hlt2 : q < 5000
        · have hd2 : decide ((q : Int) < 5000) = true := by simp; omega
          have hcall := turn_any HUr.out.mach HE1.out (by omega) (q : Int) (by omega) (by omega)
          rw [e0] at hcall
          have Hcall := Lib.hid hcall
          have hsn := M.goes_snoc (spStart k n) q 0
          have Hsn := Lib.hid hsn
          clear hcall e0 hsn
          go_wp2_with fail
          refine Hcall.out.mono ?_
          rintro e w7 ⟨rfl, L7, U7⟩
          have HU7 := Lib.hid U7
          clear U7
          obtain ⟨z, hz⟩ : ∃ z, (M.turn ((spStart k n).goes q 0) q).2 = z := ⟨_, rfl⟩
          rw [hz]
          clear hz
          go_wp2
          go_roundw
          case rel =>
            refine ⟨q + 1, by omega, by go_num, L7, ?_⟩
            rw [Hsn.out]
            rw [show 1 + 48 * ((q + 1 : Nat) : Int) = 1 + 48 * (q : Int) + 48 from by omega, Nat.zero_add]
            exact HUr.out.trans HU7.out
          case measure => simp [intOf]; omega
        · obtain rfl : q = 5000 := by omega
          have hd2 : decide (((5000 : Nat) : Int) < 5000) = false := by decide
          have hse := spin_ends k n ht1 ht3' hn1 hn2
          obtain ⟨c0, hc0⟩ : ∃ c, ((spStart k n).goes 5000 0).cells[0]? = some c := ⟨_, List.getElem?_eq_getElem (Nat.lt_of_lt_of_le Nat.zero_lt_one HUr.out.mach.om.cells1)⟩
          generalize (spStart k n).goes 5000 0 = mz at *
          obtain ⟨hs1, hs2, hs3⟩ := hse
          have hcall := rest_any HUr.out.mach
          rw [e0, hs1] at hcall
          have Hcall := Lib.hid hcall
          have Hc0 := Lib.hid hc0
          have Hs2 := Lib.hid hs2
          have Hs3 := Lib.hid hs3
          clear hcall hs1 hc0 hs2 hs3
          go_wp2_with fail
          refine Hcall.out.mono ?_
          rintro e w8 ⟨rfl, hm8⟩
          have X8 := HUr.out.mach.frame0 hm8
          obtain ⟨t0, t1, t2, t3, t4, t5⟩ := X8.top
          obtain ⟨q0, q1, q2, q3, q4⟩ := X8.word_at (j := 2) Hc0.out (by omega)
          rw [e0] at t0 t1 t2 t3 t5
          rw [Hs2.out] at t3
          rw [Hs3.out] at q2
          have hlc : (0 : Int) < (mz.cells.length : Int) := by omega
          have Hm8 := Lib.hid hm8
          clear X8 t4 q4 hm8
          have hmul : wrap64 ((k : Int) * (n : Int)) = ((k * n : Nat) : Int) := by
            rcases (by omega : k = 1 ∨ k = 2 ∨ k = 3) with rfl | rfl | rfl <;> rcases (by omega : n = 1 ∨ n = 2) with rfl | rfl <;> decide +kernel
          go_wp2
          go_ret
          refine ⟨rfl, ?_⟩
          have hA := ((Hm1.out.trans0 Hw1.out).trans0 Hm5.out).trans0 (Mod.below Hb6.out)
          have hs := ((Hm1.out.trans0 Hw1.out).trans0 Hm5.out).size
          exact (hA.trans HUr.out.mod (fun x hx hfo => by have := Hft.out x hfo; omega)).trans0 Hm8.out
set_option maxHeartbeats 4000000 in
theorem spinEnds_mod (a0 a1 : Int) (w : World) :
    Calls Tryd.prog 3 #[.int .i64 a0, .int .i64 a1] w fun e w' => e = .returned (.bool true) ∧ Mod noF w w' := by
  by_cases c0 : a0 < 1
  · have d0 : decide (a0 < 1) = true := by simpa using c0
    go_enter Tryd.func3, Tryd.ntmps3
    go_wp2_with fail
    refine (locked_any w).mono ?_
    rintro e w1 ⟨rfl, hm1⟩
    have Hm1 := Lib.hid hm1
    clear hm1
    go_wp2
    go_ret
    exact ⟨rfl, Hm1.out⟩
  have d0 : decide (a0 < 1) = false := by simpa using c0
  by_cases c1 : 3 < a0
  · have d1 : decide (3 < a0) = true := by simpa using c1
    go_enter Tryd.func3, Tryd.ntmps3
    go_wp2_with fail
    refine (locked_any w).mono ?_
    rintro e w1 ⟨rfl, hm1⟩
    have Hm1 := Lib.hid hm1
    clear hm1
    go_wp2
    go_ret
    exact ⟨rfl, Hm1.out⟩
  have d1 : decide (3 < a0) = false := by simpa using c1
  by_cases c2 : a1 < 1
  · have d2 : decide (a1 < 1) = true := by simpa using c2
    go_enter Tryd.func3, Tryd.ntmps3
    go_wp2_with fail
    refine (locked_any w).mono ?_
    rintro e w1 ⟨rfl, hm1⟩
    have Hm1 := Lib.hid hm1
    clear hm1
    go_wp2
    go_ret
    exact ⟨rfl, Hm1.out⟩
  have d2 : decide (a1 < 1) = false := by simpa using c2
  by_cases c3 : 2 < a1
  · have d3 : decide (2 < a1) = true := by simpa using c3
    go_enter Tryd.func3, Tryd.ntmps3
    go_wp2_with fail
    refine (locked_any w).mono ?_
    rintro e w1 ⟨rfl, hm1⟩
    have Hm1 := Lib.hid hm1
    clear hm1
    go_wp2
    go_ret
    exact ⟨rfl, Hm1.out⟩
  have d3 : decide (2 < a1) = false := by simpa using c3
  obtain ⟨th, rfl⟩ := Int.eq_ofNat_of_zero_le (show 0 ≤ a0 by omega)
  obtain ⟨n, rfl⟩ := Int.eq_ofNat_of_zero_le (show 0 ≤ a1 by omega)
  exact spinEnds_in th n w (by omega) (by omega) (by omega) (by omega)
theorem spinEnds_any (a0 a1 : Int) (w : World) (_ : (Lit.int .i64 a0).wf = true) (_ : (Lit.int .i64 a1).wf = true) :
    Calls Tryd.prog 3 #[.int .i64 a0, .int .i64 a1] w fun e w' => e = .returned (.bool true) ∧ Below w.heap.size w w' :=
  (spinEnds_mod a0 a1 w).mono fun _ _ h => ⟨h.1, h.2.toBelow⟩
end Go.Proofs.YtamfbfajlfbooaaDoor
