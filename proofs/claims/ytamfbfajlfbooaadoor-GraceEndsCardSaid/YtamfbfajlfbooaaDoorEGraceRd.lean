/- quiescentlaw2.reader: its code. -/
import Derived.Test.YtamfbfajlfbooaaDoorEm6
import Derived.LoopTactic
set_option linter.unusedVariables false
set_option linter.unusedSimpArgs false
set_option linter.unusedSectionVars false
namespace Go.Proofs.YtamfbfajlfbooaaDoor
open Go.RowKit Qs Qh
theorem gcode_len : (List.range 5).all (fun f => decide ((gcode f 0).length ≤ 40) && decide ((gcode f 1).length ≤ 10) && decide ((gcode f 2).length ≤ 10)) = true := by decide +kernel
theorem gcode_lens {f : Nat} (h4 : f ≤ 4) : (gcode f 0).length ≤ 40 ∧ (gcode f 1).length ≤ 10 ∧ (gcode f 2).length ≤ 10 := by
  have := List.all_eq_true.1 gcode_len f (List.mem_range.2 (by omega))
  simpa [and_assoc] using this
theorem grParts_succ (f k a n : Nat) : grParts f k a (n + 1) = grParts f k a n ++ preC (qn (a + n + 1)) (gcode f k) := rfl
theorem grParts_len2 {f k B : Nat} (h : (gcode f k).length ≤ B) (a : Nat) : ∀ n, (grParts f k a n).length ≤ B * n
  | 0 => by simp [grParts]
  | n + 1 => by
    have ih := grParts_len2 h a n
    simp only [grParts, List.length_append, preC_len]
    rw [Nat.mul_succ]; omega
theorem rdSecs_len {f d r : Nat} (h4 : f ≤ 4) (hd : d ≤ 3) (hr : r ≤ 5) : ∀ n, (rdSecs f d r n).length ≤ 171 * n
  | 0 => by simp [rdSecs]
  | n + 1 => by
    have ih := rdSecs_len h4 hd hr n
    obtain ⟨g0, g1, g2⟩ := gcode_lens h4
    have p0 := grParts_len2 g0 (rdAt d n) d
    have p1 := grParts_len2 g1 (rdAt d n + d) d
    simp only [rdSecs, rdSec, List.length_append, preC_len, rdReads_len, rdLoad, List.length_cons, List.length_nil]
    omega
theorem rdAt_le {d k n : Nat} (hd : d = 1 ∨ d = 3) (hk : k ≤ n) (hn : n ≤ 3) : rdAt d k ≤ 21 ∧ (k < n → rdAt d k ≤ 14) := by
  unfold rdAt
  rcases hd with rfl | rfl <;> exact ⟨by omega, fun h => by omega⟩
theorem rdAt_succ (d k : Nat) : rdAt d (k + 1) = rdAt d k + 2 * d + 1 := by unfold rdAt; rw [Nat.succ_mul]; omega
set_option maxRecDepth 100000 in
set_option maxHeartbeats 16000000 in
theorem reader_true {f n r : Nat} (h1 : 1 ≤ f) (h4 : f ≤ 4) (hn : n ≤ 3) (hr : r ≤ 5) (w : World) :
    Calls Tryd.prog 100 #[.int .i64 f, .int .i64 n, .int .i64 r, .bool true] w fun e w' => ∃ v, e = .returned (.tuple #[v, .bool true]) ∧ Own w w' v (rdCode f 3 r n) := by
  obtain ⟨i0, hi, hz0, hz1, hz2⟩ := info_parts insInfo
  obtain ⟨G0, G1, G2⟩ := gcode_lens h4
  go_enter Tryd.func100, Tryd.ntmps100
  go_wp2
  go_loopw [10, 11, 12, 13, 14, 15, 16, 17, 18, 19, 20, 21, 22, 23] (fun v g a i _ _ _ _ _ _ _ _ _ _ wr => ∃ k : Nat, k ≤ n ∧ i = .int .i64 k ∧ a = .int .i64 (rdAt 3 k : Nat) ∧ g = .bool true ∧ Own w wr v (rdSecs f 3 r k)) (fun _ _ _ i _ _ _ _ _ _ _ _ _ _ _ => n - (intOf i).toNat)
  case atStart => exact ⟨0, Nat.zero_le _, rfl, by simp [rdAt], rfl, Own.start w⟩
  case round =>
    obtain ⟨k, hk, rfl, rfl, rfl, E⟩ := hrel
    obtain ⟨va, vb, vc, rfl⟩ := slice_of_own E.row
    have hlen := rdSecs_len (f := f) (d := 3) (r := r) h4 (by omega) hr k
    obtain ⟨hat1, hat2⟩ := rdAt_le (d := 3) (k := k) (n := n) (by omega) hk hn
    have hsu := rdAt_succ 3 k
    generalize hA : rdAt 3 k = A at *
    have HA := Lib.hid hA
    have Hsu := Lib.hid hsu
    have HE := Lib.hid E
    clear E hA hsu
    by_cases hlt : k < n
    · have hA14 := hat2 hlt
      have hd : decide ((k : Int) < (n : Int)) = true := by simp; omega
      clear hat2
      go_wp2
      go_loopw [10, 11, 12, 15, 16, 17] (fun v g a j _ _ wr => ∃ q : Nat, q ≤ 3 ∧ j = .int .i64 q ∧ (∃ B : Nat, B = A + q ∧ a = .int .i64 (B : Int)) ∧ g = .bool true ∧ Own w wr v (rdSecs f 3 r k ++ grParts f 0 A q)) (fun _ _ _ j _ _ _ => 3 - (intOf j).toNat)
      case atStart => exact ⟨0, Nat.zero_le _, rfl, ⟨A, by omega, rfl⟩, rfl, by simpa [grParts] using HE.out⟩
      case round =>
        obtain ⟨q, hq, rfl, ⟨B, hB, rfl⟩, rfl, E⟩ := hrel
        obtain ⟨xa, xb, xc, rfl⟩ := slice_of_own E.row
        have hlq := grParts_len2 G0 A q
        have hlenq : (rdSecs f 3 r k ++ grParts f 0 A q).length ≤ 1000 := by simp only [List.length_append]; omega
        have HE1 := Lib.hid E
        have HB := Lib.hid hB
        have hB24 : B ≤ 24 := by omega
        clear E hB
        by_cases hltq : q < 3
        · have hdq : decide ((q : Int) < 3) = true := by simp; omega
          go_wp2_with fail
          rw [show ((B : Int) + 1) = ((B + 1 : Nat) : Int) from by omega]
          refine (add_ok (k := 0) h1 h4 (by omega) (a := B + 1) (by omega) HE1.out hlenq).mono ?_
          rintro e w2 ⟨vw2, rfl, E2⟩
          obtain ⟨aw2, bw2, cw2, rfl⟩ := slice_of_own E2.row
          have HEw2 := Lib.hid E2
          clear E2
          go_wp2
          go_roundw
          case rel => exact ⟨q + 1, by omega, by go_num, ⟨B + 1, by have := HB.out; omega, by go_num⟩, rfl, by rw [grParts_succ f 0 A q, ← List.append_assoc, ← HB.out]; exact HEw2.out⟩
          case measure => simp [intOf]; omega
        · have hdq : decide ((q : Int) < 3) = false := by simp; omega
          obtain rfl : q = 3 := by omega
          go_wp2_with (at_builtin; refine wpList_append_mine _ rfl (.tmp 51) (.tmp 53) 28 rfl 124 i0 (.agg #[.string ⟨#[]⟩, .int .i64 0, .int .i64 0, .int .i64 0, .string ⟨#[]⟩]) 5 56 Tryd.underlying28 hi hz0 hz1 hz2 rfl (by decide) _ _ (flat insV 0 ((rdSecs f 3 r k ++ grParts f 0 A 3))) rfl (World.ownsRow.alloc HE1.out.row _) ⟨wr.heap.size, 0, none⟩ 1 1 (flat insV 0 (rdLoad)) rfl rfl (new_cells wr (flat insV 0 (rdLoad)) _) (insV_one _ _) (len_ok hlenq (by simp)) (len_ok2 hlenq (by simp)) ?_; intro vw3 w3 hown hgr hfr hz; have R := HE1.out.append (x := rdLoad) ((Mod.refl _ _).alloc _) hown hgr hfr; obtain ⟨aw3, bw3, cw3, rfl⟩ := slice_of_own hown; have HEw3 := Lib.hid R; clear R hown hgr hfr hz)
          go_loopw [10, 18] (fun v j wr => ∃ q : Nat, q ≤ r ∧ j = .int .i64 q ∧ Own w wr v (((rdSecs f 3 r k ++ grParts f 0 A 3) ++ rdLoad) ++ rdReads q)) (fun _ j _ => r - (intOf j).toNat)
          case atStart => exact ⟨0, Nat.zero_le _, rfl, by simpa [rdReads] using HEw3.out⟩
          case round =>
            obtain ⟨q, hq, rfl, E⟩ := hrel
            obtain ⟨ya, yb, yc, rfl⟩ := slice_of_own E.row
            have hlr : (((rdSecs f 3 r k ++ grParts f 0 A 3) ++ rdLoad) ++ rdReads q).length ≤ 1000 := by simp only [List.length_append, rdLoad, rdReads_len, List.length_cons, List.length_nil]; simp only [List.length_append] at hlenq; omega
            have HE4 := Lib.hid E
            clear E
            by_cases hltr : q < r
            · have hdr : decide ((q : Int) < (r : Int)) = true := by simp; omega
              go_wp2_with (at_builtin; refine wpList_append_mine _ rfl (.tmp 60) (.tmp 63) 28 rfl 124 i0 (.agg #[.string ⟨#[]⟩, .int .i64 0, .int .i64 0, .int .i64 0, .string ⟨#[]⟩]) 5 56 Tryd.underlying28 hi hz0 hz1 hz2 rfl (by decide) _ _ (flat insV 0 (((rdSecs f 3 r k ++ grParts f 0 A 3) ++ rdLoad) ++ rdReads q)) rfl (World.ownsRow.alloc HE4.out.row _) ⟨wr.heap.size, 0, none⟩ 2 2 (flat insV 0 ([⟨6, 4, 3, 0, []⟩, ⟨19, 4, 0, 0, []⟩])) rfl rfl (new_cells wr (flat insV 0 ([⟨6, 4, 3, 0, []⟩, ⟨19, 4, 0, 0, []⟩])) _) (insV_one _ _) (len_ok hlr (by simp)) (len_ok2 hlr (by simp)) ?_; intro vw5 w5 hown hgr hfr hz; have R := HE4.out.append (x := [⟨6, 4, 3, 0, []⟩, ⟨19, 4, 0, 0, []⟩]) ((Mod.refl _ _).alloc _) hown hgr hfr; obtain ⟨aw5, bw5, cw5, rfl⟩ := slice_of_own hown; have HEw5 := Lib.hid R; clear R hown hgr hfr hz)
              go_roundw
              case rel => exact ⟨q + 1, by omega, by go_num, by rw [rdReads, ← List.append_assoc]; exact HEw5.out⟩
              case measure => simp [intOf]; omega
            · have hdr : decide ((q : Int) < (r : Int)) = false := by simp; omega
              obtain rfl : r = q := by omega
              go_wp2
              go_loopw [10, 11, 12, 19, 20, 21] (fun v g a j _ _ wr => ∃ p : Nat, p ≤ 3 ∧ j = .int .i64 p ∧ (∃ B : Nat, B = A + 3 + p ∧ a = .int .i64 (B : Int)) ∧ g = .bool true ∧ Own w wr v ((((rdSecs f 3 r k ++ grParts f 0 A 3) ++ rdLoad) ++ rdReads r) ++ grParts f 1 (A + 3) p)) (fun _ _ _ j _ _ _ => 3 - (intOf j).toNat)
              case atStart => exact ⟨0, Nat.zero_le _, rfl, ⟨B, by have := HB.out; omega, rfl⟩, rfl, by simpa [grParts] using HE4.out⟩
              case round =>
                obtain ⟨p, hp, rfl, ⟨C, hC, rfl⟩, rfl, E⟩ := hrel
                obtain ⟨za, zb, zc, rfl⟩ := slice_of_own E.row
                have hlp := grParts_len2 G1 (A + 3) p
                have hlenp : ((((rdSecs f 3 r k ++ grParts f 0 A 3) ++ rdLoad) ++ rdReads r) ++ grParts f 1 (A + 3) p).length ≤ 1000 := by simp only [List.length_append, rdLoad, rdReads_len, List.length_cons, List.length_nil] at hlenq ⊢; omega
                have HE6 := Lib.hid E
                have HC := Lib.hid hC
                have hC24 : C ≤ 30 := by omega
                clear E hC
                by_cases hltp : p < 3
                · have hdp : decide ((p : Int) < 3) = true := by simp; omega
                  go_wp2_with fail
                  rw [show ((C : Int) + 1) = ((C + 1 : Nat) : Int) from by omega]
                  refine (add_ok (k := 1) h1 h4 (by omega) (a := C + 1) (by omega) HE6.out hlenp).mono ?_
                  rintro e w7 ⟨vw7, rfl, E2⟩
                  obtain ⟨aw7, bw7, cw7, rfl⟩ := slice_of_own E2.row
                  have HEw7 := Lib.hid E2
                  clear E2
                  go_wp2
                  go_roundw
                  case rel => exact ⟨p + 1, by omega, by go_num, ⟨C + 1, by have := HC.out; omega, by go_num⟩, rfl, by rw [grParts_succ f 1 (A + 3) p, ← List.append_assoc, ← HC.out]; exact HEw7.out⟩
                  case measure => simp [intOf]; omega
                · have hdp : decide ((p : Int) < 3) = false := by simp; omega
                  obtain rfl : p = 3 := by omega
                  go_wp2_with fail
                  rw [show ((C : Int) + 1) = ((C + 1 : Nat) : Int) from by omega]
                  refine (add_ok (k := 2) h1 h4 (by omega) (a := C + 1) (by omega) HE6.out hlenp).mono ?_
                  rintro e w8 ⟨vw8, rfl, E2⟩
                  obtain ⟨aw8, bw8, cw8, rfl⟩ := slice_of_own E2.row
                  have HEw8 := Lib.hid E2
                  clear E2
                  go_wp2
                  go_roundw
                  case rel =>
                    refine ⟨k + 1, by omega, by go_num, by rw [Hsu.out, show A + 2 * 3 + 1 = C + 1 from by have := HC.out; omega]; go_num, rfl, ?_⟩
                    have h8 := HEw8.out
                    rw [show C + 1 = A + 2 * 3 + 1 from by have := HC.out; omega] at h8
                    simp only [rdSecs, rdSec, HA.out]
                    exact h8
                  case measure => simp [intOf]; omega
    · have hd : decide ((k : Int) < (n : Int)) = false := by simp; omega
      obtain rfl : k = n := by omega
      go_wp2_with fail
      rw [show ((A : Int) + 1) = ((A + 1 : Nat) : Int) from by omega]
      refine (add_ok (k := 3) h1 h4 (by omega) (a := A + 1) (by omega) HE.out (by omega)).mono ?_
      rintro e w2 ⟨v2, rfl, E2⟩
      obtain ⟨a2, b2, c2, rfl⟩ := slice_of_own E2.row
      have HE2 := Lib.hid E2
      clear E2
      go_wp2
      go_ret2
      exact ⟨_, rfl, by unfold rdCode; rw [HA.out]; exact HE2.out⟩
set_option maxRecDepth 100000 in
set_option maxHeartbeats 16000000 in
theorem reader_false {f n r : Nat} (h1 : 1 ≤ f) (h4 : f ≤ 4) (hn : n ≤ 3) (hr : r ≤ 5) (w : World) :
    Calls Tryd.prog 100 #[.int .i64 f, .int .i64 n, .int .i64 r, .bool false] w fun e w' => ∃ v, e = .returned (.tuple #[v, .bool true]) ∧ Own w w' v (rdCode f 1 r n) := by
  obtain ⟨i0, hi, hz0, hz1, hz2⟩ := info_parts insInfo
  obtain ⟨G0, G1, G2⟩ := gcode_lens h4
  go_enter Tryd.func100, Tryd.ntmps100
  go_wp2
  go_loopw [10, 11, 12, 13, 14, 15, 16, 17, 18, 19, 20, 21, 22, 23] (fun v g a i _ _ _ _ _ _ _ _ _ _ wr => ∃ k : Nat, k ≤ n ∧ i = .int .i64 k ∧ a = .int .i64 (rdAt 1 k : Nat) ∧ g = .bool true ∧ Own w wr v (rdSecs f 1 r k)) (fun _ _ _ i _ _ _ _ _ _ _ _ _ _ _ => n - (intOf i).toNat)
  case atStart => exact ⟨0, Nat.zero_le _, rfl, by simp [rdAt], rfl, Own.start w⟩
  case round =>
    obtain ⟨k, hk, rfl, rfl, rfl, E⟩ := hrel
    obtain ⟨va, vb, vc, rfl⟩ := slice_of_own E.row
    have hlen := rdSecs_len (f := f) (d := 1) (r := r) h4 (by omega) hr k
    obtain ⟨hat1, hat2⟩ := rdAt_le (d := 1) (k := k) (n := n) (by omega) hk hn
    have hsu := rdAt_succ 1 k
    generalize hA : rdAt 1 k = A at *
    have HA := Lib.hid hA
    have Hsu := Lib.hid hsu
    have HE := Lib.hid E
    clear E hA hsu
    by_cases hlt : k < n
    · have hA14 := hat2 hlt
      have hd : decide ((k : Int) < (n : Int)) = true := by simp; omega
      clear hat2
      go_wp2
      go_loopw [10, 11, 12, 15, 16, 17] (fun v g a j _ _ wr => ∃ q : Nat, q ≤ 1 ∧ j = .int .i64 q ∧ (∃ B : Nat, B = A + q ∧ a = .int .i64 (B : Int)) ∧ g = .bool true ∧ Own w wr v (rdSecs f 1 r k ++ grParts f 0 A q)) (fun _ _ _ j _ _ _ => 1 - (intOf j).toNat)
      case atStart => exact ⟨0, Nat.zero_le _, rfl, ⟨A, by omega, rfl⟩, rfl, by simpa [grParts] using HE.out⟩
      case round =>
        obtain ⟨q, hq, rfl, ⟨B, hB, rfl⟩, rfl, E⟩ := hrel
        obtain ⟨xa, xb, xc, rfl⟩ := slice_of_own E.row
        have hlq := grParts_len2 G0 A q
        have hlenq : (rdSecs f 1 r k ++ grParts f 0 A q).length ≤ 1000 := by simp only [List.length_append]; omega
        have HE1 := Lib.hid E
        have HB := Lib.hid hB
        have hB24 : B ≤ 24 := by omega
        clear E hB
        by_cases hltq : q < 1
        · have hdq : decide ((q : Int) < 1) = true := by simp; omega
          go_wp2_with fail
          rw [show ((B : Int) + 1) = ((B + 1 : Nat) : Int) from by omega]
          refine (add_ok (k := 0) h1 h4 (by omega) (a := B + 1) (by omega) HE1.out hlenq).mono ?_
          rintro e w2 ⟨vw2, rfl, E2⟩
          obtain ⟨aw2, bw2, cw2, rfl⟩ := slice_of_own E2.row
          have HEw2 := Lib.hid E2
          clear E2
          go_wp2
          go_roundw
          case rel => exact ⟨q + 1, by omega, by go_num, ⟨B + 1, by have := HB.out; omega, by go_num⟩, rfl, by rw [grParts_succ f 0 A q, ← List.append_assoc, ← HB.out]; exact HEw2.out⟩
          case measure => simp [intOf]; omega
        · have hdq : decide ((q : Int) < 1) = false := by simp; omega
          obtain rfl : q = 1 := by omega
          go_wp2_with (at_builtin; refine wpList_append_mine _ rfl (.tmp 51) (.tmp 53) 28 rfl 124 i0 (.agg #[.string ⟨#[]⟩, .int .i64 0, .int .i64 0, .int .i64 0, .string ⟨#[]⟩]) 5 56 Tryd.underlying28 hi hz0 hz1 hz2 rfl (by decide) _ _ (flat insV 0 ((rdSecs f 1 r k ++ grParts f 0 A 1))) rfl (World.ownsRow.alloc HE1.out.row _) ⟨wr.heap.size, 0, none⟩ 1 1 (flat insV 0 (rdLoad)) rfl rfl (new_cells wr (flat insV 0 (rdLoad)) _) (insV_one _ _) (len_ok hlenq (by simp)) (len_ok2 hlenq (by simp)) ?_; intro vw3 w3 hown hgr hfr hz; have R := HE1.out.append (x := rdLoad) ((Mod.refl _ _).alloc _) hown hgr hfr; obtain ⟨aw3, bw3, cw3, rfl⟩ := slice_of_own hown; have HEw3 := Lib.hid R; clear R hown hgr hfr hz)
          go_loopw [10, 18] (fun v j wr => ∃ q : Nat, q ≤ r ∧ j = .int .i64 q ∧ Own w wr v (((rdSecs f 1 r k ++ grParts f 0 A 1) ++ rdLoad) ++ rdReads q)) (fun _ j _ => r - (intOf j).toNat)
          case atStart => exact ⟨0, Nat.zero_le _, rfl, by simpa [rdReads] using HEw3.out⟩
          case round =>
            obtain ⟨q, hq, rfl, E⟩ := hrel
            obtain ⟨ya, yb, yc, rfl⟩ := slice_of_own E.row
            have hlr : (((rdSecs f 1 r k ++ grParts f 0 A 1) ++ rdLoad) ++ rdReads q).length ≤ 1000 := by simp only [List.length_append, rdLoad, rdReads_len, List.length_cons, List.length_nil]; simp only [List.length_append] at hlenq; omega
            have HE4 := Lib.hid E
            clear E
            by_cases hltr : q < r
            · have hdr : decide ((q : Int) < (r : Int)) = true := by simp; omega
              go_wp2_with (at_builtin; refine wpList_append_mine _ rfl (.tmp 60) (.tmp 63) 28 rfl 124 i0 (.agg #[.string ⟨#[]⟩, .int .i64 0, .int .i64 0, .int .i64 0, .string ⟨#[]⟩]) 5 56 Tryd.underlying28 hi hz0 hz1 hz2 rfl (by decide) _ _ (flat insV 0 (((rdSecs f 1 r k ++ grParts f 0 A 1) ++ rdLoad) ++ rdReads q)) rfl (World.ownsRow.alloc HE4.out.row _) ⟨wr.heap.size, 0, none⟩ 2 2 (flat insV 0 ([⟨6, 4, 3, 0, []⟩, ⟨19, 4, 0, 0, []⟩])) rfl rfl (new_cells wr (flat insV 0 ([⟨6, 4, 3, 0, []⟩, ⟨19, 4, 0, 0, []⟩])) _) (insV_one _ _) (len_ok hlr (by simp)) (len_ok2 hlr (by simp)) ?_; intro vw5 w5 hown hgr hfr hz; have R := HE4.out.append (x := [⟨6, 4, 3, 0, []⟩, ⟨19, 4, 0, 0, []⟩]) ((Mod.refl _ _).alloc _) hown hgr hfr; obtain ⟨aw5, bw5, cw5, rfl⟩ := slice_of_own hown; have HEw5 := Lib.hid R; clear R hown hgr hfr hz)
              go_roundw
              case rel => exact ⟨q + 1, by omega, by go_num, by rw [rdReads, ← List.append_assoc]; exact HEw5.out⟩
              case measure => simp [intOf]; omega
            · have hdr : decide ((q : Int) < (r : Int)) = false := by simp; omega
              obtain rfl : r = q := by omega
              go_wp2
              go_loopw [10, 11, 12, 19, 20, 21] (fun v g a j _ _ wr => ∃ p : Nat, p ≤ 1 ∧ j = .int .i64 p ∧ (∃ B : Nat, B = A + 1 + p ∧ a = .int .i64 (B : Int)) ∧ g = .bool true ∧ Own w wr v ((((rdSecs f 1 r k ++ grParts f 0 A 1) ++ rdLoad) ++ rdReads r) ++ grParts f 1 (A + 1) p)) (fun _ _ _ j _ _ _ => 1 - (intOf j).toNat)
              case atStart => exact ⟨0, Nat.zero_le _, rfl, ⟨B, by have := HB.out; omega, rfl⟩, rfl, by simpa [grParts] using HE4.out⟩
              case round =>
                obtain ⟨p, hp, rfl, ⟨C, hC, rfl⟩, rfl, E⟩ := hrel
                obtain ⟨za, zb, zc, rfl⟩ := slice_of_own E.row
                have hlp := grParts_len2 G1 (A + 1) p
                have hlenp : ((((rdSecs f 1 r k ++ grParts f 0 A 1) ++ rdLoad) ++ rdReads r) ++ grParts f 1 (A + 1) p).length ≤ 1000 := by simp only [List.length_append, rdLoad, rdReads_len, List.length_cons, List.length_nil] at hlenq ⊢; omega
                have HE6 := Lib.hid E
                have HC := Lib.hid hC
                have hC24 : C ≤ 30 := by omega
                clear E hC
                by_cases hltp : p < 1
                · have hdp : decide ((p : Int) < 1) = true := by simp; omega
                  go_wp2_with fail
                  rw [show ((C : Int) + 1) = ((C + 1 : Nat) : Int) from by omega]
                  refine (add_ok (k := 1) h1 h4 (by omega) (a := C + 1) (by omega) HE6.out hlenp).mono ?_
                  rintro e w7 ⟨vw7, rfl, E2⟩
                  obtain ⟨aw7, bw7, cw7, rfl⟩ := slice_of_own E2.row
                  have HEw7 := Lib.hid E2
                  clear E2
                  go_wp2
                  go_roundw
                  case rel => exact ⟨p + 1, by omega, by go_num, ⟨C + 1, by have := HC.out; omega, by go_num⟩, rfl, by rw [grParts_succ f 1 (A + 1) p, ← List.append_assoc, ← HC.out]; exact HEw7.out⟩
                  case measure => simp [intOf]; omega
                · have hdp : decide ((p : Int) < 1) = false := by simp; omega
                  obtain rfl : p = 1 := by omega
                  go_wp2_with fail
                  rw [show ((C : Int) + 1) = ((C + 1 : Nat) : Int) from by omega]
                  refine (add_ok (k := 2) h1 h4 (by omega) (a := C + 1) (by omega) HE6.out hlenp).mono ?_
                  rintro e w8 ⟨vw8, rfl, E2⟩
                  obtain ⟨aw8, bw8, cw8, rfl⟩ := slice_of_own E2.row
                  have HEw8 := Lib.hid E2
                  clear E2
                  go_wp2
                  go_roundw
                  case rel =>
                    refine ⟨k + 1, by omega, by go_num, by rw [Hsu.out, show A + 2 * 1 + 1 = C + 1 from by have := HC.out; omega]; go_num, rfl, ?_⟩
                    have h8 := HEw8.out
                    rw [show C + 1 = A + 2 * 1 + 1 from by have := HC.out; omega] at h8
                    simp only [rdSecs, rdSec, HA.out]
                    exact h8
                  case measure => simp [intOf]; omega
    · have hd : decide ((k : Int) < (n : Int)) = false := by simp; omega
      obtain rfl : k = n := by omega
      go_wp2_with fail
      rw [show ((A : Int) + 1) = ((A + 1 : Nat) : Int) from by omega]
      refine (add_ok (k := 3) h1 h4 (by omega) (a := A + 1) (by omega) HE.out (by omega)).mono ?_
      rintro e w2 ⟨v2, rfl, E2⟩
      obtain ⟨a2, b2, c2, rfl⟩ := slice_of_own E2.row
      have HE2 := Lib.hid E2
      clear E2
      go_wp2
      go_ret2
      exact ⟨_, rfl, by unfold rdCode; rw [HA.out]; exact HE2.out⟩
end Go.Proofs.YtamfbfajlfbooaaDoor
