/- GraceCode, walked. -/
import Derived.Test.YtamfbfajlfbooaaDoorGGraceP
import Derived.Test.YtamfbfajlfbooaaDoorGGraceBad
import Derived.Test.YtamfbfajlfbooaaDoorGCoded2
import Derived.Test.YtamfbfajlfbooaaDoorGSpinCodeW
set_option linter.unusedVariables false
set_option linter.unusedSimpArgs false
set_option linter.unusedSectionVars false
namespace Go.Proofs.YtamfbfajlfbooaaDoor
open Go.RowKit Qs Qh
variable {w0 w w1 : World} {b o : Nat} {v0 : Value} {l : List Instr} {br s : ByteArray} {fe jo co : Bool} {u : Value} {c : Nat}
theorem isFlavour_any (f : Int) (w : World) : Calls Tryd.prog 79 #[.int .i64 f] w fun e w' => e = .returned (.bool (decide (1 ≤ f) && decide (f ≤ 4))) ∧ w = w' := by
  by_cases h : 1 ≤ f
  · have d : decide (1 ≤ f) = true := by simpa using h
    go_enter Tryd.func79, Tryd.ntmps79
    go_wp2
    go_ret
    exact ⟨by simp [h], rfl⟩
  · have d : decide (1 ≤ f) = false := by simpa using h
    go_enter Tryd.func79, Tryd.ntmps79
    go_wp2
    go_ret
    exact ⟨by simp [h], rfl⟩
theorem nameW : nameB (⟨#[119]⟩ : ByteArray).data.toList = true := by decide
theorem gwait_any {f : Nat} (h1 : 1 ≤ f) (h4 : f ≤ 4) (s : ByteArray) (w : World) (hn : nameB s.data.toList = true) (hs : s.size ≤ 4) :
    Calls Tryd.prog 97 #[.int .i64 f, .string s] w fun e w' => ∃ v, e = .returned (.tuple #[v, .nilIface]) ∧ Made (preC s.data.toList (gcode f 4)) w v w' := by
  match f, h1, h4 with
  | 1, _, _ => exact gwait1_ok s w hn hs
  | 2, _, _ => exact gwait2_ok s w hn hs
  | 3, _, _ => exact gwait3_ok s w hn hs
  | 4, _, _ => exact gwait4_ok s w hn hs
theorem gwait_pos {f : Nat} (h1 : 1 ≤ f) (h4 : f ≤ 4) (p : List UInt8) : 0 < (preC p (gcode f 4)).length := by
  rw [preC_len]
  match f, h1, h4 with
  | 1, _, _ => decide
  | 2, _, _ => decide
  | 3, _, _ => decide
  | 4, _, _ => decide
set_option maxHeartbeats 4000000 in
theorem flavoured_any (w : World) : Calls Tryd.prog 40 #[] w fun e w' => e = .returned (.bool true) ∧ Mod noF w w' := by
  go_enter Tryd.func40, Tryd.ntmps40
  go_wp2
  go_loopw [1, 2, 3] (fun i _ _ wr => ∃ k : Nat, 1 ≤ k ∧ k ≤ 5 ∧ i = .int .i64 k ∧ Mod noF w wr) (fun i _ _ _ => 5 - (intOf i).toNat)
  case atStart => exact ⟨1, by omega, by omega, rfl, Mod.refl _ _⟩
  case round =>
    rename_i wr
    obtain ⟨k, hk1, hk, rfl, hm⟩ := hrel
    have Hm := Lib.hid hm
    clear hm
    by_cases hlt : k ≤ 4
    · have hd : decide ((k : Int) ≤ 4) = true := by simp; omega
      go_wp2_with fail
      refine (gwait_any hk1 hlt ⟨#[119]⟩ _ nameW (by decide)).mono ?_
      rintro e x1 ⟨v, rfl, hv⟩
      obtain ⟨g, c, rfl, _⟩ := InsRow.src hv.1 (gwait_pos hk1 hlt _)
      have Hv := Lib.hid (Hm.out.trans0 (Mod.below hv.2.1))
      have hp := gwait_pos hk1 hlt (⟨#[119]⟩ : ByteArray).data.toList
      generalize (preC (⟨#[119]⟩ : ByteArray).data.toList (gcode k 4)).length = n at hp
      have h0 : ((n : Int) == 0) = false := by rw [beq_eq_false_iff_ne]; omega
      clear hv
      go_wp2
      go_roundw
      case rel => exact ⟨k + 1, by omega, by omega, by go_num, Hv.out⟩
      case measure => simp [intOf]; omega
    · have hd : decide ((k : Int) ≤ 4) = false := by simp; omega
      go_wp2
      go_ret
      exact ⟨rfl, Hm.out⟩
set_option maxRecDepth 100000 in
set_option maxHeartbeats 8000000 in
theorem gc_bound (f : Int) (s : ByteArray) (w : World) (a : Nat → Addr) (E : ErrsAt w a) (hl : s.size ≤ 100) (hf : ¬ (1 ≤ f ∧ f ≤ 4)) :
    Calls Tryd.prog 19 #[.int .i64 f, .string s] w fun e w' => e = .returned (.bool true) ∧ Mod noF w w' := by
  have hl100 : decide ((100 : Int) < (s.size : Int)) = false := by simp; omega
  have hfl : (decide (1 ≤ f) && decide (f ≤ 4)) = false := by
    by_cases h : 1 ≤ f
    · have : ¬ f ≤ 4 := fun h2 => hf ⟨h, h2⟩
      simp [this]
    · simp [h]
  have HE := Lib.hid E
  have Hf := Lib.hid hf
  have Hfl := Lib.hid hfl
  clear E hf hfl
  go_enter Tryd.func19, Tryd.ntmps19
  go_wp2_with fail
  refine (flavoured_any w).mono ?_
  rintro e w1 ⟨rfl, hm1⟩
  have Hm1 := Lib.hid hm1
  clear hm1
  go_wp2_with fail
  refine (isFlavour_any f w1).mono ?_
  rintro e w2 ⟨rfl, rfl⟩
  rw [Hfl.out]
  go_wp2
  go_loopw [7, 8, 9, 10, 11, 12] (fun i _ _ _ _ _ wr => ∃ k : Nat, k ≤ 5 ∧ i = .int .i64 k ∧ Mod noF w wr) (fun i _ _ _ _ _ _ => 5 - (intOf i).toNat)
  case atStart => exact ⟨0, by omega, rfl, Hm1.out⟩
  case round =>
    rename_i wr
    obtain ⟨k, hk, rfl, hm⟩ := hrel
    have Hm := Lib.hid hm
    clear hm
    by_cases hlt : k < 5
    · have hd : decide ((k : Int) < 5) = true := by simp; omega
      have hpb := parts_bad hlt f s wr a 1 (fun w1 hw => begin_bound f Hf.out s w1 a (HE.out.keep (Hm.out.trans0 hw)))
      unfold errV at hpb
      have Hpb := Lib.hid hpb
      clear hpb
      go_wp2_with fail
      refine Hpb.out.mono ?_
      rintro e x1 ⟨rfl, hx⟩
      have Hx := Lib.hid (Hm.out.trans0 hx)
      clear hx
      go_wp2_with fail
      have hcd := coded2_at (HE.out.keep Hx.out) 1 (by omega) 2
      rw [show decide ((2 : Int) = ((1 : Nat) : Int) + 1) = true by decide] at hcd
      unfold errV at hcd
      refine hcd.mono ?_
      rintro e x2 ⟨rfl, hm3⟩
      have Hm3 := Lib.hid (Hx.out.trans0 hm3)
      clear hcd hm3
      go_wp2
      go_roundw
      case rel => exact ⟨k + 1, by omega, by go_num, Hm3.out⟩
      case measure => simp [intOf]; omega
    · have hd : decide ((k : Int) < 5) = false := by simp; omega
      have h1 := ghub_bad f Hf.out wr a (HE.out.keep Hm.out)
      have h2 := fun (w1 : World) (hw : Mod noF wr w1) => gown_bad f Hf.out w1 a (HE.out.keep (Hm.out.trans0 hw))
      have h3 := fun (w1 : World) (hw : Mod noF wr w1) => glink_bad f Hf.out w1 a (HE.out.keep (Hm.out.trans0 hw))
      unfold errV at h1 h2 h3
      have H1 := Lib.hid h1
      have H2 := Lib.hid h2
      have H3 := Lib.hid h3
      clear h1 h2 h3
      go_wp2_with fail
      refine H1.out.mono ?_
      rintro e x1 ⟨rfl, hx1⟩
      go_wp2_with fail
      refine (H2.out x1 hx1).mono ?_
      rintro e x2 ⟨rfl, hx2⟩
      go_wp2_with fail
      refine (H3.out x2 (hx1.trans0 hx2)).mono ?_
      rintro e x3 ⟨rfl, hx3⟩
      have Hx0 := Lib.hid (Hm.out.trans0 ((hx1.trans0 hx2).trans0 hx3))
      clear hx1 hx2 hx3
      go_wp2_with fail
      have hcd := coded2_at (HE.out.keep Hx0.out) 1 (by omega) 2
      rw [show decide ((2 : Int) = ((1 : Nat) : Int) + 1) = true by decide] at hcd
      unfold errV at hcd
      refine hcd.mono ?_
      rintro e y1 ⟨rfl, hm3⟩
      have Hx1 := Lib.hid (Hx0.out.trans0 hm3)
      clear hcd hm3
      go_wp2_with fail
      have hcd := coded2_at (HE.out.keep Hx1.out) 1 (by omega) 2
      rw [show decide ((2 : Int) = ((1 : Nat) : Int) + 1) = true by decide] at hcd
      unfold errV at hcd
      refine hcd.mono ?_
      rintro e y2 ⟨rfl, hm3⟩
      have Hx2 := Lib.hid (Hx1.out.trans0 hm3)
      clear hcd hm3
      go_wp2_with fail
      have hcd := coded2_at (HE.out.keep Hx2.out) 1 (by omega) 2
      rw [show decide ((2 : Int) = ((1 : Nat) : Int) + 1) = true by decide] at hcd
      unfold errV at hcd
      refine hcd.mono ?_
      rintro e y3 ⟨rfl, hm3⟩
      have Hx3 := Lib.hid (Hx2.out.trans0 hm3)
      clear hcd hm3
      go_wp2
      go_ret
      exact ⟨rfl, Hx3.out⟩
set_option maxRecDepth 100000 in
set_option maxHeartbeats 8000000 in
theorem gc_name1 (s : ByteArray) (w : World) (a : Nat → Addr) (E : ErrsAt w a) (hl : s.size ≤ 100) (hn : (nameB s.data.toList && decide ((s.size : Int) ≤ 4)) = false) :
    Calls Tryd.prog 19 #[.int .i64 1, .string s] w fun e w' => e = .returned (.bool true) ∧ Mod noF w w' := by
  have hl100 : decide ((100 : Int) < (s.size : Int)) = false := by simp; omega
  have hs : s.size ≤ maxLen := by unfold maxLen; omega
  have hnn : nameB s.data.toList = false ∨ (4 : Int) < (s.size : Int) := by
    cases h : nameB s.data.toList with
    | false => exact .inl rfl
    | true => right; rw [h] at hn; simp at hn; omega
  have Hn := Lib.hid hn
  have HE := Lib.hid E
  have Hnn := Lib.hid hnn
  clear E hn hnn
  go_enter Tryd.func19, Tryd.ntmps19
  go_wp2_with fail
  refine (flavoured_any w).mono ?_
  rintro e w1 ⟨rfl, hm1⟩
  have Hm1 := Lib.hid hm1
  clear hm1
  go_wp2_with fail
  refine (isFlavour_any 1 w1).mono ?_
  rintro e w2 ⟨rfl, rfl⟩
  rw [show (decide ((1 : Int) ≤ 1) && decide ((1 : Int) ≤ 4)) = true by decide]
  go_wp2
  go_loopw [7, 8, 9, 10, 11, 12] (fun i _ _ _ _ _ wr => ∃ k : Nat, k ≤ 5 ∧ i = .int .i64 k ∧ Mod noF w wr) (fun i _ _ _ _ _ _ => 5 - (intOf i).toNat)
  case atStart => exact ⟨0, by omega, rfl, Hm1.out⟩
  case round =>
    rename_i wr
    obtain ⟨k, hk, rfl, hm⟩ := hrel
    have Hm := Lib.hid hm
    clear hm
    by_cases hlt : k < 5
    · have hd : decide ((k : Int) < 5) = true := by simp; omega
      have hpb := parts_bad hlt 1 s wr a 3 (fun w1 hw => begin_name1 s w1 a (HE.out.keep (Hm.out.trans0 hw)) hs Hnn.out)
      unfold errV at hpb
      have Hpb := Lib.hid hpb
      clear hpb
      go_wp2_with fail
      refine Hpb.out.mono ?_
      rintro e x1 ⟨rfl, hx⟩
      have Hx := Lib.hid (Hm.out.trans0 hx)
      clear hx
      go_wp2_with fail
      refine (isPrefix_any s 4 x1 hs).mono ?_
      rintro e x2 ⟨rfl, rfl⟩
      rw [Hn.out]
      go_wp2_with fail
      have hcd := coded2_at (HE.out.keep Hx.out) 3 (by omega) 4
      rw [show decide ((4 : Int) = ((3 : Nat) : Int) + 1) = true by decide] at hcd
      unfold errV at hcd
      refine hcd.mono ?_
      rintro e x2 ⟨rfl, hm3⟩
      have Hm3 := Lib.hid (Hx.out.trans0 hm3)
      clear hcd hm3
      go_wp2
      go_roundw
      case rel => exact ⟨k + 1, by omega, by go_num, Hm3.out⟩
      case measure => simp [intOf]; omega
    · have hd : decide ((k : Int) < 5) = false := by simp; omega
      go_wp2_with fail
      refine (ghub1 wr).mono ?_
      rintro e x1 ⟨v1, rfl, b1, rfl, -, -, -, hm1⟩
      have Hx1 := Lib.hid (Hm.out.trans0 hm1)
      clear hm1
      go_wp2_with fail
      refine (gown1 x1).mono ?_
      rintro e x2 ⟨v2, rfl, b2, rfl, -, -, -, hm2⟩
      have Hx2 := Lib.hid (Hx1.out.trans0 hm2)
      clear hm2
      go_wp2_with fail
      refine (glink1 x2).mono ?_
      rintro e x3 ⟨rfl, hm3⟩
      have Hx3 := Lib.hid (Hx2.out.trans0 hm3)
      clear hm3
      go_wp2
      go_ret
      exact ⟨rfl, Hx3.out⟩
set_option maxRecDepth 100000 in
set_option maxHeartbeats 8000000 in
theorem gc_good1 (s : ByteArray) (w : World) (hl : s.size ≤ 100) (hn : (nameB s.data.toList && decide ((s.size : Int) ≤ 4)) = true) :
    Calls Tryd.prog 19 #[.int .i64 1, .string s] w fun e w' => e = .returned (.bool true) ∧ Mod noF w w' := by
  have hl100 : decide ((100 : Int) < (s.size : Int)) = false := by simp; omega
  have hs : s.size ≤ maxLen := by unfold maxLen; omega
  have Hn := Lib.hid hn
  simp only [Bool.and_eq_true, decide_eq_true_eq] at hn
  obtain ⟨hn1, hn4⟩ := hn
  have hn4' : s.size ≤ 4 := by omega
  have hl4 : s.data.toList.length ≤ 4 := by have := bytes_len s; omega
  have Hn1 := Lib.hid hn1
  have Hl4 := Lib.hid hl4
  clear hn1 hl4
  go_enter Tryd.func19, Tryd.ntmps19
  go_wp2_with fail
  refine (flavoured_any w).mono ?_
  rintro e w1 ⟨rfl, hm1⟩
  have Hm1 := Lib.hid hm1
  clear hm1
  go_wp2_with fail
  refine (isFlavour_any 1 w1).mono ?_
  rintro e w2 ⟨rfl, rfl⟩
  rw [show (decide ((1 : Int) ≤ 1) && decide ((1 : Int) ≤ 4)) = true by decide]
  go_wp2
  go_loopw [7, 8, 9, 10, 11, 12] (fun i _ _ _ _ _ wr => ∃ k : Nat, k ≤ 5 ∧ i = .int .i64 k ∧ Mod noF w wr) (fun i _ _ _ _ _ _ => 5 - (intOf i).toNat)
  case atStart => exact ⟨0, by omega, rfl, Hm1.out⟩
  case round =>
    rename_i wr
    obtain ⟨k, hk, rfl, hm⟩ := hrel
    have Hm := Lib.hid hm
    clear hm
    by_cases hlt : k < 5
    · have hd : decide ((k : Int) < 5) = true := by simp; omega
      obtain ⟨g1, g2, g3⟩ := gcode_ok (f := 1) (by omega) hlt
      have F1 := preC_fine Hn1.out Hl4.out g1
      have F2 := preC_wop (p := s.data.toList) g1
      have F3 := preC_to s (gcode 1 k)
      have F4 : (preC s.data.toList (gcode 1 k)).length ≤ 70 := by rw [preC_len]; exact g2
      have F5 : ∀ i, 3 ≤ i → i < 8 → (writtenL (preC s.data.toList (gcode 1 k))).getD i false = false := by rw [preC_written]; exact g3
      have hpg := parts_good (f := 1) (by omega) (by omega) hlt s wr Hn1.out hn4'
      generalize preC s.data.toList (gcode 1 k) = L at F1 F2 F3 F4 F5 hpg
      have HF1 := Lib.hid F1
      have HF2 := Lib.hid F2
      have HF3 := Lib.hid F3
      have HF4 := Lib.hid F4
      have HF5 := Lib.hid F5
      have Hpg := Lib.hid hpg
      clear F1 F2 F3 F4 F5 hpg g1 g2 g3
      go_wp2_with fail
      refine Hpg.out.mono ?_
      rintro e x1 ⟨v, rfl, hv⟩
      have hc := InsRow.code hv.1
      have Hx := Lib.hid (Hm.out.trans0 (Mod.below hv.2.1))
      obtain ⟨g, c, rfl, _⟩ := hc.at_
      have Hc := Lib.hid hc
      clear hv hc Hpg
      go_wp2_with fail
      refine (isPrefix_any s 4 x1 hs).mono ?_
      rintro e x2 ⟨rfl, rfl⟩
      rw [Hn.out]
      go_wp2_with fail
      refine (bars_any x1).mono ?_
      rintro e x2 ⟨rfl, hq, hb⟩
      have hpl := plain_ok _ _ L s 70 barsL x2 (Hc.out.frame hq (fun _ _ e => e)) HF1.out HF4.out (by omega) hb (fun x hx => wop_bars (HF2.out x hx)) HF3.out hs
      have Hpl := Lib.hid hpl
      have Hq := Lib.hid hq
      clear hpl hq hb
      go_wp2_with fail
      refine Hpl.out.mono ?_
      rintro e x3 ⟨rfl, hm5⟩
      have Hq5 := Lib.hid (Hq.out.trans0 hm5)
      clear hm5 Hpl
      go_wp2_with fail
      refine (written_ok _ L x3 (Hc.out.frame Hq5.out (fun _ _ e => e)) HF1.out HF2.out (by have := HF4.out; omega)).mono ?_
      rintro e x4 ⟨rfl, hq8, hB8⟩
      have Hq8 := Lib.hid (Hq5.out.trans0 hq8)
      have HB8 := Lib.hid hB8
      clear hq8 hB8
      go_wp2
      go_loop [12] (fun i => ∃ j : Nat, 3 ≤ j ∧ j ≤ 8 ∧ i = .int .i64 j) (fun i => 8 - (intOf i).toNat)
      case atStart => exact ⟨3, by omega, by omega, rfl⟩
      case round =>
        obtain ⟨j, hj3, hj, rfl⟩ := hrel
        by_cases hj8 : (j : Int) < 8
        · have hdj : decide ((j : Int) < 8) = true := by simp; omega
          have p0 := bools_cell HB8.out (writtenL_len _) (show j < 8 by omega)
          rw [HF5.out j hj3 (by omega)] at p0
          have hb0 := World.block_lt_of_cell? _ _ p0
          go_wp2
          go_round
          case rel => exact ⟨j + 1, by omega, by omega, by go_num⟩
          case measure => simp [intOf]; omega
        · have hdj : decide ((j : Int) < 8) = false := by simpa using hj8
          go_wp2
          go_roundw
          case rel => exact ⟨k + 1, by omega, by go_num, Hx.out.trans0 Hq8.out⟩
          case measure => simp [intOf]; omega
    · have hd : decide ((k : Int) < 5) = false := by simp; omega
      go_wp2_with fail
      refine (ghub1 wr).mono ?_
      rintro e x1 ⟨v1, rfl, b1, rfl, -, -, -, hm1⟩
      have Hx1 := Lib.hid (Hm.out.trans0 hm1)
      clear hm1
      go_wp2_with fail
      refine (gown1 x1).mono ?_
      rintro e x2 ⟨v2, rfl, b2, rfl, -, -, -, hm2⟩
      have Hx2 := Lib.hid (Hx1.out.trans0 hm2)
      clear hm2
      go_wp2_with fail
      refine (glink1 x2).mono ?_
      rintro e x3 ⟨rfl, hm3⟩
      have Hx3 := Lib.hid (Hx2.out.trans0 hm3)
      clear hm3
      go_wp2
      go_ret
      exact ⟨rfl, Hx3.out⟩
set_option maxRecDepth 100000 in
set_option maxHeartbeats 8000000 in
theorem gc_name2 (s : ByteArray) (w : World) (a : Nat → Addr) (E : ErrsAt w a) (hl : s.size ≤ 100) (hn : (nameB s.data.toList && decide ((s.size : Int) ≤ 4)) = false) :
    Calls Tryd.prog 19 #[.int .i64 2, .string s] w fun e w' => e = .returned (.bool true) ∧ Mod noF w w' := by
  have hl100 : decide ((100 : Int) < (s.size : Int)) = false := by simp; omega
  have hs : s.size ≤ maxLen := by unfold maxLen; omega
  have hnn : nameB s.data.toList = false ∨ (4 : Int) < (s.size : Int) := by
    cases h : nameB s.data.toList with
    | false => exact .inl rfl
    | true => right; rw [h] at hn; simp at hn; omega
  have Hn := Lib.hid hn
  have HE := Lib.hid E
  have Hnn := Lib.hid hnn
  clear E hn hnn
  go_enter Tryd.func19, Tryd.ntmps19
  go_wp2_with fail
  refine (flavoured_any w).mono ?_
  rintro e w1 ⟨rfl, hm1⟩
  have Hm1 := Lib.hid hm1
  clear hm1
  go_wp2_with fail
  refine (isFlavour_any 2 w1).mono ?_
  rintro e w2 ⟨rfl, rfl⟩
  rw [show (decide ((1 : Int) ≤ 2) && decide ((2 : Int) ≤ 4)) = true by decide]
  go_wp2
  go_loopw [7, 8, 9, 10, 11, 12] (fun i _ _ _ _ _ wr => ∃ k : Nat, k ≤ 5 ∧ i = .int .i64 k ∧ Mod noF w wr) (fun i _ _ _ _ _ _ => 5 - (intOf i).toNat)
  case atStart => exact ⟨0, by omega, rfl, Hm1.out⟩
  case round =>
    rename_i wr
    obtain ⟨k, hk, rfl, hm⟩ := hrel
    have Hm := Lib.hid hm
    clear hm
    by_cases hlt : k < 5
    · have hd : decide ((k : Int) < 5) = true := by simp; omega
      have hpb := parts_bad hlt 2 s wr a 3 (fun w1 hw => begin_name2 s w1 a (HE.out.keep (Hm.out.trans0 hw)) hs Hnn.out)
      unfold errV at hpb
      have Hpb := Lib.hid hpb
      clear hpb
      go_wp2_with fail
      refine Hpb.out.mono ?_
      rintro e x1 ⟨rfl, hx⟩
      have Hx := Lib.hid (Hm.out.trans0 hx)
      clear hx
      go_wp2_with fail
      refine (isPrefix_any s 4 x1 hs).mono ?_
      rintro e x2 ⟨rfl, rfl⟩
      rw [Hn.out]
      go_wp2_with fail
      have hcd := coded2_at (HE.out.keep Hx.out) 3 (by omega) 4
      rw [show decide ((4 : Int) = ((3 : Nat) : Int) + 1) = true by decide] at hcd
      unfold errV at hcd
      refine hcd.mono ?_
      rintro e x2 ⟨rfl, hm3⟩
      have Hm3 := Lib.hid (Hx.out.trans0 hm3)
      clear hcd hm3
      go_wp2
      go_roundw
      case rel => exact ⟨k + 1, by omega, by go_num, Hm3.out⟩
      case measure => simp [intOf]; omega
    · have hd : decide ((k : Int) < 5) = false := by simp; omega
      go_wp2_with fail
      refine (ghub2 wr).mono ?_
      rintro e x1 ⟨v1, rfl, b1, rfl, -, -, -, hm1⟩
      have Hx1 := Lib.hid (Hm.out.trans0 hm1)
      clear hm1
      go_wp2_with fail
      refine (gown2 x1).mono ?_
      rintro e x2 ⟨v2, rfl, b2, rfl, -, -, -, hm2⟩
      have Hx2 := Lib.hid (Hx1.out.trans0 hm2)
      clear hm2
      go_wp2_with fail
      refine (glink2 x2).mono ?_
      rintro e x3 ⟨rfl, hm3⟩
      have Hx3 := Lib.hid (Hx2.out.trans0 hm3)
      clear hm3
      go_wp2
      go_ret
      exact ⟨rfl, Hx3.out⟩
set_option maxRecDepth 100000 in
set_option maxHeartbeats 8000000 in
theorem gc_good2 (s : ByteArray) (w : World) (hl : s.size ≤ 100) (hn : (nameB s.data.toList && decide ((s.size : Int) ≤ 4)) = true) :
    Calls Tryd.prog 19 #[.int .i64 2, .string s] w fun e w' => e = .returned (.bool true) ∧ Mod noF w w' := by
  have hl100 : decide ((100 : Int) < (s.size : Int)) = false := by simp; omega
  have hs : s.size ≤ maxLen := by unfold maxLen; omega
  have Hn := Lib.hid hn
  simp only [Bool.and_eq_true, decide_eq_true_eq] at hn
  obtain ⟨hn1, hn4⟩ := hn
  have hn4' : s.size ≤ 4 := by omega
  have hl4 : s.data.toList.length ≤ 4 := by have := bytes_len s; omega
  have Hn1 := Lib.hid hn1
  have Hl4 := Lib.hid hl4
  clear hn1 hl4
  go_enter Tryd.func19, Tryd.ntmps19
  go_wp2_with fail
  refine (flavoured_any w).mono ?_
  rintro e w1 ⟨rfl, hm1⟩
  have Hm1 := Lib.hid hm1
  clear hm1
  go_wp2_with fail
  refine (isFlavour_any 2 w1).mono ?_
  rintro e w2 ⟨rfl, rfl⟩
  rw [show (decide ((1 : Int) ≤ 2) && decide ((2 : Int) ≤ 4)) = true by decide]
  go_wp2
  go_loopw [7, 8, 9, 10, 11, 12] (fun i _ _ _ _ _ wr => ∃ k : Nat, k ≤ 5 ∧ i = .int .i64 k ∧ Mod noF w wr) (fun i _ _ _ _ _ _ => 5 - (intOf i).toNat)
  case atStart => exact ⟨0, by omega, rfl, Hm1.out⟩
  case round =>
    rename_i wr
    obtain ⟨k, hk, rfl, hm⟩ := hrel
    have Hm := Lib.hid hm
    clear hm
    by_cases hlt : k < 5
    · have hd : decide ((k : Int) < 5) = true := by simp; omega
      obtain ⟨g1, g2, g3⟩ := gcode_ok (f := 2) (by omega) hlt
      have F1 := preC_fine Hn1.out Hl4.out g1
      have F2 := preC_wop (p := s.data.toList) g1
      have F3 := preC_to s (gcode 2 k)
      have F4 : (preC s.data.toList (gcode 2 k)).length ≤ 70 := by rw [preC_len]; exact g2
      have F5 : ∀ i, 3 ≤ i → i < 8 → (writtenL (preC s.data.toList (gcode 2 k))).getD i false = false := by rw [preC_written]; exact g3
      have hpg := parts_good (f := 2) (by omega) (by omega) hlt s wr Hn1.out hn4'
      generalize preC s.data.toList (gcode 2 k) = L at F1 F2 F3 F4 F5 hpg
      have HF1 := Lib.hid F1
      have HF2 := Lib.hid F2
      have HF3 := Lib.hid F3
      have HF4 := Lib.hid F4
      have HF5 := Lib.hid F5
      have Hpg := Lib.hid hpg
      clear F1 F2 F3 F4 F5 hpg g1 g2 g3
      go_wp2_with fail
      refine Hpg.out.mono ?_
      rintro e x1 ⟨v, rfl, hv⟩
      have hc := InsRow.code hv.1
      have Hx := Lib.hid (Hm.out.trans0 (Mod.below hv.2.1))
      obtain ⟨g, c, rfl, _⟩ := hc.at_
      have Hc := Lib.hid hc
      clear hv hc Hpg
      go_wp2_with fail
      refine (isPrefix_any s 4 x1 hs).mono ?_
      rintro e x2 ⟨rfl, rfl⟩
      rw [Hn.out]
      go_wp2_with fail
      refine (bars_any x1).mono ?_
      rintro e x2 ⟨rfl, hq, hb⟩
      have hpl := plain_ok _ _ L s 70 barsL x2 (Hc.out.frame hq (fun _ _ e => e)) HF1.out HF4.out (by omega) hb (fun x hx => wop_bars (HF2.out x hx)) HF3.out hs
      have Hpl := Lib.hid hpl
      have Hq := Lib.hid hq
      clear hpl hq hb
      go_wp2_with fail
      refine Hpl.out.mono ?_
      rintro e x3 ⟨rfl, hm5⟩
      have Hq5 := Lib.hid (Hq.out.trans0 hm5)
      clear hm5 Hpl
      go_wp2_with fail
      refine (written_ok _ L x3 (Hc.out.frame Hq5.out (fun _ _ e => e)) HF1.out HF2.out (by have := HF4.out; omega)).mono ?_
      rintro e x4 ⟨rfl, hq8, hB8⟩
      have Hq8 := Lib.hid (Hq5.out.trans0 hq8)
      have HB8 := Lib.hid hB8
      clear hq8 hB8
      go_wp2
      go_loop [12] (fun i => ∃ j : Nat, 3 ≤ j ∧ j ≤ 8 ∧ i = .int .i64 j) (fun i => 8 - (intOf i).toNat)
      case atStart => exact ⟨3, by omega, by omega, rfl⟩
      case round =>
        obtain ⟨j, hj3, hj, rfl⟩ := hrel
        by_cases hj8 : (j : Int) < 8
        · have hdj : decide ((j : Int) < 8) = true := by simp; omega
          have p0 := bools_cell HB8.out (writtenL_len _) (show j < 8 by omega)
          rw [HF5.out j hj3 (by omega)] at p0
          have hb0 := World.block_lt_of_cell? _ _ p0
          go_wp2
          go_round
          case rel => exact ⟨j + 1, by omega, by omega, by go_num⟩
          case measure => simp [intOf]; omega
        · have hdj : decide ((j : Int) < 8) = false := by simpa using hj8
          go_wp2
          go_roundw
          case rel => exact ⟨k + 1, by omega, by go_num, Hx.out.trans0 Hq8.out⟩
          case measure => simp [intOf]; omega
    · have hd : decide ((k : Int) < 5) = false := by simp; omega
      go_wp2_with fail
      refine (ghub2 wr).mono ?_
      rintro e x1 ⟨v1, rfl, b1, rfl, -, -, -, hm1⟩
      have Hx1 := Lib.hid (Hm.out.trans0 hm1)
      clear hm1
      go_wp2_with fail
      refine (gown2 x1).mono ?_
      rintro e x2 ⟨v2, rfl, b2, rfl, -, -, -, hm2⟩
      have Hx2 := Lib.hid (Hx1.out.trans0 hm2)
      clear hm2
      go_wp2_with fail
      refine (glink2 x2).mono ?_
      rintro e x3 ⟨rfl, hm3⟩
      have Hx3 := Lib.hid (Hx2.out.trans0 hm3)
      clear hm3
      go_wp2
      go_ret
      exact ⟨rfl, Hx3.out⟩
set_option maxRecDepth 100000 in
set_option maxHeartbeats 8000000 in
theorem gc_name3 (s : ByteArray) (w : World) (a : Nat → Addr) (E : ErrsAt w a) (hl : s.size ≤ 100) (hn : (nameB s.data.toList && decide ((s.size : Int) ≤ 4)) = false) :
    Calls Tryd.prog 19 #[.int .i64 3, .string s] w fun e w' => e = .returned (.bool true) ∧ Mod noF w w' := by
  have hl100 : decide ((100 : Int) < (s.size : Int)) = false := by simp; omega
  have hs : s.size ≤ maxLen := by unfold maxLen; omega
  have hnn : nameB s.data.toList = false ∨ (4 : Int) < (s.size : Int) := by
    cases h : nameB s.data.toList with
    | false => exact .inl rfl
    | true => right; rw [h] at hn; simp at hn; omega
  have Hn := Lib.hid hn
  have HE := Lib.hid E
  have Hnn := Lib.hid hnn
  clear E hn hnn
  go_enter Tryd.func19, Tryd.ntmps19
  go_wp2_with fail
  refine (flavoured_any w).mono ?_
  rintro e w1 ⟨rfl, hm1⟩
  have Hm1 := Lib.hid hm1
  clear hm1
  go_wp2_with fail
  refine (isFlavour_any 3 w1).mono ?_
  rintro e w2 ⟨rfl, rfl⟩
  rw [show (decide ((1 : Int) ≤ 3) && decide ((3 : Int) ≤ 4)) = true by decide]
  go_wp2
  go_loopw [7, 8, 9, 10, 11, 12] (fun i _ _ _ _ _ wr => ∃ k : Nat, k ≤ 5 ∧ i = .int .i64 k ∧ Mod noF w wr) (fun i _ _ _ _ _ _ => 5 - (intOf i).toNat)
  case atStart => exact ⟨0, by omega, rfl, Hm1.out⟩
  case round =>
    rename_i wr
    obtain ⟨k, hk, rfl, hm⟩ := hrel
    have Hm := Lib.hid hm
    clear hm
    by_cases hlt : k < 5
    · have hd : decide ((k : Int) < 5) = true := by simp; omega
      have hpb := parts_bad hlt 3 s wr a 3 (fun w1 hw => begin_name3 s w1 a (HE.out.keep (Hm.out.trans0 hw)) hs Hnn.out)
      unfold errV at hpb
      have Hpb := Lib.hid hpb
      clear hpb
      go_wp2_with fail
      refine Hpb.out.mono ?_
      rintro e x1 ⟨rfl, hx⟩
      have Hx := Lib.hid (Hm.out.trans0 hx)
      clear hx
      go_wp2_with fail
      refine (isPrefix_any s 4 x1 hs).mono ?_
      rintro e x2 ⟨rfl, rfl⟩
      rw [Hn.out]
      go_wp2_with fail
      have hcd := coded2_at (HE.out.keep Hx.out) 3 (by omega) 4
      rw [show decide ((4 : Int) = ((3 : Nat) : Int) + 1) = true by decide] at hcd
      unfold errV at hcd
      refine hcd.mono ?_
      rintro e x2 ⟨rfl, hm3⟩
      have Hm3 := Lib.hid (Hx.out.trans0 hm3)
      clear hcd hm3
      go_wp2
      go_roundw
      case rel => exact ⟨k + 1, by omega, by go_num, Hm3.out⟩
      case measure => simp [intOf]; omega
    · have hd : decide ((k : Int) < 5) = false := by simp; omega
      go_wp2_with fail
      refine (ghub3 wr).mono ?_
      rintro e x1 ⟨v1, rfl, b1, rfl, -, -, -, hm1⟩
      have Hx1 := Lib.hid (Hm.out.trans0 hm1)
      clear hm1
      go_wp2_with fail
      refine (gown3 x1).mono ?_
      rintro e x2 ⟨v2, rfl, b2, rfl, -, -, -, hm2⟩
      have Hx2 := Lib.hid (Hx1.out.trans0 hm2)
      clear hm2
      go_wp2_with fail
      refine (glink3 x2).mono ?_
      rintro e x3 ⟨rfl, hm3⟩
      have Hx3 := Lib.hid (Hx2.out.trans0 hm3)
      clear hm3
      go_wp2
      go_ret
      exact ⟨rfl, Hx3.out⟩
set_option maxRecDepth 100000 in
set_option maxHeartbeats 8000000 in
theorem gc_good3 (s : ByteArray) (w : World) (hl : s.size ≤ 100) (hn : (nameB s.data.toList && decide ((s.size : Int) ≤ 4)) = true) :
    Calls Tryd.prog 19 #[.int .i64 3, .string s] w fun e w' => e = .returned (.bool true) ∧ Mod noF w w' := by
  have hl100 : decide ((100 : Int) < (s.size : Int)) = false := by simp; omega
  have hs : s.size ≤ maxLen := by unfold maxLen; omega
  have Hn := Lib.hid hn
  simp only [Bool.and_eq_true, decide_eq_true_eq] at hn
  obtain ⟨hn1, hn4⟩ := hn
  have hn4' : s.size ≤ 4 := by omega
  have hl4 : s.data.toList.length ≤ 4 := by have := bytes_len s; omega
  have Hn1 := Lib.hid hn1
  have Hl4 := Lib.hid hl4
  clear hn1 hl4
  go_enter Tryd.func19, Tryd.ntmps19
  go_wp2_with fail
  refine (flavoured_any w).mono ?_
  rintro e w1 ⟨rfl, hm1⟩
  have Hm1 := Lib.hid hm1
  clear hm1
  go_wp2_with fail
  refine (isFlavour_any 3 w1).mono ?_
  rintro e w2 ⟨rfl, rfl⟩
  rw [show (decide ((1 : Int) ≤ 3) && decide ((3 : Int) ≤ 4)) = true by decide]
  go_wp2
  go_loopw [7, 8, 9, 10, 11, 12] (fun i _ _ _ _ _ wr => ∃ k : Nat, k ≤ 5 ∧ i = .int .i64 k ∧ Mod noF w wr) (fun i _ _ _ _ _ _ => 5 - (intOf i).toNat)
  case atStart => exact ⟨0, by omega, rfl, Hm1.out⟩
  case round =>
    rename_i wr
    obtain ⟨k, hk, rfl, hm⟩ := hrel
    have Hm := Lib.hid hm
    clear hm
    by_cases hlt : k < 5
    · have hd : decide ((k : Int) < 5) = true := by simp; omega
      obtain ⟨g1, g2, g3⟩ := gcode_ok (f := 3) (by omega) hlt
      have F1 := preC_fine Hn1.out Hl4.out g1
      have F2 := preC_wop (p := s.data.toList) g1
      have F3 := preC_to s (gcode 3 k)
      have F4 : (preC s.data.toList (gcode 3 k)).length ≤ 70 := by rw [preC_len]; exact g2
      have F5 : ∀ i, 3 ≤ i → i < 8 → (writtenL (preC s.data.toList (gcode 3 k))).getD i false = false := by rw [preC_written]; exact g3
      have hpg := parts_good (f := 3) (by omega) (by omega) hlt s wr Hn1.out hn4'
      generalize preC s.data.toList (gcode 3 k) = L at F1 F2 F3 F4 F5 hpg
      have HF1 := Lib.hid F1
      have HF2 := Lib.hid F2
      have HF3 := Lib.hid F3
      have HF4 := Lib.hid F4
      have HF5 := Lib.hid F5
      have Hpg := Lib.hid hpg
      clear F1 F2 F3 F4 F5 hpg g1 g2 g3
      go_wp2_with fail
      refine Hpg.out.mono ?_
      rintro e x1 ⟨v, rfl, hv⟩
      have hc := InsRow.code hv.1
      have Hx := Lib.hid (Hm.out.trans0 (Mod.below hv.2.1))
      obtain ⟨g, c, rfl, _⟩ := hc.at_
      have Hc := Lib.hid hc
      clear hv hc Hpg
      go_wp2_with fail
      refine (isPrefix_any s 4 x1 hs).mono ?_
      rintro e x2 ⟨rfl, rfl⟩
      rw [Hn.out]
      go_wp2_with fail
      refine (bars_any x1).mono ?_
      rintro e x2 ⟨rfl, hq, hb⟩
      have hpl := plain_ok _ _ L s 70 barsL x2 (Hc.out.frame hq (fun _ _ e => e)) HF1.out HF4.out (by omega) hb (fun x hx => wop_bars (HF2.out x hx)) HF3.out hs
      have Hpl := Lib.hid hpl
      have Hq := Lib.hid hq
      clear hpl hq hb
      go_wp2_with fail
      refine Hpl.out.mono ?_
      rintro e x3 ⟨rfl, hm5⟩
      have Hq5 := Lib.hid (Hq.out.trans0 hm5)
      clear hm5 Hpl
      go_wp2_with fail
      refine (written_ok _ L x3 (Hc.out.frame Hq5.out (fun _ _ e => e)) HF1.out HF2.out (by have := HF4.out; omega)).mono ?_
      rintro e x4 ⟨rfl, hq8, hB8⟩
      have Hq8 := Lib.hid (Hq5.out.trans0 hq8)
      have HB8 := Lib.hid hB8
      clear hq8 hB8
      go_wp2
      go_loop [12] (fun i => ∃ j : Nat, 3 ≤ j ∧ j ≤ 8 ∧ i = .int .i64 j) (fun i => 8 - (intOf i).toNat)
      case atStart => exact ⟨3, by omega, by omega, rfl⟩
      case round =>
        obtain ⟨j, hj3, hj, rfl⟩ := hrel
        by_cases hj8 : (j : Int) < 8
        · have hdj : decide ((j : Int) < 8) = true := by simp; omega
          have p0 := bools_cell HB8.out (writtenL_len _) (show j < 8 by omega)
          rw [HF5.out j hj3 (by omega)] at p0
          have hb0 := World.block_lt_of_cell? _ _ p0
          go_wp2
          go_round
          case rel => exact ⟨j + 1, by omega, by omega, by go_num⟩
          case measure => simp [intOf]; omega
        · have hdj : decide ((j : Int) < 8) = false := by simpa using hj8
          go_wp2
          go_roundw
          case rel => exact ⟨k + 1, by omega, by go_num, Hx.out.trans0 Hq8.out⟩
          case measure => simp [intOf]; omega
    · have hd : decide ((k : Int) < 5) = false := by simp; omega
      go_wp2_with fail
      refine (ghub3 wr).mono ?_
      rintro e x1 ⟨v1, rfl, b1, rfl, -, -, -, hm1⟩
      have Hx1 := Lib.hid (Hm.out.trans0 hm1)
      clear hm1
      go_wp2_with fail
      refine (gown3 x1).mono ?_
      rintro e x2 ⟨v2, rfl, b2, rfl, -, -, -, hm2⟩
      have Hx2 := Lib.hid (Hx1.out.trans0 hm2)
      clear hm2
      go_wp2_with fail
      refine (glink3 x2).mono ?_
      rintro e x3 ⟨rfl, hm3⟩
      have Hx3 := Lib.hid (Hx2.out.trans0 hm3)
      clear hm3
      go_wp2
      go_ret
      exact ⟨rfl, Hx3.out⟩
set_option maxRecDepth 100000 in
set_option maxHeartbeats 8000000 in
theorem gc_name4 (s : ByteArray) (w : World) (a : Nat → Addr) (E : ErrsAt w a) (hl : s.size ≤ 100) (hn : (nameB s.data.toList && decide ((s.size : Int) ≤ 4)) = false) :
    Calls Tryd.prog 19 #[.int .i64 4, .string s] w fun e w' => e = .returned (.bool true) ∧ Mod noF w w' := by
  have hl100 : decide ((100 : Int) < (s.size : Int)) = false := by simp; omega
  have hs : s.size ≤ maxLen := by unfold maxLen; omega
  have hnn : nameB s.data.toList = false ∨ (4 : Int) < (s.size : Int) := by
    cases h : nameB s.data.toList with
    | false => exact .inl rfl
    | true => right; rw [h] at hn; simp at hn; omega
  have Hn := Lib.hid hn
  have HE := Lib.hid E
  have Hnn := Lib.hid hnn
  clear E hn hnn
  go_enter Tryd.func19, Tryd.ntmps19
  go_wp2_with fail
  refine (flavoured_any w).mono ?_
  rintro e w1 ⟨rfl, hm1⟩
  have Hm1 := Lib.hid hm1
  clear hm1
  go_wp2_with fail
  refine (isFlavour_any 4 w1).mono ?_
  rintro e w2 ⟨rfl, rfl⟩
  rw [show (decide ((1 : Int) ≤ 4) && decide ((4 : Int) ≤ 4)) = true by decide]
  go_wp2
  go_loopw [7, 8, 9, 10, 11, 12] (fun i _ _ _ _ _ wr => ∃ k : Nat, k ≤ 5 ∧ i = .int .i64 k ∧ Mod noF w wr) (fun i _ _ _ _ _ _ => 5 - (intOf i).toNat)
  case atStart => exact ⟨0, by omega, rfl, Hm1.out⟩
  case round =>
    rename_i wr
    obtain ⟨k, hk, rfl, hm⟩ := hrel
    have Hm := Lib.hid hm
    clear hm
    by_cases hlt : k < 5
    · have hd : decide ((k : Int) < 5) = true := by simp; omega
      have hpb := parts_bad hlt 4 s wr a 3 (fun w1 hw => begin_name4 s w1 a (HE.out.keep (Hm.out.trans0 hw)) hs Hnn.out)
      unfold errV at hpb
      have Hpb := Lib.hid hpb
      clear hpb
      go_wp2_with fail
      refine Hpb.out.mono ?_
      rintro e x1 ⟨rfl, hx⟩
      have Hx := Lib.hid (Hm.out.trans0 hx)
      clear hx
      go_wp2_with fail
      refine (isPrefix_any s 4 x1 hs).mono ?_
      rintro e x2 ⟨rfl, rfl⟩
      rw [Hn.out]
      go_wp2_with fail
      have hcd := coded2_at (HE.out.keep Hx.out) 3 (by omega) 4
      rw [show decide ((4 : Int) = ((3 : Nat) : Int) + 1) = true by decide] at hcd
      unfold errV at hcd
      refine hcd.mono ?_
      rintro e x2 ⟨rfl, hm3⟩
      have Hm3 := Lib.hid (Hx.out.trans0 hm3)
      clear hcd hm3
      go_wp2
      go_roundw
      case rel => exact ⟨k + 1, by omega, by go_num, Hm3.out⟩
      case measure => simp [intOf]; omega
    · have hd : decide ((k : Int) < 5) = false := by simp; omega
      go_wp2_with fail
      refine (ghub4 wr).mono ?_
      rintro e x1 ⟨v1, rfl, b1, rfl, -, -, -, hm1⟩
      have Hx1 := Lib.hid (Hm.out.trans0 hm1)
      clear hm1
      go_wp2_with fail
      refine (gown4 x1).mono ?_
      rintro e x2 ⟨v2, rfl, b2, rfl, -, -, -, hm2⟩
      have Hx2 := Lib.hid (Hx1.out.trans0 hm2)
      clear hm2
      go_wp2_with fail
      refine (glink4 x2).mono ?_
      rintro e x3 ⟨rfl, hm3⟩
      have Hx3 := Lib.hid (Hx2.out.trans0 hm3)
      clear hm3
      go_wp2
      go_ret
      exact ⟨rfl, Hx3.out⟩
set_option maxRecDepth 100000 in
set_option maxHeartbeats 8000000 in
theorem gc_good4 (s : ByteArray) (w : World) (hl : s.size ≤ 100) (hn : (nameB s.data.toList && decide ((s.size : Int) ≤ 4)) = true) :
    Calls Tryd.prog 19 #[.int .i64 4, .string s] w fun e w' => e = .returned (.bool true) ∧ Mod noF w w' := by
  have hl100 : decide ((100 : Int) < (s.size : Int)) = false := by simp; omega
  have hs : s.size ≤ maxLen := by unfold maxLen; omega
  have Hn := Lib.hid hn
  simp only [Bool.and_eq_true, decide_eq_true_eq] at hn
  obtain ⟨hn1, hn4⟩ := hn
  have hn4' : s.size ≤ 4 := by omega
  have hl4 : s.data.toList.length ≤ 4 := by have := bytes_len s; omega
  have Hn1 := Lib.hid hn1
  have Hl4 := Lib.hid hl4
  clear hn1 hl4
  go_enter Tryd.func19, Tryd.ntmps19
  go_wp2_with fail
  refine (flavoured_any w).mono ?_
  rintro e w1 ⟨rfl, hm1⟩
  have Hm1 := Lib.hid hm1
  clear hm1
  go_wp2_with fail
  refine (isFlavour_any 4 w1).mono ?_
  rintro e w2 ⟨rfl, rfl⟩
  rw [show (decide ((1 : Int) ≤ 4) && decide ((4 : Int) ≤ 4)) = true by decide]
  go_wp2
  go_loopw [7, 8, 9, 10, 11, 12] (fun i _ _ _ _ _ wr => ∃ k : Nat, k ≤ 5 ∧ i = .int .i64 k ∧ Mod noF w wr) (fun i _ _ _ _ _ _ => 5 - (intOf i).toNat)
  case atStart => exact ⟨0, by omega, rfl, Hm1.out⟩
  case round =>
    rename_i wr
    obtain ⟨k, hk, rfl, hm⟩ := hrel
    have Hm := Lib.hid hm
    clear hm
    by_cases hlt : k < 5
    · have hd : decide ((k : Int) < 5) = true := by simp; omega
      obtain ⟨g1, g2, g3⟩ := gcode_ok (f := 4) (by omega) hlt
      have F1 := preC_fine Hn1.out Hl4.out g1
      have F2 := preC_wop (p := s.data.toList) g1
      have F3 := preC_to s (gcode 4 k)
      have F4 : (preC s.data.toList (gcode 4 k)).length ≤ 70 := by rw [preC_len]; exact g2
      have F5 : ∀ i, 3 ≤ i → i < 8 → (writtenL (preC s.data.toList (gcode 4 k))).getD i false = false := by rw [preC_written]; exact g3
      have hpg := parts_good (f := 4) (by omega) (by omega) hlt s wr Hn1.out hn4'
      generalize preC s.data.toList (gcode 4 k) = L at F1 F2 F3 F4 F5 hpg
      have HF1 := Lib.hid F1
      have HF2 := Lib.hid F2
      have HF3 := Lib.hid F3
      have HF4 := Lib.hid F4
      have HF5 := Lib.hid F5
      have Hpg := Lib.hid hpg
      clear F1 F2 F3 F4 F5 hpg g1 g2 g3
      go_wp2_with fail
      refine Hpg.out.mono ?_
      rintro e x1 ⟨v, rfl, hv⟩
      have hc := InsRow.code hv.1
      have Hx := Lib.hid (Hm.out.trans0 (Mod.below hv.2.1))
      obtain ⟨g, c, rfl, _⟩ := hc.at_
      have Hc := Lib.hid hc
      clear hv hc Hpg
      go_wp2_with fail
      refine (isPrefix_any s 4 x1 hs).mono ?_
      rintro e x2 ⟨rfl, rfl⟩
      rw [Hn.out]
      go_wp2_with fail
      refine (bars_any x1).mono ?_
      rintro e x2 ⟨rfl, hq, hb⟩
      have hpl := plain_ok _ _ L s 70 barsL x2 (Hc.out.frame hq (fun _ _ e => e)) HF1.out HF4.out (by omega) hb (fun x hx => wop_bars (HF2.out x hx)) HF3.out hs
      have Hpl := Lib.hid hpl
      have Hq := Lib.hid hq
      clear hpl hq hb
      go_wp2_with fail
      refine Hpl.out.mono ?_
      rintro e x3 ⟨rfl, hm5⟩
      have Hq5 := Lib.hid (Hq.out.trans0 hm5)
      clear hm5 Hpl
      go_wp2_with fail
      refine (written_ok _ L x3 (Hc.out.frame Hq5.out (fun _ _ e => e)) HF1.out HF2.out (by have := HF4.out; omega)).mono ?_
      rintro e x4 ⟨rfl, hq8, hB8⟩
      have Hq8 := Lib.hid (Hq5.out.trans0 hq8)
      have HB8 := Lib.hid hB8
      clear hq8 hB8
      go_wp2
      go_loop [12] (fun i => ∃ j : Nat, 3 ≤ j ∧ j ≤ 8 ∧ i = .int .i64 j) (fun i => 8 - (intOf i).toNat)
      case atStart => exact ⟨3, by omega, by omega, rfl⟩
      case round =>
        obtain ⟨j, hj3, hj, rfl⟩ := hrel
        by_cases hj8 : (j : Int) < 8
        · have hdj : decide ((j : Int) < 8) = true := by simp; omega
          have p0 := bools_cell HB8.out (writtenL_len _) (show j < 8 by omega)
          rw [HF5.out j hj3 (by omega)] at p0
          have hb0 := World.block_lt_of_cell? _ _ p0
          go_wp2
          go_round
          case rel => exact ⟨j + 1, by omega, by omega, by go_num⟩
          case measure => simp [intOf]; omega
        · have hdj : decide ((j : Int) < 8) = false := by simpa using hj8
          go_wp2
          go_roundw
          case rel => exact ⟨k + 1, by omega, by go_num, Hx.out.trans0 Hq8.out⟩
          case measure => simp [intOf]; omega
    · have hd : decide ((k : Int) < 5) = false := by simp; omega
      go_wp2_with fail
      refine (ghub4 wr).mono ?_
      rintro e x1 ⟨v1, rfl, b1, rfl, -, -, -, hm1⟩
      have Hx1 := Lib.hid (Hm.out.trans0 hm1)
      clear hm1
      go_wp2_with fail
      refine (gown4 x1).mono ?_
      rintro e x2 ⟨v2, rfl, b2, rfl, -, -, -, hm2⟩
      have Hx2 := Lib.hid (Hx1.out.trans0 hm2)
      clear hm2
      go_wp2_with fail
      refine (glink4 x2).mono ?_
      rintro e x3 ⟨rfl, hm3⟩
      have Hx3 := Lib.hid (Hx2.out.trans0 hm3)
      clear hm3
      go_wp2
      go_ret
      exact ⟨rfl, Hx3.out⟩
theorem graceCode_any (a0 : Int) (a1 : ByteArray) (w : World) (_ : (Lit.int .i64 a0).wf = true) (h1 : a1.size ≤ maxLen) (h : ∃ a, ErrsAt w a) :
    Calls Tryd.prog 19 #[.int .i64 a0, .string a1] w fun e w' => e = .returned (.bool true) ∧ Below w.heap.size w w' := by
  obtain ⟨a, E⟩ := h
  have key : Calls Tryd.prog 19 #[.int .i64 a0, .string a1] w fun e w' => e = .returned (.bool true) ∧ Mod noF w w' := by
    by_cases hl : 100 < a1.size
    · have hl100 : decide ((100 : Int) < (a1.size : Int)) = true := by simp; omega
      go_enter Tryd.func19, Tryd.ntmps19
      go_wp2_with fail
      refine (flavoured_any w).mono ?_
      rintro e w1 ⟨rfl, hm1⟩
      have Hm1 := Lib.hid hm1
      clear hm1
      go_wp2
      go_ret
      exact ⟨rfl, Hm1.out⟩
    by_cases hf : 1 ≤ a0 ∧ a0 ≤ 4
    · have h4 : a0 = 1 ∨ a0 = 2 ∨ a0 = 3 ∨ a0 = 4 := by omega
      cases hn : (nameB a1.data.toList && decide ((a1.size : Int) ≤ 4)) with
      | false =>
        rcases h4 with rfl | rfl | rfl | rfl
        · exact gc_name1 a1 w a E (by omega) hn
        · exact gc_name2 a1 w a E (by omega) hn
        · exact gc_name3 a1 w a E (by omega) hn
        · exact gc_name4 a1 w a E (by omega) hn
      | true =>
        rcases h4 with rfl | rfl | rfl | rfl
        · exact gc_good1 a1 w (by omega) hn
        · exact gc_good2 a1 w (by omega) hn
        · exact gc_good3 a1 w (by omega) hn
        · exact gc_good4 a1 w (by omega) hn
    · exact gc_bound a0 a1 w a E (by omega) hf
  exact key.mono fun _ _ h => ⟨h.1, h.2.toBelow⟩
end Go.Proofs.YtamfbfajlfbooaaDoor
