/- StackCode: the plain law; quiescentlaw3's coded, bars, written, piled. -/
import Derived.Test.YtamfbfajlfbooaaDoorRStack
import Derived.Test.YtamfbfajlfbooaaDoorRCoded2
import Derived.Test.YtamfbfajlfbooaaDoorRRowsLaw
import Derived.Test.YtamfbfajlfbooaaDoorRm2
set_option linter.unusedVariables false
set_option linter.unusedSimpArgs false
set_option linter.unusedSectionVars false
namespace Go.Proofs.YtamfbfajlfbooaaDoor
open Go.RowKit Go.Extern.Stop Go.Stop Go.Extern Qs Qh
theorem coded3_nil (n : Int) (w : World) : Calls Tryd.prog 53 #[.nilIface, .int .i64 n] w fun e w' => e = .returned (.bool (decide (n = 0))) ∧ w' = w := by
  by_cases h : n = 0
  · subst h
    go_enter Tryd.func53, Tryd.ntmps53
    go_wp2_with fail
    refine (code_nil w).mono ?_
    rintro e w' ⟨rfl, rfl⟩
    go_wp2
    go_ret
    exact ⟨rfl, rfl⟩
  · have h1 : ((0 : Int) == n) = false := by rw [beq_eq_false_iff_ne]; omega
    have h2 : decide (n = 0) = false := by simpa using h
    rw [h2]
    go_enter Tryd.func53, Tryd.ntmps53
    go_wp2_with fail
    refine (code_nil w).mono ?_
    rintro e w' ⟨rfl, rfl⟩
    go_wp2
    go_ret
    exact ⟨rfl, rfl⟩
theorem coded3_at {w : World} {a : Nat → Addr} (E : ErrsAt w a) (i : Nat) (hi : i < 9) (n : Int) : Calls Tryd.prog 53 #[errV a i, .int .i64 n] w fun e w' => e = .returned (.bool (decide (n = (i : Int) + 1))) ∧ Mod noF w w' := by
  have hcall := code_at E i hi
  by_cases h : n = (i : Int) + 1
  · subst h
    rw [show decide ((i : Int) + 1 = (i : Int) + 1) = true by simp]
    have Hcall := Lib.hid hcall
    clear hcall E
    go_enter Tryd.func53, Tryd.ntmps53
    go_wp2_with fail
    refine Hcall.out.mono ?_
    rintro e w' ⟨rfl, hm⟩
    have Hm := Lib.hid hm
    clear hm
    go_wp2
    go_ret
    exact ⟨rfl, Hm.out⟩
  · have h1 : ((i : Int) + 1 == n) = false := by rw [beq_eq_false_iff_ne]; omega
    rw [show decide (n = (i : Int) + 1) = false by simpa using h]
    have Hcall := Lib.hid hcall
    clear hcall E h
    go_enter Tryd.func53, Tryd.ntmps53
    go_wp2_with fail
    refine Hcall.out.mono ?_
    rintro e w' ⟨rfl, hm⟩
    have Hm := Lib.hid hm
    clear hm
    go_wp2
    go_ret
    exact ⟨rfl, Hm.out⟩
theorem bars3_any (w : World) : Calls Tryd.prog 55 #[] w fun e w' => e = .returned (.slice (some ⟨w.heap.size, 0, none⟩) 5 5) ∧ Mod noF w w' ∧ StrsAt w' (.slice (some ⟨w.heap.size, 0, none⟩) 5 5) barsL := by
  go_enter Tryd.func55, Tryd.ntmps55
  go_wp2
  go_ret
  refine ⟨rfl, (Mod.refl _ _).alloc _, ⟨_, _, rfl, by decide, fun i x hi => ⟨_, 0, rfl, lt_of_block (heap_alloc_new w _), ?_⟩⟩⟩
  rw [cell_of_heap (heap_alloc_new w _)]
  have hi5 : i < 5 := by have := (List.getElem?_eq_some_iff.1 hi).1; simpa [barsL] using this
  rcases (by omega : i = 0 ∨ i = 1 ∨ i = 2 ∨ i = 3 ∨ i = 4) with rfl | rfl | rfl | rfl | rfl <;> (simp [barsL] at hi; subst hi; rfl)
theorem pushCode_fine {s : ByteArray} (hn : nameB s.data.toList = true) (hl : s.size ≤ 8) : CodeFine (pushCode s.data.toList) := by
  have hl8 : s.data.toList.length ≤ 8 := by rw [bytes_len]; exact hl
  have na := nameB_more (c := 97) hn hl8 (by decide)
  have nb := nameB_more (c := 98) hn hl8 (by decide)
  generalize s.data.toList = p at *
  have hab := lab_ne p
  have hba : ¬ (p ++ [46, 98] = p ++ [46, 97]) := fun e => hab e.symm
  refine ⟨by simp [pushCode], fun x hx => ?_, fun i x hi h17 => ?_, fun x hx hne => ?_⟩
  · simp only [pushCode, List.mem_cons, List.not_mem_nil, or_false] at hx
    rcases hx with rfl | rfl | rfl | rfl | rfl | rfl | rfl | rfl | rfl <;> simp [insFine, regB, z0, na, nb]
  · have hi7 : i < 9 := by have := (List.getElem?_eq_some_iff.1 hi).1; simpa [pushCode] using this
    rcases (by omega : i = 0 ∨ i = 1 ∨ i = 2 ∨ i = 3 ∨ i = 4 ∨ i = 5 ∨ i = 6 ∨ i = 7 ∨ i = 8) with rfl | rfl | rfl | rfl | rfl | rfl | rfl | rfl | rfl <;> simp [pushCode] at hi <;> subst hi <;> simp at h17 <;> simp [pushCode, labelAt]
  · simp only [pushCode, List.mem_cons, List.not_mem_nil, or_false] at hx
    rcases hx with rfl | rfl | rfl | rfl | rfl | rfl | rfl | rfl | rfl <;> simp at hne <;> simp [pushCode, labelAt]
theorem pushCode_wop (p : List UInt8) : ∀ x ∈ pushCode p, wop x.op = true := fun x hx => by
  simp only [pushCode, List.mem_cons, List.not_mem_nil, or_false] at hx
  rcases hx with rfl | rfl | rfl | rfl | rfl | rfl | rfl | rfl | rfl <;> rfl
theorem pushCode_to (s : ByteArray) : ∀ x ∈ pushCode s.data.toList, ToOk s x := fun x hx => by
  simp only [pushCode, List.mem_cons, List.not_mem_nil, or_false] at hx
  rcases hx with rfl | rfl | rfl | rfl | rfl | rfl | rfl | rfl | rfl <;> first | exact .inl rfl | exact .inr ⟨by have := bytes_len s; simp only [List.length_append]; omega, by rw [← bytes_len s]; exact List.take_left⟩
theorem popCode_fine {s : ByteArray} (hn : nameB s.data.toList = true) (hl : s.size ≤ 8) : CodeFine (popCode s.data.toList) := by
  have hl8 : s.data.toList.length ≤ 8 := by rw [bytes_len]; exact hl
  have na := nameB_more (c := 97) hn hl8 (by decide)
  have nb := nameB_more (c := 98) hn hl8 (by decide)
  generalize s.data.toList = p at *
  have hab := lab_ne p
  have hba : ¬ (p ++ [46, 98] = p ++ [46, 97]) := fun e => hab e.symm
  refine ⟨by simp [popCode], fun x hx => ?_, fun i x hi h17 => ?_, fun x hx hne => ?_⟩
  · simp only [popCode, List.mem_cons, List.not_mem_nil, or_false] at hx
    rcases hx with rfl | rfl | rfl | rfl | rfl | rfl | rfl | rfl | rfl | rfl <;> simp [insFine, regB, z0, na, nb]
  · have hi7 : i < 10 := by have := (List.getElem?_eq_some_iff.1 hi).1; simpa [popCode] using this
    rcases (by omega : i = 0 ∨ i = 1 ∨ i = 2 ∨ i = 3 ∨ i = 4 ∨ i = 5 ∨ i = 6 ∨ i = 7 ∨ i = 8 ∨ i = 9) with rfl | rfl | rfl | rfl | rfl | rfl | rfl | rfl | rfl | rfl <;> simp [popCode] at hi <;> subst hi <;> simp at h17 <;> simp [popCode, labelAt]
  · simp only [popCode, List.mem_cons, List.not_mem_nil, or_false] at hx
    rcases hx with rfl | rfl | rfl | rfl | rfl | rfl | rfl | rfl | rfl | rfl <;> simp at hne <;> simp [popCode, labelAt]
theorem popCode_wop (p : List UInt8) : ∀ x ∈ popCode p, wop x.op = true := fun x hx => by
  simp only [popCode, List.mem_cons, List.not_mem_nil, or_false] at hx
  rcases hx with rfl | rfl | rfl | rfl | rfl | rfl | rfl | rfl | rfl | rfl <;> rfl
theorem popCode_to (s : ByteArray) : ∀ x ∈ popCode s.data.toList, ToOk s x := fun x hx => by
  simp only [popCode, List.mem_cons, List.not_mem_nil, or_false] at hx
  rcases hx with rfl | rfl | rfl | rfl | rfl | rfl | rfl | rfl | rfl | rfl <;> first | exact .inl rfl | exact .inr ⟨by have := bytes_len s; simp only [List.length_append]; omega, by rw [← bytes_len s]; exact List.take_left⟩
theorem push_written (p : List UInt8) : writtenL (pushCode p) = [true, true, true, false, false, false, false, false] := rfl
theorem pop_written (p : List UInt8) : writtenL (popCode p) = [true, true, true, true, false, false, false, false] := rfl
theorem bools_cell3 {w : World} {B : Nat} {o : List Bool} (h : BoolsAt w B o) (hl : o.length = 8) {k : Nat} (hk : k < 8) : w.cell? ⟨B, k, none⟩ = some (.bool (o.getD k false)) := by
  rw [cell_of_heap h]
  have : k < o.length := by omega
  simp [List.getD, this]
theorem mem_take_succ {l : List Int} {q : Nat} {y : Int} (h : l[q]? = some y) (x : Int) : decide (x ∈ l.take (q + 1)) = (decide (x ∈ l.take q) || decide (y = x)) := by
  obtain ⟨hlt, e⟩ := List.getElem?_eq_some_iff.1 h
  rw [List.take_succ_eq_append_getElem hlt, e]
  simp [Bool.decide_or, eq_comm]
set_option maxHeartbeats 8000000 in
theorem written3_ok (v u : Value) (l : List Qs.Instr) (more : List Int) (w : World) (hc : CodeAt w v l) (hf : CodeFine l) (ho : ∀ x ∈ l, wop x.op = true) (hl : l.length ≤ 1000) (hu : IntsAt w u more) (hm : more.length ≤ 1000)
    (hw : ∀ k : Nat, 3 ≤ k → k < 8 → (writtenL l).getD k false = true → (k : Int) ∈ more) :
    Calls Tryd.prog 56 #[v, u] w fun e w' => e = .returned (.bool true) ∧ Mod noF w w' := by
  obtain ⟨a, c, rfl, hcm, -⟩ := hc.at_
  obtain ⟨ua, uc, rfl, hul, -⟩ := hu.at_
  have hwr := written_ok _ l w hc hf ho hl
  have Hwr := Lib.hid hwr
  have Hu := Lib.hid hu
  have Hw := Lib.hid hw
  clear hwr hc hf ho hu hw
  go_enter Tryd.func56, Tryd.ntmps56
  go_wp2_with fail
  refine Hwr.out.mono ?_
  rintro e w1 ⟨rfl, hm1, hB1⟩
  have hu1 := Hu.out.frame0 hm1
  have Hm1 := Lib.hid hm1
  have HB1 := Lib.hid hB1
  have Hu1 := Lib.hid hu1
  clear hm1 hB1 hu1 Hwr Hu
  go_wp2
  go_loop [6, 7, 8] (fun i _ _ => ∃ k : Nat, 3 ≤ k ∧ k ≤ 8 ∧ i = .int .i64 k) (fun i _ _ => 8 - (intOf i).toNat)
  case atStart => exact ⟨3, by omega, by omega, rfl⟩
  case round =>
    obtain ⟨k, hk3, hk8, rfl⟩ := hrel
    by_cases hlt : (k : Int) < 8
    · have hd : decide ((k : Int) < 8) = true := by simp; omega
      go_wp2
      go_loop [7, 8] (fun b j => ∃ q : Nat, q ≤ more.length ∧ j = .int .i64 q ∧ b = .bool (decide ((k : Int) ∈ more.take q))) (fun b j => more.length - (intOf j).toNat)
      case atStart => exact ⟨0, Nat.zero_le _, rfl, by simp⟩
      case round =>
        obtain ⟨q, hq, rfl, rfl⟩ := hrel
        by_cases hlq : q < more.length
        · have hd2 : decide ((q : Int) < (more.length : Int)) = true := by simp; omega
          have hqi : (q : Int) < (more.length : Int) := by omega
          obtain ⟨y, hy⟩ : ∃ y, more[q]? = some y := ⟨_, List.getElem?_eq_getElem hlq⟩
          obtain ⟨ua', uc', e', -, hcell⟩ := Hu1.out.at_
          cases e'
          obtain ⟨b, off, rfl, hbl, hcy⟩ := hcell q y hy
          have hms := mem_take_succ hy (k : Int)
          have Hms := Lib.hid hms
          generalize hz : decide ((k : Int) ∈ more.take q) = z at *
          clear hcell hy hms hz
          by_cases e : y = (k : Int)
          · have e1 : (y == (k : Int)) = true := by simpa using e
            have hmz : decide ((k : Int) ∈ more.take (q + 1)) = true := by rw [Hms.out]; simp [e]
            have Hmz := Lib.hid hmz
            clear e hmz
            go_wp2
            exact ⟨⟨q + 1, by omega, by go_num, by rw [Hmz.out]⟩, by simp [intOf]; omega⟩
          · have e1 : (y == (k : Int)) = false := by simpa using e
            have hmz : decide ((k : Int) ∈ more.take (q + 1)) = z := by rw [Hms.out]; simp [e]
            have Hmz := Lib.hid hmz
            clear e hmz
            go_wp2
            exact ⟨⟨q + 1, by omega, by go_num, by rw [Hmz.out]⟩, by simp [intOf]; omega⟩
        · have hd2 : decide ((q : Int) < (more.length : Int)) = false := by simp; omega
          obtain rfl : q = more.length := by omega
          have p0 := bools_cell3 HB1.out (writtenL_len _) (show k < 8 by omega)
          have hb0 := World.block_lt_of_cell? _ _ p0
          have hwk := Hw.out k hk3 (by omega)
          rw [List.take_length]
          generalize (writtenL l).getD k false = xb at p0 hwk
          by_cases hin : (k : Int) ∈ more
          · rw [show decide ((k : Int) ∈ more) = true by simpa using hin]
            clear hwk hin
            cases xb
            all_goals go_wp2
            all_goals go_round
            all_goals first | exact ⟨k + 1, by omega, by omega, by go_num⟩ | (simp [intOf]; omega)
          · rw [show decide ((k : Int) ∈ more) = false by simpa using hin]
            cases xb with
            | true => exact absurd (hwk rfl) hin
            | false =>
              clear hwk hin
              go_wp2
              go_round
              case rel => exact ⟨k + 1, by omega, by omega, by go_num⟩
              case measure => simp [intOf]; omega
    · have hd : decide ((k : Int) < 8) = false := by simpa using hlt
      go_wp2
      go_ret
      exact ⟨rfl, Hm1.out⟩
theorem piled_any (w : World) : Calls Tryd.prog 49 #[] w fun e w' => e = .returned (.bool true) ∧ Mod noF w w' := by
  go_enter Tryd.func49, Tryd.ntmps49
  go_wp2_with fail
  refine (push_ok ⟨#[97]⟩ w (by decide) (by decide)).mono ?_
  rintro e w1 ⟨va, rfl, hma⟩
  obtain ⟨ga, ca, rfl, _⟩ := InsRow.src hma.1 (by simp [pushCode])
  have H1 := Lib.hid (Mod.below hma.2.1)
  clear hma
  go_wp2_with fail
  refine (pop_ok ⟨#[98]⟩ w1 (by decide) (by decide)).mono ?_
  rintro e w2 ⟨vb, rfl, hmb⟩
  obtain ⟨gb, cb, rfl, _⟩ := InsRow.src hmb.1 (by simp [popCode])
  have H2 := Lib.hid (Mod.below hmb.2.1)
  clear hmb
  go_wp2
  go_ret
  exact ⟨rfl, H1.out.trans0 H2.out⟩
end Go.Proofs.YtamfbfajlfbooaaDoor
