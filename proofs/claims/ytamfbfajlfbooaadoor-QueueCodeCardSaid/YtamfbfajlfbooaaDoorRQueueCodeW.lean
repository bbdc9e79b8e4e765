/- QueueCode, walked. -/
import Derived.Test.YtamfbfajlfbooaaDoorRQueueLaw
import Derived.Outline
set_option linter.unusedVariables false
set_option linter.unusedSimpArgs false
set_option linter.unusedSectionVars false
namespace Go.Proofs.YtamfbfajlfbooaaDoor
open Go.RowKit Qs Qh
theorem intsAt_two (w : World) (x y : Int) : IntsAt (w.alloc (.cells #[.int .i64 x, .int .i64 y] 3)) (.slice (some ⟨w.heap.size, 0, none⟩) 2 2) [x, y] :=
  ⟨_, _, rfl, (by unfold maxLen; simp), fun i z hi => by
    have hi0 : i = 0 ∨ i = 1 := by have := (List.getElem?_eq_some_iff.1 hi).1; simp at this; omega
    rcases hi0 with rfl | rfl
    · simp at hi; subst hi
      exact ⟨_, 0, rfl, lt_of_block (heap_alloc_new w _), (cell_of_heap (heap_alloc_new w _) 0).trans rfl⟩
    · simp at hi; subst hi
      exact ⟨_, 0, rfl, lt_of_block (heap_alloc_new w _), (cell_of_heap (heap_alloc_new w _) 1).trans rfl⟩⟩
set_option maxHeartbeats 2000000 in
theorem que_name (s : ByteArray) (w : World) (a : Nat → Addr) (E : ErrsAt w a) (hl : s.size ≤ 100) (hn : (nameB s.data.toList && decide ((s.size : Int) ≤ 8)) = false) :
    Calls Tryd.prog 17 #[.string s] w fun e w' => e = .returned (.bool true) ∧ Mod noF w w' := by
  have hl100 : decide ((100 : Int) < (s.size : Int)) = false := by simp; omega
  have hs : s.size ≤ maxLen := by unfold maxLen; omega
  have hnn : nameB s.data.toList = false ∨ (8 : Int) < (s.size : Int) := by
    cases h : nameB s.data.toList with
    | false => exact .inl rfl
    | true => right; rw [h] at hn; simp at hn; omega
  have Hn := Lib.hid hn
  have HE := Lib.hid E
  have Hnn := Lib.hid hnn
  clear E hn hnn
  go_enter Tryd.func17, Tryd.ntmps17
  go_wp2_with fail
  refine (lined_any w).mono ?_
  rintro e w1 ⟨rfl, hm1⟩
  have hpu := qput_bad s w1 a (HE.out.keep hm1) hs Hnn.out
  have hpo := qtake_bad s w1 a (HE.out.keep hm1) hs Hnn.out
  unfold errV at hpu hpo
  have Hpu := Lib.hid hpu
  have Hpo := Lib.hid hpo
  have Hm1 := Lib.hid hm1
  clear hpu hpo hm1
  go_wp2_with fail
  refine Hpu.out.mono ?_
  rintro e w2 ⟨rfl, rfl⟩
  go_wp2_with fail
  refine Hpo.out.mono ?_
  rintro e w2 ⟨rfl, rfl⟩
  go_wp2_with fail
  refine (isPrefix_any s 8 w1 hs).mono ?_
  rintro e w2 ⟨rfl, rfl⟩
  rw [Hn.out]
  go_wp2_with fail
  have hcd := coded3_at (HE.out.keep Hm1.out) 3 (by omega) 4
  rw [show decide ((4 : Int) = ((3 : Nat) : Int) + 1) = true by decide] at hcd
  unfold errV at hcd
  refine hcd.mono ?_
  rintro e w3 ⟨rfl, hm3⟩
  have Hm3 := Lib.hid (Hm1.out.trans0 hm3)
  clear hcd hm3
  go_wp2_with fail
  have hcd := coded3_at (HE.out.keep Hm3.out) 3 (by omega) 4
  rw [show decide ((4 : Int) = ((3 : Nat) : Int) + 1) = true by decide] at hcd
  unfold errV at hcd
  refine hcd.mono ?_
  rintro e w4 ⟨rfl, hm4⟩
  have Hm4 := Lib.hid (Hm3.out.trans0 hm4)
  clear hcd hm4
  go_wp2
  go_ret
  exact ⟨rfl, Hm4.out⟩
set_option maxHeartbeats 8000000 in
theorem que_good (s : ByteArray) (w : World) (hl : s.size ≤ 100) (hn : (nameB s.data.toList && decide ((s.size : Int) ≤ 8)) = true) :
    Calls Tryd.prog 17 #[.string s] w fun e w' => e = .returned (.bool true) ∧ Mod noF w w' := by
  have hl100 : decide ((100 : Int) < (s.size : Int)) = false := by simp; omega
  have hs : s.size ≤ maxLen := by unfold maxLen; omega
  have Hn := Lib.hid hn
  simp only [Bool.and_eq_true, decide_eq_true_eq] at hn
  obtain ⟨hn1, hn8⟩ := hn
  have hn8' : s.size ≤ 8 := by omega
  have Hn1 := Lib.hid hn1
  have hf1 := qputCode_fine hn1 hn8'
  have hf2 := qtakeCode_fine hn1 hn8'
  have Hf1 := Lib.hid hf1
  have Hf2 := Lib.hid hf2
  clear hn1 hf1 hf2
  go_enter Tryd.func17, Tryd.ntmps17
  go_wp2_with fail
  refine (lined_any w).mono ?_
  rintro e w1 ⟨rfl, hm1⟩
  have Hm1 := Lib.hid hm1
  clear hm1
  go_wp2_with fail
  refine (qput_ok s w1 Hn1.out hn8).mono ?_
  rintro e w2 ⟨va, rfl, hma⟩
  have hca := InsRow.code hma.1
  have Hm2 := Lib.hid (Hm1.out.trans0 (Mod.below hma.2.1))
  obtain ⟨ga, cca, rfl, _⟩ := hca.at_
  have Hca := Lib.hid hca
  clear hma hca
  go_wp2_with fail
  refine (qtake_ok s w2 Hn1.out hn8).mono ?_
  rintro e w3 ⟨vb, rfl, hmb⟩
  have hcb := InsRow.code hmb.1
  have hq3 := Mod.below hmb.2.1
  have Hca3 := Lib.hid (Hca.out.frame hq3 (fun _ _ e => e))
  have Hm3 := Lib.hid (Hm2.out.trans0 hq3)
  obtain ⟨gb, ccb, rfl, _⟩ := hcb.at_
  have Hcb := Lib.hid hcb
  clear hmb hcb hq3 Hca
  go_wp2_with fail
  refine (isPrefix_any s 8 w3 hs).mono ?_
  rintro e w4 ⟨rfl, rfl⟩
  rw [Hn.out]
  go_wp2_with fail
  refine (bars3_any w3).mono ?_
  rintro e w4 ⟨rfl, hq4, hb4⟩
  have hpl := plain_ok _ _ (qputCode s.data.toList) s 60 barsL w4 (Hca3.out.frame hq4 (fun _ _ e => e)) Hf1.out (by simp [qputCode]) (by omega) hb4 (fun x hx => wop_bars (qputCode_wop _ x hx)) (qputCode_to s) hs
  have Hpl := Lib.hid hpl
  have Hq4 := Lib.hid hq4
  clear hpl hq4 hb4
  go_wp2_with fail
  refine Hpl.out.mono ?_
  rintro e w5 ⟨rfl, hm5⟩
  have Hq5 := Lib.hid (Hq4.out.trans0 hm5)
  clear hm5 Hpl
  go_wp2_with fail
  refine (bars3_any w5).mono ?_
  rintro e w6 ⟨rfl, hq6, hb6⟩
  have hpl := plain_ok _ _ (qtakeCode s.data.toList) s 60 barsL w6 (Hcb.out.frame (Hq5.out.trans0 hq6) (fun _ _ e => e)) Hf2.out (by simp [qtakeCode]) (by omega) hb6 (fun x hx => wop_bars (qtakeCode_wop _ x hx)) (qtakeCode_to s) hs
  have Hpl := Lib.hid hpl
  have Hq6 := Lib.hid (Hq5.out.trans0 hq6)
  clear hpl hq6 hb6
  go_wp2_with fail
  refine Hpl.out.mono ?_
  rintro e w7 ⟨rfl, hm7⟩
  have Hq7 := Lib.hid (Hq6.out.trans0 hm7)
  clear hm7 Hpl
  go_wp2_with fail
  have hwr := written3_ok _ (.slice none 0 0) (qputCode s.data.toList) [] w7 (Hca3.out.frame Hq7.out (fun _ _ e => e)) Hf1.out (qputCode_wop _) (by simp [qputCode]) ⟨none, 0, rfl, by simp, fun i x h => by simp at h⟩ (by simp) (fun k h3 h8 hk => by
    rw [qput_written] at hk
    rcases (by omega : k = 3 ∨ k = 4 ∨ k = 5 ∨ k = 6 ∨ k = 7) with rfl | rfl | rfl | rfl | rfl <;> cases hk)
  refine hwr.mono ?_
  rintro e w8 ⟨rfl, hm8⟩
  have Hq8 := Lib.hid (Hq7.out.trans0 hm8)
  clear hwr hm8
  go_wp2_with fail
  have h3 := intsAt_two w8 3 4
  have hwr := written3_ok _ _ (qtakeCode s.data.toList) [3, 4] _ (Hcb.out.frame (Hq8.out.alloc (.cells #[.int .i64 3, .int .i64 4] 3)) (fun _ _ e => e)) Hf2.out (qtakeCode_wop _) (by simp [qtakeCode]) h3 (by simp) (fun k hk3 h8 hk => by
    rw [qtake_written] at hk
    rcases (by omega : k = 3 ∨ k = 4 ∨ k = 5 ∨ k = 6 ∨ k = 7) with rfl | rfl | rfl | rfl | rfl
    · simp
    · simp
    all_goals cases hk)
  refine hwr.mono ?_
  rintro e w9 ⟨rfl, hm9⟩
  have Hq9 := Lib.hid ((Hq8.out.alloc _).trans0 hm9)
  clear hwr hm9 h3
  go_wp2
  go_ret
  exact ⟨rfl, Hm3.out.trans0 Hq9.out⟩
set_option maxHeartbeats 2000000 in
theorem que_mod (s : ByteArray) (w : World) (a : Nat → Addr) (E : ErrsAt w a) (hs : s.size ≤ maxLen) :
    Calls Tryd.prog 17 #[.string s] w fun e w' => e = .returned (.bool true) ∧ Mod noF w w' := by
  by_cases hl : 100 < s.size
  · have hl100 : decide ((100 : Int) < (s.size : Int)) = true := by simp; omega
    go_enter Tryd.func17, Tryd.ntmps17
    go_wp2_with fail
    refine (lined_any w).mono ?_
    rintro e w1 ⟨rfl, hm1⟩
    have Hm1 := Lib.hid hm1
    clear hm1
    go_wp2
    go_ret
    exact ⟨rfl, Hm1.out⟩
  cases hn : (nameB s.data.toList && decide ((s.size : Int) ≤ 8)) with
  | false => exact que_name s w a E (by omega) hn
  | true => exact que_good s w (by omega) hn
theorem queueCode_any (a0 : ByteArray) (w : World) (h0 : a0.size ≤ maxLen) (h : ∃ a, ErrsAt w a) :
    Calls Tryd.prog 17 #[.string a0] w fun e w' => e = .returned (.bool true) ∧ Below w.heap.size w w' := by
  obtain ⟨a, E⟩ := h
  exact (que_mod a0 w a E h0).mono fun _ _ h => ⟨h.1, h.2.toBelow⟩
end Go.Proofs.YtamfbfajlfbooaaDoor
