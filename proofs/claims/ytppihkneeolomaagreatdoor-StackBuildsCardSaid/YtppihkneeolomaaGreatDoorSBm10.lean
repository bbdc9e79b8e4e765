/- Texts that belong together, joined. -/
import Derived.Test.YtppihkneeolomaaGreatDoorSBm9
import Derived.Test.YtppihkneeolomaaGreatDoorSBm6
import Derived.Test.YtppihkneeolomaaGreatDoorSBm7
set_option linter.unusedVariables false
set_option linter.unusedSimpArgs false
set_option linter.unusedSectionVars false
/- StackBuilds: its walk where lists are long, or wrong, or there is no flavour. -/
section
namespace Go.Proofs.YtppihkneeolomaaGreatDoor
open Go.RowKit Qs Qh Qc
variable {N : Nat} {w w' : World} {v u : Value} {ll : List (List ROp)} {a : Nat → Addr} {f : Int}
theorem longB_false3 {ll : List (List ROp)} (h : longB ll = false) : ll.length ≤ 10 ∧ ∀ l ∈ ll, l.length ≤ 30 := by
  unfold longB at h
  simp only [Bool.or_eq_false_iff, decide_eq_false_iff_not] at h
  refine ⟨by omega, fun l hl => rowLong_false ?_⟩
  have := List.any_eq_false.1 h.2 l hl
  simpa using this
theorem nilOk_keep3 {oa : Option Addr} {n oc : Nat} (HH : RIn N w (.slice oa n oc) ll) (hn : ll.length = n) (hnil : NilOk w (.slice oa n oc)) {w1 : World} (hm : Mod noF w w1) : NilOk w1 (.slice oa n oc) := fun b off n' m i k c e hi hc => by
  obtain ⟨a2, c2, e2, hx⟩ := HH
  rw [hn] at e2
  cases e2
  cases e
  obtain ⟨l, hl⟩ : ∃ l, ll[i]? = some l := ⟨_, List.getElem?_eq_getElem (by omega)⟩
  obtain ⟨b2, off2, u2, e3, hb2, hc2, -⟩ := hx i l hl
  cases e3
  have := hm.cell hc2 (fun e => e)
  rw [this] at hc
  cases hc
  exact hnil b off _ _ i k c rfl hi hc2
theorem piled_ok (w : World) : Calls Tryz.prog 8 #[] w fun e w' => e = .returned (.bool true) ∧ Mod noF w w' := by
  go_enter Tryz.func8, Tryz.ntmps8
  go_wp2_with fail
  refine (push_ok ⟨#[97]⟩ _ (by decide) (by decide)).mono ?_
  rintro e w1 ⟨va, rfl, hma⟩
  have hq1 := Mod.below hma.2.1
  obtain ⟨a1, c1, rfl, -, -⟩ := hma.1.slice
  have d1 : decide ((0 : Int) < ((pushCode [97]).length : Int)) = true := rfl
  have Hq1 := Lib.hid hq1
  clear hma hq1
  go_wp2_with fail
  refine (pop_ok ⟨#[98]⟩ _ (by decide) (by decide)).mono ?_
  rintro e w2 ⟨va, rfl, hma⟩
  have hq2 := Mod.below hma.2.1
  obtain ⟨a2, c2, rfl, -, -⟩ := hma.1.slice
  have d2 : decide ((0 : Int) < ((popCode [98]).length : Int)) = true := rfl
  have Hq2 := Lib.hid hq2
  clear hma hq2
  go_wp2
  go_ret
  exact ⟨rfl, Hq1.out.trans0 Hq2.out⟩
theorem faultField3 (c a : Int) (w : World) : (Go.Instr.field 27 (.agg #[.int .i64 c, .int .i64 a]) 0).run Tryz.prog w = .ok (.int .i64 c) w := by kernel_rfl
theorem ks2 (w : World) (o : Obj) : KsAt ((w.alloc o).alloc (.cells #[.string kPop, .string kFlsh] 9)) (w.heap.size + 1) [kPop, kFlsh] := fun i x hi => by
  match i, hi with
  | 0, hi => cases hi; simp
  | 1, hi => cases hi; simp
  | i + 2, hi => simp at hi
set_option maxRecDepth 4000 in
set_option maxHeartbeats 4000000 in
theorem stb_long (H : RIn N w v ll) (hll : ll.length ≤ maxLen) (hrl : ∀ l ∈ ll, l.length ≤ maxLen) (hL : longB ll = true) :
    Calls Tryz.prog 5 #[.int .i64 f, v] w fun e w' => e = .returned (.bool true) ∧ Mod noF w w' := by
  have hlg := fun w' (hm : Mod noF w w') => long_any (H.keep hm (fun _ _ e => e)) hll hrl
  rw [hL] at hlg
  have Hlg := Lib.hid hlg
  obtain ⟨oa, oc, rfl, -⟩ := H
  clear hlg hrl
  go_enter Tryz.func5, Tryz.ntmps5
  go_wp2_with fail
  refine (piled_ok _).mono ?_
  rintro e w1 ⟨rfl, hm1⟩
  have Hm1 := Lib.hid hm1
  clear hm1
  go_wp2_with fail
  refine (Hlg.out _ Hm1.out).mono ?_
  rintro e w1 ⟨rfl, rfl⟩
  go_wp2
  go_ret
  exact ⟨rfl, Hm1.out⟩
set_option maxRecDepth 4000 in
set_option maxHeartbeats 16000000 in
theorem stb_bad (E : ErrsAt w a) (H : RIn N w v ll) (hnil : NilOk w v) (hN : N ≤ w.heap.size) (hL : longB ll = false) (hk : (kfG kPush [kPop, kFlsh] ll).1 ≠ 0) :
    Calls Tryz.prog 5 #[.int .i64 f, v] w fun e w' => e = .returned (.bool true) ∧ Mod noF w w' := by
  obtain ⟨h10, h30⟩ := longB_false3 hL
  have hlg := fun w' (hm : Mod noF w w') => long_any (H.keep hm (fun _ _ e => e)) (by unfold maxLen; omega) (fun l hl => by have := h30 l hl; unfold maxLen; omega)
  rw [hL] at hlg
  have Hlg := Lib.hid hlg
  have HH := Lib.hid H
  obtain ⟨oa, oc, rfl, -⟩ := H
  have Hnil := Lib.hid (fun w1 (hm : Mod noF w w1) => nilOk_keep3 HH.out rfl hnil hm)
  have HE := Lib.hid E
  have H30 := Lib.hid h30
  have hff := faultB_self (kfG kPush [kPop, kFlsh] ll).1 (kfG kPush [kPop, kFlsh] ll).2
  have hkp : 0 ≤ (kfG kPush [kPop, kFlsh] ll).1 := by
    rcases kfG_pos (W := kPush) (ks := [kPop, kFlsh]) ll with h | h | h
    · rw [h]; decide
    all_goals omega
  have dk : decide ((0 : Int) < (kfG kPush [kPop, kFlsh] ll).1) = true := by simp; omega
  have dz : ((kfG kPush [kPop, kFlsh] ll).1 == 0) = false := by simpa using hk
  have dz2 : decide ((kfG kPush [kPop, kFlsh] ll).1 = 0) = false := by simpa using hk
  clear hlg hnil E h30 hL hkp
  go_enter Tryz.func5, Tryz.ntmps5
  go_wp2_with fail
  refine (piled_ok _).mono ?_
  rintro e w1 ⟨rfl, hm1⟩
  have Hm1 := Lib.hid hm1
  clear hm1
  go_wp2_with fail
  refine (Hlg.out _ Hm1.out).mono ?_
  rintro e w1 ⟨rfl, rfl⟩
  clear Hlg
  go_wp2_with fail
  refine (opsOf_ok (HH.out.keep Hm1.out (fun _ _ e => e)) (Hnil.out _ Hm1.out) h10 H30.out).mono ?_
  rintro e w3 ⟨x, rfl, hm3, hR3⟩
  have Hm3 := Lib.hid (Hm1.out.trans0 hm3)
  have HR3 := Lib.hid hR3
  obtain ⟨xa, xc, rfl, -⟩ := hR3
  clear hm3
  go_wp2_with fail
  refine (sbuild_bad f (HE.out.keep Hm3.out) HR3.out (Nat.le_refl _) h10 H30.out hk).mono ?_
  rintro e w4 ⟨ev, rfl, hE4, hm4⟩
  have Hm4 := Lib.hid (Hm3.out.trans0 hm4)
  have HE4 := Lib.hid hE4
  obtain ⟨T, x, rfl⟩ := hE4.some hk
  clear hm4 hE4 HR3
  go_wp2_with fail
  have hq5 := ((Mod.refl noF w4).alloc (.cells #[.int .i64 0, .slice none 0 0, .slice none 0 0] 32)).alloc (.cells #[.string kPop, .string kFlsh] 9)
  refine (kindsG (W := kPush) (ks := [kPop, kFlsh]) (HH.out.keep (Hm4.out.trans0 hq5) (fun _ _ e => e)) h10 H30.out (w4.heap.size + 1) (ks2 w4 _) (by decide)).mono ?_
  rintro e w5 ⟨rfl, hm5⟩
  have Hm5 := Lib.hid (Hm4.out.trans0 (hq5.trans0 hm5))
  have HE5 := Lib.hid (HE4.out.keep (hq5.trans0 hm5) (fun _ _ e => e))
  have hT5 := hm5.heap (((Mod.refl noF _).alloc _).heap (heap_alloc_new w4 (.cells #[.int .i64 0, .slice none 0 0, .slice none 0 0] 32)) (fun e => e)) (fun e => e)
  have hq6 := (Mod.refl noF w5).alloc (.cells #[.int .i64 (kfG kPush [kPop, kFlsh] ll).1, .int .i64 (kfG kPush [kPop, kFlsh] ll).2] 27)
  have hT6 := hq6.heap hT5 (fun e => e)
  have HT6 := Lib.hid hT6
  clear hm5 hq5 hT5 hT6
  have hcal := faulted_any ((HE.out.keep Hm5.out).keep hq6) (HE5.out.keep hq6 (fun _ _ e => e)) (kfG kPush [kPop, kFlsh] ll).1 (kfG kPush [kPop, kFlsh] ll).2
  rw [hff] at hcal
  have Hcal := Lib.hid hcal
  have Hq6 := Lib.hid hq6
  clear hcal hq6 hff
  generalize (kfG kPush [kPop, kFlsh] ll).1 = fc at *
  generalize (kfG kPush [kPop, kFlsh] ll).2 = fp at *
  go_wp2_with fail
  refine Hcal.out.mono ?_
  rintro e w6 ⟨rfl, hm6⟩
  have hT7 := hm6.heap HT6.out (fun e => e)
  have c0 := cell_of_heap hT7 0
  replace c0 : w6.cell? ⟨w4.heap.size, 0, none⟩ = some (.int .i64 0) := c0
  have Hm6 := Lib.hid ((Hm5.out.trans0 Hq6.out).trans0 hm6)
  clear hm6 hT7 HT6 Hcal
  go_wp2
  go_ret
  exact ⟨rfl, Hm6.out⟩
set_option maxRecDepth 4000 in
set_option maxHeartbeats 16000000 in
theorem stb_flav (E : ErrsAt w a) (H : RIn N w v ll) (hnil : NilOk w v) (hN : N ≤ w.heap.size) (hL : longB ll = false) (hk : (kfG kPush [kPop, kFlsh] ll).1 = 0) (h6 : ll.length ≤ 6) (hf : ¬ (1 ≤ f ∧ f ≤ 4)) :
    Calls Tryz.prog 5 #[.int .i64 f, v] w fun e w' => e = .returned (.bool true) ∧ Mod noF w w' := by
  obtain ⟨h10, h30⟩ := longB_false3 hL
  have hlg := fun w' (hm : Mod noF w w') => long_any (H.keep hm (fun _ _ e => e)) (by unfold maxLen; omega) (fun l hl => by have := h30 l hl; unfold maxLen; omega)
  rw [hL] at hlg
  have Hlg := Lib.hid hlg
  have HH := Lib.hid H
  obtain ⟨oa, oc, rfl, -⟩ := H
  have Hnil := Lib.hid (fun w1 (hm : Mod noF w w1) => nilOk_keep3 HH.out rfl hnil hm)
  have HE := Lib.hid E
  have H30 := Lib.hid h30
  have Hk := Lib.hid hk
  have Hf := Lib.hid hf
  have hfb : (decide (1 ≤ f) && decide (f ≤ 4)) = false := by
    by_cases h : 1 ≤ f
    · have : ¬ f ≤ 4 := fun h2 => hf ⟨h, h2⟩
      simp [this]
    · simp [h]
  have Hfb := Lib.hid hfb
  clear hlg hnil E h30 hL hk hf hfb
  go_enter Tryz.func5, Tryz.ntmps5
  go_wp2_with fail
  refine (piled_ok _).mono ?_
  rintro e w1 ⟨rfl, hm1⟩
  have Hm1 := Lib.hid hm1
  clear hm1
  go_wp2_with fail
  refine (Hlg.out _ Hm1.out).mono ?_
  rintro e w1 ⟨rfl, rfl⟩
  clear Hlg
  go_wp2_with fail
  refine (opsOf_ok (HH.out.keep Hm1.out (fun _ _ e => e)) (Hnil.out _ Hm1.out) h10 H30.out).mono ?_
  rintro e w3 ⟨x, rfl, hm3, hR3⟩
  have Hm3 := Lib.hid (Hm1.out.trans0 hm3)
  have HR3 := Lib.hid hR3
  obtain ⟨xa, xc, rfl, -⟩ := hR3
  clear hm3
  go_wp2_with fail
  refine (sbuild_flav f Hf.out (HE.out.keep Hm3.out) HR3.out (Nat.le_refl _) h6 H30.out Hk.out).mono ?_
  rintro e w4 ⟨rfl, hm4⟩
  have Hm4 := Lib.hid (Hm3.out.trans0 hm4)
  have HEv : Hid (∀ W, ErrIs a W (errV a 1) 2 (-1)) := Lib.hid fun W => .inr (.inl ⟨1, by omega, rfl, rfl, rfl⟩)
  unfold errV at HEv ⊢
  clear hm4 HR3
  go_wp2_with fail
  have hq5 := ((Mod.refl noF w4).alloc (.cells #[.int .i64 0, .slice none 0 0, .slice none 0 0] 32)).alloc (.cells #[.string kPop, .string kFlsh] 9)
  refine (kindsG (W := kPush) (ks := [kPop, kFlsh]) (HH.out.keep (Hm4.out.trans0 hq5) (fun _ _ e => e)) h10 H30.out (w4.heap.size + 1) (ks2 w4 _) (by decide)).mono ?_
  rintro e w5 ⟨rfl, hm5⟩
  rw [Hk.out]
  generalize (kfG kPush [kPop, kFlsh] ll).2 = fp at *
  have Hm5 := Lib.hid (Hm4.out.trans0 (hq5.trans0 hm5))
  have hT5 := hm5.heap (((Mod.refl noF _).alloc _).heap (heap_alloc_new w4 (.cells #[.int .i64 0, .slice none 0 0, .slice none 0 0] 32)) (fun e => e)) (fun e => e)
  have HT5 := Lib.hid hT5
  clear hm5 hq5 hT5
  go_wp2_with fail
  refine (isFlavour2_any f _).mono ?_
  rintro e w6 ⟨rfl, rfl⟩
  rw [Hfb.out]
  go_wp2_with fail
  refine (bare_ok 2 _).mono ?_
  rintro e w7 ⟨rfl, hm7⟩
  have hq6 := (Mod.refl noF w5).alloc (.cells #[.int .i64 0, .int .i64 fp] 27)
  have hT7 := hm7.heap (heap_alloc_new w5 (.cells #[.int .i64 0, .int .i64 fp] 27)) (fun e => e)
  have hS7 := hm7.heap (hq6.heap HT5.out (fun e => e)) (fun e => e)
  have Hm7 := Lib.hid (hq6.trans0 hm7)
  have t0 := cell_of_heap hT7 0
  have t1 := cell_of_heap hT7 1
  have tf0 := free_of_heap hT7 0
  have tf1 := free_of_heap hT7 1
  replace t0 : w7.cell? ⟨w5.heap.size, 0, none⟩ = some (.int .i64 0) := t0
  replace t1 : w7.cell? ⟨w5.heap.size, 1, none⟩ = some (.int .i64 fp) := t1
  have HS7 := Lib.hid hS7
  have HT7 := Lib.hid hT7
  clear hm7 hT7 hS7 hq6
  go_wp2_with fail
  obtain ⟨wf, hwf⟩ : ∃ wf, wf = (w7.setCell ⟨w5.heap.size, 0, none⟩ (.int .i64 2)).setCell ⟨w5.heap.size, 1, none⟩ (.int .i64 (-1)) := ⟨_, rfl⟩
  have hMf : Mod (fun x => x = w5.heap.size) w7 wf := by rw [hwf]; exact ((Mod.refl (fun x => x = w5.heap.size) _).setCell (fun _ => rfl) _).setCell (fun _ => rfl) _
  have hm5f : Mod noF w wf := (Hm5.out.trans0 Hm7.out).trans hMf fun x hx e => by have := Hm5.out.size; omega
  rw [← hwf]
  refine (faulted_any (HE.out.keep hm5f) (HEv.out wf) 2 (-1)).mono ?_
  rintro e w8 ⟨rfl, hm8⟩
  rw [faultB_self]
  have hl5 := lt_of_block HT5.out
  have hS8 := hm8.heap (hMf.heap HS7.out (fun e => by omega)) (fun e => e)
  have c0 := cell_of_heap hS8 0
  replace c0 : w8.cell? ⟨w4.heap.size, 0, none⟩ = some (.int .i64 0) := c0
  have Hm8 := Lib.hid (hm5f.trans0 hm8)
  clear hm8 hS8 hm5f hMf hwf HS7 HT7 HT5
  go_wp2
  go_ret
  exact ⟨rfl, Hm8.out⟩
end Go.Proofs.YtppihkneeolomaaGreatDoor
end
/- StackBuilds: its walk. -/
section
namespace Go.Proofs.YtppihkneeolomaaGreatDoor
open Go.RowKit Qs Qh Qc
variable {N : Nat} {w w' : World} {v u : Value} {ll : List (List ROp)} {a : Nat → Addr} {f : Nat} {q : List (List SOp)}
set_option maxRecDepth 4000 in
set_option maxHeartbeats 32000000 in
theorem stb_good (E : ErrsAt w a) (HT : TabW w) (H : RIn N w v (rawS q)) (hnil : NilOk w v) (hN : N ≤ w.heap.size) (hL : longB (rawS q) = false) (hk : (kfG kPush [kPop, kFlsh] (rawS q)).1 = 0) (h1 : 1 ≤ q.length) (h6 : q.length ≤ 6) (h20 : ∀ l ∈ q, l.length ≤ 20) (hp : ∀ l ∈ q, ∀ n, SOp.push n ∈ l → 1 ≤ n ∧ n ≤ 1000) (hf1 : 1 ≤ f) (hf4 : f ≤ 4) :
    Calls Tryz.prog 5 #[.int .i64 f, v] w fun e w' => e = .returned (.bool true) ∧ Mod noF w w' := by
  obtain ⟨h10, h30⟩ := longB_false3 hL
  have hrl : (rawS q).length = q.length := by simp [rawS]
  have hlg := fun w' (hm : Mod noF w w') => long_any (H.keep hm (fun _ _ e => e)) (by unfold maxLen; omega) (fun l hl => by have := h30 l hl; unfold maxLen; omega)
  rw [hL] at hlg
  have Hlg := Lib.hid hlg
  have HH := Lib.hid H
  obtain ⟨oa, oc, rfl, -⟩ := H
  rw [hrl] at HH hnil ⊢
  have Hrl := Lib.hid hrl
  have Hnil := Lib.hid (fun w1 (hm : Mod noF w w1) => nilOk_keep3 HH.out hrl hnil hm)
  rw [hrl] at Hlg
  have HE := Lib.hid E
  have HTW := Lib.hid HT
  have H30 := Lib.hid h30
  have Hk := Lib.hid hk
  have H20 := Lib.hid h20
  have hfn := s_fine (f := f) hf1 hf4 h6 h20 hp
  have Hfn := Lib.hid hfn
  have hfb : (decide ((1 : Int) ≤ (f : Int)) && decide ((f : Int) ≤ 4)) = true := by simp; omega
  have Hfb := Lib.hid hfb
  have hnf := fun c w => faultField3 0 c w
  clear hlg hnil E HT h30 hL hk h20 hp hfn hfb hrl
  go_enter Tryz.func5, Tryz.ntmps5
  go_wp2_with fail
  refine (piled_ok _).mono ?_
  rintro e w1 ⟨rfl, hm1⟩
  have Hm1 := Lib.hid hm1
  clear hm1
  go_wp2_with fail
  refine (Hlg.out _ Hm1.out).mono ?_
  rintro e w1 ⟨rfl, rfl⟩
  clear Hlg
  go_wp2_with fail
  refine (opsOf_ok (HH.out.keep Hm1.out (fun _ _ e => e)) (Hnil.out _ Hm1.out) h10 H30.out).mono ?_
  rintro e w3 ⟨x, rfl, hm3, hR3⟩
  have Hm3 := Lib.hid (Hm1.out.trans0 hm3)
  have HR3 := Lib.hid hR3
  obtain ⟨xa, xc, rfl, -⟩ := hR3
  clear hm3
  go_wp2_with fail
  refine (sbuild_ok (fun N0 f t h => freshB h) (HE.out.keep Hm3.out) (HTW.out.keep Hm3.out (fun e => e)) HR3.out (Nat.le_refl _) Hk.out h1 h6 H20.out hf1 hf4).mono ?_
  rintro e w4 ⟨iv, rv, cv, vk4, rfl, hm4, hI, hR, hC⟩
  have HI := Lib.hid hI
  have HR := Lib.hid hR
  obtain ⟨ca, cc, rfl, hcx⟩ := hC
  have HC := Lib.hid (show CodesAt w4 (.slice ca (sCodes f q).length cc) (sCodes f q) vk4 from ⟨ca, cc, rfl, hcx⟩)
  rw [sCodes_len] at HC ⊢
  have Hm4 := Lib.hid (Hm3.out.trans0 hm4)
  obtain ⟨ia, ic, rfl, -⟩ := hI
  obtain ⟨ra, rc, rfl, -⟩ := hR
  rw [sInit_len] at HI ⊢
  rw [sRegs_len] at HR ⊢
  clear hm4 hcx HR3
  go_wp2_with fail
  have hq5 := ((Mod.refl noF w4).alloc (.cells #[.int .i64 64, .slice ia (q.length + 4) ic, .slice ra q.length rc] 32)).alloc (.cells #[.string kPop, .string kFlsh] 9)
  refine (kindsG (W := kPush) (ks := [kPop, kFlsh]) (HH.out.keep (Hm4.out.trans0 hq5) (fun _ _ e => e)) h10 H30.out (w4.heap.size + 1) (ks2 w4 _) (by decide)).mono ?_
  rintro e w5 ⟨rfl, hm5⟩
  rw [Hk.out]
  generalize (kfG kPush [kPop, kFlsh] (rawS q)).2 = fp at *
  have hm5' := hq5.trans0 hm5
  have HI5 := Lib.hid (HI.out.keepM hm5')
  have HR5 := Lib.hid (HR.out.keepM hm5')
  have HC5 := Lib.hid (CodesAt.keepM HC.out hm5')
  have Hm5 := Lib.hid (Hm4.out.trans0 hm5')
  have hT5 := hm5.heap (((Mod.refl noF _).alloc _).heap (heap_alloc_new w4 (.cells #[.int .i64 64, .slice ia (q.length + 4) ic, .slice ra q.length rc] 32)) (fun e => e)) (fun e => e)
  have HT5 := Lib.hid hT5
  clear hm5 hm5' hq5 hT5 HI HR HC
  go_wp2_with fail
  refine (isFlavour2_any f _).mono ?_
  rintro e w6 ⟨rfl, rfl⟩
  rw [Hfb.out]
  have hq6 := (Mod.refl noF w5).alloc (.cells #[.int .i64 0, .int .i64 fp] 27)
  have hT6 := hq6.heap HT5.out (fun e => e)
  have HT6 := Lib.hid hT6
  have c0 := cell_of_heap hT6 0
  have c1 := cell_of_heap hT6 1
  have c2 := cell_of_heap hT6 2
  replace c0 : (w5.alloc (.cells #[.int .i64 0, .int .i64 fp] 27)).cell? ⟨w4.heap.size, 0, none⟩ = some (.int .i64 64) := c0
  replace c1 : (w5.alloc (.cells #[.int .i64 0, .int .i64 fp] 27)).cell? ⟨w4.heap.size, 1, none⟩ = some (.slice ia (q.length + 4) ic) := c1
  replace c2 : (w5.alloc (.cells #[.int .i64 0, .int .i64 fp] 27)).cell? ⟨w4.heap.size, 2, none⟩ = some (.slice ra q.length rc) := c2
  have Hq6 := Lib.hid hq6
  have d20 : decide ((q.length : Int) + 4 ≤ 20) = true := by simp; omega
  clear hq6 hT6 HT5
  go_wp2_with fail
  refine (backStart_ok 64 ia ra _ ic _ rc _).mono ?_
  rintro e w7 ⟨rfl, hm7⟩
  have Hm7 := Lib.hid (Hq6.out.trans0 hm7)
  clear hm7 c0 c1 c2
  go_wp2_with fail
  have hI7 := HI5.out.keepM Hm7.out
  have hR7 := HR5.out.keepM Hm7.out
  have hC7 := CodesAt.keepM HC5.out Hm7.out
  refine (startFault_ok 64 _ _ _ (sInit f q.length) (sRegs q.length) _ _ _ hI7 hR7 hC7 (by omega) (by omega) (by rw [sCodes_len]; exact h1) (by rw [sCodes_len]; exact h6) (by rw [sInit_len]; omega) (by rw [sCodes_len, sRegs_len]; omega) (sInit_fine f _ h6) (sRegs_fine _ h6) Hfn.out).mono ?_
  rintro e w8 ⟨rfl, hm8⟩
  have Hm8 := Lib.hid ((Hm5.out.trans0 Hm7.out).trans0 hm8)
  clear hm8 hI7 hR7 hC7 HT6
  go_wp2
  go_ret
  exact ⟨rfl, Hm8.out⟩
theorem stackBuilds_any (a0 : Int) (a1 : Option Addr) (len1 cap1 : Nat) (z1 : List (List ROp)) (w : World) (hw : (Lit.int .i64 a0).wf = true) (h0 : IsOps w a1 len1 cap1 z1) (hE : ∃ a, ErrsAt w a) (HT : TabW w) :
    Calls Tryz.prog 5 #[.int .i64 a0, .slice a1 len1 cap1] w fun e w' => e = .returned (.bool true) ∧ Below w.heap.size w w' := by
  obtain ⟨H, hnil, h1, h2⟩ := h0
  obtain ⟨a, E⟩ := hE
  have key : Calls Tryz.prog 5 #[.int .i64 a0, .slice a1 len1 cap1] w fun e w' => e = .returned (.bool true) ∧ Mod noF w w' := by
    cases hL : longB z1 with
    | true => exact stb_long H h1 h2 hL
    | false =>
      by_cases hk : (kfG kPush [kPop, kFlsh] z1).1 = 0
      · obtain ⟨q, rfl, g1, g6, g20, gp⟩ := good_rawS hk
        by_cases hf : 1 ≤ a0 ∧ a0 ≤ 4
        · obtain ⟨f, rfl⟩ : ∃ f : Nat, a0 = (f : Int) := ⟨a0.toNat, by omega⟩
          exact stb_good E HT H hnil (Nat.le_refl _) hL hk g1 g6 g20 gp (by omega) (by omega)
        · exact stb_flav E H hnil (Nat.le_refl _) hL hk (by simpa [rawS] using g6) hf
      · exact stb_bad E H hnil (Nat.le_refl _) hL hk
  exact key.mono fun e w' ⟨he, hm⟩ => ⟨he, hm.under (Nat.le_refl _) fun k hk => hk.elim⟩
end Go.Proofs.YtppihkneeolomaaGreatDoor
end
