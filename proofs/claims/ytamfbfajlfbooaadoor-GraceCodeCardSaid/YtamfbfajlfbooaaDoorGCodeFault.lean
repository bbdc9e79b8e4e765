/- quiescentref1.CodeFault, of right code. -/
import Derived.Test.YtamfbfajlfbooaaDoorGCodeFine
import Derived.Test.YtamfbfajlfbooaaDoorGInstrErr
import Derived.Test.YtamfbfajlfbooaaDoorGLabel
set_option linter.unusedVariables false
set_option linter.unusedSimpArgs false
set_option linter.unusedSectionVars false
namespace Go.Proofs.YtamfbfajlfbooaaDoor
open Go.RowKit Qs Qh
theorem z0_eq {n : Int} (h : z0 n = true) : n = 0 := by unfold z0 at h; simpa using h
theorem emp_eq {l : List UInt8} (h : l.isEmpty = true) : l = [] := List.isEmpty_iff.1 h
theorem name_size {to : List UInt8} (h : nameB to = true) : (⟨to.toArray⟩ : ByteArray).size ≤ maxLen := by
  rw [← bytes_len]
  by_cases h12 : 12 < to.length
  · rw [nameB_len h12] at h; cases h
  · show to.length ≤ maxLen; unfold maxLen; omega
theorem ie_ok (x : Instr) (h : insFine x = true) (w : World) :
    Calls Tryd.prog 126 #[.agg #[.string (opStr x.op), .int .i64 x.A, .int .i64 x.B, .int .i64 x.C, sv x.to]] w fun e w' => e = .returned (.int .i64 0) ∧ Mod noF w w' := by
  obtain ⟨op, A, B, C, to⟩ := x
  rcases op_cases op with rfl | rfl | rfl | rfl | rfl | rfl | rfl | rfl | rfl | rfl | rfl | rfl | rfl | rfl | rfl | rfl | rfl | rfl | rfl | rfl | hbig
  · simp only [insFine, Bool.and_eq_true] at h
    obtain ⟨⟨⟨h1, h2⟩, h3⟩, h4⟩ := h
    obtain ⟨g0, l0⟩ := regB_iff h1
    obtain ⟨g1, l1⟩ := regB_iff h2
    obtain rfl := z0_eq h3
    obtain rfl := emp_eq h4
    exact ie_rv _ A B w shape_const g0 l0 g1 l1 
  · simp only [insFine, Bool.and_eq_true] at h
    obtain ⟨⟨⟨h1, h2⟩, h3⟩, h4⟩ := h
    obtain ⟨g0, l0⟩ := regB_iff h1
    obtain ⟨g1, l1⟩ := regB_iff h2
    obtain rfl := z0_eq h3
    obtain rfl := emp_eq h4
    exact ie_rr _ A B w shape_move g0 l0 g1 l1 
  · simp only [insFine, Bool.and_eq_true] at h
    obtain ⟨⟨⟨h1, h2⟩, h3⟩, h4⟩ := h
    obtain ⟨g0, l0⟩ := regB_iff h1
    obtain ⟨g1, l1⟩ := regB_iff h2
    obtain ⟨g2, l2⟩ := regB_iff h3
    obtain rfl := emp_eq h4
    exact ie_rrr _ A B C w shape_add g0 l0 g1 l1 g2 l2 
  · simp only [insFine, Bool.and_eq_true] at h
    obtain ⟨⟨⟨h1, h2⟩, h3⟩, h4⟩ := h
    obtain ⟨g0, l0⟩ := regB_iff h1
    obtain ⟨g1, l1⟩ := regB_iff h2
    obtain ⟨g2, l2⟩ := regB_iff h3
    obtain rfl := emp_eq h4
    exact ie_rrr _ A B C w shape_sub g0 l0 g1 l1 g2 l2 
  · simp only [insFine, Bool.and_eq_true] at h
    obtain ⟨⟨⟨h1, h2⟩, h3⟩, h4⟩ := h
    obtain ⟨g0, l0⟩ := regB_iff h1
    obtain ⟨g1, l1⟩ := regB_iff h2
    obtain ⟨g2, l2⟩ := regB_iff h3
    obtain rfl := emp_eq h4
    exact ie_rrr _ A B C w shape_and g0 l0 g1 l1 g2 l2 
  · simp only [insFine, Bool.and_eq_true] at h
    obtain ⟨⟨⟨h1, h2⟩, h3⟩, h4⟩ := h
    obtain ⟨g0, l0⟩ := regB_iff h1
    obtain ⟨g1, l1⟩ := regB_iff h2
    obtain ⟨g2, l2⟩ := regB_iff h3
    obtain rfl := emp_eq h4
    exact ie_rrr _ A B C w shape_xor g0 l0 g1 l1 g2 l2 
  · simp only [insFine, Bool.and_eq_true] at h
    obtain ⟨⟨⟨h1, h2⟩, h3⟩, h4⟩ := h
    obtain ⟨g0, l0⟩ := regB_iff h1
    obtain ⟨g1, l1⟩ := regB_iff h2
    obtain ⟨g2, l2⟩ := regB_iff h3
    obtain rfl := emp_eq h4
    exact ie_rrw _ A B C w shape_load g0 l0 g1 l1 g2 l2 
  · simp only [insFine, Bool.and_eq_true] at h
    obtain ⟨⟨⟨h1, h2⟩, h3⟩, h4⟩ := h
    obtain ⟨g0, l0⟩ := regB_iff h1
    obtain ⟨g1, l1⟩ := regB_iff h2
    obtain ⟨g2, l2⟩ := regB_iff h3
    obtain rfl := emp_eq h4
    exact ie_rrw _ A B C w shape_store g0 l0 g1 l1 g2 l2 
  · simp only [insFine, Bool.and_eq_true] at h
    obtain ⟨⟨⟨h1, h2⟩, h3⟩, h4⟩ := h
    obtain ⟨g0, l0⟩ := regB_iff h1
    obtain ⟨g1, l1⟩ := regB_iff h2
    obtain ⟨g2, l2⟩ := regB_iff h3
    obtain rfl := emp_eq h4
    exact ie_rrw _ A B C w shape_swap g0 l0 g1 l1 g2 l2 
  · simp only [insFine, Bool.and_eq_true] at h
    obtain ⟨⟨⟨h1, h2⟩, h3⟩, h4⟩ := h
    obtain ⟨g0, l0⟩ := regB_iff h1
    obtain ⟨g1, l1⟩ := regB_iff h2
    obtain ⟨g2, l2⟩ := regB_iff h3
    obtain rfl := emp_eq h4
    exact ie_rsw _ A B C w shape_cas g0 l0 g1 l1 g2 l2 
  · simp only [insFine, Bool.and_eq_true] at h
    obtain ⟨⟨⟨h1, h2⟩, h3⟩, h4⟩ := h
    obtain ⟨g0, l0⟩ := regB_iff h1
    obtain rfl := z0_eq h2
    obtain rfl := z0_eq h3
    obtain rfl := emp_eq h4
    exact ie_r _ A w shape_alloc g0 l0 
  · simp only [insFine, Bool.and_eq_true] at h
    obtain ⟨⟨⟨h1, h2⟩, h3⟩, h4⟩ := h
    obtain ⟨g0, l0⟩ := regB_iff h1
    obtain rfl := z0_eq h2
    obtain rfl := z0_eq h3
    obtain rfl := emp_eq h4
    exact ie_r _ A w shape_free g0 l0 
  · simp only [insFine, Bool.and_eq_true] at h
    obtain ⟨⟨⟨h1, h2⟩, h3⟩, h4⟩ := h
    obtain rfl := z0_eq h1
    obtain rfl := z0_eq h2
    obtain rfl := z0_eq h3
    obtain rfl := emp_eq h4
    exact ie_none _  w shape_fence  
  · simp only [insFine, Bool.and_eq_true] at h
    obtain ⟨⟨⟨h1, h2⟩, h3⟩, h4⟩ := h
    obtain rfl := z0_eq h1
    obtain rfl := z0_eq h2
    obtain rfl := z0_eq h3
    obtain rfl := emp_eq h4
    exact ie_none _  w shape_force  
  · simp only [insFine, Bool.and_eq_true] at h
    obtain ⟨⟨⟨h1, h2⟩, h3⟩, h4⟩ := h
    obtain ⟨g0, l0⟩ := regB_iff h1
    obtain rfl := z0_eq h2
    obtain rfl := z0_eq h3
    exact ie_rl _ A ⟨to.toArray⟩ w shape_zero g0 l0 (name_size h4) h4
  · simp only [insFine, Bool.and_eq_true] at h
    obtain ⟨⟨⟨h1, h2⟩, h3⟩, h4⟩ := h
    obtain ⟨g0, l0⟩ := regB_iff h1
    obtain ⟨g1, l1⟩ := regB_iff h2
    obtain rfl := z0_eq h3
    exact ie_rrl _ A B ⟨to.toArray⟩ w shape_same g0 l0 g1 l1 (name_size h4) h4
  · simp only [insFine, Bool.and_eq_true] at h
    obtain ⟨⟨⟨h1, h2⟩, h3⟩, h4⟩ := h
    obtain rfl := z0_eq h1
    obtain rfl := z0_eq h2
    obtain rfl := z0_eq h3
    exact ie_l _  ⟨to.toArray⟩ w shape_goto  (name_size h4) h4
  · simp only [insFine, Bool.and_eq_true] at h
    obtain ⟨⟨⟨h1, h2⟩, h3⟩, h4⟩ := h
    obtain rfl := z0_eq h1
    obtain rfl := z0_eq h2
    obtain rfl := z0_eq h3
    exact ie_l _  ⟨to.toArray⟩ w shape_label  (name_size h4) h4
  · simp only [insFine, Bool.and_eq_true] at h
    obtain ⟨⟨⟨h1, h2⟩, h3⟩, h4⟩ := h
    obtain ⟨g0, l0⟩ := regB_iff h1
    obtain rfl := z0_eq h2
    obtain rfl := z0_eq h3
    obtain rfl := emp_eq h4
    exact ie_r _ A w shape_mark g0 l0 
  · simp only [insFine, Bool.and_eq_true] at h
    obtain ⟨⟨⟨h1, h2⟩, h3⟩, h4⟩ := h
    obtain ⟨g0, l0⟩ := regB_iff h1
    obtain rfl := z0_eq h2
    obtain rfl := z0_eq h3
    obtain rfl := emp_eq h4
    exact ie_r _ A w shape_need g0 l0 
  · have he : op = 20 := by
      have := insOk_le (insFine_ok h); simp only at this; omega
    subst he
    simp only [insFine, Bool.and_eq_true] at h
    obtain ⟨⟨⟨h1, h2⟩, h3⟩, h4⟩ := h
    obtain rfl := z0_eq h1
    obtain rfl := z0_eq h2
    obtain rfl := z0_eq h3
    obtain rfl := emp_eq h4
    exact ie_none _  w shape_stop  
theorem fine_any (w : World) : Calls Tryd.prog 88 #[] w fun e w' => e = .returned (.agg #[.int .i64 0, .int .i64 (-1)]) ∧ Mod noF w w' := by
  go_enter Tryd.func88, Tryd.ntmps88
  go_wp2
  exact bodyPost_ret (v := .agg #[.int .i64 0, .int .i64 (-1)]) (by simp [results, Tryd.results88, go_sem]) rfl ⟨rfl, (Mod.refl _ _).alloc _⟩
set_option maxHeartbeats 2000000 in
theorem codeFault_ok (v : Value) (l : List Instr) (w : World) (h : CodeAt w v l) (hf : CodeFine l) :
    Calls Tryd.prog 87 #[v] w fun e w' => e = .returned (.agg #[.int .i64 0, .int .i64 (-1)]) ∧ Mod noF w w' := by
  obtain ⟨a, c, rfl, hc, hx⟩ := h.at_
  have hlen := hf.len
  have Hx := Lib.hid hx
  have Hf := Lib.hid hf
  have H := Lib.hid h
  have hd2 : decide ((2000 : Int) < (l.length : Int)) = false := by simp; omega
  clear hx hf h
  go_enter Tryd.func87, Tryd.ntmps87
  go_wp2
  go_loopw [3, 4] (fun i _ wr => ∃ k : Nat, k ≤ l.length ∧ i = .int .i64 k ∧ Mod noF w wr ∧ wr.heap[w.heap.size]? = some (.cells #[.int .i64 0, .int .i64 0] 32 (0, 0))) (fun i _ _ => l.length - (intOf i).toNat)
  case atStart => exact ⟨0, Nat.zero_le _, rfl, (Mod.refl _ _).alloc _, heap_alloc_new w _⟩
  case round =>
    rename_i wr
    obtain ⟨k, hk, rfl, hmr, hres⟩ := hrel
    have hsr := lt_of_block hres
    have Hmr := Lib.hid hmr
    have Hres := Lib.hid hres
    clear hmr hres
    by_cases hlt : k < l.length
    · have hd : decide ((k : Int) < (l.length : Int)) = true := by simp; omega
      obtain ⟨x, hxk⟩ : ∃ x, l[k]? = some x := ⟨_, List.getElem?_eq_getElem hlt⟩
      obtain ⟨b, off, rfl, hb, hcell⟩ := Hx.out k x hxk
      have hcr : ∀ j y, (instrVals x)[j]? = some y → wr.cell? ⟨b, off + k * 5 + j, none⟩ = some y := fun j y hj => Hmr.out.cell (hcell j y hj) (fun e => e)
      have hie := ie_ok x (Hf.out.ins x (List.mem_of_getElem? hxk)) wr
      have hmem : x ∈ l := List.mem_of_getElem? hxk
      have hset := Hf.out.set k x hxk
      have hlab := Hf.out.lab x hmem
      have hfx := Hf.out.ins x hmem
      have c0 := hcr 0 _ rfl
      have c1 := hcr 1 _ rfl
      have c2 := hcr 2 _ rfl
      have c3 := hcr 3 _ rfl
      have c4 := hcr 4 _ rfl
      simp only [Nat.add_zero, iv, sv] at c0 c1 c2 c3 c4
      unfold sv at hie
      have hlabel : ∀ W, Mod noF w W → Calls Tryd.prog 127 #[.slice (some ⟨b, off, none⟩) l.length c, .string ⟨x.to.toArray⟩] W fun e w' => e = .returned (.int .i64 (labE x.to l)) ∧ W = w' := fun W hW =>
        labelAt_any _ c l x.to W (by omega) fun i y hi => by
          obtain ⟨b', off', e, hb', hc'⟩ := Hx.out i y hi
          exact ⟨b', off', e, Nat.lt_of_lt_of_le hb' hW.size, fun j u hj => hW.cell (hc' j u hj) (fun e => e)⟩
      have Hie := Lib.hid hie
      have Hlabel := Lib.hid hlabel
      have Hset := Lib.hid hset
      have Hlab := Lib.hid hlab
      have Hfx := Lib.hid hfx
      have Hxk := Lib.hid hxk
      clear hxk hcell hcr hie hlabel hset hlab hfx hmem
      by_cases h17 : x.op = 17
      · have hs : opStr x.op = ⟨#[108, 97, 98, 101, 108]⟩ := by rw [h17]; rfl
        have hE : labE x.to l = (k : Int) := by unfold labE; rw [Hset.out h17]
        have hne := nameB_ne (insFine_jump Hfx.out (.inr (.inr (.inr h17))))
        rw [hs] at c0 Hie
        rw [hE] at Hlabel
        generalize hd4 : (⟨x.to.toArray⟩ : ByteArray) = d at *
        have e1 : d.toList.isEmpty = false := by rw [← hd4, bytes_list]; exact List.isEmpty_eq_false_iff.2 hne
        have e2 : ¬ d.toList = [] := by rw [← hd4, bytes_list]; exact hne
        clear hs hE hne h17 hd4
        go_wp2_with fail
        refine Hie.out.mono ?_
        rintro e w1 ⟨rfl, hm1⟩
        have hres1 := hm1.heap Hres.out (fun e => e)
        have b0 : w1.cell? ⟨b, off + k * 5, none⟩ = some (.string ⟨#[108, 97, 98, 101, 108]⟩) := hm1.cell c0 (fun e => e)
        have b4 := hm1.cell c4 (fun e => e)
        have hmw := Hmr.out.trans0 hm1
        have hb1 : b < w1.heap.size := Nat.lt_of_lt_of_le hb hmw.size
        have Hmw := Lib.hid hmw
        have Hres1 := Lib.hid hres1
        clear hm1 hres1 hmw c0 c1 c2 c3 c4
        go_wp2_with (go_at_call 127; refine (Hlabel.out _ Hmw.out).mono ?_; rintro e w' ⟨rfl, rfl⟩)
        go_roundw
        case rel => exact ⟨k + 1, by omega, by go_num, Hmw.out, Hres1.out⟩
        case measure => simp [intOf]; omega
      · have hsl : ¬ (opStr x.op).toList = [108, 97, 98, 101, 108] := fun e => h17 ((opStr_label _).1 e)
        generalize hs : opStr x.op = s at *
        clear hs h17
        by_cases hto : x.to = []
        · rw [hto] at c4 Hie
          clear hto
          go_wp2_with fail
          refine Hie.out.mono ?_
          rintro e w1 ⟨rfl, hm1⟩
          have hres1 := hm1.heap Hres.out (fun e => e)
          have b0 := hm1.cell c0 (fun e => e)
          have b4 := hm1.cell c4 (fun e => e)
          have hmw := Hmr.out.trans0 hm1
          have hb1 : b < w1.heap.size := Nat.lt_of_lt_of_le hb hmw.size
          have Hmw := Lib.hid hmw
          have Hres1 := Lib.hid hres1
          clear hm1 hres1 hmw c0 c1 c2 c3 c4
          go_wp2
          go_roundw
          case rel => exact ⟨k + 1, by omega, by go_num, Hmw.out, Hres1.out⟩
          case measure => simp [intOf]; omega
        · obtain ⟨i, hi⟩ := Option.isSome_iff_exists.1 (Hlab.out hto)
          have hE : labE x.to l = (i : Int) := by unfold labE; rw [hi]
          rw [hE] at Hlabel
          generalize hd4 : (⟨x.to.toArray⟩ : ByteArray) = d at *
          have e1 : d.toList.isEmpty = false := by rw [← hd4, bytes_list]; exact List.isEmpty_eq_false_iff.2 hto
          have e2 : ¬ d.toList = [] := by rw [← hd4, bytes_list]; exact hto
          have e3 : decide ((i : Int) < 0) = false := by simp
          clear hd4 hto hi hE
          go_wp2_with fail
          refine Hie.out.mono ?_
          rintro e w1 ⟨rfl, hm1⟩
          have hres1 := hm1.heap Hres.out (fun e => e)
          have b0 := hm1.cell c0 (fun e => e)
          have b4 := hm1.cell c4 (fun e => e)
          have hmw := Hmr.out.trans0 hm1
          have hb1 : b < w1.heap.size := Nat.lt_of_lt_of_le hb hmw.size
          have Hmw := Lib.hid hmw
          have Hres1 := Lib.hid hres1
          clear hm1 hres1 hmw c0 c1 c2 c3 c4
          go_wp2_with (go_at_call 127; refine (Hlabel.out _ Hmw.out).mono ?_; rintro e w' ⟨rfl, rfl⟩)
          go_roundw
          case rel => exact ⟨k + 1, by omega, by go_num, Hmw.out, Hres1.out⟩
          case measure => simp [intOf]; omega
    · have hd : decide ((k : Int) < (l.length : Int)) = false := by simp; omega
      go_wp2_with fail
      refine (fine_any _).mono ?_
      rintro e w1 ⟨rfl, hm1⟩
      have hres1 := hm1.heap Hres.out (fun e => e)
      have r0 : w1.cell? ⟨w.heap.size, 0, none⟩ = some (.int .i64 0) := by rw [cell_of_heap hres1]; rfl
      have r1 : w1.cell? ⟨w.heap.size, 1, none⟩ = some (.int .i64 0) := by rw [cell_of_heap hres1]; rfl
      have f0 := free_of_heap hres1 0
      have f1 := free_of_heap hres1 1
      have hmw := Hmr.out.trans0 hm1
      have hs1 := lt_of_block hres1
      have Hmw := Lib.hid hmw
      clear hm1 hres1 hmw
      go_wp2
      refine bodyPost_ret (v := .agg #[.int .i64 0, .int .i64 (-1)]) (by simp [results, Tryd.results87, go_sem, r0, r1]) rfl ⟨rfl, ?_⟩
      exact (Hmw.out.setCell (fun h => absurd h (by simp)) _).setCell (fun h => absurd h (by simp)) _
end Go.Proofs.YtamfbfajlfbooaaDoor
