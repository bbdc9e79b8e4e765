/- package memory: New, Alloc. -/
import Derived.Test.YtamfbfajlfbooaaDoorRPMemW
import Derived.Test.YtamfbfajlfbooaaDoorRSetLaw
set_option linter.unusedVariables false
set_option linter.unusedSimpArgs false
set_option linter.unusedSectionVars false
namespace Go.Proofs.YtamfbfajlfbooaaDoor
open Go.RowKit Qs Qh
variable {w : World} {B : PB} {l : List Cell} {ws : List (List Wt)} {vs : List Value} {a : Nat → Addr}
theorem pwaitRowInfo : (Tryd.prog.info? 143).map (fun i => (i.zero, i.size, i.bytes)) = some (some (.slice none 0 0), 1, 24) := by kernel_rfl
theorem make_prows (n : Nat) (hn : n ≤ 64) (w : World) : (Instr.makeSlice 140 (.int .i64 n) (.int .i64 n)).run Tryd.prog w = .ok (.slice (some ⟨w.heap.size, 0, none⟩) n n) (w.alloc (.cells (List.replicate n (.slice none 0 0)).toArray 143)) := by
  obtain ⟨i, hi, hz0, hz1, hz2⟩ := info_parts pwaitRowInfo
  have := run_makeSlice (P := Tryd.prog) w 140 143 i _ Tryd.underlying140 hi hz0 .i64 .i64 n n (by omega) (by omega) (by rw [hz1]; simp; omega) (by rw [hz2]; omega) (by omega)
  rw [this, hz1]
  have e : (madeCells (Value.slice none 0 0).cells (n * 1)) = (List.replicate n (.slice none 0 0)).toArray := by
    rw [← toList_madeCells_one]; simp [Value.cells]
  simp only [Int.toNat_natCast]
  rw [e]
theorem pmNew_ok (n t : Nat) (h1 : 1 ≤ n) (hn : n ≤ 64) (t1 : 1 ≤ t) (t6 : t ≤ 6) (w : World) :
    Calls Tryd.prog 28 #[.int .i64 n, .int .i64 t] w fun e w' => ∃ B : PB, e = .returned (.tuple #[.pointer (some ⟨B.bM, 0, none⟩), .nilIface]) ∧ PMV w' B (List.replicate n freshCell) (List.replicate t []) (List.replicate t (.slice none 0 0)) ∧ Mod noF w w' ∧ ∀ x, PFoot B (List.replicate t (.slice none 0 0)) x → w.heap.size ≤ x := by
  have d0 : decide ((t : Int) < 1) = false := by simp; omega
  have d1 : decide ((6 : Int) < (t : Int)) = false := by simp; omega
  have hmk := make_prows t (by omega)
  go_enter Tryd.func28, Tryd.ntmps28
  go_wp2_with fail
  refine (arenaNew_ok n h1 hn w).mono ?_
  rintro e w1 ⟨rfl, A1, hm1⟩
  have HA1 := Lib.hid A1
  have Hm1 := Lib.hid hm1
  clear A1 hm1
  go_wp2
  have hs1 := Hm1.out.size
  have hlt := HA1.out.lt
  have hx0 := heap_alloc_new w1 (.cells (Array.replicate t (.slice none 0 0)) 143)
  have hx1 := heap_alloc_new (w1.alloc (.cells (Array.replicate t (.slice none 0 0)) 143)) (.cells #[.pointer (some ⟨w.heap.size + 1, 0, none⟩), .slice (some ⟨w1.heap.size, 0, none⟩) t t] 142)
  have hM := ((Mod.refl noF w1).alloc (.cells (Array.replicate t (.slice none 0 0)) 143)).alloc (.cells #[.pointer (some ⟨w.heap.size + 1, 0, none⟩), .slice (some ⟨w1.heap.size, 0, none⟩) t t] 142)
  have hM1 := (Mod.refl noF (w1.alloc (.cells (Array.replicate t (.slice none 0 0)) 143))).alloc (.cells #[.pointer (some ⟨w.heap.size + 1, 0, none⟩), .slice (some ⟨w1.heap.size, 0, none⟩) t t] 142)
  rw [World.size_alloc] at hx1
  go_ret2
  refine ⟨⟨w1.heap.size + 1, w.heap.size + 1, w.heap.size, w1.heap.size⟩, rfl, ⟨?_, HA1.out.keep0 hM, ?_, by simp, ?_, ?_, ?_, ?_⟩, Hm1.out.trans0 hM, ?_⟩
  · rw [List.length_replicate]; exact hx1
  · rw [List.toArray_replicate]; exact hM1.heap hx0 (fun e => e)
  · intro i v q hv hq
    obtain rfl := List.eq_of_mem_replicate (List.mem_of_getElem? hv)
    obtain rfl := List.eq_of_mem_replicate (List.mem_of_getElem? hq)
    exact offRow_nil _ _ _
  · exact ⟨by simp only; omega, by simp only; omega, by simp only; omega, by simp only; omega, by simp only; omega⟩
  · intro v hv g hg
    obtain rfl := List.eq_of_mem_replicate hv
    simp [Value.ownBlock] at hg
  · intro i j v u g hv _ hg
    obtain rfl := List.eq_of_mem_replicate (List.mem_of_getElem? hv)
    simp [Value.ownBlock] at hg
  · rintro x (rfl | rfl | rfl | rfl | ⟨v, hv, hg⟩)
    · simp only; omega
    · simp only; omega
    · exact Nat.le_refl _
    · exact hs1
    · obtain rfl := List.eq_of_mem_replicate hv
      simp [Value.ownBlock] at hg
theorem pmNew_cells (n t : Int) (h : n < 1 ∨ 64 < n) (w : World) (E : Errs4 w a) :
    Calls Tryd.prog 28 #[.int .i64 n, .int .i64 t] w fun e w' => e = .returned (.tuple #[.pointer none, errV a 1]) ∧ Mod noF w w' := by
  have hcall := arenaNew_bad n h w a E
  unfold errV at hcall
  have Hcall := Lib.hid hcall
  clear hcall h E
  go_enter Tryd.func28, Tryd.ntmps28
  go_wp2_with fail
  refine Hcall.out.mono ?_
  rintro e w1 ⟨rfl, hm1⟩
  have Hm1 := Lib.hid hm1
  clear hm1
  go_wp2
  go_ret2
  exact ⟨rfl, Hm1.out⟩
theorem pmNew_threads (n : Nat) (t : Int) (h1 : 1 ≤ n) (hn : n ≤ 64) (h : t < 1 ∨ 6 < t) (w : World) (E : Errs4 w a) :
    Calls Tryd.prog 28 #[.int .i64 n, .int .i64 t] w fun e w' => e = .returned (.tuple #[.pointer none, errV a 1]) ∧ Mod noF w w' := by
  have HE := Lib.hid E
  clear E
  by_cases h0 : t < 1
  · have d0 : decide (t < 1) = true := by simpa using h0
    clear h
    go_enter Tryd.func28, Tryd.ntmps28
    go_wp2_with fail
    refine (arenaNew_ok n h1 hn w).mono ?_
    rintro e w1 ⟨rfl, A1, hm1⟩
    have hv := (HE.out.keep hm1).var 1 (by omega)
    have Hm1 := Lib.hid hm1
    clear A1 hm1
    go_wp2
    go_quiet (fail)
    go_wp2
    go_ret2
    exact ⟨rfl, Hm1.out.drewN _⟩
  · have d0 : decide (t < 1) = false := by simpa using h0
    have d1 : decide (6 < t) = true := by simp; omega
    clear h
    go_enter Tryd.func28, Tryd.ntmps28
    go_wp2_with fail
    refine (arenaNew_ok n h1 hn w).mono ?_
    rintro e w1 ⟨rfl, A1, hm1⟩
    have hv := (HE.out.keep hm1).var 1 (by omega)
    have Hm1 := Lib.hid hm1
    clear A1 hm1
    go_wp2
    go_quiet (fail)
    go_wp2
    go_ret2
    exact ⟨rfl, Hm1.out.drewN _⟩
theorem pmAlloc_ok (h : PMV w B l ws vs) (E : Errs4 w a) (hn : l.length ≤ 64) (ht : timesOk l) {t : Nat} (htl : t < ws.length) :
    Calls Tryd.prog 29 #[.pointer (some ⟨B.bM, 0, none⟩), .int .i64 t] w fun e w' =>
      (∃ i c, allocAt l 0 = some (i, c.times) ∧ l[i]? = some c ∧ e = .returned (.tuple #[.agg #[.int .i64 i, .int .i64 c.times], .nilIface]) ∧ PUp w B vs w' (l.set i (givenCell c)) ws vs) ∨
      (allocAt l 0 = none ∧ e = .returned (.tuple #[.agg #[.int .i64 0, .int .i64 0], errV a 5]) ∧ PUp w B vs w' l ws vs) := by
  have hq := (Mod.refl noF w).alloc (refBox 0 0)
  have h2 := h.keep0 hq
  have hu := PUp.quiet h hq
  have hp := h2.ptr
  have hb := h2.lt (x := B.bM) (.inl rfl)
  have hcall := arenaAlloc h2.arena (E.keep hq) hn ht
  unfold errV at hcall
  have Hcall := Lib.hid hcall
  have H := Lib.hid h2
  have Hu := Lib.hid hu
  have hnew := heap_alloc_new w (refBox 0 0)
  have hnf : ¬ PFoot B vs w.heap.size := fun hx => Nat.lt_irrefl _ (h.lt hx)
  have hgA := h.lt (x := B.gA) (.inr (.inr (.inl rfl)))
  have Hnew := Lib.hid hnew
  have Hnf := Lib.hid hnf
  clear h h2 hu hq E ht hcall hnew hnf
  go_enter Tryd.func29, Tryd.ntmps29
  go_wp2_with fail
  refine (pthread_ok H.out t htl).mono ?_
  rintro e w' ⟨rfl, rfl⟩
  go_wp2_with fail
  refine Hcall.out.mono ?_
  rintro e w1 (⟨i, c, ha, hc, rfl, A1, hm1⟩ | ⟨ha, rfl, hm1⟩)
  · have hx1 := hm1.heap Hnew.out (by omega)
    have c0 : w1.cell? ⟨w.heap.size, 0, none⟩ = some (.int .i64 0) := (cell_of_heap hx1 0).trans rfl
    have c1 : w1.cell? ⟨w.heap.size, 1, none⟩ = some (.int .i64 0) := (cell_of_heap hx1 1).trans rfl
    have f0 := free_of_heap hx1 0
    have f1 := free_of_heap hx1 1
    have hb1 := lt_of_block hx1
    have hup := Hu.out.trans (H.out.cells hm1 A1)
    have Hup := Lib.hid hup
    clear A1 hm1 hup hx1 Hcall
    go_wp2
    refine bodyPost_ret (v := .tuple #[.agg #[.int .i64 i, .int .i64 c.times], .nilIface]) (by simp [results, Tryd.results29, go_sem, c0, c1]) rfl (.inl ⟨i, c, ha, hc, rfl, Hup.out.aside Hnf.out (Nat.le_refl _) (((Mod.refl (fun x => x = w.heap.size) w1).setCell (fun _ => rfl) _).setCell (fun _ => rfl) _)⟩)
  · have hx1 := hm1.heap Hnew.out (fun e => e)
    have c0 : w1.cell? ⟨w.heap.size, 0, none⟩ = some (.int .i64 0) := (cell_of_heap hx1 0).trans rfl
    have c1 : w1.cell? ⟨w.heap.size, 1, none⟩ = some (.int .i64 0) := (cell_of_heap hx1 1).trans rfl
    have f0 := free_of_heap hx1 0
    have f1 := free_of_heap hx1 1
    have hb1 := lt_of_block hx1
    have hup := Hu.out.then0 hm1
    have Hup := Lib.hid hup
    clear hm1 hup hx1 Hcall
    go_wp2
    refine bodyPost_ret (v := .tuple #[.agg #[.int .i64 0, .int .i64 0], errV a 5]) (by simp [results, Tryd.results29, go_sem, c0, c1, errV]) rfl (.inr ⟨ha, rfl, Hup.out.aside Hnf.out (Nat.le_refl _) (((Mod.refl (fun x => x = w.heap.size) w1).setCell (fun _ => rfl) _).setCell (fun _ => rfl) _)⟩)
end Go.Proofs.YtamfbfajlfbooaaDoor
