/- package memory: Drain. -/
import Derived.Test.YtamfbfajlfbooaaDoorRm6
import Derived.Test.YtamfbfajlfbooaaDoorRm2
import Derived.Deep.RegionHeld3
import Derived.StillTailTactics
set_option linter.unusedVariables false
set_option linter.unusedSimpArgs false
set_option linter.unusedSectionVars false
namespace Go.Proofs.YtamfbfajlfbooaaDoor
open Go.RowKit Qs Qh
variable {w : World} {B : PB} {l : List Cell} {ws : List (List Wt)} {vs : List Value} {a : Nat → Addr}
theorem pdrain_none (h : PMV w B l ws vs) (E : Errs4 w a) {t : Nat} (hq : ws[t]? = some []) (hn6 : ws.length ≤ 6) :
    Calls Tryd.prog 33 #[.pointer (some ⟨B.bM, 0, none⟩), .int .i64 t] w fun e w' => e = .returned (errV a 4) ∧ Mod noF w w' := by
  have htl := (List.getElem?_eq_some_iff.1 hq).1
  have hm := h.slice
  have hb := h.lt (x := B.bM) (.inl rfl)
  have hb2 := h.lt (x := B.bW) (.inr (.inr (.inr (.inl rfl))))
  obtain ⟨v, ra, c, _, _, h1, h2, h3, _⟩ := h.rowAt hq
  have htn : (t : Int) < (ws.length : Int) := by omega
  have hvar := E.var 4 (by omega)
  have H := Lib.hid h
  simp only [List.length_nil] at h3
  clear h hq E
  go_enter Tryd.func33, Tryd.ntmps33
  go_wp2_with fail
  refine (pthread_ok H.out t htl).mono ?_
  rintro e w' ⟨rfl, rfl⟩
  go_wp2
  go_ret
  exact ⟨rfl, Mod.refl _ _⟩
def pdrainE (w : World) (a : Nat → Addr) (B : PB) (l : List Cell) (ws : List (List Wt)) (vs : List Value) (t : Nat) (x : Wt) (q : List Wt) (e : Ending) (w' : World) : Prop :=
  e = .returned (errOf' a (storeE l x.c x.g x.w x.v)) ∧ ∃ vs', PUp w B vs w' (if storeE l x.c x.g x.w x.v = 0 then setWord l x.c.toNat x.w.toNat x.v else l) (ws.set t q) vs'
set_option maxRecDepth 100000 in
set_option maxHeartbeats 4000000 in
theorem pdrain_some {b0 : World} (h : PMV w B l ws vs) (E : PLow b0 w a B vs) (hn : l.length ≤ 64) (ht : timesOk l) (hwo : wordsOk l) {t : Nat} {x : Wt} {q : List Wt} (hq : ws[t]? = some (x :: q)) (hn6 : ws.length ≤ 6) (hq8 : q.length ≤ 8) :
    Calls Tryd.prog 33 #[.pointer (some ⟨B.bM, 0, none⟩), .int .i64 t] w (pdrainE w a B l ws vs t x q) := by
  have htl := (List.getElem?_eq_some_iff.1 hq).1
  have hm := h.slice
  have hb := h.lt (x := B.bM) (.inl rfl)
  have hb2 := h.lt (x := B.bW) (.inr (.inr (.inr (.inl rfl))))
  obtain ⟨v, ra, c, hvv, rfl, h1, h2, h3, hrow⟩ := h.rowAt hq
  obtain ⟨g, s, c', e', hg, hfz, hcell⟩ := hrow.cell (by simp)
  simp only [Value.slice.injEq, true_and] at e'
  obtain ⟨rfl, rfl⟩ := e'
  have x0 : w.cell? ⟨g, s, none⟩ = some (.int .i64 x.c) := hcell 0 _ rfl
  have x1 : w.cell? ⟨g, s + 1, none⟩ = some (.int .i64 x.g) := hcell 1 _ rfl
  have x2 : w.cell? ⟨g, s + 2, none⟩ = some (.int .i64 x.w) := hcell 2 _ rfl
  have x3 : w.cell? ⟨g, s + 3, none⟩ = some (.int .i64 x.v) := hcell 3 _ rfl
  have htn : (t : Int) < (ws.length : Int) := by omega
  have hf := free_of_heap h.rows t
  simp only [List.length_cons] at h1 h3 hrow hvv
  have dq : decide (((q.length + 1 : Nat) : Int) = 0) = false := by simp; omega
  have H := Lib.hid h
  have HE := Lib.hid E
  have Hrow := Lib.hid hrow
  have Hvv := Lib.hid hvv
  clear h hq E hrow hvv hcell hfz
  go_enter Tryd.func33, Tryd.ntmps33
  go_wp2_with fail
  refine (pthread_ok H.out t htl).mono ?_
  rintro e w' ⟨rfl, rfl⟩
  go_wp2_with fail
  obtain ⟨wz, hwz⟩ : ∃ wz, wz = w.alloc (.cells #[.int .i64 x.c, .int .i64 x.g, .int .i64 x.w, .int .i64 x.v] 145) := ⟨_, rfl⟩
  rw [← hwz]
  have hz : Mod noF w wz := hwz ▸ (Mod.refl noF w).alloc _
  have hx : wz.heap[w.heap.size]? = some (.cells #[.int .i64 x.c, .int .i64 x.g, .int .i64 x.w, .int .i64 x.v] 145) := hwz ▸ heap_alloc_new w _
  have hZ := H.out.keep0 hz
  have zm := hZ.slice
  have zb := hZ.lt (x := B.bM) (.inl rfl)
  have zb2 := hZ.lt (x := B.bW) (.inr (.inr (.inr (.inl rfl))))
  have z3 := hz.cell h3 (fun e => e)
  have zf := free_of_heap hZ.rows t
  have HZ := Lib.hid hZ
  have Hz := Lib.hid hz
  have Hx := Lib.hid hx
  clear hwz hZ hz hx hm hb hb2 h3 hf x0 x1 x2 x3
  have hq1 : (1 : Int) ≤ (q.length : Int) + 1 := by omega
  have hq2 : (1 : Int) ≤ ((q.length + 1 : Nat) : Int) := by omega
  by_cases hc1 : c = 1
  · subst hc1
    obtain rfl : q = [] := List.eq_nil_of_length_eq_zero (by omega)
    refine wp_region_still_tail 14 (by kernel_rfl) (by kernel_rfl) ?_
    simp only [List.take_succ_cons, List.take_zero, List.drop_succ_cons, List.drop_zero, World.drew_eq]
    repeat (first | still_step)
    refine wpStill_nil ?_
    go_wp2_with fail
    have hsr := H.out.setRow (w2 := wz) (v' := .slice (some ⟨g, s, none⟩) 0 0) (q' := []) Hvv.out Hz.out.any (by have := Hrow.out.tail.keep Hz.out (fun _ _ e => e); simpa [waitRow, flat, wtVals] using this) (fun g' hg' => .inl hg')
    have hsr3 := hsr.then0 (Mod.refl noF _).drew
    have hgt := H.out.lt (x := B.bW) (.inr (.inr (.inr (.inl rfl))))
    have hx3 : (wz.setCell ⟨B.bW, t, none⟩ (.slice (some ⟨g, s, none⟩) 0 0)).drew.heap[w.heap.size]? = some (.cells #[.int .i64 x.c, .int .i64 x.g, .int .i64 x.w, .int .i64 x.v] 145) := (Qh.heap_setCell_other (w := wz) (k := w.heap.size) (b := B.bW) (i := t) (by omega) _).trans Hx.out
    obtain ⟨w3, hw3⟩ : ∃ w3, w3 = (wz.setCell ⟨B.bW, t, none⟩ (.slice (some ⟨g, s, none⟩) 0 0)).drew := ⟨_, rfl⟩
    rw [← hw3] at hsr3 hx3 ⊢
    clear hw3 hsr
    have L3 := HE.out.up hsr3
    have hp3 := hsr3.rep.ptr
    have hb3 := hsr3.rep.lt (x := B.bM) (.inl rfl)
    have hne : w.heap.size ≠ B.gA := by have := H.out.lt (x := B.gA) (.inr (.inr (.inl rfl))); omega
    have y0 : w3.cell? ⟨w.heap.size, 0, none⟩ = some (.int .i64 x.c) := (cell_of_heap hx3 0).trans rfl
    have y1 : w3.cell? ⟨w.heap.size, 1, none⟩ = some (.int .i64 x.g) := (cell_of_heap hx3 1).trans rfl
    have y2 : w3.cell? ⟨w.heap.size, 2, none⟩ = some (.int .i64 x.w) := (cell_of_heap hx3 2).trans rfl
    have y3 : w3.cell? ⟨w.heap.size, 3, none⟩ = some (.int .i64 x.v) := (cell_of_heap hx3 3).trans rfl
    have yb := lt_of_block hx3
    have Hsr3 := Lib.hid hsr3
    have HL3 := Lib.hid L3
    clear hsr3 L3 hx3 z3 zf zm zb zb2
    refine wp_region_still_tail 10 (by kernel_rfl) (by kernel_rfl) ?_
    simp only [List.take_succ_cons, List.take_zero, List.drop_succ_cons, List.drop_zero, World.drew_eq]
    repeat (first | still_step)
    refine wpStill_nil ?_
    go_wp2_with fail
    refine (astore_any (Hsr3.out.rep.arena.keep0 (Mod.refl noF w3).drew) (HL3.out.E.keep (Mod.refl noF w3).drew) hn ht hwo x.c x.g x.w x.v).mono ?_
    rintro e w4 ⟨rfl, hm4, A4⟩
    have hup := (Hsr3.out.then0 (Mod.refl noF w3).drew).trans ((Hsr3.out.rep.keep0 (Mod.refl noF w3).drew).cells hm4 A4)
    have Hup := Lib.hid hup
    clear hm4 A4 hup
    go_wp2
    go_ret
    exact ⟨rfl, _, Hup.out⟩
  · have hc2 : ¬ 1 = c := fun e => hc1 e.symm
    refine wp_region_still_tail 14 (by kernel_rfl) (by kernel_rfl) ?_
    simp only [List.take_succ_cons, List.take_zero, List.drop_succ_cons, List.drop_zero, World.drew_eq]
    repeat (first | still_step)
    refine wpStill_nil ?_
    go_wp2_with fail
    have hsr := H.out.setRow (w2 := wz) (v' := .slice (some ⟨g, s + 4, none⟩) q.length (c - 1)) (q' := q) Hvv.out Hz.out.any (by have := Hrow.out.tail.keep Hz.out (fun _ _ e => e); rw [if_neg hc1] at this; unfold waitRow; rw [flat_wt_start q 0 1]; simpa [flat, wtVals] using this) (fun g' hg' => .inl hg')
    have hsr3 := hsr.then0 (Mod.refl noF _).drew
    have hgt := H.out.lt (x := B.bW) (.inr (.inr (.inr (.inl rfl))))
    have hx3 : (wz.setCell ⟨B.bW, t, none⟩ (.slice (some ⟨g, s + 4, none⟩) q.length (c - 1))).drew.heap[w.heap.size]? = some (.cells #[.int .i64 x.c, .int .i64 x.g, .int .i64 x.w, .int .i64 x.v] 145) := (Qh.heap_setCell_other (w := wz) (k := w.heap.size) (b := B.bW) (i := t) (by omega) _).trans Hx.out
    obtain ⟨w3, hw3⟩ : ∃ w3, w3 = (wz.setCell ⟨B.bW, t, none⟩ (.slice (some ⟨g, s + 4, none⟩) q.length (c - 1))).drew := ⟨_, rfl⟩
    rw [← hw3] at hsr3 hx3 ⊢
    clear hw3 hsr
    have L3 := HE.out.up hsr3
    have hp3 := hsr3.rep.ptr
    have hb3 := hsr3.rep.lt (x := B.bM) (.inl rfl)
    have hne : w.heap.size ≠ B.gA := by have := H.out.lt (x := B.gA) (.inr (.inr (.inl rfl))); omega
    have y0 : w3.cell? ⟨w.heap.size, 0, none⟩ = some (.int .i64 x.c) := (cell_of_heap hx3 0).trans rfl
    have y1 : w3.cell? ⟨w.heap.size, 1, none⟩ = some (.int .i64 x.g) := (cell_of_heap hx3 1).trans rfl
    have y2 : w3.cell? ⟨w.heap.size, 2, none⟩ = some (.int .i64 x.w) := (cell_of_heap hx3 2).trans rfl
    have y3 : w3.cell? ⟨w.heap.size, 3, none⟩ = some (.int .i64 x.v) := (cell_of_heap hx3 3).trans rfl
    have yb := lt_of_block hx3
    have Hsr3 := Lib.hid hsr3
    have HL3 := Lib.hid L3
    clear hsr3 L3 hx3 z3 zf zm zb zb2
    refine wp_region_still_tail 10 (by kernel_rfl) (by kernel_rfl) ?_
    simp only [List.take_succ_cons, List.take_zero, List.drop_succ_cons, List.drop_zero, World.drew_eq]
    repeat (first | still_step)
    refine wpStill_nil ?_
    go_wp2_with fail
    refine (astore_any (Hsr3.out.rep.arena.keep0 (Mod.refl noF w3).drew) (HL3.out.E.keep (Mod.refl noF w3).drew) hn ht hwo x.c x.g x.w x.v).mono ?_
    rintro e w4 ⟨rfl, hm4, A4⟩
    have hup := (Hsr3.out.then0 (Mod.refl noF w3).drew).trans ((Hsr3.out.rep.keep0 (Mod.refl noF w3).drew).cells hm4 A4)
    have Hup := Lib.hid hup
    clear hm4 A4 hup
    go_wp2
    go_ret
    exact ⟨rfl, _, Hup.out⟩
end Go.Proofs.YtamfbfajlfbooaaDoor
