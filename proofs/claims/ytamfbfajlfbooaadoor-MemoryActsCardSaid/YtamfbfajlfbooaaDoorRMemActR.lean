/- quiescentlaw1.memoryAct. -/
import Derived.Test.YtamfbfajlfbooaaDoorRm8
set_option linter.unusedVariables false
set_option linter.unusedSimpArgs false
set_option linter.unusedSectionVars false
namespace Go.Proofs.YtamfbfajlfbooaaDoor
open Go.RowKit Qs Qh
variable {b0 wr : World} {a : Nat → Addr} {B : PB} {tn bm k : Nat} {L : Lay} {m : M} {vs : List Value}
set_option maxRecDepth 100000 in
set_option maxHeartbeats 4000000 in
theorem act_free_ok (T : MemRel b0 a B tn bm k L m vs wr) (cc gg W V O : Int) {t : Nat} {q : List Wt} (hq : m.waits[t]? = some q) {i : Nat} {l1 : List Cell} {ws1 : List (List Wt)}
    (hp : Calls Tryd.prog 117 #[.pointer (some ⟨B.bM, 0, none⟩), .int .i64 t, .agg #[.int .i64 cc, .int .i64 gg]] (wBox wr ⟨#[102, 114, 101, 101]⟩ t cc gg W V O) (PAns a B vs (wBox wr ⟨#[102, 114, 101, 101]⟩ t cc gg W V O) l1 ws1 (errOf' a 0)))
    (hr0 : ∀ vs' w1, PUp (wBox wr ⟨#[102, 114, 101, 101]⟩ t cc gg W V O) B vs w1 l1 ws1 vs' → Calls Tryd.prog 72 #[.pointer (some ⟨bm, 0, none⟩), .agg #[.int .i64 cc, .int .i64 gg], .int .i64 0] w1 fun e w' => e = .returned (.int .i64 0) ∧ Mod noF w1 w')
    (hr : ∀ vs' w1 g o, PUp (wBox wr ⟨#[102, 114, 101, 101]⟩ t cc gg W V O) B vs w1 l1 ws1 vs' → ¬ Foot ty memK L m g → w1.heap[g]? = some o → Calls Tryd.prog 112 #[.pointer (some ⟨bm, 0, none⟩), .int .i64 t] w1 (fun e w2 => e = .returned (.int .i64 0) ∧ w2.heap[g]? = some o ∧ ∃ bc n cap b, cc = (i : Int) ∧ i < n ∧ n ≤ 64 ∧ w2.cell? ⟨bm, 0, none⟩ = some (.slice (some ⟨bc, 0, none⟩) n cap) ∧ w2.cell? ⟨bc, i * 3 + 2, none⟩ = some (.bool b) ∧ w2.frozen? ⟨bc, i * 3 + 2, none⟩ = false ∧ bm < w2.heap.size ∧ bc < w2.heap.size ∧ ∃ L' m', MemRel b0 a B tn bm (k + 1) L' m' vs' (w2.setCell ⟨bc, i * 3 + 2, none⟩ (.bool false)))) :
    Calls Tryd.prog 78 #[.pointer (some ⟨B.bM, 0, none⟩), .pointer (some ⟨bm, 0, none⟩), .agg #[.string ⟨#[102, 114, 101, 101]⟩, .int .i64 t, .int .i64 cc, .int .i64 gg, .int .i64 W, .int .i64 V, .int .i64 O]] wr (actOk b0 a B tn bm (k + 1)) := by
  have hq0 := (Mod.refl noF wr).alloc (xBox ⟨#[102, 114, 101, 101]⟩ (t : Int) cc gg W V O)
  have hT := T.keep hq0
  have hx := heap_alloc_new wr (xBox ⟨#[102, 114, 101, 101]⟩ (t : Int) cc gg W V O)
  have hnP : ¬ PFoot B vs wr.heap.size := fun h => Nat.lt_irrefl _ (T.mem.lt h)
  have hth := rthread_any hT.rep rfl hT.om hT.ol ((t : Int))
  rw [hT.top] at hth
  unfold wBox at hp hr hr0
  obtain ⟨wz, hwz⟩ : ∃ wz, wz = wr.alloc (xBox ⟨#[102, 114, 101, 101]⟩ (t : Int) cc gg W V O) := ⟨_, rfl⟩
  rw [← hwz] at hT hx hth hp hr hr0
  have dth : (decide ((0 : Int) ≤ ((t : Int))) && decide (((t : Int)) < (m.waits.length : Int))) = true := by
    have := (List.getElem?_eq_some_iff.1 hq).1; simp; omega
  rw [dth] at hth
  have x0 : wz.cell? ⟨wr.heap.size, 0, none⟩ = some (.string ⟨#[102, 114, 101, 101]⟩) := (cell_of_heap hx 0).trans rfl
  have x1 : wz.cell? ⟨wr.heap.size, 1, none⟩ = some (.int .i64 (t : Int)) := (cell_of_heap hx 1).trans rfl
  have x2 : wz.cell? ⟨wr.heap.size, 2, none⟩ = some (.int .i64 cc) := (cell_of_heap hx 2).trans rfl
  have x3 : wz.cell? ⟨wr.heap.size, 3, none⟩ = some (.int .i64 gg) := (cell_of_heap hx 3).trans rfl
  have x4 : wz.cell? ⟨wr.heap.size, 4, none⟩ = some (.int .i64 W) := (cell_of_heap hx 4).trans rfl
  have x5 : wz.cell? ⟨wr.heap.size, 5, none⟩ = some (.int .i64 V) := (cell_of_heap hx 5).trans rfl
  have x6 : wz.cell? ⟨wr.heap.size, 6, none⟩ = some (.int .i64 O) := (cell_of_heap hx 6).trans rfl
  have xb := lt_of_block hx
  have HT := Lib.hid hT
  have Hth := Lib.hid hth
  have Hx := Lib.hid hx
  have HnP := Lib.hid hnP
  have hnR : ¬ Foot ty memK L m wr.heap.size := fun h => Nat.lt_irrefl _ (T.rep.lt h)
  have HnR := Lib.hid hnR
  clear hnR
  clear T hT hq0 hth dth hx hnP
  go_enter Tryd.func78, Tryd.ntmps78
  go_wp2_with fail
  rw [← hwz]
  refine Hth.out.mono ?_
  rintro e w' ⟨rfl, rfl⟩
  clear hwz Hth
  go_wp2_with fail
  refine hp.mono ?_
  clear hp
  rintro e w1 ⟨rfl, vs', hU⟩
  have hx1 := hU.heap HnP.out Hx.out
  have x0 : w1.cell? ⟨wr.heap.size, 0, none⟩ = some (.string ⟨#[102, 114, 101, 101]⟩) := (cell_of_heap hx1 0).trans rfl
  have x1 : w1.cell? ⟨wr.heap.size, 1, none⟩ = some (.int .i64 t) := (cell_of_heap hx1 1).trans rfl
  have x2 : w1.cell? ⟨wr.heap.size, 2, none⟩ = some (.int .i64 cc) := (cell_of_heap hx1 2).trans rfl
  have x3 : w1.cell? ⟨wr.heap.size, 3, none⟩ = some (.int .i64 gg) := (cell_of_heap hx1 3).trans rfl
  have x4 : w1.cell? ⟨wr.heap.size, 4, none⟩ = some (.int .i64 W) := (cell_of_heap hx1 4).trans rfl
  have x5 : w1.cell? ⟨wr.heap.size, 5, none⟩ = some (.int .i64 V) := (cell_of_heap hx1 5).trans rfl
  have x6 : w1.cell? ⟨wr.heap.size, 6, none⟩ = some (.int .i64 O) := (cell_of_heap hx1 6).trans rfl
  have xb := lt_of_block hx1
  have Hx1 := Lib.hid hx1
  have HU := Lib.hid hU
  have hr1 := hr0 vs' w1 hU
  clear hr0 hU hx1
  go_wp2_with fail
  refine hr1.mono ?_
  clear hr1
  rintro e w2 ⟨rfl, hm2⟩
  have hx2 := hm2.heap Hx1.out (fun e => e)
  have x0 : w2.cell? ⟨wr.heap.size, 0, none⟩ = some (.string ⟨#[102, 114, 101, 101]⟩) := (cell_of_heap hx2 0).trans rfl
  have x1 : w2.cell? ⟨wr.heap.size, 1, none⟩ = some (.int .i64 t) := (cell_of_heap hx2 1).trans rfl
  have x2 : w2.cell? ⟨wr.heap.size, 2, none⟩ = some (.int .i64 cc) := (cell_of_heap hx2 2).trans rfl
  have x3 : w2.cell? ⟨wr.heap.size, 3, none⟩ = some (.int .i64 gg) := (cell_of_heap hx2 3).trans rfl
  have x4 : w2.cell? ⟨wr.heap.size, 4, none⟩ = some (.int .i64 W) := (cell_of_heap hx2 4).trans rfl
  have x5 : w2.cell? ⟨wr.heap.size, 5, none⟩ = some (.int .i64 V) := (cell_of_heap hx2 5).trans rfl
  have x6 : w2.cell? ⟨wr.heap.size, 6, none⟩ = some (.int .i64 O) := (cell_of_heap hx2 6).trans rfl
  have xb := lt_of_block hx2
  have hr1 := hr vs' w2 _ _ (HU.out.then0 hm2) HnR.out hx2
  clear hr hm2 hx2
  go_wp2_with fail
  refine hr1.mono ?_
  clear hr1
  rintro e w3 ⟨rfl, hx3, bc, n, cap, b, rfl, hin, hn, m0, m2, mf, mb, mb2, L', m', hT3⟩
  have x0 : w3.cell? ⟨wr.heap.size, 0, none⟩ = some (.string ⟨#[102, 114, 101, 101]⟩) := (cell_of_heap hx3 0).trans rfl
  have x1 : w3.cell? ⟨wr.heap.size, 1, none⟩ = some (.int .i64 t) := (cell_of_heap hx3 1).trans rfl
  have x2 : w3.cell? ⟨wr.heap.size, 2, none⟩ = some (.int .i64 (i : Int)) := (cell_of_heap hx3 2).trans rfl
  have x3 : w3.cell? ⟨wr.heap.size, 3, none⟩ = some (.int .i64 gg) := (cell_of_heap hx3 3).trans rfl
  have x4 : w3.cell? ⟨wr.heap.size, 4, none⟩ = some (.int .i64 W) := (cell_of_heap hx3 4).trans rfl
  have x5 : w3.cell? ⟨wr.heap.size, 5, none⟩ = some (.int .i64 V) := (cell_of_heap hx3 5).trans rfl
  have x6 : w3.cell? ⟨wr.heap.size, 6, none⟩ = some (.int .i64 O) := (cell_of_heap hx3 6).trans rfl
  have xb := lt_of_block hx3
  have HT3 := Lib.hid hT3
  have mi : (i : Int) < (n : Int) := by omega
  clear hT3 hx3
  go_wp2_with fail
  refine wp_region_still_tail 9 (by kernel_rfl) (by kernel_rfl) ?_
  simp only [List.take_succ_cons, List.take_zero, List.drop_succ_cons, List.drop_zero, World.drew_eq]
  repeat (first | still_step)
  refine wpStill_nil ?_
  go_wp2_with fail
  refine (coded_own' (HT3.out.keep ((Mod.refl noF _).drew)).E 0 (by omega)).mono ?_
  rintro e w4 ⟨rfl, hm4⟩
  have HT4 := Lib.hid ((HT3.out.keep ((Mod.refl noF _).drew)).keep hm4)
  clear hm4
  go_wp2
  go_ret
  exact ⟨rfl, _, _, _, HT4.out⟩
end Go.Proofs.YtamfbfajlfbooaaDoor
