/- quiescentlaw1.memoryAct. -/
import Derived.Test.YtamfbfajlfbooaaDoorRm8
set_option linter.unusedVariables false
set_option linter.unusedSimpArgs false
set_option linter.unusedSectionVars false
namespace Go.Proofs.YtamfbfajlfbooaaDoor
open Go.RowKit Qs Qh
variable {b0 wr : World} {a : Nat → Addr} {B : PB} {tn bm k : Nat} {L : Lay} {m : M} {vs : List Value}
set_option maxRecDepth 100000 in
set_option maxHeartbeats 4000000 in
theorem act_swap_at (T : MemRel b0 a B tn bm k L m vs wr) (cc gg W V O : Int)  {t : Nat} {q : List Wt} (hq : m.waits[t]? = some q) {code : Int} (hc : 0 < code ∧ code ≤ 9)
    (hr : ∀ w1, MemRel b0 a B tn bm k L m vs w1 → Calls Tryd.prog 72 #[.pointer (some ⟨bm, 0, none⟩), .agg #[.int .i64 cc, .int .i64 gg], .int .i64 W] w1 fun e w' => e = .returned (.int .i64 code) ∧ Mod noF w1 w')
    (hp : ∀ w1, MemRel b0 a B tn bm k L m vs w1 → Calls Tryd.prog 118 #[.pointer (some ⟨B.bM, 0, none⟩), .int .i64 t, .agg #[.int .i64 cc, .int .i64 gg], .int .i64 W, .int .i64 V] w1 fun e w' => e = .returned (.tuple #[.int .i64 0, errOf' a code]) ∧ ∃ L' m' vs', MemRel b0 a B tn bm (k + 1) L' m' vs' w') :
    Calls Tryd.prog 78 #[.pointer (some ⟨B.bM, 0, none⟩), .pointer (some ⟨bm, 0, none⟩), .agg #[.string ⟨#[115, 119, 97, 112]⟩, .int .i64 t, .int .i64 cc, .int .i64 gg, .int .i64 W, .int .i64 V, .int .i64 O]] wr (actOk b0 a B tn bm (k + 1)) := by
  have hq0 := (Mod.refl noF wr).alloc (xBox ⟨#[115, 119, 97, 112]⟩ (t : Int) cc gg W V O)
  have hT := T.keep hq0
  have hx := heap_alloc_new wr (xBox ⟨#[115, 119, 97, 112]⟩ (t : Int) cc gg W V O)
  have hnP : ¬ PFoot B vs wr.heap.size := fun h => Nat.lt_irrefl _ (T.mem.lt h)
  have hth := rthread_any hT.rep rfl hT.om hT.ol ((t : Int))
  rw [hT.top] at hth
  obtain ⟨wz, hwz⟩ : ∃ wz, wz = wr.alloc (xBox ⟨#[115, 119, 97, 112]⟩ (t : Int) cc gg W V O) := ⟨_, rfl⟩
  rw [← hwz] at hT hx hth
  have dth : (decide ((0 : Int) ≤ ((t : Int))) && decide (((t : Int)) < (m.waits.length : Int))) = true := by
    have := (List.getElem?_eq_some_iff.1 hq).1; simp; omega
  rw [dth] at hth
  have x0 : wz.cell? ⟨wr.heap.size, 0, none⟩ = some (.string ⟨#[115, 119, 97, 112]⟩) := (cell_of_heap hx 0).trans rfl
  have x1 : wz.cell? ⟨wr.heap.size, 1, none⟩ = some (.int .i64 (t : Int)) := (cell_of_heap hx 1).trans rfl
  have x2 : wz.cell? ⟨wr.heap.size, 2, none⟩ = some (.int .i64 cc) := (cell_of_heap hx 2).trans rfl
  have x3 : wz.cell? ⟨wr.heap.size, 3, none⟩ = some (.int .i64 gg) := (cell_of_heap hx 3).trans rfl
  have x4 : wz.cell? ⟨wr.heap.size, 4, none⟩ = some (.int .i64 W) := (cell_of_heap hx 4).trans rfl
  have x5 : wz.cell? ⟨wr.heap.size, 5, none⟩ = some (.int .i64 V) := (cell_of_heap hx 5).trans rfl
  have x6 : wz.cell? ⟨wr.heap.size, 6, none⟩ = some (.int .i64 O) := (cell_of_heap hx 6).trans rfl
  have xb := lt_of_block hx
  have HT := Lib.hid hT
  have Hth := Lib.hid hth
  have Hx := Lib.hid hx
  have HnP := Lib.hid hnP
  have hnR : ¬ Foot ty memK L m wr.heap.size := fun h => Nat.lt_irrefl _ (T.rep.lt h)
  have HnR := Lib.hid hnR
  clear hnR
  clear T hT hq0 hth dth hx hnP
  go_enter Tryd.func78, Tryd.ntmps78
  go_wp2_with fail
  rw [← hwz]
  refine Hth.out.mono ?_
  rintro e w' ⟨rfl, rfl⟩
  clear hwz Hth
  go_wp2_with fail
  have dc : decide (code = 0) = false := by simp; omega
  refine (hr _ HT.out).mono ?_
  clear hr
  rintro e w2 ⟨rfl, hm2⟩
  have hx2 := hm2.heap Hx.out (fun e => e)
  have x0 : w2.cell? ⟨wr.heap.size, 0, none⟩ = some (.string ⟨#[115, 119, 97, 112]⟩) := (cell_of_heap hx2 0).trans rfl
  have x1 : w2.cell? ⟨wr.heap.size, 1, none⟩ = some (.int .i64 t) := (cell_of_heap hx2 1).trans rfl
  have x2 : w2.cell? ⟨wr.heap.size, 2, none⟩ = some (.int .i64 cc) := (cell_of_heap hx2 2).trans rfl
  have x3 : w2.cell? ⟨wr.heap.size, 3, none⟩ = some (.int .i64 gg) := (cell_of_heap hx2 3).trans rfl
  have x4 : w2.cell? ⟨wr.heap.size, 4, none⟩ = some (.int .i64 W) := (cell_of_heap hx2 4).trans rfl
  have x5 : w2.cell? ⟨wr.heap.size, 5, none⟩ = some (.int .i64 V) := (cell_of_heap hx2 5).trans rfl
  have x6 : w2.cell? ⟨wr.heap.size, 6, none⟩ = some (.int .i64 O) := (cell_of_heap hx2 6).trans rfl
  have xb := lt_of_block hx2
  have HT2 := Lib.hid (HT.out.keep hm2)
  have Hx2 := Lib.hid hx2
  clear hm2 hx2
  go_wp2_with fail
  refine (hp _ HT2.out).mono ?_
  clear hp
  rintro e w3 ⟨rfl, L', m', vs', hT3⟩
  have HTF := Lib.hid hT3
  clear hT3
  go_wp2_with fail
  refine (coded_own' HTF.out.E code (by omega)).mono ?_
  rintro e w9 ⟨rfl, hm9⟩
  have HT9 := Lib.hid ((HTF.out.keep hm9))
  clear hm9
  go_wp2_with fail
  go_ret
  exact ⟨rfl, _, _, _, HT9.out⟩
end Go.Proofs.YtamfbfajlfbooaaDoor
