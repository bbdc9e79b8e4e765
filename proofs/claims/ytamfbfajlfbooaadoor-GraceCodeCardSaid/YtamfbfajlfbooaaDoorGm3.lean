/- Texts that belong together, joined. -/
import Derived.Test.YtamfbfajlfbooaaDoorProg
import Derived.WalkKit
import Derived.Deep.QuietTactic
import Derived.BigQuiet
import Derived.Lib.Hide
import Derived.Test.YtamfbfajlfbooaaDoorGm2
import Derived.BigRegion
import Derived.Outline
import Derived.JoinedOf
import Derived.KernelRfl
import Derived.Test.YtamfbfajlfbooaaDoorRows
import Derived.ProofKit
import Derived.OpenShut
set_option linter.unusedVariables false
set_option linter.unusedSimpArgs false
set_option linter.unusedSectionVars false
/- (*quiescentref1.Memory).Here, .At. -/
section
namespace Go.Proofs.YtamfbfajlfbooaaDoor
open Go.RowKit Qs Qh
def ty : Ty := { mach := 41, mem := 47, cell := 43, waits := 128, thr := 88, mark := 200, int := 3, wait := 181, instr := 124 }
theorem here_low (b bc n cap : Nat) (c g : Int) (w : World) (h0 : w.cell? ⟨b, 0, none⟩ = some (.slice (some ⟨bc, 0, none⟩) n cap)) (hb : b < w.heap.size)
   (hc : c < 0) :
    Calls Tryd.prog 70 #[.pointer (some ⟨b, 0, none⟩), .agg #[.int .i64 c, .int .i64 g]] w fun e w' => e = .returned (.bool false) ∧ Mod noF w w' := by
  have hd : decide (c < 0) = true := by simpa using hc
  go_enter Tryd.func70, Tryd.ntmps70
  go_wp2
  all_goals (try go_quiet (fail))
  all_goals go_wp2
  go_ret
  exact ⟨rfl, ((Mod.refl _ _).alloc _).drewN _⟩
theorem here_high (b bc n cap : Nat) (c g : Int) (w : World) (h0 : w.cell? ⟨b, 0, none⟩ = some (.slice (some ⟨bc, 0, none⟩) n cap)) (hb : b < w.heap.size)
   (hc : 0 ≤ c) (hn : n ≤ c) :
    Calls Tryd.prog 70 #[.pointer (some ⟨b, 0, none⟩), .agg #[.int .i64 c, .int .i64 g]] w fun e w' => e = .returned (.bool false) ∧ Mod noF w w' := by
  have hd : decide (c < 0) = false := by simpa using hc
  have hd2 : decide ((n : Int) ≤ c) = true := by simpa using hn
  go_enter Tryd.func70, Tryd.ntmps70
  go_wp2
  all_goals (try go_quiet (fail))
  all_goals go_wp2
  go_ret
  exact ⟨rfl, ((Mod.refl _ _).alloc _).drewN _⟩
theorem here_in (b bc n cap : Nat) (c : Nat) (g times : Int) (hr : Bool) (wa : Option Addr) (wl wc : Nat) (w : World) (h0 : w.cell? ⟨b, 0, none⟩ = some (.slice (some ⟨bc, 0, none⟩) n cap)) (hb : b < w.heap.size) (hbc : bc < w.heap.size) (hn : n ≤ 64)
   (hc : c < n) (e0 : w.cell? ⟨bc, c * 3, none⟩ = some (.slice wa wl wc)) (e1 : w.cell? ⟨bc, c * 3 + 1, none⟩ = some (.int .i64 times)) (e2 : w.cell? ⟨bc, c * 3 + 2, none⟩ = some (.bool hr)) (ht : 0 ≤ times) (ht2 : times ≤ 1000000000000) :
    Calls Tryd.prog 70 #[.pointer (some ⟨b, 0, none⟩), .agg #[.int .i64 c, .int .i64 g]] w fun e w' => e = .returned (.bool (hr && decide (g = times - 1))) ∧ Mod noF w w' := by
  have hd : decide ((c : Int) < 0) = false := by simp
  have hd2 : decide ((n : Int) ≤ (c : Int)) = false := by simp; omega
  cases hr
  all_goals
    go_enter Tryd.func70, Tryd.ntmps70
    go_wp2
    all_goals (try go_quiet (fail))
    all_goals (try go_wp2)
    go_region
    all_goals go_wp2
    go_ret
  · exact ⟨rfl, (((Mod.refl _ _).alloc _).drewN _).alloc _⟩
  · exact ⟨rfl, (((Mod.refl _ _).alloc _).drewN _).alloc _⟩
variable {K : Nat → Bool} {w : World} {L : Lay} {m : M} {N : Int}
theorem here_any (R : Rep ty K w L m) (h1 : K 1 = true) (h2 : K 2 = true) (om : OkM N m) (ol : OkL L m) (hN : N ≤ 1000000000000) (c g : Int) :
    Calls Tryd.prog 70 #[.pointer (some ⟨L.blk 1 0, 0, none⟩), .agg #[.int .i64 c, .int .i64 g]] w fun e w' => e = .returned (.bool (hereIn m.cells c g)) ∧ Mod noF w w' := by
  have hb := R.lt1 h1
  have h0 := R.cells_at h1 ol
  by_cases hc : c < 0
  · have e : hereIn m.cells c g = false := by simp [hereIn, cellAt, hc]
    rw [e]; exact here_low _ _ _ _ c g w h0 hb hc
  · by_cases hn : (m.cells.length : Int) ≤ c
    · have e : hereIn m.cells c g = false := by
        simp only [hereIn, cellAt, if_neg hc]
        rw [List.getElem?_eq_none (by omega)]
      rw [e]; exact here_high _ _ _ _ c g w h0 hb (by omega) hn
    · obtain ⟨k, rfl⟩ := Int.eq_ofNat_of_zero_le (show 0 ≤ c by omega)
      have hk : k < m.cells.length := by omega
      have hx : m.cells[k]? = some m.cells[k] := List.getElem?_eq_getElem hk
      have e : hereIn m.cells (k : Int) g = (m.cells[k].here && decide (g = m.cells[k].times - 1)) := by
        simp only [hereIn, cellAt, if_neg hc, Int.toNat_natCast, hx]
      rw [e]
      obtain ⟨e0, e1, e2⟩ := R.cell_at h2 ol hx
      obtain ⟨t0, t1⟩ := om.times k _ hx
      exact here_in _ _ _ _ k g _ _ _ _ _ w h0 hb (R.lt2 h2 ol) om.cells hk e0 e1 e2 t0 (by omega)
end Go.Proofs.YtamfbfajlfbooaaDoor
end
/- quiescentref1.NewMemory. -/
section
namespace Go.Proofs.YtamfbfajlfbooaaDoor
open Go.RowKit Qs Qh
theorem cellInfo : (Tryd.prog.info? 43).map (fun i => (i.zero, i.size, i.bytes)) = some (some (.agg #[.slice none 0 0, .int .i64 0, .bool false]), 3, 40) := by kernel_rfl
theorem wrowInfo : (Tryd.prog.info? 128).map (fun i => (i.zero, i.size, i.bytes)) = some (some (.slice none 0 0), 1, 24) := by kernel_rfl
theorem make_cells (n : Nat) (hn : n ≤ 64) (w : World) : (Instr.makeSlice 44 (.int .i64 n) (.int .i64 n)).run Tryd.prog w = .ok (.slice (some ⟨w.heap.size, 0, none⟩) n n) (w.alloc (.cells (newArr 0 n 0).toArray 43)) := by
  obtain ⟨i, hi, hz0, hz1, hz2⟩ := info_parts cellInfo
  have := run_makeSlice (P := Tryd.prog) w 44 43 i _ Tryd.underlying44 hi hz0 .i64 .i64 n n (by omega) (by omega) (by rw [hz1]; simp; omega) (by rw [hz2]; omega) (by omega)
  rw [this, hz1]
  have e : (madeCells (Value.agg #[.slice none 0 0, .int .i64 0, .bool false]).cells (n * 3)) = (newArr 0 n 0).toArray := by
    rw [← newArr_zero 0 n]; simp [Value.cells]
  simp only [Int.toNat_natCast]
  rw [e]
theorem make_waits (n : Nat) (hn : n ≤ 64) (w : World) : (Instr.makeSlice 45 (.int .i64 n) (.int .i64 n)).run Tryd.prog w = .ok (.slice (some ⟨w.heap.size, 0, none⟩) n n) (w.alloc (.cells (List.replicate n (.slice none 0 0)).toArray 128)) := by
  obtain ⟨i, hi, hz0, hz1, hz2⟩ := info_parts wrowInfo
  have := run_makeSlice (P := Tryd.prog) w 45 128 i _ Tryd.underlying45 hi hz0 .i64 .i64 n n (by omega) (by omega) (by rw [hz1]; simp; omega) (by rw [hz2]; omega) (by omega)
  rw [this, hz1]
  have e : (madeCells (Value.slice none 0 0).cells (n * 1)) = (List.replicate n (.slice none 0 0)).toArray := by
    rw [← toList_madeCells_one]; simp [Value.cells]
  simp only [Int.toNat_natCast]
  rw [e]
theorem newArr_zero_any (B B' n : Nat) : newArr B n 0 = newArr B' n 0 := by rw [← newArr_zero, ← newArr_zero]
/-- What a new memory's loop keeps. -/
structure NewRel (w : World) (n t bm bc bw k : Nat) (wr : World) : Prop where
  size : wr.heap.size = w.heap.size + 3 + k
  mem : wr.heap[bm]? = some (.cells #[.slice (some ⟨bc, 0, none⟩) n n, .slice (some ⟨bw, 0, none⟩) t t] 47 (0, 0))
  cells : wr.heap[bc]? = some (.cells (newArr (w.heap.size + 3) n k).toArray 43 (0, 0))
  waits : wr.heap[bw]? = some (.cells (List.replicate t (.slice none 0 0)).toArray 128 (0, 0))
  words : ∀ i, i < k → wr.heap[w.heap.size + 3 + i]? = some (.cells #[.int .i64 0, .int .i64 0, .int .i64 0, .int .i64 0] 3 (0, 0))
  below : Below w.heap.size w wr
theorem NewRel.next {w wr : World} {n t bm bc bw k : Nat} (h : NewRel w n t bm bc bw k wr) (hk : k < n) (h2 : bc < w.heap.size + 3) (hB : w.heap.size ≤ bc) (h12 : bm ≠ bc) (h23 : bc ≠ bw) (h1 : bm < w.heap.size + 3) (h3 : bw < w.heap.size + 3) :
    NewRel w n t bm bc bw (k + 1) ((wr.setCell ⟨bc, k * 3, none⟩ (.slice (some ⟨wr.heap.size, 0, none⟩) 4 4)).alloc (.cells #[.int .i64 0, .int .i64 0, .int .i64 0, .int .i64 0] 3)) := by
  have hs := h.size
  have hss : (wr.setCell ⟨bc, k * 3, none⟩ (.slice (some ⟨wr.heap.size, 0, none⟩) 4 4)).heap.size = wr.heap.size := by simp [World.setCell]
  have old : ∀ (b : Nat) (o : Obj), (wr.setCell ⟨bc, k * 3, none⟩ (.slice (some ⟨wr.heap.size, 0, none⟩) 4 4)).heap[b]? = some o → ((wr.setCell ⟨bc, k * 3, none⟩ (.slice (some ⟨wr.heap.size, 0, none⟩) 4 4)).alloc (.cells #[.int .i64 0, .int .i64 0, .int .i64 0, .int .i64 0] 3)).heap[b]? = some o := fun b o hb => (Below.heap_alloc _ _ b (lt_of_block hb)).trans hb
  refine ⟨by simp [World.setCell]; omega, old _ _ ?_, old _ _ ?_, old _ _ ?_, ?_, ?_⟩
  · rw [Qh.heap_setCell_other h12]; exact h.mem
  · rw [Qh.heap_setCell_same h.cells, newArr_succ hk]
    simp [hs]
  · rw [Qh.heap_setCell_other (Ne.symm h23)]; exact h.waits
  · intro i hi
    by_cases e : i = k
    · subst e
      have := heap_alloc_new (wr.setCell ⟨bc, i * 3, none⟩ (.slice (some ⟨wr.heap.size, 0, none⟩) 4 4)) (.cells #[.int .i64 0, .int .i64 0, .int .i64 0, .int .i64 0] 3)
      rw [hss, hs] at this
      rw [hs]
      exact this
    · refine old _ _ ?_
      rw [Qh.heap_setCell_other (by omega)]
      exact h.words i (by omega)
  · exact (h.below.setCell hB _).alloc (by rw [hss]; omega) _
theorem heap3_0 (w : World) (a b c : Obj) : (((w.alloc a).alloc b).alloc c).heap[w.heap.size]? = some a := by
  have h0 := heap_alloc_new w a
  have h1 := (Below.heap_alloc (w.alloc a) b _ (lt_of_block h0)).trans h0
  exact (Below.heap_alloc ((w.alloc a).alloc b) c _ (lt_of_block h1)).trans h1
theorem heap3_1 (w : World) (a b c : Obj) : (((w.alloc a).alloc b).alloc c).heap[w.heap.size + 1]? = some b := by
  have h0 := heap_alloc_new (w.alloc a) b
  have h1 := (Below.heap_alloc ((w.alloc a).alloc b) c _ (lt_of_block h0)).trans h0
  simpa using h1
theorem heap3_2 (w : World) (a b c : Obj) : (((w.alloc a).alloc b).alloc c).heap[w.heap.size + 1 + 1]? = some c := by
  have h0 := heap_alloc_new ((w.alloc a).alloc b) c
  simpa using h0
theorem NewRel.drew {w wr : World} {n t bm bc bw k : Nat} (h : NewRel w n t bm bc bw k wr) : NewRel w n t bm bc bw k wr.drew :=
  ⟨h.size, h.mem, h.cells, h.waits, h.words, ⟨h.below.os, h.below.tape, h.below.output, h.below.size, h.below.block⟩⟩
theorem NewRel.start {w wr : World} {n t bm bc bw : Nat} (hs : wr.heap.size = w.heap.size + 3) (hm : wr.heap[bm]? = some (.cells #[.slice (some ⟨bc, 0, none⟩) n n, .slice (some ⟨bw, 0, none⟩) t t] 47 (0, 0)))
    (hc : wr.heap[bc]? = some (.cells (newArr 0 n 0).toArray 43 (0, 0))) (hw : wr.heap[bw]? = some (.cells (List.replicate t (.slice none 0 0)).toArray 128 (0, 0))) (hb : Below w.heap.size w wr) : NewRel w n t bm bc bw 0 wr :=
  ⟨by omega, hm, by rw [newArr_zero_any _ 0]; exact hc, hw, fun i hi => absurd hi (by omega), hb⟩
set_option maxHeartbeats 1000000 in
theorem newMem_any (n t : Nat) (w : World) (hn : n ≤ 64) (ht : t ≤ 64) :
    Calls Tryd.prog 68 #[.int .i64 n, .int .i64 t] w fun e w' => ∃ bm bc bw, e = .returned (.pointer (some ⟨bm, 0, none⟩)) ∧ NewRel w n t bm bc bw n w' ∧ w.heap.size ≤ bm ∧ w.heap.size ≤ bc ∧ w.heap.size ≤ bw ∧ bm < w.heap.size + 3 ∧ bc < w.heap.size + 3 ∧ bw < w.heap.size + 3 ∧ bm ≠ bc ∧ bm ≠ bw ∧ bc ≠ bw := by
  have hmc := make_cells n hn
  have hmw := make_waits t ht
  have hmk : ∀ w : World, (Instr.makeSlice 23 (.int .i64 4) (.int .i64 4)).run Tryd.prog w = .ok (.slice (some ⟨w.heap.size, 0, none⟩) 4 4) (w.alloc (.cells #[.int .i64 0, .int .i64 0, .int .i64 0, .int .i64 0] 3)) := fun _ => by kernel_rfl
  go_enter Tryd.func68, Tryd.ntmps68
  go_wp2
  go_region
  all_goals go_wp2
  · go_loopw [6] (fun i wr => ∃ k : Nat, k ≤ n ∧ i = .int .i64 k ∧ NewRel w n t (w.heap.size + 1 + 1) w.heap.size (w.heap.size + 1) k wr) (fun i _ => n - (intOf i).toNat)
    case atStart =>
      refine ⟨0, Nat.zero_le _, rfl, ?_⟩
      refine NewRel.start (by simp) ?_ ?_ ?_ ?_
      · exact heap3_2 w _ _ _
      · exact heap3_0 w _ _ _
      · exact heap3_1 w _ _ _
      · exact ((((Mod.refl noF w).alloc _).alloc _).alloc _).drew.toBelow
    case round =>
      rename_i wr
      obtain ⟨k, hk, rfl, hrel⟩ := hrel
      have hs := hrel.size
      have hb1 := lt_of_block hrel.mem
      have hb2 := lt_of_block hrel.cells
      have m0 : wr.cell? ⟨w.heap.size + 1 + 1, 0, none⟩ = some (.slice (some ⟨w.heap.size, 0, none⟩) n n) := by rw [cell_of_heap hrel.mem]; rfl
      have HR := Lib.hid hrel
      have Hs := Lib.hid hs
      by_cases hlt : k < n
      · have hd : decide ((k : Int) < (n : Int)) = true := by simp; omega
        have c0 : wr.cell? ⟨w.heap.size, k * 3, none⟩ = some (.slice none 0 0) := by
          rw [cell_of_heap hrel.cells]
          have := flat_get newV 3 (fun _ _ => rfl) (j := 0) (by omega) (newE (w.heap.size + 3) n k) 0 k none (by rw [newE_get hlt]; simp) []
          rw [List.append_nil] at this
          simpa [newArr, newV] using this
        have f0 := free_of_heap hrel.cells (k * 3)
        clear hrel hs
        go_wp2
        go_region
        all_goals go_wp2
        all_goals
          go_roundw
          case rel => exact ⟨k + 1, by omega, by go_num, (HR.out.next hlt (by omega) (by omega) (by omega) (by omega) (by omega) (by omega)).drew⟩
          case measure => simp [intOf]; omega
      · have hd : decide ((k : Int) < (n : Int)) = false := by simp; omega
        obtain rfl : k = n := by omega
        clear hrel hs
        go_wp2
        go_ret
        exact ⟨_, w.heap.size, (w.heap.size + 1), rfl, HR.out, by omega, by omega, by omega, by omega, by omega, by omega, by omega, by omega, by omega⟩
  · go_loopw [6] (fun i wr => ∃ k : Nat, k ≤ n ∧ i = .int .i64 k ∧ NewRel w n t (w.heap.size + 1 + 1) (w.heap.size + 1) w.heap.size k wr) (fun i _ => n - (intOf i).toNat)
    case atStart =>
      refine ⟨0, Nat.zero_le _, rfl, ?_⟩
      refine NewRel.start (by simp) ?_ ?_ ?_ ?_
      · exact heap3_2 w _ _ _
      · exact heap3_1 w _ _ _
      · exact heap3_0 w _ _ _
      · exact ((((Mod.refl noF w).alloc _).alloc _).alloc _).drew.toBelow
    case round =>
      rename_i wr
      obtain ⟨k, hk, rfl, hrel⟩ := hrel
      have hs := hrel.size
      have hb1 := lt_of_block hrel.mem
      have hb2 := lt_of_block hrel.cells
      have m0 : wr.cell? ⟨w.heap.size + 1 + 1, 0, none⟩ = some (.slice (some ⟨(w.heap.size + 1), 0, none⟩) n n) := by rw [cell_of_heap hrel.mem]; rfl
      have HR := Lib.hid hrel
      have Hs := Lib.hid hs
      by_cases hlt : k < n
      · have hd : decide ((k : Int) < (n : Int)) = true := by simp; omega
        have c0 : wr.cell? ⟨(w.heap.size + 1), k * 3, none⟩ = some (.slice none 0 0) := by
          rw [cell_of_heap hrel.cells]
          have := flat_get newV 3 (fun _ _ => rfl) (j := 0) (by omega) (newE (w.heap.size + 3) n k) 0 k none (by rw [newE_get hlt]; simp) []
          rw [List.append_nil] at this
          simpa [newArr, newV] using this
        have f0 := free_of_heap hrel.cells (k * 3)
        clear hrel hs
        go_wp2
        go_region
        all_goals go_wp2
        all_goals
          go_roundw
          case rel => exact ⟨k + 1, by omega, by go_num, (HR.out.next hlt (by omega) (by omega) (by omega) (by omega) (by omega) (by omega)).drew⟩
          case measure => simp [intOf]; omega
      · have hd : decide ((k : Int) < (n : Int)) = false := by simp; omega
        obtain rfl : k = n := by omega
        clear hrel hs
        go_wp2
        go_ret
        exact ⟨_, (w.heap.size + 1), w.heap.size, rfl, HR.out, by omega, by omega, by omega, by omega, by omega, by omega, by omega, by omega, by omega⟩
end Go.Proofs.YtamfbfajlfbooaaDoor
end
/- Small functions of the reference: IsWord, RefOf, WordOf. -/
section
namespace Go.Proofs.YtamfbfajlfbooaaDoor
open Go.RowKit Qs Qh
theorem isWord_any (n : Int) (w : World) :
    Calls Tryd.prog 31 #[.int .i64 n] w fun e w' => e = .returned (.bool (isWord n)) ∧ w = w' := by
  by_cases h0 : 0 ≤ n
  · by_cases h1 : n < 4294967296
    · have e : isWord n = true := by simp [isWord, W32, h0, h1]
      have d0 : decide (0 ≤ n) = true := by simpa using h0
      have d1 : decide (n < 4294967296) = true := by simpa using h1
      rw [e]
      go_enter Tryd.func31, Tryd.ntmps31
      go_wp2
      go_ret
      exact ⟨rfl, rfl⟩
    · have e : isWord n = false := by simp [isWord, W32]; omega
      have d0 : decide (0 ≤ n) = true := by simpa using h0
      have d1 : decide (n < 4294967296) = false := by simpa using h1
      rw [e]
      go_enter Tryd.func31, Tryd.ntmps31
      go_wp2
      go_ret
      exact ⟨rfl, rfl⟩
  · have e : isWord n = false := by simp [isWord, h0]
    have d0 : decide (0 ≤ n) = false := by simpa using h0
    rw [e]
    go_enter Tryd.func31, Tryd.ntmps31
    go_wp2
    go_ret
    exact ⟨rfl, rfl⟩
def refV (n : Int) : Int × Int × Int := match refOf n with | some (c, g) => (c, g, 0) | none => (0, 0, if n = 0 then 5 else 2)
theorem refOf_any (n : Int) (w : World) (hlo : -9223372036854775808 ≤ n) (hhi : n ≤ 9223372036854775807) :
    Calls Tryd.prog 48 #[.int .i64 n] w fun e w' => e = .returned (.tuple #[.agg #[.int .i64 (refV n).1, .int .i64 (refV n).2.1], .int .i64 (refV n).2.2]) ∧ Mod noF w w' := by
  by_cases h0 : n = 0
  · subst h0
    go_enter Tryd.func48, Tryd.ntmps48
    go_wp2
    refine bodyPost_ret (v := .tuple #[.agg #[.int .i64 0, .int .i64 0], .int .i64 5]) (by simp [results, Tryd.results48, go_sem]) rfl ⟨rfl, (Mod.refl _ _).alloc _⟩
  · have d0 : (n == 0) = false := by simpa using h0
    cases hw : isWord n with
    | false =>
      have e : refV n = (0, 0, 2) := by simp [refV, refOf, h0, hw]
      rw [e]
      have Hw := Lib.hid hw; clear hw
      go_enter Tryd.func48, Tryd.ntmps48
      go_wp2_with (go_at_call 31; refine (isWord_any _ _).mono ?_; rintro e w' ⟨rfl, rfl⟩; rw [Hw.out])
      refine bodyPost_ret (v := .tuple #[.agg #[.int .i64 0, .int .i64 0], .int .i64 2]) (by simp [results, Tryd.results48, go_sem]) rfl ⟨rfl, (Mod.refl _ _).alloc _⟩
    | true =>
      have e : refV n = ((n - 1) % 64, (n - 1) / 64, 0) := by simp [refV, refOf, h0, hw]
      have hb : 0 ≤ n ∧ n < 4294967296 := by simpa [isWord, W32] using hw
      obtain ⟨b0, b1⟩ := hb
      have b2 : 0 ≤ n - 1 := by omega
      rw [e]
      have Hw := Lib.hid hw; clear hw
      go_enter Tryd.func48, Tryd.ntmps48
      go_wp2_with (go_at_call 31; refine (isWord_any _ _).mono ?_; rintro e w' ⟨rfl, rfl⟩; rw [Hw.out])
      refine bodyPost_ret (v := .tuple #[.agg #[.int .i64 ((n - 1) % 64), .int .i64 ((n - 1) / 64)], .int .i64 0]) (by simp [results, Tryd.results48, go_sem]) rfl ⟨rfl, (Mod.refl _ _).alloc _⟩
def wordV (c g : Int) : Int × Int := if 0 ≤ c ∧ c < 64 ∧ 0 ≤ g ∧ g ≤ 67108864 ∧ isWord (g * 64 + c + 1) then (g * 64 + c + 1, 0) else (0, 2)
theorem wordOf_any (c g : Int) (w : World) (hg : -1000000000000 ≤ g) (hg2 : g ≤ 1000000000000) :
    Calls Tryd.prog 46 #[.agg #[.int .i64 c, .int .i64 g]] w fun e w' => e = .returned (.tuple #[.int .i64 (wordV c g).1, .int .i64 (wordV c g).2]) ∧ Mod noF w w' := by
  by_cases h : 0 ≤ c ∧ c < 64 ∧ 0 ≤ g ∧ g ≤ 67108864
  · obtain ⟨c0, c1, g0, g1⟩ := h
    have d0 : decide (c < 0) = false := by simpa using c0
    have d1 : decide (64 ≤ c) = false := by simp; omega
    have d2 : decide (g < 0) = false := by simpa using g0
    have d3 : decide (67108864 < g) = false := by simp; omega
    cases hw : isWord (g * 64 + c + 1) with
    | false =>
      have e : wordV c g = (0, 2) := by simp [wordV, hw]
      rw [e]
      have Hw := Lib.hid hw; clear hw
      go_enter Tryd.func46, Tryd.ntmps46
      go_wp2_with (go_at_call 31; refine (isWord_any _ _).mono ?_; rintro e w' ⟨rfl, rfl⟩; rw [Hw.out])
      go_ret2
      exact ⟨rfl, (Mod.refl _ _).alloc _⟩
    | true =>
      have e : wordV c g = (g * 64 + c + 1, 0) := by simp [wordV, hw, c0, c1, g0, g1]
      rw [e]
      have Hw := Lib.hid hw; clear hw
      go_enter Tryd.func46, Tryd.ntmps46
      go_wp2_with (go_at_call 31; refine (isWord_any _ _).mono ?_; rintro e w' ⟨rfl, rfl⟩; rw [Hw.out])
      go_ret2
      exact ⟨rfl, (Mod.refl _ _).alloc _⟩
  · have e : wordV c g = (0, 2) := by simp only [wordV]; rw [if_neg (fun hh => h ⟨hh.1, hh.2.1, hh.2.2.1, hh.2.2.2.1⟩)]
    rw [e]
    by_cases c0 : c < 0
    · have d0 : decide (c < 0) = true := by simpa using c0
      go_enter Tryd.func46, Tryd.ntmps46
      go_wp2
      go_ret2
      exact ⟨rfl, (Mod.refl _ _).alloc _⟩
    · have d0 : decide (c < 0) = false := by simpa using c0
      by_cases c1 : 64 ≤ c
      · have d1 : decide (64 ≤ c) = true := by simpa using c1
        go_enter Tryd.func46, Tryd.ntmps46
        go_wp2
        go_ret2
        exact ⟨rfl, (Mod.refl _ _).alloc _⟩
      · have d1 : decide (64 ≤ c) = false := by simpa using c1
        by_cases g0 : g < 0
        · have d2 : decide (g < 0) = true := by simpa using g0
          go_enter Tryd.func46, Tryd.ntmps46
          go_wp2
          go_ret2
          exact ⟨rfl, (Mod.refl _ _).alloc _⟩
        · have d2 : decide (g < 0) = false := by simpa using g0
          have d3 : decide (67108864 < g) = true := by simp; omega
          go_enter Tryd.func46, Tryd.ntmps46
          go_wp2
          go_ret2
          exact ⟨rfl, (Mod.refl _ _).alloc _⟩
end Go.Proofs.YtamfbfajlfbooaaDoor
end
/- joinedFacts, out of its parts: the kernel takes each by itself. -/
section
namespace Go.Proofs.YtamfbfajlfbooaaDoor
open Go
/-- The kinds that a row with conditions bears. -/
def kindsOf (P : Program) (b : Bool) (l : List TypeId) : List (Option IntKind) := if b then [] else l.map fun t => match P.underlying t with | some (.int k) => some k | _ => none
theorem joined_of {P : Program} {f : FuncId} {fn : Func} {s : ChangeSpec} {c : OpenClaim}
    (k0 : (c.wf (OpenSpec.ofChange s)) = true)
    (k1 : (laidOutB P) = true)
    (k2 : (mapsRowed P) = true)
    (k3 : (fn.params.all (P.readableRec ·)) = true)
    (k4 : (namedTie P c.named s.vars) = true)
    (k5 : ((c.stops == [])) = true)
    (k6 : ((P.stops == [])) = true)
    (k7 : ((c.knobs == [])) = true)
    (k8 : ((P.stopKnobs == [])) = true)
    (k9 : ((c.inPlace == P.inPlace f)) = true)
    (k10 : ((c.unfollowed == P.unfollowed f)) = true)
    (k11 : ((c.recurses == P.recurses f)) = true)
    (k12 : ((c.named == P.varsNamed f)) = true)
    (k13 : ((c.maps == (fn.params.toList ++ s.plain.varTypes P).any (P.mapsRec ·))) = true)
    (k14 : ((c.ifaces == (fn.params.toList ++ s.plain.varTypes P).any (P.ifacesRec ·))) = true)
    (k15 : ((c.mapsOut == P.mapsAmong fn.resultTypes.toList)) = true)
    (k16 : ((c.loops == (fn.params.toList ++ s.plain.varTypes P).any (P.loopsFrom ·))) = true)
    (k17 : ((c.wideKeys == (fn.params.toList ++ s.plain.varTypes P ++ fn.resultTypes.toList).any (P.wideKeysFrom ·))) = true)
    (k18 : (s.vars.all (P.varReadable ·)) = true)
    (k19 : (fn.resultTypes.all (fun t => P.readableRec t && decide (t < P.types.size))) = true)
    (k20 : ((c.ifacesOut == fn.resultTypes.toList.any (P.ifacesRec ·))) = true)
    (k21 : ((c.loopsOut == fn.resultTypes.toList.any (P.loopsFrom ·))) = true)
    (k22 : ((c.plainKeys == P.plainKeys)) = true)
    (k23 : (c.shortTexts.isNone) = true)
    (k24 : (P.stopsHeard) = true)
    (k25 : (P.mayEnter) = true)
    (k26 : ((c.lifted == P.liftsFinal)) = true)
    (k27 : ((P.make == some c.make)) = true)
    (k28 : ((c.kinds == kindsOf P c.domain.isEmpty fn.params.toList)) = true)
    (k29 : ((c.pinned == c.pinnedBy)) = true)
    (k30 : ((c.veiled == (fn.params.toList ++ s.plain.varTypes P ++ fn.resultTypes.toList).any (P.veiledRec ·))) = true)
    (k31 : (c.veiledFits P fn.params.toList (fn.params.toList ++ s.plain.varTypes P ++ fn.resultTypes.toList)) = true) : joinedFacts P f fn s c = true := by
  unfold joinedFacts
  refine Bool.and_eq_true_iff.2 ⟨?_, k31⟩
  refine Bool.and_eq_true_iff.2 ⟨?_, k30⟩
  refine Bool.and_eq_true_iff.2 ⟨?_, k29⟩
  refine Bool.and_eq_true_iff.2 ⟨?_, k28⟩
  refine Bool.and_eq_true_iff.2 ⟨?_, k27⟩
  refine Bool.and_eq_true_iff.2 ⟨?_, k26⟩
  refine Bool.and_eq_true_iff.2 ⟨?_, k25⟩
  refine Bool.and_eq_true_iff.2 ⟨?_, k24⟩
  refine Bool.and_eq_true_iff.2 ⟨?_, k23⟩
  refine Bool.and_eq_true_iff.2 ⟨?_, k22⟩
  refine Bool.and_eq_true_iff.2 ⟨?_, k21⟩
  refine Bool.and_eq_true_iff.2 ⟨?_, k20⟩
  refine Bool.and_eq_true_iff.2 ⟨?_, k19⟩
  refine Bool.and_eq_true_iff.2 ⟨?_, k18⟩
  refine Bool.and_eq_true_iff.2 ⟨?_, k17⟩
  refine Bool.and_eq_true_iff.2 ⟨?_, k16⟩
  refine Bool.and_eq_true_iff.2 ⟨?_, k15⟩
  refine Bool.and_eq_true_iff.2 ⟨?_, k14⟩
  refine Bool.and_eq_true_iff.2 ⟨?_, k13⟩
  refine Bool.and_eq_true_iff.2 ⟨?_, k12⟩
  refine Bool.and_eq_true_iff.2 ⟨?_, k11⟩
  refine Bool.and_eq_true_iff.2 ⟨?_, k10⟩
  refine Bool.and_eq_true_iff.2 ⟨?_, k9⟩
  refine Bool.and_eq_true_iff.2 ⟨?_, k8⟩
  refine Bool.and_eq_true_iff.2 ⟨?_, k7⟩
  refine Bool.and_eq_true_iff.2 ⟨?_, k6⟩
  refine Bool.and_eq_true_iff.2 ⟨?_, k5⟩
  refine Bool.and_eq_true_iff.2 ⟨?_, k4⟩
  refine Bool.and_eq_true_iff.2 ⟨?_, k3⟩
  refine Bool.and_eq_true_iff.2 ⟨?_, k2⟩
  refine Bool.and_eq_true_iff.2 ⟨?_, k1⟩
  exact k0
end Go.Proofs.YtamfbfajlfbooaaDoor
end
/- A slice of integers that came in. -/
section
namespace Go.Proofs.YtamfbfajlfbooaaDoor
open Go.ChangeShapes Go.WideShapes Go.ChangeAt Go.RowKit Qh
/-- It is nil; or it leads to a row of 'cap' cells, the numbers 'zs'. -/
def IsRow (k : IntKind) (w : World) (a : Option Addr) (len cap : Nat) (zs : List Int) : Prop :=
  (a = none ∧ len = 0 ∧ cap = 0 ∧ zs = []) ∨
  ∃ x, a = some x ∧ len ≤ cap ∧ cap ≤ maxLen ∧ zs.length = cap ∧ (∀ i, i < zs.length → w.cell? (x.add i) = some (.int k (zs.getD i 0))) ∧ ∀ n ∈ zs, (Lit.int k n).wf = true
theorem isRow_of {H : Type} {enc : TypeId × Value → H} {P : Program} {W : World} {T I : TypeId} {a : Option Addr} {len cap : Nat} {d : DataW H} {p : List MemPlace} (hT : P.underlying T = some (.slice I)) (hI : P.underlying I = some (.int .i64)) (hc : P.cellsOf I = 1)
    (h : DataW.Trod enc P W 0 (fun _ => true) true T (.slice a len cap) d p) : ∃ zs, IsRow .i64 W a len cap zs := by
  obtain ⟨fuel, hf⟩ := h
  rcases open_ints hT hI hc hf with ⟨hcs, _⟩ | ⟨x, l, c, zs, hcs, _, hl, hm, hz, _, hcell, hwz⟩
  · simp [Value.cells] at hcs
    obtain ⟨rfl, rfl, rfl⟩ := hcs
    exact ⟨[], .inl ⟨rfl, rfl, rfl, rfl⟩⟩
  · simp [Value.cells] at hcs
    obtain ⟨rfl, rfl, rfl⟩ := hcs
    exact ⟨zs, .inr ⟨_, rfl, hl, hm, by simpa using hz, hcell, hwz⟩⟩
theorem IsRow.ints {w : World} {a : Option Addr} {len cap : Nat} {zs : List Int} (h : IsRow .i64 w a len cap zs) :
    ∃ l, IntsAt w (.slice a len cap) l ∧ (∀ x ∈ l, -9223372036854775808 ≤ x ∧ x ≤ 9223372036854775807) ∧ (l ≠ [] → ∀ b, (Value.slice a len cap).ownBlock = some b → b < w.heap.size) := by
  rcases h with ⟨rfl, rfl, rfl, rfl⟩ | ⟨x, rfl, hl, hm, hz, hcell, hwf⟩
  · exact ⟨[], ⟨none, 0, rfl, by simp, fun i x h => by simp at h⟩, fun x h => by simp at h, fun h => absurd rfl h⟩
  · have hlen : (zs.take len).length = len := by simp; omega
    have hpos : ∀ i, i < (zs.take len).length → ∃ b off, x = ⟨b, off, none⟩ ∧ w.cell? ⟨b, off + i, none⟩ = some (.int .i64 (zs.getD i 0)) := fun i hi => by
      obtain ⟨b, off, e, hj⟩ := ints_at hcell (by omega)
      exact ⟨b, off, e, hj i (by omega)⟩
    refine ⟨zs.take len, ⟨some x, cap, by rw [hlen], by rw [hlen]; omega, fun i y hi => ?_⟩, fun y hy => ?_, fun hne b hb => ?_⟩
    · obtain ⟨h1, h2⟩ := List.getElem?_eq_some_iff.1 hi
      obtain ⟨b, off, rfl, hc⟩ := hpos i h1
      refine ⟨b, off, rfl, World.block_lt_of_cell? _ _ hc, ?_⟩
      rw [hc]
      simp at h2
      have hi2 : i < zs.length := by simp at h1; omega
      simp [List.getD, hi2, h2]
    · have := hwf y (List.mem_of_mem_take hy)
      simp only [Lit.wf, Bool.and_eq_true, decide_eq_true_eq] at this
      exact this
    · have hb' : x.block = b := by simpa [Value.ownBlock] using hb
      obtain ⟨c, off, rfl, hc⟩ := hpos 0 (List.length_pos_iff.2 hne)
      have := World.block_lt_of_cell? _ _ hc
      exact hb' ▸ this
end Go.Proofs.YtamfbfajlfbooaaDoor
end
