/- Texts that belong together, joined. -/
import Derived.Test.YtamfbfajlfbooaaDoorProg
import Derived.WalkKit
import Derived.Deep.QuietTactic
import Derived.BigQuiet
import Derived.Lib.Hide
import Derived.Test.YtamfbfajlfbooaaDoorRm2
import Derived.BigRegion
import Derived.Outline
import Derived.JoinedOf
import Derived.KernelRfl
import Derived.Test.YtamfbfajlfbooaaDoorRows
import Derived.ProofKit
import Derived.OpenShut
import Derived.Deep.Slices
import Derived.Deep.LoopGhost
import Derived.WalkSpells
import Derived.WalkLawsBesides
set_option linter.unusedVariables false
set_option linter.unusedSimpArgs false
set_option linter.unusedSectionVars false
/- (*quiescentref1.Memory).Here, .At. -/
section
namespace Go.Proofs.YtamfbfajlfbooaaDoor
open Go.RowKit Qs Qh
def ty : Ty := { mach := 41, mem := 47, cell := 43, waits := 128, thr := 88, mark := 200, int := 3, wait := 181, instr := 124 }
theorem here_low (b bc n cap : Nat) (c g : Int) (w : World) (h0 : w.cell? ⟨b, 0, none⟩ = some (.slice (some ⟨bc, 0, none⟩) n cap)) (hb : b < w.heap.size)
   (hc : c < 0) :
    Calls Tryd.prog 70 #[.pointer (some ⟨b, 0, none⟩), .agg #[.int .i64 c, .int .i64 g]] w fun e w' => e = .returned (.bool false) ∧ Mod noF w w' := by
  have hd : decide (c < 0) = true := by simpa using hc
  go_enter Tryd.func70, Tryd.ntmps70
  go_wp2
  all_goals (try go_quiet (fail))
  all_goals go_wp2
  go_ret
  exact ⟨rfl, ((Mod.refl _ _).alloc _).drewN _⟩
theorem here_high (b bc n cap : Nat) (c g : Int) (w : World) (h0 : w.cell? ⟨b, 0, none⟩ = some (.slice (some ⟨bc, 0, none⟩) n cap)) (hb : b < w.heap.size)
   (hc : 0 ≤ c) (hn : n ≤ c) :
    Calls Tryd.prog 70 #[.pointer (some ⟨b, 0, none⟩), .agg #[.int .i64 c, .int .i64 g]] w fun e w' => e = .returned (.bool false) ∧ Mod noF w w' := by
  have hd : decide (c < 0) = false := by simpa using hc
  have hd2 : decide ((n : Int) ≤ c) = true := by simpa using hn
  go_enter Tryd.func70, Tryd.ntmps70
  go_wp2
  all_goals (try go_quiet (fail))
  all_goals go_wp2
  go_ret
  exact ⟨rfl, ((Mod.refl _ _).alloc _).drewN _⟩
theorem here_in (b bc n cap : Nat) (c : Nat) (g times : Int) (hr : Bool) (wa : Option Addr) (wl wc : Nat) (w : World) (h0 : w.cell? ⟨b, 0, none⟩ = some (.slice (some ⟨bc, 0, none⟩) n cap)) (hb : b < w.heap.size) (hbc : bc < w.heap.size) (hn : n ≤ 64)
   (hc : c < n) (e0 : w.cell? ⟨bc, c * 3, none⟩ = some (.slice wa wl wc)) (e1 : w.cell? ⟨bc, c * 3 + 1, none⟩ = some (.int .i64 times)) (e2 : w.cell? ⟨bc, c * 3 + 2, none⟩ = some (.bool hr)) (ht : 0 ≤ times) (ht2 : times ≤ 1000000000000) :
    Calls Tryd.prog 70 #[.pointer (some ⟨b, 0, none⟩), .agg #[.int .i64 c, .int .i64 g]] w fun e w' => e = .returned (.bool (hr && decide (g = times - 1))) ∧ Mod noF w w' := by
  have hd : decide ((c : Int) < 0) = false := by simp
  have hd2 : decide ((n : Int) ≤ (c : Int)) = false := by simp; omega
  cases hr
  all_goals
    go_enter Tryd.func70, Tryd.ntmps70
    go_wp2
    all_goals (try go_quiet (fail))
    all_goals (try go_wp2)
    go_region
    all_goals go_wp2
    go_ret
  · exact ⟨rfl, (((Mod.refl _ _).alloc _).drewN _).alloc _⟩
  · exact ⟨rfl, (((Mod.refl _ _).alloc _).drewN _).alloc _⟩
variable {K : Nat → Bool} {w : World} {L : Lay} {m : M} {N : Int}
theorem here_any (R : Rep ty K w L m) (h1 : K 1 = true) (h2 : K 2 = true) (om : OkM N m) (ol : OkL L m) (hN : N ≤ 1000000000000) (c g : Int) :
    Calls Tryd.prog 70 #[.pointer (some ⟨L.blk 1 0, 0, none⟩), .agg #[.int .i64 c, .int .i64 g]] w fun e w' => e = .returned (.bool (hereIn m.cells c g)) ∧ Mod noF w w' := by
  have hb := R.lt1 h1
  have h0 := R.cells_at h1 ol
  by_cases hc : c < 0
  · have e : hereIn m.cells c g = false := by simp [hereIn, cellAt, hc]
    rw [e]; exact here_low _ _ _ _ c g w h0 hb hc
  · by_cases hn : (m.cells.length : Int) ≤ c
    · have e : hereIn m.cells c g = false := by
        simp only [hereIn, cellAt, if_neg hc]
        rw [List.getElem?_eq_none (by omega)]
      rw [e]; exact here_high _ _ _ _ c g w h0 hb (by omega) hn
    · obtain ⟨k, rfl⟩ := Int.eq_ofNat_of_zero_le (show 0 ≤ c by omega)
      have hk : k < m.cells.length := by omega
      have hx : m.cells[k]? = some m.cells[k] := List.getElem?_eq_getElem hk
      have e : hereIn m.cells (k : Int) g = (m.cells[k].here && decide (g = m.cells[k].times - 1)) := by
        simp only [hereIn, cellAt, if_neg hc, Int.toNat_natCast, hx]
      rw [e]
      obtain ⟨e0, e1, e2⟩ := R.cell_at h2 ol hx
      obtain ⟨t0, t1⟩ := om.times k _ hx
      exact here_in _ _ _ _ k g _ _ _ _ _ w h0 hb (R.lt2 h2 ol) om.cells hk e0 e1 e2 t0 (by omega)
end Go.Proofs.YtamfbfajlfbooaaDoor
end
/- quiescentref1.NewMemory. -/
section
namespace Go.Proofs.YtamfbfajlfbooaaDoor
open Go.RowKit Qs Qh
theorem cellInfo : (Tryd.prog.info? 43).map (fun i => (i.zero, i.size, i.bytes)) = some (some (.agg #[.slice none 0 0, .int .i64 0, .bool false]), 3, 40) := by kernel_rfl
theorem wrowInfo : (Tryd.prog.info? 128).map (fun i => (i.zero, i.size, i.bytes)) = some (some (.slice none 0 0), 1, 24) := by kernel_rfl
theorem make_cells (n : Nat) (hn : n ≤ 64) (w : World) : (Instr.makeSlice 44 (.int .i64 n) (.int .i64 n)).run Tryd.prog w = .ok (.slice (some ⟨w.heap.size, 0, none⟩) n n) (w.alloc (.cells (newArr 0 n 0).toArray 43)) := by
  obtain ⟨i, hi, hz0, hz1, hz2⟩ := info_parts cellInfo
  have := run_makeSlice (P := Tryd.prog) w 44 43 i _ Tryd.underlying44 hi hz0 .i64 .i64 n n (by omega) (by omega) (by rw [hz1]; simp; omega) (by rw [hz2]; omega) (by omega)
  rw [this, hz1]
  have e : (madeCells (Value.agg #[.slice none 0 0, .int .i64 0, .bool false]).cells (n * 3)) = (newArr 0 n 0).toArray := by
    rw [← newArr_zero 0 n]; simp [Value.cells]
  simp only [Int.toNat_natCast]
  rw [e]
theorem make_waits (n : Nat) (hn : n ≤ 64) (w : World) : (Instr.makeSlice 45 (.int .i64 n) (.int .i64 n)).run Tryd.prog w = .ok (.slice (some ⟨w.heap.size, 0, none⟩) n n) (w.alloc (.cells (List.replicate n (.slice none 0 0)).toArray 128)) := by
  obtain ⟨i, hi, hz0, hz1, hz2⟩ := info_parts wrowInfo
  have := run_makeSlice (P := Tryd.prog) w 45 128 i _ Tryd.underlying45 hi hz0 .i64 .i64 n n (by omega) (by omega) (by rw [hz1]; simp; omega) (by rw [hz2]; omega) (by omega)
  rw [this, hz1]
  have e : (madeCells (Value.slice none 0 0).cells (n * 1)) = (List.replicate n (.slice none 0 0)).toArray := by
    rw [← toList_madeCells_one]; simp [Value.cells]
  simp only [Int.toNat_natCast]
  rw [e]
theorem newArr_zero_any (B B' n : Nat) : newArr B n 0 = newArr B' n 0 := by rw [← newArr_zero, ← newArr_zero]
/-- What a new memory's loop keeps. -/
structure NewRel (w : World) (n t bm bc bw k : Nat) (wr : World) : Prop where
  size : wr.heap.size = w.heap.size + 3 + k
  mem : wr.heap[bm]? = some (.cells #[.slice (some ⟨bc, 0, none⟩) n n, .slice (some ⟨bw, 0, none⟩) t t] 47 (0, 0))
  cells : wr.heap[bc]? = some (.cells (newArr (w.heap.size + 3) n k).toArray 43 (0, 0))
  waits : wr.heap[bw]? = some (.cells (List.replicate t (.slice none 0 0)).toArray 128 (0, 0))
  words : ∀ i, i < k → wr.heap[w.heap.size + 3 + i]? = some (.cells #[.int .i64 0, .int .i64 0, .int .i64 0, .int .i64 0] 3 (0, 0))
  below : Below w.heap.size w wr
theorem NewRel.next {w wr : World} {n t bm bc bw k : Nat} (h : NewRel w n t bm bc bw k wr) (hk : k < n) (h2 : bc < w.heap.size + 3) (hB : w.heap.size ≤ bc) (h12 : bm ≠ bc) (h23 : bc ≠ bw) (h1 : bm < w.heap.size + 3) (h3 : bw < w.heap.size + 3) :
    NewRel w n t bm bc bw (k + 1) ((wr.setCell ⟨bc, k * 3, none⟩ (.slice (some ⟨wr.heap.size, 0, none⟩) 4 4)).alloc (.cells #[.int .i64 0, .int .i64 0, .int .i64 0, .int .i64 0] 3)) := by
  have hs := h.size
  have hss : (wr.setCell ⟨bc, k * 3, none⟩ (.slice (some ⟨wr.heap.size, 0, none⟩) 4 4)).heap.size = wr.heap.size := by simp [World.setCell]
  have old : ∀ (b : Nat) (o : Obj), (wr.setCell ⟨bc, k * 3, none⟩ (.slice (some ⟨wr.heap.size, 0, none⟩) 4 4)).heap[b]? = some o → ((wr.setCell ⟨bc, k * 3, none⟩ (.slice (some ⟨wr.heap.size, 0, none⟩) 4 4)).alloc (.cells #[.int .i64 0, .int .i64 0, .int .i64 0, .int .i64 0] 3)).heap[b]? = some o := fun b o hb => (Below.heap_alloc _ _ b (lt_of_block hb)).trans hb
  refine ⟨by simp [World.setCell]; omega, old _ _ ?_, old _ _ ?_, old _ _ ?_, ?_, ?_⟩
  · rw [Qh.heap_setCell_other h12]; exact h.mem
  · rw [Qh.heap_setCell_same h.cells, newArr_succ hk]
    simp [hs]
  · rw [Qh.heap_setCell_other (Ne.symm h23)]; exact h.waits
  · intro i hi
    by_cases e : i = k
    · subst e
      have := heap_alloc_new (wr.setCell ⟨bc, i * 3, none⟩ (.slice (some ⟨wr.heap.size, 0, none⟩) 4 4)) (.cells #[.int .i64 0, .int .i64 0, .int .i64 0, .int .i64 0] 3)
      rw [hss, hs] at this
      rw [hs]
      exact this
    · refine old _ _ ?_
      rw [Qh.heap_setCell_other (by omega)]
      exact h.words i (by omega)
  · exact (h.below.setCell hB _).alloc (by rw [hss]; omega) _
theorem heap3_0 (w : World) (a b c : Obj) : (((w.alloc a).alloc b).alloc c).heap[w.heap.size]? = some a := by
  have h0 := heap_alloc_new w a
  have h1 := (Below.heap_alloc (w.alloc a) b _ (lt_of_block h0)).trans h0
  exact (Below.heap_alloc ((w.alloc a).alloc b) c _ (lt_of_block h1)).trans h1
theorem heap3_1 (w : World) (a b c : Obj) : (((w.alloc a).alloc b).alloc c).heap[w.heap.size + 1]? = some b := by
  have h0 := heap_alloc_new (w.alloc a) b
  have h1 := (Below.heap_alloc ((w.alloc a).alloc b) c _ (lt_of_block h0)).trans h0
  simpa using h1
theorem heap3_2 (w : World) (a b c : Obj) : (((w.alloc a).alloc b).alloc c).heap[w.heap.size + 1 + 1]? = some c := by
  have h0 := heap_alloc_new ((w.alloc a).alloc b) c
  simpa using h0
theorem NewRel.drew {w wr : World} {n t bm bc bw k : Nat} (h : NewRel w n t bm bc bw k wr) : NewRel w n t bm bc bw k wr.drew :=
  ⟨h.size, h.mem, h.cells, h.waits, h.words, ⟨h.below.os, h.below.tape, h.below.output, h.below.size, h.below.block⟩⟩
theorem NewRel.start {w wr : World} {n t bm bc bw : Nat} (hs : wr.heap.size = w.heap.size + 3) (hm : wr.heap[bm]? = some (.cells #[.slice (some ⟨bc, 0, none⟩) n n, .slice (some ⟨bw, 0, none⟩) t t] 47 (0, 0)))
    (hc : wr.heap[bc]? = some (.cells (newArr 0 n 0).toArray 43 (0, 0))) (hw : wr.heap[bw]? = some (.cells (List.replicate t (.slice none 0 0)).toArray 128 (0, 0))) (hb : Below w.heap.size w wr) : NewRel w n t bm bc bw 0 wr :=
  ⟨by omega, hm, by rw [newArr_zero_any _ 0]; exact hc, hw, fun i hi => absurd hi (by omega), hb⟩
set_option maxHeartbeats 1000000 in
theorem newMem_any (n t : Nat) (w : World) (hn : n ≤ 64) (ht : t ≤ 64) :
    Calls Tryd.prog 68 #[.int .i64 n, .int .i64 t] w fun e w' => ∃ bm bc bw, e = .returned (.pointer (some ⟨bm, 0, none⟩)) ∧ NewRel w n t bm bc bw n w' ∧ w.heap.size ≤ bm ∧ w.heap.size ≤ bc ∧ w.heap.size ≤ bw ∧ bm < w.heap.size + 3 ∧ bc < w.heap.size + 3 ∧ bw < w.heap.size + 3 ∧ bm ≠ bc ∧ bm ≠ bw ∧ bc ≠ bw := by
  have hmc := make_cells n hn
  have hmw := make_waits t ht
  have hmk : ∀ w : World, (Instr.makeSlice 23 (.int .i64 4) (.int .i64 4)).run Tryd.prog w = .ok (.slice (some ⟨w.heap.size, 0, none⟩) 4 4) (w.alloc (.cells #[.int .i64 0, .int .i64 0, .int .i64 0, .int .i64 0] 3)) := fun _ => by kernel_rfl
  go_enter Tryd.func68, Tryd.ntmps68
  go_wp2
  go_region
  all_goals go_wp2
  · go_loopw [6] (fun i wr => ∃ k : Nat, k ≤ n ∧ i = .int .i64 k ∧ NewRel w n t (w.heap.size + 1 + 1) w.heap.size (w.heap.size + 1) k wr) (fun i _ => n - (intOf i).toNat)
    case atStart =>
      refine ⟨0, Nat.zero_le _, rfl, ?_⟩
      refine NewRel.start (by simp) ?_ ?_ ?_ ?_
      · exact heap3_2 w _ _ _
      · exact heap3_0 w _ _ _
      · exact heap3_1 w _ _ _
      · exact ((((Mod.refl noF w).alloc _).alloc _).alloc _).drew.toBelow
    case round =>
      rename_i wr
      obtain ⟨k, hk, rfl, hrel⟩ := hrel
      have hs := hrel.size
      have hb1 := lt_of_block hrel.mem
      have hb2 := lt_of_block hrel.cells
      have m0 : wr.cell? ⟨w.heap.size + 1 + 1, 0, none⟩ = some (.slice (some ⟨w.heap.size, 0, none⟩) n n) := by rw [cell_of_heap hrel.mem]; rfl
      have HR := Lib.hid hrel
      have Hs := Lib.hid hs
      by_cases hlt : k < n
      · have hd : decide ((k : Int) < (n : Int)) = true := by simp; omega
        have c0 : wr.cell? ⟨w.heap.size, k * 3, none⟩ = some (.slice none 0 0) := by
          rw [cell_of_heap hrel.cells]
          have := flat_get newV 3 (fun _ _ => rfl) (j := 0) (by omega) (newE (w.heap.size + 3) n k) 0 k none (by rw [newE_get hlt]; simp) []
          rw [List.append_nil] at this
          simpa [newArr, newV] using this
        have f0 := free_of_heap hrel.cells (k * 3)
        clear hrel hs
        go_wp2
        go_region
        all_goals go_wp2
        all_goals
          go_roundw
          case rel => exact ⟨k + 1, by omega, by go_num, (HR.out.next hlt (by omega) (by omega) (by omega) (by omega) (by omega) (by omega)).drew⟩
          case measure => simp [intOf]; omega
      · have hd : decide ((k : Int) < (n : Int)) = false := by simp; omega
        obtain rfl : k = n := by omega
        clear hrel hs
        go_wp2
        go_ret
        exact ⟨_, w.heap.size, (w.heap.size + 1), rfl, HR.out, by omega, by omega, by omega, by omega, by omega, by omega, by omega, by omega, by omega⟩
  · go_loopw [6] (fun i wr => ∃ k : Nat, k ≤ n ∧ i = .int .i64 k ∧ NewRel w n t (w.heap.size + 1 + 1) (w.heap.size + 1) w.heap.size k wr) (fun i _ => n - (intOf i).toNat)
    case atStart =>
      refine ⟨0, Nat.zero_le _, rfl, ?_⟩
      refine NewRel.start (by simp) ?_ ?_ ?_ ?_
      · exact heap3_2 w _ _ _
      · exact heap3_1 w _ _ _
      · exact heap3_0 w _ _ _
      · exact ((((Mod.refl noF w).alloc _).alloc _).alloc _).drew.toBelow
    case round =>
      rename_i wr
      obtain ⟨k, hk, rfl, hrel⟩ := hrel
      have hs := hrel.size
      have hb1 := lt_of_block hrel.mem
      have hb2 := lt_of_block hrel.cells
      have m0 : wr.cell? ⟨w.heap.size + 1 + 1, 0, none⟩ = some (.slice (some ⟨(w.heap.size + 1), 0, none⟩) n n) := by rw [cell_of_heap hrel.mem]; rfl
      have HR := Lib.hid hrel
      have Hs := Lib.hid hs
      by_cases hlt : k < n
      · have hd : decide ((k : Int) < (n : Int)) = true := by simp; omega
        have c0 : wr.cell? ⟨(w.heap.size + 1), k * 3, none⟩ = some (.slice none 0 0) := by
          rw [cell_of_heap hrel.cells]
          have := flat_get newV 3 (fun _ _ => rfl) (j := 0) (by omega) (newE (w.heap.size + 3) n k) 0 k none (by rw [newE_get hlt]; simp) []
          rw [List.append_nil] at this
          simpa [newArr, newV] using this
        have f0 := free_of_heap hrel.cells (k * 3)
        clear hrel hs
        go_wp2
        go_region
        all_goals go_wp2
        all_goals
          go_roundw
          case rel => exact ⟨k + 1, by omega, by go_num, (HR.out.next hlt (by omega) (by omega) (by omega) (by omega) (by omega) (by omega)).drew⟩
          case measure => simp [intOf]; omega
      · have hd : decide ((k : Int) < (n : Int)) = false := by simp; omega
        obtain rfl : k = n := by omega
        clear hrel hs
        go_wp2
        go_ret
        exact ⟨_, (w.heap.size + 1), w.heap.size, rfl, HR.out, by omega, by omega, by omega, by omega, by omega, by omega, by omega, by omega, by omega⟩
end Go.Proofs.YtamfbfajlfbooaaDoor
end
/- Small functions of the reference: IsWord, RefOf, WordOf. -/
section
namespace Go.Proofs.YtamfbfajlfbooaaDoor
open Go.RowKit Qs Qh
theorem isWord_any (n : Int) (w : World) :
    Calls Tryd.prog 31 #[.int .i64 n] w fun e w' => e = .returned (.bool (isWord n)) ∧ w = w' := by
  by_cases h0 : 0 ≤ n
  · by_cases h1 : n < 4294967296
    · have e : isWord n = true := by simp [isWord, W32, h0, h1]
      have d0 : decide (0 ≤ n) = true := by simpa using h0
      have d1 : decide (n < 4294967296) = true := by simpa using h1
      rw [e]
      go_enter Tryd.func31, Tryd.ntmps31
      go_wp2
      go_ret
      exact ⟨rfl, rfl⟩
    · have e : isWord n = false := by simp [isWord, W32]; omega
      have d0 : decide (0 ≤ n) = true := by simpa using h0
      have d1 : decide (n < 4294967296) = false := by simpa using h1
      rw [e]
      go_enter Tryd.func31, Tryd.ntmps31
      go_wp2
      go_ret
      exact ⟨rfl, rfl⟩
  · have e : isWord n = false := by simp [isWord, h0]
    have d0 : decide (0 ≤ n) = false := by simpa using h0
    rw [e]
    go_enter Tryd.func31, Tryd.ntmps31
    go_wp2
    go_ret
    exact ⟨rfl, rfl⟩
def refV (n : Int) : Int × Int × Int := match refOf n with | some (c, g) => (c, g, 0) | none => (0, 0, if n = 0 then 5 else 2)
theorem refOf_any (n : Int) (w : World) (hlo : -9223372036854775808 ≤ n) (hhi : n ≤ 9223372036854775807) :
    Calls Tryd.prog 48 #[.int .i64 n] w fun e w' => e = .returned (.tuple #[.agg #[.int .i64 (refV n).1, .int .i64 (refV n).2.1], .int .i64 (refV n).2.2]) ∧ Mod noF w w' := by
  by_cases h0 : n = 0
  · subst h0
    go_enter Tryd.func48, Tryd.ntmps48
    go_wp2
    refine bodyPost_ret (v := .tuple #[.agg #[.int .i64 0, .int .i64 0], .int .i64 5]) (by simp [results, Tryd.results48, go_sem]) rfl ⟨rfl, (Mod.refl _ _).alloc _⟩
  · have d0 : (n == 0) = false := by simpa using h0
    cases hw : isWord n with
    | false =>
      have e : refV n = (0, 0, 2) := by simp [refV, refOf, h0, hw]
      rw [e]
      have Hw := Lib.hid hw; clear hw
      go_enter Tryd.func48, Tryd.ntmps48
      go_wp2_with (go_at_call 31; refine (isWord_any _ _).mono ?_; rintro e w' ⟨rfl, rfl⟩; rw [Hw.out])
      refine bodyPost_ret (v := .tuple #[.agg #[.int .i64 0, .int .i64 0], .int .i64 2]) (by simp [results, Tryd.results48, go_sem]) rfl ⟨rfl, (Mod.refl _ _).alloc _⟩
    | true =>
      have e : refV n = ((n - 1) % 64, (n - 1) / 64, 0) := by simp [refV, refOf, h0, hw]
      have hb : 0 ≤ n ∧ n < 4294967296 := by simpa [isWord, W32] using hw
      obtain ⟨b0, b1⟩ := hb
      have b2 : 0 ≤ n - 1 := by omega
      rw [e]
      have Hw := Lib.hid hw; clear hw
      go_enter Tryd.func48, Tryd.ntmps48
      go_wp2_with (go_at_call 31; refine (isWord_any _ _).mono ?_; rintro e w' ⟨rfl, rfl⟩; rw [Hw.out])
      refine bodyPost_ret (v := .tuple #[.agg #[.int .i64 ((n - 1) % 64), .int .i64 ((n - 1) / 64)], .int .i64 0]) (by simp [results, Tryd.results48, go_sem]) rfl ⟨rfl, (Mod.refl _ _).alloc _⟩
def wordV (c g : Int) : Int × Int := if 0 ≤ c ∧ c < 64 ∧ 0 ≤ g ∧ g ≤ 67108864 ∧ isWord (g * 64 + c + 1) then (g * 64 + c + 1, 0) else (0, 2)
theorem wordOf_any (c g : Int) (w : World) (hg : -1000000000000 ≤ g) (hg2 : g ≤ 1000000000000) :
    Calls Tryd.prog 46 #[.agg #[.int .i64 c, .int .i64 g]] w fun e w' => e = .returned (.tuple #[.int .i64 (wordV c g).1, .int .i64 (wordV c g).2]) ∧ Mod noF w w' := by
  by_cases h : 0 ≤ c ∧ c < 64 ∧ 0 ≤ g ∧ g ≤ 67108864
  · obtain ⟨c0, c1, g0, g1⟩ := h
    have d0 : decide (c < 0) = false := by simpa using c0
    have d1 : decide (64 ≤ c) = false := by simp; omega
    have d2 : decide (g < 0) = false := by simpa using g0
    have d3 : decide (67108864 < g) = false := by simp; omega
    cases hw : isWord (g * 64 + c + 1) with
    | false =>
      have e : wordV c g = (0, 2) := by simp [wordV, hw]
      rw [e]
      have Hw := Lib.hid hw; clear hw
      go_enter Tryd.func46, Tryd.ntmps46
      go_wp2_with (go_at_call 31; refine (isWord_any _ _).mono ?_; rintro e w' ⟨rfl, rfl⟩; rw [Hw.out])
      go_ret2
      exact ⟨rfl, (Mod.refl _ _).alloc _⟩
    | true =>
      have e : wordV c g = (g * 64 + c + 1, 0) := by simp [wordV, hw, c0, c1, g0, g1]
      rw [e]
      have Hw := Lib.hid hw; clear hw
      go_enter Tryd.func46, Tryd.ntmps46
      go_wp2_with (go_at_call 31; refine (isWord_any _ _).mono ?_; rintro e w' ⟨rfl, rfl⟩; rw [Hw.out])
      go_ret2
      exact ⟨rfl, (Mod.refl _ _).alloc _⟩
  · have e : wordV c g = (0, 2) := by simp only [wordV]; rw [if_neg (fun hh => h ⟨hh.1, hh.2.1, hh.2.2.1, hh.2.2.2.1⟩)]
    rw [e]
    by_cases c0 : c < 0
    · have d0 : decide (c < 0) = true := by simpa using c0
      go_enter Tryd.func46, Tryd.ntmps46
      go_wp2
      go_ret2
      exact ⟨rfl, (Mod.refl _ _).alloc _⟩
    · have d0 : decide (c < 0) = false := by simpa using c0
      by_cases c1 : 64 ≤ c
      · have d1 : decide (64 ≤ c) = true := by simpa using c1
        go_enter Tryd.func46, Tryd.ntmps46
        go_wp2
        go_ret2
        exact ⟨rfl, (Mod.refl _ _).alloc _⟩
      · have d1 : decide (64 ≤ c) = false := by simpa using c1
        by_cases g0 : g < 0
        · have d2 : decide (g < 0) = true := by simpa using g0
          go_enter Tryd.func46, Tryd.ntmps46
          go_wp2
          go_ret2
          exact ⟨rfl, (Mod.refl _ _).alloc _⟩
        · have d2 : decide (g < 0) = false := by simpa using g0
          have d3 : decide (67108864 < g) = true := by simp; omega
          go_enter Tryd.func46, Tryd.ntmps46
          go_wp2
          go_ret2
          exact ⟨rfl, (Mod.refl _ _).alloc _⟩
end Go.Proofs.YtamfbfajlfbooaaDoor
end
/- joinedFacts, out of its parts: the kernel takes each by itself. -/
section
namespace Go.Proofs.YtamfbfajlfbooaaDoor
open Go
/-- The kinds that a row with conditions bears. -/
def kindsOf (P : Program) (b : Bool) (l : List TypeId) : List (Option IntKind) := if b then [] else l.map fun t => match P.underlying t with | some (.int k) => some k | _ => none
theorem joined_of {P : Program} {f : FuncId} {fn : Func} {s : ChangeSpec} {c : OpenClaim}
    (k0 : (c.wf (OpenSpec.ofChange s)) = true)
    (k1 : (laidOutB P) = true)
    (k2 : (mapsRowed P) = true)
    (k3 : (fn.params.all (P.readableRec ·)) = true)
    (k4 : (namedTie P c.named s.vars) = true)
    (k5 : ((c.stops == [])) = true)
    (k6 : ((P.stops == [])) = true)
    (k7 : ((c.knobs == [])) = true)
    (k8 : ((P.stopKnobs == [])) = true)
    (k9 : ((c.inPlace == P.inPlace f)) = true)
    (k10 : ((c.unfollowed == P.unfollowed f)) = true)
    (k11 : ((c.recurses == P.recurses f)) = true)
    (k12 : ((c.named == P.varsNamed f)) = true)
    (k13 : ((c.maps == (fn.params.toList ++ s.plain.varTypes P).any (P.mapsRec ·))) = true)
    (k14 : ((c.ifaces == (fn.params.toList ++ s.plain.varTypes P).any (P.ifacesRec ·))) = true)
    (k15 : ((c.mapsOut == P.mapsAmong fn.resultTypes.toList)) = true)
    (k16 : ((c.loops == (fn.params.toList ++ s.plain.varTypes P).any (P.loopsFrom ·))) = true)
    (k17 : ((c.wideKeys == (fn.params.toList ++ s.plain.varTypes P ++ fn.resultTypes.toList).any (P.wideKeysFrom ·))) = true)
    (k18 : (s.vars.all (P.varReadable ·)) = true)
    (k19 : (fn.resultTypes.all (fun t => P.readableRec t && decide (t < P.types.size))) = true)
    (k20 : ((c.ifacesOut == fn.resultTypes.toList.any (P.ifacesRec ·))) = true)
    (k21 : ((c.loopsOut == fn.resultTypes.toList.any (P.loopsFrom ·))) = true)
    (k22 : ((c.plainKeys == P.plainKeys)) = true)
    (k23 : (c.shortTexts.isNone) = true)
    (k24 : (P.stopsHeard) = true)
    (k25 : (P.mayEnter) = true)
    (k26 : ((c.lifted == P.liftsFinal)) = true)
    (k27 : ((P.make == some c.make)) = true)
    (k28 : ((c.kinds == kindsOf P c.domain.isEmpty fn.params.toList)) = true)
    (k29 : ((c.pinned == c.pinnedBy)) = true)
    (k30 : ((c.veiled == (fn.params.toList ++ s.plain.varTypes P ++ fn.resultTypes.toList).any (P.veiledRec ·))) = true)
    (k31 : (c.veiledFits P fn.params.toList (fn.params.toList ++ s.plain.varTypes P ++ fn.resultTypes.toList)) = true) : joinedFacts P f fn s c = true := by
  unfold joinedFacts
  refine Bool.and_eq_true_iff.2 ⟨?_, k31⟩
  refine Bool.and_eq_true_iff.2 ⟨?_, k30⟩
  refine Bool.and_eq_true_iff.2 ⟨?_, k29⟩
  refine Bool.and_eq_true_iff.2 ⟨?_, k28⟩
  refine Bool.and_eq_true_iff.2 ⟨?_, k27⟩
  refine Bool.and_eq_true_iff.2 ⟨?_, k26⟩
  refine Bool.and_eq_true_iff.2 ⟨?_, k25⟩
  refine Bool.and_eq_true_iff.2 ⟨?_, k24⟩
  refine Bool.and_eq_true_iff.2 ⟨?_, k23⟩
  refine Bool.and_eq_true_iff.2 ⟨?_, k22⟩
  refine Bool.and_eq_true_iff.2 ⟨?_, k21⟩
  refine Bool.and_eq_true_iff.2 ⟨?_, k20⟩
  refine Bool.and_eq_true_iff.2 ⟨?_, k19⟩
  refine Bool.and_eq_true_iff.2 ⟨?_, k18⟩
  refine Bool.and_eq_true_iff.2 ⟨?_, k17⟩
  refine Bool.and_eq_true_iff.2 ⟨?_, k16⟩
  refine Bool.and_eq_true_iff.2 ⟨?_, k15⟩
  refine Bool.and_eq_true_iff.2 ⟨?_, k14⟩
  refine Bool.and_eq_true_iff.2 ⟨?_, k13⟩
  refine Bool.and_eq_true_iff.2 ⟨?_, k12⟩
  refine Bool.and_eq_true_iff.2 ⟨?_, k11⟩
  refine Bool.and_eq_true_iff.2 ⟨?_, k10⟩
  refine Bool.and_eq_true_iff.2 ⟨?_, k9⟩
  refine Bool.and_eq_true_iff.2 ⟨?_, k8⟩
  refine Bool.and_eq_true_iff.2 ⟨?_, k7⟩
  refine Bool.and_eq_true_iff.2 ⟨?_, k6⟩
  refine Bool.and_eq_true_iff.2 ⟨?_, k5⟩
  refine Bool.and_eq_true_iff.2 ⟨?_, k4⟩
  refine Bool.and_eq_true_iff.2 ⟨?_, k3⟩
  refine Bool.and_eq_true_iff.2 ⟨?_, k2⟩
  refine Bool.and_eq_true_iff.2 ⟨?_, k1⟩
  exact k0
end Go.Proofs.YtamfbfajlfbooaaDoor
end
/- A slice of integers that came in. -/
section
namespace Go.Proofs.YtamfbfajlfbooaaDoor
open Go.ChangeShapes Go.WideShapes Go.ChangeAt Go.RowKit Qh
/-- It is nil; or it leads to a row of 'cap' cells, the numbers 'zs'. -/
def IsRow (k : IntKind) (w : World) (a : Option Addr) (len cap : Nat) (zs : List Int) : Prop :=
  (a = none ∧ len = 0 ∧ cap = 0 ∧ zs = []) ∨
  ∃ x, a = some x ∧ len ≤ cap ∧ cap ≤ maxLen ∧ zs.length = cap ∧ (∀ i, i < zs.length → w.cell? (x.add i) = some (.int k (zs.getD i 0))) ∧ ∀ n ∈ zs, (Lit.int k n).wf = true
theorem isRow_of {H : Type} {enc : TypeId × Value → H} {P : Program} {W : World} {T I : TypeId} {a : Option Addr} {len cap : Nat} {d : DataW H} {p : List MemPlace} (hT : P.underlying T = some (.slice I)) (hI : P.underlying I = some (.int .i64)) (hc : P.cellsOf I = 1)
    (h : DataW.Trod enc P W 0 (fun _ => true) true T (.slice a len cap) d p) : ∃ zs, IsRow .i64 W a len cap zs := by
  obtain ⟨fuel, hf⟩ := h
  rcases open_ints hT hI hc hf with ⟨hcs, _⟩ | ⟨x, l, c, zs, hcs, _, hl, hm, hz, _, hcell, hwz⟩
  · simp [Value.cells] at hcs
    obtain ⟨rfl, rfl, rfl⟩ := hcs
    exact ⟨[], .inl ⟨rfl, rfl, rfl, rfl⟩⟩
  · simp [Value.cells] at hcs
    obtain ⟨rfl, rfl, rfl⟩ := hcs
    exact ⟨zs, .inr ⟨_, rfl, hl, hm, by simpa using hz, hcell, hwz⟩⟩
theorem IsRow.ints {w : World} {a : Option Addr} {len cap : Nat} {zs : List Int} (h : IsRow .i64 w a len cap zs) :
    ∃ l, IntsAt w (.slice a len cap) l ∧ (∀ x ∈ l, -9223372036854775808 ≤ x ∧ x ≤ 9223372036854775807) ∧ (l ≠ [] → ∀ b, (Value.slice a len cap).ownBlock = some b → b < w.heap.size) := by
  rcases h with ⟨rfl, rfl, rfl, rfl⟩ | ⟨x, rfl, hl, hm, hz, hcell, hwf⟩
  · exact ⟨[], ⟨none, 0, rfl, by simp, fun i x h => by simp at h⟩, fun x h => by simp at h, fun h => absurd rfl h⟩
  · have hlen : (zs.take len).length = len := by simp; omega
    have hpos : ∀ i, i < (zs.take len).length → ∃ b off, x = ⟨b, off, none⟩ ∧ w.cell? ⟨b, off + i, none⟩ = some (.int .i64 (zs.getD i 0)) := fun i hi => by
      obtain ⟨b, off, e, hj⟩ := ints_at hcell (by omega)
      exact ⟨b, off, e, hj i (by omega)⟩
    refine ⟨zs.take len, ⟨some x, cap, by rw [hlen], by rw [hlen]; omega, fun i y hi => ?_⟩, fun y hy => ?_, fun hne b hb => ?_⟩
    · obtain ⟨h1, h2⟩ := List.getElem?_eq_some_iff.1 hi
      obtain ⟨b, off, rfl, hc⟩ := hpos i h1
      refine ⟨b, off, rfl, World.block_lt_of_cell? _ _ hc, ?_⟩
      rw [hc]
      simp at h2
      have hi2 : i < zs.length := by simp at h1; omega
      simp [List.getD, hi2, h2]
    · have := hwf y (List.mem_of_mem_take hy)
      simp only [Lit.wf, Bool.and_eq_true, decide_eq_true_eq] at this
      exact this
    · have hb' : x.block = b := by simpa [Value.ownBlock] using hb
      obtain ⟨c, off, rfl, hc⟩ := hpos 0 (List.length_pos_iff.2 hne)
      have := World.block_lt_of_cell? _ _ hc
      exact hb' ▸ this
end Go.Proofs.YtamfbfajlfbooaaDoor
end
/- (*quiescentref1.Memory).At, .Load. -/
section
namespace Go.Proofs.YtamfbfajlfbooaaDoor
open Go.RowKit Qs Qh
variable {K : Nat → Bool} {w : World} {L : Lay} {m : M} {N : Int}
/-- An error's number at a word. -/
def atE (cells : List Cell) (c g wd : Int) : Int := if hereIn cells c g then (if 0 ≤ wd ∧ wd < 4 then 0 else 2) else 7
theorem atE_cases (cells : List Cell) (c g wd : Int) : atE cells c g wd = 0 ∨ 0 < atE cells c g wd := by
  unfold atE
  by_cases h : hereIn cells c g = true
  · by_cases h' : 0 ≤ wd ∧ wd < 4
    · left; rw [if_pos h, if_pos h']
    · right; rw [if_pos h, if_neg h']; decide
  · right; rw [if_neg h]; decide
theorem at_any (R : Rep ty K w L m) (h1 : K 1 = true) (h2 : K 2 = true) (om : OkM N m) (ol : OkL L m) (hN : N ≤ 1000000000000) (c g wd : Int) :
    Calls Tryd.prog 72 #[.pointer (some ⟨L.blk 1 0, 0, none⟩), .agg #[.int .i64 c, .int .i64 g], .int .i64 wd] w fun e w' => e = .returned (.int .i64 (atE m.cells c g wd)) ∧ Mod noF w w' := by
  have HR := Lib.hid R
  have Hom := Lib.hid om
  have Hol := Lib.hid ol
  clear R om ol
  cases hh : hereIn m.cells c g with
  | false =>
    have e : atE m.cells c g wd = 7 := by simp [atE, hh]
    rw [e]
    have Hh := Lib.hid hh
    clear hh e
    go_enter Tryd.func72, Tryd.ntmps72
    go_wp2_with fail
    refine (here_any (HR.out.frame0 ((Mod.refl _ _).alloc _)) h1 h2 Hom.out Hol.out hN c g).mono ?_
    rintro e w1 ⟨rfl, hm⟩
    rw [Hh.out]
    go_wp2
    go_ret
    exact ⟨rfl, ((Mod.refl _ _).alloc _).trans0 hm⟩
  | true =>
    have Hh := Lib.hid hh
    by_cases h0 : 0 ≤ wd
    · by_cases h4 : wd < 4
      · have e : atE m.cells c g wd = 0 := by simp [atE, hh, h0, h4]
        rw [e]
        have d0 : decide (wd < 0) = false := by simpa using h0
        have d1 : decide (4 ≤ wd) = false := by simpa using h4
        clear hh e
        go_enter Tryd.func72, Tryd.ntmps72
        go_wp2_with fail
        refine (here_any (HR.out.frame0 ((Mod.refl _ _).alloc _)) h1 h2 Hom.out Hol.out hN c g).mono ?_
        rintro e w1 ⟨rfl, hm⟩
        rw [Hh.out]
        go_wp2
        go_ret
        exact ⟨rfl, ((Mod.refl _ _).alloc _).trans0 hm⟩
      · have e : atE m.cells c g wd = 2 := by simp [atE, hh, h0, h4]
        rw [e]
        have d0 : decide (wd < 0) = false := by simpa using h0
        have d1 : decide (4 ≤ wd) = true := by simpa using h4
        clear hh e
        go_enter Tryd.func72, Tryd.ntmps72
        go_wp2_with fail
        refine (here_any (HR.out.frame0 ((Mod.refl _ _).alloc _)) h1 h2 Hom.out Hol.out hN c g).mono ?_
        rintro e w1 ⟨rfl, hm⟩
        rw [Hh.out]
        go_wp2
        go_ret
        exact ⟨rfl, ((Mod.refl _ _).alloc _).trans0 hm⟩
    · have e : atE m.cells c g wd = 2 := by simp [atE, hh, h0]
      rw [e]
      have d0 : decide (wd < 0) = true := by simpa using h0
      clear hh e
      go_enter Tryd.func72, Tryd.ntmps72
      go_wp2_with fail
      refine (here_any (HR.out.frame0 ((Mod.refl _ _).alloc _)) h1 h2 Hom.out Hol.out hN c g).mono ?_
      rintro e w1 ⟨rfl, hm⟩
      rw [Hh.out]
      go_wp2
      go_ret
      exact ⟨rfl, ((Mod.refl _ _).alloc _).trans0 hm⟩
theorem names_at {m : M} {n c g wd : Int} (h : m.names n = some (c, g)) (hw : 0 ≤ wd ∧ wd < 4) : atE m.cells c g wd = 0 := by
  unfold M.names at h
  cases hr : refOf n with
  | none => rw [hr] at h; cases h
  | some p =>
    obtain ⟨a, b⟩ := p
    rw [hr] at h
    simp only at h
    split at h
    · rename_i hh; cases h; unfold atE; rw [if_pos hh, if_pos hw]
    · cases h
theorem load_bad (R : Rep ty K w L m) (h1 : K 1 = true) (h2 : K 2 = true) (om : OkM N m) (ol : OkL L m) (hN : N ≤ 1000000000000) (t c g wd : Int) (he : atE m.cells c g wd ≠ 0) :
    Calls Tryd.prog 71 #[.pointer (some ⟨L.blk 1 0, 0, none⟩), .int .i64 t, .agg #[.int .i64 c, .int .i64 g], .int .i64 wd] w fun e w' => e = .returned (.tuple #[.int .i64 0, .int .i64 (atE m.cells c g wd)]) ∧ Mod noF w w' := by
  have HR := Lib.hid R
  have Hom := Lib.hid om
  have Hol := Lib.hid ol
  have Hp : 0 < atE m.cells c g wd := (atE_cases _ _ _ _).resolve_left he
  clear R om ol
  generalize hx : atE m.cells c g wd = x at *
  have Hx := Lib.hid hx
  clear hx he
  have d0 : decide (0 < x) = true := by simpa using Hp
  go_enter Tryd.func71, Tryd.ntmps71
  go_wp2_with fail
  refine (at_any (HR.out.frame0 ((Mod.refl _ _).alloc _)) h1 h2 Hom.out Hol.out hN c g wd).mono ?_
  rintro e w1 ⟨rfl, hm⟩
  rw [Hx.out]
  go_wp2
  go_ret2
  exact ⟨rfl, ((Mod.refl _ _).alloc _).trans0 hm⟩
theorem look_take {l : List Wt} {q : Nat} {y : Wt} (c g wd v : Int) (h : l[q]? = some y) : Qs.look (l.take (q + 1)) c g wd v = if y.c = c ∧ y.g = g ∧ y.w = wd then y.v else Qs.look (l.take q) c g wd v := by
  obtain ⟨hl, rfl⟩ := List.getElem?_eq_some_iff.1 h
  unfold Qs.look
  rw [List.take_succ_eq_append_getElem hl, List.foldl_append]
  rfl
/-- What waits, element by element, in memory. -/
theorem wait_at (R : Rep ty K w L m) (h7 : K 7 = true) (ol : OkL L m) {t i : Nat} {l : List Wt} {x : Wt} (hl : m.waits[t]? = some l) (hx : l[i]? = some x) :
    L.nil 7 t = false ∧ L.blk 7 t < w.heap.size ∧ w.cell? ⟨L.blk 7 t, i * 4, none⟩ = some (.int .i64 x.c) ∧ w.cell? ⟨L.blk 7 t, i * 4 + 1, none⟩ = some (.int .i64 x.g) ∧ w.cell? ⟨L.blk 7 t, i * 4 + 2, none⟩ = some (.int .i64 x.w) ∧ w.cell? ⟨L.blk 7 t, i * 4 + 3, none⟩ = some (.int .i64 x.v) := by
  have hn : L.nil 7 t = false := by
    cases h : L.nil 7 t with
    | false => rfl
    | true => have := ol.n7 t l hl h; subst this; simp at hx
  have hg := fun j (hj : j < 4) => flat_get wtVals 4 (fun _ _ => rfl) hj l 0 i x hx (L.junk 7 t)
  have ho := obj7 ty hn hl
  refine ⟨hn, R.lt ⟨7, t, h7, by rw [ho]; rfl, rfl⟩, ?_, ?_, ?_, ?_⟩
  · rw [R.cell h7 ho]
    have := hg 0 (by omega)
    rw [Nat.zero_add] at this
    exact this
  · rw [R.cell h7 ho, hg 1 (by omega)]; rfl
  · rw [R.cell h7 ho, hg 2 (by omega)]; rfl
  · rw [R.cell h7 ho, hg 3 (by omega)]; rfl
/-- A thread's list of what waits, in memory. -/
theorem waits_row (R : Rep ty K w L m) (h3 : K 3 = true) (ol : OkL L m) {t : Nat} {l : List Wt} (hl : m.waits[t]? = some l) : w.cell? ⟨L.blk 3 0, t, none⟩ = some (L.row 7 t l.length) := by
  have hg := flat_get (waitsVals L) 1 (fun _ _ => rfl) (j := 0) (by omega) m.waits 0 t l hl (L.junk 3 0)
  rw [R.cell h3 (obj3 ty m ol.n3)]
  have e : t * 1 + 0 = t := by omega
  rw [e] at hg
  rw [hg]
  simp [waitsVals]
/-- A word of a cell, in memory. -/
theorem word_at (R : Rep ty K w L m) (h6 : K 6 = true) (ol : OkL L m) {i j : Nat} {c : Cell} (hc : m.cells[i]? = some c) (hj : j < c.words.length) : w.cell? ⟨L.blk 6 i, j, none⟩ = some (.int .i64 (c.words.getD j 0)) := by
  have hi : i < m.cells.length := (List.getElem?_eq_some_iff.1 hc).1
  rw [R.cell h6 (obj6 ty (ol.n6 i hi) hc), List.getElem?_append_left (by simpa using hj)]
  simp [List.getD, hj, iv]
set_option maxRecDepth 100000 in
set_option maxHeartbeats 1000000 in
theorem load_ok (R : Rep ty K w L m) (h1 : K 1 = true) (h2 : K 2 = true) (h3 : K 3 = true) (h6 : K 6 = true) (h7 : K 7 = true) (om : OkM N m) (ol : OkL L m) (hN : N ≤ 1000000000000) (t : Nat) (ht : t < m.waits.length) (c g wd : Int) (he : atE m.cells c g wd = 0) :
    Calls Tryd.prog 71 #[.pointer (some ⟨L.blk 1 0, 0, none⟩), .int .i64 t, .agg #[.int .i64 c, .int .i64 g], .int .i64 wd] w fun e w' => e = .returned (.tuple #[.int .i64 (Qs.look (m.waitsOf t) c g wd (getWord m.cells c.toNat wd.toNat)), .int .i64 0]) ∧ Mod noF w w' := by
  have hin : hereIn m.cells c g = true := by
    cases h : hereIn m.cells c g with
    | true => rfl
    | false => simp [atE, h] at he
  have hwd : 0 ≤ wd ∧ wd < 4 := by
    refine Classical.byContradiction fun h => ?_
    simp only [atE, hin, if_true, if_neg h] at he
    omega
  obtain ⟨x, hx, hc0⟩ : ∃ x, m.cells[c.toNat]? = some x ∧ 0 ≤ c := by
    unfold hereIn cellAt at hin
    by_cases h : c < 0
    · simp [h] at hin
    · cases h' : m.cells[c.toNat]? with
      | none => simp [h, h'] at hin
      | some x => exact ⟨x, rfl, by omega⟩
  obtain ⟨k, rfl⟩ := Int.eq_ofNat_of_zero_le hc0
  obtain ⟨j, rfl⟩ := Int.eq_ofNat_of_zero_le hwd.1
  rw [Int.toNat_natCast] at hx
  obtain ⟨l, hl⟩ : ∃ l, m.waits[t]? = some l := ⟨_, List.getElem?_eq_getElem ht⟩
  have hlo : m.waitsOf t = l := by simp [M.waitsOf, List.getD, hl]
  have hgw : getWord m.cells k j = x.words.getD j 0 := by simp [getWord, hx]
  rw [hlo, Int.toNat_natCast, Int.toNat_natCast, hgw]
  have hj4 : j < x.words.length := by rw [(om.words k x hx).1]; omega
  have hl8 := om.wlen t l hl
  have hk : k < m.cells.length := (List.getElem?_eq_some_iff.1 hx).1
  have hcl := om.cells
  have hwl := om.waits
  have hsp2 := ol.sp2
  have hsp3 := ol.sp3
  have He := Lib.hid he
  have Hx := Lib.hid hx
  have Hl := Lib.hid hl
  have HR := Lib.hid R
  have Hom := Lib.hid om
  have Hol := Lib.hid ol
  have hx4 : x.words.length = 4 := (om.words k x hx).1
  have Hx4 := Lib.hid hx4
  clear he hx hl R om ol hlo hgw hin hx4
  go_enter Tryd.func71, Tryd.ntmps71
  go_wp2_with fail
  refine (at_any (HR.out.frame0 ((Mod.refl _ _).alloc _)) h1 h2 Hom.out Hol.out hN (k : Int) g (j : Int)).mono ?_
  rintro e w1 ⟨rfl, hm⟩
  rw [He.out]
  have hm1 : Mod noF w w1 := ((Mod.refl _ _).alloc _).trans0 hm
  have hr0 : w1.cell? ⟨w.heap.size, 0, none⟩ = some (.int .i64 k) := hm.cell (by simp) (fun e => e)
  have hr1 : w1.cell? ⟨w.heap.size, 1, none⟩ = some (.int .i64 g) := hm.cell (by simp) (fun e => e)
  have hs1 : w.heap.size < w1.heap.size := by have := hm.size; simp at this; omega
  have Hm1 := Lib.hid hm1
  clear hm hm1
  have R1 := HR.out.frame0 Hm1.out
  have c0 := R1.cells_at h1 Hol.out
  obtain ⟨c1, c2, c3⟩ := R1.cell_at h2 Hol.out Hx.out
  have c4 := word_at R1 h6 Hol.out Hx.out hj4
  generalize hv0 : x.words.getD j 0 = v0 at *
  have Hv0 := Lib.hid hv0
  clear R1 hv0
  go_wp2
  all_goals (try go_quiet (fail))
  go_wp2
  go_loopw [11, 12] (fun v i wr => ∃ q : Nat, q ≤ l.length ∧ i = .int .i64 q ∧ v = .int .i64 (Qs.look (l.take q) k g j v0) ∧ Mod noF w1 wr) (fun _ i _ => l.length - (intOf i).toNat)
  case atStart => exact ⟨0, by omega, rfl, rfl, (Mod.refl _ _).drewN _⟩
  case round =>
    rename_i wr
    obtain ⟨q, hq, rfl, rfl, hmr⟩ := hrel
    have Rr := HR.out.frame0 (Hm1.out.trans0 hmr)
    have d0 := Rr.waits_at h1 Hol.out
    have d1 := waits_row Rr h3 Hol.out Hl.out
    have d2 := hmr.cell hr0 (fun e => e)
    have d3 := hmr.cell hr1 (fun e => e)
    have hsr : w.heap.size < wr.heap.size := by have := hmr.size; omega
    have Hmr := Lib.hid hmr
    clear hmr
    by_cases hlt : q < l.length
    · have hd : decide ((q : Int) < (l.length : Int)) = true := by simp; omega
      obtain ⟨y, hy⟩ : ∃ y, l[q]? = some y := ⟨_, List.getElem?_eq_getElem hlt⟩
      obtain ⟨hn, hb7, g0, g1, g2, g3⟩ := wait_at Rr h7 Hol.out Hl.out hy
      rw [row_some hn] at d1
      have Hy := Lib.hid hy
      clear hy hn Rr
      have hlk := look_take (k : Int) g (j : Int) v0 Hy.out
      have Hlk := Lib.hid hlk
      clear hlk
      go_wp2
      · go_roundw
        case rel => exact ⟨q + 1, by omega, by go_num, by rw [Hlk.out, if_pos ⟨by assumption, by assumption, by rw [← beq_iff_eq]; assumption⟩], Hmr.out.alloc _⟩
        case measure => simp [intOf]; omega
      · go_roundw
        case rel => exact ⟨q + 1, by omega, by go_num, by rw [Hlk.out, if_neg (fun h => WalkArith.int_ne (a := y.w) (b := (j : Int)) (by assumption) h.2.2)], Hmr.out.alloc _⟩
        case measure => simp [intOf]; omega
      · go_roundw
        case rel => exact ⟨q + 1, by omega, by go_num, by rw [Hlk.out, if_neg (fun h => absurd h.2.1 (by assumption))], Hmr.out.alloc _⟩
        case measure => simp [intOf]; omega
      · go_roundw
        case rel => exact ⟨q + 1, by omega, by go_num, by rw [Hlk.out, if_neg (fun h => absurd h.1 (by assumption))], Hmr.out.alloc _⟩
        case measure => simp [intOf]; omega
    · have hd : decide ((q : Int) < (l.length : Int)) = false := by simp; omega
      obtain rfl : q = l.length := by omega
      have htk : l.take l.length = l := List.take_length
      rw [htk]
      have hd1 : ∃ a b c, L.row 7 t l.length = .slice a b c ∧ b = l.length := by
        unfold Lay.row
        cases h : L.nil 7 t with
        | true => exact ⟨none, 0, 0, rfl, by rw [Hol.out.n7 t l Hl.out h]; rfl⟩
        | false => exact ⟨_, _, _, rfl, rfl⟩
      obtain ⟨sa, sb, sc, e1, rfl⟩ := hd1
      rw [e1] at d1
      clear Rr e1 htk
      go_wp2
      go_ret2
      exact ⟨ret_pair (by rw [Hv0.out]), Hm1.out.trans0 Hmr.out⟩
end Go.Proofs.YtamfbfajlfbooaaDoor
end
/- (*quiescentref1.Memory).Alloc. -/
section
namespace Go.Proofs.YtamfbfajlfbooaaDoor
open Go.RowKit Qs Qh
variable {K : Nat → Bool} {w : World} {L : Lay} {m : M} {N : Int}
set_option maxHeartbeats 1000000 in
theorem alloc_any (R : Rep ty K w L m) (h1 : K 1 = true) (h2 : K 2 = true) (h6 : K 6 = true) (om : OkM N m) (ol : OkL L m) (hN : N ≤ 1000000000000) :
    Calls Tryd.prog 69 #[.pointer (some ⟨L.blk 1 0, 0, none⟩)] w fun e w' =>
      (∃ i n, allocAt m.cells 0 = some (i, n) ∧ e = .returned (.tuple #[.agg #[.int .i64 i, .int .i64 n], .int .i64 0]) ∧ Rep ty K w' (L.words i (w.heap.size + 1)) { m with cells := m.cells.set i (zeroCell (n + 1)) } ∧ Mod (fun x => x = L.blk 2 0) w w' ∧ w.heap.size + 1 < w'.heap.size) ∨
      (allocAt m.cells 0 = none ∧ e = .returned (.tuple #[.agg #[.int .i64 0, .int .i64 0], .int .i64 6]) ∧ Mod noF w w') := by
  have hb := R.lt1 h1
  have hb2 := R.lt2 h2 ol
  have hne : L.blk 1 0 ≠ L.blk 2 0 := R.ne h1 h2 rfl (by rw [obj2 ty m ol.n2]; rfl) (by omega)
  have h0 := R.cells_at h1 ol
  have hcs := fun (i : Nat) (c : Cell) (hc : m.cells[i]? = some c) => R.cell_at h2 ol hc
  have hfz := fun j => R.free h2 (obj2 ty m ol.n2) j
  have hts := om.times
  have hn := om.cells
  have hsp := ol.sp2
  have hmk : ∀ w : World, (Instr.makeSlice 23 (.int .i64 4) (.int .i64 4)).run Tryd.prog w = .ok (.slice (some ⟨w.heap.size, 0, none⟩) 4 4) (w.alloc (.cells #[.int .i64 0, .int .i64 0, .int .i64 0, .int .i64 0] 3)) := fun _ => by kernel_rfl
  have Hcs := Lib.hid hcs
  have Hts := Lib.hid hts
  have HR := Lib.hid R
  have Hom := Lib.hid om
  have Hol := Lib.hid ol
  clear hcs hts R om ol
  go_enter Tryd.func69, Tryd.ntmps69
  go_wp2
  go_loop [4] (fun i => ∃ k : Nat, k ≤ m.cells.length ∧ i = .int .i64 k ∧ ∀ (j : Nat) x, j < k → m.cells[j]? = some x → x.here = true) (fun i => m.cells.length - (intOf i).toNat)
  case atStart => exact ⟨0, by omega, rfl, fun j x hj => absurd hj (by omega)⟩
  case round =>
    obtain ⟨k, hk, rfl, hall⟩ := hrel
    have Hall := Lib.hid hall
    clear hall
    by_cases hlt : k < m.cells.length
    · have hd : decide ((k : Int) < (m.cells.length : Int)) = true := by simp; omega
      obtain ⟨c, hc⟩ : ∃ c, m.cells[k]? = some c := ⟨_, List.getElem?_eq_getElem hlt⟩
      obtain ⟨e0, e1, e2⟩ := Hcs.out k c hc
      obtain ⟨t0, t1⟩ := Hts.out k c hc
      have Hc := Lib.hid hc
      clear hc
      cases hh : c.here with
      | true =>
        rw [hh] at e2
        have Hh := Lib.hid hh
        clear hh
        go_wp2
        go_round
        case rel =>
          refine ⟨k + 1, by omega, by go_num, fun j x hj hx => ?_⟩
          by_cases e : j = k
          · subst e; rw [Hc.out] at hx; cases hx; exact Hh.out
          · exact Hall.out j x (by omega) hx
        case measure => simp [intOf]; omega
      | false =>
        rw [hh] at e2
        have Hh := Lib.hid hh
        clear hh
        have f0 := hfz (k * 3)
        have f1 := hfz (k * 3 + 1)
        have f2 := hfz (k * 3 + 2)
        clear hfz
        go_wp2
        go_region
        all_goals go_wp2
        obtain ⟨hR, hM⟩ := Rep.given_w HR.out h2 h6 Hol.out Hc.out (c.times + 1) (.cells #[.int .i64 k, .int .i64 c.times] 58)
        refine bodyPost_ret (v := .tuple #[.agg #[.int .i64 k, .int .i64 c.times], .int .i64 0]) (by simp [results, Tryd.results69, go_sem]) rfl (.inl ⟨k, c.times, ?_, rfl, hR, hM, ?_⟩)
        · have := allocAt_found m.cells 0 k c Hc.out Hh.out Hall.out
          rw [Nat.zero_add] at this; exact this
        · simp
    · have hd : decide ((k : Int) < (m.cells.length : Int)) = false := by simp; omega
      go_wp2
      refine bodyPost_ret (v := .tuple #[.agg #[.int .i64 0, .int .i64 0], .int .i64 6]) (by simp [results, Tryd.results69, go_sem]) rfl (.inr ⟨?_, rfl, (Mod.refl _ _).alloc _⟩)
      refine allocAt_none _ _ fun j x hx => Hall.out j x ?_ hx
      have := (List.getElem?_eq_some_iff.1 hx).1
      omega
end Go.Proofs.YtamfbfajlfbooaaDoor
end
/- A slice of structs that came in. -/
section
namespace Go.Proofs.YtamfbfajlfbooaaDoor
open Go.ChangeShapes Go.WideShapes Go.ChangeAt Go.RowKit Qh
/-- Such a slice, its elements k cells each. -/
def RowsAt {α : Type} (vals : α → List Value) (k : Nat) (w : World) (v : Value) (l : List α) : Prop :=
  ∃ a c, v = .slice a l.length c ∧ l.length ≤ c ∧ c ≤ maxLen ∧ (a = none → c = 0) ∧ ∀ i x, l[i]? = some x → ∃ b off, a = some ⟨b, off, none⟩ ∧ b < w.heap.size ∧ ∀ j y, (vals x)[j]? = some y → w.cell? ⟨b, off + i * k + j, none⟩ = some y
theorem RowsAt.frame {α : Type} {vals : α → List Value} {k : Nat} {w w' : World} {v : Value} {l : List α} {F : Nat → Prop} (h : RowsAt vals k w v l) (hM : Mod F w w') (hF : ∀ b, b < w.heap.size → ¬ F b) : RowsAt vals k w' v l := by
  obtain ⟨a, c, e, hl, hc, hn, hx⟩ := h
  refine ⟨a, c, e, hl, hc, hn, fun i x hi => ?_⟩
  obtain ⟨b, off, rfl, hlt, hj⟩ := hx i x hi
  exact ⟨b, off, rfl, Nat.lt_of_lt_of_le hlt hM.size, fun j y h => hM.cell (hj j y h) (hF b hlt)⟩
theorem RowsAt.frame0 {α : Type} {vals : α → List Value} {k : Nat} {w w' : World} {v : Value} {l : List α} (h : RowsAt vals k w v l) (hM : Mod noF w w') : RowsAt vals k w' v l := h.frame hM fun _ _ e => e
theorem rowsAt_of {H : Type} {enc : TypeId × Value → H} {P : Program} {W : World} {T I : TypeId} {a : Option Addr} {len cap : Nat} {d : DataW H} {p : List MemPlace} {α : Type} {vals : α → List Value} {k : Nat} {good : α → Prop} (hk : 0 < k) (hT : P.underlying T = some (.slice I)) (hC : P.cellsOf I = k)
    (hread : ∀ n cs y, DataW.trod enc P W 0 (fun _ => true) true n I cs = some y → ∃ x, cs = vals x ∧ good x)
    (h : DataW.Trod enc P W 0 (fun _ => true) true T (.slice a len cap) d p) : ∃ l : List α, RowsAt vals k W (.slice a len cap) l ∧ ∀ x ∈ l, good x := by
  obtain ⟨fuel, hf⟩ := h
  rcases Go.Deep.open_slice hT hf with ⟨hcs, _⟩ | ⟨A, l, c, m, n, D, Pl, hcs, _, hl, hm, hmm, _, hel⟩
  · simp [Value.cells] at hcs
    obtain ⟨rfl, rfl, rfl⟩ := hcs
    exact ⟨[], ⟨none, 0, rfl, by simp, by simp, fun _ => rfl, fun i x h => by simp at h⟩, fun x h => by simp at h⟩
  · simp [Value.cells] at hcs
    obtain ⟨rfl, rfl, rfl⟩ := hcs
    have hx : ∀ i, i < len → ∃ x, good x ∧ (vals x).length = k ∧ ∀ j, j < k → W.cell? (A.add (i * k + j)) = (vals x)[j]? := fun i hi => by
      obtain ⟨cs', hc, ht⟩ := hel i (by rw [hmm]; simp; omega)
      obtain ⟨x, rfl, hg⟩ := hread _ _ _ ht
      obtain ⟨_, hlen, hat⟩ := World.cells?_some hc
      rw [hC] at hat hlen
      exact ⟨x, hg, hlen, fun j hj => by rw [← hat j hj, Go.Deep.add_add]⟩
    refine ⟨List.ofFn fun (i : Fin len) => Classical.choose (hx i.1 i.2), ⟨some A, cap, by simp, by simpa using hl, hm, fun e => by simp at e, fun i x hi => ?_⟩, fun x hx' => ?_⟩
    · obtain ⟨h1, h2⟩ := List.getElem?_eq_some_iff.1 hi
      have hi' : i < len := by simpa using h1
      simp only [List.getElem_ofFn] at h2
      obtain ⟨_, hlen, hat⟩ := Classical.choose_spec (hx i hi')
      rw [h2] at hlen hat
      obtain ⟨_, hlen0, hat0⟩ := Classical.choose_spec (hx 0 (by omega))
      have h00 := hat0 0 hk
      rw [List.getElem?_eq_getElem (by omega)] at h00
      obtain ⟨b, off, spot⟩ := A
      have hspot : spot = none := by simpa [Addr.add] using World.cell?_spot h00
      subst hspot
      refine ⟨b, off, rfl, by simpa [Addr.add] using World.block_lt_of_cell? _ _ h00, fun j y hj => ?_⟩
      have hjk : j < k := by rw [← hlen]; exact (List.getElem?_eq_some_iff.1 hj).1
      have := hat j hjk
      rw [Go.WideShapes.add_plain] at this
      rw [Nat.add_assoc, this, hj]
    · obtain ⟨i, rfl⟩ := (List.mem_ofFn).1 hx'
      exact (Classical.choose_spec (hx i.1 i.2)).1
theorem len5 {l : List Value} (h : l.length = 5) : ∃ c0 c1 c2 c3 c4 : Value, l = [c0, c1, c2, c3, c4] := by
  match l, h with
  | [c0, c1, c2, c3, c4], _ => exact ⟨c0, c1, c2, c3, c4, rfl⟩
theorem len7 {l : List Value} (h : l.length = 7) : ∃ c0 c1 c2 c3 c4 c5 c6 : Value, l = [c0, c1, c2, c3, c4, c5, c6] := by
  match l, h with
  | [c0, c1, c2, c3, c4, c5, c6], _ => exact ⟨c0, c1, c2, c3, c4, c5, c6, rfl⟩
structure RIns where
  op : ByteArray
  A : Int
  B : Int
  C : Int
  to : ByteArray
def RIns.vals (x : RIns) : List Value := [.string x.op, .int .i64 x.A, .int .i64 x.B, .int .i64 x.C, .string x.to]
structure RIns.Ok (x : RIns) : Prop where
  op : x.op.size ≤ maxLen
  A : (Lit.int .i64 x.A).wf = true
  B : (Lit.int .i64 x.B).wf = true
  C : (Lit.int .i64 x.C).wf = true
  to : x.to.size ≤ maxLen
def IsIns (w : World) (a : Option Addr) (len cap : Nat) (z : List RIns) : Prop := RowsAt RIns.vals 5 w (.slice a len cap) z ∧ ∀ x ∈ z, x.Ok
theorem Ins_read {H : Type} {enc : TypeId × Value → H} {W : World} (n : Nat) (cs : List Value) (y : DataW H × List MemPlace) (h : DataW.trod enc Tryd.prog W 0 (fun _ => true) true n 124 cs = some y) : ∃ x : RIns, cs = x.vals ∧ x.Ok := by
  obtain ⟨xs, n', rfl, _, hlen, hxl, hf⟩ := DataW.trod_struct Tryd.underlying124 h
  rw [show Tryd.prog.cellsOf 124 = 5 by kernel_rfl] at hlen
  have k1 : Tryd.prog.cellsOf 3 = 1 := by kernel_rfl
  have k9 : Tryd.prog.cellsOf 9 = 1 := by kernel_rfl
  have k2 : Tryd.prog.cellsOf 58 = 2 := by kernel_rfl
  obtain ⟨c0, c1, c2, c3, c4, rfl⟩ := len5 hlen
  have h0 := hf 0 ⟨"Op", 9, 0, false, "", "", 0⟩ rfl
  rw [List.getElem?_eq_getElem (show 0 < xs.length by rw [hxl]; decide)] at h0
  obtain ⟨s0, e0, _, o0⟩ := DataW.trod_string Tryd.underlying9 h0
  simp only [k9, List.drop_succ_cons, List.drop_zero, List.take_succ_cons, List.take_zero, List.cons.injEq, and_true] at e0
  subst e0
  have h1 := hf 1 ⟨"A", 3, 1, false, "", "", 16⟩ rfl
  rw [List.getElem?_eq_getElem (show 1 < xs.length by rw [hxl]; decide)] at h1
  obtain ⟨s1, e1, _, o1⟩ := DataW.trod_int Tryd.underlying3 h1
  simp only [k1, List.drop_succ_cons, List.drop_zero, List.take_succ_cons, List.take_zero, List.cons.injEq, and_true] at e1
  subst e1
  have h2 := hf 2 ⟨"B", 3, 2, false, "", "", 24⟩ rfl
  rw [List.getElem?_eq_getElem (show 2 < xs.length by rw [hxl]; decide)] at h2
  obtain ⟨s2, e2, _, o2⟩ := DataW.trod_int Tryd.underlying3 h2
  simp only [k1, List.drop_succ_cons, List.drop_zero, List.take_succ_cons, List.take_zero, List.cons.injEq, and_true] at e2
  subst e2
  have h3 := hf 3 ⟨"C", 3, 3, false, "", "", 32⟩ rfl
  rw [List.getElem?_eq_getElem (show 3 < xs.length by rw [hxl]; decide)] at h3
  obtain ⟨s3, e3, _, o3⟩ := DataW.trod_int Tryd.underlying3 h3
  simp only [k1, List.drop_succ_cons, List.drop_zero, List.take_succ_cons, List.take_zero, List.cons.injEq, and_true] at e3
  subst e3
  have h4 := hf 4 ⟨"To", 9, 4, false, "", "", 40⟩ rfl
  rw [List.getElem?_eq_getElem (show 4 < xs.length by rw [hxl]; decide)] at h4
  obtain ⟨s4, e4, _, o4⟩ := DataW.trod_string Tryd.underlying9 h4
  simp only [k9, List.drop_succ_cons, List.drop_zero, List.take_succ_cons, List.take_zero, List.cons.injEq, and_true] at e4
  subst e4
  exact ⟨⟨s0, s1, s2, s3, s4⟩, rfl, ⟨o0, o1, o2, o3, o4⟩⟩
theorem isIns_of {H : Type} {enc : TypeId × Value → H} {W : World} {a : Option Addr} {len cap : Nat} {d : DataW H} {p : List MemPlace} (h : DataW.Trod enc Tryd.prog W 0 (fun _ => true) true 28 (.slice a len cap) d p) : ∃ z, IsIns W a len cap z :=
  rowsAt_of (by decide) Tryd.underlying28 (by kernel_rfl) Ins_read h
structure CAct where
  kind : ByteArray
  cell : Int
  gen : Int
  W : Int
  V : Int
def CAct.vals (x : CAct) : List Value := [.string x.kind, .int .i64 x.cell, .int .i64 x.gen, .int .i64 x.W, .int .i64 x.V]
structure CAct.Ok (x : CAct) : Prop where
  kind : x.kind.size ≤ maxLen
  cell : (Lit.int .i64 x.cell).wf = true
  gen : (Lit.int .i64 x.gen).wf = true
  W : (Lit.int .i64 x.W).wf = true
  V : (Lit.int .i64 x.V).wf = true
def IsCAct (w : World) (a : Option Addr) (len cap : Nat) (z : List CAct) : Prop := RowsAt CAct.vals 5 w (.slice a len cap) z ∧ ∀ x ∈ z, x.Ok
theorem CAct_read {H : Type} {enc : TypeId × Value → H} {W : World} (n : Nat) (cs : List Value) (y : DataW H × List MemPlace) (h : DataW.trod enc Tryd.prog W 0 (fun _ => true) true n 117 cs = some y) : ∃ x : CAct, cs = x.vals ∧ x.Ok := by
  obtain ⟨xs, n', rfl, _, hlen, hxl, hf⟩ := DataW.trod_struct Tryd.underlying117 h
  rw [show Tryd.prog.cellsOf 117 = 5 by kernel_rfl] at hlen
  have k1 : Tryd.prog.cellsOf 3 = 1 := by kernel_rfl
  have k9 : Tryd.prog.cellsOf 9 = 1 := by kernel_rfl
  have k2 : Tryd.prog.cellsOf 58 = 2 := by kernel_rfl
  obtain ⟨c0, c1, c2, c3, c4, rfl⟩ := len5 hlen
  have h0 := hf 0 ⟨"Kind", 9, 0, false, "", "", 0⟩ rfl
  rw [List.getElem?_eq_getElem (show 0 < xs.length by rw [hxl]; decide)] at h0
  obtain ⟨s0, e0, _, o0⟩ := DataW.trod_string Tryd.underlying9 h0
  simp only [k9, List.drop_succ_cons, List.drop_zero, List.take_succ_cons, List.take_zero, List.cons.injEq, and_true] at e0
  subst e0
  have h1 := hf 1 ⟨"R", 58, 1, false, "", "", 16⟩ rfl
  rw [List.getElem?_eq_getElem (show 1 < xs.length by rw [hxl]; decide)] at h1
  obtain ⟨ys, m', _, _, hyl, hyx, hg⟩ := DataW.trod_struct Tryd.underlying58 h1
  have g0 := hg 0 ⟨"Cell", 3, 0, false, "", "", 0⟩ rfl
  rw [List.getElem?_eq_getElem (show 0 < ys.length by rw [hyx]; decide)] at g0
  obtain ⟨s1, e1, _, o1⟩ := DataW.trod_int Tryd.underlying3 g0
  simp only [k1, k2, List.drop_succ_cons, List.drop_zero, List.take_succ_cons, List.take_zero, List.cons.injEq, and_true] at e1
  subst e1
  have g1 := hg 1 ⟨"Gen", 3, 1, false, "", "", 8⟩ rfl
  rw [List.getElem?_eq_getElem (show 1 < ys.length by rw [hyx]; decide)] at g1
  obtain ⟨s2, e2, _, o2⟩ := DataW.trod_int Tryd.underlying3 g1
  simp only [k1, k2, List.drop_succ_cons, List.drop_zero, List.take_succ_cons, List.take_zero, List.cons.injEq, and_true] at e2
  subst e2
  have h2 := hf 2 ⟨"W", 3, 3, false, "", "", 32⟩ rfl
  rw [List.getElem?_eq_getElem (show 2 < xs.length by rw [hxl]; decide)] at h2
  obtain ⟨s3, e3, _, o3⟩ := DataW.trod_int Tryd.underlying3 h2
  simp only [k1, List.drop_succ_cons, List.drop_zero, List.take_succ_cons, List.take_zero, List.cons.injEq, and_true] at e3
  subst e3
  have h3 := hf 3 ⟨"V", 3, 4, false, "", "", 40⟩ rfl
  rw [List.getElem?_eq_getElem (show 3 < xs.length by rw [hxl]; decide)] at h3
  obtain ⟨s4, e4, _, o4⟩ := DataW.trod_int Tryd.underlying3 h3
  simp only [k1, List.drop_succ_cons, List.drop_zero, List.take_succ_cons, List.take_zero, List.cons.injEq, and_true] at e4
  subst e4
  exact ⟨⟨s0, s1, s2, s3, s4⟩, rfl, ⟨o0, o1, o2, o3, o4⟩⟩
theorem isCAct_of {H : Type} {enc : TypeId × Value → H} {W : World} {a : Option Addr} {len cap : Nat} {d : DataW H} {p : List MemPlace} (h : DataW.Trod enc Tryd.prog W 0 (fun _ => true) true 114 (.slice a len cap) d p) : ∃ z, IsCAct W a len cap z :=
  rowsAt_of (by decide) Tryd.underlying114 (by kernel_rfl) CAct_read h
structure MAct where
  kind : ByteArray
  T : Int
  cell : Int
  gen : Int
  W : Int
  V : Int
  Old : Int
def MAct.vals (x : MAct) : List Value := [.string x.kind, .int .i64 x.T, .int .i64 x.cell, .int .i64 x.gen, .int .i64 x.W, .int .i64 x.V, .int .i64 x.Old]
structure MAct.Ok (x : MAct) : Prop where
  kind : x.kind.size ≤ maxLen
  T : (Lit.int .i64 x.T).wf = true
  cell : (Lit.int .i64 x.cell).wf = true
  gen : (Lit.int .i64 x.gen).wf = true
  W : (Lit.int .i64 x.W).wf = true
  V : (Lit.int .i64 x.V).wf = true
  Old : (Lit.int .i64 x.Old).wf = true
def IsMAct (w : World) (a : Option Addr) (len cap : Nat) (z : List MAct) : Prop := RowsAt MAct.vals 7 w (.slice a len cap) z ∧ ∀ x ∈ z, x.Ok
theorem MAct_read {H : Type} {enc : TypeId × Value → H} {W : World} (n : Nat) (cs : List Value) (y : DataW H × List MemPlace) (h : DataW.trod enc Tryd.prog W 0 (fun _ => true) true n 63 cs = some y) : ∃ x : MAct, cs = x.vals ∧ x.Ok := by
  obtain ⟨xs, n', rfl, _, hlen, hxl, hf⟩ := DataW.trod_struct Tryd.underlying63 h
  rw [show Tryd.prog.cellsOf 63 = 7 by kernel_rfl] at hlen
  have k1 : Tryd.prog.cellsOf 3 = 1 := by kernel_rfl
  have k9 : Tryd.prog.cellsOf 9 = 1 := by kernel_rfl
  have k2 : Tryd.prog.cellsOf 58 = 2 := by kernel_rfl
  obtain ⟨c0, c1, c2, c3, c4, c5, c6, rfl⟩ := len7 hlen
  have h0 := hf 0 ⟨"Kind", 9, 0, false, "", "", 0⟩ rfl
  rw [List.getElem?_eq_getElem (show 0 < xs.length by rw [hxl]; decide)] at h0
  obtain ⟨s0, e0, _, o0⟩ := DataW.trod_string Tryd.underlying9 h0
  simp only [k9, List.drop_succ_cons, List.drop_zero, List.take_succ_cons, List.take_zero, List.cons.injEq, and_true] at e0
  subst e0
  have h1 := hf 1 ⟨"T", 3, 1, false, "", "", 16⟩ rfl
  rw [List.getElem?_eq_getElem (show 1 < xs.length by rw [hxl]; decide)] at h1
  obtain ⟨s1, e1, _, o1⟩ := DataW.trod_int Tryd.underlying3 h1
  simp only [k1, List.drop_succ_cons, List.drop_zero, List.take_succ_cons, List.take_zero, List.cons.injEq, and_true] at e1
  subst e1
  have h2 := hf 2 ⟨"R", 58, 2, false, "", "", 24⟩ rfl
  rw [List.getElem?_eq_getElem (show 2 < xs.length by rw [hxl]; decide)] at h2
  obtain ⟨ys, m', _, _, hyl, hyx, hg⟩ := DataW.trod_struct Tryd.underlying58 h2
  have g0 := hg 0 ⟨"Cell", 3, 0, false, "", "", 0⟩ rfl
  rw [List.getElem?_eq_getElem (show 0 < ys.length by rw [hyx]; decide)] at g0
  obtain ⟨s2, e2, _, o2⟩ := DataW.trod_int Tryd.underlying3 g0
  simp only [k1, k2, List.drop_succ_cons, List.drop_zero, List.take_succ_cons, List.take_zero, List.cons.injEq, and_true] at e2
  subst e2
  have g1 := hg 1 ⟨"Gen", 3, 1, false, "", "", 8⟩ rfl
  rw [List.getElem?_eq_getElem (show 1 < ys.length by rw [hyx]; decide)] at g1
  obtain ⟨s3, e3, _, o3⟩ := DataW.trod_int Tryd.underlying3 g1
  simp only [k1, k2, List.drop_succ_cons, List.drop_zero, List.take_succ_cons, List.take_zero, List.cons.injEq, and_true] at e3
  subst e3
  have h3 := hf 3 ⟨"W", 3, 4, false, "", "", 40⟩ rfl
  rw [List.getElem?_eq_getElem (show 3 < xs.length by rw [hxl]; decide)] at h3
  obtain ⟨s4, e4, _, o4⟩ := DataW.trod_int Tryd.underlying3 h3
  simp only [k1, List.drop_succ_cons, List.drop_zero, List.take_succ_cons, List.take_zero, List.cons.injEq, and_true] at e4
  subst e4
  have h4 := hf 4 ⟨"V", 3, 5, false, "", "", 48⟩ rfl
  rw [List.getElem?_eq_getElem (show 4 < xs.length by rw [hxl]; decide)] at h4
  obtain ⟨s5, e5, _, o5⟩ := DataW.trod_int Tryd.underlying3 h4
  simp only [k1, List.drop_succ_cons, List.drop_zero, List.take_succ_cons, List.take_zero, List.cons.injEq, and_true] at e5
  subst e5
  have h5 := hf 5 ⟨"Old", 3, 6, false, "", "", 56⟩ rfl
  rw [List.getElem?_eq_getElem (show 5 < xs.length by rw [hxl]; decide)] at h5
  obtain ⟨s6, e6, _, o6⟩ := DataW.trod_int Tryd.underlying3 h5
  simp only [k1, List.drop_succ_cons, List.drop_zero, List.take_succ_cons, List.take_zero, List.cons.injEq, and_true] at e6
  subst e6
  exact ⟨⟨s0, s1, s2, s3, s4, s5, s6⟩, rfl, ⟨o0, o1, o2, o3, o4, o5, o6⟩⟩
theorem isMAct_of {H : Type} {enc : TypeId × Value → H} {W : World} {a : Option Addr} {len cap : Nat} {d : DataW H} {p : List MemPlace} (h : DataW.Trod enc Tryd.prog W 0 (fun _ => true) true 51 (.slice a len cap) d p) : ∃ z, IsMAct W a len cap z :=
  rowsAt_of (by decide) Tryd.underlying51 (by kernel_rfl) MAct_read h
end Go.Proofs.YtamfbfajlfbooaaDoor
end
/- quiescentref1.LabelAt. -/
section
namespace Go.Proofs.YtamfbfajlfbooaaDoor
open Go.RowKit Qs Qh
variable {w : World} {L : Lay} {m : M} {N : Int}
def labE (to : List UInt8) (l : List Instr) : Int := match labelAt to l 0 with | some i => (i : Int) | none => -1
theorem drop_at {l : List Instr} {q : Nat} {x : Instr} (h : l[q]? = some x) : l.drop q = x :: l.drop (q + 1) := by
  obtain ⟨hl, rfl⟩ := List.getElem?_eq_some_iff.1 h
  exact List.drop_eq_getElem_cons hl
set_option maxHeartbeats 1000000 in
theorem labelAt_any (a : Option Addr) (c : Nat) (l : List Instr) (to : List UInt8) (w : World) (hl : l.length ≤ 1000000)
    (hx : ∀ (i : Nat) x, l[i]? = some x → ∃ b off, a = some ⟨b, off, none⟩ ∧ b < w.heap.size ∧ ∀ j y, (instrVals x)[j]? = some y → w.cell? ⟨b, off + i * 5 + j, none⟩ = some y) :
    Calls Tryd.prog 127 #[.slice a l.length c, sv to] w fun e w' => e = .returned (.int .i64 (labE to l)) ∧ w = w' := by
  have Hx := Lib.hid hx
  clear hx
  generalize hto : (⟨to.toArray⟩ : ByteArray) = tb
  have Hto := Lib.hid hto
  unfold sv
  rw [hto]
  clear hto
  go_enter Tryd.func127, Tryd.ntmps127
  go_wp2
  go_loopg [5] l.length (fun k i wr => wr = w ∧ ∃ q : Nat, q + k = l.length ∧ i = .int .i64 q ∧ labelAt to l 0 = labelAt to (l.drop q) q)
  case atStart => exact ⟨rfl, 0, by omega, rfl, rfl⟩
  case round =>
    obtain ⟨rfl, q, hq, rfl, hla⟩ := hrel
    have Hla := Lib.hid hla
    clear hla
    by_cases hlt : q < l.length
    · have hd : decide ((q : Int) < (l.length : Int)) = true := by simp; omega
      obtain ⟨x, hxq⟩ : ∃ x, l[q]? = some x := ⟨_, List.getElem?_eq_getElem hlt⟩
      obtain ⟨b, off, rfl, hb, hc⟩ := Hx.out q x hxq
      have c0 := hc 0 _ rfl
      have c4 := hc 4 _ rfl
      simp only [Nat.add_zero, sv] at c0 c4
      generalize hs : opStr x.op = s at *
      generalize hd4 : (⟨x.to.toArray⟩ : ByteArray) = d at *
      have Hs := Lib.hid hs
      have Hd4 := Lib.hid hd4
      have Hxq := Lib.hid hxq
      clear hs hd4 hxq hc
      go_wp2
      · go_ret
        have h1 : x.op = 17 := (opStr_label x.op).1 (by rw [Hs.out]; assumption)
        have h2 : x.to = to := by
          have h : (d.toList == tb.toList) = true := by assumption
          rw [← Hd4.out, ← Hto.out, bytes_list, bytes_list] at h
          exact beq_iff_eq.1 h
        refine ⟨ret_int ?_, rfl⟩
        unfold labE
        rw [Hla.out, drop_at Hxq.out]
        simp [labelAt, h1, h2]
      · go_roundg (l.length - (q + 1))
        case measure => omega
        case rel =>
          refine ⟨rfl, q + 1, by omega, by go_num, ?_⟩
          have h2 : ¬ x.to = to := by
            have h : (d.toList == tb.toList) = false := by assumption
            rw [← Hd4.out, ← Hto.out, bytes_list, bytes_list] at h
            exact fun e => by rw [e] at h; simp at h
          rw [Hla.out, drop_at Hxq.out]
          simp [labelAt, h2]
      · go_roundg (l.length - (q + 1))
        case measure => omega
        case rel =>
          refine ⟨rfl, q + 1, by omega, by go_num, ?_⟩
          have h1 : ¬ x.op = 17 := fun e => by
            have h : ¬ s.toList = [108, 97, 98, 101, 108] := by assumption
            exact h (by rw [← Hs.out]; exact (opStr_label x.op).2 e)
          rw [Hla.out, drop_at Hxq.out]
          simp [labelAt, h1]
    · have hd : decide ((q : Int) < (l.length : Int)) = false := by simp; omega
      go_wp2
      go_ret
      refine ⟨ret_int ?_, rfl⟩
      unfold labE
      rw [Hla.out, List.drop_eq_nil_of_le (by omega)]
      rfl
end Go.Proofs.YtamfbfajlfbooaaDoor
end
