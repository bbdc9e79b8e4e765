/- arena.New, Alloc, Count, Right. -/
import Derived.Test.YtamfbfajlfbooaaDoorRm4
import Derived.Test.YtamfbfajlfbooaaDoorRm2
import Derived.Test.YtamfbfajlfbooaaDoorRm3
import Derived.Deep.QuietTactic
import Derived.BigQuiet
import Derived.BigRegion
import Derived.Outline
set_option linter.unusedVariables false
set_option linter.unusedSimpArgs false
set_option linter.unusedSectionVars false
namespace Go.Proofs.YtamfbfajlfbooaaDoor
open Go.RowKit Qs Qh
theorem acellInfo : (Tryd.prog.info? 174).map (fun i => (i.zero, i.size, i.bytes)) = some (some (.agg #[.int .i64 0, .int .i64 0, .int .i64 0, .int .i64 0, .int .i64 0, .bool false]), 6, 48) := by kernel_rfl
/-- An arena at b, its cells at g. -/
abbrev AAt (w : World) (b g : Nat) (l : List Cell) : Prop := ArenaAt 170 174 w b g l
theorem make_arena (n : Nat) (hn : n ≤ 64) (w : World) : (Instr.makeSlice 168 (.int .i64 n) (.int .i64 n)).run Tryd.prog w = .ok (.slice (some ⟨w.heap.size, 0, none⟩) n n) (w.alloc (.cells (flat acell 0 (List.replicate n freshCell)).toArray 174)) := by
  obtain ⟨i, hi, hz0, hz1, hz2⟩ := info_parts acellInfo
  have := run_makeSlice (P := Tryd.prog) w 168 174 i _ Tryd.underlying168 hi hz0 .i64 .i64 n n (by omega) (by omega) (by rw [hz1]; simp; omega) (by rw [hz2]; omega) (by omega)
  rw [this, hz1]
  have e : (madeCells (Value.agg #[.int .i64 0, .int .i64 0, .int .i64 0, .int .i64 0, .int .i64 0, .bool false]).cells (n * 6)) = (flat acell 0 (List.replicate n freshCell)).toArray := by
    rw [← fresh_flat n]; simp [Value.cells]
  simp only [Int.toNat_natCast]
  rw [e]
theorem arenaNew_ok (n : Nat) (h1 : 1 ≤ n) (hn : n ≤ 64) (w : World) :
    Calls Tryd.prog 62 #[.int .i64 n] w fun e w' => e = .returned (.tuple #[.pointer (some ⟨w.heap.size + 1, 0, none⟩), .nilIface]) ∧ AAt w' (w.heap.size + 1) w.heap.size (List.replicate n freshCell) ∧ Mod noF w w' := by
  have d0 : decide ((n : Int) < 1) = false := by simp; omega
  have d1 : decide ((64 : Int) < (n : Int)) = false := by simp; omega
  have hmk := make_arena n hn
  go_enter Tryd.func62, Tryd.ntmps62
  go_wp2
  go_ret2
  refine ⟨rfl, ⟨?_, ?_, by omega⟩, ((Mod.refl _ _).alloc _).alloc _⟩
  · have := heap_alloc_new (w.alloc (.cells (flat acell 0 (List.replicate n freshCell)).toArray 174)) (.cells #[.slice (some ⟨w.heap.size, 0, none⟩) n n] 170)
    simpa using this
  · exact (Below.heap_alloc (w.alloc _) _ _ (lt_of_block (heap_alloc_new w _))).trans (heap_alloc_new w _)
theorem arenaNew_bad (n : Int) (h : n < 1 ∨ 64 < n) (w : World) (a : Nat → Addr) (E : Errs4 w a) :
    Calls Tryd.prog 62 #[.int .i64 n] w fun e w' => e = .returned (.tuple #[.pointer none, errV a 1]) ∧ Mod noF w w' := by
  have hv := E.var 1 (by omega)
  by_cases h1 : n < 1
  · have d0 : decide (n < 1) = true := by simpa using h1
    go_enter Tryd.func62, Tryd.ntmps62
    go_wp2
    go_quiet (fail)
    go_wp2
    go_ret2
    exact ⟨rfl, (Mod.refl _ _).drewN _⟩
  · have d0 : decide (n < 1) = false := by simpa using h1
    have d1 : decide (64 < n) = true := by simp; omega
    go_enter Tryd.func62, Tryd.ntmps62
    go_wp2
    go_quiet (fail)
    go_wp2
    go_ret2
    exact ⟨rfl, (Mod.refl _ _).drewN _⟩
theorem right_any (n : Int) (w : World) : Calls Tryd.prog 93 #[.int .i64 n] w fun e w' => e = .returned (.bool (isWord n)) ∧ w = w' := by
  by_cases h0 : 0 ≤ n
  · by_cases h1 : n < 4294967296
    · have e : isWord n = true := by simp [isWord, W32, h0, h1]
      have d0 : decide (0 ≤ n) = true := by simpa using h0
      have d1 : decide (n ≤ 4294967295) = true := by simp; omega
      rw [e]
      go_enter Tryd.func93, Tryd.ntmps93
      go_wp2
      go_ret
      exact ⟨rfl, rfl⟩
    · have e : isWord n = false := by simp [isWord, W32, h1]
      have d0 : decide (0 ≤ n) = true := by simpa using h0
      have d1 : decide (n ≤ 4294967295) = false := by simp; omega
      rw [e]
      go_enter Tryd.func93, Tryd.ntmps93
      go_wp2
      go_ret
      exact ⟨rfl, rfl⟩
  · have e : isWord n = false := by simp [isWord, h0]
    have d0 : decide (0 ≤ n) = false := by simpa using h0
    rw [e]
    go_enter Tryd.func93, Tryd.ntmps93
    go_wp2
    go_ret
    exact ⟨rfl, rfl⟩
set_option maxHeartbeats 1000000 in
theorem arenaAlloc {w : World} {b g : Nat} {l : List Cell} {a : Nat → Addr} (R : AAt w b g l) (E : Errs4 w a) (hn : l.length ≤ 64) (ht : ∀ (i : Nat) c, l[i]? = some c → 0 ≤ c.times ∧ c.times ≤ 1000000000) :
    Calls Tryd.prog 63 #[.pointer (some ⟨b, 0, none⟩)] w fun e w' =>
      (∃ i c, allocAt l 0 = some (i, c.times) ∧ l[i]? = some c ∧ e = .returned (.tuple #[.agg #[.int .i64 i, .int .i64 c.times], .nilIface]) ∧ AAt w' b g (l.set i (givenCell c)) ∧ Mod (fun x => x = g) w w') ∨
      (allocAt l 0 = none ∧ e = .returned (.tuple #[.agg #[.int .i64 0, .int .i64 0], errV a 5]) ∧ Mod noF w w') := by
  have h0 := R.slice
  obtain ⟨hb, hg⟩ := R.lt
  have hfz := R.free
  have HR := Lib.hid R
  have HE := Lib.hid E
  have Ht := Lib.hid ht
  clear R E ht
  go_enter Tryd.func63, Tryd.ntmps63
  go_wp2
  go_loop [4, 5, 11] (fun _ _ i => ∃ k : Nat, k ≤ l.length ∧ i = .int .i64 k ∧ ∀ (j : Nat) x, j < k → l[j]? = some x → x.here = true) (fun _ _ i => l.length - (intOf i).toNat)
  case atStart => exact ⟨0, by omega, rfl, fun j x hj => absurd hj (by omega)⟩
  case round =>
    obtain ⟨k, hk, rfl, hall⟩ := hrel
    have Hall := Lib.hid hall
    clear hall
    by_cases hlt : k < l.length
    · have hd : decide ((k : Int) < (l.length : Int)) = true := by simp; omega
      obtain ⟨c, hc⟩ : ∃ c, l[k]? = some c := ⟨_, List.getElem?_eq_getElem hlt⟩
      have c0 : w.cell? ⟨g, k * 6, none⟩ = some (.int .i64 (c.words.getD 0 0)) := (HR.out.cell hc (j := 0) (by omega)).trans rfl
      have c1 : w.cell? ⟨g, k * 6 + 1, none⟩ = some (.int .i64 (c.words.getD 1 0)) := (HR.out.cell hc (j := 1) (by omega)).trans rfl
      have c2 : w.cell? ⟨g, k * 6 + 2, none⟩ = some (.int .i64 (c.words.getD 2 0)) := (HR.out.cell hc (j := 2) (by omega)).trans rfl
      have c3 : w.cell? ⟨g, k * 6 + 3, none⟩ = some (.int .i64 (c.words.getD 3 0)) := (HR.out.cell hc (j := 3) (by omega)).trans rfl
      have c4 : w.cell? ⟨g, k * 6 + 4, none⟩ = some (.int .i64 c.times) := (HR.out.cell hc (j := 4) (by omega)).trans rfl
      have c5 : w.cell? ⟨g, k * 6 + 5, none⟩ = some (.bool c.here) := (HR.out.cell hc (j := 5) (by omega)).trans rfl
      obtain ⟨t0, t1⟩ := Ht.out k c hc
      have Hc := Lib.hid hc
      clear hc
      cases hh : c.here with
      | true =>
        rw [hh] at c5
        have Hh := Lib.hid hh
        clear hh
        go_wp2
        go_round
        case rel =>
          refine ⟨k + 1, by omega, by go_num, fun j x hj hx => ?_⟩
          by_cases e : j = k
          · subst e; rw [Hc.out] at hx; cases hx; exact Hh.out
          · exact Hall.out j x (by omega) hx
        case measure => simp [intOf]; omega
      | false =>
        rw [hh] at c5
        have Hh := Lib.hid hh
        clear hh
        have f0 := hfz (k * 6)
        have f1 := hfz (k * 6 + 1)
        have f2 := hfz (k * 6 + 2)
        have f3 := hfz (k * 6 + 3)
        have f4 := hfz (k * 6 + 4)
        have f5 := hfz (k * 6 + 5)
        clear hfz
        generalize c.words.getD 0 0 = y0 at c0
        generalize c.words.getD 1 0 = y1 at c1
        generalize c.words.getD 2 0 = y2 at c2
        generalize c.words.getD 3 0 = y3 at c3
        go_wp2
        refine bodyPost_ret (v := .tuple #[.agg #[.int .i64 k, .int .i64 c.times], .nilIface]) (by simp [results, Tryd.results63, go_sem]) rfl (.inl ⟨k, c, ?_, Hc.out, rfl, (HR.out.given Hc.out).keep0 ((Mod.refl _ _).alloc _), ?_⟩)
        · have := allocAt_found l 0 k c Hc.out Hh.out Hall.out
          rw [Nat.zero_add] at this; exact this
        · exact (((((((Mod.refl (fun x => x = g) w).setCell (fun _ => rfl) _).setCell (fun _ => rfl) _).setCell (fun _ => rfl) _).setCell (fun _ => rfl) _).setCell (fun _ => rfl) _).setCell (fun _ => rfl) _).alloc _
    · have hd : decide ((k : Int) < (l.length : Int)) = false := by simp; omega
      have hv := (HE.out.keep ((Mod.refl noF w).alloc (.cells #[.int .i64 0, .int .i64 0] 58))).var 5 (by omega)
      go_wp2
      go_region
      all_goals go_wp2
      refine bodyPost_ret (v := .tuple #[.agg #[.int .i64 0, .int .i64 0], errV a 5]) (by simp [results, Tryd.results63, go_sem, errV]) rfl (.inr ⟨?_, rfl, ((Mod.refl _ _).alloc _).drew⟩)
      refine allocAt_none _ _ fun j x hx => Hall.out j x ?_ hx
      have := (List.getElem?_eq_some_iff.1 hx).1
      omega
def countL (l : List Cell) : Int := ((l.filter (·.here)).length : Int)
theorem countL_snoc (l : List Cell) (c : Cell) : countL (l ++ [c]) = countL l + (if c.here then 1 else 0) := by
  unfold countL
  rw [List.filter_append]
  cases h : c.here <;> simp [h]
theorem countL_le (l : List Cell) : 0 ≤ countL l ∧ countL l ≤ l.length := by
  unfold countL
  have := List.length_filter_le (fun c : Cell => c.here) l
  omega
theorem arenaCount {w : World} {b g : Nat} {l : List Cell} (R : AAt w b g l) (hn : l.length ≤ 64) :
    Calls Tryd.prog 67 #[.pointer (some ⟨b, 0, none⟩)] w fun e w' => e = .returned (.int .i64 (countL l)) ∧ Mod noF w w' := by
  have h0 := R.slice
  have HR := Lib.hid R
  clear R
  go_enter Tryd.func67, Tryd.ntmps67
  go_wp2
  go_loopw [3, 5, 11] (fun v _ i wr => ∃ k : Nat, k ≤ l.length ∧ i = .int .i64 k ∧ v = .int .i64 (countL (l.take k)) ∧ Mod noF w wr) (fun _ _ i _ => l.length - (intOf i).toNat)
  case atStart => exact ⟨0, by omega, rfl, rfl, Mod.refl _ _⟩
  case round =>
    obtain ⟨k, hk, rfl, rfl, hM⟩ := hrel
    have hb := countL_le (l.take k)
    have hbl : (l.take k).length ≤ k := List.length_take_le _ _
    have hM' := Lib.hid hM
    have Rr := HR.out.keep0 hM
    by_cases hlt : k < l.length
    · have hd : decide ((k : Int) < (l.length : Int)) = true := by simp; omega
      obtain ⟨c, hc⟩ : ∃ c, l[k]? = some c := ⟨_, List.getElem?_eq_getElem hlt⟩
      have c0 : wr.cell? ⟨g, k * 6, none⟩ = some (.int .i64 (c.words.getD 0 0)) := (Rr.cell hc (j := 0) (by omega)).trans rfl
      have c1 : wr.cell? ⟨g, k * 6 + 1, none⟩ = some (.int .i64 (c.words.getD 1 0)) := (Rr.cell hc (j := 1) (by omega)).trans rfl
      have c2 : wr.cell? ⟨g, k * 6 + 2, none⟩ = some (.int .i64 (c.words.getD 2 0)) := (Rr.cell hc (j := 2) (by omega)).trans rfl
      have c3 : wr.cell? ⟨g, k * 6 + 3, none⟩ = some (.int .i64 (c.words.getD 3 0)) := (Rr.cell hc (j := 3) (by omega)).trans rfl
      have c4 : wr.cell? ⟨g, k * 6 + 4, none⟩ = some (.int .i64 c.times) := (Rr.cell hc (j := 4) (by omega)).trans rfl
      have c5 : wr.cell? ⟨g, k * 6 + 5, none⟩ = some (.bool c.here) := (Rr.cell hc (j := 5) (by omega)).trans rfl
      have htk : l.take (k + 1) = l.take k ++ [c] := by rw [List.take_succ_eq_append_getElem hlt]; rw [List.getElem?_eq_getElem hlt] at hc; cases hc; rfl
      have hcs := countL_snoc (l.take k) c
      rw [← htk] at hcs
      generalize c.words.getD 0 0 = y0 at c0
      generalize c.words.getD 1 0 = y1 at c1
      generalize c.words.getD 2 0 = y2 at c2
      generalize c.words.getD 3 0 = y3 at c3
      have Hcs := Lib.hid hcs
      clear hM Rr hc htk hcs
      cases hh : c.here with
      | true =>
        rw [hh] at c5
        rw [hh] at Hcs
        clear hh
        go_wp2
        go_roundw
        case rel => exact ⟨k + 1, by omega, by go_num, by rw [Hcs.out]; simp, hM'.out.alloc _⟩
        case measure => simp [intOf]; omega
      | false =>
        rw [hh] at c5
        rw [hh] at Hcs
        clear hh
        go_wp2
        go_roundw
        case rel => exact ⟨k + 1, by omega, by go_num, by rw [Hcs.out]; simp, hM'.out.alloc _⟩
        case measure => simp [intOf]; omega
    · have hd : decide ((k : Int) < (l.length : Int)) = false := by simp; omega
      obtain rfl : k = l.length := by omega
      have htk : l.take l.length = l := List.take_length
      rw [htk]
      clear hM Rr htk
      go_wp2
      go_ret
      exact ⟨rfl, hM'.out⟩
end Go.Proofs.YtamfbfajlfbooaaDoor
