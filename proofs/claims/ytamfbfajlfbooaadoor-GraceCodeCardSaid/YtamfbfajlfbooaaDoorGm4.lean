/- Texts that belong together, joined. -/
import Derived.Test.YtamfbfajlfbooaaDoorGAs
import Derived.LoopTactic
import Derived.Outline
import Derived.Test.YtamfbfajlfbooaaDoorGm2
import Derived.Test.YtamfbfajlfbooaaDoorGm3
import Derived.Deep.QuietTactic
import Derived.BigQuiet
import Derived.BigRegion
import Derived.Test.YtamfbfajlfbooaaDoorGLaid
import Derived.Stop.LaidErr
set_option linter.unusedVariables false
set_option linter.unusedSimpArgs false
set_option linter.unusedSectionVars false
/- plain.Code, coded, at nil and at the program's sentinels. -/
section
namespace Go.Proofs.YtamfbfajlfbooaaDoor
open Go.RowKit Go.Extern.Stop Go.Stop Go.Extern Qh
/-- The package-level variables as the program's text lays them: sentinel i is variable i; a type's handle is variable 9. -/
structure ErrsAt (W : World) (a : Nat → Addr) : Prop where
  var : ∀ i, i < 9 → W.cell? ⟨i, 0, none⟩ = some (.iface 152 (.pointer (some (a i))))
  obj : ∀ i, i < 9 → ∃ c t, W.heap[(a i).block]? = some (.cells c t (0, 0))
  inj : ∀ i j, i < 9 → j < 9 → i ≠ j → a i ≠ a j
  et : W.cell? ⟨9, 0, none⟩ = some (.iface 231 (.agg #[.pointer (some ⟨10, 54, none⟩)]))
theorem ErrsAt.keep {W W' : World} {a : Nat → Addr} (h : ErrsAt W a) (hM : Mod noF W W') : ErrsAt W' a :=
  ⟨fun i hi => hM.cell (h.var i hi) (fun e => e), fun i hi => by obtain ⟨c, t, e⟩ := h.obj i hi; exact ⟨c, t, hM.heap e (fun e => e)⟩, h.inj, hM.cell h.et (fun e => e)⟩
/-- The error of sentinel i. -/
def errV (a : Nat → Addr) (i : Nat) : Value := .iface 152 (.pointer (some (a i)))
theorem is_at {W : World} {a : Nat → Addr} (h : ErrsAt W a) {i k : Nat} (hi : i < 9) (hk : k < 9) :
    Calls Tryd.prog 96 #[errV a i, errV a k] W fun e w' => e = .returned (.bool (decide (i = k))) ∧ w' = W := by
  by_cases e : i = k
  · subst e
    exact (is_same (a i) W).mono fun _ _ h => ⟨by rw [h.1]; simp, h.2⟩
  · obtain ⟨c, t, e1⟩ := h.obj i hi
    obtain ⟨c2, t2, e2⟩ := h.obj k hk
    exact (is_other (a i) (a k) c c2 t t2 W (h.inj i k hi hk e) e1 e2).mono fun _ _ h => ⟨by rw [h.1]; simp [e], h.2⟩
theorem code_nil (w : World) : Calls Tryd.prog 37 #[.nilIface] w fun e w' => e = .returned (.tuple #[.int .i64 0, .int .i64 (-1)]) ∧ w' = w := by
  go_enter Tryd.func37, Tryd.ntmps37
  go_wp2
  go_ret2
  exact ⟨rfl, rfl⟩
set_option maxHeartbeats 4000000 in
theorem code_at {w : World} {a : Nat → Addr} (E : ErrsAt w a) (i : Nat) (hi : i < 9) :
    Calls Tryd.prog 37 #[errV a i] w fun e w' => e = .returned (.tuple #[.int .i64 ((i : Int) + 1), .int .i64 (-1)]) ∧ Mod noF w w' := by
  have HE := Lib.hid E
  clear E
  go_enter Tryd.func37, Tryd.ntmps37
  unfold errV
  go_wp2_with fail
  refine (as_miss (a i) ⟨w.heap.size, 0, none⟩ _ ((HE.out.keep ((Mod.refl noF w).alloc _)).et)).mono ?_
  rintro e w2 ⟨rfl, hm2⟩
  have hm := ((Mod.refl noF w).alloc (.cells #[.pointer none] 74)).trans0 hm2
  have E2 := HE.out.keep hm
  have v0 := E2.var 0 (by omega)
  have v1 := E2.var 1 (by omega)
  have v2 := E2.var 2 (by omega)
  have v3 := E2.var 3 (by omega)
  have v4 := E2.var 4 (by omega)
  have v5 := E2.var 5 (by omega)
  have v6 := E2.var 6 (by omega)
  have v7 := E2.var 7 (by omega)
  have v8 := E2.var 8 (by omega)
  have Hm := Lib.hid hm
  have HE2 := Lib.hid E2
  clear hm2 hm E2
  go_wp2
  obtain ⟨wx, hwx⟩ : ∃ wx, w2.alloc (.cells #[.iface 152 (.pointer (some (a 0))), .iface 152 (.pointer (some (a 1))), .iface 152 (.pointer (some (a 2))), .iface 152 (.pointer (some (a 3))), .iface 152 (.pointer (some (a 4))), .iface 152 (.pointer (some (a 5))), .iface 152 (.pointer (some (a 6))), .iface 152 (.pointer (some (a 7))), .iface 152 (.pointer (some (a 8)))] 54) = wx := ⟨_, rfl⟩
  rw [hwx]
  have hq : Mod noF w2 wx := hwx ▸ (Mod.refl noF w2).alloc _
  have E3 := HE2.out.keep hq
  have hnew := hwx ▸ heap_alloc_new w2 (.cells #[.iface 152 (.pointer (some (a 0))), .iface 152 (.pointer (some (a 1))), .iface 152 (.pointer (some (a 2))), .iface 152 (.pointer (some (a 3))), .iface 152 (.pointer (some (a 4))), .iface 152 (.pointer (some (a 5))), .iface 152 (.pointer (some (a 6))), .iface 152 (.pointer (some (a 7))), .iface 152 (.pointer (some (a 8)))] 54)
  have hcell : ∀ k : Nat, k < 9 → wx.cell? ⟨w2.heap.size, 0 + k, none⟩ = some (errV a k) := fun k hk => by
    rw [cell_of_heap hnew]
    rcases (by omega : k = 0 ∨ k = 1 ∨ k = 2 ∨ k = 3 ∨ k = 4 ∨ k = 5 ∨ k = 6 ∨ k = 7 ∨ k = 8) with rfl | rfl | rfl | rfl | rfl | rfl | rfl | rfl | rfl <;> rfl
  have hfin := Hm.out.trans0 hq
  have HE3 := Lib.hid E3
  have Hcell := Lib.hid hcell
  have Hfin := Lib.hid hfin
  clear hwx hq E3 hnew hcell hfin v0 v1 v2 v3 v4 v5 v6 v7 v8
  go_loop [3, 5, 6, 27] (fun v3 _ _ x => ∃ k : Nat, k ≤ i ∧ x = .int .i64 k ∧ v3 = .int .i64 (-1)) (fun _ _ _ x => 9 - (intOf x).toNat)
  case atStart => exact ⟨0, Nat.zero_le _, rfl, rfl⟩
  case round =>
    obtain ⟨k, hk, rfl, rfl⟩ := hrel
    have hlt : (k : Int) < 9 := by omega
    have hd : decide ((k : Int) < 9) = true := by simp; omega
    have hc := Hcell.out k (by omega)
    rw [Nat.zero_add] at hc
    have hcall := is_at HE3.out hi (show k < 9 by omega)
    unfold errV at hc hcall
    have Hcall := Lib.hid hcall
    clear hcall
    go_wp2_with fail
    refine Hcall.out.mono ?_
    rintro e w' ⟨rfl, rfl⟩
    by_cases e : i = k
    · subst e
      have hdd : decide (i = i) = true := by simp
      rw [hdd]
      clear hdd
      go_wp2
      go_ret2
      exact ⟨rfl, Hfin.out⟩
    · have hdd : decide (i = k) = false := by simpa using e
      have hik : k < i := by omega
      rw [hdd]
      clear hdd e
      go_wp2
      go_round
      case rel => exact ⟨k + 1, by omega, by go_num, rfl⟩
      case measure => simp [intOf]; omega
theorem coded_nil (n : Int) (w : World) : Calls Tryd.prog 38 #[.nilIface, .int .i64 n] w fun e w' => e = .returned (.bool (decide (n = 0))) ∧ w' = w := by
  by_cases h : n = 0
  · subst h
    go_enter Tryd.func38, Tryd.ntmps38
    go_wp2_with fail
    refine (code_nil w).mono ?_
    rintro e w' ⟨rfl, rfl⟩
    go_wp2
    go_ret
    exact ⟨rfl, rfl⟩
  · have h1 : ((0 : Int) == n) = false := by rw [beq_eq_false_iff_ne]; omega
    have h2 : decide (n = 0) = false := by simpa using h
    rw [h2]
    go_enter Tryd.func38, Tryd.ntmps38
    go_wp2_with fail
    refine (code_nil w).mono ?_
    rintro e w' ⟨rfl, rfl⟩
    go_wp2
    go_ret
    exact ⟨rfl, rfl⟩
theorem coded_at {w : World} {a : Nat → Addr} (E : ErrsAt w a) (i : Nat) (hi : i < 9) (n : Int) : Calls Tryd.prog 38 #[errV a i, .int .i64 n] w fun e w' => e = .returned (.bool (decide (n = (i : Int) + 1))) ∧ Mod noF w w' := by
  have hcall := code_at E i hi
  by_cases h : n = (i : Int) + 1
  · subst h
    rw [show decide ((i : Int) + 1 = (i : Int) + 1) = true by simp]
    have Hcall := Lib.hid hcall
    clear hcall E
    go_enter Tryd.func38, Tryd.ntmps38
    go_wp2_with fail
    refine Hcall.out.mono ?_
    rintro e w' ⟨rfl, hm⟩
    have Hm := Lib.hid hm
    clear hm
    go_wp2
    go_ret
    exact ⟨rfl, Hm.out⟩
  · have h1 : ((i : Int) + 1 == n) = false := by rw [beq_eq_false_iff_ne]; omega
    rw [show decide (n = (i : Int) + 1) = false by simpa using h]
    have Hcall := Lib.hid hcall
    clear hcall E h
    go_enter Tryd.func38, Tryd.ntmps38
    go_wp2_with fail
    refine Hcall.out.mono ?_
    rintro e w' ⟨rfl, hm⟩
    have Hm := Lib.hid hm
    clear hm
    go_wp2
    go_ret
    exact ⟨rfl, Hm.out⟩
end Go.Proofs.YtamfbfajlfbooaaDoor
end
/- Four of the sentinels: those that cells and stores that wait tell of. -/
section
namespace Go.Proofs.YtamfbfajlfbooaaDoor
open Go.RowKit Qh
structure Errs4 (W : World) (a : Nat → Addr) : Prop where
  var : ∀ i, (i = 1 ∨ i = 4 ∨ i = 5 ∨ i = 6) → W.cell? ⟨i, 0, none⟩ = some (.iface 152 (.pointer (some (a i))))
theorem Errs4.keep {W W' : World} {a : Nat → Addr} (h : Errs4 W a) (hM : Mod noF W W') : Errs4 W' a := ⟨fun i hi => hM.cell (h.var i hi) (fun e => e)⟩
theorem ErrsAt.four {W : World} {a : Nat → Addr} (h : ErrsAt W a) : Errs4 W a := ⟨fun i hi => h.var i (by omega)⟩
end Go.Proofs.YtamfbfajlfbooaaDoor
end
/- arena.New, Alloc, Count, Right. -/
section
namespace Go.Proofs.YtamfbfajlfbooaaDoor
open Go.RowKit Qs Qh
theorem acellInfo : (Tryd.prog.info? 174).map (fun i => (i.zero, i.size, i.bytes)) = some (some (.agg #[.int .i64 0, .int .i64 0, .int .i64 0, .int .i64 0, .int .i64 0, .bool false]), 6, 48) := by kernel_rfl
/-- An arena at b, its cells at g. -/
abbrev AAt (w : World) (b g : Nat) (l : List Cell) : Prop := ArenaAt 170 174 w b g l
theorem make_arena (n : Nat) (hn : n ≤ 64) (w : World) : (Instr.makeSlice 168 (.int .i64 n) (.int .i64 n)).run Tryd.prog w = .ok (.slice (some ⟨w.heap.size, 0, none⟩) n n) (w.alloc (.cells (flat acell 0 (List.replicate n freshCell)).toArray 174)) := by
  obtain ⟨i, hi, hz0, hz1, hz2⟩ := info_parts acellInfo
  have := run_makeSlice (P := Tryd.prog) w 168 174 i _ Tryd.underlying168 hi hz0 .i64 .i64 n n (by omega) (by omega) (by rw [hz1]; simp; omega) (by rw [hz2]; omega) (by omega)
  rw [this, hz1]
  have e : (madeCells (Value.agg #[.int .i64 0, .int .i64 0, .int .i64 0, .int .i64 0, .int .i64 0, .bool false]).cells (n * 6)) = (flat acell 0 (List.replicate n freshCell)).toArray := by
    rw [← fresh_flat n]; simp [Value.cells]
  simp only [Int.toNat_natCast]
  rw [e]
theorem arenaNew_ok (n : Nat) (h1 : 1 ≤ n) (hn : n ≤ 64) (w : World) :
    Calls Tryd.prog 62 #[.int .i64 n] w fun e w' => e = .returned (.tuple #[.pointer (some ⟨w.heap.size + 1, 0, none⟩), .nilIface]) ∧ AAt w' (w.heap.size + 1) w.heap.size (List.replicate n freshCell) ∧ Mod noF w w' := by
  have d0 : decide ((n : Int) < 1) = false := by simp; omega
  have d1 : decide ((64 : Int) < (n : Int)) = false := by simp; omega
  have hmk := make_arena n hn
  go_enter Tryd.func62, Tryd.ntmps62
  go_wp2
  go_ret2
  refine ⟨rfl, ⟨?_, ?_, by omega⟩, ((Mod.refl _ _).alloc _).alloc _⟩
  · have := heap_alloc_new (w.alloc (.cells (flat acell 0 (List.replicate n freshCell)).toArray 174)) (.cells #[.slice (some ⟨w.heap.size, 0, none⟩) n n] 170)
    simpa using this
  · exact (Below.heap_alloc (w.alloc _) _ _ (lt_of_block (heap_alloc_new w _))).trans (heap_alloc_new w _)
theorem arenaNew_bad (n : Int) (h : n < 1 ∨ 64 < n) (w : World) (a : Nat → Addr) (E : Errs4 w a) :
    Calls Tryd.prog 62 #[.int .i64 n] w fun e w' => e = .returned (.tuple #[.pointer none, errV a 1]) ∧ Mod noF w w' := by
  have hv := E.var 1 (by omega)
  by_cases h1 : n < 1
  · have d0 : decide (n < 1) = true := by simpa using h1
    go_enter Tryd.func62, Tryd.ntmps62
    go_wp2
    go_quiet (fail)
    go_wp2
    go_ret2
    exact ⟨rfl, (Mod.refl _ _).drewN _⟩
  · have d0 : decide (n < 1) = false := by simpa using h1
    have d1 : decide (64 < n) = true := by simp; omega
    go_enter Tryd.func62, Tryd.ntmps62
    go_wp2
    go_quiet (fail)
    go_wp2
    go_ret2
    exact ⟨rfl, (Mod.refl _ _).drewN _⟩
theorem right_any (n : Int) (w : World) : Calls Tryd.prog 93 #[.int .i64 n] w fun e w' => e = .returned (.bool (isWord n)) ∧ w = w' := by
  by_cases h0 : 0 ≤ n
  · by_cases h1 : n < 4294967296
    · have e : isWord n = true := by simp [isWord, W32, h0, h1]
      have d0 : decide (0 ≤ n) = true := by simpa using h0
      have d1 : decide (n ≤ 4294967295) = true := by simp; omega
      rw [e]
      go_enter Tryd.func93, Tryd.ntmps93
      go_wp2
      go_ret
      exact ⟨rfl, rfl⟩
    · have e : isWord n = false := by simp [isWord, W32, h1]
      have d0 : decide (0 ≤ n) = true := by simpa using h0
      have d1 : decide (n ≤ 4294967295) = false := by simp; omega
      rw [e]
      go_enter Tryd.func93, Tryd.ntmps93
      go_wp2
      go_ret
      exact ⟨rfl, rfl⟩
  · have e : isWord n = false := by simp [isWord, h0]
    have d0 : decide (0 ≤ n) = false := by simpa using h0
    rw [e]
    go_enter Tryd.func93, Tryd.ntmps93
    go_wp2
    go_ret
    exact ⟨rfl, rfl⟩
set_option maxHeartbeats 1000000 in
theorem arenaAlloc {w : World} {b g : Nat} {l : List Cell} {a : Nat → Addr} (R : AAt w b g l) (E : Errs4 w a) (hn : l.length ≤ 64) (ht : ∀ (i : Nat) c, l[i]? = some c → 0 ≤ c.times ∧ c.times ≤ 1000000000) :
    Calls Tryd.prog 63 #[.pointer (some ⟨b, 0, none⟩)] w fun e w' =>
      (∃ i c, allocAt l 0 = some (i, c.times) ∧ l[i]? = some c ∧ e = .returned (.tuple #[.agg #[.int .i64 i, .int .i64 c.times], .nilIface]) ∧ AAt w' b g (l.set i (givenCell c)) ∧ Mod (fun x => x = g) w w') ∨
      (allocAt l 0 = none ∧ e = .returned (.tuple #[.agg #[.int .i64 0, .int .i64 0], errV a 5]) ∧ Mod noF w w') := by
  have h0 := R.slice
  obtain ⟨hb, hg⟩ := R.lt
  have hfz := R.free
  have HR := Lib.hid R
  have HE := Lib.hid E
  have Ht := Lib.hid ht
  clear R E ht
  go_enter Tryd.func63, Tryd.ntmps63
  go_wp2
  go_loop [4, 5, 11] (fun _ _ i => ∃ k : Nat, k ≤ l.length ∧ i = .int .i64 k ∧ ∀ (j : Nat) x, j < k → l[j]? = some x → x.here = true) (fun _ _ i => l.length - (intOf i).toNat)
  case atStart => exact ⟨0, by omega, rfl, fun j x hj => absurd hj (by omega)⟩
  case round =>
    obtain ⟨k, hk, rfl, hall⟩ := hrel
    have Hall := Lib.hid hall
    clear hall
    by_cases hlt : k < l.length
    · have hd : decide ((k : Int) < (l.length : Int)) = true := by simp; omega
      obtain ⟨c, hc⟩ : ∃ c, l[k]? = some c := ⟨_, List.getElem?_eq_getElem hlt⟩
      have c0 : w.cell? ⟨g, k * 6, none⟩ = some (.int .i64 (c.words.getD 0 0)) := (HR.out.cell hc (j := 0) (by omega)).trans rfl
      have c1 : w.cell? ⟨g, k * 6 + 1, none⟩ = some (.int .i64 (c.words.getD 1 0)) := (HR.out.cell hc (j := 1) (by omega)).trans rfl
      have c2 : w.cell? ⟨g, k * 6 + 2, none⟩ = some (.int .i64 (c.words.getD 2 0)) := (HR.out.cell hc (j := 2) (by omega)).trans rfl
      have c3 : w.cell? ⟨g, k * 6 + 3, none⟩ = some (.int .i64 (c.words.getD 3 0)) := (HR.out.cell hc (j := 3) (by omega)).trans rfl
      have c4 : w.cell? ⟨g, k * 6 + 4, none⟩ = some (.int .i64 c.times) := (HR.out.cell hc (j := 4) (by omega)).trans rfl
      have c5 : w.cell? ⟨g, k * 6 + 5, none⟩ = some (.bool c.here) := (HR.out.cell hc (j := 5) (by omega)).trans rfl
      obtain ⟨t0, t1⟩ := Ht.out k c hc
      have Hc := Lib.hid hc
      clear hc
      cases hh : c.here with
      | true =>
        rw [hh] at c5
        have Hh := Lib.hid hh
        clear hh
        go_wp2
        go_round
        case rel =>
          refine ⟨k + 1, by omega, by go_num, fun j x hj hx => ?_⟩
          by_cases e : j = k
          · subst e; rw [Hc.out] at hx; cases hx; exact Hh.out
          · exact Hall.out j x (by omega) hx
        case measure => simp [intOf]; omega
      | false =>
        rw [hh] at c5
        have Hh := Lib.hid hh
        clear hh
        have f0 := hfz (k * 6)
        have f1 := hfz (k * 6 + 1)
        have f2 := hfz (k * 6 + 2)
        have f3 := hfz (k * 6 + 3)
        have f4 := hfz (k * 6 + 4)
        have f5 := hfz (k * 6 + 5)
        clear hfz
        generalize c.words.getD 0 0 = y0 at c0
        generalize c.words.getD 1 0 = y1 at c1
        generalize c.words.getD 2 0 = y2 at c2
        generalize c.words.getD 3 0 = y3 at c3
        go_wp2
        refine bodyPost_ret (v := .tuple #[.agg #[.int .i64 k, .int .i64 c.times], .nilIface]) (by simp [results, Tryd.results63, go_sem]) rfl (.inl ⟨k, c, ?_, Hc.out, rfl, (HR.out.given Hc.out).keep0 ((Mod.refl _ _).alloc _), ?_⟩)
        · have := allocAt_found l 0 k c Hc.out Hh.out Hall.out
          rw [Nat.zero_add] at this; exact this
        · exact (((((((Mod.refl (fun x => x = g) w).setCell (fun _ => rfl) _).setCell (fun _ => rfl) _).setCell (fun _ => rfl) _).setCell (fun _ => rfl) _).setCell (fun _ => rfl) _).setCell (fun _ => rfl) _).alloc _
    · have hd : decide ((k : Int) < (l.length : Int)) = false := by simp; omega
      have hv := (HE.out.keep ((Mod.refl noF w).alloc (.cells #[.int .i64 0, .int .i64 0] 58))).var 5 (by omega)
      go_wp2
      go_region
      all_goals go_wp2
      refine bodyPost_ret (v := .tuple #[.agg #[.int .i64 0, .int .i64 0], errV a 5]) (by simp [results, Tryd.results63, go_sem, errV]) rfl (.inr ⟨?_, rfl, ((Mod.refl _ _).alloc _).drew⟩)
      refine allocAt_none _ _ fun j x hx => Hall.out j x ?_ hx
      have := (List.getElem?_eq_some_iff.1 hx).1
      omega
def countL (l : List Cell) : Int := ((l.filter (·.here)).length : Int)
theorem countL_snoc (l : List Cell) (c : Cell) : countL (l ++ [c]) = countL l + (if c.here then 1 else 0) := by
  unfold countL
  rw [List.filter_append]
  cases h : c.here <;> simp [h]
theorem countL_le (l : List Cell) : 0 ≤ countL l ∧ countL l ≤ l.length := by
  unfold countL
  have := List.length_filter_le (fun c : Cell => c.here) l
  omega
theorem arenaCount {w : World} {b g : Nat} {l : List Cell} (R : AAt w b g l) (hn : l.length ≤ 64) :
    Calls Tryd.prog 67 #[.pointer (some ⟨b, 0, none⟩)] w fun e w' => e = .returned (.int .i64 (countL l)) ∧ Mod noF w w' := by
  have h0 := R.slice
  have HR := Lib.hid R
  clear R
  go_enter Tryd.func67, Tryd.ntmps67
  go_wp2
  go_loopw [3, 5, 11] (fun v _ i wr => ∃ k : Nat, k ≤ l.length ∧ i = .int .i64 k ∧ v = .int .i64 (countL (l.take k)) ∧ Mod noF w wr) (fun _ _ i _ => l.length - (intOf i).toNat)
  case atStart => exact ⟨0, by omega, rfl, rfl, Mod.refl _ _⟩
  case round =>
    obtain ⟨k, hk, rfl, rfl, hM⟩ := hrel
    have hb := countL_le (l.take k)
    have hbl : (l.take k).length ≤ k := List.length_take_le _ _
    have hM' := Lib.hid hM
    have Rr := HR.out.keep0 hM
    by_cases hlt : k < l.length
    · have hd : decide ((k : Int) < (l.length : Int)) = true := by simp; omega
      obtain ⟨c, hc⟩ : ∃ c, l[k]? = some c := ⟨_, List.getElem?_eq_getElem hlt⟩
      have c0 : wr.cell? ⟨g, k * 6, none⟩ = some (.int .i64 (c.words.getD 0 0)) := (Rr.cell hc (j := 0) (by omega)).trans rfl
      have c1 : wr.cell? ⟨g, k * 6 + 1, none⟩ = some (.int .i64 (c.words.getD 1 0)) := (Rr.cell hc (j := 1) (by omega)).trans rfl
      have c2 : wr.cell? ⟨g, k * 6 + 2, none⟩ = some (.int .i64 (c.words.getD 2 0)) := (Rr.cell hc (j := 2) (by omega)).trans rfl
      have c3 : wr.cell? ⟨g, k * 6 + 3, none⟩ = some (.int .i64 (c.words.getD 3 0)) := (Rr.cell hc (j := 3) (by omega)).trans rfl
      have c4 : wr.cell? ⟨g, k * 6 + 4, none⟩ = some (.int .i64 c.times) := (Rr.cell hc (j := 4) (by omega)).trans rfl
      have c5 : wr.cell? ⟨g, k * 6 + 5, none⟩ = some (.bool c.here) := (Rr.cell hc (j := 5) (by omega)).trans rfl
      have htk : l.take (k + 1) = l.take k ++ [c] := by rw [List.take_succ_eq_append_getElem hlt]; rw [List.getElem?_eq_getElem hlt] at hc; cases hc; rfl
      have hcs := countL_snoc (l.take k) c
      rw [← htk] at hcs
      generalize c.words.getD 0 0 = y0 at c0
      generalize c.words.getD 1 0 = y1 at c1
      generalize c.words.getD 2 0 = y2 at c2
      generalize c.words.getD 3 0 = y3 at c3
      have Hcs := Lib.hid hcs
      clear hM Rr hc htk hcs
      cases hh : c.here with
      | true =>
        rw [hh] at c5
        rw [hh] at Hcs
        clear hh
        go_wp2
        go_roundw
        case rel => exact ⟨k + 1, by omega, by go_num, by rw [Hcs.out]; simp, hM'.out.alloc _⟩
        case measure => simp [intOf]; omega
      | false =>
        rw [hh] at c5
        rw [hh] at Hcs
        clear hh
        go_wp2
        go_roundw
        case rel => exact ⟨k + 1, by omega, by go_num, by rw [Hcs.out]; simp, hM'.out.alloc _⟩
        case measure => simp [intOf]; omega
    · have hd : decide ((k : Int) < (l.length : Int)) = false := by simp; omega
      obtain rfl : k = l.length := by omega
      have htk : l.take l.length = l := List.take_length
      rw [htk]
      clear hM Rr htk
      go_wp2
      go_ret
      exact ⟨rfl, hM'.out⟩
end Go.Proofs.YtamfbfajlfbooaaDoor
end
/- What the rows' cell 'laid' gives a walk: nine sentinels, all different, and a type's handle. -/
section
namespace Go
/-- Of a list of sentinels of one type: where each lies. -/
theorem laidVars_sentinels {P : Program} {nm : String} {W : World} {ti tp te ts : TypeId} {ms : Array (String × TypeId)} {f : Field}
    (hi : P.underlying ti = some (.interface ms)) (hrow : ∀ u, P.typeName? 3 u = some nm → u = tp)
    (hp : P.underlying tp = some (.pointer te)) (he : P.underlying te = some (.struct #[f])) (hft : f.type = ts) (hfo : f.offset = 0) (hs : P.underlying ts = some .string) (hc : P.cellsOf te = 1) (hcs : P.cellsOf ts = 1) :
    ∀ (l : List (String × List UInt8 × Nat)), (∀ x ∈ l, P.globalNamed x.1 = some x.2.2 ∧ (P.globals[x.2.2]?).map (·.type) = some ti) → ∀ ps,
      DataW.LaidVars P W (l.map fun x => (x.1, .iface nm (.ptr (.agg [.lit (.string x.2.1)])))) ps →
      (∀ b off, MemPlace.cell b off ∈ ps → (∃ c t, W.heap[b]? = some (.cells c t (0, 0))) ∧ ∀ u v, W.cell? ⟨b, off, none⟩ = some (.iface u v) → Value.okWide P W .any 0 u v) →
      ∃ bs : List Addr, bs.length = l.length ∧ (∀ (i : Nat) x a, l[i]? = some x → bs[i]? = some a → W.var? P x.1 = some #[.iface tp (.pointer (some a))] ∧ (∃ c t, W.heap[a.block]? = some (.cells c t (0, 0))) ∧ ps[2 * i + 1]? = some (.cell a.block a.off) ∧ a.spot = none) ∧ ps.length = 2 * l.length
  | [], _, ps, h, _ => ⟨[], rfl, fun i x a hx => by simp at hx, by simp only [List.map_nil, DataW.LaidVars] at h; subst h; rfl⟩
  | x :: l, hx, ps, h, hrows => by
    obtain ⟨g0, t0, cs0, f0, p0, q0, hg0, ht0, hv0, hd0, hr, e0⟩ := h
    obtain ⟨hg, ht⟩ := hx x (List.mem_cons_self ..)
    obtain rfl := Option.some.inj (hg.symm.trans hg0)
    obtain rfl := Option.some.inj (ht.symm.trans ht0)
    subst e0
    obtain ⟨l0⟩ := cs0
    have ok0 : ∀ u v, l0 = [.iface u v] → Value.okWide P W .any 0 u v := fun u v e => by
      subst e
      exact (hrows x.2.2 0 (by simp [MemPlace.row])).2 u v (by simpa using World.var?_cell hg0 hv0 0)
    obtain ⟨a0, s0, rfl, hc0, hs0, hz0, rfl⟩ := errorString_of_trod hi hrow hp he hft hfo hs hc hcs hd0 ok0
    obtain ⟨bs, hl, hall, hlen⟩ := laidVars_sentinels hi hrow hp he hft hfo hs hc hcs l (fun y hy => hx y (List.mem_cons_of_mem _ hy)) q0 hr (fun b off hb => hrows b off (by simp [hb]))
    refine ⟨a0 :: bs, by simp [hl], fun i y a hy ha => ?_, by simp [MemPlace.row, hlen]; omega⟩
    cases i with
    | zero =>
      simp at hy ha
      subst hy; subst ha
      refine ⟨hv0, (hrows a0.block a0.off (by simp [MemPlace.row])).1, by simp [MemPlace.row], ?_⟩
      exact World.cell?_spot hc0
    | succ i =>
      simp at hy ha
      obtain ⟨h1, h2, h3, h4⟩ := hall i y a hy ha
      refine ⟨h1, h2, ?_, h4⟩
      rw [show 2 * (i + 1) + 1 = 2 * i + 1 + 2 from by omega]
      simp [MemPlace.row, h3]
end Go
namespace Go.Proofs.YtamfbfajlfbooaaDoor
open Go.RowKit Qh
/-- The sentinels' type's name, as the rows spell it. -/
def errName : String := match (Rows.laid_quiescent_api_ErrText : DataW Unit) with
  | .iface t _ => t
  | _ => default
def textOf : DataW Unit → List UInt8
  | .iface _ (.ptr (.agg [.lit (.string s)])) => s
  | _ => []
theorem typesSize : Tryd.prog.types.size = 276 := by kernel_rfl
theorem errRow (u : TypeId) (h : Tryd.prog.typeName? 3 u = some errName) : u = 152 :=
  typeName_ptr_named (nm := "errors.errorString") (by kernel_rfl) (by kernel_rfl) (by decide) u (h.trans (by kernel_rfl))
/-- The ten variables of a row's cell 'laid' that lists them all. -/
noncomputable def laid10 : List (String × DataW Unit) := Rows.arenaWordsRow.laid
noncomputable def laidL : List (String × List UInt8 × Nat) := (laid10.filter fun x => x.2.handleName?.isNone).map fun x => (x.1, textOf x.2, (Tryd.prog.globalNamed x.1).getD 0)
theorem laidL_map : (laidL.map fun x => (x.1, (.iface errName (.ptr (.agg [.lit (.string x.2.1)])) : DataW Unit))) = laid10.filter fun x => x.2.handleName?.isNone := by kernel_rfl
theorem laidL_ok : (laidL.all fun x => decide (Tryd.prog.globalNamed x.1 = some x.2.2) && decide ((Tryd.prog.globals[x.2.2]?).map (·.type) = some 54)) = true := by kernel_rfl
theorem laidL_nums : laidL.map (·.2.2) = [0, 1, 2, 3, 4, 5, 6, 7, 8] := by kernel_rfl
noncomputable def hd10 : String × DataW Unit := match laid10 with
  | x :: _ => x
  | [] => (default, .nil)
theorem laid_hd : (laid10.filter fun x => x.2.handleName?.isSome) = [hd10] := by kernel_rfl
theorem hd10_funcs : hd10.2.funcsIn?.isNone = true := by kernel_rfl
theorem hd10_name : hd10.2.handleName? = some [101, 114, 114, 111, 114] := by kernel_rfl
theorem hd10_num : Tryd.prog.globalNamed hd10.1 = some 9 := by kernel_rfl
theorem errOneRow : ((List.range 276).filter fun t => Tryd.prog.rowNamed t [101, 114, 114, 111, 114]) = [54] := by kernel_rfl
theorem rtypeNum : (Tryd.prog.cutTypes.find? (·.1 == "internal/reflectlite.rtype")).map (·.2) = some 231 := by kernel_rfl
theorem errHandle : typeHandle Tryd.prog 54 = .pointer (some ⟨10, 54, none⟩) := by kernel_rfl
/-- What 'laid' gives a walk. -/
theorem errs_of_laid {W : World} (h : laidMetH Tryd.prog laid10 W) : ∃ a, ErrsAt W a := by
  unfold laidMetH at h
  rw [laid_hd] at h
  obtain ⟨⟨ps, hL, hnd, hrows⟩, hh⟩ := h
  rw [← laidL_map] at hL
  have hok : ∀ x ∈ laidL, Tryd.prog.globalNamed x.1 = some x.2.2 ∧ (Tryd.prog.globals[x.2.2]?).map (·.type) = some 54 := fun x hx => by
    have := List.all_eq_true.1 laidL_ok x hx
    simpa using this
  obtain ⟨bs, hl, hall, hlen⟩ := laidVars_sentinels Tryd.underlying54 errRow Tryd.underlying152 Tryd.underlying154 rfl rfl Tryd.underlying9 (by kernel_rfl) (by kernel_rfl) laidL hok ps hL hrows
  have hl9 : laidL.length = 9 := by have := congrArg List.length laidL_nums; simpa using this
  have hnum : ∀ i (hi : i < 9), ∃ x, laidL[i]? = some x ∧ x.2.2 = i := fun i hi => by
    have h1 : (laidL.map (·.2.2))[i]? = some i := by
      rw [laidL_nums]
      rcases (by omega : i = 0 ∨ i = 1 ∨ i = 2 ∨ i = 3 ∨ i = 4 ∨ i = 5 ∨ i = 6 ∨ i = 7 ∨ i = 8) with rfl | rfl | rfl | rfl | rfl | rfl | rfl | rfl | rfl <;> rfl
    rw [List.getElem?_map] at h1
    obtain ⟨x, hx, e⟩ := Option.map_eq_some_iff.1 h1
    exact ⟨x, hx, e⟩
  have hb : ∀ i, i < 9 → bs[i]? = some (bs.getD i default) := fun i hi => by
    have : i < bs.length := by omega
    simp [List.getD, this]
  refine ⟨fun i => bs.getD i default, fun i hi => ?_, fun i hi => ?_, fun i j hi hj hne e => ?_, ?_⟩
  · obtain ⟨x, hx, e⟩ := hnum i hi
    obtain ⟨h1, -⟩ := hall i x _ hx (hb i hi)
    have hg := (hok x (List.mem_of_getElem? hx)).1
    rw [e] at hg
    simpa using World.var?_cell hg h1 0
  · obtain ⟨x, hx, e⟩ := hnum i hi
    obtain ⟨-, h2, -⟩ := hall i x _ hx (hb i hi)
    exact h2
  · obtain ⟨x, hx, -⟩ := hnum i hi
    obtain ⟨y, hy, -⟩ := hnum j hj
    obtain ⟨-, -, h3, -⟩ := hall i x _ hx (hb i hi)
    obtain ⟨-, -, h4, -⟩ := hall j y _ hy (hb j hj)
    have e' : bs.getD i default = bs.getD j default := e
    rw [e', ← h4] at h3
    have hp := List.pairwise_iff_getElem.1 hnd
    have l1 : 2 * i + 1 < ps.length := by omega
    have l2 : 2 * j + 1 < ps.length := by omega
    rw [List.getElem?_eq_getElem l1, List.getElem?_eq_getElem l2] at h3
    have h3' := Option.some.inj h3
    rcases Nat.lt_or_gt_of_ne hne with hlt | hlt
    · exact hp (2 * i + 1) (2 * j + 1) l1 l2 (by omega) h3'
    · exact hp (2 * j + 1) (2 * i + 1) l2 l1 (by omega) h3'.symm
  · have h1 := hh hd10 (List.mem_singleton.2 rfl)
    have h0 : hd10.2.funcsIn? = none := by simpa using hd10_funcs
    rw [h0] at h1
    obtain ⟨name, u, ty, e1, e2, e3, e4, e5⟩ := h1
    have en : name = [101, 114, 114, 111, 114] := (Option.some.inj (hd10_name.symm.trans e1)).symm
    subst en
    obtain rfl := Option.some.inj (rtypeNum.symm.trans e2)
    have hm : ty ∈ (List.range 276).filter fun t => Tryd.prog.rowNamed t [101, 114, 114, 111, 114] := List.mem_filter.2 ⟨List.mem_range.2 (by rw [← typesSize]; exact e3), e4⟩
    rw [errOneRow] at hm
    obtain rfl := List.mem_singleton.1 hm
    rw [errHandle] at e5
    simpa using World.var?_cell hd10_num e5 0
end Go.Proofs.YtamfbfajlfbooaaDoor
end
/- arena.Word, arena.Ref, first; the law ArenaWords, walked. -/
section
namespace Go.Proofs.YtamfbfajlfbooaaDoor
open Go.RowKit Qs Qh
/-- The error of a number that 'WordOf', 'RefOf' tell. -/
def errOf (a : Nat → Addr) (e : Int) : Value := if e = 0 then .nilIface else errV a (e.toNat - 1)
set_option maxHeartbeats 1000000 in
theorem arenaWord_any (c g : Int) (w : World) (a : Nat → Addr) (E : ErrsAt w a) :
    Calls Tryd.prog 45 #[.agg #[.int .i64 c, .int .i64 g]] w fun e w' => e = .returned (.tuple #[.int .i64 (wordV c g).1, errOf a (wordV c g).2]) ∧ Mod noF w w' := by
  have hv := (E.keep ((Mod.refl noF w).alloc (.cells #[.int .i64 c, .int .i64 g] 58))).var 1 (by omega)
  clear E
  by_cases c0 : c < 0
  · have d0 : decide (c < 0) = true := by simpa using c0
    have e : wordV c g = (0, 2) := by simp only [wordV]; rw [if_neg (by omega)]
    rw [e]
    go_enter Tryd.func45, Tryd.ntmps45
    go_wp2
    go_quiet (fail)
    go_wp2
    go_ret2
    exact ⟨rfl, ((Mod.refl _ _).alloc _).drewN _⟩
  have d0 : decide (c < 0) = false := by simpa using c0
  by_cases c1 : 64 ≤ c
  · have d1 : decide (64 ≤ c) = true := by simpa using c1
    have e : wordV c g = (0, 2) := by simp only [wordV]; rw [if_neg (by omega)]
    rw [e]
    go_enter Tryd.func45, Tryd.ntmps45
    go_wp2
    go_quiet (fail)
    go_wp2
    go_ret2
    exact ⟨rfl, ((Mod.refl _ _).alloc _).drewN _⟩
  have d1 : decide (64 ≤ c) = false := by simpa using c1
  by_cases g0 : g < 0
  · have d2 : decide (g < 0) = true := by simpa using g0
    have e : wordV c g = (0, 2) := by simp only [wordV]; rw [if_neg (by omega)]
    rw [e]
    go_enter Tryd.func45, Tryd.ntmps45
    go_wp2
    go_quiet (fail)
    go_wp2
    go_ret2
    exact ⟨rfl, ((Mod.refl _ _).alloc _).drewN _⟩
  have d2 : decide (g < 0) = false := by simpa using g0
  by_cases g1 : 67108863 < g
  · have d3 : decide (67108863 < g) = true := by simpa using g1
    have e : wordV c g = (0, 2) := by
      simp only [wordV]
      rw [if_neg (fun h => by
        have h5 : isWord (g * 64 + c + 1) = true := h.2.2.2.2
        simp only [isWord, W32, Bool.and_eq_true, decide_eq_true_eq] at h5
        omega)]
    rw [e]
    go_enter Tryd.func45, Tryd.ntmps45
    go_wp2
    go_quiet (fail)
    go_wp2
    go_ret2
    exact ⟨rfl, ((Mod.refl _ _).alloc _).drewN _⟩
  have d3 : decide (67108863 < g) = false := by simpa using g1
  by_cases n1 : 4294967295 < g * 64 + c + 1
  · have d4 : decide (4294967295 < g * 64 + c + 1) = true := by simpa using n1
    have e : wordV c g = (0, 2) := by
      simp only [wordV]
      rw [if_neg (fun h => by
        have h5 : isWord (g * 64 + c + 1) = true := h.2.2.2.2
        simp only [isWord, W32, Bool.and_eq_true, decide_eq_true_eq] at h5
        omega)]
    rw [e]
    go_enter Tryd.func45, Tryd.ntmps45
    go_wp2
    go_quiet (fail)
    go_wp2
    go_ret2
    exact ⟨rfl, ((Mod.refl _ _).alloc _).drewN _⟩
  · have d4 : decide (4294967295 < g * 64 + c + 1) = false := by simpa using n1
    have hw : isWord (g * 64 + c + 1) = true := by simp only [isWord, W32, Bool.and_eq_true, decide_eq_true_eq]; omega
    have e : wordV c g = (g * 64 + c + 1, 0) := by
      simp only [wordV]
      rw [if_pos ⟨by omega, by omega, by omega, by omega, hw⟩]
    rw [e]
    go_enter Tryd.func45, Tryd.ntmps45
    go_wp2
    go_ret2
    exact ⟨rfl, (Mod.refl _ _).alloc _⟩
set_option maxHeartbeats 1000000 in
theorem arenaRef_any (n : Int) (w : World) (a : Nat → Addr) (E : ErrsAt w a) (hlo : -9223372036854775808 ≤ n) (hhi : n ≤ 9223372036854775807) :
    Calls Tryd.prog 47 #[.int .i64 n] w fun e w' => e = .returned (.tuple #[.agg #[.int .i64 (refV n).1, .int .i64 (refV n).2.1], errOf a (refV n).2.2]) ∧ Mod noF w w' := by
  have E1 := E.keep ((Mod.refl noF w).alloc (.cells #[.int .i64 0, .int .i64 0] 58))
  have hv := E1.var 1 (by omega)
  have hv4 := E1.var 4 (by omega)
  have hb := World.block_lt_of_cell? _ _ hv
  clear E E1
  by_cases h0 : n = 0
  · subst h0
    go_enter Tryd.func47, Tryd.ntmps47
    go_wp2
    go_region
    all_goals go_wp2
    refine bodyPost_ret (v := .tuple #[.agg #[.int .i64 0, .int .i64 0], errOf a 5]) (by simp [results, Tryd.results47, go_sem, errOf, errV]) rfl ⟨rfl, ((Mod.refl _ _).alloc _).drew⟩
  · have d0 : (n == 0) = false := by simpa using h0
    cases hw : isWord n with
    | false =>
      have e : refV n = (0, 0, 2) := by simp [refV, refOf, h0, hw]
      rw [e]
      have Hw := Lib.hid hw; clear hw
      go_enter Tryd.func47, Tryd.ntmps47
      go_wp2_with (go_at_call 93; refine (right_any _ _).mono ?_; rintro e w' ⟨rfl, rfl⟩; rw [Hw.out])
      go_region
      all_goals go_wp2
      refine bodyPost_ret (v := .tuple #[.agg #[.int .i64 0, .int .i64 0], errOf a 2]) (by simp [results, Tryd.results47, go_sem, errOf, errV]) rfl ⟨rfl, ((Mod.refl _ _).alloc _).drew⟩
    | true =>
      have e : refV n = ((n - 1) % 64, (n - 1) / 64, 0) := by simp [refV, refOf, h0, hw]
      have hb : 0 ≤ n ∧ n < 4294967296 := by simpa [isWord, W32] using hw
      obtain ⟨b0, b1⟩ := hb
      have b2 : 0 ≤ n - 1 := by omega
      rw [e]
      have Hw := Lib.hid hw; clear hw
      go_enter Tryd.func47, Tryd.ntmps47
      go_wp2_with (go_at_call 93; refine (right_any _ _).mono ?_; rintro e w' ⟨rfl, rfl⟩; rw [Hw.out])
      refine bodyPost_ret (v := .tuple #[.agg #[.int .i64 ((n - 1) % 64), .int .i64 ((n - 1) / 64)], .nilIface]) (by simp [results, Tryd.results47, go_sem]) rfl ⟨by simp [errOf], (Mod.refl _ _).alloc _⟩
theorem first_ok (w : World) (a : Nat → Addr) (E : ErrsAt w a) :
    Calls Tryd.prog 44 #[] w fun e w' => e = .returned (.bool true) ∧ Mod noF w w' := by
  have HE := Lib.hid E
  clear E
  go_enter Tryd.func44, Tryd.ntmps44
  go_wp2_with fail
  refine (arenaNew_ok 2 (by omega) (by omega) w).mono ?_
  rintro e w1 ⟨rfl, R1, hm1⟩
  have HR1 := Lib.hid R1
  have Hm1 := Lib.hid hm1
  clear R1 hm1
  go_wp2_with fail
  refine (arenaAlloc HR1.out (HE.out.keep Hm1.out).four (by simp) (fun i c hc => by have := List.eq_of_mem_replicate (List.mem_of_getElem? hc); subst this; simp [freshCell])).mono ?_
  rintro e w2 h2
  rcases h2 with ⟨i, c, ha, hc, rfl, R2, hm2⟩ | ⟨ha, -, -⟩
  · have hi : i = 0 ∧ c.times = 0 := by
      have : allocAt (List.replicate 2 freshCell) 0 = some (0, 0) := rfl
      rw [this] at ha; simpa using ha.symm
    obtain ⟨rfl, ht⟩ := hi
    rw [ht]
    have hcc : c = freshCell := by simpa using hc.symm
    subst hcc
    have HR2 := Lib.hid R2
    have Hm2 := Lib.hid hm2
    have hw2 := hm2.size
    clear R2 hm2 ha hc ht
    go_wp2_with fail
    refine (arenaCount (HR2.out.keep0 ((Mod.refl noF w2).alloc _)) (by simp)).mono ?_
    rintro e w3 ⟨rfl, hm3⟩
    rw [show countL ((List.replicate 2 freshCell).set 0 (givenCell freshCell)) = 1 from rfl]
    have Hm3 := Lib.hid (((Mod.refl noF w2).alloc _).trans0 hm3)
    clear hm3
    go_wp2
    go_ret
    exact ⟨rfl, (Hm1.out.trans Hm2.out (fun x hx e => by omega)).trans0 Hm3.out⟩
  · exact absurd ha (by decide)
theorem refV_err (n : Int) : (refV n).2.2 = 0 ∨ (refV n).2.2 = 5 ∨ (refV n).2.2 = 2 := by
  unfold refV
  cases refOf n with
  | some x => left; rfl
  | none => right; by_cases h : n = 0 <;> simp [h]
theorem wordV_err (c g : Int) : (wordV c g).2 = 0 ∨ (wordV c g).2 = 2 := by
  unfold wordV; split <;> simp
/-- 'coded' of an error and its own number. -/
theorem coded_own {w : World} {a : Nat → Addr} (E : ErrsAt w a) (e : Int) (h0 : 0 ≤ e) (h9 : e ≤ 9) : Calls Tryd.prog 38 #[errOf a e, .int .i64 e] w fun r w' => r = .returned (.bool true) ∧ Mod noF w w' := by
  by_cases h : e = 0
  · subst h
    exact (coded_nil 0 w).mono fun _ _ h => ⟨by rw [h.1]; rfl, by rw [h.2]; exact Mod.refl _ _⟩
  · unfold errOf
    rw [if_neg h]
    refine (coded_at E (e.toNat - 1) (by omega) e).mono fun _ _ h => ⟨by rw [h.1]; congr 2; simp; omega, h.2⟩
/-- The law's first half: a word that goes back to its ref. -/
theorem refV_back {c g : Int} (h : (wordV c g).2 = 0) : refV (wordV c g).1 = (c, g, 0) := by
  unfold wordV at h ⊢
  split at h
  · rename_i hh
    rw [if_pos hh]
    obtain ⟨h1, h2, h3, h4, h5⟩ := hh
    have hne : g * 64 + c + 1 ≠ 0 := by omega
    simp only [refV, refOf, if_neg hne]
    rw [if_pos h5]
    show ((g * 64 + c + 1 - 1) % 64, (g * 64 + c + 1 - 1) / 64, (0 : Int)) = (c, g, 0)
    rw [show (g * 64 + c + 1 - 1) % 64 = c by omega, show (g * 64 + c + 1 - 1) / 64 = g by omega]
  · cases h
end Go.Proofs.YtamfbfajlfbooaaDoor
end
