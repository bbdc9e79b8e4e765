/- (*quiescentref1.Memory).Alloc. -/
import Derived.Test.YtamfbfajlfbooaaDoorRm3
import Derived.Test.YtamfbfajlfbooaaDoorRm2
set_option linter.unusedVariables false
set_option linter.unusedSimpArgs false
set_option linter.unusedSectionVars false
namespace Go.Proofs.YtamfbfajlfbooaaDoor
open Go.RowKit Qs Qh
variable {K : Nat → Bool} {w : World} {L : Lay} {m : M} {N : Int}
set_option maxHeartbeats 1000000 in
theorem alloc_any (R : Rep ty K w L m) (h1 : K 1 = true) (h2 : K 2 = true) (h6 : K 6 = true) (om : OkM N m) (ol : OkL L m) (hN : N ≤ 1000000000000) :
    Calls Tryd.prog 69 #[.pointer (some ⟨L.blk 1 0, 0, none⟩)] w fun e w' =>
      (∃ i n, allocAt m.cells 0 = some (i, n) ∧ e = .returned (.tuple #[.agg #[.int .i64 i, .int .i64 n], .int .i64 0]) ∧ Rep ty K w' (L.words i (w.heap.size + 1)) { m with cells := m.cells.set i (zeroCell (n + 1)) } ∧ Mod (fun x => x = L.blk 2 0) w w' ∧ w.heap.size + 1 < w'.heap.size) ∨
      (allocAt m.cells 0 = none ∧ e = .returned (.tuple #[.agg #[.int .i64 0, .int .i64 0], .int .i64 6]) ∧ Mod noF w w') := by
  have hb := R.lt1 h1
  have hb2 := R.lt2 h2 ol
  have hne : L.blk 1 0 ≠ L.blk 2 0 := R.ne h1 h2 rfl (by rw [obj2 ty m ol.n2]; rfl) (by omega)
  have h0 := R.cells_at h1 ol
  have hcs := fun (i : Nat) (c : Cell) (hc : m.cells[i]? = some c) => R.cell_at h2 ol hc
  have hfz := fun j => R.free h2 (obj2 ty m ol.n2) j
  have hts := om.times
  have hn := om.cells
  have hsp := ol.sp2
  have hmk : ∀ w : World, (Instr.makeSlice 23 (.int .i64 4) (.int .i64 4)).run Tryd.prog w = .ok (.slice (some ⟨w.heap.size, 0, none⟩) 4 4) (w.alloc (.cells #[.int .i64 0, .int .i64 0, .int .i64 0, .int .i64 0] 3)) := fun _ => by kernel_rfl
  have Hcs := Lib.hid hcs
  have Hts := Lib.hid hts
  have HR := Lib.hid R
  have Hom := Lib.hid om
  have Hol := Lib.hid ol
  clear hcs hts R om ol
  go_enter Tryd.func69, Tryd.ntmps69
  go_wp2
  go_loop [4] (fun i => ∃ k : Nat, k ≤ m.cells.length ∧ i = .int .i64 k ∧ ∀ (j : Nat) x, j < k → m.cells[j]? = some x → x.here = true) (fun i => m.cells.length - (intOf i).toNat)
  case atStart => exact ⟨0, by omega, rfl, fun j x hj => absurd hj (by omega)⟩
  case round =>
    obtain ⟨k, hk, rfl, hall⟩ := hrel
    have Hall := Lib.hid hall
    clear hall
    by_cases hlt : k < m.cells.length
    · have hd : decide ((k : Int) < (m.cells.length : Int)) = true := by simp; omega
      obtain ⟨c, hc⟩ : ∃ c, m.cells[k]? = some c := ⟨_, List.getElem?_eq_getElem hlt⟩
      obtain ⟨e0, e1, e2⟩ := Hcs.out k c hc
      obtain ⟨t0, t1⟩ := Hts.out k c hc
      have Hc := Lib.hid hc
      clear hc
      cases hh : c.here with
      | true =>
        rw [hh] at e2
        have Hh := Lib.hid hh
        clear hh
        go_wp2
        go_round
        case rel =>
          refine ⟨k + 1, by omega, by go_num, fun j x hj hx => ?_⟩
          by_cases e : j = k
          · subst e; rw [Hc.out] at hx; cases hx; exact Hh.out
          · exact Hall.out j x (by omega) hx
        case measure => simp [intOf]; omega
      | false =>
        rw [hh] at e2
        have Hh := Lib.hid hh
        clear hh
        have f0 := hfz (k * 3)
        have f1 := hfz (k * 3 + 1)
        have f2 := hfz (k * 3 + 2)
        clear hfz
        go_wp2
        go_region
        all_goals go_wp2
        obtain ⟨hR, hM⟩ := Rep.given_w HR.out h2 h6 Hol.out Hc.out (c.times + 1) (.cells #[.int .i64 k, .int .i64 c.times] 58)
        refine bodyPost_ret (v := .tuple #[.agg #[.int .i64 k, .int .i64 c.times], .int .i64 0]) (by simp [results, Tryd.results69, go_sem]) rfl (.inl ⟨k, c.times, ?_, rfl, hR, hM, ?_⟩)
        · have := allocAt_found m.cells 0 k c Hc.out Hh.out Hall.out
          rw [Nat.zero_add] at this; exact this
        · simp
    · have hd : decide ((k : Int) < (m.cells.length : Int)) = false := by simp; omega
      go_wp2
      refine bodyPost_ret (v := .tuple #[.agg #[.int .i64 0, .int .i64 0], .int .i64 6]) (by simp [results, Tryd.results69, go_sem]) rfl (.inr ⟨?_, rfl, (Mod.refl _ _).alloc _⟩)
      refine allocAt_none _ _ fun j x hx => Hall.out j x ?_ hx
      have := (List.getElem?_eq_some_iff.1 hx).1
      omega
end Go.Proofs.YtamfbfajlfbooaaDoor
