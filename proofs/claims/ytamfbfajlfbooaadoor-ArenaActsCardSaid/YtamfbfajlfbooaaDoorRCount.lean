/- (*quiescentref1.Memory).Count. -/
import Derived.Test.YtamfbfajlfbooaaDoorRArenaNew
import Derived.Test.YtamfbfajlfbooaaDoorRm3
set_option linter.unusedVariables false
set_option linter.unusedSimpArgs false
set_option linter.unusedSectionVars false
namespace Go.Proofs.YtamfbfajlfbooaaDoor
open Go.RowKit Qs Qh
variable {K : Nat → Bool} {w : World} {L : Lay} {m : M} {N : Int}
theorem count_any (R : Rep ty K w L m) (h1 : K 1 = true) (h2 : K 2 = true) (om : OkM N m) (ol : OkL L m) :
    Calls Tryd.prog 43 #[.pointer (some ⟨L.blk 1 0, 0, none⟩)] w fun e w' => e = .returned (.int .i64 (countL m.cells)) ∧ Mod noF w w' := by
  have h0 := R.cells_at h1 ol
  have hb := R.lt1 h1
  have hb2 := R.lt2 h2 ol
  have hn := om.cells
  have hcs := fun (i : Nat) (c : Cell) (hc : m.cells[i]? = some c) => R.cell_at h2 ol hc
  have Hcs := Lib.hid hcs
  clear R hcs
  go_enter Tryd.func43, Tryd.ntmps43
  go_wp2
  go_loop [3, 4] (fun v i => ∃ k : Nat, k ≤ m.cells.length ∧ i = .int .i64 k ∧ v = .int .i64 (countL (m.cells.take k))) (fun _ i => m.cells.length - (intOf i).toNat)
  case atStart => exact ⟨0, by omega, rfl, rfl⟩
  case round =>
    obtain ⟨k, hk, rfl, rfl⟩ := hrel
    have hb := countL_le (m.cells.take k)
    have hbl : (m.cells.take k).length ≤ k := List.length_take_le _ _
    by_cases hlt : k < m.cells.length
    · have hd : decide ((k : Int) < (m.cells.length : Int)) = true := by simp; omega
      have hki : (k : Int) < (m.cells.length : Int) := by omega
      obtain ⟨c, hc⟩ : ∃ c, m.cells[k]? = some c := ⟨_, List.getElem?_eq_getElem hlt⟩
      obtain ⟨c0, c1, c2⟩ := Hcs.out k c hc
      have htk : m.cells.take (k + 1) = m.cells.take k ++ [c] := by rw [List.take_succ_eq_append_getElem hlt]; rw [List.getElem?_eq_getElem hlt] at hc; cases hc; rfl
      have hcs := countL_snoc (m.cells.take k) c
      rw [← htk] at hcs
      have Hcs := Lib.hid hcs
      clear hc htk hcs
      cases hh : c.here with
      | true =>
        rw [hh] at c2
        rw [hh] at Hcs
        clear hh
        go_wp2
        go_round
        case rel => exact ⟨k + 1, by omega, by go_num, by rw [Hcs.out]; simp⟩
        case measure => simp [intOf]; omega
      | false =>
        rw [hh] at c2
        rw [hh] at Hcs
        clear hh
        go_wp2
        go_round
        case rel => exact ⟨k + 1, by omega, by go_num, by rw [Hcs.out]; simp⟩
        case measure => simp [intOf]; omega
    · have hd : decide ((k : Int) < (m.cells.length : Int)) = false := by simp; omega
      obtain rfl : k = m.cells.length := by omega
      have htk : m.cells.take m.cells.length = m.cells := List.take_length
      rw [htk]
      clear htk
      go_wp2
      go_ret
      exact ⟨rfl, Mod.refl _ _⟩
end Go.Proofs.YtamfbfajlfbooaaDoor
