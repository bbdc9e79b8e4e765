/- What a row's cell 'laid' of four sentinels gives a walk. -/
import Derived.Test.YtamfbfajlfbooaaDoorRErrsLaw
import Derived.Test.YtamfbfajlfbooaaDoorRm4
set_option linter.unusedVariables false
set_option linter.unusedSimpArgs false
set_option linter.unusedSectionVars false
namespace Go.Proofs.YtamfbfajlfbooaaDoor
open Go.RowKit Qh
noncomputable def laid4 : List (String × DataW Unit) := Rows.memoryAloneRow.laid
noncomputable def laidL4 : List (String × List UInt8 × Nat) := laid4.map fun x => (x.1, textOf x.2, (Tryd.prog.globalNamed x.1).getD 0)
theorem laidL4_map : (laidL4.map fun x => (x.1, (.iface errName (.ptr (.agg [.lit (.string x.2.1)])) : DataW Unit))) = laid4 := by kernel_rfl
theorem laid4_none : (laid4.filter fun x => x.2.handleName?.isSome) = [] := by kernel_rfl
theorem laidL4_ok : (laidL4.all fun x => decide (Tryd.prog.globalNamed x.1 = some x.2.2) && decide ((Tryd.prog.globals[x.2.2]?).map (·.type) = some 54)) = true := by kernel_rfl
theorem laidL4_nums : laidL4.map (·.2.2) = [1, 4, 5, 6] := by kernel_rfl
theorem errs4_of_laid {W : World} (h : laidMetH Tryd.prog laid4 W) : ∃ a, Errs4 W a := by
  unfold laidMetH at h
  rw [laid4_none] at h
  obtain ⟨ps, hL, hnd, hrows⟩ := h
  rw [← laidL4_map] at hL
  have hok : ∀ x ∈ laidL4, Tryd.prog.globalNamed x.1 = some x.2.2 ∧ (Tryd.prog.globals[x.2.2]?).map (·.type) = some 54 := fun x hx => by
    have := List.all_eq_true.1 laidL4_ok x hx
    simpa using this
  obtain ⟨bs, hl, hall, hlen⟩ := laidVars_sentinels Tryd.underlying54 errRow Tryd.underlying152 Tryd.underlying154 rfl rfl Tryd.underlying9 (by kernel_rfl) (by kernel_rfl) laidL4 hok ps hL hrows
  have hl4 : laidL4.length = 4 := by have := congrArg List.length laidL4_nums; simpa using this
  have hnum : ∀ j i : Nat, [1, 4, 5, 6][j]? = some i → ∃ x, laidL4[j]? = some x ∧ x.2.2 = i := fun j i hj => by
    have h1 : (laidL4.map (·.2.2))[j]? = some i := by rw [laidL4_nums]; exact hj
    rw [List.getElem?_map] at h1
    obtain ⟨x, hx, e⟩ := Option.map_eq_some_iff.1 h1
    exact ⟨x, hx, e⟩
  have at_ : ∀ j i : Nat, [1, 4, 5, 6][j]? = some i → W.cell? ⟨i, 0, none⟩ = some (.iface 152 (.pointer (some (bs.getD j default)))) := fun j i hj => by
    have hj4 : j < 4 := (List.getElem?_eq_some_iff.1 hj).1
    obtain ⟨x, hx, e⟩ := hnum j i hj
    have hb : bs[j]? = some (bs.getD j default) := by
      have : j < bs.length := by omega
      simp [List.getD, this]
    obtain ⟨h1, -⟩ := hall j x _ hx hb
    have hg := (hok x (List.mem_of_getElem? hx)).1
    rw [e] at hg
    simpa using World.var?_cell hg h1 0
  refine ⟨fun i => if i = 1 then bs.getD 0 default else if i = 4 then bs.getD 1 default else if i = 5 then bs.getD 2 default else bs.getD 3 default, ⟨fun i hi => ?_⟩⟩
  rcases hi with rfl | rfl | rfl | rfl
  · exact at_ 0 1 rfl
  · exact at_ 1 4 rfl
  · exact at_ 2 5 rfl
  · exact at_ 3 6 rfl
end Go.Proofs.YtamfbfajlfbooaaDoor
