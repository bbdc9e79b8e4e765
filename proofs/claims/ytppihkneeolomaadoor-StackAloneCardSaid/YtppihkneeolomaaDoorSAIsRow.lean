/- A slice of integers that came in. -/
import Derived.Test.YtppihkneeolomaaDoorRows
import Derived.ProofKit
import Derived.OpenShut
import Derived.Test.YtppihkneeolomaaDoorSAm2
set_option linter.unusedVariables false
set_option linter.unusedSimpArgs false
set_option linter.unusedSectionVars false
namespace Go.Proofs.YtppihkneeolomaaDoor
open Go.ChangeShapes Go.WideShapes Go.ChangeAt Go.RowKit Qh
/-- It is nil; or it leads to a row of 'cap' cells, the numbers 'zs'. -/
def IsRow (k : IntKind) (w : World) (a : Option Addr) (len cap : Nat) (zs : List Int) : Prop :=
  (a = none ∧ len = 0 ∧ cap = 0 ∧ zs = []) ∨
  ∃ x, a = some x ∧ len ≤ cap ∧ cap ≤ maxLen ∧ zs.length = cap ∧ (∀ i, i < zs.length → w.cell? (x.add i) = some (.int k (zs.getD i 0))) ∧ ∀ n ∈ zs, (Lit.int k n).wf = true
theorem IsRow.ints {w : World} {a : Option Addr} {len cap : Nat} {zs : List Int} (h : IsRow .i64 w a len cap zs) :
    ∃ l, IntsAt w (.slice a len cap) l ∧ (∀ x ∈ l, -9223372036854775808 ≤ x ∧ x ≤ 9223372036854775807) ∧ (l ≠ [] → ∀ b, (Value.slice a len cap).ownBlock = some b → b < w.heap.size) := by
  rcases h with ⟨rfl, rfl, rfl, rfl⟩ | ⟨x, rfl, hl, hm, hz, hcell, hwf⟩
  · exact ⟨[], ⟨none, 0, rfl, by simp, fun i x h => by simp at h⟩, fun x h => by simp at h, fun h => absurd rfl h⟩
  · have hlen : (zs.take len).length = len := by simp; omega
    have hpos : ∀ i, i < (zs.take len).length → ∃ b off, x = ⟨b, off, none⟩ ∧ w.cell? ⟨b, off + i, none⟩ = some (.int .i64 (zs.getD i 0)) := fun i hi => by
      obtain ⟨b, off, e, hj⟩ := ints_at hcell (by omega)
      exact ⟨b, off, e, hj i (by omega)⟩
    refine ⟨zs.take len, ⟨some x, cap, by rw [hlen], by rw [hlen]; omega, fun i y hi => ?_⟩, fun y hy => ?_, fun hne b hb => ?_⟩
    · obtain ⟨h1, h2⟩ := List.getElem?_eq_some_iff.1 hi
      obtain ⟨b, off, rfl, hc⟩ := hpos i h1
      refine ⟨b, off, rfl, World.block_lt_of_cell? _ _ hc, ?_⟩
      rw [hc]
      simp at h2
      have hi2 : i < zs.length := by simp at h1; omega
      simp [List.getD, hi2, h2]
    · have := hwf y (List.mem_of_mem_take hy)
      simp only [Lit.wf, Bool.and_eq_true, decide_eq_true_eq] at this
      exact this
    · have hb' : x.block = b := by simpa [Value.ownBlock] using hb
      obtain ⟨c, off, rfl, hc⟩ := hpos 0 (List.length_pos_iff.2 hne)
      have := World.block_lt_of_cell? _ _ hc
      exact hb' ▸ this
end Go.Proofs.YtppihkneeolomaaDoor
