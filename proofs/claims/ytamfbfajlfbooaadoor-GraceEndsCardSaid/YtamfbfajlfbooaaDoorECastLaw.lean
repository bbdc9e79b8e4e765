/- Casts that come in, as plain ones. -/
import Derived.Test.YtamfbfajlfbooaaDoorEm7
import Derived.Test.YtamfbfajlfbooaaDoorEWrong
set_option linter.unusedVariables false
set_option linter.unusedSimpArgs false
set_option linter.unusedSectionVars false
namespace Go.Proofs.YtamfbfajlfbooaaDoor
open Go Go.RowKit Qs Qh
def castOf (x : RCast) : Cst := ⟨x.writes, x.times.toNat, x.reads.toNat, x.nested⟩
structure CastsFine (l : List RCast) : Prop where
  l1 : 1 ≤ l.length
  l4 : l.length ≤ 4
  x : ∀ c ∈ l, 0 ≤ c.times ∧ c.times ≤ 3 ∧ 0 ≤ c.reads ∧ c.reads ≤ 5
theorem casts_fine {f : Int} {l : List RCast} (h : wrongB f l = false) : 1 ≤ f ∧ f ≤ 4 ∧ CastsFine l := by
  unfold wrongB at h
  simp only [Bool.or_eq_false_iff, decide_eq_false_iff_not] at h
  obtain ⟨⟨⟨⟨h1, h2⟩, h3⟩, h4⟩, h5⟩ := h
  refine ⟨by omega, by omega, by omega, by omega, fun c hc => ?_⟩
  rw [List.any_eq_false] at h5
  have := h5 c hc
  unfold badC at this
  simp only [Bool.or_eq_true, decide_eq_true_eq, not_or] at this
  omega
theorem castAt_of {w : World} {v : Value} {l : List RCast} (R : RowsAt RCast.vals 4 w v l) (F : CastsFine l) : CastAt w v (l.map castOf) := by
  obtain ⟨a, c, rfl, hlc, hcm, hn, hx⟩ := R
  refine ⟨a, c, by rw [List.length_map], fun i x hi => ?_⟩
  rw [List.getElem?_map] at hi
  obtain ⟨y, hy, rfl⟩ := Option.map_eq_some_iff.1 hi
  obtain ⟨b, off, rfl, hb, hc⟩ := hx i y hy
  have hf := F.x y (List.mem_of_getElem? hy)
  have q0 := hc 0 _ rfl
  have q1 := hc 1 _ rfl
  have q2 := hc 2 _ rfl
  have q3 := hc 3 _ rfl
  simp only [Nat.add_zero] at q0
  refine ⟨b, off, rfl, hb, q0, ?_, ?_, q3⟩
  · rw [q1]
    show some (Value.int .i64 y.times) = some (.int .i64 (y.times.toNat : Int))
    rw [Int.toNat_of_nonneg hf.1]
  · rw [q2]
    show some (Value.int .i64 y.reads) = some (.int .i64 (y.reads.toNat : Int))
    rw [Int.toNat_of_nonneg hf.2.2.1]
theorem casts_small {l : List RCast} (F : CastsFine l) : ∀ x ∈ l.map castOf, x.t ≤ 3 ∧ x.r ≤ 5 := by
  intro x hx
  obtain ⟨y, hy, rfl⟩ := List.mem_map.1 hx
  have := F.x y hy
  unfold castOf
  simp only
  omega
variable {f : Nat} {l : List Cst}
def playM (f : Nat) (l : List Cst) : M := startM 30 (grInit f l.length) (grRegs l.length) (l.map (castCode f true))
theorem RowsAt.quiet {α : Type} {g : α → List Value} {n : Nat} {w w' : World} {v : Value} {l : List α} (R : RowsAt g n w v l) (h : Mod noF w w') : RowsAt g n w' v l := by
  obtain ⟨a, c, e, hlc, hcm, hn, hx⟩ := R
  refine ⟨a, c, e, hlc, hcm, hn, fun i x hi => ?_⟩
  obtain ⟨b, off, e, hb, hc⟩ := hx i x hi
  exact ⟨b, off, e, Nat.lt_of_lt_of_le hb h.size, fun j y hj => h.cell (hc j y hj) (fun e => e)⟩
end Go.Proofs.YtamfbfajlfbooaaDoor
