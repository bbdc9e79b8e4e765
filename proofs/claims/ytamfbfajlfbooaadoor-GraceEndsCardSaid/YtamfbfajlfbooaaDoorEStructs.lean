/- A slice of structs that came in. -/
import Derived.Test.YtamfbfajlfbooaaDoorRows
import Derived.Test.YtamfbfajlfbooaaDoorProg
import Derived.ProofKit
import Derived.OpenShut
import Derived.Deep.Slices
import Derived.Test.YtamfbfajlfbooaaDoorEm2
set_option linter.unusedVariables false
set_option linter.unusedSimpArgs false
set_option linter.unusedSectionVars false
namespace Go.Proofs.YtamfbfajlfbooaaDoor
open Go.ChangeShapes Go.WideShapes Go.ChangeAt Go.RowKit Qh
/-- Such a slice, its elements k cells each. -/
def RowsAt {α : Type} (vals : α → List Value) (k : Nat) (w : World) (v : Value) (l : List α) : Prop :=
  ∃ a c, v = .slice a l.length c ∧ l.length ≤ c ∧ c ≤ maxLen ∧ (a = none → c = 0) ∧ ∀ i x, l[i]? = some x → ∃ b off, a = some ⟨b, off, none⟩ ∧ b < w.heap.size ∧ ∀ j y, (vals x)[j]? = some y → w.cell? ⟨b, off + i * k + j, none⟩ = some y
theorem RowsAt.frame {α : Type} {vals : α → List Value} {k : Nat} {w w' : World} {v : Value} {l : List α} {F : Nat → Prop} (h : RowsAt vals k w v l) (hM : Mod F w w') (hF : ∀ b, b < w.heap.size → ¬ F b) : RowsAt vals k w' v l := by
  obtain ⟨a, c, e, hl, hc, hn, hx⟩ := h
  refine ⟨a, c, e, hl, hc, hn, fun i x hi => ?_⟩
  obtain ⟨b, off, rfl, hlt, hj⟩ := hx i x hi
  exact ⟨b, off, rfl, Nat.lt_of_lt_of_le hlt hM.size, fun j y h => hM.cell (hj j y h) (hF b hlt)⟩
theorem RowsAt.frame0 {α : Type} {vals : α → List Value} {k : Nat} {w w' : World} {v : Value} {l : List α} (h : RowsAt vals k w v l) (hM : Mod noF w w') : RowsAt vals k w' v l := h.frame hM fun _ _ e => e
theorem rowsAt_of {H : Type} {enc : TypeId × Value → H} {P : Program} {W : World} {T I : TypeId} {a : Option Addr} {len cap : Nat} {d : DataW H} {p : List MemPlace} {α : Type} {vals : α → List Value} {k : Nat} {good : α → Prop} (hk : 0 < k) (hT : P.underlying T = some (.slice I)) (hC : P.cellsOf I = k)
    (hread : ∀ n cs y, DataW.trod enc P W 0 (fun _ => true) true n I cs = some y → ∃ x, cs = vals x ∧ good x)
    (h : DataW.Trod enc P W 0 (fun _ => true) true T (.slice a len cap) d p) : ∃ l : List α, RowsAt vals k W (.slice a len cap) l ∧ ∀ x ∈ l, good x := by
  obtain ⟨fuel, hf⟩ := h
  rcases Go.Deep.open_slice hT hf with ⟨hcs, _⟩ | ⟨A, l, c, m, n, D, Pl, hcs, _, hl, hm, hmm, _, hel⟩
  · simp [Value.cells] at hcs
    obtain ⟨rfl, rfl, rfl⟩ := hcs
    exact ⟨[], ⟨none, 0, rfl, by simp, by simp, fun _ => rfl, fun i x h => by simp at h⟩, fun x h => by simp at h⟩
  · simp [Value.cells] at hcs
    obtain ⟨rfl, rfl, rfl⟩ := hcs
    have hx : ∀ i, i < len → ∃ x, good x ∧ (vals x).length = k ∧ ∀ j, j < k → W.cell? (A.add (i * k + j)) = (vals x)[j]? := fun i hi => by
      obtain ⟨cs', hc, ht⟩ := hel i (by rw [hmm]; simp; omega)
      obtain ⟨x, rfl, hg⟩ := hread _ _ _ ht
      obtain ⟨_, hlen, hat⟩ := World.cells?_some hc
      rw [hC] at hat hlen
      exact ⟨x, hg, hlen, fun j hj => by rw [← hat j hj, Go.Deep.add_add]⟩
    refine ⟨List.ofFn fun (i : Fin len) => Classical.choose (hx i.1 i.2), ⟨some A, cap, by simp, by simpa using hl, hm, fun e => by simp at e, fun i x hi => ?_⟩, fun x hx' => ?_⟩
    · obtain ⟨h1, h2⟩ := List.getElem?_eq_some_iff.1 hi
      have hi' : i < len := by simpa using h1
      simp only [List.getElem_ofFn] at h2
      obtain ⟨_, hlen, hat⟩ := Classical.choose_spec (hx i hi')
      rw [h2] at hlen hat
      obtain ⟨_, hlen0, hat0⟩ := Classical.choose_spec (hx 0 (by omega))
      have h00 := hat0 0 hk
      rw [List.getElem?_eq_getElem (by omega)] at h00
      obtain ⟨b, off, spot⟩ := A
      have hspot : spot = none := by simpa [Addr.add] using World.cell?_spot h00
      subst hspot
      refine ⟨b, off, rfl, by simpa [Addr.add] using World.block_lt_of_cell? _ _ h00, fun j y hj => ?_⟩
      have hjk : j < k := by rw [← hlen]; exact (List.getElem?_eq_some_iff.1 hj).1
      have := hat j hjk
      rw [Go.WideShapes.add_plain] at this
      rw [Nat.add_assoc, this, hj]
    · obtain ⟨i, rfl⟩ := (List.mem_ofFn).1 hx'
      exact (Classical.choose_spec (hx i.1 i.2)).1
theorem len5 {l : List Value} (h : l.length = 5) : ∃ c0 c1 c2 c3 c4 : Value, l = [c0, c1, c2, c3, c4] := by
  match l, h with
  | [c0, c1, c2, c3, c4], _ => exact ⟨c0, c1, c2, c3, c4, rfl⟩
structure RIns where
  op : ByteArray
  A : Int
  B : Int
  C : Int
  to : ByteArray
def RIns.vals (x : RIns) : List Value := [.string x.op, .int .i64 x.A, .int .i64 x.B, .int .i64 x.C, .string x.to]
structure RIns.Ok (x : RIns) : Prop where
  op : x.op.size ≤ maxLen
  A : (Lit.int .i64 x.A).wf = true
  B : (Lit.int .i64 x.B).wf = true
  C : (Lit.int .i64 x.C).wf = true
  to : x.to.size ≤ maxLen
structure CAct where
  kind : ByteArray
  cell : Int
  gen : Int
  W : Int
  V : Int
def CAct.vals (x : CAct) : List Value := [.string x.kind, .int .i64 x.cell, .int .i64 x.gen, .int .i64 x.W, .int .i64 x.V]
structure CAct.Ok (x : CAct) : Prop where
  kind : x.kind.size ≤ maxLen
  cell : (Lit.int .i64 x.cell).wf = true
  gen : (Lit.int .i64 x.gen).wf = true
  W : (Lit.int .i64 x.W).wf = true
  V : (Lit.int .i64 x.V).wf = true
structure MAct where
  kind : ByteArray
  T : Int
  cell : Int
  gen : Int
  W : Int
  V : Int
  Old : Int
def MAct.vals (x : MAct) : List Value := [.string x.kind, .int .i64 x.T, .int .i64 x.cell, .int .i64 x.gen, .int .i64 x.W, .int .i64 x.V, .int .i64 x.Old]
structure MAct.Ok (x : MAct) : Prop where
  kind : x.kind.size ≤ maxLen
  T : (Lit.int .i64 x.T).wf = true
  cell : (Lit.int .i64 x.cell).wf = true
  gen : (Lit.int .i64 x.gen).wf = true
  W : (Lit.int .i64 x.W).wf = true
  V : (Lit.int .i64 x.V).wf = true
  Old : (Lit.int .i64 x.Old).wf = true
end Go.Proofs.YtamfbfajlfbooaaDoor
