/- The last instruction of a piece of code, and its label. -/
import Derived.Test.YtamfbfajlfbooaaDoorGEmitLaw
set_option linter.unusedVariables false
set_option linter.unusedSimpArgs false
set_option linter.unusedSectionVars false
namespace Qh
open Go Go.RowKit Qs
variable {T : TypeId} {w w1 w' : World} {v v1 : Value} {l : List Instr} {b o : Nat}
theorem Emit.quiet (E : Emit T w b o v l) (h : Mod noF w w') : Emit T w' b o v l :=
  ⟨h.cell E.cell (fun e => e), (World.frozen?_of_block (h.block b E.lt (fun e => e))).trans E.free, E.row.keep h (fun _ _ e => e), E.ne, Nat.lt_of_lt_of_le E.lt h.size⟩
theorem Grew.quiet (G : Grew w w1 b o v v1) (hb : b < w1.heap.size) (h : Mod noF w1 w') : Grew w w' b o v v1 :=
  ⟨G.mod.trans0 h, fun j u hj hu => h.cell (G.cells j u hj hu) (fun e => e), fun j hj => (World.frozen?_of_block (h.block b hb (fun e => e))).trans (G.free j hj), G.new⟩
theorem both_drew (hb : b < w.heap.size) (h : Emit T w1 b o v1 l ∧ Grew w w1 b o v v1) : Emit T w1.drew b o v1 l ∧ Grew w w1.drew b o v v1 :=
  ⟨h.1.quiet (Mod.refl _ _).drew, h.2.quiet h.1.lt (Mod.refl _ _).drew⟩
theorem InsRow.last {x : Instr} (h : InsRow T w v (l ++ [x])) : ∃ g c, v = .slice (some ⟨g, 0, none⟩) (l.length + 1) c ∧ g < w.heap.size ∧ (∀ j y, (instrVals x)[j]? = some y → w.cell? ⟨g, l.length * 5 + j, none⟩ = some y) ∧ ∀ j, w.frozen? ⟨g, j, none⟩ = false := by
  have hc := h.code.at_
  rcases h.2 with ⟨rfl, h0⟩ | ⟨g, cap, cur, rfl, _, hg, h1, h2, h3, h4⟩
  · simp at h0
  · refine ⟨g, cap, by simp, lt_of_block hg, fun j y hy => ?_, fun j => free_of_heap hg j⟩
    obtain ⟨a, c, e, _, hx⟩ := hc
    obtain ⟨b, off, e2, _, hcell⟩ := hx l.length x (by simp)
    cases e
    cases e2
    have := hcell j y hy
    rwa [Nat.zero_add] at this
theorem InsRow.setTo {n : Nat} {A B C : Int} {t0 : List UInt8} {g c : Nat} (to : List UInt8) (h : InsRow T w (.slice (some ⟨g, 0, none⟩) (l.length + 1) c) (l ++ [⟨n, A, B, C, t0⟩])) :
    InsRow T (w.setCell ⟨g, l.length * 5 + 4, none⟩ (sv to)) (.slice (some ⟨g, 0, none⟩) (l.length + 1) c) (l ++ [⟨n, A, B, C, to⟩]) := by
  have hlen : (l ++ [(⟨n, A, B, C, t0⟩ : Instr)]).length = (l ++ [(⟨n, A, B, C, to⟩ : Instr)]).length := by simp
  refine ⟨by rw [insV_len], ?_⟩
  rcases h.2 with ⟨e, _⟩ | ⟨g', cap, cur, e, h0, hg, h1, h2, h3, h4⟩
  · cases e
  · simp only [Value.slice.injEq, Option.some.injEq, Addr.mk.injEq] at e
    obtain ⟨⟨rfl, _⟩, _, rfl⟩ := e
    right
    refine ⟨g, c, cur.setIfInBounds (l.length * 5 + 4) (sv to), by simp, h0, Qh.heap_setCell_same hg _ _, by rw [← hlen]; exact h1, h2, by simpa using h3, ?_⟩
    rw [← hlen, Array.toList_setIfInBounds]
    have e5 : (l ++ [(⟨n, A, B, C, t0⟩ : Instr)]).length * 5 = l.length * 5 + 5 := by simp; omega
    rw [e5] at h4 ⊢
    rw [List.take_set, h4]
    have := flat_set insV 5 (fun _ _ => rfl) (j := 4) (by omega) (sv to) (l ++ [(⟨n, A, B, C, t0⟩ : Instr)]) 0 l.length ⟨n, A, B, C, t0⟩ ⟨n, A, B, C, to⟩ (by simp) rfl []
    rw [List.append_nil, List.append_nil] at this
    rw [this]
    congr 1
    simp
theorem Emit.setTo {n : Nat} {A B C : Int} {t0 : List UInt8} {g c : Nat} (to : List UInt8) (G : Grew w w1 b o v (.slice (some ⟨g, 0, none⟩) (l.length + 1) c)) (hb : b < w.heap.size) (E : Emit T w1 b o (.slice (some ⟨g, 0, none⟩) (l.length + 1) c) (l ++ [⟨n, A, B, C, t0⟩])) :
    Emit T (w1.setCell ⟨g, l.length * 5 + 4, none⟩ (sv to)) b o (.slice (some ⟨g, 0, none⟩) (l.length + 1) c) (l ++ [⟨n, A, B, C, to⟩]) ∧ Grew w (w1.setCell ⟨g, l.length * 5 + 4, none⟩ (sv to)) b o v (.slice (some ⟨g, 0, none⟩) (l.length + 1) c) := by
  have hgb : g ≠ b := E.ne g rfl
  have hM : Mod (fun k => k = g) w1 (w1.setCell ⟨g, l.length * 5 + 4, none⟩ (sv to)) := (Mod.refl (fun k => k = g) w1).setCell (fun _ => rfl) _
  refine ⟨⟨hM.cell E.cell (fun e => hgb e.symm), by rw [World.frozen?_setCell]; exact E.free, E.row.setTo to, E.ne, Nat.lt_of_lt_of_le E.lt hM.size⟩, ⟨?_, ?_, ?_, G.new⟩⟩
  · refine G.mod.trans hM fun k hk e => ?_
    subst e
    rcases G.new k rfl with h | h
    · exact .inr h
    · omega
  · intro j u hj hu
    exact hM.cell (G.cells j u hj hu) (fun e => hgb e.symm)
  · intro j hj
    rw [World.frozen?_setCell]; exact G.free j hj
end Qh
