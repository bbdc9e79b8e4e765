/- Appends of code onto a row of one's own. -/
import Derived.Test.YtamfbfajlfbooaaDoorGChain
import Derived.OwnWalk
set_option linter.unusedVariables false
set_option linter.unusedSimpArgs false
set_option linter.unusedSectionVars false
namespace Go.Proofs.YtamfbfajlfbooaaDoor
open Go.RowKit Qs Qh
theorem InsRow.src {w : World} {v : Value} {l : List Instr} (h : InsRow insT w v l) (hl : 0 < l.length) : ∃ g c, v = .slice (some ⟨g, 0, none⟩) l.length c ∧ ∀ j u, (flat insV 0 l)[j]? = some u → w.cell? ((⟨g, 0, none⟩ : Addr).add j) = some u := by
  rcases h.2 with ⟨rfl, h0⟩ | ⟨g, cap, cur, rfl, _, hg, _⟩
  · omega
  · exact ⟨g, cap, rfl, World.ownsRow.cells h (g := g) rfl⟩
/-- A row of code of one's own (v: l), another one beside it (u: k), all in blocks that are newer than W. -/
structure InsRows (W w : World) (v : Value) (l : List Instr) (u : Value) (k : List Instr) : Prop where
  row : InsRow insT w v l
  other : InsRow insT w u k
  below : Below W.heap.size W w
  own : ∀ g, v.ownBlock = some g → W.heap.size ≤ g
  ne : ∀ g, v.ownBlock = some g → ¬ u.ownBlock = some g
theorem InsRows.start (W : World) : InsRows W W (.slice none 0 0) [] (.slice none 0 0) [] := ⟨InsRow.nil _ _, InsRow.nil _ _, Below.refl _ _, (fun g h => by cases h), (fun g h => by cases h)⟩
theorem InsRows.quiet {W w w' : World} {v u : Value} {l k : List Instr} (h : InsRows W w v l u k) (hq : Mod noF w w') : InsRows W w' v l u k :=
  ⟨h.row.keep hq (fun _ _ e => e), h.other.keep hq (fun _ _ e => e), h.below.trans (hq.toBelow.mono h.below.size), h.own, h.ne⟩
theorem InsRows.made {W w w' : World} {v u : Value} {l k : List Instr} (h : InsRows W w v l u k) {x : Value} {a : List Instr} (hm : Made a w x w') : InsRows W w' v l x a := by
  have hq := Mod.below hm.2.1
  refine ⟨h.row.keep hq (fun _ _ e => e), hm.1, h.below.trans (hq.toBelow.mono h.below.size), h.own, fun g hg e => ?_⟩
  have h1 := h.row.lt hg
  have h2 := hm.2.2 g e
  omega
theorem InsRows.append {W w w1 w2 : World} {v u v1 : Value} {l k x : List Instr} (h : InsRows W w v l u k) (hq : Mod noF w w1)
    (hown2 : w2.ownsRow 0 insT 5 v1 (l.length + x.length) (flat insV 0 l ++ flat insV 0 x)) (hg : w1.grownBy w2 v.ownBlock) (hfr : ∀ g, v1.ownBlock = some g → v.ownBlock = some g ∨ w1.heap.size ≤ g) : InsRows W w2 v1 (l ++ x) u k := by
  have hm := appended hg hq
  have hsz := h.below.size
  have hsz1 := hq.size
  have hrow : InsRow insT w2 v1 (l ++ x) := by unfold InsRow; rw [List.length_append, insV_append]; exact hown2
  refine ⟨hrow, h.other.keep hm fun g hg' e => h.ne g e hg', ?_, fun g hg' => ?_, fun g hg' e => ?_⟩
  · exact h.below.trans (hm.under hsz fun k hk => h.own k hk)
  · rcases hfr g hg' with e | e
    · exact h.own g e
    · omega
  · rcases hfr g hg' with e' | e'
    · exact h.ne g e' e
    · have := h.other.lt e; omega
theorem InsRows.len {W w : World} {v u : Value} {l k : List Instr} (h : InsRows W w v l u k) : ∃ a c, v = .slice a l.length c := by
  obtain ⟨a, c, e, _⟩ := h.row.slice
  exact ⟨a, c, e⟩
end Go.Proofs.YtamfbfajlfbooaaDoor
