/- Arena and reference memory, side by side. -/
import Derived.Test.YtamfbfajlfbooaaDoorRArenaOps
import Derived.Test.YtamfbfajlfbooaaDoorRPreLaw
import Derived.Test.YtamfbfajlfbooaaDoorRm3
set_option linter.unusedVariables false
set_option linter.unusedSimpArgs false
set_option linter.unusedSectionVars false
namespace Go.Proofs.YtamfbfajlfbooaaDoor
open Go.RowKit Qs Qh
/-- The arena's cells are the reference memory's; no block is shared. -/
structure ActsRel (w : World) (b g bm k : Nat) (L : Lay) (m : M) (wr : World) : Prop where
  at_ : AAt wr b g m.cells
  rep : Rep ty memK wr L m
  om : OkM 1000 m
  ol : OkL L m
  top : L.blk 1 0 = bm
  times : ∀ (i : Nat) c, m.cells[i]? = some c → c.times ≤ k
  waits : m.waits = [[]]
  foot : ∀ x, Foot ty memK L m x → w.heap.size ≤ x ∧ x ≠ b ∧ x ≠ g
  hb : w.heap.size ≤ b
  hg : w.heap.size ≤ g
  mod : Mod noF w wr
variable {w wr w1 w2 : World} {b g bm k : Nat} {L : Lay} {m : M}
theorem ActsRel.keep (h : ActsRel w b g bm k L m wr) (hM : Mod noF wr w1) : ActsRel w b g bm k L m w1 :=
  ⟨h.at_.keep0 hM, h.rep.frame0 hM, h.om, h.ol, h.top, h.times, h.waits, h.foot, h.hb, h.hg, h.mod.trans0 hM⟩
theorem ActsRel.up (h : ActsRel w b g bm k L m wr) {k' : Nat} (hk : k ≤ k') : ActsRel w b g bm k' L m wr :=
  ⟨h.at_, h.rep, h.om, h.ol, h.top, fun i c hc => Int.le_trans (h.times i c hc) (by exact_mod_cast hk), h.waits, h.foot, h.hb, h.hg, h.mod⟩
theorem ActsRel.timesOk (h : ActsRel w b g bm k L m wr) : timesOk m.cells := fun i c hc => by
  obtain ⟨h0, h1⟩ := h.om.times i c hc; omega
theorem ActsRel.wordsOk (h : ActsRel w b g bm k L m wr) : wordsOk m.cells := fun i c hc => (h.om.words i c hc).1
theorem ActsRel.footb (h : ActsRel w b g bm k L m wr) : ¬ Foot ty memK L m b := fun hf => (h.foot b hf).2.1 rfl
theorem ActsRel.footg (h : ActsRel w b g bm k L m wr) : ¬ Foot ty memK L m g := fun hf => (h.foot g hf).2.2 rfl
theorem okm_set {N : Int} {i : Nat} {c c' : Cell} (om : OkM N m) (hc : m.cells[i]? = some c) (hw : c'.words.length = 4 ∧ ∀ v ∈ c'.words, isWord v = true) (ht : 0 ≤ c'.times ∧ c'.times ≤ N) : OkM N { m with cells := m.cells.set i c' } := by
  refine ⟨by simpa using om.cells1, by simpa using om.cells, fun j x hx => ?_, fun j x hx => ?_, om.waits, om.wlen, fun t l hl x hx => by simpa using om.wval t l hl x hx, om.N0⟩
  · simp only [List.getElem?_set] at hx
    split at hx
    · split at hx
      · cases hx; exact hw
      · cases hx
    · exact om.words j x hx
  · simp only [List.getElem?_set] at hx
    split at hx
    · split at hx
      · cases hx; exact ht
      · cases hx
    · exact om.times j x hx
theorem times_set {i : Nat} {c' : Cell} {K : Int} (h : ∀ (i : Nat) c, m.cells[i]? = some c → c.times ≤ K) (h' : c'.times ≤ K) : ∀ (j : Nat) c, (m.cells.set i c')[j]? = some c → c.times ≤ K := by
  intro j x hx
  simp only [List.getElem?_set] at hx
  split at hx
  · split at hx
    · cases hx; exact h'
    · cases hx
  · exact h j x hx
/-- Behind an alloc of both. -/
theorem ActsRel.alloc (h : ActsRel w b g bm k L m wr) {i B : Nat} {c : Cell} (hk : k < 1000) (hc : m.cells[i]? = some c) (hM1 : Mod (fun x => x = g) wr w1) (A1 : AAt w1 b g (m.cells.set i (givenCell c)))
    (R2 : Rep ty memK w2 (L.words i B) { m with cells := m.cells.set i (zeroCell (c.times + 1)) }) (hM2 : Mod (fun x => x = L.blk 2 0) w1 w2) (hB : w1.heap.size ≤ B) :
    ActsRel w b g bm (k + 1) (L.words i B) { m with cells := m.cells.set i (zeroCell (c.times + 1)) } w2 := by
  have hf2 : Foot ty memK L m (L.blk 2 0) := ⟨2, 0, rfl, by rw [obj2 ty m h.ol.n2]; rfl, rfl⟩
  obtain ⟨f1, f2, f3⟩ := h.foot _ hf2
  have hs := hM1.size
  have hsw := h.mod.size
  have hlt := A1.lt
  have ht := h.times i c hc
  have ht0 := (h.om.times i c hc).1
  refine ⟨A1.keep hM2 (fun e => f2 e.symm) (fun e => f3 e.symm), R2, okm_set h.om hc ⟨rfl, fun v hv => by simp [zeroCell] at hv; subst hv; rfl⟩ ⟨by simp only [zeroCell]; omega, by simp only [zeroCell]; omega⟩, words_ok h.ol, ?_, ?_, h.waits, ?_, h.hb, h.hg,
    (h.mod.trans hM1 (fun x hx e => by have := h.hg; omega)).trans hM2 (fun x hx e => by omega)⟩
  · rw [words_blk _ _ _ _ _ (by omega)]; exact h.top
  · exact times_set (fun j x hx => by have := h.times j x hx; omega) (by simp only [zeroCell]; omega)
  · intro x hx
    rcases words_foot h.ol hx with hx | rfl
    · exact h.foot x hx
    · exact ⟨by omega, by omega, by omega⟩
/-- Behind one cell's turn in both. -/
theorem ActsRel.turned (h : ActsRel w b g bm k L m wr) {i : Nat} {c c' : Cell} (hc : m.cells[i]? = some c) (hM1 : Mod (fun x => x = g) wr w1) (A1 : AAt w1 b g (m.cells.set i c'))
    (R2 : Rep ty memK w2 L { m with cells := m.cells.set i c' }) (hM2 : Mod (Foot ty memK L m) w1 w2) (hw : c'.words.length = 4 ∧ ∀ v ∈ c'.words, isWord v = true) (ht : c'.times = c.times) :
    ActsRel w b g bm k L { m with cells := m.cells.set i c' } w2 := by
  have hs := hM1.size
  have hsw := h.mod.size
  have htc := h.times i c hc
  have htm := h.om.times i c hc
  refine ⟨A1.keep hM2 h.footb h.footg, R2, okm_set h.om hc hw ⟨by omega, by omega⟩, ok_cell (c := c) h.ol, h.top, times_set h.times (by omega), h.waits, fun x hx => h.foot x (foot_cell ty memK L m hc x hx), h.hb, h.hg,
    (h.mod.trans hM1 (fun x hx e => by have := h.hg; omega)).trans hM2 (fun x hx e => by have := (h.foot x e).1; omega)⟩
theorem ActsRel.repg (h : ActsRel w b g bm k L m wr) (hM : Mod (fun x => x = g) wr w1) : Rep ty memK w1 L m := h.rep.frame hM fun x hx e => (h.foot x hx).2.2 e
/-- The start. -/
theorem actsStart {n : Nat} (h1 : 1 ≤ n) (hn : n ≤ 64) {bc bw : Nat} (A : AAt wr b g (List.replicate n freshCell)) (hm : Mod noF w wr) (hb : w.heap.size ≤ b) (hg : w.heap.size ≤ g) (N : NewRel wr n 1 bm bc bw n w1) (h4 : wr.heap.size ≤ bm ∧ wr.heap.size ≤ bc ∧ wr.heap.size ≤ bw ∧ bm < wr.heap.size + 3 ∧ bc < wr.heap.size + 3 ∧ bw < wr.heap.size + 3 ∧ bm ≠ bc ∧ bm ≠ bw ∧ bc ≠ bw) :
    ActsRel w b g bm 0 (newL bm bc bw (wr.heap.size + 3)) (newM n 1) w1 := by
  obtain ⟨g1, g2, g3, g4, g5, g6, g7, g8, g9⟩ := h4
  have hs := hm.size
  have hlt := A.lt
  have om := newM_ok (n := n) (t := 1) h1 hn (by omega)
  have hM1 : Mod noF wr w1 := Mod.below N.below
  refine ⟨A.keep0 hM1, newM_rep N.mem N.cells N.waits N.words (by omega) (by omega) (by omega) g7 g8 g9, ⟨om.cells1, om.cells, om.words, fun i c hc => ⟨(om.times i c hc).1, by have := (om.times i c hc).2; omega⟩, om.waits, om.wlen, fun t l hl x hx => by
      have := om.wval t l hl x hx; exact ⟨this.1, this.2.1, this.2.2.1, this.2.2.2.1, this.2.2.2.2.1, this.2.2.2.2.2.1, by have := this.2.2.2.2.2.2; omega⟩, by omega⟩, newL_ok hn (by omega), rfl, fun i c hc => (om.times i c hc).2, rfl, ?_, hb, hg, hm.trans0 hM1⟩
  intro x hx
  obtain ⟨a, i, hK, _, rfl⟩ := hx
  simp only [memK, Bool.or_eq_true, beq_iff_eq] at hK
  rcases hK with (((rfl | rfl) | rfl) | rfl) | rfl <;> simp only [newL] <;> omega
end Go.Proofs.YtamfbfajlfbooaaDoor
