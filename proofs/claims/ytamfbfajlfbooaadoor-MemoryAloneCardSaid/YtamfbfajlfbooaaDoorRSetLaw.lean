/- A start and its codes, built in memory: the law. -/
import Derived.Test.YtamfbfajlfbooaaDoorRRowsLaw
import Derived.Test.YtamfbfajlfbooaaDoorRPutLaw
set_option linter.unusedVariables false
set_option linter.unusedSimpArgs false
set_option linter.unusedSectionVars false
namespace Go.Proofs.YtamfbfajlfbooaaDoor
open Go.RowKit Qs Qh
def RowsIn (P : Nat → Prop) (w : World) (v : Value) (ll : List (List Int)) : Prop :=
  ∃ a c, v = .slice a ll.length c ∧ (∀ g, v.ownBlock = some g → P g) ∧ ∀ (i : Nat) l, ll[i]? = some l → ∃ b off u, a = some ⟨b, off, none⟩ ∧ b < w.heap.size ∧ w.cell? ⟨b, off + i, none⟩ = some u ∧ IntsAt w u l ∧ ∀ g, u.ownBlock = some g → P g ∧ g < w.heap.size
theorem RowsIn.at {P : Nat → Prop} {w : World} {v : Value} {ll : List (List Int)} (h : RowsIn P w v ll) : RowsAt w v ll := by
  obtain ⟨a, c, e, _, hx⟩ := h
  refine ⟨a, c, e, fun i l hi => ?_⟩
  obtain ⟨b, off, u, e1, hb, hc, hi2, ho⟩ := hx i l hi
  exact ⟨b, off, u, e1, hb, hc, hi2, fun g hg => (ho g hg).2⟩
theorem RowsIn.keep {P Q F : Nat → Prop} {w w' : World} {v : Value} {ll : List (List Int)} (h : RowsIn P w v ll) (hM : Mod F w w') (hF : ∀ g, P g → ¬ F g) (hQ : ∀ g, P g → Q g) : RowsIn Q w' v ll := by
  obtain ⟨a, c, rfl, hP, hx⟩ := h
  refine ⟨a, c, rfl, fun g hg => hQ g (hP g hg), fun i l hi => ?_⟩
  obtain ⟨b, off, u, rfl, hb, hc, hi2, ho⟩ := hx i l hi
  exact ⟨b, off, u, rfl, Nat.lt_of_lt_of_le hb hM.size, hM.cell hc (hF b (hP b rfl)), hi2.frame hM (fun g hg => hF g (ho g hg).1), fun g hg => ⟨hQ g (ho g hg).1, Nat.lt_of_lt_of_le (ho g hg).2 hM.size⟩⟩
/-- A block that no append and no store of the building turns. -/
def Out (B : Nat) (v u : Value) (g : Nat) : Prop := g ≠ B ∧ ¬ v.ownBlock = some g ∧ ¬ u.ownBlock = some g
structure SetRel (W : World) (B n : Nat) (iw : Value) (init : List (List Int)) (v u : Value) (codes : List (List Instr)) (regs : List (List Int)) (cv rv : Nat → Value) (wr : World) : Prop where
  box : wr.heap[B]? = some (.cells #[.int .i64 n, iw, u] 26 (0, 0))
  vrow : wr.ownsRow 0 28 1 v codes.length ((List.range codes.length).map cv)
  urow : wr.ownsRow 0 23 1 u regs.length ((List.range regs.length).map rv)
  code : ∀ (i : Nat) c, codes[i]? = some c → CodeAt wr (cv i) c ∧ ∀ g, (cv i).ownBlock = some g → Out B v u g ∧ g < wr.heap.size
  reg : ∀ (i : Nat) l, regs[i]? = some l → IntsAt wr (rv i) l ∧ ∀ g, (rv i).ownBlock = some g → Out B v u g ∧ g < wr.heap.size
  ini : RowsIn (fun g => Out B v u g ∧ g < wr.heap.size) wr iw init
  vB : ¬ v.ownBlock = some B
  uB : ¬ u.ownBlock = some B
  vu : ∀ g, v.ownBlock = some g → ¬ u.ownBlock = some g
  below : Below W.heap.size W wr
  hB : W.heap.size ≤ B
  hv : ∀ g, v.ownBlock = some g → W.heap.size ≤ g
  hu : ∀ g, u.ownBlock = some g → W.heap.size ≤ g
variable {W wr w1 w2 w3 : World} {B n : Nat} {iw : Value} {init regs : List (List Int)} {v u v1 u1 x : Value} {codes : List (List Instr)} {cv rv : Nat → Value}
theorem owns_mod {w w' : World} {F : Nat → Prop} {T : TypeId} {sz k : Nat} {v : Value} {xs : List Value} (h : w.ownsRow 0 T sz v k xs) (hM : Mod F w w') (hF : ∀ g, v.ownBlock = some g → ¬ F g) : w'.ownsRow 0 T sz v k xs := by
  refine ⟨h.1, ?_⟩
  rcases h.2 with e | ⟨g, cap, cur, rfl, h0, hg, r⟩
  · exact .inl e
  · exact .inr ⟨g, cap, cur, rfl, h0, hM.heap hg (hF g rfl), r⟩
theorem SetRel.quiet (h : SetRel W B n iw init v u codes regs cv rv wr) (hq : Mod noF wr w1) : SetRel W B n iw init v u codes regs cv rv w1 := by
  have hs := hq.size
  refine ⟨hq.heap h.box (fun e => e), owns_mod h.vrow hq (fun _ _ e => e), owns_mod h.urow hq (fun _ _ e => e), fun i c hi => ?_, fun i l hi => ?_, h.ini.keep hq (fun _ _ e => e) (fun g hg => ⟨hg.1, by omega⟩), h.vB, h.uB, h.vu, h.below.trans (hq.toBelow.mono h.below.size), h.hB, h.hv, h.hu⟩
  · obtain ⟨a, b⟩ := h.code i c hi
    exact ⟨a.frame hq (fun _ _ e => e), fun g hg => ⟨(b g hg).1, by have := (b g hg).2; omega⟩⟩
  · obtain ⟨a, b⟩ := h.reg i l hi
    exact ⟨a.frame0 hq, fun g hg => ⟨(b g hg).1, by have := (b g hg).2; omega⟩⟩
theorem range_map_snoc (f : Nat → Value) (x : Value) (k : Nat) : (List.range (k + 1)).map (fun i => if i = k then x else f i) = (List.range k).map f ++ [x] := by
  rw [List.range_succ, List.map_append]
  congr 1
  · apply List.map_congr_left
    intro i hi
    have := List.mem_range.1 hi
    rw [if_neg (by omega)]
  · simp
theorem SetRel.addCode (h : SetRel W B n iw init v u codes regs cv rv wr) {c : List Instr} (hc : CodeAt w1 x c) (hx : ∀ g, x.ownBlock = some g → Out B v u g ∧ g < w1.heap.size) (hq : Mod noF wr w1)
    (hown : w2.ownsRow 0 28 1 v1 (codes.length + 1) ((List.range codes.length).map cv ++ [x])) (hg : w1.grownBy w2 v.ownBlock) (hfr : ∀ g, v1.ownBlock = some g → v.ownBlock = some g ∨ w1.heap.size ≤ g) :
    SetRel W B n iw init v1 u (codes ++ [c]) regs (fun i => if i = codes.length then x else cv i) rv w2 := by
  have h1 := h.quiet hq
  have hM : Mod (fun g => v.ownBlock = some g) w1 w2 := (Mod.refl (fun g => v.ownBlock = some g) w1).grown hg fun k hk _ => hk
  have hs := hM.size
  have hout : ∀ g, Out B v u g → g < w1.heap.size → Out B v1 u g := fun g ho hlt => ⟨ho.1, fun e => (hfr g e).elim ho.2.1 (fun e2 => by omega), ho.2.2⟩
  have hbu : ∀ g, u.ownBlock = some g → g < w1.heap.size := fun g hg => (World.ownsRow.lt h1.urow g hg).2
  have hbB := lt_of_block h1.box
  refine ⟨hM.heap h1.box h.vB, ?_, owns_mod h1.urow hM (fun g hg e => h.vu g e hg), fun i d hi => ?_, fun i l hi => ?_, h1.ini.keep hM (fun g hg => hg.1.2.1) (fun g hg => ⟨hout g hg.1 hg.2, by omega⟩), ?_, h.uB, ?_, h1.below.trans (hM.under h1.below.size h.hv), h.hB, ?_, h.hu⟩
  · rw [List.length_append]
    show w2.ownsRow 0 _ 1 v1 (codes.length + 1) _
    rw [show (codes.length + [c].length) = codes.length + 1 from rfl, range_map_snoc]; exact hown
  · by_cases e : i = codes.length
    · subst e
      simp at hi; subst hi
      simp only [if_true]
      exact ⟨hc.frame hM (fun g hg e => (hx g hg).1.2.1 e), fun g hg => ⟨hout g (hx g hg).1 (hx g hg).2, by have := (hx g hg).2; omega⟩⟩
    · have hlt : i < codes.length := by
        have := (List.getElem?_eq_some_iff.1 hi).1
        simp at this; omega
      rw [List.getElem?_append_left hlt] at hi
      obtain ⟨a, b⟩ := h1.code i d hi
      simp only [if_neg e]
      exact ⟨a.frame hM (fun g hg => (b g hg).1.2.1), fun g hg => ⟨hout g (b g hg).1 (b g hg).2, by have := (b g hg).2; omega⟩⟩
  · obtain ⟨a, b⟩ := h1.reg i l hi
    exact ⟨a.frame hM (fun g hg => (b g hg).1.2.1), fun g hg => ⟨hout g (b g hg).1 (b g hg).2, by have := (b g hg).2; omega⟩⟩
  · intro e
    rcases hfr _ e with e2 | e2
    · exact h.vB e2
    · omega
  · intro g hg e
    rcases hfr g hg with e2 | e2
    · exact h.vu g e2 e
    · have := hbu g e; omega
  · intro g hg
    rcases hfr g hg with e2 | e2
    · exact h.hv g e2
    · have := h1.below.size; omega
theorem SetRel.addReg (h : SetRel W B n iw init v u codes regs cv rv wr) {l : List Int} (hc : IntsAt w1 x l) (hx : ∀ g, x.ownBlock = some g → Out B v u g ∧ g < w1.heap.size) (hq : Mod noF wr w1)
    (hown : w2.ownsRow 0 23 1 u1 (regs.length + 1) ((List.range regs.length).map rv ++ [x])) (hg : w1.grownBy w2 u.ownBlock) (hfr : ∀ g, u1.ownBlock = some g → u.ownBlock = some g ∨ w1.heap.size ≤ g) :
    SetRel W B n iw init v u1 codes (regs ++ [l]) cv (fun i => if i = regs.length then x else rv i) (w2.setCell ⟨B, 2, none⟩ u1) := by
  have h1 := h.quiet hq
  have hM1 : Mod (fun g => u.ownBlock = some g) w1 w2 := (Mod.refl (fun g => u.ownBlock = some g) w1).grown hg fun k hk _ => hk
  have hM2 : Mod (fun g => g = B) w2 (w2.setCell ⟨B, 2, none⟩ u1) := (Mod.refl (fun g => g = B) w2).setCell (fun _ => rfl) u1
  have hM : Mod (fun g => u.ownBlock = some g ∨ g = B) w1 (w2.setCell ⟨B, 2, none⟩ u1) := (hM1.mono fun g _ hg => .inl hg).trans hM2 fun g _ hg => .inr hg
  have hs := hM.size
  have hout : ∀ g, Out B v u g → g < w1.heap.size → Out B v u1 g := fun g ho hlt => ⟨ho.1, ho.2.1, fun e => (hfr g e).elim ho.2.2 (fun e2 => by omega)⟩
  have hF : ∀ g, Out B v u g → ¬ (u.ownBlock = some g ∨ g = B) := fun g ho e => e.elim ho.2.2 ho.1
  have hbv : ∀ g, v.ownBlock = some g → g < w1.heap.size := fun g hg => (World.ownsRow.lt h1.vrow g hg).2
  have hbB := lt_of_block h1.box
  have huB : ¬ u1.ownBlock = some B := fun e => by
    rcases hfr _ e with e2 | e2
    · exact h.uB e2
    · omega
  refine ⟨?_, owns_mod h1.vrow hM (fun g hg e => e.elim (fun e2 => h.vu g hg e2) (fun e2 => h.vB (e2 ▸ hg))), ?_, fun i c hi => ?_, fun i m hi => ?_, h1.ini.keep hM (fun g hg => hF g hg.1) (fun g hg => ⟨hout g hg.1 hg.2, by omega⟩), h.vB, huB, ?_, h1.below.trans (hM.under h1.below.size (fun g hg => hg.elim (fun e => h.hu g e) (fun e => by have := h.hB; omega))), h.hB, h.hv, ?_⟩
  · rw [Qh.heap_setCell_same (hM1.heap h1.box h.uB)]; simp
  · rw [List.length_append]
    rw [show (regs.length + [l].length) = regs.length + 1 from rfl, range_map_snoc]
    exact owns_mod hown hM2 (fun g hg e => huB (e ▸ hg))
  · obtain ⟨a, b⟩ := h1.code i c hi
    exact ⟨a.frame hM (fun g hg => hF g (b g hg).1), fun g hg => ⟨hout g (b g hg).1 (b g hg).2, by have := (b g hg).2; omega⟩⟩
  · by_cases e : i = regs.length
    · subst e
      simp at hi; subst hi
      simp only [if_true]
      exact ⟨hc.frame hM (fun g hg => hF g (hx g hg).1), fun g hg => ⟨hout g (hx g hg).1 (hx g hg).2, by have := (hx g hg).2; omega⟩⟩
    · have hlt : i < regs.length := by
        have := (List.getElem?_eq_some_iff.1 hi).1
        simp at this; omega
      rw [List.getElem?_append_left hlt] at hi
      obtain ⟨a, b⟩ := h1.reg i m hi
      simp only [if_neg e]
      exact ⟨a.frame hM (fun g hg => hF g (b g hg).1), fun g hg => ⟨hout g (b g hg).1 (b g hg).2, by have := (b g hg).2; omega⟩⟩
  · intro g hg e
    rcases hfr g e with e2 | e2
    · exact h.vu g hg e2
    · have := hbv g hg; omega
  · intro g hg
    rcases hfr g hg with e2 | e2
    · exact h.hu g e2
    · have := h1.below.size; omega
/-- A row of one-cell values, read. -/
theorem row_cells {w : World} {T : TypeId} {v : Value} {k : Nat} {f : Nat → Value} (h : w.ownsRow 0 T 1 v k ((List.range k).map f)) : ∃ a c, v = .slice a k c ∧ ∀ i, i < k → ∃ b, a = some ⟨b, 0, none⟩ ∧ b < w.heap.size ∧ w.cell? ⟨b, 0 + i, none⟩ = some (f i) := by
  rcases h.2 with ⟨rfl, rfl⟩ | ⟨g, cap, cur, rfl, _, hg, _⟩
  · exact ⟨none, 0, rfl, fun i hi => absurd hi (by omega)⟩
  · refine ⟨_, _, rfl, fun i hi => ⟨g, rfl, lt_of_block hg, ?_⟩⟩
    have := World.ownsRow.cells h (g := g) rfl i (f i) (by simp [hi])
    have hadd : (⟨g, 0, none⟩ : Addr).add i = ⟨g, 0 + i, none⟩ := by unfold Addr.add; split <;> simp_all
    rw [hadd] at this; exact this
theorem SetRel.codesAt (h : SetRel W B n iw init v u codes regs cv rv wr) : CodesAt wr v codes cv := by
  obtain ⟨a, c, e, hx⟩ := row_cells h.vrow
  refine ⟨a, c, e, fun i d hi => ?_⟩
  obtain ⟨b, e1, hb, hc⟩ := hx i (List.getElem?_eq_some_iff.1 hi).1
  obtain ⟨h1, h2⟩ := h.code i d hi
  exact ⟨b, 0, e1, hb, hc, h1, fun g hg => (h2 g hg).2⟩
theorem SetRel.regs_ (h : SetRel W B n iw init v u codes regs cv rv wr) : RowsAt wr u regs := by
  obtain ⟨a, c, e, hx⟩ := row_cells h.urow
  refine ⟨a, c, e, fun i d hi => ?_⟩
  obtain ⟨b, e1, hb, hc⟩ := hx i (List.getElem?_eq_some_iff.1 hi).1
  obtain ⟨h1, h2⟩ := h.reg i d hi
  exact ⟨b, 0, _, e1, hb, hc, h1, fun g hg => (h2 g hg).2⟩
end Go.Proofs.YtamfbfajlfbooaaDoor
