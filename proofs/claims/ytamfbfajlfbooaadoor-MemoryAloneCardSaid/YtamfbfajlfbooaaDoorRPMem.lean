/- A memory of the program's: its arena, and of each thread what waits. -/
import Derived.Test.YtamfbfajlfbooaaDoorRArenaOps
import Derived.Test.YtamfbfajlfbooaaDoorROffRow
set_option linter.unusedVariables false
set_option linter.unusedSimpArgs false
set_option linter.unusedSectionVars false
namespace Go.Proofs.YtamfbfajlfbooaaDoor
open Go.RowKit Qs Qh
/-- Its blocks: the struct, the arena's struct, the arena's cells, the rows. -/
structure PB where
  bM : Nat
  bA : Nat
  gA : Nat
  bW : Nat
def PFoot (B : PB) (vs : List Value) (x : Nat) : Prop := x = B.bM ∨ x = B.bA ∨ x = B.gA ∨ x = B.bW ∨ ∃ v ∈ vs, v.ownBlock = some x
abbrev waitRow (w : World) (v : Value) (q : List Wt) : Prop := offRow w 145 4 v q.length (flat wtVals 0 q)
structure PMV (w : World) (B : PB) (l : List Cell) (ws : List (List Wt)) (vs : List Value) : Prop where
  top : w.heap[B.bM]? = some (.cells #[.pointer (some ⟨B.bA, 0, none⟩), .slice (some ⟨B.bW, 0, none⟩) ws.length ws.length] 142 (0, 0))
  arena : AAt w B.bA B.gA l
  rows : w.heap[B.bW]? = some (.cells vs.toArray 143 (0, 0))
  len : vs.length = ws.length
  row : ∀ (t : Nat) v q, vs[t]? = some v → ws[t]? = some q → waitRow w v q
  n1 : B.bM ≠ B.bA ∧ B.bM ≠ B.gA ∧ B.bM ≠ B.bW ∧ B.bA ≠ B.bW ∧ B.gA ≠ B.bW
  own : ∀ v ∈ vs, ∀ g, v.ownBlock = some g → g ≠ B.bM ∧ g ≠ B.bA ∧ g ≠ B.gA ∧ g ≠ B.bW
  sep : ∀ (i j : Nat) v u g, vs[i]? = some v → vs[j]? = some u → v.ownBlock = some g → u.ownBlock = some g → i = j
variable {w w1 w2 w' : World} {B : PB} {l l' : List Cell} {ws ws' : List (List Wt)} {vs vs' : List Value}
theorem PMV.keep {F : Nat → Prop} (h : PMV w B l ws vs) (hM : Mod F w w') (hF : ∀ x, PFoot B vs x → ¬ F x) : PMV w' B l ws vs :=
  ⟨hM.heap h.top (hF _ (.inl rfl)), h.arena.keep hM (hF _ (.inr (.inl rfl))) (hF _ (.inr (.inr (.inl rfl)))), hM.heap h.rows (hF _ (.inr (.inr (.inr (.inl rfl))))), h.len,
   fun t v q hv hq => (h.row t v q hv hq).keep hM fun g hg => hF g (.inr (.inr (.inr (.inr ⟨v, List.mem_of_getElem? hv, hg⟩)))), h.n1, h.own, h.sep⟩
theorem PMV.keep0 (h : PMV w B l ws vs) (hM : Mod noF w w') : PMV w' B l ws vs := h.keep hM fun _ _ e => e
theorem PMV.lt (h : PMV w B l ws vs) {x : Nat} (hx : PFoot B vs x) : x < w.heap.size := by
  rcases hx with rfl | rfl | rfl | rfl | ⟨v, hv, hg⟩
  · exact lt_of_block h.top
  · exact h.arena.lt.1
  · exact h.arena.lt.2
  · exact lt_of_block h.rows
  · obtain ⟨t, ht⟩ := List.mem_iff_getElem?.1 hv
    have : t < ws.length := by rw [← h.len]; exact (List.getElem?_eq_some_iff.1 ht).1
    exact (h.row t v _ ht (List.getElem?_eq_getElem this)).lt x hg
/-- What a call makes of it. -/
structure PUp (w : World) (B : PB) (vs : List Value) (w' : World) (l' : List Cell) (ws' : List (List Wt)) (vs' : List Value) : Prop where
  rep : PMV w' B l' ws' vs'
  mod : Mod (PFoot B vs) w w'
  foot : ∀ x, PFoot B vs' x → PFoot B vs x ∨ w.heap.size ≤ x
theorem PUp.quiet (h : PMV w B l ws vs) (hM : Mod noF w w') : PUp w B vs w' l ws vs := ⟨h.keep0 hM, hM.any, fun _ h => .inl h⟩
theorem PUp.trans {l1 l2 : List Cell} {ws1 ws2 : List (List Wt)} {vs1 vs2 : List Value} (h : PUp w B vs w1 l1 ws1 vs1) (k : PUp w1 B vs1 w2 l2 ws2 vs2) : PUp w B vs w2 l2 ws2 vs2 :=
  ⟨k.rep, h.mod.trans k.mod (fun x hx hf => (h.foot x hf).resolve_right (by omega)), fun x hx => (k.foot x hx).elim (fun e => h.foot x e) (fun e => .inr (Nat.le_trans h.mod.size e))⟩
theorem PUp.then0 {l1 : List Cell} {ws1 : List (List Wt)} {vs1 : List Value} (h : PUp w B vs w1 l1 ws1 vs1) (k : Mod noF w1 w2) : PUp w B vs w2 l1 ws1 vs1 := h.trans (PUp.quiet h.rep k)
/-- A block of the call's own has turned. -/
theorem PUp.aside {l1 : List Cell} {ws1 : List (List Wt)} {vs1 : List Value} {g : Nat} (h : PUp w B vs w1 l1 ws1 vs1) (hne : ¬ PFoot B vs1 g) (hg : w.heap.size ≤ g) (hM : Mod (fun x => x = g) w1 w2) : PUp w B vs w2 l1 ws1 vs1 :=
  ⟨h.rep.keep hM (fun x hx e => hne (e ▸ hx)), h.mod.trans hM (fun x hx e => by omega), h.foot⟩
/-- A block aside stays aside, and as it was. -/
theorem PUp.out {l1 : List Cell} {ws1 : List (List Wt)} {vs1 : List Value} {g : Nat} (h : PUp w B vs w1 l1 ws1 vs1) (hne : ¬ PFoot B vs g) (hg : g < w.heap.size) : ¬ PFoot B vs1 g := fun hx => (h.foot g hx).elim hne (fun e => by omega)
theorem PUp.heap {l1 : List Cell} {ws1 : List (List Wt)} {vs1 : List Value} {g : Nat} {o : Obj} (h : PUp w B vs w1 l1 ws1 vs1) (hne : ¬ PFoot B vs g) (hg : w.heap[g]? = some o) : w1.heap[g]? = some o := h.mod.heap hg hne
/-- The arena has turned. -/
theorem PMV.cells (h : PMV w B l ws vs) (hM : Mod (fun x => x = B.gA) w w') (A : AAt w' B.bA B.gA l') : PUp w B vs w' l' ws vs := by
  obtain ⟨n1, n2, n3, n4, n5⟩ := h.n1
  refine ⟨⟨hM.heap h.top n2, A, hM.heap h.rows (fun e => n5 e.symm), h.len, fun t v q hv hq => (h.row t v q hv hq).keep hM fun g hg => (h.own v (List.mem_of_getElem? hv) g hg).2.2.1, h.n1, h.own, h.sep⟩,
    hM.mono fun x _ e => .inr (.inr (.inl e)), fun _ h => .inl h⟩
/-- A row has turned. -/
theorem PMV.setRow (h : PMV w B l ws vs) {t : Nat} {v v' : Value} {q' : List Wt} (hv : vs[t]? = some v) (hM : Mod (fun x => v.ownBlock = some x) w w2) (hrow : waitRow w2 v' q')
    (hnew : ∀ g, v'.ownBlock = some g → v.ownBlock = some g ∨ w.heap.size ≤ g) : PUp w B vs (w2.setCell ⟨B.bW, t, none⟩ v') l (ws.set t q') (vs.set t v') := by
  obtain ⟨n1, n2, n3, n4, n5⟩ := h.n1
  have hvm := List.mem_of_getElem? hv
  have hown := h.own v hvm
  have htl : t < vs.length := (List.getElem?_eq_some_iff.1 hv).1
  have hM2 : Mod (fun x => x = B.bW) w2 (w2.setCell ⟨B.bW, t, none⟩ v') := (Mod.refl (fun x => x = B.bW) w2).setCell (fun _ => rfl) _
  have hlb : ∀ x, PFoot B vs x → x < w.heap.size := fun x hx => h.lt hx
  have hv'own : ∀ g, v'.ownBlock = some g → g ≠ B.bM ∧ g ≠ B.bA ∧ g ≠ B.gA ∧ g ≠ B.bW := fun g hg => by
    rcases hnew g hg with e | e
    · exact hown g e
    · have a1 := hlb _ (.inl rfl)
      have a2 := hlb _ (.inr (.inl rfl))
      have a3 := hlb _ (.inr (.inr (.inl rfl)))
      have a4 := hlb _ (.inr (.inr (.inr (.inl rfl))))
      exact ⟨by omega, by omega, by omega, by omega⟩
  have hkeep : ∀ b, (v.ownBlock = some b → False) → b ≠ B.bW → ∀ o, w.heap[b]? = some o → (w2.setCell ⟨B.bW, t, none⟩ v').heap[b]? = some o := fun b h1 h2 o ho => hM2.heap (hM.heap ho h1) h2
  refine ⟨⟨?_, ?_, ?_, by rw [List.length_set, List.length_set]; exact h.len, ?_, h.n1, ?_, ?_⟩, ?_, ?_⟩
  · rw [List.length_set]
    exact hkeep _ (fun e => (hown _ e).1 rfl) n3 _ h.top
  · exact (h.arena.keep hM (fun e => (hown _ e).2.1 rfl) (fun e => (hown _ e).2.2.1 rfl)).keep hM2 n4 n5
  · have h0 := hM.heap h.rows (fun e => (hown _ e).2.2.2 rfl)
    have := Qh.heap_setCell_same h0 t v'
    simpa using this
  · intro j u q hu hq
    rw [List.getElem?_set] at hu hq
    by_cases e : t = j
    · subst e
      rw [if_pos rfl, if_pos htl] at hu
      rw [if_pos rfl, if_pos (by rw [← h.len]; exact htl)] at hq
      cases hu; cases hq
      exact hrow.keep hM2 fun g hg => (hv'own g hg).2.2.2
    · rw [if_neg e] at hu hq
      refine ((h.row j u q hu hq).keep hM fun g hg hg' => e (h.sep t j v u g hv hu hg' hg)).keep hM2 fun g hg => (h.own u (List.mem_of_getElem? hu) g hg).2.2.2
  · intro u hu g hg
    rcases List.mem_or_eq_of_mem_set hu with h1 | rfl
    · exact h.own u h1 g hg
    · exact hv'own g hg
  · intro i j u x g hu hx hug hxg
    rw [List.getElem?_set] at hu hx
    have low : ∀ (k : Nat) y, vs[k]? = some y → y.ownBlock = some g → g < w.heap.size := fun k y hy hg => hlb g (.inr (.inr (.inr (.inr ⟨y, List.mem_of_getElem? hy, hg⟩))))
    by_cases e1 : t = i
    · subst e1
      rw [if_pos rfl, if_pos htl] at hu
      cases hu
      by_cases e2 : t = j
      · exact e2
      · rw [if_neg e2] at hx
        rcases hnew g hug with e | e
        · exact h.sep t j v x g hv hx e hxg
        · have := low j x hx hxg; omega
    · rw [if_neg e1] at hu
      by_cases e2 : t = j
      · subst e2
        rw [if_pos rfl, if_pos htl] at hx
        cases hx
        rcases hnew g hxg with e | e
        · exact h.sep i t u v g hu hv hug e
        · have := low i u hu hug; omega
      · rw [if_neg e2] at hx
        exact h.sep i j u x g hu hx hug hxg
  · exact (hM.mono fun x _ e => .inr (.inr (.inr (.inr ⟨v, hvm, e⟩)))).trans hM2 (fun x _ e => .inr (.inr (.inr (.inl e))))
  · intro x hx
    rcases hx with rfl | rfl | rfl | rfl | ⟨u, hu, hg⟩
    · exact .inl (.inl rfl)
    · exact .inl (.inr (.inl rfl))
    · exact .inl (.inr (.inr (.inl rfl)))
    · exact .inl (.inr (.inr (.inr (.inl rfl))))
    · rcases List.mem_or_eq_of_mem_set hu with h1 | rfl
      · exact .inl (.inr (.inr (.inr (.inr ⟨u, h1, hg⟩))))
      · rcases hnew x hg with e | e
        · exact .inl (.inr (.inr (.inr (.inr ⟨v, hvm, e⟩))))
        · exact .inr e
/-- Its two cells; a row's cell. -/
theorem PMV.ptr (h : PMV w B l ws vs) : w.cell? ⟨B.bM, 0, none⟩ = some (.pointer (some ⟨B.bA, 0, none⟩)) := (cell_of_heap h.top 0).trans rfl
theorem PMV.slice (h : PMV w B l ws vs) : w.cell? ⟨B.bM, 1, none⟩ = some (.slice (some ⟨B.bW, 0, none⟩) ws.length ws.length) := (cell_of_heap h.top 1).trans rfl
theorem PMV.rowAt (h : PMV w B l ws vs) {t : Nat} {q : List Wt} (hq : ws[t]? = some q) : ∃ v a c, vs[t]? = some v ∧ v = .slice a q.length c ∧ q.length ≤ c ∧ c ≤ maxLen ∧ w.cell? ⟨B.bW, t, none⟩ = some (.slice a q.length c) ∧ waitRow w (.slice a q.length c) q := by
  have htl : t < vs.length := by rw [h.len]; exact (List.getElem?_eq_some_iff.1 hq).1
  have hv := List.getElem?_eq_getElem htl
  have hr := h.row t _ q hv hq
  obtain ⟨a, c, e, h1, h2⟩ := hr.slice
  refine ⟨_, a, c, hv, e, h1, h2, ?_, e ▸ hr⟩
  rw [cell_of_heap h.rows, ← e]
  simp
end Go.Proofs.YtamfbfajlfbooaaDoor
